-- printed by a program of this session (a turned copy of the kit's print); Lean checks it
import Derived.Test.YteeceppbnkkfpaaPSharex0
import Derived.Test.YteeceppbnkkfpaaPSharex1
import Derived.Test.YteeceppbnkkfpaaPSharex12
import Derived.Test.YteeceppbnkkfpaaPSharex13
import Derived.Test.YteeceppbnkkfpaaPSharex15
import Derived.Test.YteeceppbnkkfpaaPSharex16
import Derived.Test.YteeceppbnkkfpaaPSharex17
import Derived.Test.YteeceppbnkkfpaaPSharex19
namespace Go.Proofs.Yteeceppbnkkfpaa.PShare
open Go.RowKit Go.Proofs.YteeceppbnkkfpaaW.PrintWords Go.Proofs.YteeceppbnkkfpaaW.PrintLast Go.Proofs.YteeceppbnkkfpaaW.PrintMore
attribute [local go_sem] max2_int min2_int max_two min_two max_three min_three max_four min_four   -- for this text's walks alone
set_option linter.unusedVariables false
set_option linter.unusedSimpArgs false

attribute [local go_sem high] eqA26
/-! ### spigotlaw36_ShareAlone: function 5 -/
def spigotlaw36_ShareAlone.l0 : Nat → List (S37) → Int → Int → Bool → List Int → List Int → Int → Option (Bool)
  | 0, _, _, _, _, _, _, _ => none
  | k + 1, x0, x1, x2, x7, x8, x10, x12 => if x12 < (x10.length : Int) then (if 0 ≤ x12 then (if (rd x10 x12) = x2 then (some x7) else (spigotlaw36_ShareAlone.l0 k x0 x1 x2 x7 x8 x10 (wrap64 (x12 + 1)))) else (none)) else (if 0 ≤ x2 then (if x2 < (x8.length : Int) then (if x2 < (x0.length : Int) then (if (rd x8 x2) = ((rd_T37 x0 x2).f0) then (if (rd x8 x2) > x1 then (some false) else ((some (([] : List (S37)) : List (S37))).bind fun y441 => (if x2 ≤ (x0.length : Int) then ((some (x0.take (x2 : Int).toNat : List (S37))).bind fun y444 => (if y441.length + y444.length < 8796093022208 then ((some (y441 ++ y444 : List (S37))).bind fun y448 => (if 0 ≤ (wrap64 (x2 + 1)) then (if (wrap64 (x2 + 1)) ≤ (x0.length : Int) then ((some (x0.drop ((wrap64 (x2 + 1)) : Int).toNat : List (S37))).bind fun y451 => (if y448.length + y451.length < 8796093022208 then ((some (y448 ++ y451 : List (S37))).bind fun y455 => ((share_Split.f k y455 (wrap64 (x1 - (rd x8 x2)))).bind fun bt459 => ((share_Level.f k x0 x1).bind fun bt463 => ((share_Level.f k y455 (wrap64 (x1 - (rd x8 x2)))).bind fun bt468 => (if x7 = true then (if bt459.2 = 0 then ((some (([] : List Int) : List Int)).bind fun y472 => (if x2 ≤ (x8.length : Int) then ((some (x8.take (x2 : Int).toNat : List Int)).bind fun y475 => (if y472.length + y475.length < 17592186044416 then ((some (y472 ++ y475 : List Int)).bind fun y479 => (if (wrap64 (x2 + 1)) ≤ (x8.length : Int) then ((some (x8.drop ((wrap64 (x2 + 1)) : Int).toNat : List Int)).bind fun y482 => (if y479.length + y482.length < 17592186044416 then ((spigotref36_Same.f k bt459.1 (y479 ++ y482)).bind fun t489 => (if t489 = true then (if bt463.2.2 = bt468.2.2 then (some (bt463.1 == bt468.1 && (bt463.2.1 == bt468.2.1))) else (some false)) else (some false))) else (none))) else (none))) else (none))) else (none))) else (some false)) else (some false)))))) else (none))) else (none)) else (none))) else (none))) else (none)))) else (some false)) else (none)) else (none)) else (none))
def spigotlaw36_ShareAlone.f (k : Nat) (l0 : List (S37)) (a1 : Int) (a2 : Int) : Option (Bool) := (spigotlaw36_alive.f k).bind fun t427 => (if t427 = true then (if (l0.length : Int) > 20 then (some t427) else ((spigotref36_Asked.f k l0 a1).bind fun t428 => (if t428 = 0 then (if a2 < 0 then (some t427) else (if a2 ≥ (l0.length : Int) then (some t427) else ((share_Split.f k l0 a1).bind fun bt429 => ((share_Short.f k l0 a1).bind fun bt433 => (if bt429.2 = 0 then (if bt433.2 = 0 then (if (bt429.1.length : Int) = (l0.length : Int) then (spigotlaw36_ShareAlone.l0 k l0 a1 a2 t427 bt429.1 bt433.1 0) else (some false)) else (some false)) else (some false)))))) else (some t427)))) else (none))
theorem spigotlaw36_ShareAlone.mono_l : ∀ k, (∀ y0 y1 y2 y3 y4 y5 y6, LeO (spigotlaw36_ShareAlone.l0 k y0 y1 y2 y3 y4 y5 y6) (spigotlaw36_ShareAlone.l0 (k + 1) y0 y1 y2 y3 y4 y5 y6))
  | 0 => fun _ _ _ _ _ _ _ r h => by simp [spigotlaw36_ShareAlone.l0] at h
  | k + 1 => by
    have ih0 := spigotlaw36_ShareAlone.mono_l k
    · intro y0 y1 y2 y3 y4 y5 y6
      unfold spigotlaw36_ShareAlone.l0
      repeat' first
      | (with_reducible exact ih0 _ _ _ _ _ _ _)
      | (with_reducible exact share_Level.mono _ _ _)
      | (with_reducible exact share_Short.mono _ _ _)
      | (with_reducible exact share_Split.mono _ _ _)
      | (with_reducible exact spigotlaw36_alive.mono _)
      | (with_reducible exact spigotref36_Asked.mono _ _ _)
      | (with_reducible exact spigotref36_Same.mono _ _ _)
      | (with_reducible exact LeO.refl _)
      | (with_reducible exact LeO.none _)
      | (with_reducible refine LeO.ite ?_ ?_)
      | (with_reducible refine LeO.bind ?_ (fun _ => ?_))
      | exact ih0 _ _ _ _ _ _ _
      | exact share_Level.mono _ _ _
      | exact share_Short.mono _ _ _
      | exact share_Split.mono _ _ _
      | exact spigotlaw36_alive.mono _
      | exact spigotref36_Asked.mono _ _ _
      | exact spigotref36_Same.mono _ _ _
      | exact LeO.none _
      | refine LeO.ite ?_ ?_
      | refine LeO.bind ?_ (fun _ => ?_)
theorem spigotlaw36_ShareAlone.mono : ∀ a0 a1 a2 k, LeO (spigotlaw36_ShareAlone.f k a0 a1 a2) (spigotlaw36_ShareAlone.f (k + 1) a0 a1 a2) := by
  intro a0 a1 a2 k
  have ih0 := spigotlaw36_ShareAlone.mono_l k
  unfold spigotlaw36_ShareAlone.f
  repeat' first
      | (with_reducible exact ih0 _ _ _ _ _ _ _)
      | (with_reducible exact share_Level.mono _ _ _)
      | (with_reducible exact share_Short.mono _ _ _)
      | (with_reducible exact share_Split.mono _ _ _)
      | (with_reducible exact spigotlaw36_alive.mono _)
      | (with_reducible exact spigotref36_Asked.mono _ _ _)
      | (with_reducible exact spigotref36_Same.mono _ _ _)
      | (with_reducible exact LeO.refl _)
      | (with_reducible exact LeO.none _)
      | (with_reducible refine LeO.ite ?_ ?_)
      | (with_reducible refine LeO.bind ?_ (fun _ => ?_))
      | exact ih0 _ _ _ _ _ _ _
      | exact share_Level.mono _ _ _
      | exact share_Short.mono _ _ _
      | exact share_Split.mono _ _ _
      | exact spigotlaw36_alive.mono _
      | exact spigotref36_Asked.mono _ _ _
      | exact spigotref36_Same.mono _ _ _
      | exact LeO.none _
      | refine LeO.ite ?_ ?_
      | refine LeO.bind ?_ (fun _ => ?_)
def spigotlaw36_ShareAlone.T13 : Bool × List (List Nat × List Nat) := (true, [([], []), ([], []), ([0, 1], [0, 1]), ([2], [2]), ([], []), ([], []), ([4, 5], [4, 5]), ([6], [6]), ([7], [7]), ([3, 8], [3, 8]), ([9], [9]), ([10], [10]), ([10], [10]), ([11, 12, 10], [10, 11, 12]), ([13, 10], [10, 13]), ([10], [10]), ([14, 15, 10], [10, 14, 15]), ([10, 16], [10, 16])])
def spigotlaw36_ShareAlone.B13 : List Nat := [0, 0, 3, 7, 0, 0, 48, 112, 240, 511, 1023, 2047, 2047, 8191, 16383, 2047, 65535, 131071]
theorem spigotlaw36_ShareAlone.tab13 : rtab .any (opsOf Try.f5 13) = spigotlaw36_ShareAlone.T13 := by kernel_rfl
theorem spigotlaw36_ShareAlone.bits13 : waitsOk spigotlaw36_ShareAlone.T13.2 spigotlaw36_ShareAlone.B13 = true := by kernel_rfl
def spigotlaw36_ShareAlone.T15 : Bool × List (List Nat × List Nat) := (true, [([], []), ([], []), ([], []), ([1, 2], [1, 2]), ([0, 3], [0, 3]), ([], []), ([], []), ([6], [6]), ([5, 7], [5, 7]), ([4, 8, 4], [4, 8]), ([9, 9, 0, 1, 2, 3, 4, 5, 6, 7, 8, 9], [9])])
def spigotlaw36_ShareAlone.B15 : List Nat := [0, 0, 0, 6, 15, 0, 0, 64, 224, 511, 1023]
theorem spigotlaw36_ShareAlone.tab15 : rtab .any (opsOf Try.f5 15) = spigotlaw36_ShareAlone.T15 := by kernel_rfl
theorem spigotlaw36_ShareAlone.bits15 : waitsOk spigotlaw36_ShareAlone.T15.2 spigotlaw36_ShareAlone.B15 = true := by kernel_rfl
def spigotlaw36_ShareAlone.T19 : Bool × List (List Nat × List Nat) := (true, [([], []), ([0], [0]), ([1], [1]), ([2, 1], [1, 2]), ([1, 3], [1, 3]), ([4, 1], [4]), ([5], [5]), ([5], [5]), ([5], [5]), ([5], [5]), ([8, 9, 5], [5, 8, 9]), ([7, 10, 5, 5], [5, 7, 10]), ([5], [5]), ([5], [5]), ([13, 5], [5, 13]), ([12, 14, 5], [5, 12, 14]), ([11, 15, 11, 5], [5, 11, 15]), ([6, 16, 16, 5], [5, 6, 16]), ([5, 17], [5, 17]), ([18, 17], [18]), ([19], [19]), ([19], [19]), ([20, 21, 19], [19, 20, 21]), ([19, 22], [19, 22]), ([23, 19], [23]), ([24], [24]), ([24], [24]), ([25, 26, 24], [24, 25, 26]), ([24, 27], [24, 27]), ([28, 24, 0, 1, 2, 3, 4, 5, 6, 7, 8, 9, 10, 11, 12, 13, 14, 15, 16, 17, 18, 19, 20, 21, 22, 23, 24, 25, 26, 27, 28], [28])])
def spigotlaw36_ShareAlone.B19 : List Nat := [0, 1, 3, 7, 15, 31, 63, 63, 63, 63, 831, 1983, 63, 63, 8255, 28735, 65471, 131071, 262143, 524287, 1048575, 1048575, 4194303, 8388607, 16777215, 33554431, 33554431, 134217727, 268435455, 536870911]
theorem spigotlaw36_ShareAlone.tab19 : rtab .any (opsOf Try.f5 19) = spigotlaw36_ShareAlone.T19 := by kernel_rfl
theorem spigotlaw36_ShareAlone.bits19 : waitsOk spigotlaw36_ShareAlone.T19.2 spigotlaw36_ShareAlone.B19 = true := by kernel_rfl
set_option maxHeartbeats 8000000 in
set_option maxRecDepth 100000 in
theorem spigotlaw36_ShareAlone.calls (k : Nat) (A0 : Option Addr) (c0 : Nat) (l0 : List (S37)) (a1 : Int) (a2 : Int) (w : World) (hr0 : Kd.C k37 w A0 l0.length l0) (hc0 : l0.length ≤ c0) (h : spigotlaw36_ShareAlone.f k l0 a1 a2 = some true) :
    Calls Try.prog 5 #[.slice A0 l0.length c0, .int .i64 a1, .int .i64 a2] w fun e w' => e = .returned (.bool true) ∧ Below w.heap.size w w' := by
  have hu26 := Try.underlying26
  have HR0 := Aside0.mk hr0
  have HC0 := Aside0.mk hc0
  clear hr0 hc0
  have HB := Aside0.mk (Below.refl w.heap.size w)
  have H : ((spigotlaw36_alive.f k).bind fun t427 => (if t427 = true then (if (l0.length : Int) > 20 then (some t427) else ((spigotref36_Asked.f k l0 a1).bind fun t428 => (if t428 = 0 then (if a2 < 0 then (some t427) else (if a2 ≥ (l0.length : Int) then (some t427) else ((share_Split.f k l0 a1).bind fun bt429 => ((share_Short.f k l0 a1).bind fun bt433 => (if bt429.2 = 0 then (if bt433.2 = 0 then (if (bt429.1.length : Int) = (l0.length : Int) then (spigotlaw36_ShareAlone.l0 k l0 a1 a2 t427 bt429.1 bt433.1 0) else (some false)) else (some false)) else (some false)))))) else (some t427)))) else (none))) = some true := h
  clear h
  replace H := Option.bind_eq_some_iff.mp H
  obtain ⟨t427, A40, H⟩ := H
  replace H : (if t427 = true then (if (l0.length : Int) > 20 then (some t427) else ((spigotref36_Asked.f k l0 a1).bind fun t428 => (if t428 = 0 then (if a2 < 0 then (some t427) else (if a2 ≥ (l0.length : Int) then (some t427) else ((share_Split.f k l0 a1).bind fun bt429 => ((share_Short.f k l0 a1).bind fun bt433 => (if bt429.2 = 0 then (if bt433.2 = 0 then (if (bt429.1.length : Int) = (l0.length : Int) then (spigotlaw36_ShareAlone.l0 k l0 a1 a2 t427 bt429.1 bt433.1 0) else (some false)) else (some false)) else (some false)))))) else (some t427)))) else (none)) = some true := H
  have A4 := Aside0.mk A40
  clear A40
  by_cases c5 : t427 = true
  · subst c5
    have H1 : (if (l0.length : Int) > 20 then (some true) else ((spigotref36_Asked.f k l0 a1).bind fun t428 => (if t428 = 0 then (if a2 < 0 then (some true) else (if a2 ≥ (l0.length : Int) then (some true) else ((share_Split.f k l0 a1).bind fun bt429 => ((share_Short.f k l0 a1).bind fun bt433 => (if bt429.2 = 0 then (if bt433.2 = 0 then (if (bt429.1.length : Int) = (l0.length : Int) then (spigotlaw36_ShareAlone.l0 k l0 a1 a2 true bt429.1 bt433.1 0) else (some false)) else (some false)) else (some false)))))) else (some true)))) = some true := by rw [if_pos rfl] at H; exact H
    clear H
    have H := H1
    clear H1
    by_cases c6 : (l0.length : Int) > 20
    · rw [if_pos c6] at H
      have c6b0 : decide (20 < (l0.length : Int)) = true := decide_eq_true c6
      have c6b1 : decide (20 < l0.length) = true := decide_eq_true (by omega)
      clear c6
      clear H
      go_enter Try.func5, Try.ntmps5
      go_wp2_with (first | ((with_reducible refine gate_callee (f := 9) rfl ?_); refine goesE (some 20) rfl rfl Try.func9 (by kernel_rfl) rfl #[] rfl ?_; (with_reducible refine (spigotlaw36_alive.calls k   _ A4.out).mono ?_); rintro e w7 ⟨rfl, hb⟩; refine ⟨_, rfl, ?_⟩; have n0_ := Aside0.mk (below_step (pB HB.out) hb); clear HB; have HB := n0_; clear n0_; (try clear hb); (try clear hb2); (try clear hk); (try clear hi)))
      go_ret
      exact ⟨by first | rfl | (simp [errW_none, errW_some] <;> rfl) | (simp [*, errW_none, errW_some] <;> rfl), pB HB.out⟩
    · rw [if_neg c6] at H
      have c6b0 : decide (20 < (l0.length : Int)) = false := decide_eq_false c6
      have c6b1 : decide (20 < l0.length) = false := decide_eq_false (by omega)
      clear c6
      replace H := Option.bind_eq_some_iff.mp H
      obtain ⟨t428, A80, H⟩ := H
      replace H : (if t428 = 0 then (if a2 < 0 then (some true) else (if a2 ≥ (l0.length : Int) then (some true) else ((share_Split.f k l0 a1).bind fun bt429 => ((share_Short.f k l0 a1).bind fun bt433 => (if bt429.2 = 0 then (if bt433.2 = 0 then (if (bt429.1.length : Int) = (l0.length : Int) then (spigotlaw36_ShareAlone.l0 k l0 a1 a2 true bt429.1 bt433.1 0) else (some false)) else (some false)) else (some false)))))) else (some true)) = some true := H
      have A8 := Aside0.mk A80
      clear A80
      by_cases c9 : t428 = 0
      · rw [if_pos c9] at H
        have c9b0 : (t428 == 0) = true := beq_iff_eq.mpr c9
        have c9b1 : (t428 != 0) = false := bne_eq_false_iff_eq.mpr c9
        clear c9
        by_cases c10 : a2 < 0
        · rw [if_pos c10] at H
          have c10b0 : decide (a2 < 0) = true := decide_eq_true c10
          clear c10
          clear H
          go_enter Try.func5, Try.ntmps5
          go_wp2_with (first | ((with_reducible refine gate_callee (f := 9) rfl ?_); refine goesE (some 20) rfl rfl Try.func9 (by kernel_rfl) rfl #[] rfl ?_; (with_reducible refine (spigotlaw36_alive.calls k   _ A4.out).mono ?_); rintro e w11 ⟨rfl, hb⟩; refine ⟨_, rfl, ?_⟩; have n0_ := Aside0.mk (below_step (pB HB.out) hb); clear HB; have HB := n0_; clear n0_; (try clear hb); (try clear hb2); (try clear hk); (try clear hi)) | (go_at_call 10; (with_reducible refine (spigotref36_Asked.calls k _ _ l0 a1 t428 _ ?side1 ?side2 A8.out).mono ?_); (case side1 => exact Kd.pC ((Kd.C_below HR0.out HB.out))); (case side2 => exact HC0.out); rintro e w' ⟨rfl, ⟨nd, rfl⟩⟩))
          go_ret
          exact ⟨by first | rfl | (simp [errW_none, errW_some] <;> rfl) | (simp [*, errW_none, errW_some] <;> rfl), pB HB.out⟩
        · rw [if_neg c10] at H
          have c10b0 : decide (a2 < 0) = false := decide_eq_false c10
          clear c10
          by_cases c12 : a2 ≥ (l0.length : Int)
          · rw [if_pos c12] at H
            have c12b0 : decide ((l0.length : Int) ≤ a2) = true := decide_eq_true c12
            clear c12
            clear H
            go_enter Try.func5, Try.ntmps5
            go_wp2_with (first | ((with_reducible refine gate_callee (f := 9) rfl ?_); refine goesE (some 20) rfl rfl Try.func9 (by kernel_rfl) rfl #[] rfl ?_; (with_reducible refine (spigotlaw36_alive.calls k   _ A4.out).mono ?_); rintro e w13 ⟨rfl, hb⟩; refine ⟨_, rfl, ?_⟩; have n0_ := Aside0.mk (below_step (pB HB.out) hb); clear HB; have HB := n0_; clear n0_; (try clear hb); (try clear hb2); (try clear hk); (try clear hi)) | (go_at_call 10; (with_reducible refine (spigotref36_Asked.calls k _ _ l0 a1 t428 _ ?side1 ?side2 A8.out).mono ?_); (case side1 => exact Kd.pC ((Kd.C_below HR0.out HB.out))); (case side2 => exact HC0.out); rintro e w' ⟨rfl, ⟨nd, rfl⟩⟩))
            go_ret
            exact ⟨by first | rfl | (simp [errW_none, errW_some] <;> rfl) | (simp [*, errW_none, errW_some] <;> rfl), pB HB.out⟩
          · rw [if_neg c12] at H
            have c12b0 : decide ((l0.length : Int) ≤ a2) = false := decide_eq_false c12
            clear c12
            replace H := Option.bind_eq_some_iff.mp H
            obtain ⟨⟨t429, t430⟩, A140, H⟩ := H
            replace H : ((share_Short.f k l0 a1).bind fun bt433 => (if t430 = 0 then (if bt433.2 = 0 then (if (t429.length : Int) = (l0.length : Int) then (spigotlaw36_ShareAlone.l0 k l0 a1 a2 true t429 bt433.1 0) else (some false)) else (some false)) else (some false))) = some true := H
            have A14 := Aside0.mk A140
            clear A140
            replace H := Option.bind_eq_some_iff.mp H
            obtain ⟨⟨t433, t434⟩, A150, H⟩ := H
            replace H : (if t430 = 0 then (if t434 = 0 then (if (t429.length : Int) = (l0.length : Int) then (spigotlaw36_ShareAlone.l0 k l0 a1 a2 true t429 t433 0) else (some false)) else (some false)) else (some false)) = some true := H
            have A15 := Aside0.mk A150
            clear A150
            by_cases c16 : t430 = 0
            · rw [if_pos c16] at H
              have c16b0 : (t430 == 0) = true := beq_iff_eq.mpr c16
              have c16b1 : (t430 != 0) = false := bne_eq_false_iff_eq.mpr c16
              clear c16
              by_cases c17 : t434 = 0
              · rw [if_pos c17] at H
                have c17b0 : (t434 == 0) = true := beq_iff_eq.mpr c17
                have c17b1 : (t434 != 0) = false := bne_eq_false_iff_eq.mpr c17
                clear c17
                by_cases c18 : (t429.length : Int) = (l0.length : Int)
                · rw [if_pos c18] at H
                  have c18b0 : ((t429.length : Int) == (l0.length : Int)) = true := beq_iff_eq.mpr c18
                  have c18b1 : ((t429.length : Int) != (l0.length : Int)) = false := bne_eq_false_iff_eq.mpr c18
                  have c18b2 : (t429.length == l0.length) = true := by first | simpa using c18 | (simp at c18 ⊢; omega)
                  clear c18
                  have H' := Aside0.mk H
                  clear H
                  go_enter Try.func5, Try.ntmps5
                  go_wp2_with (first | ((with_reducible refine gate_callee (f := 9) rfl ?_); refine goesE (some 20) rfl rfl Try.func9 (by kernel_rfl) rfl #[] rfl ?_; (with_reducible refine (spigotlaw36_alive.calls k   _ A4.out).mono ?_); rintro e w19 ⟨rfl, hb⟩; refine ⟨_, rfl, ?_⟩; have n0_ := Aside0.mk (below_step (pB HB.out) hb); clear HB; have HB := n0_; clear n0_; (try clear hb); (try clear hb2); (try clear hk); (try clear hi)) | (go_at_call 10; (with_reducible refine (spigotref36_Asked.calls k _ _ l0 a1 t428 _ ?side1 ?side2 A8.out).mono ?_); (case side1 => exact Kd.pC ((Kd.C_below HR0.out HB.out))); (case side2 => exact HC0.out); rintro e w' ⟨rfl, ⟨nd, rfl⟩⟩) | ((with_reducible refine gate_callee (f := 13) rfl ?_); refine goesE (some 48) rfl rfl Try.func13 (by kernel_rfl) rfl #[.slice A0 l0.length c0, .int .i64 a1] rfl ?_; (with_reducible refine (share_Split.calls k _ _ l0 a1 t429 t430 _ ?side1 ?side2 A14.out).mono ?_); (case side1 => exact Kd.pC ((Kd.C_below HR0.out (pB HB.out)))); (case side2 => exact HC0.out); rintro e w20 ⟨v431, rfl, ho0, hb⟩; refine ⟨_, rfl, ?_⟩; have n0_ := Aside0.mk (Kd.R_lower ho0 (below_size (pB HB.out))); have n1_ := Aside0.mk (below_step (pB HB.out) hb); clear HB; have HO432 := n0_; have HB := n1_; clear n0_ n1_; (try clear hb); (try clear hb2); (try clear hk); (try clear hi); (try clear ho0)) | ((with_reducible refine gate_callee (f := 12) rfl ?_); refine goesE (some 54) rfl rfl Try.func12 (by kernel_rfl) rfl #[.slice A0 l0.length c0, .int .i64 a1] rfl ?_; (with_reducible refine (share_Short.calls k _ _ l0 a1 t433 t434 _ ?side1 ?side2 A15.out).mono ?_); (case side1 => exact Kd.pC ((Kd.C_below HR0.out HB.out))); (case side2 => exact HC0.out); rintro e w21 ⟨v435, rfl, ho0, hb⟩; refine ⟨_, rfl, ?_⟩; have n0_ := Aside0.mk (Kd.R_below (Kd.pR HO432.out) hb); have n1_ := Aside0.mk (Kd.R_lower ho0 (below_size (pB HB.out))); have n2_ := Aside0.mk (below_step (pB HB.out) hb); clear HO432; clear HB; have HO432 := n0_; have HO436 := n1_; have HB := n2_; clear n0_ n1_ n2_; (try clear hb); (try clear hb2); (try clear hk); (try clear hi); (try clear ho0); obtain ⟨Ao22, co22, eo22⟩ := Kd.R_slice HO432.out; subst eo22))
                  go_loopg [12] k (fun kq v12 w' => ∃ (x12_1 : Int), v12 = .int .i64 x12_1 ∧ Aside0 (spigotlaw36_ShareAlone.l0 kq l0 a1 a2 true t429 t433 x12_1 = some true) ∧ Aside0 (kq ≤ k) ∧ Aside0 (Kd.R (Kd.int .i64) 2 w' w.heap.size (fun _ => True) (.slice Ao22 t429.length co22) t429) ∧ Aside0 (Kd.R (Kd.int .i64) 3 w' w.heap.size (fun _ => True) v435 t433) ∧ Aside0 (Below w.heap.size w w'))
                  case atStart => exact ⟨(0), (by first | rfl | (simp; done) | (simp [*]; done)), H', ⟨Nat.le_refl _⟩, ⟨Kd.pR HO432.out⟩, ⟨Kd.pR HO436.out⟩, ⟨pB HB.out⟩⟩
                  case round =>
                    clear H'
                    try clear c1
                    try clear p2
                    try clear c5
                    try clear c6
                    try clear c6b0
                    try clear c6b1
                    try clear c9
                    try clear c9b0
                    try clear c9b1
                    try clear c10
                    try clear c10b0
                    try clear c12
                    try clear c12b0
                    try clear c13
                    try clear c16
                    try clear c16b0
                    try clear c16b1
                    try clear c17
                    try clear c17b0
                    try clear c17b1
                    try clear c18
                    try clear c18b0
                    try clear c18b1
                    try clear c18b2
                    obtain ⟨x12_1, rfl, HA, HK1, HO_8, HO_10, HB⟩ := hrel
                    cases gk with
                    | zero => exact absurd HA.out (by simp [spigotlaw36_ShareAlone.l0])
                    | succ k1 =>
                      have H := HA.out
                      clear HA
                      simp only [spigotlaw36_ShareAlone.l0] at H
                      by_cases c23 : x12_1 < (t433.length : Int)
                      · rw [if_pos c23] at H
                        have c23b0 : decide (x12_1 < (t433.length : Int)) = true := decide_eq_true c23
                        clear c23
                        by_cases c24 : 0 ≤ x12_1
                        · rw [if_pos c24] at H
                          have c24b0 : decide (0 ≤ x12_1) = true := decide_eq_true c24
                          clear c24
                          by_cases c25 : (rd t433 x12_1) = a2
                          · rw [if_pos c25] at H
                            have c25b0 : ((rd t433 x12_1) == a2) = true := beq_iff_eq.mpr c25
                            have c25b1 : ((rd t433 x12_1) != a2) = false := bne_eq_false_iff_eq.mpr c25
                            clear c25
                            clear H
                            obtain ⟨Ao26, co26, eo26⟩ := Kd.R_slice HO_10.out
                            subst eo26
                            have p437 : 0 ≤ (x12_1 : Int) := od
                            have q437 : x12_1 < (t433.length : Int) := od
                            obtain ⟨ad437, e437, hx437_0⟩ := Kd.at_int (Kd.R_reads' HO_10.out).2.2 x12_1 p437 q437
                            cases e437
                            replace p437 := eq_true p437
                            replace q437 := eq_true q437
                            go_wp2
                            go_ret
                            exact ⟨by first | rfl | (simp [errW_none, errW_some] <;> rfl) | (simp [*, errW_none, errW_some] <;> rfl), pB HB.out⟩
                          · rw [if_neg c25] at H
                            have c25b0 : ((rd t433 x12_1) == a2) = false := beq_eq_false_iff_ne.mpr c25
                            have c25b1 : ((rd t433 x12_1) != a2) = true := bne_iff_ne.mpr c25
                            have H' := Aside0.mk H
                            clear H
                            obtain ⟨Ao27, co27, eo27⟩ := Kd.R_slice HO_10.out
                            subst eo27
                            have p437 : 0 ≤ (x12_1 : Int) := od
                            have q437 : x12_1 < (t433.length : Int) := od
                            obtain ⟨ad437, e437, hx437_0⟩ := Kd.at_int (Kd.R_reads' HO_10.out).2.2 x12_1 p437 q437
                            cases e437
                            replace p437 := eq_true p437
                            replace q437 := eq_true q437
                            go_wp2
                            go_roundg k1
                            case measure => have := HK1.out; omega
                            case rel => exact ⟨(wrap64 (x12_1 + 1)), (by first | rfl | (simp; done) | (simp [*]; done)), H', ⟨by have := HK1.out; omega⟩, ⟨Kd.pR HO_8.out⟩, ⟨Kd.pR HO_10.out⟩, ⟨pB HB.out⟩⟩
                        · rw [if_neg c24] at H
                          exact absurd H (by simp)
                      · rw [if_neg c23] at H
                        have c23b0 : decide (x12_1 < (t433.length : Int)) = false := decide_eq_false c23
                        clear c23
                        by_cases c28 : 0 ≤ a2
                        · rw [if_pos c28] at H
                          have c28b0 : decide (0 ≤ a2) = true := decide_eq_true c28
                          clear c28
                          by_cases c29 : a2 < (t429.length : Int)
                          · rw [if_pos c29] at H
                            have c29b0 : decide (a2 < (t429.length : Int)) = true := decide_eq_true c29
                            clear c29
                            by_cases c30 : a2 < (l0.length : Int)
                            · rw [if_pos c30] at H
                              have c30b0 : decide (a2 < (l0.length : Int)) = true := decide_eq_true c30
                              clear c30
                              by_cases c31 : (rd t429 a2) = ((rd_T37 l0 a2).f0)
                              · rw [if_pos c31] at H
                                have c31b0 : ((rd t429 a2) == ((rd_T37 l0 a2).f0)) = true := beq_iff_eq.mpr c31
                                have c31b1 : ((rd t429 a2) != ((rd_T37 l0 a2).f0)) = false := bne_eq_false_iff_eq.mpr c31
                                clear c31
                                by_cases c32 : (rd t429 a2) > a1
                                · rw [if_pos c32] at H
                                  have c32b0 : decide (a1 < (rd t429 a2)) = true := decide_eq_true c32
                                  clear c32
                                  exact absurd H (by simp)
                                · rw [if_neg c32] at H
                                  have c32b0 : decide (a1 < (rd t429 a2)) = false := decide_eq_false c32
                                  clear c32
                                  obtain ⟨y441, hy441⟩ : ∃ y_ : List (S37), y_ = (([] : List (S37))) := ⟨_, rfl⟩
                                  replace H : (if a2 ≤ (l0.length : Int) then ((some (l0.take (a2 : Int).toNat : List (S37))).bind fun y444 => (if y441.length + y444.length < 8796093022208 then ((some (y441 ++ y444 : List (S37))).bind fun y448 => (if 0 ≤ (wrap64 (a2 + 1)) then (if (wrap64 (a2 + 1)) ≤ (l0.length : Int) then ((some (l0.drop ((wrap64 (a2 + 1)) : Int).toNat : List (S37))).bind fun y451 => (if y448.length + y451.length < 8796093022208 then ((some (y448 ++ y451 : List (S37))).bind fun y455 => ((share_Split.f k1 y455 (wrap64 (a1 - (rd t429 a2)))).bind fun bt459 => ((share_Level.f k1 l0 a1).bind fun bt463 => ((share_Level.f k1 y455 (wrap64 (a1 - (rd t429 a2)))).bind fun bt468 => (if true = true then (if bt459.2 = 0 then ((some (([] : List Int) : List Int)).bind fun y472 => (if a2 ≤ (t429.length : Int) then ((some (t429.take (a2 : Int).toNat : List Int)).bind fun y475 => (if y472.length + y475.length < 17592186044416 then ((some (y472 ++ y475 : List Int)).bind fun y479 => (if (wrap64 (a2 + 1)) ≤ (t429.length : Int) then ((some (t429.drop ((wrap64 (a2 + 1)) : Int).toNat : List Int)).bind fun y482 => (if y479.length + y482.length < 17592186044416 then ((spigotref36_Same.f k1 bt459.1 (y479 ++ y482)).bind fun t489 => (if t489 = true then (if bt463.2.2 = bt468.2.2 then (some (bt463.1 == bt468.1 && (bt463.2.1 == bt468.2.1))) else (some false)) else (some false))) else (none))) else (none))) else (none))) else (none))) else (some false)) else (some false)))))) else (none))) else (none)) else (none))) else (none))) else (none)) = some true := by first | (rw [hy441]; with_reducible exact H) | (have H2_ := (Option.bind_some _ _).symm.trans H; rw [hy441]; with_reducible exact H2_) | (have H2_ := (Option.bind_some _ _).symm.trans H; with_reducible exact H2_) | with_reducible exact H | (rw [hy441]; exact H) | exact H
                                  have Ny441 := Aside0.mk hy441
                                  clear hy441
                                  have c33b0 := eq_true (od : 0 ≤ a2)
                                  by_cases c34 : a2 ≤ (l0.length : Int)
                                  · rw [if_pos c34] at H
                                    have c34b0 := eq_true c34
                                    have c34b1 : decide (a2 ≤ (l0.length : Int)) = true := decide_eq_true c34
                                    clear c34
                                    obtain ⟨y444, hy444⟩ : ∃ y_ : List (S37), y_ = (l0.take (a2 : Int).toNat) := ⟨_, rfl⟩
                                    replace H : (if y441.length + y444.length < 8796093022208 then ((some (y441 ++ y444 : List (S37))).bind fun y448 => (if 0 ≤ (wrap64 (a2 + 1)) then (if (wrap64 (a2 + 1)) ≤ (l0.length : Int) then ((some (l0.drop ((wrap64 (a2 + 1)) : Int).toNat : List (S37))).bind fun y451 => (if y448.length + y451.length < 8796093022208 then ((some (y448 ++ y451 : List (S37))).bind fun y455 => ((share_Split.f k1 y455 (wrap64 (a1 - (rd t429 a2)))).bind fun bt459 => ((share_Level.f k1 l0 a1).bind fun bt463 => ((share_Level.f k1 y455 (wrap64 (a1 - (rd t429 a2)))).bind fun bt468 => (if true = true then (if bt459.2 = 0 then ((some (([] : List Int) : List Int)).bind fun y472 => (if a2 ≤ (t429.length : Int) then ((some (t429.take (a2 : Int).toNat : List Int)).bind fun y475 => (if y472.length + y475.length < 17592186044416 then ((some (y472 ++ y475 : List Int)).bind fun y479 => (if (wrap64 (a2 + 1)) ≤ (t429.length : Int) then ((some (t429.drop ((wrap64 (a2 + 1)) : Int).toNat : List Int)).bind fun y482 => (if y479.length + y482.length < 17592186044416 then ((spigotref36_Same.f k1 bt459.1 (y479 ++ y482)).bind fun t489 => (if t489 = true then (if bt463.2.2 = bt468.2.2 then (some (bt463.1 == bt468.1 && (bt463.2.1 == bt468.2.1))) else (some false)) else (some false))) else (none))) else (none))) else (none))) else (none))) else (some false)) else (some false)))))) else (none))) else (none)) else (none))) else (none)) = some true := by first | (rw [hy444]; with_reducible exact H) | (have H2_ := (Option.bind_some _ _).symm.trans H; rw [hy444]; with_reducible exact H2_) | (have H2_ := (Option.bind_some _ _).symm.trans H; with_reducible exact H2_) | with_reducible exact H | (rw [hy444]; exact H) | exact H
                                    have Ny444 := Aside0.mk hy444
                                    clear hy444
                                    by_cases c35 : y441.length + y444.length < 8796093022208
                                    · rw [if_pos c35] at H
                                      have LMc35 := Aside0.mk c35
                                      clear c35
                                      obtain ⟨y448, hy448⟩ : ∃ y_ : List (S37), y_ = (y441 ++ y444) := ⟨_, rfl⟩
                                      replace H : (if 0 ≤ (wrap64 (a2 + 1)) then (if (wrap64 (a2 + 1)) ≤ (l0.length : Int) then ((some (l0.drop ((wrap64 (a2 + 1)) : Int).toNat : List (S37))).bind fun y451 => (if y448.length + y451.length < 8796093022208 then ((some (y448 ++ y451 : List (S37))).bind fun y455 => ((share_Split.f k1 y455 (wrap64 (a1 - (rd t429 a2)))).bind fun bt459 => ((share_Level.f k1 l0 a1).bind fun bt463 => ((share_Level.f k1 y455 (wrap64 (a1 - (rd t429 a2)))).bind fun bt468 => (if true = true then (if bt459.2 = 0 then ((some (([] : List Int) : List Int)).bind fun y472 => (if a2 ≤ (t429.length : Int) then ((some (t429.take (a2 : Int).toNat : List Int)).bind fun y475 => (if y472.length + y475.length < 17592186044416 then ((some (y472 ++ y475 : List Int)).bind fun y479 => (if (wrap64 (a2 + 1)) ≤ (t429.length : Int) then ((some (t429.drop ((wrap64 (a2 + 1)) : Int).toNat : List Int)).bind fun y482 => (if y479.length + y482.length < 17592186044416 then ((spigotref36_Same.f k1 bt459.1 (y479 ++ y482)).bind fun t489 => (if t489 = true then (if bt463.2.2 = bt468.2.2 then (some (bt463.1 == bt468.1 && (bt463.2.1 == bt468.2.1))) else (some false)) else (some false))) else (none))) else (none))) else (none))) else (none))) else (some false)) else (some false)))))) else (none))) else (none)) else (none)) = some true := by first | (rw [hy448]; with_reducible exact H) | (have H2_ := (Option.bind_some _ _).symm.trans H; rw [hy448]; with_reducible exact H2_) | (have H2_ := (Option.bind_some _ _).symm.trans H; with_reducible exact H2_) | with_reducible exact H | (rw [hy448]; exact H) | exact H
                                      have Ny448 := Aside0.mk hy448
                                      clear hy448
                                      obtain ⟨ji36, hji36⟩ : ∃ j_ : Int, (wrap64 (a2 + 1)) = j_ := ⟨_, rfl⟩
                                      replace H : (if 0 ≤ (ji36) then (if (ji36) ≤ (l0.length : Int) then ((some (l0.drop ((ji36) : Int).toNat : List (S37))).bind fun y451 => (if y448.length + y451.length < 8796093022208 then ((some (y448 ++ y451 : List (S37))).bind fun y455 => ((share_Split.f k1 y455 (wrap64 (a1 - (rd t429 a2)))).bind fun bt459 => ((share_Level.f k1 l0 a1).bind fun bt463 => ((share_Level.f k1 y455 (wrap64 (a1 - (rd t429 a2)))).bind fun bt468 => (if true = true then (if bt459.2 = 0 then ((some (([] : List Int) : List Int)).bind fun y472 => (if a2 ≤ (t429.length : Int) then ((some (t429.take (a2 : Int).toNat : List Int)).bind fun y475 => (if y472.length + y475.length < 17592186044416 then ((some (y472 ++ y475 : List Int)).bind fun y479 => (if (ji36) ≤ (t429.length : Int) then ((some (t429.drop ((ji36) : Int).toNat : List Int)).bind fun y482 => (if y479.length + y482.length < 17592186044416 then ((spigotref36_Same.f k1 bt459.1 (y479 ++ y482)).bind fun t489 => (if t489 = true then (if bt463.2.2 = bt468.2.2 then (some (bt463.1 == bt468.1 && (bt463.2.1 == bt468.2.1))) else (some false)) else (some false))) else (none))) else (none))) else (none))) else (none))) else (some false)) else (some false)))))) else (none))) else (none)) else (none)) = some true := by first | (rw [hji36] at H; exact H) | (simp only [hji36] at H ⊢; exact H)
                                      have hji36w : (IntKind.i64.wrap (a2 + 1)) = ji36 := (i64_w _).trans hji36
                                      by_cases c37 : 0 ≤ (ji36)
                                      · rw [if_pos c37] at H
                                        have c37b0 := eq_true c37
                                        have c37b1 : decide (0 ≤ (ji36)) = true := decide_eq_true c37
                                        clear c37
                                        by_cases c38 : (ji36) ≤ (l0.length : Int)
                                        · rw [if_pos c38] at H
                                          have c38b0 := eq_true c38
                                          have c38b1 : decide ((ji36) ≤ (l0.length : Int)) = true := decide_eq_true c38
                                          clear c38
                                          obtain ⟨y451, hy451⟩ : ∃ y_ : List (S37), y_ = (l0.drop ((ji36) : Int).toNat) := ⟨_, rfl⟩
                                          replace H : (if y448.length + y451.length < 8796093022208 then ((some (y448 ++ y451 : List (S37))).bind fun y455 => ((share_Split.f k1 y455 (wrap64 (a1 - (rd t429 a2)))).bind fun bt459 => ((share_Level.f k1 l0 a1).bind fun bt463 => ((share_Level.f k1 y455 (wrap64 (a1 - (rd t429 a2)))).bind fun bt468 => (if true = true then (if bt459.2 = 0 then ((some (([] : List Int) : List Int)).bind fun y472 => (if a2 ≤ (t429.length : Int) then ((some (t429.take (a2 : Int).toNat : List Int)).bind fun y475 => (if y472.length + y475.length < 17592186044416 then ((some (y472 ++ y475 : List Int)).bind fun y479 => (if (ji36) ≤ (t429.length : Int) then ((some (t429.drop ((ji36) : Int).toNat : List Int)).bind fun y482 => (if y479.length + y482.length < 17592186044416 then ((spigotref36_Same.f k1 bt459.1 (y479 ++ y482)).bind fun t489 => (if t489 = true then (if bt463.2.2 = bt468.2.2 then (some (bt463.1 == bt468.1 && (bt463.2.1 == bt468.2.1))) else (some false)) else (some false))) else (none))) else (none))) else (none))) else (none))) else (some false)) else (some false)))))) else (none)) = some true := by first | (rw [hy451]; with_reducible exact H) | (have H2_ := (Option.bind_some _ _).symm.trans H; rw [hy451]; with_reducible exact H2_) | (have H2_ := (Option.bind_some _ _).symm.trans H; with_reducible exact H2_) | with_reducible exact H | (rw [hy451]; exact H) | exact H
                                          have Ny451 := Aside0.mk hy451
                                          clear hy451
                                          by_cases c39 : y448.length + y451.length < 8796093022208
                                          · rw [if_pos c39] at H
                                            have LMc39 := Aside0.mk c39
                                            clear c39
                                            obtain ⟨y455, hy455⟩ : ∃ y_ : List (S37), y_ = (y448 ++ y451) := ⟨_, rfl⟩
                                            replace H : ((share_Split.f k1 y455 (wrap64 (a1 - (rd t429 a2)))).bind fun bt459 => ((share_Level.f k1 l0 a1).bind fun bt463 => ((share_Level.f k1 y455 (wrap64 (a1 - (rd t429 a2)))).bind fun bt468 => (if true = true then (if bt459.2 = 0 then ((some (([] : List Int) : List Int)).bind fun y472 => (if a2 ≤ (t429.length : Int) then ((some (t429.take (a2 : Int).toNat : List Int)).bind fun y475 => (if y472.length + y475.length < 17592186044416 then ((some (y472 ++ y475 : List Int)).bind fun y479 => (if (ji36) ≤ (t429.length : Int) then ((some (t429.drop ((ji36) : Int).toNat : List Int)).bind fun y482 => (if y479.length + y482.length < 17592186044416 then ((spigotref36_Same.f k1 bt459.1 (y479 ++ y482)).bind fun t489 => (if t489 = true then (if bt463.2.2 = bt468.2.2 then (some (bt463.1 == bt468.1 && (bt463.2.1 == bt468.2.1))) else (some false)) else (some false))) else (none))) else (none))) else (none))) else (none))) else (some false)) else (some false))))) = some true := by first | (rw [hy455]; with_reducible exact H) | (have H2_ := (Option.bind_some _ _).symm.trans H; rw [hy455]; with_reducible exact H2_) | (have H2_ := (Option.bind_some _ _).symm.trans H; with_reducible exact H2_) | with_reducible exact H | (rw [hy455]; exact H) | exact H
                                            have Ny455 := Aside0.mk hy455
                                            clear hy455
                                            replace H := Option.bind_eq_some_iff.mp H
                                            obtain ⟨⟨t459, t460⟩, A400, H⟩ := H
                                            replace H : ((share_Level.f k1 l0 a1).bind fun bt463 => ((share_Level.f k1 y455 (wrap64 (a1 - (rd t429 a2)))).bind fun bt468 => (if true = true then (if t460 = 0 then ((some (([] : List Int) : List Int)).bind fun y472 => (if a2 ≤ (t429.length : Int) then ((some (t429.take (a2 : Int).toNat : List Int)).bind fun y475 => (if y472.length + y475.length < 17592186044416 then ((some (y472 ++ y475 : List Int)).bind fun y479 => (if (ji36) ≤ (t429.length : Int) then ((some (t429.drop ((ji36) : Int).toNat : List Int)).bind fun y482 => (if y479.length + y482.length < 17592186044416 then ((spigotref36_Same.f k1 t459 (y479 ++ y482)).bind fun t489 => (if t489 = true then (if bt463.2.2 = bt468.2.2 then (some (bt463.1 == bt468.1 && (bt463.2.1 == bt468.2.1))) else (some false)) else (some false))) else (none))) else (none))) else (none))) else (none))) else (some false)) else (some false)))) = some true := H
                                            have A40 := Aside0.mk A400
                                            clear A400
                                            replace H := Option.bind_eq_some_iff.mp H
                                            obtain ⟨⟨t463, t464, t465⟩, A410, H⟩ := H
                                            replace H : ((share_Level.f k1 y455 (wrap64 (a1 - (rd t429 a2)))).bind fun bt468 => (if true = true then (if t460 = 0 then ((some (([] : List Int) : List Int)).bind fun y472 => (if a2 ≤ (t429.length : Int) then ((some (t429.take (a2 : Int).toNat : List Int)).bind fun y475 => (if y472.length + y475.length < 17592186044416 then ((some (y472 ++ y475 : List Int)).bind fun y479 => (if (ji36) ≤ (t429.length : Int) then ((some (t429.drop ((ji36) : Int).toNat : List Int)).bind fun y482 => (if y479.length + y482.length < 17592186044416 then ((spigotref36_Same.f k1 t459 (y479 ++ y482)).bind fun t489 => (if t489 = true then (if t465 = bt468.2.2 then (some (t463 == bt468.1 && (t464 == bt468.2.1))) else (some false)) else (some false))) else (none))) else (none))) else (none))) else (none))) else (some false)) else (some false))) = some true := H
                                            have A41 := Aside0.mk A410
                                            clear A410
                                            replace H := Option.bind_eq_some_iff.mp H
                                            obtain ⟨⟨t468, t469, t470⟩, A420, H⟩ := H
                                            replace H : (if true = true then (if t460 = 0 then ((some (([] : List Int) : List Int)).bind fun y472 => (if a2 ≤ (t429.length : Int) then ((some (t429.take (a2 : Int).toNat : List Int)).bind fun y475 => (if y472.length + y475.length < 17592186044416 then ((some (y472 ++ y475 : List Int)).bind fun y479 => (if (ji36) ≤ (t429.length : Int) then ((some (t429.drop ((ji36) : Int).toNat : List Int)).bind fun y482 => (if y479.length + y482.length < 17592186044416 then ((spigotref36_Same.f k1 t459 (y479 ++ y482)).bind fun t489 => (if t489 = true then (if t465 = t470 then (some (t463 == t468 && (t464 == t469))) else (some false)) else (some false))) else (none))) else (none))) else (none))) else (none))) else (some false)) else (some false)) = some true := H
                                            have A42 := Aside0.mk A420
                                            clear A420
                                            replace H : (if t460 = 0 then ((some (([] : List Int) : List Int)).bind fun y472 => (if a2 ≤ (t429.length : Int) then ((some (t429.take (a2 : Int).toNat : List Int)).bind fun y475 => (if y472.length + y475.length < 17592186044416 then ((some (y472 ++ y475 : List Int)).bind fun y479 => (if (ji36) ≤ (t429.length : Int) then ((some (t429.drop ((ji36) : Int).toNat : List Int)).bind fun y482 => (if y479.length + y482.length < 17592186044416 then ((spigotref36_Same.f k1 t459 (y479 ++ y482)).bind fun t489 => (if t489 = true then (if t465 = t470 then (some (t463 == t468 && (t464 == t469))) else (some false)) else (some false))) else (none))) else (none))) else (none))) else (none))) else (some false)) = some true := by rw [if_pos rfl] at H; exact H
                                            by_cases c43 : t460 = 0
                                            · rw [if_pos c43] at H
                                              have c43b0 : (t460 == 0) = true := beq_iff_eq.mpr c43
                                              have c43b1 : (t460 != 0) = false := bne_eq_false_iff_eq.mpr c43
                                              clear c43
                                              obtain ⟨y472, hy472⟩ : ∃ y_ : List Int, y_ = (([] : List Int)) := ⟨_, rfl⟩
                                              replace H : (if a2 ≤ (t429.length : Int) then ((some (t429.take (a2 : Int).toNat : List Int)).bind fun y475 => (if y472.length + y475.length < 17592186044416 then ((some (y472 ++ y475 : List Int)).bind fun y479 => (if (ji36) ≤ (t429.length : Int) then ((some (t429.drop ((ji36) : Int).toNat : List Int)).bind fun y482 => (if y479.length + y482.length < 17592186044416 then ((spigotref36_Same.f k1 t459 (y479 ++ y482)).bind fun t489 => (if t489 = true then (if t465 = t470 then (some (t463 == t468 && (t464 == t469))) else (some false)) else (some false))) else (none))) else (none))) else (none))) else (none)) = some true := by first | (rw [hy472]; with_reducible exact H) | (have H2_ := (Option.bind_some _ _).symm.trans H; rw [hy472]; with_reducible exact H2_) | (have H2_ := (Option.bind_some _ _).symm.trans H; with_reducible exact H2_) | with_reducible exact H | (rw [hy472]; exact H) | exact H
                                              have Ny472 := Aside0.mk hy472
                                              clear hy472
                                              have c44b0 := eq_true (od : 0 ≤ a2)
                                              by_cases c45 : a2 ≤ (t429.length : Int)
                                              · rw [if_pos c45] at H
                                                have c45b0 := eq_true c45
                                                have c45b1 : decide (a2 ≤ (t429.length : Int)) = true := decide_eq_true c45
                                                clear c45
                                                obtain ⟨y475, hy475⟩ : ∃ y_ : List Int, y_ = (t429.take (a2 : Int).toNat) := ⟨_, rfl⟩
                                                replace H : (if y472.length + y475.length < 17592186044416 then ((some (y472 ++ y475 : List Int)).bind fun y479 => (if (ji36) ≤ (t429.length : Int) then ((some (t429.drop ((ji36) : Int).toNat : List Int)).bind fun y482 => (if y479.length + y482.length < 17592186044416 then ((spigotref36_Same.f k1 t459 (y479 ++ y482)).bind fun t489 => (if t489 = true then (if t465 = t470 then (some (t463 == t468 && (t464 == t469))) else (some false)) else (some false))) else (none))) else (none))) else (none)) = some true := by first | (rw [hy475]; with_reducible exact H) | (have H2_ := (Option.bind_some _ _).symm.trans H; rw [hy475]; with_reducible exact H2_) | (have H2_ := (Option.bind_some _ _).symm.trans H; with_reducible exact H2_) | with_reducible exact H | (rw [hy475]; exact H) | exact H
                                                have Ny475 := Aside0.mk hy475
                                                clear hy475
                                                by_cases c46 : y472.length + y475.length < 17592186044416
                                                · rw [if_pos c46] at H
                                                  have LMc46 := Aside0.mk c46
                                                  clear c46
                                                  obtain ⟨y479, hy479⟩ : ∃ y_ : List Int, y_ = (y472 ++ y475) := ⟨_, rfl⟩
                                                  replace H : (if (ji36) ≤ (t429.length : Int) then ((some (t429.drop ((ji36) : Int).toNat : List Int)).bind fun y482 => (if y479.length + y482.length < 17592186044416 then ((spigotref36_Same.f k1 t459 (y479 ++ y482)).bind fun t489 => (if t489 = true then (if t465 = t470 then (some (t463 == t468 && (t464 == t469))) else (some false)) else (some false))) else (none))) else (none)) = some true := by first | (rw [hy479]; with_reducible exact H) | (have H2_ := (Option.bind_some _ _).symm.trans H; rw [hy479]; with_reducible exact H2_) | (have H2_ := (Option.bind_some _ _).symm.trans H; with_reducible exact H2_) | with_reducible exact H | (rw [hy479]; exact H) | exact H
                                                  have Ny479 := Aside0.mk hy479
                                                  clear hy479
                                                  have c47b0 := eq_true (od : 0 ≤ (ji36))
                                                  by_cases c48 : (ji36) ≤ (t429.length : Int)
                                                  · rw [if_pos c48] at H
                                                    have c48b0 := eq_true c48
                                                    have c48b1 : decide ((ji36) ≤ (t429.length : Int)) = true := decide_eq_true c48
                                                    clear c48
                                                    obtain ⟨y482, hy482⟩ : ∃ y_ : List Int, y_ = (t429.drop ((ji36) : Int).toNat) := ⟨_, rfl⟩
                                                    replace H : (if y479.length + y482.length < 17592186044416 then ((spigotref36_Same.f k1 t459 (y479 ++ y482)).bind fun t489 => (if t489 = true then (if t465 = t470 then (some (t463 == t468 && (t464 == t469))) else (some false)) else (some false))) else (none)) = some true := by first | (rw [hy482]; with_reducible exact H) | (have H2_ := (Option.bind_some _ _).symm.trans H; rw [hy482]; with_reducible exact H2_) | (have H2_ := (Option.bind_some _ _).symm.trans H; with_reducible exact H2_) | with_reducible exact H | (rw [hy482]; exact H) | exact H
                                                    have Ny482 := Aside0.mk hy482
                                                    clear hy482
                                                    by_cases c49 : y479.length + y482.length < 17592186044416
                                                    · rw [if_pos c49] at H
                                                      have LMc49 := Aside0.mk c49
                                                      clear c49
                                                      obtain ⟨y486, hy486⟩ : ∃ y_ : List Int, y_ = (y479 ++ y482) := ⟨_, rfl⟩
                                                      replace H : ((spigotref36_Same.f k1 t459 y486).bind fun t489 => (if t489 = true then (if t465 = t470 then (some (t463 == t468 && (t464 == t469))) else (some false)) else (some false))) = some true := by first | (rw [hy486]; with_reducible exact H) | (have H2_ := (Option.bind_some _ _).symm.trans H; rw [hy486]; with_reducible exact H2_) | (have H2_ := (Option.bind_some _ _).symm.trans H; with_reducible exact H2_) | with_reducible exact H | (rw [hy486]; exact H) | exact H
                                                      have Ny486 := Aside0.mk hy486
                                                      clear hy486
                                                      replace H := Option.bind_eq_some_iff.mp H
                                                      obtain ⟨t489, A500, H⟩ := H
                                                      replace H : (if t489 = true then (if t465 = t470 then (some (t463 == t468 && (t464 == t469))) else (some false)) else (some false)) = some true := H
                                                      have A50 := Aside0.mk A500
                                                      clear A500
                                                      by_cases c51 : t489 = true
                                                      · subst c51
                                                        have H1 : (if t465 = t470 then (some (t463 == t468 && (t464 == t469))) else (some false)) = some true := by rw [if_pos rfl] at H; exact H
                                                        clear H
                                                        have H := H1
                                                        clear H1
                                                        by_cases c52 : t465 = t470
                                                        · rw [if_pos c52] at H
                                                          have c52b0 : (t465 == t470) = true := beq_iff_eq.mpr c52
                                                          have c52b1 : (t465 != t470) = false := bne_eq_false_iff_eq.mpr c52
                                                          clear c52
                                                          have HRT := Aside0.mk (Option.some.inj H)
                                                          clear H
                                                          obtain ⟨Ao53, co53, eo53⟩ := Kd.R_slice HO_10.out
                                                          subst eo53
                                                          try go_wp2
                                                          have n0_ := Aside0.mk (Kd.R_drew HO_8.out)
                                                          have n1_ := Aside0.mk (Kd.R_drew HO_10.out)
                                                          have n2_ := Aside0.mk (below_drew1 HB.out)
                                                          clear HO_8
                                                          clear HO_10
                                                          clear HB
                                                          have HO_8 := n0_
                                                          have HO_10 := n1_
                                                          have HB := n2_
                                                          clear n0_ n1_ n2_
                                                          have p438 : 0 ≤ (a2 : Int) := od
                                                          have q438 : a2 < (t429.length : Int) := od
                                                          obtain ⟨ad438, e438, hx438_0⟩ := Kd.at_int (Kd.R_reads' HO_8.out).2.2 a2 p438 q438
                                                          cases e438
                                                          replace p438 := eq_true p438
                                                          replace q438 := eq_true q438
                                                          have p439 : 0 ≤ (a2 : Int) := od
                                                          have q439 : a2 < (l0.length : Int) := od
                                                          obtain ⟨ad439, e439, hx439_0, hx439_1⟩ := at_T37 HR0.out a2 p439 q439
                                                          have hw439_1 := hx439_1
                                                          have hw439_0 := hx439_0
                                                          cases e439
                                                          replace hx439_0 := (HB.out.cell (World.block_lt_of_cell? w _ hx439_0)).trans hx439_0
                                                          replace hx439_1 := (HB.out.cell (World.block_lt_of_cell? w _ hx439_1)).trans hx439_1
                                                          replace p439 := eq_true p439
                                                          replace q439 := eq_true q439
                                                          have p440 : 0 ≤ (a2 : Int) := od
                                                          have q440 : a2 < (t429.length : Int) := od
                                                          obtain ⟨ad440, e440, hx440_0⟩ := Kd.at_int (Kd.R_reads' HO_8.out).2.2 a2 p440 q440
                                                          obtain rfl : ad438 = ad440 := (by injection e440)
                                                          replace p440 := eq_true p440
                                                          replace q440 := eq_true q440
                                                          refine start_ (n := 18) (S := fun w' => w'.cell? (ad438.add (a2).toNat) = some (.int .i64 (rd t429 a2)) ∧ w'.cell? (ad439.add ((a2).toNat * 2)) = some (.int .i64 ((rd_T37 l0 a2).f0)) ∧ w'.cell? ⟨(ad439.add ((a2).toNat * 2)).block, (ad439.add ((a2).toNat * 2)).off + 1, none⟩ = some (.int .i64 ((rd_T37 l0 a2).f1)) ∧ w'.cell? (ad438.add (a2).toNat) = some (.int .i64 (rd t429 a2))) (ds := []) #[false, false, false, false, false, false, false, false, false, false, false, false, false, false, false, false, false, false] (by kernel_rfl) rfl rfl ⟨hx438_0, ((HB.out.cell (World.block_lt_of_cell? w _ hw439_0)).trans hw439_0), ((HB.out.cell (World.block_lt_of_cell? w _ hw439_1)).trans hw439_1), hx440_0⟩ (fun hHeld => ?_); refine with_tabW spigotlaw36_ShareAlone.tab13 spigotlaw36_ShareAlone.bits13 (fun HT_ HW_ => ?_)
                                                          generalize wr.drew = w54 at HO_8 HO_10 HB hx438_0 hx439_0 hx439_1 hx440_0 hHeld ⊢
                                                          refine pure_ (i := 0) (N := some 83) (v := ?_) (a' := ?_) #[true, false, false, false, false, false, false, false, false, false, false, false, false, false, false, false, false, false] rfl rfl (any_of HT_.out (by kernel_rfl)) (fun _ _ _ h => h) (Or.inl ⟨by rfl, ?_⟩) ?_ ?_
                                                          rotate_left
                                                          · intro w'
                                                            go_simp
                                                            with_reducible rfl
                                                          rotate_left
                                                          · simp only [Act.put, List.setIfInBounds_toArray, List.set_cons_zero, List.set_cons_succ, i64_w, i32_w]
                                                            rfl
                                                          refine pure_ (i := 1) (N := some 84) (v := ?_) (a' := ?_) #[true, true, false, false, false, false, false, false, false, false, false, false, false, false, false, false, false, false] rfl rfl (any_of HT_.out (by kernel_rfl)) (fun _ _ _ h => h) (Or.inl ⟨by rfl, ?_⟩) ?_ ?_
                                                          rotate_left
                                                          · intro w'
                                                            go_simp
                                                            with_reducible rfl
                                                          rotate_left
                                                          · simp only [Act.put, List.setIfInBounds_toArray, List.set_cons_zero, List.set_cons_succ, i64_w, i32_w]
                                                            rfl
                                                          refine pure_ (i := 2) (N := some 85) (v := ?_) (a' := ?_) #[true, true, true, false, false, false, false, false, false, false, false, false, false, false, false, false, false, false] rfl rfl (any_of HT_.out (by kernel_rfl)) (fun _ _ _ h => h) (Or.inl ⟨by rfl, ?_⟩) ?_ ?_
                                                          rotate_left
                                                          · intro w'
                                                            go_simp
                                                            with_reducible rfl
                                                          rotate_left
                                                          · simp only [Act.put, List.setIfInBounds_toArray, List.set_cons_zero, List.set_cons_succ, i64_w, i32_w]
                                                            rfl
                                                          refine pure_ (i := 4) (N := some 87) (v := ?_) (a' := ?_) #[true, true, true, false, true, false, false, false, false, false, false, false, false, false, false, false, false, false] rfl rfl (any_of HT_.out (by kernel_rfl)) (fun _ _ _ h => h) (Or.inl ⟨by rfl, ?_⟩) ?_ ?_
                                                          rotate_left
                                                          · intro w'
                                                            go_simp
                                                            with_reducible rfl
                                                          rotate_left
                                                          · simp only [Act.put, List.setIfInBounds_toArray, List.set_cons_zero, List.set_cons_succ, i64_w, i32_w]
                                                            rfl
                                                          refine pure_ (i := 5) (N := some 88) (v := ?_) (a' := ?_) #[true, true, true, false, true, true, false, false, false, false, false, false, false, false, false, false, false, false] rfl rfl (any_of HT_.out (by kernel_rfl)) (fun _ _ _ h => h) (Or.inl ⟨by rfl, ?_⟩) ?_ ?_
                                                          rotate_left
                                                          · intro w'
                                                            go_simp
                                                            with_reducible rfl
                                                          rotate_left
                                                          · simp only [Act.put, List.setIfInBounds_toArray, List.set_cons_zero, List.set_cons_succ, i64_w, i32_w]
                                                            rfl
                                                          refine pure_ (i := 6) (N := some 89) (v := ?_) (a' := ?_) #[true, true, true, false, true, true, true, false, false, false, false, false, false, false, false, false, false, false] rfl rfl (any_of HT_.out (by kernel_rfl)) (fun _ _ _ h => h) (Or.inl ⟨by rfl, ?_⟩) ?_ ?_
                                                          rotate_left
                                                          · intro w'
                                                            go_simp
                                                            with_reducible rfl
                                                          rotate_left
                                                          · simp only [Act.put, List.setIfInBounds_toArray, List.set_cons_zero, List.set_cons_succ, i64_w, i32_w]
                                                            rfl
                                                          refine pure_ (i := 7) (N := some 90) (v := ?_) (a' := ?_) #[true, true, true, false, true, true, true, true, false, false, false, false, false, false, false, false, false, false] rfl rfl (any_of HT_.out (by kernel_rfl)) (fun _ _ _ h => h) (Or.inl ⟨by rfl, ?_⟩) ?_ ?_
                                                          rotate_left
                                                          · intro w'
                                                            go_simp
                                                            with_reducible rfl
                                                          rotate_left
                                                          · simp only [Act.put, List.setIfInBounds_toArray, List.set_cons_zero, List.set_cons_succ, i64_w, i32_w]
                                                            rfl
                                                          refine take_ (i := 3) (N := some 86) (v := ?_) (a' := ?_) #[true, true, true, true, true, true, true, true, false, false, false, false, false, false, false, false, false, false] rfl rfl (take_ofW HT_.out HW_.out (by kernel_rfl)) (fun _ _ _ h => h) (Or.inl ⟨by rfl, ?_⟩) hHeld ?_ ?_
                                                          rotate_left
                                                          · rintro w' ⟨s0, s1, s2, s3⟩
                                                            go_simp
                                                            with_reducible rfl
                                                          rotate_left
                                                          · simp only [Act.put, List.setIfInBounds_toArray, List.set_cons_zero, List.set_cons_succ, i64_w, i32_w]
                                                            rfl
                                                          refine take_ (i := 8) (N := some 91) (v := ?_) (a' := ?_) #[true, true, true, true, true, true, true, true, true, false, false, false, false, false, false, false, false, false] rfl rfl (take_ofW HT_.out HW_.out (by kernel_rfl)) (fun _ _ _ h => h) (Or.inl ⟨by rfl, ?_⟩) hHeld ?_ ?_
                                                          rotate_left
                                                          · rintro w' ⟨s0, s1, s2, s3⟩
                                                            go_simp
                                                            with_reducible rfl
                                                          rotate_left
                                                          · simp only [Act.put, List.setIfInBounds_toArray, List.set_cons_zero, List.set_cons_succ, i64_w, i32_w]
                                                            rfl
                                                          refine pure_ (i := 9) (N := some 92) (v := ?_) (a' := ?_) #[true, true, true, true, true, true, true, true, true, true, false, false, false, false, false, false, false, false] rfl rfl (any_of HT_.out (by kernel_rfl)) (fun _ _ _ h => h) (Or.inl ⟨by rfl, ?_⟩) ?_ ?_
                                                          rotate_left
                                                          · intro w'
                                                            go_simp
                                                            with_reducible rfl
                                                          rotate_left
                                                          · simp only [Act.put, List.setIfInBounds_toArray, List.set_cons_zero, List.set_cons_succ, i64_w, i32_w]
                                                            rfl
                                                          refine pure_ (i := 10) (N := some 93) (v := ?_) (a' := ?_) #[true, true, true, true, true, true, true, true, true, true, true, false, false, false, false, false, false, false] rfl rfl (any_of HT_.out (by kernel_rfl)) (fun _ _ _ h => h) (Or.inl ⟨by rfl, ?_⟩) ?_ ?_
                                                          rotate_left
                                                          · intro w'
                                                            go_simp
                                                            with_reducible rfl
                                                          rotate_left
                                                          · simp only [Act.put, List.setIfInBounds_toArray, List.set_cons_zero, List.set_cons_succ, i64_w, i32_w]
                                                            rfl
                                                          refine pure_ (i := 11) (N := some 94) (v := ?_) (a' := ?_) #[true, true, true, true, true, true, true, true, true, true, true, true, false, false, false, false, false, false] rfl rfl (any_of HT_.out (by kernel_rfl)) (fun _ _ _ h => h) (Or.inl ⟨by rfl, ?_⟩) ?_ ?_
                                                          rotate_left
                                                          · intro w'
                                                            go_simp
                                                            with_reducible rfl
                                                          rotate_left
                                                          · simp only [Act.put, List.setIfInBounds_toArray, List.set_cons_zero, List.set_cons_succ, i64_w, i32_w]
                                                            rfl
                                                          refine pure_ (i := 12) (N := some 95) (v := ?_) (a' := ?_) #[true, true, true, true, true, true, true, true, true, true, true, true, true, false, false, false, false, false] rfl rfl (any_of HT_.out (by kernel_rfl)) (fun _ _ _ h => h) (Or.inl ⟨by rfl, ?_⟩) ?_ ?_
                                                          rotate_left
                                                          · intro w'
                                                            go_simp
                                                            with_reducible rfl
                                                          rotate_left
                                                          · simp only [Act.put, List.setIfInBounds_toArray, List.set_cons_zero, List.set_cons_succ, i64_w, i32_w]
                                                            rfl
                                                          refine pure_ (i := 13) (N := some 96) (v := ?_) (a' := ?_) #[true, true, true, true, true, true, true, true, true, true, true, true, true, true, false, false, false, false] rfl rfl (any_of HT_.out (by kernel_rfl)) (fun _ _ _ h => h) (Or.inl ⟨by rfl, ?_⟩) ?_ ?_
                                                          rotate_left
                                                          · intro w'
                                                            go_simp
                                                            with_reducible rfl
                                                          rotate_left
                                                          · simp only [Act.put, List.setIfInBounds_toArray, List.set_cons_zero, List.set_cons_succ, i64_w, i32_w]
                                                            rfl
                                                          refine pure_ (i := 15) (N := some 98) (v := ?_) (a' := ?_) #[true, true, true, true, true, true, true, true, true, true, true, true, true, true, false, true, false, false] rfl rfl (any_of HT_.out (by kernel_rfl)) (fun _ _ _ h => h) (Or.inl ⟨by rfl, ?_⟩) ?_ ?_
                                                          rotate_left
                                                          · intro w'
                                                            go_simp
                                                            with_reducible rfl
                                                          rotate_left
                                                          · simp only [Act.put, List.setIfInBounds_toArray, List.set_cons_zero, List.set_cons_succ, i64_w, i32_w]
                                                            rfl
                                                          refine take_ (i := 14) (N := some 97) (v := ?_) (a' := ?_) #[true, true, true, true, true, true, true, true, true, true, true, true, true, true, true, true, false, false] rfl rfl (take_ofW HT_.out HW_.out (by kernel_rfl)) (fun _ _ _ h => h) (Or.inl ⟨by rfl, ?_⟩) hHeld ?_ ?_
                                                          rotate_left
                                                          · rintro w' ⟨s0, s1, s2, s3⟩
                                                            go_simp
                                                            with_reducible rfl
                                                          rotate_left
                                                          · simp only [Act.put, List.setIfInBounds_toArray, List.set_cons_zero, List.set_cons_succ, i64_w, i32_w]
                                                            rfl
                                                          refine pure_ (i := 16) (N := some 99) (v := ?_) (a' := ?_) #[true, true, true, true, true, true, true, true, true, true, true, true, true, true, true, true, true, false] rfl rfl (any_of HT_.out (by kernel_rfl)) (fun _ _ _ h => h) (Or.inl ⟨by rfl, ?_⟩) ?_ ?_
                                                          rotate_left
                                                          · intro w'
                                                            go_simp
                                                            with_reducible rfl
                                                          rotate_left
                                                          · simp only [Act.put, List.setIfInBounds_toArray, List.set_cons_zero, List.set_cons_succ, i64_w, i32_w]
                                                            rfl
                                                          refine pure_ (i := 17) (N := some 100) (v := ?_) (a' := ?_) #[true, true, true, true, true, true, true, true, true, true, true, true, true, true, true, true, true, true] rfl rfl (any_of HT_.out (by kernel_rfl)) (fun _ _ _ h => h) (Or.inl ⟨by rfl, ?_⟩) ?_ ?_
                                                          rotate_left
                                                          · intro w'
                                                            go_simp
                                                            with_reducible rfl
                                                          rotate_left
                                                          · simp only [Act.put, List.setIfInBounds_toArray, List.set_cons_zero, List.set_cons_succ, i64_w, i32_w]
                                                            rfl
                                                          refine done_ (done_of HT_.out (by kernel_rfl)) ?_
                                                          try go_wp2
                                                          have n0_ := Aside0.mk (Kd.R_drew HO_8.out)
                                                          have n1_ := Aside0.mk (Kd.R_drew HO_10.out)
                                                          have n2_ := Aside0.mk (below_drew1 HB.out)
                                                          clear HO_8
                                                          clear HO_10
                                                          clear HB
                                                          have HO_8 := n0_
                                                          have HO_10 := n1_
                                                          have HB := n2_
                                                          clear n0_ n1_ n2_
                                                          have q56 : (a2 : Int) ≤ ((l0.length : Int) : Int) := od
                                                          obtain ⟨i056, hi056, _, hsz56, _⟩ := info_parts info37
                                                          have hroom56 : l0.length ≤ c0 := HC0.out
                                                          have hC56 : Kd.C k37 _ (some ad439) l0.length l0 := HR0.out
                                                          have hcut56 := cut_to (P := Try.prog) 22 37 .i64 Try.underlying22 hi056 (some ad439) l0.length c0 a2 od q56 hroom56
                                                          have hr56 := Kd.C_take (m := (a2 : Int).toNat) hC56 (by omega)
                                                          have hy56 : y444.length = (a2 : Int).toNat := (by rw [Ny444.out, List.length_take]; omega)
                                                          rw [← Ny444.out] at hr56
                                                          rw [← hy56] at hcut56
                                                          have HR447 := Aside0.mk hr56
                                                          have HC447 := Aside0.mk (show y444.length ≤ c0 from by omega)
                                                          clear hr56 hC56 hroom56 hi056 hsz56
                                                          have KY56 := Aside0.mk hy56
                                                          clear hy56
                                                          replace q56 := eq_true q56
                                                          have q57 : ((ji36) : Int) ≤ ((l0.length : Int) : Int) := od
                                                          obtain ⟨i057, hi057, _, hsz57, _⟩ := info_parts info37
                                                          have hroom57 : l0.length ≤ c0 := HC0.out
                                                          have hC57 : Kd.C k37 _ (some ad439) l0.length l0 := HR0.out
                                                          have q057 : (0 : Int) ≤ ((ji36) : Int) := od
                                                          have hcut57 := cut_from (P := Try.prog) 22 37 .i64 Try.underlying22 hi057 2 hsz57 (some ad439) l0.length c0 (ji36) q057 q57
                                                          have hr57 := Kd.C_drop (m := ((ji36) : Int).toNat) (c := c0) hC57 (by omega) hroom57
                                                          obtain ⟨A57, hA57⟩ : ∃ A1, A1 = (if c0 = ((ji36) : Int).toNat then (some ad439) else ((some ad439) : Option Addr).map (·.add (((ji36) : Int).toNat * 2))) := ⟨_, rfl⟩
                                                          obtain ⟨c57, hc57⟩ : ∃ c1, c1 = c0 - ((ji36) : Int).toNat := ⟨_, rfl⟩
                                                          have hy57 : y451.length = l0.length - ((ji36) : Int).toNat := (by rw [Ny451.out, List.length_drop] <;> omega)
                                                          rw [show (l0).drop ((ji36) : Int).toNat = y451 from Ny451.out.symm] at hr57
                                                          replace hr57 : Kd.C k37 _ A57 y451.length y451 := (by rw [hA57]; exact hr57)
                                                          rw [← hy57, ← hA57, ← hc57] at hcut57
                                                          have HR454 := Aside0.mk hr57
                                                          have HC454 := Aside0.mk (show y451.length ≤ c57 from by rw [hy57, hc57]; exact Nat.sub_le_sub_right hroom57 _)
                                                          clear hr57 hC57 hroom57 hi057 hsz57 hc57
                                                          have KY57 := Aside0.mk hy57
                                                          have KA57 := Aside0.mk hA57
                                                          clear hy57 hA57
                                                          replace q57 := eq_true q57
                                                          refine start_ (n := 11) (S := fun w' => True) (ds := []) #[false, false, false, false, false, false, false, false, false, false, false] (by kernel_rfl) rfl rfl trivial (fun hHeld => ?_); refine with_tabW spigotlaw36_ShareAlone.tab15 spigotlaw36_ShareAlone.bits15 (fun HT_ HW_ => ?_)
                                                          generalize w54.drew = w55 at HO_8 HO_10 HB HR447 HR454 hHeld ⊢
                                                          refine pure_ (i := 1) (N := some 102) (v := ?_) (a' := ?_) #[false, true, false, false, false, false, false, false, false, false, false] rfl rfl (any_of HT_.out (by kernel_rfl)) (fun _ _ _ h => h) (Or.inl ⟨by rfl, ?_⟩) ?_ ?_
                                                          rotate_left
                                                          · intro w'
                                                            go_simp
                                                            with_reducible rfl
                                                          rotate_left
                                                          · simp only [Act.put, List.setIfInBounds_toArray, List.set_cons_zero, List.set_cons_succ, i64_w, i32_w]
                                                            rfl
                                                          refine pure_ (i := 2) (N := some 103) (v := ?_) (a' := ?_) #[false, true, true, false, false, false, false, false, false, false, false] rfl rfl (any_of HT_.out (by kernel_rfl)) (fun _ _ _ h => h) (Or.inl ⟨by rfl, ?_⟩) ?_ ?_
                                                          rotate_left
                                                          · intro w'
                                                            go_simp
                                                            with_reducible rfl
                                                          rotate_left
                                                          · simp only [Act.put, List.setIfInBounds_toArray, List.set_cons_zero, List.set_cons_succ, i64_w, i32_w]
                                                            rfl
                                                          refine pure_ (i := 3) (N := some 104) (v := ?_) (a' := ?_) #[false, true, true, true, false, false, false, false, false, false, false] rfl rfl (any_of HT_.out (by kernel_rfl)) (fun _ _ _ h => h) (Or.inl ⟨by rfl, ?_⟩) ?_ ?_
                                                          rotate_left
                                                          · intro w'
                                                            go_simp
                                                            with_reducible rfl
                                                          rotate_left
                                                          · simp only [Act.put, List.setIfInBounds_toArray, List.set_cons_zero, List.set_cons_succ, i64_w, i32_w]
                                                            rfl
                                                          refine pure_ (i := 5) (N := some 106) (v := ?_) (a' := ?_) #[false, true, true, true, false, true, false, false, false, false, false] rfl rfl (any_of HT_.out (by kernel_rfl)) (fun _ _ _ h => h) (Or.inl ⟨by rfl, ?_⟩) ?_ ?_
                                                          rotate_left
                                                          · intro w'
                                                            go_simp
                                                            with_reducible rfl
                                                          rotate_left
                                                          · simp only [Act.put, List.setIfInBounds_toArray, List.set_cons_zero, List.set_cons_succ, i64_w, i32_w]
                                                            rfl
                                                          refine pure_ (i := 6) (N := some 107) (v := ?_) (a' := ?_) #[false, true, true, true, false, true, true, false, false, false, false] rfl rfl (any_of HT_.out (by kernel_rfl)) (fun _ _ _ h => h) (Or.inl ⟨by rfl, ?_⟩) ?_ ?_
                                                          rotate_left
                                                          · intro w'
                                                            go_simp
                                                            with_reducible rfl
                                                          rotate_left
                                                          · simp only [Act.put, List.setIfInBounds_toArray, List.set_cons_zero, List.set_cons_succ, i64_w, i32_w]
                                                            rfl
                                                          refine pure_ (i := 7) (N := some 108) (v := ?_) (a' := ?_) #[false, true, true, true, false, true, true, true, false, false, false] rfl rfl (any_of HT_.out (by kernel_rfl)) (fun _ _ _ h => h) (Or.inl ⟨by rfl, ?_⟩) ?_ ?_
                                                          rotate_left
                                                          · intro w'
                                                            go_simp
                                                            with_reducible rfl
                                                          rotate_left
                                                          · simp only [Act.put, List.setIfInBounds_toArray, List.set_cons_zero, List.set_cons_succ, i64_w, i32_w]
                                                            rfl
                                                          refine pure_ (i := 8) (N := some 109) (v := ?_) (a' := ?_) #[false, true, true, true, false, true, true, true, true, false, false] rfl rfl (any_of HT_.out (by kernel_rfl)) (fun _ _ _ h => h) (Or.inl ⟨by rfl, ?_⟩) ?_ ?_
                                                          rotate_left
                                                          · intro w'
                                                            go_simp
                                                            with_reducible rfl
                                                          rotate_left
                                                          · simp only [Act.put, List.setIfInBounds_toArray, List.set_cons_zero, List.set_cons_succ, i64_w, i32_w]
                                                            rfl
                                                          refine one_ (i := 0) (N := some 101) #[true, true, true, true, false, true, true, true, true, false, false] rfl rfl (one_of HT_.out (by kernel_rfl)) (by decide) (fun K hK => ?_)
                                                          refine Kd.R_lit_step k37 _ 37 ?hg (N := 101) ?hd (xs := ([] : List (S37))) (inner := []) (ok := fun _ => True) (okp := fun _ => True) ?hr ?hp (fun _ hk => hk) trivial (Below.refl _ _) (Nat.le_refl _) (by simp) ?_; (case hd => rfl); (case hg => rfl); (case hr => first | (go_simp; done) | (go_simp; rfl)); (case hp => exact (Reps.none _ _))
                                                          intro v442 w58 ho59 hb hg_ hnew_
                                                          clear hg_ hnew_
                                                          (first | rw [← Ny441.out] at ho59 | (simp only [Int.reduceToNat] at ho59; rw [← Ny441.out] at ho59))
                                                          have n0_ := Aside0.mk (Kd.R_below (Kd.pR HO_8.out) hb)
                                                          have n1_ := Aside0.mk (Kd.R_below (Kd.pR HO_10.out) hb)
                                                          have n2_ := Aside0.mk (Kd.R_lower ho59 (below_size (pB HB.out)))
                                                          have n3_ := Aside0.mk (below_step (pB HB.out) hb)
                                                          clear HO_8
                                                          clear HO_10
                                                          clear HB
                                                          have HO_8 := n0_
                                                          have HO_10 := n1_
                                                          have HO443 := n2_
                                                          have HB := n3_
                                                          clear n0_ n1_ n2_ n3_
                                                          clear hb ho59
                                                          refine hK.out _ _ trivial (fun hHeld => ?_)
                                                          clear hK K
                                                          refine norm_ (a' := ?_) ?_ ?_
                                                          rotate_left
                                                          · show Act.put _ (some 101) _ = _
                                                            simp only [Act.put, List.setIfInBounds_toArray, List.set_cons_zero, List.set_cons_succ, i64_w, i32_w]
                                                            rfl
                                                          refine one_ (i := 4) (N := some 105) #[true, true, true, true, true, true, true, true, true, false, false] rfl rfl (one_of HT_.out (by kernel_rfl)) (by decide) (fun K hK => ?_)
                                                          refine Kd.R_append_rows_step k37 (w0 := w) w.heap.size (by rfl) (.tmp 101) (.tmp 104) 22 37 (.agg #[(.int .i64 0), (.int .i64 0)]) 16 rfl Try.underlying22 info37 rfl (by decide) (by omega) v442 y441 y444 _ _ _ (fun _ => True) (fun _ => False) rfl rfl ?aO ?aR (fun _ _ h => h) (fun _ h => h.elim) ?aF ?aB ?aS ?aL ?_
                                                          (case aR => exact Kd.pC ((Kd.C_below HR447.out HB.out)))
                                                          (case aB => exact (pB HB.out))
                                                          (case aF => exact (fun _ _ => trivial))
                                                          (case aO => exact (Kd.pR HO443.out))
                                                          (case aS => exact (below_size (pB HB.out)))
                                                          (case aL => have := LMc35.out; omega)
                                                          intro v449 w60 ho hb hg hat
                                                          rw [← Ny448.out] at ho
                                                          have n0_ := Aside0.mk (Kd.R_over' (Kd.pR HO_8.out) (Kd.R_typed (Kd.pR HO443.out)) (by decide) hg)
                                                          have n1_ := Aside0.mk (Kd.R_over' (Kd.pR HO_10.out) (Kd.R_typed (Kd.pR HO443.out)) (by decide) hg)
                                                          have n2_ := Aside0.mk (hb)
                                                          have n3_ := Aside0.mk (ho)
                                                          clear HO_8
                                                          clear HO_10
                                                          clear HB
                                                          clear HO443
                                                          have HO_8 := n0_
                                                          have HO_10 := n1_
                                                          have HB := n2_
                                                          have HO450 := n3_
                                                          clear n0_ n1_ n2_ n3_
                                                          clear ho hb hg hat
                                                          refine hK.out _ _ trivial (fun hHeld => ?_)
                                                          clear hK K
                                                          refine norm_ (a' := ?_) ?_ ?_
                                                          rotate_left
                                                          · show Act.put _ (some 105) _ = _
                                                            simp only [Act.put, List.setIfInBounds_toArray, List.set_cons_zero, List.set_cons_succ, i64_w, i32_w]
                                                            rfl
                                                          refine one_ (i := 9) (N := some 110) #[true, true, true, true, true, true, true, true, true, true, false] rfl rfl (one_of HT_.out (by kernel_rfl)) (by decide) (fun K hK => ?_)
                                                          refine Kd.R_append_rows_step k37 (w0 := w) w.heap.size (by rfl) (.tmp 105) (.tmp 109) 22 37 (.agg #[(.int .i64 0), (.int .i64 0)]) 16 rfl Try.underlying22 info37 rfl (by decide) (by omega) v449 y448 y451 _ _ _ (fun _ => True) (fun _ => False) rfl rfl ?aO ?aR (fun _ _ h => h) (fun _ h => h.elim) ?aF ?aB ?aS ?aL ?_
                                                          (case aR => exact Kd.pC ((Kd.C_below HR454.out HB.out)))
                                                          (case aB => exact (pB HB.out))
                                                          (case aF => exact (fun _ _ => trivial))
                                                          (case aO => exact (Kd.pR HO450.out))
                                                          (case aS => exact (below_size (pB HB.out)))
                                                          (case aL => have := LMc39.out; omega)
                                                          intro v456 w61 ho hb hg hat
                                                          rw [← Ny455.out] at ho
                                                          have n0_ := Aside0.mk (Kd.R_over' (Kd.pR HO_8.out) (Kd.R_typed (Kd.pR HO450.out)) (by decide) hg)
                                                          have n1_ := Aside0.mk (Kd.R_over' (Kd.pR HO_10.out) (Kd.R_typed (Kd.pR HO450.out)) (by decide) hg)
                                                          have n2_ := Aside0.mk (hb)
                                                          have n3_ := Aside0.mk (ho)
                                                          clear HO_8
                                                          clear HO_10
                                                          clear HB
                                                          clear HO450
                                                          have HO_8 := n0_
                                                          have HO_10 := n1_
                                                          have HB := n2_
                                                          have HO457 := n3_
                                                          clear n0_ n1_ n2_ n3_
                                                          clear ho hb hg hat
                                                          refine hK.out _ _ trivial (fun hHeld => ?_)
                                                          clear hK K
                                                          refine norm_ (a' := ?_) ?_ ?_
                                                          rotate_left
                                                          · show Act.put _ (some 110) _ = _
                                                            simp only [Act.put, List.setIfInBounds_toArray, List.set_cons_zero, List.set_cons_succ, i64_w, i32_w]
                                                            rfl
                                                          refine pure_ (i := 10) (N := some 13) (v := ?_) (a' := ?_) #[true, true, true, true, true, true, true, true, true, true, true] rfl rfl (any_of HT_.out (by kernel_rfl)) (fun _ _ _ h => h) (Or.inl ⟨by rfl, ?_⟩) ?_ ?_
                                                          rotate_left
                                                          · intro w'
                                                            go_simp
                                                            with_reducible rfl
                                                          rotate_left
                                                          · simp only [Act.put, List.setIfInBounds_toArray, List.set_cons_zero, List.set_cons_succ, i64_w, i32_w]
                                                            rfl
                                                          refine done_ (done_of HT_.out (by kernel_rfl)) ?_
                                                          have p458 : 0 ≤ (a2 : Int) := od
                                                          have q458 : a2 < (t429.length : Int) := od
                                                          obtain ⟨ad458, e458, hx458_0⟩ := Kd.at_int (Kd.R_reads' HO_8.out).2.2 a2 p458 q458
                                                          obtain rfl : ad438 = ad458 := (by injection e458)
                                                          replace p458 := eq_true p458
                                                          replace q458 := eq_true q458
                                                          obtain ⟨Ao62, co62, eo62⟩ := Kd.R_slice HO457.out
                                                          subst eo62
                                                          try go_wp2_with (first | ((with_reducible refine gate_callee (f := 13) rfl ?_); refine goesE (some 119) rfl rfl Try.func13 (by kernel_rfl) rfl #[.slice Ao62 y455.length co62, .int .i64 (wrap64 (a1 - (rd t429 a2)))] rfl ?_; (with_reducible refine (share_Split.calls k1 _ _ y455 (wrap64 (a1 - (rd t429 a2))) t459 t460 _ ?side1 ?side2 A40.out).mono ?_); (case side1 => exact Kd.pC ((Kd.R_reads' HO457.out).2.2)); (case side2 => exact (Kd.R_reads' HO457.out).2.1); rintro e w63 ⟨v461, rfl, ho0, hb⟩; refine ⟨_, rfl, ?_⟩; have n0_ := Aside0.mk (Kd.R_elder' (Kd.pR HO_8.out) (Kd.R_base ho0) hb); have n1_ := Aside0.mk (Kd.R_below (Kd.pR HO_10.out) hb); have n2_ := Aside0.mk (Kd.R_below (Kd.pR HO457.out) hb); have n3_ := Aside0.mk (Kd.R_lower (Kd.R_new' ho0 (Kd.R_lt (Kd.pR HO_8.out))) (below_size (pB HB.out))); have n4_ := Aside0.mk (below_step (pB HB.out) hb); clear HO_8; clear HO_10; clear HO457; clear HB; have HO_8 := n0_; have HO_10 := n1_; have HO457 := n2_; have HO462 := n3_; have HB := n4_; clear n0_ n1_ n2_ n3_ n4_; (try clear hb); (try clear hb2); (try clear hk); (try clear hi); (try clear ho0)) | ((with_reducible refine gate_callee (f := 11) rfl ?_); refine goesE (some 125) rfl rfl Try.func11 (by kernel_rfl) rfl #[.slice (some ad439) l0.length c0, .int .i64 a1] rfl ?_; (with_reducible refine (share_Level.calls k1 _ _ l0 a1 t463 t464 t465 _ ?side1 ?side2 A41.out).mono ?_); (case side1 => exact Kd.pC ((Kd.C_below HR0.out HB.out))); (case side2 => exact HC0.out); rintro e w64 ⟨rfl, hb⟩; refine ⟨_, rfl, ?_⟩; have n0_ := Aside0.mk (Kd.R_below (Kd.pR HO_8.out) hb); have n1_ := Aside0.mk (Kd.R_below (Kd.pR HO_10.out) hb); have n2_ := Aside0.mk (Kd.R_below (Kd.pR HO457.out) hb); have n3_ := Aside0.mk (Kd.R_below (Kd.pR HO462.out) hb); have n4_ := Aside0.mk (below_step (pB HB.out) hb); clear HO_8; clear HO_10; clear HO457; clear HO462; clear HB; have HO_8 := n0_; have HO_10 := n1_; have HO457 := n2_; have HO462 := n3_; have HB := n4_; clear n0_ n1_ n2_ n3_ n4_; (try clear hb); (try clear hb2); (try clear hk); (try clear hi)) | ((with_reducible refine gate_dst (N := 16) rfl ?_); (try (refine gate_guard (by rfl) ?_; dsimp only)); refine boxE (N := 16) (cs := #[.int .i64 0, .int .i64 0]) (t := 26) ?_; intro gb466 hg w65 hbox hb; have n0_ := Aside0.mk (Kd.R_below (Kd.pR HO_8.out) hb); have n1_ := Aside0.mk (Kd.R_below (Kd.pR HO_10.out) hb); have n2_ := Aside0.mk (Kd.R_below (Kd.pR HO457.out) hb); have n3_ := Aside0.mk (Kd.R_below (Kd.pR HO462.out) hb); have n4_ := Aside0.mk (below_step (pB HB.out) hb); have n5_ := Aside0.mk (hbox); have n6_ := Aside0.mk (pL HB.out hg); have n7_ := Aside0.mk (pL HB.out hg); clear HO_8; clear HO_10; clear HO457; clear HO462; clear HB; have HO_8 := n0_; have HO_10 := n1_; have HO457 := n2_; have HO462 := n3_; have HB := n4_; have BK466 := n5_; have GW466 := n6_; have GE466 := n7_; clear n0_ n1_ n2_ n3_ n4_ n5_ n6_ n7_; clear hb hbox hg; obtain ⟨hcz66_0, hcz66_1, hfz66_0, hfz66_1⟩ := bk2 BK466.out; have p467 : 0 ≤ (a2 : Int) := od; have q467 : a2 < (t429.length : Int) := od; obtain ⟨ad467, e467, hx467_0⟩ := Kd.at_int (Kd.R_reads' HO_8.out).2.2 a2 p467 q467; obtain rfl : ad438 = ad467 := (by injection e467); have hn467_0 : ad438.block ≠ gb466 := Kd.own_blk (Kd.R_ne HO_8.out BK466.out (by decide)); have hn467_1 : ad438.block ≠ gb466 := Kd.own_blk (Kd.R_ne HO_8.out BK466.out (by decide)); replace hx467_0 := (cell_far (p := ⟨gb466, 0, none⟩) (by first | (rw [add_block]; exact hn467_0) | (show (Addr.add _ _).block ≠ _; rw [add_block]; exact hn467_0) | exact hn467_0) (.int .i64 t463)).trans hx467_0; replace hx467_0 := (cell_far (p := ⟨gb466, 1, none⟩) (by first | (rw [add_block]; exact hn467_1) | (show (Addr.add _ _).block ≠ _; rw [add_block]; exact hn467_1) | exact hn467_1) (.int .i64 t464)).trans hx467_0; clear hn467_0; clear hn467_1; replace p467 := eq_true p467; replace q467 := eq_true q467) | ((with_reducible refine gate_callee (f := 11) rfl ?_); refine goesE (some 136) rfl rfl Try.func11 (by kernel_rfl) rfl #[.slice Ao62 y455.length co62, .int .i64 (wrap64 (a1 - (rd t429 a2)))] rfl ?_; (with_reducible refine (share_Level.calls k1 _ _ y455 (wrap64 (a1 - (rd t429 a2))) t468 t469 t470 _ ?side1 ?side2 A42.out).mono ?_); (case side1 => refine (Kd.R_reads' (e := 37) (base := w.heap.size) (ok := fun k_ => True) (n := y455.length) (c := co62) ?_).2.2; exact (Kd.pR ((Kd.R_mono (Kd.R_far (p := ⟨gb466, 1, none⟩) (Kd.R_far (p := ⟨gb466, 0, none⟩) (Kd.R_types HO457.out BK466.out (by decide)) (fun _ hk => hk.2) (.int .i64 t463)) (fun _ hk => hk.2) (.int .i64 t464)) (fun _ h_ => h_.1))))); (case side2 => exact (Kd.R_reads' HO457.out).2.1); rintro e w67 ⟨rfl, hb⟩; refine ⟨_, rfl, ?_⟩; have n0_ := Aside0.mk (Kd.R_below (Kd.pR ((Kd.R_mono (Kd.R_far (p := ⟨gb466, 1, none⟩) (Kd.R_far (p := ⟨gb466, 0, none⟩) (Kd.R_types HO_8.out BK466.out (by decide)) (fun _ hk => hk.2) (.int .i64 t463)) (fun _ hk => hk.2) (.int .i64 t464)) (fun _ h_ => h_.1)))) hb); have n1_ := Aside0.mk (Kd.R_below (Kd.pR ((Kd.R_mono (Kd.R_far (p := ⟨gb466, 1, none⟩) (Kd.R_far (p := ⟨gb466, 0, none⟩) (Kd.R_types HO_10.out BK466.out (by decide)) (fun _ hk => hk.2) (.int .i64 t463)) (fun _ hk => hk.2) (.int .i64 t464)) (fun _ h_ => h_.1)))) hb); have n2_ := Aside0.mk (Kd.R_below (Kd.pR ((Kd.R_mono (Kd.R_far (p := ⟨gb466, 1, none⟩) (Kd.R_far (p := ⟨gb466, 0, none⟩) (Kd.R_types HO457.out BK466.out (by decide)) (fun _ hk => hk.2) (.int .i64 t463)) (fun _ hk => hk.2) (.int .i64 t464)) (fun _ h_ => h_.1)))) hb); have n3_ := Aside0.mk (Kd.R_below (Kd.pR ((Kd.R_mono (Kd.R_far (p := ⟨gb466, 1, none⟩) (Kd.R_far (p := ⟨gb466, 0, none⟩) (Kd.R_types HO462.out BK466.out (by decide)) (fun _ hk => hk.2) (.int .i64 t463)) (fun _ hk => hk.2) (.int .i64 t464)) (fun _ h_ => h_.1)))) hb); have n4_ := Aside0.mk (blk_below (g := gb466) (o := .cells #[.int .i64 t463, .int .i64 t464] 26 (0, 0)) (by (with_reducible repeat (first | refine blk_drewN ?_ _ | refine blk_drew ?_ | refine blk_alloc ?_ _)); refine blk_put (cs := #[.int .i64 t463, .int .i64 0]) ?_ 1 _ rfl; (with_reducible repeat (first | refine blk_drewN ?_ _ | refine blk_drew ?_ | refine blk_alloc ?_ _)); refine blk_put (cs := #[.int .i64 0, .int .i64 0]) ?_ 0 _ rfl; (with_reducible repeat (first | refine blk_drewN ?_ _ | refine blk_drew ?_ | refine blk_alloc ?_ _)); exact BK466.out) hb); have n5_ := Aside0.mk (below_step (pB HB.out) hb); clear HO_8; clear HO_10; clear HO457; clear HO462; clear BK466; clear HB; have HO_8 := n0_; have HO_10 := n1_; have HO457 := n2_; have HO462 := n3_; have BK466 := n4_; have HB := n5_; clear n0_ n1_ n2_ n3_ n4_ n5_; (try clear hb); (try clear hb2); (try clear hk); (try clear hi)) | ((with_reducible refine gate_dst (N := 18) rfl ?_); (try (refine gate_guard (by rfl) ?_; dsimp only)); refine boxE (N := 18) (cs := #[.int .i64 0, .int .i64 0]) (t := 26) ?_; intro gb471 hg w68 hbox hb; have n0_ := Aside0.mk (Kd.R_below (Kd.pR HO_8.out) hb); have n1_ := Aside0.mk (Kd.R_below (Kd.pR HO_10.out) hb); have n2_ := Aside0.mk (Kd.R_below (Kd.pR HO457.out) hb); have n3_ := Aside0.mk (Kd.R_below (Kd.pR HO462.out) hb); have n4_ := Aside0.mk (blk_below (pK BK466.out) hb); have n5_ := Aside0.mk (below_step (pB HB.out) hb); have n6_ := Aside0.mk (hbox); have n7_ := Aside0.mk (pL HB.out hg); have n8_ := Aside0.mk (pL HB.out hg); have n9_ := Aside0.mk (pNl BK466.out hg); have n10_ := Aside0.mk (pNg BK466.out hg); clear HO_8; clear HO_10; clear HO457; clear HO462; clear BK466; clear HB; have HO_8 := n0_; have HO_10 := n1_; have HO457 := n2_; have HO462 := n3_; have BK466 := n4_; have HB := n5_; have BK471 := n6_; have GW471 := n7_; have GE471 := n8_; have NB466_471 := n9_; have NB471_466 := n10_; clear n0_ n1_ n2_ n3_ n4_ n5_ n6_ n7_ n8_ n9_ n10_; clear hb hbox hg; have hnb69 := NB471_466.out; have hnc69 := NB466_471.out; obtain ⟨hcz70_0, hcz70_1, hfz70_0, hfz70_1⟩ := bk2 BK471.out))
                                                          have n0_ : Aside0 (Kd.R (Kd.int .i64) 2 ((w68.setCell ⟨gb471, 0, none⟩ (.int .i64 t468)).setCell ⟨gb471, 1, none⟩ (.int .i64 t469)) w.heap.size (fun k_ => some k_ ≠ (v461 : Value).ownBlock) (.slice (some ad438) t429.length co22) t429) := ⟨Kd.pR (Kd.R_mono (Kd.R_far (p := ⟨gb471, 1, none⟩) (Kd.R_far (p := ⟨gb471, 0, none⟩) (Kd.R_types HO_8.out BK471.out (by decide)) (fun _ hk => hk.2) (.int .i64 t468)) (fun _ hk => hk.2) (.int .i64 t469)) (fun _ hk => hk.1.2))⟩
                                                          have n1_ : Aside0 (Kd.R (Kd.int .i64) 3 ((w68.setCell ⟨gb471, 0, none⟩ (.int .i64 t468)).setCell ⟨gb471, 1, none⟩ (.int .i64 t469)) w.heap.size (fun _ => True) (.slice Ao53 t433.length co53) t433) := ⟨Kd.pR (Kd.R_mono (Kd.R_far (p := ⟨gb471, 1, none⟩) (Kd.R_far (p := ⟨gb471, 0, none⟩) (Kd.R_types HO_10.out BK471.out (by decide)) (fun _ hk => hk.2) (.int .i64 t468)) (fun _ hk => hk.2) (.int .i64 t469)) (fun _ hk => trivial))⟩
                                                          have n2_ : Aside0 (Kd.R k37 37 ((w68.setCell ⟨gb471, 0, none⟩ (.int .i64 t468)).setCell ⟨gb471, 1, none⟩ (.int .i64 t469)) w.heap.size (fun _ => True) (.slice Ao62 y455.length co62) y455) := ⟨Kd.pR (Kd.R_mono (Kd.R_far (p := ⟨gb471, 1, none⟩) (Kd.R_far (p := ⟨gb471, 0, none⟩) (Kd.R_types HO457.out BK471.out (by decide)) (fun _ hk => hk.2) (.int .i64 t468)) (fun _ hk => hk.2) (.int .i64 t469)) (fun _ hk => trivial))⟩
                                                          have n3_ : Aside0 (Kd.R (Kd.int .i64) 2 ((w68.setCell ⟨gb471, 0, none⟩ (.int .i64 t468)).setCell ⟨gb471, 1, none⟩ (.int .i64 t469)) w.heap.size (fun k_ => some k_ ≠ (.slice (some ad438) t429.length co22 : Value).ownBlock) v461 t459) := ⟨Kd.pR (Kd.R_mono (Kd.R_far (p := ⟨gb471, 1, none⟩) (Kd.R_far (p := ⟨gb471, 0, none⟩) (Kd.R_types HO462.out BK471.out (by decide)) (fun _ hk => hk.2) (.int .i64 t468)) (fun _ hk => hk.2) (.int .i64 t469)) (fun _ hk => hk.1.2))⟩
                                                          have n4_ : Aside0 (((w68.setCell ⟨gb471, 0, none⟩ (.int .i64 t468)).setCell ⟨gb471, 1, none⟩ (.int .i64 t469)).heap[gb466]? = some (.cells #[.int .i64 t463, .int .i64 t464] 26 (0, 0))) := ⟨by (with_reducible repeat (first | refine blk_drewN ?_ _ | refine blk_drew ?_ | refine blk_alloc ?_ _)); refine blk_far ?_ NB466_471.out _; (with_reducible repeat (first | refine blk_drewN ?_ _ | refine blk_drew ?_ | refine blk_alloc ?_ _)); refine blk_far ?_ NB466_471.out _; (with_reducible repeat (first | refine blk_drewN ?_ _ | refine blk_drew ?_ | refine blk_alloc ?_ _)); exact BK466.out⟩
                                                          have n5_ : Aside0 (((w68.setCell ⟨gb471, 0, none⟩ (.int .i64 t468)).setCell ⟨gb471, 1, none⟩ (.int .i64 t469)).heap[gb471]? = some (.cells #[.int .i64 t468, .int .i64 t469] 26 (0, 0))) := ⟨by (with_reducible repeat (first | refine blk_drewN ?_ _ | refine blk_drew ?_ | refine blk_alloc ?_ _)); refine blk_put (cs := #[.int .i64 t468, .int .i64 0]) ?_ 1 _ rfl; (with_reducible repeat (first | refine blk_drewN ?_ _ | refine blk_drew ?_ | refine blk_alloc ?_ _)); refine blk_put (cs := #[.int .i64 0, .int .i64 0]) ?_ 0 _ rfl; (with_reducible repeat (first | refine blk_drewN ?_ _ | refine blk_drew ?_ | refine blk_alloc ?_ _)); exact BK471.out⟩
                                                          have n6_ : Aside0 (Below w.heap.size w ((w68.setCell ⟨gb471, 0, none⟩ (.int .i64 t468)).setCell ⟨gb471, 1, none⟩ (.int .i64 t469))) := ⟨pB HB.out⟩
                                                          (try clear HO_8)
                                                          (try clear HO_10)
                                                          (try clear HO457)
                                                          (try clear HO462)
                                                          (try clear BK466)
                                                          (try clear BK471)
                                                          (try clear HB)
                                                          generalize ((w68.setCell ⟨gb471, 0, none⟩ (.int .i64 t468)).setCell ⟨gb471, 1, none⟩ (.int .i64 t469)) = w71 at n0_ n1_ n2_ n3_ n4_ n5_ n6_ ⊢
                                                          have HO_8 := n0_
                                                          have HO_10 := n1_
                                                          have HO457 := n2_
                                                          have HO462 := n3_
                                                          have BK466 := n4_
                                                          have BK471 := n5_
                                                          have HB := n6_
                                                          clear n0_ n1_ n2_ n3_ n4_ n5_ n6_
                                                          have n0_ := Aside0.mk (Kd.R_drew HO_8.out)
                                                          have n1_ := Aside0.mk (Kd.R_drew HO_10.out)
                                                          have n2_ := Aside0.mk (Kd.R_drew HO457.out)
                                                          have n3_ := Aside0.mk (Kd.R_drew HO462.out)
                                                          have n4_ := Aside0.mk (blk_drew BK466.out)
                                                          have n5_ := Aside0.mk (blk_drew BK471.out)
                                                          have n6_ := Aside0.mk (below_drew1 HB.out)
                                                          clear HO_8
                                                          clear HO_10
                                                          clear HO457
                                                          clear HO462
                                                          clear BK466
                                                          clear BK471
                                                          clear HB
                                                          have HO_8 := n0_
                                                          have HO_10 := n1_
                                                          have HO457 := n2_
                                                          have HO462 := n3_
                                                          have BK466 := n4_
                                                          have BK471 := n5_
                                                          have HB := n6_
                                                          clear n0_ n1_ n2_ n3_ n4_ n5_ n6_
                                                          have q73 : (a2 : Int) ≤ ((t429.length : Int) : Int) := od
                                                          obtain ⟨i073, hi073, _, hsz73, _⟩ := info_parts info2
                                                          have hroom73 : t429.length ≤ co22 := (Kd.R_reads' HO_8.out).2.1
                                                          have hC73 : Kd.C (Kd.int .i64) _ (some ad438) t429.length t429 := (Kd.R_reads' HO_8.out).2.2
                                                          have hcut73 := cut_to (P := Try.prog) 33 2 .i64 Try.underlying33 hi073 (some ad438) t429.length co22 a2 od q73 hroom73
                                                          have hr73 := Kd.C_take (m := (a2 : Int).toNat) hC73 (by omega)
                                                          have hy73 : y475.length = (a2 : Int).toNat := (by rw [Ny475.out, List.length_take]; omega)
                                                          rw [← Ny475.out] at hr73
                                                          rw [← hy73] at hcut73
                                                          have HR478 := Aside0.mk hr73
                                                          have HC478 := Aside0.mk (show y475.length ≤ co22 from by omega)
                                                          clear hr73 hC73 hroom73 hi073 hsz73
                                                          have KY73 := Aside0.mk hy73
                                                          clear hy73
                                                          have KL73 := Aside0.mk (show (a2 : Int).toNat ≤ t429.length from by omega)
                                                          replace q73 := eq_true q73
                                                          have q74 : ((ji36) : Int) ≤ ((t429.length : Int) : Int) := od
                                                          obtain ⟨i074, hi074, _, hsz74, _⟩ := info_parts info2
                                                          have hroom74 : t429.length ≤ co22 := (Kd.R_reads' HO_8.out).2.1
                                                          have hC74 : Kd.C (Kd.int .i64) _ (some ad438) t429.length t429 := (Kd.R_reads' HO_8.out).2.2
                                                          have q074 : (0 : Int) ≤ ((ji36) : Int) := od
                                                          have hcut74 := cut_from (P := Try.prog) 33 2 .i64 Try.underlying33 hi074 1 hsz74 (some ad438) t429.length co22 (ji36) q074 q74
                                                          have hr74 := Kd.C_drop (m := ((ji36) : Int).toNat) (c := co22) hC74 (by omega) hroom74
                                                          obtain ⟨A74, hA74⟩ : ∃ A1, A1 = (if co22 = ((ji36) : Int).toNat then (some ad438) else ((some ad438) : Option Addr).map (·.add (((ji36) : Int).toNat * 1))) := ⟨_, rfl⟩
                                                          obtain ⟨c74, hc74⟩ : ∃ c1, c1 = co22 - ((ji36) : Int).toNat := ⟨_, rfl⟩
                                                          have hy74 : y482.length = t429.length - ((ji36) : Int).toNat := (by rw [Ny482.out, List.length_drop] <;> omega)
                                                          rw [show (t429).drop ((ji36) : Int).toNat = y482 from Ny482.out.symm] at hr74
                                                          replace hr74 : Kd.C (Kd.int .i64) _ A74 y482.length y482 := (by rw [hA74]; exact hr74)
                                                          rw [← hy74, ← hA74, ← hc74] at hcut74
                                                          have HR485 := Aside0.mk hr74
                                                          have HC485 := Aside0.mk (show y482.length ≤ c74 from by rw [hy74, hc74]; exact Nat.sub_le_sub_right hroom74 _)
                                                          clear hr74 hC74 hroom74 hi074 hsz74 hc74
                                                          have KY74 := Aside0.mk hy74
                                                          have KA74 := Aside0.mk hA74
                                                          clear hy74 hA74
                                                          have KL74 := Aside0.mk (show ((ji36) : Int).toNat ≤ t429.length from by omega)
                                                          replace q74 := eq_true q74
                                                          refine start_ (n := 30) (S := fun w' => w'.cell? ⟨gb466, 0, none⟩ = some (.int .i64 t463) ∧ w'.cell? ⟨gb466, 1, none⟩ = some (.int .i64 t464) ∧ w'.cell? ⟨gb471, 0, none⟩ = some (.int .i64 t468) ∧ w'.cell? ⟨gb471, 1, none⟩ = some (.int .i64 t469)) (ds := []) #[false, false, false, false, false, false, false, false, false, false, false, false, false, false, false, false, false, false, false, false, false, false, false, false, false, false, false, false, false, false] (by kernel_rfl) rfl rfl ⟨(blk_cell BK466.out 0).trans rfl, (blk_cell BK466.out 1).trans rfl, (blk_cell BK471.out 0).trans rfl, (blk_cell BK471.out 1).trans rfl⟩ (fun hHeld => ?_); refine with_tabW spigotlaw36_ShareAlone.tab19 spigotlaw36_ShareAlone.bits19 (fun HT_ HW_ => ?_)
                                                          generalize w71.drew = w72 at HO_8 HO_10 HO457 HO462 BK466 BK471 HB HR478 HR485 hHeld ⊢
                                                          refine pure_ (i := 0) (N := some 139) (v := ?_) (a' := ?_) #[true, false, false, false, false, false, false, false, false, false, false, false, false, false, false, false, false, false, false, false, false, false, false, false, false, false, false, false, false, false] rfl rfl (any_of HT_.out (by kernel_rfl)) (fun _ _ _ h => h) (Or.inl ⟨by rfl, ?_⟩) ?_ ?_
                                                          rotate_left
                                                          · intro w'
                                                            go_simp
                                                            with_reducible rfl
                                                          rotate_left
                                                          · simp only [Act.put, List.setIfInBounds_toArray, List.set_cons_zero, List.set_cons_succ, i64_w, i32_w]
                                                            rfl
                                                          refine pure_ (i := 1) (N := some 140) (v := ?_) (a' := ?_) #[true, true, false, false, false, false, false, false, false, false, false, false, false, false, false, false, false, false, false, false, false, false, false, false, false, false, false, false, false, false] rfl rfl (any_of HT_.out (by kernel_rfl)) (fun _ _ _ h => h) (Or.inl ⟨by rfl, ?_⟩) ?_ ?_
                                                          rotate_left
                                                          · intro w'
                                                            go_simp
                                                            with_reducible rfl
                                                          rotate_left
                                                          · simp only [Act.put, List.setIfInBounds_toArray, List.set_cons_zero, List.set_cons_succ, i64_w, i32_w]
                                                            rfl
                                                          refine pure_ (i := 2) (N := some 141) (v := ?_) (a' := ?_) #[true, true, true, false, false, false, false, false, false, false, false, false, false, false, false, false, false, false, false, false, false, false, false, false, false, false, false, false, false, false] rfl rfl (any_of HT_.out (by kernel_rfl)) (fun _ _ _ h => h) (Or.inl ⟨by rfl, ?_⟩) ?_ ?_
                                                          rotate_left
                                                          · intro w'
                                                            go_simp
                                                            with_reducible rfl
                                                          rotate_left
                                                          · simp only [Act.put, List.setIfInBounds_toArray, List.set_cons_zero, List.set_cons_succ, i64_w, i32_w]
                                                            rfl
                                                          refine pure_ (i := 3) (N := some 142) (v := ?_) (a' := ?_) #[true, true, true, true, false, false, false, false, false, false, false, false, false, false, false, false, false, false, false, false, false, false, false, false, false, false, false, false, false, false] rfl rfl (any_of HT_.out (by kernel_rfl)) (fun _ _ _ h => h) (Or.inl ⟨by rfl, ?_⟩) ?_ ?_
                                                          rotate_left
                                                          · intro w'
                                                            go_simp
                                                            with_reducible rfl
                                                          rotate_left
                                                          · simp only [Act.put, List.setIfInBounds_toArray, List.set_cons_zero, List.set_cons_succ, i64_w, i32_w]
                                                            rfl
                                                          refine pure_ (i := 4) (N := some 143) (v := ?_) (a' := ?_) #[true, true, true, true, true, false, false, false, false, false, false, false, false, false, false, false, false, false, false, false, false, false, false, false, false, false, false, false, false, false] rfl rfl (any_of HT_.out (by kernel_rfl)) (fun _ _ _ h => h) (Or.inl ⟨by rfl, ?_⟩) ?_ ?_
                                                          rotate_left
                                                          · intro w'
                                                            go_simp
                                                            with_reducible rfl
                                                          rotate_left
                                                          · simp only [Act.put, List.setIfInBounds_toArray, List.set_cons_zero, List.set_cons_succ, i64_w, i32_w]
                                                            rfl
                                                          refine pure_ (i := 5) (N := some 144) (v := ?_) (a' := ?_) #[true, true, true, true, true, true, false, false, false, false, false, false, false, false, false, false, false, false, false, false, false, false, false, false, false, false, false, false, false, false] rfl rfl (any_of HT_.out (by kernel_rfl)) (fun _ _ _ h => h) (Or.inl ⟨by rfl, ?_⟩) ?_ ?_
                                                          rotate_left
                                                          · intro w'
                                                            go_simp
                                                            with_reducible rfl
                                                          rotate_left
                                                          · simp only [Act.put, List.setIfInBounds_toArray, List.set_cons_zero, List.set_cons_succ, i64_w, i32_w]
                                                            rfl
                                                          refine pure_ (i := 6) (N := some 145) (v := ?_) (a' := ?_) #[true, true, true, true, true, true, true, false, false, false, false, false, false, false, false, false, false, false, false, false, false, false, false, false, false, false, false, false, false, false] rfl rfl (any_of HT_.out (by kernel_rfl)) (fun _ _ _ h => h) (Or.inl ⟨by rfl, ?_⟩) ?_ ?_
                                                          rotate_left
                                                          · intro w'
                                                            go_simp
                                                            with_reducible rfl
                                                          rotate_left
                                                          · simp only [Act.put, List.setIfInBounds_toArray, List.set_cons_zero, List.set_cons_succ, i64_w, i32_w]
                                                            rfl
                                                          refine pure_ (i := 8) (N := some 147) (v := ?_) (a' := ?_) #[true, true, true, true, true, true, true, false, true, false, false, false, false, false, false, false, false, false, false, false, false, false, false, false, false, false, false, false, false, false] rfl rfl (any_of HT_.out (by kernel_rfl)) (fun _ _ _ h => h) (Or.inl ⟨by rfl, ?_⟩) ?_ ?_
                                                          rotate_left
                                                          · intro w'
                                                            go_simp
                                                            with_reducible rfl
                                                          rotate_left
                                                          · simp only [Act.put, List.setIfInBounds_toArray, List.set_cons_zero, List.set_cons_succ, i64_w, i32_w]
                                                            rfl
                                                          refine pure_ (i := 9) (N := some 148) (v := ?_) (a' := ?_) #[true, true, true, true, true, true, true, false, true, true, false, false, false, false, false, false, false, false, false, false, false, false, false, false, false, false, false, false, false, false] rfl rfl (any_of HT_.out (by kernel_rfl)) (fun _ _ _ h => h) (Or.inl ⟨by rfl, ?_⟩) ?_ ?_
                                                          rotate_left
                                                          · intro w'
                                                            go_simp
                                                            with_reducible rfl
                                                          rotate_left
                                                          · simp only [Act.put, List.setIfInBounds_toArray, List.set_cons_zero, List.set_cons_succ, i64_w, i32_w]
                                                            rfl
                                                          refine pure_ (i := 10) (N := some 149) (v := ?_) (a' := ?_) #[true, true, true, true, true, true, true, false, true, true, true, false, false, false, false, false, false, false, false, false, false, false, false, false, false, false, false, false, false, false] rfl rfl (any_of HT_.out (by kernel_rfl)) (fun _ _ _ h => h) (Or.inl ⟨by rfl, ?_⟩) ?_ ?_
                                                          rotate_left
                                                          · intro w'
                                                            go_simp
                                                            with_reducible rfl
                                                          rotate_left
                                                          · simp only [Act.put, List.setIfInBounds_toArray, List.set_cons_zero, List.set_cons_succ, i64_w, i32_w]
                                                            rfl
                                                          refine pure_ (i := 12) (N := some 151) (v := ?_) (a' := ?_) #[true, true, true, true, true, true, true, false, true, true, true, false, true, false, false, false, false, false, false, false, false, false, false, false, false, false, false, false, false, false] rfl rfl (any_of HT_.out (by kernel_rfl)) (fun _ _ _ h => h) (Or.inl ⟨by rfl, ?_⟩) ?_ ?_
                                                          rotate_left
                                                          · intro w'
                                                            go_simp
                                                            with_reducible rfl
                                                          rotate_left
                                                          · simp only [Act.put, List.setIfInBounds_toArray, List.set_cons_zero, List.set_cons_succ, i64_w, i32_w]
                                                            rfl
                                                          refine pure_ (i := 13) (N := some 152) (v := ?_) (a' := ?_) #[true, true, true, true, true, true, true, false, true, true, true, false, true, true, false, false, false, false, false, false, false, false, false, false, false, false, false, false, false, false] rfl rfl (any_of HT_.out (by kernel_rfl)) (fun _ _ _ h => h) (Or.inl ⟨by rfl, ?_⟩) ?_ ?_
                                                          rotate_left
                                                          · intro w'
                                                            go_simp
                                                            with_reducible rfl
                                                          rotate_left
                                                          · simp only [Act.put, List.setIfInBounds_toArray, List.set_cons_zero, List.set_cons_succ, i64_w, i32_w]
                                                            rfl
                                                          refine pure_ (i := 14) (N := some 153) (v := ?_) (a' := ?_) #[true, true, true, true, true, true, true, false, true, true, true, false, true, true, true, false, false, false, false, false, false, false, false, false, false, false, false, false, false, false] rfl rfl (any_of HT_.out (by kernel_rfl)) (fun _ _ _ h => h) (Or.inl ⟨by rfl, ?_⟩) ?_ ?_
                                                          rotate_left
                                                          · intro w'
                                                            go_simp
                                                            with_reducible rfl
                                                          rotate_left
                                                          · simp only [Act.put, List.setIfInBounds_toArray, List.set_cons_zero, List.set_cons_succ, i64_w, i32_w]
                                                            rfl
                                                          refine pure_ (i := 15) (N := some 154) (v := ?_) (a' := ?_) #[true, true, true, true, true, true, true, false, true, true, true, false, true, true, true, true, false, false, false, false, false, false, false, false, false, false, false, false, false, false] rfl rfl (any_of HT_.out (by kernel_rfl)) (fun _ _ _ h => h) (Or.inl ⟨by rfl, ?_⟩) ?_ ?_
                                                          rotate_left
                                                          · intro w'
                                                            go_simp
                                                            with_reducible rfl
                                                          rotate_left
                                                          · simp only [Act.put, List.setIfInBounds_toArray, List.set_cons_zero, List.set_cons_succ, i64_w, i32_w]
                                                            rfl
                                                          refine one_ (i := 7) (N := some 146) #[true, true, true, true, true, true, true, true, true, true, true, false, true, true, true, true, false, false, false, false, false, false, false, false, false, false, false, false, false, false] rfl rfl (one_of HT_.out (by kernel_rfl)) (by decide) (fun K hK => ?_)
                                                          refine Kd.R_lit_step (Kd.int .i64) _ 2 ?hg (N := 146) ?hd (xs := ([] : List Int)) (inner := []) (ok := fun _ => True) (okp := fun _ => True) ?hr ?hp (fun _ hk => hk) trivial (Below.refl _ _) (Nat.le_refl _) (by simp) ?_; (case hd => rfl); (case hg => rfl); (case hr => first | (go_simp; done) | (go_simp; rfl)); (case hp => exact (Reps.none _ _))
                                                          intro v473 w75 ho76 hb hg_ hnew_
                                                          clear hg_ hnew_
                                                          (first | rw [← Ny472.out] at ho76 | (simp only [Int.reduceToNat] at ho76; rw [← Ny472.out] at ho76))
                                                          have n0_ := Aside0.mk (Kd.R_elder' (Kd.pR HO_8.out) (Kd.R_base ho76) hb)
                                                          have n1_ := Aside0.mk (Kd.R_below (Kd.pR HO_10.out) hb)
                                                          have n2_ := Aside0.mk (Kd.R_below (Kd.pR HO457.out) hb)
                                                          have n3_ := Aside0.mk (Kd.R_elder' (Kd.pR HO462.out) (Kd.R_base ho76) hb)
                                                          have n4_ := Aside0.mk (Kd.R_lower (Kd.R_new' (Kd.R_new' ho76 (Kd.R_lt (Kd.pR HO_8.out))) (Kd.R_lt (Kd.pR HO462.out))) (below_size (pB HB.out)))
                                                          have n5_ := Aside0.mk (blk_below (pK BK466.out) hb)
                                                          have n6_ := Aside0.mk (blk_below (pK BK471.out) hb)
                                                          have n7_ := Aside0.mk (Kd.C_below (Kd.pC HR478.out) hb)
                                                          have n8_ := Aside0.mk (Kd.C_below (Kd.pC HR485.out) hb)
                                                          have n9_ := Aside0.mk (below_step (pB HB.out) hb)
                                                          clear HO_8
                                                          clear HO_10
                                                          clear HO457
                                                          clear HO462
                                                          clear BK466
                                                          clear BK471
                                                          clear HR478
                                                          clear HR485
                                                          clear HB
                                                          have HO_8 := n0_
                                                          have HO_10 := n1_
                                                          have HO457 := n2_
                                                          have HO462 := n3_
                                                          have HO474 := n4_
                                                          have BK466 := n5_
                                                          have BK471 := n6_
                                                          have HR478 := n7_
                                                          have HR485 := n8_
                                                          have HB := n9_
                                                          clear n0_ n1_ n2_ n3_ n4_ n5_ n6_ n7_ n8_ n9_
                                                          clear hb ho76
                                                          refine hK.out _ _ ⟨(blk_cell BK466.out 0).trans rfl, (blk_cell BK466.out 1).trans rfl, (blk_cell BK471.out 0).trans rfl, (blk_cell BK471.out 1).trans rfl⟩ (fun hHeld => ?_)
                                                          clear hK K
                                                          refine norm_ (a' := ?_) ?_ ?_
                                                          rotate_left
                                                          · show Act.put _ (some 146) _ = _
                                                            simp only [Act.put, List.setIfInBounds_toArray, List.set_cons_zero, List.set_cons_succ, i64_w, i32_w]
                                                            rfl
                                                          refine one_ (i := 11) (N := some 150) #[true, true, true, true, true, true, true, true, true, true, true, true, true, true, true, true, false, false, false, false, false, false, false, false, false, false, false, false, false, false] rfl rfl (one_of HT_.out (by kernel_rfl)) (by decide) (fun K hK => ?_)
                                                          refine Kd.R_append_rows_step (Kd.int .i64) (w0 := w) w.heap.size (by rfl) (.tmp 146) (.tmp 149) 33 2 (.int .i64 0) 8 rfl Try.underlying33 info2 rfl (by decide) (by omega) v473 y472 y475 _ _ _ (fun k_ => some k_ ≠ (.slice (some ad438) t429.length co22 : Value).ownBlock ∧ some k_ ≠ (v461 : Value).ownBlock) (fun _ => False) rfl rfl ?aO ?aR (fun _ _ h => h) (fun _ h => h.elim) ?aF ?aB ?aS ?aL ?_
                                                          (case aR => exact Kd.pC HR478.out)
                                                          (case aB => exact (pB HB.out))
                                                          (case aF => exact (fun k_ hk => ⟨Kd.fresh' (Kd.R_lt (Kd.pR HO_8.out)) k_ hk, Kd.fresh' (Kd.R_lt (Kd.pR HO462.out)) k_ hk⟩))
                                                          (case aO => exact (Kd.pR (Kd.R_mono HO474.out (fun _ hk => ⟨hk.1.2, hk.2⟩))))
                                                          (case aS => exact (below_size (pB HB.out)))
                                                          (case aL => have := LMc46.out; omega)
                                                          intro v480 w77 ho hb hg hat
                                                          rw [← Ny479.out] at ho
                                                          have n0_ := Aside0.mk (Kd.R_after (ok := (fun k_ => some k_ ≠ (v461 : Value).ownBlock)) (Kd.pR HO_8.out) hg hat)
                                                          have n1_ := Aside0.mk (Kd.R_over' (Kd.pR HO_10.out) (Kd.R_typed (Kd.pR HO474.out)) (by decide) hg)
                                                          have n2_ := Aside0.mk (Kd.R_over' (Kd.pR HO457.out) (Kd.R_typed (Kd.pR HO474.out)) (by decide) hg)
                                                          have n3_ := Aside0.mk (Kd.R_after (ok := (fun k_ => some k_ ≠ (.slice (some ad438) t429.length co22 : Value).ownBlock)) (Kd.pR HO462.out) hg hat)
                                                          have n4_ := Aside0.mk (blk_grown (pK BK466.out) hg (Kd.R_ne HO474.out BK466.out (by decide)))
                                                          have n5_ := Aside0.mk (blk_grown (pK BK471.out) hg (Kd.R_ne HO474.out BK471.out (by decide)))
                                                          have n6_ := Aside0.mk (hb)
                                                          have n7_ := Aside0.mk ((show Kd.C (Kd.int .i64) w77 (some ad438) y475.length y475 from by rw [Ny475.out]; exact Kd.C_take (m := (a2 : Int).toNat) ((Kd.R_reads' (Kd.R_after (ok := (fun k_ => some k_ ≠ (v461 : Value).ownBlock)) (Kd.pR HO_8.out) hg hat)).2.2) KL73.out))
                                                          have n8_ := Aside0.mk ((show Kd.C (Kd.int .i64) w77 A74 y482.length y482 from by rw [Ny482.out, KA74.out]; exact Kd.C_drop (m := ((ji36) : Int).toNat) (c := co22) ((Kd.R_reads' (Kd.R_after (ok := (fun k_ => some k_ ≠ (v461 : Value).ownBlock)) (Kd.pR HO_8.out) hg hat)).2.2) KL74.out ((Kd.R_reads' (Kd.R_after (ok := (fun k_ => some k_ ≠ (v461 : Value).ownBlock)) (Kd.pR HO_8.out) hg hat)).2.1)))
                                                          have n9_ := Aside0.mk (ho)
                                                          clear HO_8
                                                          clear HO_10
                                                          clear HO457
                                                          clear HO462
                                                          clear BK466
                                                          clear BK471
                                                          clear HB
                                                          clear HR478
                                                          clear HR485
                                                          clear HO474
                                                          have HO_8 := n0_
                                                          have HO_10 := n1_
                                                          have HO457 := n2_
                                                          have HO462 := n3_
                                                          have BK466 := n4_
                                                          have BK471 := n5_
                                                          have HB := n6_
                                                          have HR478 := n7_
                                                          have HR485 := n8_
                                                          have HO481 := n9_
                                                          clear n0_ n1_ n2_ n3_ n4_ n5_ n6_ n7_ n8_ n9_
                                                          clear ho hb hg hat
                                                          refine hK.out _ _ ⟨(blk_cell BK466.out 0).trans rfl, (blk_cell BK466.out 1).trans rfl, (blk_cell BK471.out 0).trans rfl, (blk_cell BK471.out 1).trans rfl⟩ (fun hHeld => ?_)
                                                          clear hK K
                                                          refine norm_ (a' := ?_) ?_ ?_
                                                          rotate_left
                                                          · show Act.put _ (some 150) _ = _
                                                            simp only [Act.put, List.setIfInBounds_toArray, List.set_cons_zero, List.set_cons_succ, i64_w, i32_w]
                                                            rfl
                                                          refine one_ (i := 16) (N := some 155) #[true, true, true, true, true, true, true, true, true, true, true, true, true, true, true, true, true, false, false, false, false, false, false, false, false, false, false, false, false, false] rfl rfl (one_of HT_.out (by kernel_rfl)) (by decide) (fun K hK => ?_)
                                                          refine Kd.R_append_rows_step (Kd.int .i64) (w0 := w) w.heap.size (by rfl) (.tmp 150) (.tmp 154) 33 2 (.int .i64 0) 8 rfl Try.underlying33 info2 rfl (by decide) (by omega) v480 y479 y482 _ _ _ (fun k_ => some k_ ≠ (.slice (some ad438) t429.length co22 : Value).ownBlock ∧ some k_ ≠ (v461 : Value).ownBlock) (fun _ => False) rfl rfl ?aO ?aR (fun _ _ h => h) (fun _ h => h.elim) ?aF ?aB ?aS ?aL ?_
                                                          (case aR => exact Kd.pC HR485.out)
                                                          (case aB => exact (pB HB.out))
                                                          (case aF => exact (fun k_ hk => ⟨Kd.fresh' (Kd.R_lt (Kd.pR HO_8.out)) k_ hk, Kd.fresh' (Kd.R_lt (Kd.pR HO462.out)) k_ hk⟩))
                                                          (case aO => exact (Kd.pR HO481.out))
                                                          (case aS => exact (below_size (pB HB.out)))
                                                          (case aL => have := LMc49.out; omega)
                                                          intro v487 w78 ho hb hg hat
                                                          rw [← Ny486.out] at ho
                                                          have n0_ := Aside0.mk (Kd.R_after (ok := (fun k_ => some k_ ≠ (v461 : Value).ownBlock)) (Kd.pR HO_8.out) hg hat)
                                                          have n1_ := Aside0.mk (Kd.R_over' (Kd.pR HO_10.out) (Kd.R_typed (Kd.pR HO481.out)) (by decide) hg)
                                                          have n2_ := Aside0.mk (Kd.R_over' (Kd.pR HO457.out) (Kd.R_typed (Kd.pR HO481.out)) (by decide) hg)
                                                          have n3_ := Aside0.mk (Kd.R_after (ok := (fun k_ => some k_ ≠ (.slice (some ad438) t429.length co22 : Value).ownBlock)) (Kd.pR HO462.out) hg hat)
                                                          have n4_ := Aside0.mk (blk_grown (pK BK466.out) hg (Kd.R_ne HO481.out BK466.out (by decide)))
                                                          have n5_ := Aside0.mk (blk_grown (pK BK471.out) hg (Kd.R_ne HO481.out BK471.out (by decide)))
                                                          have n6_ := Aside0.mk (hb)
                                                          have n7_ := Aside0.mk ((show Kd.C (Kd.int .i64) w78 (some ad438) y475.length y475 from by rw [Ny475.out]; exact Kd.C_take (m := (a2 : Int).toNat) ((Kd.R_reads' (Kd.R_after (ok := (fun k_ => some k_ ≠ (v461 : Value).ownBlock)) (Kd.pR HO_8.out) hg hat)).2.2) KL73.out))
                                                          have n8_ := Aside0.mk ((show Kd.C (Kd.int .i64) w78 A74 y482.length y482 from by rw [Ny482.out, KA74.out]; exact Kd.C_drop (m := ((ji36) : Int).toNat) (c := co22) ((Kd.R_reads' (Kd.R_after (ok := (fun k_ => some k_ ≠ (v461 : Value).ownBlock)) (Kd.pR HO_8.out) hg hat)).2.2) KL74.out ((Kd.R_reads' (Kd.R_after (ok := (fun k_ => some k_ ≠ (v461 : Value).ownBlock)) (Kd.pR HO_8.out) hg hat)).2.1)))
                                                          have n9_ := Aside0.mk (ho)
                                                          clear HO_8
                                                          clear HO_10
                                                          clear HO457
                                                          clear HO462
                                                          clear BK466
                                                          clear BK471
                                                          clear HB
                                                          clear HR478
                                                          clear HR485
                                                          clear HO481
                                                          have HO_8 := n0_
                                                          have HO_10 := n1_
                                                          have HO457 := n2_
                                                          have HO462 := n3_
                                                          have BK466 := n4_
                                                          have BK471 := n5_
                                                          have HB := n6_
                                                          have HR478 := n7_
                                                          have HR485 := n8_
                                                          have HO488 := n9_
                                                          clear n0_ n1_ n2_ n3_ n4_ n5_ n6_ n7_ n8_ n9_
                                                          clear ho hb hg hat
                                                          obtain ⟨Ao79, co79, eo79⟩ := Kd.R_slice HO462.out
                                                          (first | subst eo79 | (injection eo79 with f1_ f2_ f3_; have f4_ := f1_.symm; have f5_ := f3_.symm; clear f1_ f2_ f3_; subst f4_; subst f5_))
                                                          obtain ⟨Ao80, co80, eo80⟩ := Kd.R_slice HO488.out
                                                          (first | subst eo80 | (injection eo80 with f1_ f2_ f3_; have f4_ := f1_.symm; have f5_ := f3_.symm; clear f1_ f2_ f3_; subst f4_; subst f5_))
                                                          refine hK.out _ _ ⟨(blk_cell BK466.out 0).trans rfl, (blk_cell BK466.out 1).trans rfl, (blk_cell BK471.out 0).trans rfl, (blk_cell BK471.out 1).trans rfl⟩ (fun hHeld => ?_)
                                                          clear hK K
                                                          refine norm_ (a' := ?_) ?_ ?_
                                                          rotate_left
                                                          · show Act.put _ (some 155) _ = _
                                                            simp only [Act.put, List.setIfInBounds_toArray, List.set_cons_zero, List.set_cons_succ, i64_w, i32_w]
                                                            rfl
                                                          refine one_ (i := 17) (N := some 156) #[true, true, true, true, true, true, true, true, true, true, true, true, true, true, true, true, true, true, false, false, false, false, false, false, false, false, false, false, false, false] rfl rfl (one_of HT_.out (by kernel_rfl)) (by decide) (fun K hK => ?_)
                                                          refine goes_ Try.func14 (by kernel_rfl) rfl #[.slice Ao79 t459.length co79, .slice Ao80 y486.length co80] (by rfl) rfl rfl (by (try simp only [List.map_toArray, List.map_cons, List.map_nil]); first | done | rfl | (simp only [List.length_drop, List.length_take]; rfl)) ?_
                                                          with_reducible refine (spigotref36_Same.calls k1 _ _ t459 _ _ y486 true _ ?side1 ?side2 ?side3 ?side4 A50.out).mono ?_
                                                          (case side1 => exact Kd.pC ((Kd.R_reads' HO462.out).2.2))
                                                          (case side2 => exact (Kd.R_reads' HO462.out).2.1)
                                                          (case side3 => exact Kd.pC ((Kd.R_reads' HO488.out).2.2))
                                                          (case side4 => exact (Kd.R_reads' HO488.out).2.1)
                                                          rintro e w' ⟨rfl, ⟨nd, rfl⟩⟩
                                                          refine ⟨_, rfl, ?_⟩
                                                          refine hK.out _ _ ⟨(blk_cell BK466.out 0).trans rfl, (blk_cell BK466.out 1).trans rfl, (blk_cell BK471.out 0).trans rfl, (blk_cell BK471.out 1).trans rfl⟩ (fun hHeld => ?_)
                                                          clear hK K
                                                          refine norm_ (a' := ?_) ?_ ?_
                                                          rotate_left
                                                          · show Act.put _ (some 156) _ = _
                                                            simp only [Act.put, List.setIfInBounds_toArray, List.set_cons_zero, List.set_cons_succ, i64_w, i32_w]
                                                            rfl
                                                          refine pure_ (i := 18) (N := some 157) (v := ?_) (a' := ?_) #[true, true, true, true, true, true, true, true, true, true, true, true, true, true, true, true, true, true, true, false, false, false, false, false, false, false, false, false, false, false] rfl rfl (any_of HT_.out (by kernel_rfl)) (fun _ _ _ h => h) (Or.inl ⟨by rfl, ?_⟩) ?_ ?_
                                                          rotate_left
                                                          · intro w'
                                                            go_simp
                                                            with_reducible rfl
                                                          rotate_left
                                                          · simp only [Act.put, List.setIfInBounds_toArray, List.set_cons_zero, List.set_cons_succ, i64_w, i32_w]
                                                            rfl
                                                          refine pure_ (i := 19) (N := some 158) (v := ?_) (a' := ?_) #[true, true, true, true, true, true, true, true, true, true, true, true, true, true, true, true, true, true, true, true, false, false, false, false, false, false, false, false, false, false] rfl rfl (any_of HT_.out (by kernel_rfl)) (fun _ _ _ h => h) (Or.inl ⟨by rfl, ?_⟩) ?_ ?_
                                                          rotate_left
                                                          · intro w'
                                                            go_simp
                                                            with_reducible rfl
                                                          rotate_left
                                                          · simp only [Act.put, List.setIfInBounds_toArray, List.set_cons_zero, List.set_cons_succ, i64_w, i32_w]
                                                            rfl
                                                          refine pure_ (i := 20) (N := some 159) (v := ?_) (a' := ?_) #[true, true, true, true, true, true, true, true, true, true, true, true, true, true, true, true, true, true, true, true, true, false, false, false, false, false, false, false, false, false] rfl rfl (any_of HT_.out (by kernel_rfl)) (fun _ _ _ h => h) (Or.inl ⟨by rfl, ?_⟩) ?_ ?_
                                                          rotate_left
                                                          · intro w'
                                                            go_simp
                                                            with_reducible rfl
                                                          rotate_left
                                                          · simp only [Act.put, List.setIfInBounds_toArray, List.set_cons_zero, List.set_cons_succ, i64_w, i32_w]
                                                            rfl
                                                          refine pure_ (i := 21) (N := some 160) (v := ?_) (a' := ?_) #[true, true, true, true, true, true, true, true, true, true, true, true, true, true, true, true, true, true, true, true, true, true, false, false, false, false, false, false, false, false] rfl rfl (any_of HT_.out (by kernel_rfl)) (fun _ _ _ h => h) (Or.inl ⟨by rfl, ?_⟩) ?_ ?_
                                                          rotate_left
                                                          · intro w'
                                                            go_simp
                                                            with_reducible rfl
                                                          rotate_left
                                                          · simp only [Act.put, List.setIfInBounds_toArray, List.set_cons_zero, List.set_cons_succ, i64_w, i32_w]
                                                            rfl
                                                          refine pure_ (i := 22) (N := some 161) (v := ?_) (a' := ?_) #[true, true, true, true, true, true, true, true, true, true, true, true, true, true, true, true, true, true, true, true, true, true, true, false, false, false, false, false, false, false] rfl rfl (any_of HT_.out (by kernel_rfl)) (fun _ _ _ h => h) (Or.inl ⟨by rfl, ?_⟩) ?_ ?_
                                                          rotate_left
                                                          · intro w'
                                                            go_simp
                                                            with_reducible rfl
                                                          rotate_left
                                                          · simp only [Act.put, List.setIfInBounds_toArray, List.set_cons_zero, List.set_cons_succ, i64_w, i32_w]
                                                            rfl
                                                          refine pure_ (i := 23) (N := some 162) (v := ?_) (a' := ?_) #[true, true, true, true, true, true, true, true, true, true, true, true, true, true, true, true, true, true, true, true, true, true, true, true, false, false, false, false, false, false] rfl rfl (any_of HT_.out (by kernel_rfl)) (fun _ _ _ h => h) (Or.inl ⟨by rfl, ?_⟩) ?_ ?_
                                                          rotate_left
                                                          · intro w'
                                                            go_simp
                                                            with_reducible rfl
                                                          rotate_left
                                                          · simp only [Act.put, List.setIfInBounds_toArray, List.set_cons_zero, List.set_cons_succ, i64_w, i32_w]
                                                            rfl
                                                          refine pure_ (i := 24) (N := some 163) (v := ?_) (a' := ?_) #[true, true, true, true, true, true, true, true, true, true, true, true, true, true, true, true, true, true, true, true, true, true, true, true, true, false, false, false, false, false] rfl rfl (any_of HT_.out (by kernel_rfl)) (fun _ _ _ h => h) (Or.inl ⟨by rfl, ?_⟩) ?_ ?_
                                                          rotate_left
                                                          · intro w'
                                                            go_simp
                                                            with_reducible rfl
                                                          rotate_left
                                                          · simp only [Act.put, List.setIfInBounds_toArray, List.set_cons_zero, List.set_cons_succ, i64_w, i32_w]
                                                            rfl
                                                          refine take_ (i := 25) (N := some 164) (v := ?_) (a' := ?_) #[true, true, true, true, true, true, true, true, true, true, true, true, true, true, true, true, true, true, true, true, true, true, true, true, true, true, false, false, false, false] rfl rfl (take_ofW HT_.out HW_.out (by kernel_rfl)) (fun _ _ _ h => h) (Or.inl ⟨by rfl, ?_⟩) hHeld ?_ ?_
                                                          rotate_left
                                                          · rintro w' ⟨s0, s1, s2, s3⟩
                                                            go_simp
                                                            with_reducible rfl
                                                          rotate_left
                                                          · simp only [Act.put, List.setIfInBounds_toArray, List.set_cons_zero, List.set_cons_succ, i64_w, i32_w]
                                                            rfl
                                                          refine take_ (i := 26) (N := some 165) (v := ?_) (a' := ?_) #[true, true, true, true, true, true, true, true, true, true, true, true, true, true, true, true, true, true, true, true, true, true, true, true, true, true, true, false, false, false] rfl rfl (take_ofW HT_.out HW_.out (by kernel_rfl)) (fun _ _ _ h => h) (Or.inl ⟨by rfl, ?_⟩) hHeld ?_ ?_
                                                          rotate_left
                                                          · rintro w' ⟨s0, s1, s2, s3⟩
                                                            go_simp
                                                            with_reducible rfl
                                                          rotate_left
                                                          · simp only [Act.put, List.setIfInBounds_toArray, List.set_cons_zero, List.set_cons_succ, i64_w, i32_w]
                                                            rfl
                                                          refine pure_ (i := 27) (N := some 166) (v := ?_) (a' := ?_) #[true, true, true, true, true, true, true, true, true, true, true, true, true, true, true, true, true, true, true, true, true, true, true, true, true, true, true, true, false, false] rfl rfl (any_of HT_.out (by kernel_rfl)) (fun _ _ _ h => h) (Or.inl ⟨by rfl, ?_⟩) ?_ ?_
                                                          rotate_left
                                                          · intro w'
                                                            go_simp
                                                            with_reducible rfl
                                                          rotate_left
                                                          · simp only [Act.put, List.setIfInBounds_toArray, List.set_cons_zero, List.set_cons_succ, i64_w, i32_w]
                                                            rfl
                                                          refine pure_ (i := 28) (N := some 167) (v := ?_) (a' := ?_) #[true, true, true, true, true, true, true, true, true, true, true, true, true, true, true, true, true, true, true, true, true, true, true, true, true, true, true, true, true, false] rfl rfl (any_of HT_.out (by kernel_rfl)) (fun _ _ _ h => h) (Or.inl ⟨by rfl, ?_⟩) ?_ ?_
                                                          rotate_left
                                                          · intro w'
                                                            go_simp
                                                            with_reducible rfl
                                                          rotate_left
                                                          · simp only [Act.put, List.setIfInBounds_toArray, List.set_cons_zero, List.set_cons_succ, i64_w, i32_w]
                                                            rfl
                                                          refine pure_ (i := 29) (N := some 6) (v := ?_) (a' := ?_) #[true, true, true, true, true, true, true, true, true, true, true, true, true, true, true, true, true, true, true, true, true, true, true, true, true, true, true, true, true, true] rfl rfl (any_of HT_.out (by kernel_rfl)) (fun _ _ _ h => h) (Or.inl ⟨by rfl, ?_⟩) ?_ ?_
                                                          rotate_left
                                                          · intro w'
                                                            go_simp
                                                            with_reducible rfl
                                                          rotate_left
                                                          · simp only [Act.put, List.setIfInBounds_toArray, List.set_cons_zero, List.set_cons_succ, i64_w, i32_w]
                                                            rfl
                                                          refine done_ (done_of HT_.out (by kernel_rfl)) ?_
                                                          try go_wp2
                                                          go_ret
                                                          exact ⟨by first | rfl | (simp [errW_none, errW_some] <;> rfl) | (simp only [← hji36]; first | rfl | (simp [errW_none, errW_some] <;> rfl)) | (simp [*, errW_none, errW_some] <;> rfl) | (rw [HRT.out] <;> rfl) | (simp [HRT.out]; done) | (have h_ := HRT.out; simp [*] at h_ ⊢ <;> first | done | assumption | omega) | (have h_ := HRT.out; simp [*] at h_; done), pB HB.out⟩
                                                        · rw [if_neg c52] at H
                                                          have c52b0 : (t465 == t470) = false := beq_eq_false_iff_ne.mpr c52
                                                          have c52b1 : (t465 != t470) = true := bne_iff_ne.mpr c52
                                                          exact absurd H (by repeat' (first | exact NT.none | exact NT.ff | refine NT.ite ?_ ?_ | refine NT.bind fun _ => ?_))
                                                      · replace c51 := Bool.eq_false_iff.mpr c51
                                                        subst c51
                                                        have H1 : (some false) = some true := by rw [if_neg (show ¬ (false = true) by decide)] at H; exact H
                                                        clear H
                                                        have H := H1
                                                        clear H1
                                                        exact absurd H (by repeat' (first | exact NT.none | exact NT.ff | refine NT.ite ?_ ?_ | refine NT.bind fun _ => ?_))
                                                    · rw [if_neg c49] at H
                                                      exact absurd H (by simp)
                                                  · rw [if_neg c48] at H
                                                    exact absurd H (by simp)
                                                · rw [if_neg c46] at H
                                                  exact absurd H (by simp)
                                              · rw [if_neg c45] at H
                                                exact absurd H (by simp)
                                            · rw [if_neg c43] at H
                                              have c43b0 : (t460 == 0) = false := beq_eq_false_iff_ne.mpr c43
                                              have c43b1 : (t460 != 0) = true := bne_iff_ne.mpr c43
                                              exact absurd H (by repeat' (first | exact NT.none | exact NT.ff | refine NT.ite ?_ ?_ | refine NT.bind fun _ => ?_))
                                          · rw [if_neg c39] at H
                                            exact absurd H (by simp)
                                        · rw [if_neg c38] at H
                                          exact absurd H (by simp)
                                      · rw [if_neg c37] at H
                                        exact absurd H (by simp)
                                    · rw [if_neg c35] at H
                                      exact absurd H (by simp)
                                  · rw [if_neg c34] at H
                                    exact absurd H (by simp)
                              · rw [if_neg c31] at H
                                have c31b0 : ((rd t429 a2) == ((rd_T37 l0 a2).f0)) = false := beq_eq_false_iff_ne.mpr c31
                                have c31b1 : ((rd t429 a2) != ((rd_T37 l0 a2).f0)) = true := bne_iff_ne.mpr c31
                                exact absurd H (by repeat' (first | exact NT.none | exact NT.ff | refine NT.ite ?_ ?_ | refine NT.bind fun _ => ?_))
                            · rw [if_neg c30] at H
                              exact absurd H (by simp)
                          · rw [if_neg c29] at H
                            exact absurd H (by simp)
                        · rw [if_neg c28] at H
                          exact absurd H (by simp)
                · rw [if_neg c18] at H
                  have c18b0 : ((t429.length : Int) == (l0.length : Int)) = false := beq_eq_false_iff_ne.mpr c18
                  have c18b1 : ((t429.length : Int) != (l0.length : Int)) = true := bne_iff_ne.mpr c18
                  have c18b2 : (t429.length == l0.length) = false := by first | simpa using c18 | (simp at c18 ⊢; omega)
                  exact absurd H (by simp)
              · rw [if_neg c17] at H
                have c17b0 : (t434 == 0) = false := beq_eq_false_iff_ne.mpr c17
                have c17b1 : (t434 != 0) = true := bne_iff_ne.mpr c17
                exact absurd H (by simp)
            · rw [if_neg c16] at H
              have c16b0 : (t430 == 0) = false := beq_eq_false_iff_ne.mpr c16
              have c16b1 : (t430 != 0) = true := bne_iff_ne.mpr c16
              exact absurd H (by simp)
      · rw [if_neg c9] at H
        have c9b0 : (t428 == 0) = false := beq_eq_false_iff_ne.mpr c9
        have c9b1 : (t428 != 0) = true := bne_iff_ne.mpr c9
        clear H
        go_enter Try.func5, Try.ntmps5
        go_wp2_with (first | ((with_reducible refine gate_callee (f := 9) rfl ?_); refine goesE (some 20) rfl rfl Try.func9 (by kernel_rfl) rfl #[] rfl ?_; (with_reducible refine (spigotlaw36_alive.calls k   _ A4.out).mono ?_); rintro e w81 ⟨rfl, hb⟩; refine ⟨_, rfl, ?_⟩; have n0_ := Aside0.mk (below_step (pB HB.out) hb); clear HB; have HB := n0_; clear n0_; (try clear hb); (try clear hb2); (try clear hk); (try clear hi)) | (go_at_call 10; (with_reducible refine (spigotref36_Asked.calls k _ _ l0 a1 t428 _ ?side1 ?side2 A8.out).mono ?_); (case side1 => exact Kd.pC ((Kd.C_below HR0.out HB.out))); (case side2 => exact HC0.out); rintro e w' ⟨rfl, ⟨nd, rfl⟩⟩))
        go_ret
        exact ⟨by first | rfl | (simp [errW_none, errW_some] <;> rfl) | (simp [*, errW_none, errW_some] <;> rfl), pB HB.out⟩
  · replace c5 := Bool.eq_false_iff.mpr c5
    subst c5
    have H1 : (none) = some true := by rw [if_neg (show ¬ (false = true) by decide)] at H; exact H
    clear H
    have H := H1
    clear H1
    exact absurd H (by simp)

/-- THE ONE PURE STATEMENT of spigotlaw36_ShareAlone. -/
def spigotlaw36_ShareAlone.Pure : Prop := ∀ (l0 : List (S37)) (a1 : Int) (a2 : Int), ((∀ x ∈ l0, ((Lit.int .i64 x.f0).wf = true) ∧ ((Lit.int .i64 x.f1).wf = true)) ∧ l0.length ≤ maxLen) → ((Lit.int .i64 a1).wf = true) → ((Lit.int .i64 a2).wf = true) → ∃ k, spigotlaw36_ShareAlone.f k l0 a1 a2 = some true

end Go.Proofs.Yteeceppbnkkfpaa.PShare
