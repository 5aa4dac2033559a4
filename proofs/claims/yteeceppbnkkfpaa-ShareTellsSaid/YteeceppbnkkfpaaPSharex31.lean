-- printed by a program of this session (a turned copy of the kit's print); Lean checks it
import Derived.Test.YteeceppbnkkfpaaPSharex0
import Derived.Test.YteeceppbnkkfpaaPSharex1
import Derived.Test.YteeceppbnkkfpaaPSharex2
import Derived.Test.YteeceppbnkkfpaaPSharex3
import Derived.Test.YteeceppbnkkfpaaPSharex12
import Derived.Test.YteeceppbnkkfpaaPSharex13
import Derived.Test.YteeceppbnkkfpaaPSharex14
import Derived.Test.YteeceppbnkkfpaaPSharex15
import Derived.Test.YteeceppbnkkfpaaPSharex16
import Derived.Test.YteeceppbnkkfpaaPSharex18
import Derived.Test.YteeceppbnkkfpaaPSharex26
import Derived.Test.YteeceppbnkkfpaaPSharex27
import Derived.Test.YteeceppbnkkfpaaPSharex28
import Derived.Test.YteeceppbnkkfpaaPSharex29
import Derived.Test.YteeceppbnkkfpaaPSharex30
namespace Go.Proofs.Yteeceppbnkkfpaa.PShare
open Go.RowKit Go.Proofs.YteeceppbnkkfpaaW.PrintWords Go.Proofs.YteeceppbnkkfpaaW.PrintLast Go.Proofs.YteeceppbnkkfpaaW.PrintMore
attribute [local go_sem] max2_int min2_int max_two min_two max_three min_three max_four min_four   -- for this text's walks alone
set_option linter.unusedVariables false
set_option linter.unusedSimpArgs false

attribute [local go_sem high] eqA26 eqA37
/-! ### spigotlaw36_ShareTells: function 6 -/
def spigotlaw36_ShareTells.l0 : Nat → List (S37) → List (S37) → Int → Int → List Int → Int → List Int → Int → List Int → Int → List Int → Int → Bool → Int → Bool → Int → Int → Int → Int → Int → Int → Option (Bool)
  | 0, _, _, _, _, _, _, _, _, _, _, _, _, _, _, _, _, _, _, _, _, _ => none
  | k + 1, x0, x7, x9, x11, x12, x13, x14, x15, x16, x17, x18, x19, x20, x21, x22, x23, x24, x564000, x564001, x568000, x568001 => if x24 < (x0.length : Int) then (if 0 ≤ x24 then (if x24 < (x7.length : Int) then (if (!(((rd_T37 x0 x24).f0) == ((rd_T37 x7 x24).f0)) || (!(((rd_T37 x0 x24).f1) == ((rd_T37 x7 x24).f1)))) = true then (some false) else (spigotlaw36_ShareTells.l0 k x0 x7 x9 x11 x12 x13 x14 x15 x16 x17 x18 x19 x20 x21 x22 x23 (wrap64 (x24 + 1)) x564000 x564001 x568000 x568001)) else (none)) else (none)) else ((share_Check.f k x0).bind fun t590 => ((spigotref36_Check.f k x0).bind fun t591 => (if t590 = t591 then (if (x564000 == x568000 && (x564001 == x568001)) = true then (if x9 = x11 then ((spigotref36_SameInts.f k x12 x14).bind fun t592 => (if t592 = true then (if x13 = x15 then ((spigotref36_Same.f k x16 x18).bind fun t593 => (if t593 = true then (if x17 = x19 then (if (x20 == x22) = true then (some (x21 == x23)) else (some false)) else (some false)) else (some false))) else (some false)) else (some false))) else (some false)) else (some false)) else (some false))))
def spigotlaw36_ShareTells.f (k : Nat) (l0 : List (S37)) (a1 : Int) (l2 : List Int) : Option (Bool) := if (l0.length : Int) > 20 then (some true) else (if (l2.length : Int) > 20 then (some true) else ((some (([] : List (S37)) : List (S37))).bind fun y554 => (if y554.length + l0.length < 8796093022208 then ((share_Level.f k l0 a1).bind fun bt560 => ((spigotref36_Level.f k l0 a1).bind fun bt564 => ((share_Short.f k l0 a1).bind fun bt568 => ((spigotref36_Short.f k l0 a1).bind fun bt572 => ((share_Split.f k l0 a1).bind fun bt576 => ((spigotref36_Split.f k l0 a1).bind fun bt580 => ((share_Fair.f k l0 a1 l2).bind fun bt584 => ((spigotref36_Fair.f k l0 a1 l2).bind fun bt586 => (spigotlaw36_ShareTells.l0 k l0 (y554 ++ l0) bt560.2.2 bt564.2.2 bt568.1 bt568.2 bt572.1 bt572.2 bt576.1 bt576.2 bt580.1 bt580.2 bt584.1 bt584.2 bt586.1 bt586.2 0 bt560.1 bt560.2.1 bt564.1 bt564.2.1))))))))) else (none))))
theorem spigotlaw36_ShareTells.mono_l : ∀ k, (∀ y0 y1 y2 y3 y4 y5 y6 y7 y8 y9 y10 y11 y12 y13 y14 y15 y16 y17 y18 y19 y20, LeO (spigotlaw36_ShareTells.l0 k y0 y1 y2 y3 y4 y5 y6 y7 y8 y9 y10 y11 y12 y13 y14 y15 y16 y17 y18 y19 y20) (spigotlaw36_ShareTells.l0 (k + 1) y0 y1 y2 y3 y4 y5 y6 y7 y8 y9 y10 y11 y12 y13 y14 y15 y16 y17 y18 y19 y20))
  | 0 => fun _ _ _ _ _ _ _ _ _ _ _ _ _ _ _ _ _ _ _ _ _ r h => by simp [spigotlaw36_ShareTells.l0] at h
  | k + 1 => by
    have ih0 := spigotlaw36_ShareTells.mono_l k
    · intro y0 y1 y2 y3 y4 y5 y6 y7 y8 y9 y10 y11 y12 y13 y14 y15 y16 y17 y18 y19 y20
      unfold spigotlaw36_ShareTells.l0
      repeat' first
      | (with_reducible exact ih0 _ _ _ _ _ _ _ _ _ _ _ _ _ _ _ _ _ _ _ _ _)
      | (with_reducible exact share_Check.mono _ _)
      | (with_reducible exact share_Fair.mono _ _ _ _)
      | (with_reducible exact share_Level.mono _ _ _)
      | (with_reducible exact share_Short.mono _ _ _)
      | (with_reducible exact share_Split.mono _ _ _)
      | (with_reducible exact spigotref36_Check.mono _ _)
      | (with_reducible exact spigotref36_Fair.mono _ _ _ _)
      | (with_reducible exact spigotref36_Level.mono _ _ _)
      | (with_reducible exact spigotref36_Same.mono _ _ _)
      | (with_reducible exact spigotref36_SameInts.mono _ _ _)
      | (with_reducible exact spigotref36_Short.mono _ _ _)
      | (with_reducible exact spigotref36_Split.mono _ _ _)
      | (with_reducible exact LeO.refl _)
      | (with_reducible exact LeO.none _)
      | (with_reducible refine LeO.ite ?_ ?_)
      | (with_reducible refine LeO.bind ?_ (fun _ => ?_))
      | exact ih0 _ _ _ _ _ _ _ _ _ _ _ _ _ _ _ _ _ _ _ _ _
      | exact share_Check.mono _ _
      | exact share_Fair.mono _ _ _ _
      | exact share_Level.mono _ _ _
      | exact share_Short.mono _ _ _
      | exact share_Split.mono _ _ _
      | exact spigotref36_Check.mono _ _
      | exact spigotref36_Fair.mono _ _ _ _
      | exact spigotref36_Level.mono _ _ _
      | exact spigotref36_Same.mono _ _ _
      | exact spigotref36_SameInts.mono _ _ _
      | exact spigotref36_Short.mono _ _ _
      | exact spigotref36_Split.mono _ _ _
      | exact LeO.none _
      | refine LeO.ite ?_ ?_
      | refine LeO.bind ?_ (fun _ => ?_)
theorem spigotlaw36_ShareTells.mono : ∀ a0 a1 a2 k, LeO (spigotlaw36_ShareTells.f k a0 a1 a2) (spigotlaw36_ShareTells.f (k + 1) a0 a1 a2) := by
  intro a0 a1 a2 k
  have ih0 := spigotlaw36_ShareTells.mono_l k
  unfold spigotlaw36_ShareTells.f
  repeat' first
      | (with_reducible exact ih0 _ _ _ _ _ _ _ _ _ _ _ _ _ _ _ _ _ _ _ _ _)
      | (with_reducible exact share_Check.mono _ _)
      | (with_reducible exact share_Fair.mono _ _ _ _)
      | (with_reducible exact share_Level.mono _ _ _)
      | (with_reducible exact share_Short.mono _ _ _)
      | (with_reducible exact share_Split.mono _ _ _)
      | (with_reducible exact spigotref36_Check.mono _ _)
      | (with_reducible exact spigotref36_Fair.mono _ _ _ _)
      | (with_reducible exact spigotref36_Level.mono _ _ _)
      | (with_reducible exact spigotref36_Same.mono _ _ _)
      | (with_reducible exact spigotref36_SameInts.mono _ _ _)
      | (with_reducible exact spigotref36_Short.mono _ _ _)
      | (with_reducible exact spigotref36_Split.mono _ _ _)
      | (with_reducible exact LeO.refl _)
      | (with_reducible exact LeO.none _)
      | (with_reducible refine LeO.ite ?_ ?_)
      | (with_reducible refine LeO.bind ?_ (fun _ => ?_))
      | exact ih0 _ _ _ _ _ _ _ _ _ _ _ _ _ _ _ _ _ _ _ _ _
      | exact share_Check.mono _ _
      | exact share_Fair.mono _ _ _ _
      | exact share_Level.mono _ _ _
      | exact share_Short.mono _ _ _
      | exact share_Split.mono _ _ _
      | exact spigotref36_Check.mono _ _
      | exact spigotref36_Fair.mono _ _ _ _
      | exact spigotref36_Level.mono _ _ _
      | exact spigotref36_Same.mono _ _ _
      | exact spigotref36_SameInts.mono _ _ _
      | exact spigotref36_Short.mono _ _ _
      | exact spigotref36_Split.mono _ _ _
      | exact LeO.none _
      | refine LeO.ite ?_ ?_
      | refine LeO.bind ?_ (fun _ => ?_)
set_option maxHeartbeats 8000000 in
set_option maxRecDepth 100000 in
theorem spigotlaw36_ShareTells.calls (k : Nat) (A0 : Option Addr) (c0 : Nat) (l0 : List (S37)) (a1 : Int) (A2 : Option Addr) (c2 : Nat) (l2 : List Int) (w : World) (hr0 : Kd.C k37 w A0 l0.length l0) (hc0 : l0.length ≤ c0) (hr2 : Kd.C (Kd.int .i64) w A2 l2.length l2) (hc2 : l2.length ≤ c2) (h : spigotlaw36_ShareTells.f k l0 a1 l2 = some true) :
    Calls Try.prog 6 #[.slice A0 l0.length c0, .int .i64 a1, .slice A2 l2.length c2] w fun e w' => e = .returned (.bool true) ∧ Below w.heap.size w w' := by
  have hu26 := Try.underlying26
  have hu37 := Try.underlying37
  have HR0 := Aside0.mk hr0
  have HC0 := Aside0.mk hc0
  clear hr0 hc0
  have HR2 := Aside0.mk hr2
  have HC2 := Aside0.mk hc2
  clear hr2 hc2
  have HB := Aside0.mk (Below.refl w.heap.size w)
  have H : (if (l0.length : Int) > 20 then (some true) else (if (l2.length : Int) > 20 then (some true) else ((some (([] : List (S37)) : List (S37))).bind fun y554 => (if y554.length + l0.length < 8796093022208 then ((share_Level.f k l0 a1).bind fun bt560 => ((spigotref36_Level.f k l0 a1).bind fun bt564 => ((share_Short.f k l0 a1).bind fun bt568 => ((spigotref36_Short.f k l0 a1).bind fun bt572 => ((share_Split.f k l0 a1).bind fun bt576 => ((spigotref36_Split.f k l0 a1).bind fun bt580 => ((share_Fair.f k l0 a1 l2).bind fun bt584 => ((spigotref36_Fair.f k l0 a1 l2).bind fun bt586 => (spigotlaw36_ShareTells.l0 k l0 (y554 ++ l0) bt560.2.2 bt564.2.2 bt568.1 bt568.2 bt572.1 bt572.2 bt576.1 bt576.2 bt580.1 bt580.2 bt584.1 bt584.2 bt586.1 bt586.2 0 bt560.1 bt560.2.1 bt564.1 bt564.2.1))))))))) else (none))))) = some true := h
  clear h
  by_cases c4 : (l0.length : Int) > 20
  · rw [if_pos c4] at H
    have c4b0 : decide (20 < (l0.length : Int)) = true := decide_eq_true c4
    have c4b1 : decide (20 < l0.length) = true := decide_eq_true (by omega)
    clear c4
    clear H
    go_enter Try.func6, Try.ntmps6
    go_wp2
    repeat (go_quiet (fail); try go_wp2)
    go_ret
    exact ⟨by first | rfl | (simp [errW_none, errW_some] <;> rfl) | (simp [*, errW_none, errW_some] <;> rfl), pB HB.out⟩
  · rw [if_neg c4] at H
    have c4b0 : decide (20 < (l0.length : Int)) = false := decide_eq_false c4
    have c4b1 : decide (20 < l0.length) = false := decide_eq_false (by omega)
    clear c4
    by_cases c5 : (l2.length : Int) > 20
    · rw [if_pos c5] at H
      have c5b0 : decide (20 < (l2.length : Int)) = true := decide_eq_true c5
      have c5b1 : decide (20 < l2.length) = true := decide_eq_true (by omega)
      clear c5
      clear H
      go_enter Try.func6, Try.ntmps6
      go_wp2
      repeat (go_quiet (fail); try go_wp2)
      go_ret
      exact ⟨by first | rfl | (simp [errW_none, errW_some] <;> rfl) | (simp [*, errW_none, errW_some] <;> rfl), pB HB.out⟩
    · rw [if_neg c5] at H
      have c5b0 : decide (20 < (l2.length : Int)) = false := decide_eq_false c5
      have c5b1 : decide (20 < l2.length) = false := decide_eq_false (by omega)
      clear c5
      obtain ⟨y554, hy554⟩ : ∃ y_ : List (S37), y_ = (([] : List (S37))) := ⟨_, rfl⟩
      replace H : (if y554.length + l0.length < 8796093022208 then ((share_Level.f k l0 a1).bind fun bt560 => ((spigotref36_Level.f k l0 a1).bind fun bt564 => ((share_Short.f k l0 a1).bind fun bt568 => ((spigotref36_Short.f k l0 a1).bind fun bt572 => ((share_Split.f k l0 a1).bind fun bt576 => ((spigotref36_Split.f k l0 a1).bind fun bt580 => ((share_Fair.f k l0 a1 l2).bind fun bt584 => ((spigotref36_Fair.f k l0 a1 l2).bind fun bt586 => (spigotlaw36_ShareTells.l0 k l0 (y554 ++ l0) bt560.2.2 bt564.2.2 bt568.1 bt568.2 bt572.1 bt572.2 bt576.1 bt576.2 bt580.1 bt580.2 bt584.1 bt584.2 bt586.1 bt586.2 0 bt560.1 bt560.2.1 bt564.1 bt564.2.1))))))))) else (none)) = some true := by first | (rw [hy554]; with_reducible exact H) | (have H2_ := (Option.bind_some _ _).symm.trans H; rw [hy554]; with_reducible exact H2_) | (have H2_ := (Option.bind_some _ _).symm.trans H; with_reducible exact H2_) | with_reducible exact H | (rw [hy554]; exact H) | exact H
      have Ny554 := Aside0.mk hy554
      (try clear hy554)
      by_cases c6 : y554.length + l0.length < 8796093022208
      · rw [if_pos c6] at H
        have LMc6 := Aside0.mk c6
        clear c6
        obtain ⟨y557, hy557⟩ : ∃ y_ : List (S37), y_ = (y554 ++ l0) := ⟨_, rfl⟩
        replace H : ((share_Level.f k l0 a1).bind fun bt560 => ((spigotref36_Level.f k l0 a1).bind fun bt564 => ((share_Short.f k l0 a1).bind fun bt568 => ((spigotref36_Short.f k l0 a1).bind fun bt572 => ((share_Split.f k l0 a1).bind fun bt576 => ((spigotref36_Split.f k l0 a1).bind fun bt580 => ((share_Fair.f k l0 a1 l2).bind fun bt584 => ((spigotref36_Fair.f k l0 a1 l2).bind fun bt586 => (spigotlaw36_ShareTells.l0 k l0 y557 bt560.2.2 bt564.2.2 bt568.1 bt568.2 bt572.1 bt572.2 bt576.1 bt576.2 bt580.1 bt580.2 bt584.1 bt584.2 bt586.1 bt586.2 0 bt560.1 bt560.2.1 bt564.1 bt564.2.1))))))))) = some true := by first | (rw [hy557]; with_reducible exact H) | (have H2_ := (Option.bind_some _ _).symm.trans H; rw [hy557]; with_reducible exact H2_) | (have H2_ := (Option.bind_some _ _).symm.trans H; with_reducible exact H2_) | with_reducible exact H | (rw [hy557]; exact H) | exact H
        have Ny557 := Aside0.mk hy557
        (try clear hy557)
        replace H := Option.bind_eq_some_iff.mp H
        obtain ⟨⟨t560, t561, t562⟩, A70, H⟩ := H
        replace H : ((spigotref36_Level.f k l0 a1).bind fun bt564 => ((share_Short.f k l0 a1).bind fun bt568 => ((spigotref36_Short.f k l0 a1).bind fun bt572 => ((share_Split.f k l0 a1).bind fun bt576 => ((spigotref36_Split.f k l0 a1).bind fun bt580 => ((share_Fair.f k l0 a1 l2).bind fun bt584 => ((spigotref36_Fair.f k l0 a1 l2).bind fun bt586 => (spigotlaw36_ShareTells.l0 k l0 y557 t562 bt564.2.2 bt568.1 bt568.2 bt572.1 bt572.2 bt576.1 bt576.2 bt580.1 bt580.2 bt584.1 bt584.2 bt586.1 bt586.2 0 t560 t561 bt564.1 bt564.2.1)))))))) = some true := H
        have A7 := Aside0.mk A70
        (try clear A70)
        replace H := Option.bind_eq_some_iff.mp H
        obtain ⟨⟨t564, t565, t566⟩, A80, H⟩ := H
        replace H : ((share_Short.f k l0 a1).bind fun bt568 => ((spigotref36_Short.f k l0 a1).bind fun bt572 => ((share_Split.f k l0 a1).bind fun bt576 => ((spigotref36_Split.f k l0 a1).bind fun bt580 => ((share_Fair.f k l0 a1 l2).bind fun bt584 => ((spigotref36_Fair.f k l0 a1 l2).bind fun bt586 => (spigotlaw36_ShareTells.l0 k l0 y557 t562 t566 bt568.1 bt568.2 bt572.1 bt572.2 bt576.1 bt576.2 bt580.1 bt580.2 bt584.1 bt584.2 bt586.1 bt586.2 0 t560 t561 t564 t565))))))) = some true := H
        have A8 := Aside0.mk A80
        (try clear A80)
        replace H := Option.bind_eq_some_iff.mp H
        obtain ⟨⟨t568, t569⟩, A90, H⟩ := H
        replace H : ((spigotref36_Short.f k l0 a1).bind fun bt572 => ((share_Split.f k l0 a1).bind fun bt576 => ((spigotref36_Split.f k l0 a1).bind fun bt580 => ((share_Fair.f k l0 a1 l2).bind fun bt584 => ((spigotref36_Fair.f k l0 a1 l2).bind fun bt586 => (spigotlaw36_ShareTells.l0 k l0 y557 t562 t566 t568 t569 bt572.1 bt572.2 bt576.1 bt576.2 bt580.1 bt580.2 bt584.1 bt584.2 bt586.1 bt586.2 0 t560 t561 t564 t565)))))) = some true := H
        have A9 := Aside0.mk A90
        (try clear A90)
        replace H := Option.bind_eq_some_iff.mp H
        obtain ⟨⟨t572, t573⟩, A100, H⟩ := H
        replace H : ((share_Split.f k l0 a1).bind fun bt576 => ((spigotref36_Split.f k l0 a1).bind fun bt580 => ((share_Fair.f k l0 a1 l2).bind fun bt584 => ((spigotref36_Fair.f k l0 a1 l2).bind fun bt586 => (spigotlaw36_ShareTells.l0 k l0 y557 t562 t566 t568 t569 t572 t573 bt576.1 bt576.2 bt580.1 bt580.2 bt584.1 bt584.2 bt586.1 bt586.2 0 t560 t561 t564 t565))))) = some true := H
        have A10 := Aside0.mk A100
        (try clear A100)
        replace H := Option.bind_eq_some_iff.mp H
        obtain ⟨⟨t576, t577⟩, A110, H⟩ := H
        replace H : ((spigotref36_Split.f k l0 a1).bind fun bt580 => ((share_Fair.f k l0 a1 l2).bind fun bt584 => ((spigotref36_Fair.f k l0 a1 l2).bind fun bt586 => (spigotlaw36_ShareTells.l0 k l0 y557 t562 t566 t568 t569 t572 t573 t576 t577 bt580.1 bt580.2 bt584.1 bt584.2 bt586.1 bt586.2 0 t560 t561 t564 t565)))) = some true := H
        have A11 := Aside0.mk A110
        (try clear A110)
        replace H := Option.bind_eq_some_iff.mp H
        obtain ⟨⟨t580, t581⟩, A120, H⟩ := H
        replace H : ((share_Fair.f k l0 a1 l2).bind fun bt584 => ((spigotref36_Fair.f k l0 a1 l2).bind fun bt586 => (spigotlaw36_ShareTells.l0 k l0 y557 t562 t566 t568 t569 t572 t573 t576 t577 t580 t581 bt584.1 bt584.2 bt586.1 bt586.2 0 t560 t561 t564 t565))) = some true := H
        have A12 := Aside0.mk A120
        (try clear A120)
        replace H := Option.bind_eq_some_iff.mp H
        obtain ⟨⟨t584, t585⟩, A130, H⟩ := H
        replace H : ((spigotref36_Fair.f k l0 a1 l2).bind fun bt586 => (spigotlaw36_ShareTells.l0 k l0 y557 t562 t566 t568 t569 t572 t573 t576 t577 t580 t581 t584 t585 bt586.1 bt586.2 0 t560 t561 t564 t565)) = some true := H
        have A13 := Aside0.mk A130
        (try clear A130)
        replace H := Option.bind_eq_some_iff.mp H
        obtain ⟨⟨t586, t587⟩, A140, H⟩ := H
        replace H : (spigotlaw36_ShareTells.l0 k l0 y557 t562 t566 t568 t569 t572 t573 t576 t577 t580 t581 t584 t585 t586 t587 0 t560 t561 t564 t565) = some true := H
        have A14 := Aside0.mk A140
        (try clear A140)
        have H' := Aside0.mk H
        clear H
        go_enter Try.func6, Try.ntmps6
        go_wp2_with (first | ((with_reducible refine gate_dst (N := 33) rfl ?_); (try (refine gate_guard (by rfl) ?_; dsimp only)); refine Kd.R_lit k37 _ 37 ?hg (N := 33) ?hd (xs := ([] : List (S37))) (inner := []) (ok := fun _ => True) (okp := fun _ => True) ?hr ?hp (fun _ hk => hk) trivial (Below.refl _ _) (Nat.le_refl _) (by simp) ?_; (case hd => rfl); (case hg => rfl); (case hr => first | (go_simp; done) | (go_simp; rfl)); (case hp => exact (Reps.none _ _)); intro v555 w15 ho16 hb hg_ hnew_; clear hg_ hnew_; (first | rw [← Ny554.out] at ho16 | (simp only [Int.reduceToNat] at ho16; rw [← Ny554.out] at ho16)); have n0_ := Aside0.mk (Kd.R_lower ho16 (below_size (pB HB.out))); have n1_ := Aside0.mk (below_step (pB HB.out) hb); clear HB; have HO556 := n0_; have HB := n1_; clear n0_ n1_; clear hb ho16) | ((with_reducible refine gate_builtin (b := .append) (xs := #[.tmp 33, .tmp 34]) rfl ?_); (try (refine gate_guard (by rfl) ?_; dsimp only)); at_builtin; refine Kd.R_append_rows k37 (w0 := w) w.heap.size rfl (.tmp 33) (.tmp 34) 22 37 (.agg #[(.int .i64 0), (.int .i64 0)]) 16 rfl Try.underlying22 info37 rfl (by decide) (by omega) v555 y554 l0 _ _ _ (fun _ => True) (fun _ => False) rfl rfl ?aO ?aR (fun _ _ h => h) (fun _ h => h.elim) ?aF ?aB ?aS ?aL ?_; (case aR => exact Kd.pC ((Kd.C_below HR0.out HB.out))); (case aB => exact (pB HB.out)); (case aF => exact (fun _ _ => trivial)); (case aO => exact (Kd.pR HO556.out)); (case aS => exact (below_size (pB HB.out))); (case aL => have := LMc6.out; omega); intro v558 w17 ho hb hg hat; rw [← Ny557.out] at ho; have n0_ := Aside0.mk (hb); have n1_ := Aside0.mk (ho); clear HB; clear HO556; have HB := n0_; have HO559 := n1_; clear n0_ n1_; clear ho hb hg hat) | (go_at_call 11; (with_reducible refine (share_Level.calls k _ _ l0 a1 t560 t561 t562 _ ?side1 ?side2 A7.out).mono ?_); (case side1 => exact Kd.pC ((Kd.C_below HR0.out HB.out))); (case side2 => exact HC0.out); rintro e w18 ⟨rfl, hb⟩; have n0_ := Aside0.mk (Kd.R_below (Kd.pR HO559.out) hb); have n1_ := Aside0.mk (below_step (pB HB.out) hb); clear HO559; clear HB; have HO559 := n0_; have HB := n1_; clear n0_ n1_; (try clear hb); (try clear hb2); (try clear hk); (try clear hi)) | ((with_reducible refine gate_dst (N := 8) rfl ?_); (try (refine gate_guard (by rfl) ?_; dsimp only)); refine boxE (N := 8) (cs := #[.int .i64 0, .int .i64 0]) (t := 26) ?_; intro gb563 hg w19 hbox hb; have n0_ := Aside0.mk (Kd.R_below (Kd.pR HO559.out) hb); have n1_ := Aside0.mk (below_step (pB HB.out) hb); have n2_ := Aside0.mk (hbox); have n3_ := Aside0.mk (pL HB.out hg); have n4_ := Aside0.mk (pL HB.out hg); clear HO559; clear HB; have HO559 := n0_; have HB := n1_; have BK563 := n2_; have GW563 := n3_; have GE563 := n4_; clear n0_ n1_ n2_ n3_ n4_; clear hb hbox hg; obtain ⟨hcz20_0, hcz20_1, hfz20_0, hfz20_1⟩ := bk2 BK563.out) | (go_at_call 15; (with_reducible refine (spigotref36_Level.calls k _ _ l0 a1 t564 t565 t566 _ ?side1 ?side2 A8.out).mono ?_); (case side1 => exact Kd.C_below HR0.out (pB HB.out)); (case side2 => exact HC0.out); rintro e w21 ⟨rfl, hb⟩; have n0_ := Aside0.mk (Kd.R_below (Kd.pR ((Kd.R_mono (Kd.R_far (p := ⟨gb563, 1, none⟩) (Kd.R_far (p := ⟨gb563, 0, none⟩) (Kd.R_types HO559.out BK563.out (by decide)) (fun _ hk => hk.2) (.int .i64 t560)) (fun _ hk => hk.2) (.int .i64 t561)) (fun _ h_ => h_.1)))) hb); have n1_ := Aside0.mk (blk_below (g := gb563) (o := .cells #[.int .i64 t560, .int .i64 t561] 26 (0, 0)) (by (with_reducible repeat (first | refine blk_drewN ?_ _ | refine blk_drew ?_ | refine blk_alloc ?_ _)); refine blk_put (cs := #[.int .i64 t560, .int .i64 0]) ?_ 1 _ rfl; (with_reducible repeat (first | refine blk_drewN ?_ _ | refine blk_drew ?_ | refine blk_alloc ?_ _)); refine blk_put (cs := #[.int .i64 0, .int .i64 0]) ?_ 0 _ rfl; (with_reducible repeat (first | refine blk_drewN ?_ _ | refine blk_drew ?_ | refine blk_alloc ?_ _)); exact BK563.out) hb); have n2_ := Aside0.mk (below_step (pB HB.out) hb); clear HO559; clear BK563; clear HB; have HO559 := n0_; have BK563 := n1_; have HB := n2_; clear n0_ n1_ n2_; (try clear hb); (try clear hb2); (try clear hk); (try clear hi)) | ((with_reducible refine gate_dst (N := 10) rfl ?_); (try (refine gate_guard (by rfl) ?_; dsimp only)); refine boxE (N := 10) (cs := #[.int .i64 0, .int .i64 0]) (t := 26) ?_; intro gb567 hg w22 hbox hb; have n0_ := Aside0.mk (Kd.R_below (Kd.pR HO559.out) hb); have n1_ := Aside0.mk (blk_below (pK BK563.out) hb); have n2_ := Aside0.mk (below_step (pB HB.out) hb); have n3_ := Aside0.mk (hbox); have n4_ := Aside0.mk (pL HB.out hg); have n5_ := Aside0.mk (pL HB.out hg); have n6_ := Aside0.mk (pNl BK563.out hg); have n7_ := Aside0.mk (pNg BK563.out hg); clear HO559; clear BK563; clear HB; have HO559 := n0_; have BK563 := n1_; have HB := n2_; have BK567 := n3_; have GW567 := n4_; have GE567 := n5_; have NB563_567 := n6_; have NB567_563 := n7_; clear n0_ n1_ n2_ n3_ n4_ n5_ n6_ n7_; clear hb hbox hg; have hnb23 := NB567_563.out; have hnc23 := NB563_567.out; obtain ⟨hcz24_0, hcz24_1, hfz24_0, hfz24_1⟩ := bk2 BK567.out) | (go_at_call 12; (with_reducible refine (share_Short.calls k _ _ l0 a1 t568 t569 _ ?side1 ?side2 A9.out).mono ?_); (case side1 => exact Kd.C_below HR0.out (pB HB.out)); (case side2 => exact HC0.out); rintro e w25 ⟨v570, rfl, ho0, hb⟩; have n0_ := Aside0.mk (Kd.R_below (Kd.pR ((Kd.R_mono (Kd.R_far (p := ⟨gb567, 1, none⟩) (Kd.R_far (p := ⟨gb567, 0, none⟩) (Kd.R_types HO559.out BK567.out (by decide)) (fun _ hk => hk.2) (.int .i64 t564)) (fun _ hk => hk.2) (.int .i64 t565)) (fun _ h_ => h_.1)))) hb); have n1_ := Aside0.mk (Kd.R_lower ho0 (below_size (pB HB.out))); have n2_ := Aside0.mk (blk_below (g := gb563) (o := .cells #[.int .i64 t560, .int .i64 t561] 26 (0, 0)) (by (with_reducible repeat (first | refine blk_drewN ?_ _ | refine blk_drew ?_ | refine blk_alloc ?_ _)); refine blk_far ?_ NB563_567.out _; (with_reducible repeat (first | refine blk_drewN ?_ _ | refine blk_drew ?_ | refine blk_alloc ?_ _)); refine blk_far ?_ NB563_567.out _; (with_reducible repeat (first | refine blk_drewN ?_ _ | refine blk_drew ?_ | refine blk_alloc ?_ _)); exact BK563.out) hb); have n3_ := Aside0.mk (blk_below (g := gb567) (o := .cells #[.int .i64 t564, .int .i64 t565] 26 (0, 0)) (by (with_reducible repeat (first | refine blk_drewN ?_ _ | refine blk_drew ?_ | refine blk_alloc ?_ _)); refine blk_put (cs := #[.int .i64 t564, .int .i64 0]) ?_ 1 _ rfl; (with_reducible repeat (first | refine blk_drewN ?_ _ | refine blk_drew ?_ | refine blk_alloc ?_ _)); refine blk_put (cs := #[.int .i64 0, .int .i64 0]) ?_ 0 _ rfl; (with_reducible repeat (first | refine blk_drewN ?_ _ | refine blk_drew ?_ | refine blk_alloc ?_ _)); exact BK567.out) hb); have n4_ := Aside0.mk (below_step (pB HB.out) hb); clear HO559; clear BK563; clear BK567; clear HB; have HO559 := n0_; have HO571 := n1_; have BK563 := n2_; have BK567 := n3_; have HB := n4_; clear n0_ n1_ n2_ n3_ n4_; (try clear hb); (try clear hb2); (try clear hk); (try clear hi); (try clear ho0)) | (go_at_call 16; (with_reducible refine (spigotref36_Short.calls k _ _ l0 a1 t572 t573 _ ?side1 ?side2 A10.out).mono ?_); (case side1 => exact Kd.pC ((Kd.C_below HR0.out HB.out))); (case side2 => exact HC0.out); rintro e w26 ⟨v574, rfl, ho0, hb⟩; have n0_ := Aside0.mk (Kd.R_below (Kd.pR HO559.out) hb); have n1_ := Aside0.mk (Kd.R_elder' (Kd.pR HO571.out) (Kd.R_base ho0) hb); have n2_ := Aside0.mk (Kd.R_lower (Kd.R_new' ho0 (Kd.R_lt (Kd.pR HO571.out))) (below_size (pB HB.out))); have n3_ := Aside0.mk (blk_below (pK BK563.out) hb); have n4_ := Aside0.mk (blk_below (pK BK567.out) hb); have n5_ := Aside0.mk (below_step (pB HB.out) hb); clear HO559; clear HO571; clear BK563; clear BK567; clear HB; have HO559 := n0_; have HO571 := n1_; have HO575 := n2_; have BK563 := n3_; have BK567 := n4_; have HB := n5_; clear n0_ n1_ n2_ n3_ n4_ n5_; (try clear hb); (try clear hb2); (try clear hk); (try clear hi); (try clear ho0)) | (go_at_call 13; (with_reducible refine (share_Split.calls k _ _ l0 a1 t576 t577 _ ?side1 ?side2 A11.out).mono ?_); (case side1 => exact Kd.pC ((Kd.C_below HR0.out HB.out))); (case side2 => exact HC0.out); rintro e w27 ⟨v578, rfl, ho0, hb⟩; have n0_ := Aside0.mk (Kd.R_below (Kd.pR HO559.out) hb); have n1_ := Aside0.mk (Kd.R_below (Kd.pR HO571.out) hb); have n2_ := Aside0.mk (Kd.R_below (Kd.pR HO575.out) hb); have n3_ := Aside0.mk (Kd.R_lower ho0 (below_size (pB HB.out))); have n4_ := Aside0.mk (blk_below (pK BK563.out) hb); have n5_ := Aside0.mk (blk_below (pK BK567.out) hb); have n6_ := Aside0.mk (below_step (pB HB.out) hb); clear HO559; clear HO571; clear HO575; clear BK563; clear BK567; clear HB; have HO559 := n0_; have HO571 := n1_; have HO575 := n2_; have HO579 := n3_; have BK563 := n4_; have BK567 := n5_; have HB := n6_; clear n0_ n1_ n2_ n3_ n4_ n5_ n6_; (try clear hb); (try clear hb2); (try clear hk); (try clear hi); (try clear ho0)) | (go_at_call 17; (with_reducible refine (spigotref36_Split.calls k _ _ l0 a1 t580 t581 _ ?side1 ?side2 A12.out).mono ?_); (case side1 => exact Kd.pC ((Kd.C_below HR0.out HB.out))); (case side2 => exact HC0.out); rintro e w28 ⟨v582, rfl, ho0, hb⟩; have n0_ := Aside0.mk (Kd.R_below (Kd.pR HO559.out) hb); have n1_ := Aside0.mk (Kd.R_below (Kd.pR HO571.out) hb); have n2_ := Aside0.mk (Kd.R_below (Kd.pR HO575.out) hb); have n3_ := Aside0.mk (Kd.R_elder' (Kd.pR HO579.out) (Kd.R_base ho0) hb); have n4_ := Aside0.mk (Kd.R_lower (Kd.R_new' ho0 (Kd.R_lt (Kd.pR HO579.out))) (below_size (pB HB.out))); have n5_ := Aside0.mk (blk_below (pK BK563.out) hb); have n6_ := Aside0.mk (blk_below (pK BK567.out) hb); have n7_ := Aside0.mk (below_step (pB HB.out) hb); clear HO559; clear HO571; clear HO575; clear HO579; clear BK563; clear BK567; clear HB; have HO559 := n0_; have HO571 := n1_; have HO575 := n2_; have HO579 := n3_; have HO583 := n4_; have BK563 := n5_; have BK567 := n6_; have HB := n7_; clear n0_ n1_ n2_ n3_ n4_ n5_ n6_ n7_; (try clear hb); (try clear hb2); (try clear hk); (try clear hi); (try clear ho0)) | (go_at_call 18; (with_reducible refine (share_Fair.calls k _ _ l0 a1 _ _ l2 t584 t585 _ ?side1 ?side2 ?side3 ?side4 A13.out).mono ?_); (case side1 => exact Kd.pC ((Kd.C_below HR0.out HB.out))); (case side2 => exact HC0.out); (case side3 => exact Kd.pC ((Kd.C_below HR2.out HB.out))); (case side4 => exact HC2.out); rintro e w29 ⟨rfl, hb⟩; have n0_ := Aside0.mk (Kd.R_below (Kd.pR HO559.out) hb); have n1_ := Aside0.mk (Kd.R_below (Kd.pR HO571.out) hb); have n2_ := Aside0.mk (Kd.R_below (Kd.pR HO575.out) hb); have n3_ := Aside0.mk (Kd.R_below (Kd.pR HO579.out) hb); have n4_ := Aside0.mk (Kd.R_below (Kd.pR HO583.out) hb); have n5_ := Aside0.mk (blk_below (pK BK563.out) hb); have n6_ := Aside0.mk (blk_below (pK BK567.out) hb); have n7_ := Aside0.mk (below_step (pB HB.out) hb); clear HO559; clear HO571; clear HO575; clear HO579; clear HO583; clear BK563; clear BK567; clear HB; have HO559 := n0_; have HO571 := n1_; have HO575 := n2_; have HO579 := n3_; have HO583 := n4_; have BK563 := n5_; have BK567 := n6_; have HB := n7_; clear n0_ n1_ n2_ n3_ n4_ n5_ n6_ n7_; (try clear hb); (try clear hb2); (try clear hk); (try clear hi)) | (go_at_call 19; (with_reducible refine (spigotref36_Fair.calls k _ _ l0 a1 _ _ l2 t586 t587 _ ?side1 ?side2 ?side3 ?side4 A14.out).mono ?_); (case side1 => exact Kd.pC ((Kd.C_below HR0.out HB.out))); (case side2 => exact HC0.out); (case side3 => exact Kd.pC ((Kd.C_below HR2.out HB.out))); (case side4 => exact HC2.out); rintro e w30 ⟨rfl, hb⟩; have n0_ := Aside0.mk (Kd.R_below (Kd.pR HO559.out) hb); have n1_ := Aside0.mk (Kd.R_below (Kd.pR HO571.out) hb); have n2_ := Aside0.mk (Kd.R_below (Kd.pR HO575.out) hb); have n3_ := Aside0.mk (Kd.R_below (Kd.pR HO579.out) hb); have n4_ := Aside0.mk (Kd.R_below (Kd.pR HO583.out) hb); have n5_ := Aside0.mk (blk_below (pK BK563.out) hb); have n6_ := Aside0.mk (blk_below (pK BK567.out) hb); have n7_ := Aside0.mk (below_step (pB HB.out) hb); clear HO559; clear HO571; clear HO575; clear HO579; clear HO583; clear BK563; clear BK567; clear HB; have HO559 := n0_; have HO571 := n1_; have HO575 := n2_; have HO579 := n3_; have HO583 := n4_; have BK563 := n5_; have BK567 := n6_; have HB := n7_; clear n0_ n1_ n2_ n3_ n4_ n5_ n6_ n7_; (try clear hb); (try clear hb2); (try clear hk); (try clear hi)))
        repeat (go_quiet (first | ((with_reducible refine gate_dst (N := 33) rfl ?_); (try (refine gate_guard (by rfl) ?_; dsimp only)); refine Kd.R_lit k37 _ 37 ?hg (N := 33) ?hd (xs := ([] : List (S37))) (inner := []) (ok := fun _ => True) (okp := fun _ => True) ?hr ?hp (fun _ hk => hk) trivial (Below.refl _ _) (Nat.le_refl _) (by simp) ?_; (case hd => rfl); (case hg => rfl); (case hr => first | (go_simp; done) | (go_simp; rfl)); (case hp => exact (Reps.none _ _)); intro v555 w15 ho16 hb hg_ hnew_; clear hg_ hnew_; (first | rw [← Ny554.out] at ho16 | (simp only [Int.reduceToNat] at ho16; rw [← Ny554.out] at ho16)); have n0_ := Aside0.mk (Kd.R_lower ho16 (below_size (pB HB.out))); have n1_ := Aside0.mk (below_step (pB HB.out) hb); clear HB; have HO556 := n0_; have HB := n1_; clear n0_ n1_; clear hb ho16) | ((with_reducible refine gate_builtin (b := .append) (xs := #[.tmp 33, .tmp 34]) rfl ?_); (try (refine gate_guard (by rfl) ?_; dsimp only)); at_builtin; refine Kd.R_append_rows k37 (w0 := w) w.heap.size rfl (.tmp 33) (.tmp 34) 22 37 (.agg #[(.int .i64 0), (.int .i64 0)]) 16 rfl Try.underlying22 info37 rfl (by decide) (by omega) v555 y554 l0 _ _ _ (fun _ => True) (fun _ => False) rfl rfl ?aO ?aR (fun _ _ h => h) (fun _ h => h.elim) ?aF ?aB ?aS ?aL ?_; (case aR => exact Kd.pC ((Kd.C_below HR0.out HB.out))); (case aB => exact (pB HB.out)); (case aF => exact (fun _ _ => trivial)); (case aO => exact (Kd.pR HO556.out)); (case aS => exact (below_size (pB HB.out))); (case aL => have := LMc6.out; omega); intro v558 w17 ho hb hg hat; rw [← Ny557.out] at ho; have n0_ := Aside0.mk (hb); have n1_ := Aside0.mk (ho); clear HB; clear HO556; have HB := n0_; have HO559 := n1_; clear n0_ n1_; clear ho hb hg hat) | (go_at_call 11; (with_reducible refine (share_Level.calls k _ _ l0 a1 t560 t561 t562 _ ?side1 ?side2 A7.out).mono ?_); (case side1 => exact Kd.pC ((Kd.C_below HR0.out HB.out))); (case side2 => exact HC0.out); rintro e w18 ⟨rfl, hb⟩; have n0_ := Aside0.mk (Kd.R_below (Kd.pR HO559.out) hb); have n1_ := Aside0.mk (below_step (pB HB.out) hb); clear HO559; clear HB; have HO559 := n0_; have HB := n1_; clear n0_ n1_; (try clear hb); (try clear hb2); (try clear hk); (try clear hi)) | ((with_reducible refine gate_dst (N := 8) rfl ?_); (try (refine gate_guard (by rfl) ?_; dsimp only)); refine boxE (N := 8) (cs := #[.int .i64 0, .int .i64 0]) (t := 26) ?_; intro gb563 hg w19 hbox hb; have n0_ := Aside0.mk (Kd.R_below (Kd.pR HO559.out) hb); have n1_ := Aside0.mk (below_step (pB HB.out) hb); have n2_ := Aside0.mk (hbox); have n3_ := Aside0.mk (pL HB.out hg); have n4_ := Aside0.mk (pL HB.out hg); clear HO559; clear HB; have HO559 := n0_; have HB := n1_; have BK563 := n2_; have GW563 := n3_; have GE563 := n4_; clear n0_ n1_ n2_ n3_ n4_; clear hb hbox hg; obtain ⟨hcz20_0, hcz20_1, hfz20_0, hfz20_1⟩ := bk2 BK563.out) | (go_at_call 15; (with_reducible refine (spigotref36_Level.calls k _ _ l0 a1 t564 t565 t566 _ ?side1 ?side2 A8.out).mono ?_); (case side1 => exact Kd.C_below HR0.out (pB HB.out)); (case side2 => exact HC0.out); rintro e w21 ⟨rfl, hb⟩; have n0_ := Aside0.mk (Kd.R_below (Kd.pR ((Kd.R_mono (Kd.R_far (p := ⟨gb563, 1, none⟩) (Kd.R_far (p := ⟨gb563, 0, none⟩) (Kd.R_types HO559.out BK563.out (by decide)) (fun _ hk => hk.2) (.int .i64 t560)) (fun _ hk => hk.2) (.int .i64 t561)) (fun _ h_ => h_.1)))) hb); have n1_ := Aside0.mk (blk_below (g := gb563) (o := .cells #[.int .i64 t560, .int .i64 t561] 26 (0, 0)) (by (with_reducible repeat (first | refine blk_drewN ?_ _ | refine blk_drew ?_ | refine blk_alloc ?_ _)); refine blk_put (cs := #[.int .i64 t560, .int .i64 0]) ?_ 1 _ rfl; (with_reducible repeat (first | refine blk_drewN ?_ _ | refine blk_drew ?_ | refine blk_alloc ?_ _)); refine blk_put (cs := #[.int .i64 0, .int .i64 0]) ?_ 0 _ rfl; (with_reducible repeat (first | refine blk_drewN ?_ _ | refine blk_drew ?_ | refine blk_alloc ?_ _)); exact BK563.out) hb); have n2_ := Aside0.mk (below_step (pB HB.out) hb); clear HO559; clear BK563; clear HB; have HO559 := n0_; have BK563 := n1_; have HB := n2_; clear n0_ n1_ n2_; (try clear hb); (try clear hb2); (try clear hk); (try clear hi)) | ((with_reducible refine gate_dst (N := 10) rfl ?_); (try (refine gate_guard (by rfl) ?_; dsimp only)); refine boxE (N := 10) (cs := #[.int .i64 0, .int .i64 0]) (t := 26) ?_; intro gb567 hg w22 hbox hb; have n0_ := Aside0.mk (Kd.R_below (Kd.pR HO559.out) hb); have n1_ := Aside0.mk (blk_below (pK BK563.out) hb); have n2_ := Aside0.mk (below_step (pB HB.out) hb); have n3_ := Aside0.mk (hbox); have n4_ := Aside0.mk (pL HB.out hg); have n5_ := Aside0.mk (pL HB.out hg); have n6_ := Aside0.mk (pNl BK563.out hg); have n7_ := Aside0.mk (pNg BK563.out hg); clear HO559; clear BK563; clear HB; have HO559 := n0_; have BK563 := n1_; have HB := n2_; have BK567 := n3_; have GW567 := n4_; have GE567 := n5_; have NB563_567 := n6_; have NB567_563 := n7_; clear n0_ n1_ n2_ n3_ n4_ n5_ n6_ n7_; clear hb hbox hg; have hnb23 := NB567_563.out; have hnc23 := NB563_567.out; obtain ⟨hcz24_0, hcz24_1, hfz24_0, hfz24_1⟩ := bk2 BK567.out) | (go_at_call 12; (with_reducible refine (share_Short.calls k _ _ l0 a1 t568 t569 _ ?side1 ?side2 A9.out).mono ?_); (case side1 => exact Kd.C_below HR0.out (pB HB.out)); (case side2 => exact HC0.out); rintro e w25 ⟨v570, rfl, ho0, hb⟩; have n0_ := Aside0.mk (Kd.R_below (Kd.pR ((Kd.R_mono (Kd.R_far (p := ⟨gb567, 1, none⟩) (Kd.R_far (p := ⟨gb567, 0, none⟩) (Kd.R_types HO559.out BK567.out (by decide)) (fun _ hk => hk.2) (.int .i64 t564)) (fun _ hk => hk.2) (.int .i64 t565)) (fun _ h_ => h_.1)))) hb); have n1_ := Aside0.mk (Kd.R_lower ho0 (below_size (pB HB.out))); have n2_ := Aside0.mk (blk_below (g := gb563) (o := .cells #[.int .i64 t560, .int .i64 t561] 26 (0, 0)) (by (with_reducible repeat (first | refine blk_drewN ?_ _ | refine blk_drew ?_ | refine blk_alloc ?_ _)); refine blk_far ?_ NB563_567.out _; (with_reducible repeat (first | refine blk_drewN ?_ _ | refine blk_drew ?_ | refine blk_alloc ?_ _)); refine blk_far ?_ NB563_567.out _; (with_reducible repeat (first | refine blk_drewN ?_ _ | refine blk_drew ?_ | refine blk_alloc ?_ _)); exact BK563.out) hb); have n3_ := Aside0.mk (blk_below (g := gb567) (o := .cells #[.int .i64 t564, .int .i64 t565] 26 (0, 0)) (by (with_reducible repeat (first | refine blk_drewN ?_ _ | refine blk_drew ?_ | refine blk_alloc ?_ _)); refine blk_put (cs := #[.int .i64 t564, .int .i64 0]) ?_ 1 _ rfl; (with_reducible repeat (first | refine blk_drewN ?_ _ | refine blk_drew ?_ | refine blk_alloc ?_ _)); refine blk_put (cs := #[.int .i64 0, .int .i64 0]) ?_ 0 _ rfl; (with_reducible repeat (first | refine blk_drewN ?_ _ | refine blk_drew ?_ | refine blk_alloc ?_ _)); exact BK567.out) hb); have n4_ := Aside0.mk (below_step (pB HB.out) hb); clear HO559; clear BK563; clear BK567; clear HB; have HO559 := n0_; have HO571 := n1_; have BK563 := n2_; have BK567 := n3_; have HB := n4_; clear n0_ n1_ n2_ n3_ n4_; (try clear hb); (try clear hb2); (try clear hk); (try clear hi); (try clear ho0)) | (go_at_call 16; (with_reducible refine (spigotref36_Short.calls k _ _ l0 a1 t572 t573 _ ?side1 ?side2 A10.out).mono ?_); (case side1 => exact Kd.pC ((Kd.C_below HR0.out HB.out))); (case side2 => exact HC0.out); rintro e w26 ⟨v574, rfl, ho0, hb⟩; have n0_ := Aside0.mk (Kd.R_below (Kd.pR HO559.out) hb); have n1_ := Aside0.mk (Kd.R_elder' (Kd.pR HO571.out) (Kd.R_base ho0) hb); have n2_ := Aside0.mk (Kd.R_lower (Kd.R_new' ho0 (Kd.R_lt (Kd.pR HO571.out))) (below_size (pB HB.out))); have n3_ := Aside0.mk (blk_below (pK BK563.out) hb); have n4_ := Aside0.mk (blk_below (pK BK567.out) hb); have n5_ := Aside0.mk (below_step (pB HB.out) hb); clear HO559; clear HO571; clear BK563; clear BK567; clear HB; have HO559 := n0_; have HO571 := n1_; have HO575 := n2_; have BK563 := n3_; have BK567 := n4_; have HB := n5_; clear n0_ n1_ n2_ n3_ n4_ n5_; (try clear hb); (try clear hb2); (try clear hk); (try clear hi); (try clear ho0)) | (go_at_call 13; (with_reducible refine (share_Split.calls k _ _ l0 a1 t576 t577 _ ?side1 ?side2 A11.out).mono ?_); (case side1 => exact Kd.pC ((Kd.C_below HR0.out HB.out))); (case side2 => exact HC0.out); rintro e w27 ⟨v578, rfl, ho0, hb⟩; have n0_ := Aside0.mk (Kd.R_below (Kd.pR HO559.out) hb); have n1_ := Aside0.mk (Kd.R_below (Kd.pR HO571.out) hb); have n2_ := Aside0.mk (Kd.R_below (Kd.pR HO575.out) hb); have n3_ := Aside0.mk (Kd.R_lower ho0 (below_size (pB HB.out))); have n4_ := Aside0.mk (blk_below (pK BK563.out) hb); have n5_ := Aside0.mk (blk_below (pK BK567.out) hb); have n6_ := Aside0.mk (below_step (pB HB.out) hb); clear HO559; clear HO571; clear HO575; clear BK563; clear BK567; clear HB; have HO559 := n0_; have HO571 := n1_; have HO575 := n2_; have HO579 := n3_; have BK563 := n4_; have BK567 := n5_; have HB := n6_; clear n0_ n1_ n2_ n3_ n4_ n5_ n6_; (try clear hb); (try clear hb2); (try clear hk); (try clear hi); (try clear ho0)) | (go_at_call 17; (with_reducible refine (spigotref36_Split.calls k _ _ l0 a1 t580 t581 _ ?side1 ?side2 A12.out).mono ?_); (case side1 => exact Kd.pC ((Kd.C_below HR0.out HB.out))); (case side2 => exact HC0.out); rintro e w28 ⟨v582, rfl, ho0, hb⟩; have n0_ := Aside0.mk (Kd.R_below (Kd.pR HO559.out) hb); have n1_ := Aside0.mk (Kd.R_below (Kd.pR HO571.out) hb); have n2_ := Aside0.mk (Kd.R_below (Kd.pR HO575.out) hb); have n3_ := Aside0.mk (Kd.R_elder' (Kd.pR HO579.out) (Kd.R_base ho0) hb); have n4_ := Aside0.mk (Kd.R_lower (Kd.R_new' ho0 (Kd.R_lt (Kd.pR HO579.out))) (below_size (pB HB.out))); have n5_ := Aside0.mk (blk_below (pK BK563.out) hb); have n6_ := Aside0.mk (blk_below (pK BK567.out) hb); have n7_ := Aside0.mk (below_step (pB HB.out) hb); clear HO559; clear HO571; clear HO575; clear HO579; clear BK563; clear BK567; clear HB; have HO559 := n0_; have HO571 := n1_; have HO575 := n2_; have HO579 := n3_; have HO583 := n4_; have BK563 := n5_; have BK567 := n6_; have HB := n7_; clear n0_ n1_ n2_ n3_ n4_ n5_ n6_ n7_; (try clear hb); (try clear hb2); (try clear hk); (try clear hi); (try clear ho0)) | (go_at_call 18; (with_reducible refine (share_Fair.calls k _ _ l0 a1 _ _ l2 t584 t585 _ ?side1 ?side2 ?side3 ?side4 A13.out).mono ?_); (case side1 => exact Kd.pC ((Kd.C_below HR0.out HB.out))); (case side2 => exact HC0.out); (case side3 => exact Kd.pC ((Kd.C_below HR2.out HB.out))); (case side4 => exact HC2.out); rintro e w29 ⟨rfl, hb⟩; have n0_ := Aside0.mk (Kd.R_below (Kd.pR HO559.out) hb); have n1_ := Aside0.mk (Kd.R_below (Kd.pR HO571.out) hb); have n2_ := Aside0.mk (Kd.R_below (Kd.pR HO575.out) hb); have n3_ := Aside0.mk (Kd.R_below (Kd.pR HO579.out) hb); have n4_ := Aside0.mk (Kd.R_below (Kd.pR HO583.out) hb); have n5_ := Aside0.mk (blk_below (pK BK563.out) hb); have n6_ := Aside0.mk (blk_below (pK BK567.out) hb); have n7_ := Aside0.mk (below_step (pB HB.out) hb); clear HO559; clear HO571; clear HO575; clear HO579; clear HO583; clear BK563; clear BK567; clear HB; have HO559 := n0_; have HO571 := n1_; have HO575 := n2_; have HO579 := n3_; have HO583 := n4_; have BK563 := n5_; have BK567 := n6_; have HB := n7_; clear n0_ n1_ n2_ n3_ n4_ n5_ n6_ n7_; (try clear hb); (try clear hb2); (try clear hk); (try clear hi)) | (go_at_call 19; (with_reducible refine (spigotref36_Fair.calls k _ _ l0 a1 _ _ l2 t586 t587 _ ?side1 ?side2 ?side3 ?side4 A14.out).mono ?_); (case side1 => exact Kd.pC ((Kd.C_below HR0.out HB.out))); (case side2 => exact HC0.out); (case side3 => exact Kd.pC ((Kd.C_below HR2.out HB.out))); (case side4 => exact HC2.out); rintro e w30 ⟨rfl, hb⟩; have n0_ := Aside0.mk (Kd.R_below (Kd.pR HO559.out) hb); have n1_ := Aside0.mk (Kd.R_below (Kd.pR HO571.out) hb); have n2_ := Aside0.mk (Kd.R_below (Kd.pR HO575.out) hb); have n3_ := Aside0.mk (Kd.R_below (Kd.pR HO579.out) hb); have n4_ := Aside0.mk (Kd.R_below (Kd.pR HO583.out) hb); have n5_ := Aside0.mk (blk_below (pK BK563.out) hb); have n6_ := Aside0.mk (blk_below (pK BK567.out) hb); have n7_ := Aside0.mk (below_step (pB HB.out) hb); clear HO559; clear HO571; clear HO575; clear HO579; clear HO583; clear BK563; clear BK567; clear HB; have HO559 := n0_; have HO571 := n1_; have HO575 := n2_; have HO579 := n3_; have HO583 := n4_; have BK563 := n5_; have BK567 := n6_; have HB := n7_; clear n0_ n1_ n2_ n3_ n4_ n5_ n6_ n7_; (try clear hb); (try clear hb2); (try clear hk); (try clear hi))); try go_wp2_with (first | ((with_reducible refine gate_dst (N := 33) rfl ?_); (try (refine gate_guard (by rfl) ?_; dsimp only)); refine Kd.R_lit k37 _ 37 ?hg (N := 33) ?hd (xs := ([] : List (S37))) (inner := []) (ok := fun _ => True) (okp := fun _ => True) ?hr ?hp (fun _ hk => hk) trivial (Below.refl _ _) (Nat.le_refl _) (by simp) ?_; (case hd => rfl); (case hg => rfl); (case hr => first | (go_simp; done) | (go_simp; rfl)); (case hp => exact (Reps.none _ _)); intro v555 w15 ho16 hb hg_ hnew_; clear hg_ hnew_; (first | rw [← Ny554.out] at ho16 | (simp only [Int.reduceToNat] at ho16; rw [← Ny554.out] at ho16)); have n0_ := Aside0.mk (Kd.R_lower ho16 (below_size (pB HB.out))); have n1_ := Aside0.mk (below_step (pB HB.out) hb); clear HB; have HO556 := n0_; have HB := n1_; clear n0_ n1_; clear hb ho16) | ((with_reducible refine gate_builtin (b := .append) (xs := #[.tmp 33, .tmp 34]) rfl ?_); (try (refine gate_guard (by rfl) ?_; dsimp only)); at_builtin; refine Kd.R_append_rows k37 (w0 := w) w.heap.size rfl (.tmp 33) (.tmp 34) 22 37 (.agg #[(.int .i64 0), (.int .i64 0)]) 16 rfl Try.underlying22 info37 rfl (by decide) (by omega) v555 y554 l0 _ _ _ (fun _ => True) (fun _ => False) rfl rfl ?aO ?aR (fun _ _ h => h) (fun _ h => h.elim) ?aF ?aB ?aS ?aL ?_; (case aR => exact Kd.pC ((Kd.C_below HR0.out HB.out))); (case aB => exact (pB HB.out)); (case aF => exact (fun _ _ => trivial)); (case aO => exact (Kd.pR HO556.out)); (case aS => exact (below_size (pB HB.out))); (case aL => have := LMc6.out; omega); intro v558 w17 ho hb hg hat; rw [← Ny557.out] at ho; have n0_ := Aside0.mk (hb); have n1_ := Aside0.mk (ho); clear HB; clear HO556; have HB := n0_; have HO559 := n1_; clear n0_ n1_; clear ho hb hg hat) | (go_at_call 11; (with_reducible refine (share_Level.calls k _ _ l0 a1 t560 t561 t562 _ ?side1 ?side2 A7.out).mono ?_); (case side1 => exact Kd.pC ((Kd.C_below HR0.out HB.out))); (case side2 => exact HC0.out); rintro e w18 ⟨rfl, hb⟩; have n0_ := Aside0.mk (Kd.R_below (Kd.pR HO559.out) hb); have n1_ := Aside0.mk (below_step (pB HB.out) hb); clear HO559; clear HB; have HO559 := n0_; have HB := n1_; clear n0_ n1_; (try clear hb); (try clear hb2); (try clear hk); (try clear hi)) | ((with_reducible refine gate_dst (N := 8) rfl ?_); (try (refine gate_guard (by rfl) ?_; dsimp only)); refine boxE (N := 8) (cs := #[.int .i64 0, .int .i64 0]) (t := 26) ?_; intro gb563 hg w19 hbox hb; have n0_ := Aside0.mk (Kd.R_below (Kd.pR HO559.out) hb); have n1_ := Aside0.mk (below_step (pB HB.out) hb); have n2_ := Aside0.mk (hbox); have n3_ := Aside0.mk (pL HB.out hg); have n4_ := Aside0.mk (pL HB.out hg); clear HO559; clear HB; have HO559 := n0_; have HB := n1_; have BK563 := n2_; have GW563 := n3_; have GE563 := n4_; clear n0_ n1_ n2_ n3_ n4_; clear hb hbox hg; obtain ⟨hcz20_0, hcz20_1, hfz20_0, hfz20_1⟩ := bk2 BK563.out) | (go_at_call 15; (with_reducible refine (spigotref36_Level.calls k _ _ l0 a1 t564 t565 t566 _ ?side1 ?side2 A8.out).mono ?_); (case side1 => exact Kd.C_below HR0.out (pB HB.out)); (case side2 => exact HC0.out); rintro e w21 ⟨rfl, hb⟩; have n0_ := Aside0.mk (Kd.R_below (Kd.pR ((Kd.R_mono (Kd.R_far (p := ⟨gb563, 1, none⟩) (Kd.R_far (p := ⟨gb563, 0, none⟩) (Kd.R_types HO559.out BK563.out (by decide)) (fun _ hk => hk.2) (.int .i64 t560)) (fun _ hk => hk.2) (.int .i64 t561)) (fun _ h_ => h_.1)))) hb); have n1_ := Aside0.mk (blk_below (g := gb563) (o := .cells #[.int .i64 t560, .int .i64 t561] 26 (0, 0)) (by (with_reducible repeat (first | refine blk_drewN ?_ _ | refine blk_drew ?_ | refine blk_alloc ?_ _)); refine blk_put (cs := #[.int .i64 t560, .int .i64 0]) ?_ 1 _ rfl; (with_reducible repeat (first | refine blk_drewN ?_ _ | refine blk_drew ?_ | refine blk_alloc ?_ _)); refine blk_put (cs := #[.int .i64 0, .int .i64 0]) ?_ 0 _ rfl; (with_reducible repeat (first | refine blk_drewN ?_ _ | refine blk_drew ?_ | refine blk_alloc ?_ _)); exact BK563.out) hb); have n2_ := Aside0.mk (below_step (pB HB.out) hb); clear HO559; clear BK563; clear HB; have HO559 := n0_; have BK563 := n1_; have HB := n2_; clear n0_ n1_ n2_; (try clear hb); (try clear hb2); (try clear hk); (try clear hi)) | ((with_reducible refine gate_dst (N := 10) rfl ?_); (try (refine gate_guard (by rfl) ?_; dsimp only)); refine boxE (N := 10) (cs := #[.int .i64 0, .int .i64 0]) (t := 26) ?_; intro gb567 hg w22 hbox hb; have n0_ := Aside0.mk (Kd.R_below (Kd.pR HO559.out) hb); have n1_ := Aside0.mk (blk_below (pK BK563.out) hb); have n2_ := Aside0.mk (below_step (pB HB.out) hb); have n3_ := Aside0.mk (hbox); have n4_ := Aside0.mk (pL HB.out hg); have n5_ := Aside0.mk (pL HB.out hg); have n6_ := Aside0.mk (pNl BK563.out hg); have n7_ := Aside0.mk (pNg BK563.out hg); clear HO559; clear BK563; clear HB; have HO559 := n0_; have BK563 := n1_; have HB := n2_; have BK567 := n3_; have GW567 := n4_; have GE567 := n5_; have NB563_567 := n6_; have NB567_563 := n7_; clear n0_ n1_ n2_ n3_ n4_ n5_ n6_ n7_; clear hb hbox hg; have hnb23 := NB567_563.out; have hnc23 := NB563_567.out; obtain ⟨hcz24_0, hcz24_1, hfz24_0, hfz24_1⟩ := bk2 BK567.out) | (go_at_call 12; (with_reducible refine (share_Short.calls k _ _ l0 a1 t568 t569 _ ?side1 ?side2 A9.out).mono ?_); (case side1 => exact Kd.C_below HR0.out (pB HB.out)); (case side2 => exact HC0.out); rintro e w25 ⟨v570, rfl, ho0, hb⟩; have n0_ := Aside0.mk (Kd.R_below (Kd.pR ((Kd.R_mono (Kd.R_far (p := ⟨gb567, 1, none⟩) (Kd.R_far (p := ⟨gb567, 0, none⟩) (Kd.R_types HO559.out BK567.out (by decide)) (fun _ hk => hk.2) (.int .i64 t564)) (fun _ hk => hk.2) (.int .i64 t565)) (fun _ h_ => h_.1)))) hb); have n1_ := Aside0.mk (Kd.R_lower ho0 (below_size (pB HB.out))); have n2_ := Aside0.mk (blk_below (g := gb563) (o := .cells #[.int .i64 t560, .int .i64 t561] 26 (0, 0)) (by (with_reducible repeat (first | refine blk_drewN ?_ _ | refine blk_drew ?_ | refine blk_alloc ?_ _)); refine blk_far ?_ NB563_567.out _; (with_reducible repeat (first | refine blk_drewN ?_ _ | refine blk_drew ?_ | refine blk_alloc ?_ _)); refine blk_far ?_ NB563_567.out _; (with_reducible repeat (first | refine blk_drewN ?_ _ | refine blk_drew ?_ | refine blk_alloc ?_ _)); exact BK563.out) hb); have n3_ := Aside0.mk (blk_below (g := gb567) (o := .cells #[.int .i64 t564, .int .i64 t565] 26 (0, 0)) (by (with_reducible repeat (first | refine blk_drewN ?_ _ | refine blk_drew ?_ | refine blk_alloc ?_ _)); refine blk_put (cs := #[.int .i64 t564, .int .i64 0]) ?_ 1 _ rfl; (with_reducible repeat (first | refine blk_drewN ?_ _ | refine blk_drew ?_ | refine blk_alloc ?_ _)); refine blk_put (cs := #[.int .i64 0, .int .i64 0]) ?_ 0 _ rfl; (with_reducible repeat (first | refine blk_drewN ?_ _ | refine blk_drew ?_ | refine blk_alloc ?_ _)); exact BK567.out) hb); have n4_ := Aside0.mk (below_step (pB HB.out) hb); clear HO559; clear BK563; clear BK567; clear HB; have HO559 := n0_; have HO571 := n1_; have BK563 := n2_; have BK567 := n3_; have HB := n4_; clear n0_ n1_ n2_ n3_ n4_; (try clear hb); (try clear hb2); (try clear hk); (try clear hi); (try clear ho0)) | (go_at_call 16; (with_reducible refine (spigotref36_Short.calls k _ _ l0 a1 t572 t573 _ ?side1 ?side2 A10.out).mono ?_); (case side1 => exact Kd.pC ((Kd.C_below HR0.out HB.out))); (case side2 => exact HC0.out); rintro e w26 ⟨v574, rfl, ho0, hb⟩; have n0_ := Aside0.mk (Kd.R_below (Kd.pR HO559.out) hb); have n1_ := Aside0.mk (Kd.R_elder' (Kd.pR HO571.out) (Kd.R_base ho0) hb); have n2_ := Aside0.mk (Kd.R_lower (Kd.R_new' ho0 (Kd.R_lt (Kd.pR HO571.out))) (below_size (pB HB.out))); have n3_ := Aside0.mk (blk_below (pK BK563.out) hb); have n4_ := Aside0.mk (blk_below (pK BK567.out) hb); have n5_ := Aside0.mk (below_step (pB HB.out) hb); clear HO559; clear HO571; clear BK563; clear BK567; clear HB; have HO559 := n0_; have HO571 := n1_; have HO575 := n2_; have BK563 := n3_; have BK567 := n4_; have HB := n5_; clear n0_ n1_ n2_ n3_ n4_ n5_; (try clear hb); (try clear hb2); (try clear hk); (try clear hi); (try clear ho0)) | (go_at_call 13; (with_reducible refine (share_Split.calls k _ _ l0 a1 t576 t577 _ ?side1 ?side2 A11.out).mono ?_); (case side1 => exact Kd.pC ((Kd.C_below HR0.out HB.out))); (case side2 => exact HC0.out); rintro e w27 ⟨v578, rfl, ho0, hb⟩; have n0_ := Aside0.mk (Kd.R_below (Kd.pR HO559.out) hb); have n1_ := Aside0.mk (Kd.R_below (Kd.pR HO571.out) hb); have n2_ := Aside0.mk (Kd.R_below (Kd.pR HO575.out) hb); have n3_ := Aside0.mk (Kd.R_lower ho0 (below_size (pB HB.out))); have n4_ := Aside0.mk (blk_below (pK BK563.out) hb); have n5_ := Aside0.mk (blk_below (pK BK567.out) hb); have n6_ := Aside0.mk (below_step (pB HB.out) hb); clear HO559; clear HO571; clear HO575; clear BK563; clear BK567; clear HB; have HO559 := n0_; have HO571 := n1_; have HO575 := n2_; have HO579 := n3_; have BK563 := n4_; have BK567 := n5_; have HB := n6_; clear n0_ n1_ n2_ n3_ n4_ n5_ n6_; (try clear hb); (try clear hb2); (try clear hk); (try clear hi); (try clear ho0)) | (go_at_call 17; (with_reducible refine (spigotref36_Split.calls k _ _ l0 a1 t580 t581 _ ?side1 ?side2 A12.out).mono ?_); (case side1 => exact Kd.pC ((Kd.C_below HR0.out HB.out))); (case side2 => exact HC0.out); rintro e w28 ⟨v582, rfl, ho0, hb⟩; have n0_ := Aside0.mk (Kd.R_below (Kd.pR HO559.out) hb); have n1_ := Aside0.mk (Kd.R_below (Kd.pR HO571.out) hb); have n2_ := Aside0.mk (Kd.R_below (Kd.pR HO575.out) hb); have n3_ := Aside0.mk (Kd.R_elder' (Kd.pR HO579.out) (Kd.R_base ho0) hb); have n4_ := Aside0.mk (Kd.R_lower (Kd.R_new' ho0 (Kd.R_lt (Kd.pR HO579.out))) (below_size (pB HB.out))); have n5_ := Aside0.mk (blk_below (pK BK563.out) hb); have n6_ := Aside0.mk (blk_below (pK BK567.out) hb); have n7_ := Aside0.mk (below_step (pB HB.out) hb); clear HO559; clear HO571; clear HO575; clear HO579; clear BK563; clear BK567; clear HB; have HO559 := n0_; have HO571 := n1_; have HO575 := n2_; have HO579 := n3_; have HO583 := n4_; have BK563 := n5_; have BK567 := n6_; have HB := n7_; clear n0_ n1_ n2_ n3_ n4_ n5_ n6_ n7_; (try clear hb); (try clear hb2); (try clear hk); (try clear hi); (try clear ho0)) | (go_at_call 18; (with_reducible refine (share_Fair.calls k _ _ l0 a1 _ _ l2 t584 t585 _ ?side1 ?side2 ?side3 ?side4 A13.out).mono ?_); (case side1 => exact Kd.pC ((Kd.C_below HR0.out HB.out))); (case side2 => exact HC0.out); (case side3 => exact Kd.pC ((Kd.C_below HR2.out HB.out))); (case side4 => exact HC2.out); rintro e w29 ⟨rfl, hb⟩; have n0_ := Aside0.mk (Kd.R_below (Kd.pR HO559.out) hb); have n1_ := Aside0.mk (Kd.R_below (Kd.pR HO571.out) hb); have n2_ := Aside0.mk (Kd.R_below (Kd.pR HO575.out) hb); have n3_ := Aside0.mk (Kd.R_below (Kd.pR HO579.out) hb); have n4_ := Aside0.mk (Kd.R_below (Kd.pR HO583.out) hb); have n5_ := Aside0.mk (blk_below (pK BK563.out) hb); have n6_ := Aside0.mk (blk_below (pK BK567.out) hb); have n7_ := Aside0.mk (below_step (pB HB.out) hb); clear HO559; clear HO571; clear HO575; clear HO579; clear HO583; clear BK563; clear BK567; clear HB; have HO559 := n0_; have HO571 := n1_; have HO575 := n2_; have HO579 := n3_; have HO583 := n4_; have BK563 := n5_; have BK567 := n6_; have HB := n7_; clear n0_ n1_ n2_ n3_ n4_ n5_ n6_ n7_; (try clear hb); (try clear hb2); (try clear hk); (try clear hi)) | (go_at_call 19; (with_reducible refine (spigotref36_Fair.calls k _ _ l0 a1 _ _ l2 t586 t587 _ ?side1 ?side2 ?side3 ?side4 A14.out).mono ?_); (case side1 => exact Kd.pC ((Kd.C_below HR0.out HB.out))); (case side2 => exact HC0.out); (case side3 => exact Kd.pC ((Kd.C_below HR2.out HB.out))); (case side4 => exact HC2.out); rintro e w30 ⟨rfl, hb⟩; have n0_ := Aside0.mk (Kd.R_below (Kd.pR HO559.out) hb); have n1_ := Aside0.mk (Kd.R_below (Kd.pR HO571.out) hb); have n2_ := Aside0.mk (Kd.R_below (Kd.pR HO575.out) hb); have n3_ := Aside0.mk (Kd.R_below (Kd.pR HO579.out) hb); have n4_ := Aside0.mk (Kd.R_below (Kd.pR HO583.out) hb); have n5_ := Aside0.mk (blk_below (pK BK563.out) hb); have n6_ := Aside0.mk (blk_below (pK BK567.out) hb); have n7_ := Aside0.mk (below_step (pB HB.out) hb); clear HO559; clear HO571; clear HO575; clear HO579; clear HO583; clear BK563; clear BK567; clear HB; have HO559 := n0_; have HO571 := n1_; have HO575 := n2_; have HO579 := n3_; have HO583 := n4_; have BK563 := n5_; have BK567 := n6_; have HB := n7_; clear n0_ n1_ n2_ n3_ n4_ n5_ n6_ n7_; (try clear hb); (try clear hb2); (try clear hk); (try clear hi))))
        go_loopg [24] k (fun kq v24 w' => ∃ (x24_1 : Int), v24 = .int .i64 x24_1 ∧ Aside0 (spigotlaw36_ShareTells.l0 kq l0 y557 t562 t566 t568 t569 t572 t573 t576 t577 t580 t581 t584 t585 t586 t587 x24_1 t560 t561 t564 t565 = some true) ∧ Aside0 (kq ≤ k) ∧ Aside0 (Kd.R k37 37 w' w.heap.size (fun _ => True) v558 y557) ∧ Aside0 (Kd.R (Kd.int .i64) 3 w' w.heap.size (fun k_ => some k_ ≠ (v574 : Value).ownBlock) v570 t568) ∧ Aside0 (Kd.R (Kd.int .i64) 3 w' w.heap.size (fun k_ => some k_ ≠ (v570 : Value).ownBlock) v574 t572) ∧ Aside0 (Kd.R (Kd.int .i64) 2 w' w.heap.size (fun k_ => some k_ ≠ (v582 : Value).ownBlock) v578 t576) ∧ Aside0 (Kd.R (Kd.int .i64) 2 w' w.heap.size (fun k_ => some k_ ≠ (v578 : Value).ownBlock) v582 t580) ∧ Aside0 (w'.heap[gb563]? = some (.cells #[.int .i64 t560, .int .i64 t561] 26 (0, 0))) ∧ Aside0 (w'.heap[gb567]? = some (.cells #[.int .i64 t564, .int .i64 t565] 26 (0, 0))) ∧ Aside0 (Below w.heap.size w w'))
        case atStart => exact ⟨(0), (by first | rfl | (simp; done) | (simp [*]; done)), H', ⟨Nat.le_refl _⟩, ⟨Kd.pR HO559.out⟩, ⟨Kd.pR (Kd.R_mono HO571.out (fun _ hk => hk.2))⟩, ⟨Kd.pR (Kd.R_mono HO575.out (fun _ hk => hk.2))⟩, ⟨Kd.pR (Kd.R_mono HO579.out (fun _ hk => hk.2))⟩, ⟨Kd.pR (Kd.R_mono HO583.out (fun _ hk => hk.2))⟩, ⟨pK BK563.out⟩, ⟨pK BK567.out⟩, ⟨pB HB.out⟩⟩
        case round =>
          clear H'
          try clear c2
          try clear p2
          try clear c4
          try clear c4b0
          try clear c4b1
          try clear c5
          try clear c5b0
          try clear c5b1
          try clear c6
          try clear c23
          try clear hcz20_0
          try clear hcz20_1
          try clear hcz24_0
          try clear hcz24_1
          try clear hfz20_0
          try clear hfz20_1
          try clear hfz24_0
          try clear hfz24_1
          obtain ⟨x24_1, rfl, HA, HK1, HO_7, HO_12, HO_14, HO_16, HO_18, BK563, BK567, HB⟩ := hrel
          cases gk with
          | zero => exact absurd HA.out (by simp [spigotlaw36_ShareTells.l0])
          | succ k1 =>
            have H := HA.out
            (try clear HA)
            simp only [spigotlaw36_ShareTells.l0] at H
            by_cases c31 : x24_1 < (l0.length : Int)
            · rw [if_pos c31] at H
              have c31b0 : decide (x24_1 < (l0.length : Int)) = true := decide_eq_true c31
              clear c31
              by_cases c32 : 0 ≤ x24_1
              · rw [if_pos c32] at H
                have c32b0 : decide (0 ≤ x24_1) = true := decide_eq_true c32
                clear c32
                by_cases c33 : x24_1 < (y557.length : Int)
                · rw [if_pos c33] at H
                  have c33b0 : decide (x24_1 < (y557.length : Int)) = true := decide_eq_true c33
                  clear c33
                  by_cases c34 : (!(((rd_T37 l0 x24_1).f0) == ((rd_T37 y557 x24_1).f0)) || (!(((rd_T37 l0 x24_1).f1) == ((rd_T37 y557 x24_1).f1)))) = true
                  · rw [if_pos c34] at H
                    have c34b0 : (!(((rd_T37 l0 x24_1).f0) == ((rd_T37 y557 x24_1).f0)) || (!(((rd_T37 l0 x24_1).f1) == ((rd_T37 y557 x24_1).f1)))) = true := c34
                    clear c34
                    exact absurd H (by simp)
                  · rw [if_neg c34] at H
                    have c34b0 : (!(((rd_T37 l0 x24_1).f0) == ((rd_T37 y557 x24_1).f0)) || (!(((rd_T37 l0 x24_1).f1) == ((rd_T37 y557 x24_1).f1)))) = false := by simpa using c34
                    (try clear c34)
                    have H' := Aside0.mk H
                    clear H
                    have p588 : 0 ≤ (x24_1 : Int) := od
                    have q588 : x24_1 < (l0.length : Int) := od
                    obtain ⟨ad588, e588, hx588_0, hx588_1⟩ := at_T37 HR0.out x24_1 p588 q588
                    cases e588
                    replace hx588_0 := (HB.out.cell (World.block_lt_of_cell? w _ hx588_0)).trans hx588_0
                    replace hx588_1 := (HB.out.cell (World.block_lt_of_cell? w _ hx588_1)).trans hx588_1
                    replace p588 := eq_true p588
                    replace q588 := eq_true q588
                    obtain ⟨Ao35, co35, eo35⟩ := Kd.R_slice HO_7.out
                    subst eo35
                    have p589 : 0 ≤ (x24_1 : Int) := od
                    have q589 : x24_1 < (y557.length : Int) := od
                    obtain ⟨ad589, e589, hx589_0, hx589_1⟩ := at_T37 (Kd.R_reads' HO_7.out).2.2 x24_1 p589 q589
                    cases e589
                    replace p589 := eq_true p589
                    replace q589 := eq_true q589
                    go_wp2
                    repeat (go_quiet (fail); try go_wp2)
                    go_roundg k1
                    case measure => have := HK1.out; omega
                    case rel => exact ⟨(wrap64 (x24_1 + 1)), (by first | rfl | (simp; done) | (simp [*]; done)), H', ⟨by have := HK1.out; omega⟩, ⟨Kd.pR HO_7.out⟩, ⟨Kd.pR HO_12.out⟩, ⟨Kd.pR HO_14.out⟩, ⟨Kd.pR HO_16.out⟩, ⟨Kd.pR HO_18.out⟩, ⟨pK BK563.out⟩, ⟨pK BK567.out⟩, ⟨pB HB.out⟩⟩
                · rw [if_neg c33] at H
                  exact absurd H (by simp)
              · rw [if_neg c32] at H
                exact absurd H (by simp)
            · rw [if_neg c31] at H
              have c31b0 : decide (x24_1 < (l0.length : Int)) = false := decide_eq_false c31
              (try clear c31)
              replace H := Option.bind_eq_some_iff.mp H
              obtain ⟨t590, A360, H⟩ := H
              replace H : ((spigotref36_Check.f k1 l0).bind fun t591 => (if t590 = t591 then (if (t560 == t564 && (t561 == t565)) = true then (if t562 = t566 then ((spigotref36_SameInts.f k1 t568 t572).bind fun t592 => (if t592 = true then (if t569 = t573 then ((spigotref36_Same.f k1 t576 t580).bind fun t593 => (if t593 = true then (if t577 = t581 then (if (t584 == t586) = true then (some (t585 == t587)) else (some false)) else (some false)) else (some false))) else (some false)) else (some false))) else (some false)) else (some false)) else (some false))) = some true := H
              have A36 := Aside0.mk A360
              (try clear A360)
              replace H := Option.bind_eq_some_iff.mp H
              obtain ⟨t591, A370, H⟩ := H
              replace H : (if t590 = t591 then (if (t560 == t564 && (t561 == t565)) = true then (if t562 = t566 then ((spigotref36_SameInts.f k1 t568 t572).bind fun t592 => (if t592 = true then (if t569 = t573 then ((spigotref36_Same.f k1 t576 t580).bind fun t593 => (if t593 = true then (if t577 = t581 then (if (t584 == t586) = true then (some (t585 == t587)) else (some false)) else (some false)) else (some false))) else (some false)) else (some false))) else (some false)) else (some false)) else (some false)) = some true := H
              have A37 := Aside0.mk A370
              (try clear A370)
              by_cases c38 : t590 = t591
              · rw [if_pos c38] at H
                have c38b0 : (t590 == t591) = true := beq_iff_eq.mpr c38
                have c38b1 : (t590 != t591) = false := bne_eq_false_iff_eq.mpr c38
                clear c38
                by_cases c39 : (t560 == t564 && (t561 == t565)) = true
                · rw [if_pos c39] at H
                  have c39b0 : (t560 == t564 && (t561 == t565)) = true := c39
                  (try (have c39b1 : decide (t560 = t564 && (t561 == t565)) = true := by simpa using c39))
                  (try (have c39b2 : (t560 == t564 && (t561 == t565)) = true := by simpa using c39))
                  clear c39
                  by_cases c40 : t562 = t566
                  · rw [if_pos c40] at H
                    have c40b0 : (t562 == t566) = true := beq_iff_eq.mpr c40
                    have c40b1 : (t562 != t566) = false := bne_eq_false_iff_eq.mpr c40
                    clear c40
                    replace H := Option.bind_eq_some_iff.mp H
                    obtain ⟨t592, A410, H⟩ := H
                    replace H : (if t592 = true then (if t569 = t573 then ((spigotref36_Same.f k1 t576 t580).bind fun t593 => (if t593 = true then (if t577 = t581 then (if (t584 == t586) = true then (some (t585 == t587)) else (some false)) else (some false)) else (some false))) else (some false)) else (some false)) = some true := H
                    have A41 := Aside0.mk A410
                    (try clear A410)
                    by_cases c42 : t592 = true
                    · subst c42
                      have H1 : (if t569 = t573 then ((spigotref36_Same.f k1 t576 t580).bind fun t593 => (if t593 = true then (if t577 = t581 then (if (t584 == t586) = true then (some (t585 == t587)) else (some false)) else (some false)) else (some false))) else (some false)) = some true := by rw [if_pos rfl] at H; exact H
                      clear H
                      have H := H1
                      clear H1
                      by_cases c43 : t569 = t573
                      · rw [if_pos c43] at H
                        have c43b0 : (t569 == t573) = true := beq_iff_eq.mpr c43
                        have c43b1 : (t569 != t573) = false := bne_eq_false_iff_eq.mpr c43
                        clear c43
                        replace H := Option.bind_eq_some_iff.mp H
                        obtain ⟨t593, A440, H⟩ := H
                        replace H : (if t593 = true then (if t577 = t581 then (if (t584 == t586) = true then (some (t585 == t587)) else (some false)) else (some false)) else (some false)) = some true := H
                        have A44 := Aside0.mk A440
                        (try clear A440)
                        by_cases c45 : t593 = true
                        · subst c45
                          have H1 : (if t577 = t581 then (if (t584 == t586) = true then (some (t585 == t587)) else (some false)) else (some false)) = some true := by rw [if_pos rfl] at H; exact H
                          clear H
                          have H := H1
                          clear H1
                          by_cases c46 : t577 = t581
                          · rw [if_pos c46] at H
                            have c46b0 : (t577 == t581) = true := beq_iff_eq.mpr c46
                            have c46b1 : (t577 != t581) = false := bne_eq_false_iff_eq.mpr c46
                            clear c46
                            by_cases c47 : (t584 == t586) = true
                            · rw [if_pos c47] at H
                              have c47b0 : (t584 == t586) = true := c47
                              (try (have c47b1 : decide (t584 = t586) = true := by simpa using c47))
                              (try (have c47b2 : (t584 == t586) = true := by simpa using c47))
                              clear c47
                              have HRT := Aside0.mk (Option.some.inj H)
                              clear H
                              go_wp2_with (first | (go_at_call 20; (with_reducible refine (share_Check.calls k1 _ _ l0 t590 _ ?side1 ?side2 A36.out).mono ?_); (case side1 => exact Kd.pC ((Kd.C_below HR0.out HB.out))); (case side2 => exact HC0.out); rintro e w48 ⟨rfl, hb⟩; have n0_ := Aside0.mk (Kd.R_below (Kd.pR HO_7.out) hb); have n1_ := Aside0.mk (Kd.R_below (Kd.pR HO_12.out) hb); have n2_ := Aside0.mk (Kd.R_below (Kd.pR HO_14.out) hb); have n3_ := Aside0.mk (Kd.R_below (Kd.pR HO_16.out) hb); have n4_ := Aside0.mk (Kd.R_below (Kd.pR HO_18.out) hb); have n5_ := Aside0.mk (blk_below (pK BK563.out) hb); have n6_ := Aside0.mk (blk_below (pK BK567.out) hb); have n7_ := Aside0.mk (below_step (pB HB.out) hb); clear HO_7; clear HO_12; clear HO_14; clear HO_16; clear HO_18; clear BK563; clear BK567; clear HB; have HO_7 := n0_; have HO_12 := n1_; have HO_14 := n2_; have HO_16 := n3_; have HO_18 := n4_; have BK563 := n5_; have BK567 := n6_; have HB := n7_; clear n0_ n1_ n2_ n3_ n4_ n5_ n6_ n7_; (try clear hb); (try clear hb2); (try clear hk); (try clear hi)) | (go_at_call 21; (with_reducible refine (spigotref36_Check.calls k1 _ _ l0 t591 _ ?side1 ?side2 A37.out).mono ?_); (case side1 => exact Kd.pC ((Kd.C_below HR0.out HB.out))); (case side2 => exact HC0.out); rintro e w' ⟨rfl, ⟨nd, rfl⟩⟩; (try first | exact ⟨rfl, _, World.drewN_drewN _ _ _⟩ | exact ⟨rfl, _, Eq.trans (World.drewN_drewN _ _ _) (congrArg (World.drewN _) (Nat.add_assoc _ _ _))⟩); have hnb49 := NB563_567.out; have hnc49 := NB567_563.out; obtain ⟨hcz50_0, hcz50_1, hfz50_0, hfz50_1⟩ := bk2 BK563.out; obtain ⟨hcz51_0, hcz51_1, hfz51_0, hfz51_1⟩ := bk2 BK567.out; obtain ⟨Ao52, co52, eo52⟩ := Kd.R_slice HO_12.out; subst eo52; obtain ⟨Ao53, co53, eo53⟩ := Kd.R_slice HO_14.out; subst eo53) | (go_at_call 22; (with_reducible refine (spigotref36_SameInts.calls k1 _ _ t568 _ _ t572 true _ ?side1 ?side2 ?side3 ?side4 A41.out).mono ?_); (case side1 => exact Kd.pC ((Kd.R_reads' HO_12.out).2.2)); (case side2 => exact (Kd.R_reads' HO_12.out).2.1); (case side3 => exact Kd.pC ((Kd.R_reads' HO_14.out).2.2)); (case side4 => exact (Kd.R_reads' HO_14.out).2.1); rintro e w' ⟨rfl, ⟨nd, rfl⟩⟩; (try first | exact ⟨rfl, _, World.drewN_drewN _ _ _⟩ | exact ⟨rfl, _, Eq.trans (World.drewN_drewN _ _ _) (congrArg (World.drewN _) (Nat.add_assoc _ _ _))⟩); obtain ⟨Ao54, co54, eo54⟩ := Kd.R_slice HO_16.out; subst eo54; obtain ⟨Ao55, co55, eo55⟩ := Kd.R_slice HO_18.out; subst eo55) | (go_at_call 14; (with_reducible refine (spigotref36_Same.calls k1 _ _ t576 _ _ t580 true _ ?side1 ?side2 ?side3 ?side4 A44.out).mono ?_); (case side1 => exact Kd.pC ((Kd.R_reads' HO_16.out).2.2)); (case side2 => exact (Kd.R_reads' HO_16.out).2.1); (case side3 => exact Kd.pC ((Kd.R_reads' HO_18.out).2.2)); (case side4 => exact (Kd.R_reads' HO_18.out).2.1); rintro e w' ⟨rfl, ⟨nd, rfl⟩⟩; (try first | exact ⟨rfl, _, World.drewN_drewN _ _ _⟩ | exact ⟨rfl, _, Eq.trans (World.drewN_drewN _ _ _) (congrArg (World.drewN _) (Nat.add_assoc _ _ _))⟩)))
                              repeat (go_quiet (first | (go_at_call 20; (with_reducible refine (share_Check.calls k1 _ _ l0 t590 _ ?side1 ?side2 A36.out).mono ?_); (case side1 => exact Kd.pC ((Kd.C_below HR0.out HB.out))); (case side2 => exact HC0.out); rintro e w48 ⟨rfl, hb⟩; have n0_ := Aside0.mk (Kd.R_below (Kd.pR HO_7.out) hb); have n1_ := Aside0.mk (Kd.R_below (Kd.pR HO_12.out) hb); have n2_ := Aside0.mk (Kd.R_below (Kd.pR HO_14.out) hb); have n3_ := Aside0.mk (Kd.R_below (Kd.pR HO_16.out) hb); have n4_ := Aside0.mk (Kd.R_below (Kd.pR HO_18.out) hb); have n5_ := Aside0.mk (blk_below (pK BK563.out) hb); have n6_ := Aside0.mk (blk_below (pK BK567.out) hb); have n7_ := Aside0.mk (below_step (pB HB.out) hb); clear HO_7; clear HO_12; clear HO_14; clear HO_16; clear HO_18; clear BK563; clear BK567; clear HB; have HO_7 := n0_; have HO_12 := n1_; have HO_14 := n2_; have HO_16 := n3_; have HO_18 := n4_; have BK563 := n5_; have BK567 := n6_; have HB := n7_; clear n0_ n1_ n2_ n3_ n4_ n5_ n6_ n7_; (try clear hb); (try clear hb2); (try clear hk); (try clear hi)) | (go_at_call 21; (with_reducible refine (spigotref36_Check.calls k1 _ _ l0 t591 _ ?side1 ?side2 A37.out).mono ?_); (case side1 => exact Kd.pC ((Kd.C_below HR0.out HB.out))); (case side2 => exact HC0.out); rintro e w' ⟨rfl, ⟨nd, rfl⟩⟩; (try first | exact ⟨rfl, _, World.drewN_drewN _ _ _⟩ | exact ⟨rfl, _, Eq.trans (World.drewN_drewN _ _ _) (congrArg (World.drewN _) (Nat.add_assoc _ _ _))⟩); have hnb49 := NB563_567.out; have hnc49 := NB567_563.out; obtain ⟨hcz50_0, hcz50_1, hfz50_0, hfz50_1⟩ := bk2 BK563.out; obtain ⟨hcz51_0, hcz51_1, hfz51_0, hfz51_1⟩ := bk2 BK567.out; obtain ⟨Ao52, co52, eo52⟩ := Kd.R_slice HO_12.out; subst eo52; obtain ⟨Ao53, co53, eo53⟩ := Kd.R_slice HO_14.out; subst eo53) | (go_at_call 22; (with_reducible refine (spigotref36_SameInts.calls k1 _ _ t568 _ _ t572 true _ ?side1 ?side2 ?side3 ?side4 A41.out).mono ?_); (case side1 => exact Kd.pC ((Kd.R_reads' HO_12.out).2.2)); (case side2 => exact (Kd.R_reads' HO_12.out).2.1); (case side3 => exact Kd.pC ((Kd.R_reads' HO_14.out).2.2)); (case side4 => exact (Kd.R_reads' HO_14.out).2.1); rintro e w' ⟨rfl, ⟨nd, rfl⟩⟩; (try first | exact ⟨rfl, _, World.drewN_drewN _ _ _⟩ | exact ⟨rfl, _, Eq.trans (World.drewN_drewN _ _ _) (congrArg (World.drewN _) (Nat.add_assoc _ _ _))⟩); obtain ⟨Ao54, co54, eo54⟩ := Kd.R_slice HO_16.out; subst eo54; obtain ⟨Ao55, co55, eo55⟩ := Kd.R_slice HO_18.out; subst eo55) | (go_at_call 14; (with_reducible refine (spigotref36_Same.calls k1 _ _ t576 _ _ t580 true _ ?side1 ?side2 ?side3 ?side4 A44.out).mono ?_); (case side1 => exact Kd.pC ((Kd.R_reads' HO_16.out).2.2)); (case side2 => exact (Kd.R_reads' HO_16.out).2.1); (case side3 => exact Kd.pC ((Kd.R_reads' HO_18.out).2.2)); (case side4 => exact (Kd.R_reads' HO_18.out).2.1); rintro e w' ⟨rfl, ⟨nd, rfl⟩⟩; (try first | exact ⟨rfl, _, World.drewN_drewN _ _ _⟩ | exact ⟨rfl, _, Eq.trans (World.drewN_drewN _ _ _) (congrArg (World.drewN _) (Nat.add_assoc _ _ _))⟩))); try go_wp2_with (first | (go_at_call 20; (with_reducible refine (share_Check.calls k1 _ _ l0 t590 _ ?side1 ?side2 A36.out).mono ?_); (case side1 => exact Kd.pC ((Kd.C_below HR0.out HB.out))); (case side2 => exact HC0.out); rintro e w48 ⟨rfl, hb⟩; have n0_ := Aside0.mk (Kd.R_below (Kd.pR HO_7.out) hb); have n1_ := Aside0.mk (Kd.R_below (Kd.pR HO_12.out) hb); have n2_ := Aside0.mk (Kd.R_below (Kd.pR HO_14.out) hb); have n3_ := Aside0.mk (Kd.R_below (Kd.pR HO_16.out) hb); have n4_ := Aside0.mk (Kd.R_below (Kd.pR HO_18.out) hb); have n5_ := Aside0.mk (blk_below (pK BK563.out) hb); have n6_ := Aside0.mk (blk_below (pK BK567.out) hb); have n7_ := Aside0.mk (below_step (pB HB.out) hb); clear HO_7; clear HO_12; clear HO_14; clear HO_16; clear HO_18; clear BK563; clear BK567; clear HB; have HO_7 := n0_; have HO_12 := n1_; have HO_14 := n2_; have HO_16 := n3_; have HO_18 := n4_; have BK563 := n5_; have BK567 := n6_; have HB := n7_; clear n0_ n1_ n2_ n3_ n4_ n5_ n6_ n7_; (try clear hb); (try clear hb2); (try clear hk); (try clear hi)) | (go_at_call 21; (with_reducible refine (spigotref36_Check.calls k1 _ _ l0 t591 _ ?side1 ?side2 A37.out).mono ?_); (case side1 => exact Kd.pC ((Kd.C_below HR0.out HB.out))); (case side2 => exact HC0.out); rintro e w' ⟨rfl, ⟨nd, rfl⟩⟩; (try first | exact ⟨rfl, _, World.drewN_drewN _ _ _⟩ | exact ⟨rfl, _, Eq.trans (World.drewN_drewN _ _ _) (congrArg (World.drewN _) (Nat.add_assoc _ _ _))⟩); have hnb49 := NB563_567.out; have hnc49 := NB567_563.out; obtain ⟨hcz50_0, hcz50_1, hfz50_0, hfz50_1⟩ := bk2 BK563.out; obtain ⟨hcz51_0, hcz51_1, hfz51_0, hfz51_1⟩ := bk2 BK567.out; obtain ⟨Ao52, co52, eo52⟩ := Kd.R_slice HO_12.out; subst eo52; obtain ⟨Ao53, co53, eo53⟩ := Kd.R_slice HO_14.out; subst eo53) | (go_at_call 22; (with_reducible refine (spigotref36_SameInts.calls k1 _ _ t568 _ _ t572 true _ ?side1 ?side2 ?side3 ?side4 A41.out).mono ?_); (case side1 => exact Kd.pC ((Kd.R_reads' HO_12.out).2.2)); (case side2 => exact (Kd.R_reads' HO_12.out).2.1); (case side3 => exact Kd.pC ((Kd.R_reads' HO_14.out).2.2)); (case side4 => exact (Kd.R_reads' HO_14.out).2.1); rintro e w' ⟨rfl, ⟨nd, rfl⟩⟩; (try first | exact ⟨rfl, _, World.drewN_drewN _ _ _⟩ | exact ⟨rfl, _, Eq.trans (World.drewN_drewN _ _ _) (congrArg (World.drewN _) (Nat.add_assoc _ _ _))⟩); obtain ⟨Ao54, co54, eo54⟩ := Kd.R_slice HO_16.out; subst eo54; obtain ⟨Ao55, co55, eo55⟩ := Kd.R_slice HO_18.out; subst eo55) | (go_at_call 14; (with_reducible refine (spigotref36_Same.calls k1 _ _ t576 _ _ t580 true _ ?side1 ?side2 ?side3 ?side4 A44.out).mono ?_); (case side1 => exact Kd.pC ((Kd.R_reads' HO_16.out).2.2)); (case side2 => exact (Kd.R_reads' HO_16.out).2.1); (case side3 => exact Kd.pC ((Kd.R_reads' HO_18.out).2.2)); (case side4 => exact (Kd.R_reads' HO_18.out).2.1); rintro e w' ⟨rfl, ⟨nd, rfl⟩⟩; (try first | exact ⟨rfl, _, World.drewN_drewN _ _ _⟩ | exact ⟨rfl, _, Eq.trans (World.drewN_drewN _ _ _) (congrArg (World.drewN _) (Nat.add_assoc _ _ _))⟩))))
                              go_ret
                              exact ⟨by first | rfl | (simp [errW_none, errW_some] <;> rfl) | (simp [*, errW_none, errW_some] <;> rfl) | (rw [HRT.out] <;> rfl) | (simp [HRT.out]; done) | (have h_ := HRT.out; simp [*] at h_ ⊢ <;> first | done | assumption | omega) | (have h_ := HRT.out; simp [*] at h_; done), pB HB.out⟩
                            · rw [if_neg c47] at H
                              have c47b0 : (t584 == t586) = false := by simpa using c47
                              (try (have c47b1 : decide (t584 = t586) = false := by simpa using c47))
                              (try (have c47b2 : (t584 == t586) = false := by simpa using c47))
                              (try (have c47b3 : ¬ (t584 = t586) := by simpa using c47))
                              clear c47
                              exact absurd H (by simp)
                          · rw [if_neg c46] at H
                            have c46b0 : (t577 == t581) = false := beq_eq_false_iff_ne.mpr c46
                            have c46b1 : (t577 != t581) = true := bne_iff_ne.mpr c46
                            exact absurd H (by simp)
                        · replace c45 := Bool.eq_false_iff.mpr c45
                          subst c45
                          have H1 : (some false) = some true := by rw [if_neg (show ¬ (false = true) by decide)] at H; exact H
                          clear H
                          have H := H1
                          clear H1
                          exact absurd H (by simp)
                      · rw [if_neg c43] at H
                        have c43b0 : (t569 == t573) = false := beq_eq_false_iff_ne.mpr c43
                        have c43b1 : (t569 != t573) = true := bne_iff_ne.mpr c43
                        exact absurd H (by simp)
                    · replace c42 := Bool.eq_false_iff.mpr c42
                      subst c42
                      have H1 : (some false) = some true := by rw [if_neg (show ¬ (false = true) by decide)] at H; exact H
                      clear H
                      have H := H1
                      clear H1
                      exact absurd H (by simp)
                  · rw [if_neg c40] at H
                    have c40b0 : (t562 == t566) = false := beq_eq_false_iff_ne.mpr c40
                    have c40b1 : (t562 != t566) = true := bne_iff_ne.mpr c40
                    exact absurd H (by simp)
                · rw [if_neg c39] at H
                  have c39b0 : (t560 == t564 && (t561 == t565)) = false := by simpa using c39
                  (try (have c39b1 : decide (t560 = t564 && (t561 == t565)) = false := by simpa using c39))
                  (try (have c39b2 : (t560 == t564 && (t561 == t565)) = false := by simpa using c39))
                  (try (have c39b3 : ¬ (t560 = t564 && (t561 == t565)) := by simpa using c39))
                  clear c39
                  exact absurd H (by simp)
              · rw [if_neg c38] at H
                have c38b0 : (t590 == t591) = false := beq_eq_false_iff_ne.mpr c38
                have c38b1 : (t590 != t591) = true := bne_iff_ne.mpr c38
                exact absurd H (by simp)
      · rw [if_neg c6] at H
        exact absurd H (by simp)

/-- THE ONE PURE STATEMENT of spigotlaw36_ShareTells. -/
def spigotlaw36_ShareTells.Pure : Prop := ∀ (l0 : List (S37)) (a1 : Int) (l2 : List Int), ((∀ x ∈ l0, ((Lit.int .i64 x.f0).wf = true) ∧ ((Lit.int .i64 x.f1).wf = true)) ∧ l0.length ≤ maxLen) → ((Lit.int .i64 a1).wf = true) → ((∀ x ∈ l2, (Lit.int .i64 x).wf = true) ∧ l2.length ≤ maxLen) → ∃ k, spigotlaw36_ShareTells.f k l0 a1 l2 = some true

end Go.Proofs.Yteeceppbnkkfpaa.PShare
