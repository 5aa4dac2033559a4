-- printed by a program of this session (a turned copy of the kit's print); Lean checks it
import Derived.Test.YtlgfopdindklnaaPArenax0
import Derived.Test.YtlgfopdindklnaaPArenax2
import Derived.Test.YtlgfopdindklnaaPArenax3
namespace Go.Proofs.Ytlgfopdindklnaa.PArena
open Go.RowKit Go.Proofs.YtlgfopdindklnaaW.PrintWords Go.Proofs.YtlgfopdindklnaaW.PrintLast Go.Proofs.YtlgfopdindklnaaW.PrintMore
attribute [local go_sem] max2_int min2_int max_two min_two max_three min_three max_four min_four   -- for this text's walks alone
set_option linter.unusedVariables false
set_option linter.unusedSimpArgs false

/-! ### arena_Take: function 25 -/
def arena_Take.f (k : Nat) (l0_0 : List Int) (l0_1 : List Bool) (a0_2 : Int) : Option (List Int × List Bool × Int × Int × Int) := (arena_Check.f k l0_0 l0_1 a0_2).bind fun t133 => (if t133 = 0 then (if a0_2 = (-1) then (some (([] : List Int), ([] : List Bool), 0, 0, 18)) else ((arena_twin.f l0_0 l0_1 a0_2).bind fun bt134 => (if 0 ≤ a0_2 then (if a0_2 < (l0_0.length : Int) then (if a0_2 < (bt134.1.length : Int) then (if a0_2 < (bt134.2.1.length : Int) then (some ((bt134.1.set (a0_2 : Int).toNat (-1)), (bt134.2.1.set (a0_2 : Int).toNat true), rd l0_0 a0_2, a0_2, 0)) else (none)) else (none)) else (none)) else (none)))) else (some (([] : List Int), ([] : List Bool), 0, 0, t133)))
theorem arena_Take.mono : ∀ a0 a1 a2 k, LeO (arena_Take.f k a0 a1 a2) (arena_Take.f (k + 1) a0 a1 a2) := by
  intro a0 a1 a2 k
  unfold arena_Take.f
  repeat' first
      | (with_reducible exact arena_Check.mono _ _ _ _)
      | (with_reducible exact LeO.refl _)
      | (with_reducible exact LeO.none _)
      | (with_reducible refine LeO.ite ?_ ?_)
      | (with_reducible refine LeO.bind ?_ (fun _ => ?_))
      | exact arena_Check.mono _ _ _ _
      | exact LeO.none _
      | refine LeO.ite ?_ ?_
      | refine LeO.bind ?_ (fun _ => ?_)
set_option maxHeartbeats 8000000 in
set_option maxRecDepth 100000 in
theorem arena_Take.calls (k : Nat) (A0_0 : Option Addr) (c0_0 : Nat) (l0_0 : List Int) (A0_1 : Option Addr) (c0_1 : Nat) (l0_1 : List Bool) (a0_2 : Int) (r1 : List Int) (r2 : List Bool) (r3 : Int) (r4 : Int) (r5 : Int) (w : World) (hr0_0 : Kd.C (Kd.int .i64) w A0_0 l0_0.length l0_0) (hc0_0 : l0_0.length ≤ c0_0) (hr0_1 : Kd.C Kd.bool w A0_1 l0_1.length l0_1) (hc0_1 : l0_1.length ≤ c0_1) (h : arena_Take.f k l0_0 l0_1 a0_2 = some (r1, r2, r3, r4, r5)) :
    Calls Try.prog 25 #[.agg #[.slice A0_0 l0_0.length c0_0, .slice A0_1 l0_1.length c0_1, .int .i64 a0_2]] w fun e w' => ∃ v0_ v1_ : Value, e = .returned (.tuple #[.agg #[v0_, v1_, .int .i64 r3], .int .i64 r4, .int .i64 r5]) ∧ Kd.R (Kd.int .i64) 3 w' w.heap.size (fun _ => True) v0_ r1 ∧ Kd.R Kd.bool 4 w' w.heap.size (fun _ => True) v1_ r2 ∧ Below w.heap.size w w' := by
  have hu36 := Try.underlying36
  have HR0_0 := Aside0.mk hr0_0
  have HC0_0 := Aside0.mk hc0_0
  clear hr0_0 hc0_0
  have HR0_1 := Aside0.mk hr0_1
  have HC0_1 := Aside0.mk hc0_1
  clear hr0_1 hc0_1
  have HB := Aside0.mk (Below.refl w.heap.size w)
  have H : ((arena_Check.f k l0_0 l0_1 a0_2).bind fun t133 => (if t133 = 0 then (if a0_2 = (-1) then (some (([] : List Int), ([] : List Bool), 0, 0, 18)) else ((arena_twin.f l0_0 l0_1 a0_2).bind fun bt134 => (if 0 ≤ a0_2 then (if a0_2 < (l0_0.length : Int) then (if a0_2 < (bt134.1.length : Int) then (if a0_2 < (bt134.2.1.length : Int) then (some ((bt134.1.set (a0_2 : Int).toNat (-1)), (bt134.2.1.set (a0_2 : Int).toNat true), rd l0_0 a0_2, a0_2, 0)) else (none)) else (none)) else (none)) else (none)))) else (some (([] : List Int), ([] : List Bool), 0, 0, t133)))) = some (r1, r2, r3, r4, r5) := h
  clear h
  replace H := Option.bind_eq_some_iff.mp H
  obtain ⟨t133, A20, H⟩ := H
  replace H : (if t133 = 0 then (if a0_2 = (-1) then (some (([] : List Int), ([] : List Bool), 0, 0, 18)) else ((arena_twin.f l0_0 l0_1 a0_2).bind fun bt134 => (if 0 ≤ a0_2 then (if a0_2 < (l0_0.length : Int) then (if a0_2 < (bt134.1.length : Int) then (if a0_2 < (bt134.2.1.length : Int) then (some ((bt134.1.set (a0_2 : Int).toNat (-1)), (bt134.2.1.set (a0_2 : Int).toNat true), rd l0_0 a0_2, a0_2, 0)) else (none)) else (none)) else (none)) else (none)))) else (some (([] : List Int), ([] : List Bool), 0, 0, t133))) = some (r1, r2, r3, r4, r5) := H
  have A2 := Aside0.mk A20
  (try clear A20)
  by_cases c3 : t133 = 0
  · rw [if_pos c3] at H
    have c3b0 : (t133 == 0) = true := beq_iff_eq.mpr c3
    have c3b1 : (t133 != 0) = false := bne_eq_false_iff_eq.mpr c3
    clear c3
    by_cases c4 : a0_2 = (-1)
    · rw [if_pos c4] at H
      have c4b0 : (a0_2 == (-1)) = true := beq_iff_eq.mpr c4
      have c4b1 : (a0_2 != (-1)) = false := bne_eq_false_iff_eq.mpr c4
      clear c4
      simp only [Option.some.injEq, Prod.mk.injEq] at H
      obtain ⟨rfl, rfl, rfl, rfl, rfl⟩ := H
      go_enter Try.func25, Try.ntmps25
      go_wp2_with (first | ((with_reducible refine gate_dst (N := 1) rfl ?_); refine boxE (N := 1) (cs := #[.slice A0_0 l0_0.length c0_0, .slice A0_1 l0_1.length c0_1, .int .i64 a0_2]) (t := 36) ?_; intro gb131 hg w5 hbox hb; have n0_ := Aside0.mk (below_step (pB HB.out) hb); have n1_ := Aside0.mk (hbox); have n3_ := Aside0.mk (pL HB.out hg); clear HB; have HB := n0_; have BK131 := n1_; have GE131 := n3_; clear n0_ n1_ n3_; clear hb hbox hg) | ((with_reducible refine gate_dst (N := 2) rfl ?_); refine boxE (N := 2) (cs := #[.slice none 0 0, .slice none 0 0, .int .i64 0]) (t := 36) ?_; intro gb132 hg w6 hbox hb; have n0_ := Aside0.mk (blk_below (pK BK131.out) hb); have n1_ := Aside0.mk (below_step (pB HB.out) hb); have n2_ := Aside0.mk (hbox); have n4_ := Aside0.mk (pL HB.out hg); have n5_ := Aside0.mk (pNl BK131.out hg); have n6_ := Aside0.mk (pNg BK131.out hg); clear BK131; clear HB; have BK131 := n0_; have HB := n1_; have BK132 := n2_; have GE132 := n4_; have NB131_132 := n5_; have NB132_131 := n6_; clear n0_ n1_ n2_ n4_ n5_ n6_; clear hb hbox hg; have hnb7 := NB131_132.out; have hnc7 := NB132_131.out; obtain ⟨hcz8_0, hcz8_1, hcz8_2, hfz8_0, hfz8_1, hfz8_2⟩ := bk3 BK131.out) | ((with_reducible refine gate_callee (f := 35) rfl ?_); refine goesE (some 9) rfl rfl Try.func35 (by kernel_rfl) rfl #[.agg #[.slice A0_0 l0_0.length c0_0, .slice A0_1 l0_1.length c0_1, .int .i64 a0_2]] rfl ?_; (with_reducible refine (arena_Check.calls k _ _ l0_0 _ _ l0_1 a0_2 t133 _ ?side1 ?side2 ?side3 ?side4 A2.out).mono ?_); (case side1 => exact Kd.pC ((Kd.C_below HR0_0.out HB.out))); (case side2 => exact HC0_0.out); (case side3 => exact Kd.pC ((Kd.C_below HR0_1.out HB.out))); (case side4 => exact HC0_1.out); rintro e w9 ⟨rfl, hb⟩; refine ⟨_, rfl, ?_⟩; have n0_ := Aside0.mk (blk_below (pK BK131.out) hb); have n1_ := Aside0.mk (blk_below (pK BK132.out) hb); have n2_ := Aside0.mk (below_step (pB HB.out) hb); clear BK131; clear BK132; clear HB; have BK131 := n0_; have BK132 := n1_; have HB := n2_; clear n0_ n1_ n2_; (try clear hb); (try clear hb2); (try clear hk); (try clear hi); obtain ⟨hcz10_0, hcz10_1, hcz10_2, hfz10_0, hfz10_1, hfz10_2⟩ := bk3 BK131.out; obtain ⟨hcz11_0, hcz11_1, hcz11_2, hfz11_0, hfz11_1, hfz11_2⟩ := bk3 BK132.out))
      refine bodyPost_ret (results_ctt rfl _ _ gb132 36 #[.slice none 0 0, .slice none 0 0, .int .i64 0] (0, 0) _ rfl (by (with_reducible repeat (first | refine blk_drewN ?_ _ | refine blk_drew ?_ | refine blk_alloc ?_ _)); refine blk_put (cs := #[.slice none 0 0, .slice none 0 0, .int .i64 0]) ?_ 2 _ rfl; (with_reducible repeat (first | refine blk_drewN ?_ _ | refine blk_drew ?_ | refine blk_alloc ?_ _)); refine blk_put (cs := #[.slice none 0 0, .slice none 0 0, .int .i64 0]) ?_ 1 _ rfl; (with_reducible repeat (first | refine blk_drewN ?_ _ | refine blk_drew ?_ | refine blk_alloc ?_ _)); refine blk_put (cs := #[.slice none 0 0, .slice none 0 0, .int .i64 0]) ?_ 0 _ rfl; (with_reducible repeat (first | refine blk_drewN ?_ _ | refine blk_drew ?_ | refine blk_alloc ?_ _)); exact BK132.out) Try.underlying36 rfl (by kernel_rfl)) rfl ?_
      exact ⟨_, _, by first | rfl | (simp [errW_none, errW_some] <;> rfl) | (simp [*, errW_none, errW_some] <;> rfl), by first | exact Kd.R_nil _ _ _ _ _ | exact Kd.N_nil _ _ _ _ _ | exact Kd.V_nil _ _ _ _ _ | exact Kd.Q_nil _ _ _ _ _ | exact Kd.S_nil _ _ _ _ _, by first | exact Kd.R_nil _ _ _ _ _ | exact Kd.N_nil _ _ _ _ _ | exact Kd.V_nil _ _ _ _ _ | exact Kd.Q_nil _ _ _ _ _ | exact Kd.S_nil _ _ _ _ _, pB HB.out⟩
    · rw [if_neg c4] at H
      have c4b0 : (a0_2 == (-1)) = false := beq_eq_false_iff_ne.mpr c4
      have c4b1 : (a0_2 != (-1)) = true := bne_iff_ne.mpr c4
      replace H := Option.bind_eq_some_iff.mp H
      obtain ⟨⟨t134, t137, t140⟩, A120, H⟩ := H
      replace H : (if 0 ≤ a0_2 then (if a0_2 < (l0_0.length : Int) then (if a0_2 < (t134.length : Int) then (if a0_2 < (t137.length : Int) then (some ((t134.set (a0_2 : Int).toNat (-1)), (t137.set (a0_2 : Int).toNat true), rd l0_0 a0_2, a0_2, 0)) else (none)) else (none)) else (none)) else (none)) = some (r1, r2, r3, r4, r5) := H
      have A12 := Aside0.mk A120
      (try clear A120)
      by_cases c13 : 0 ≤ a0_2
      · rw [if_pos c13] at H
        have c13b0 : decide (0 ≤ a0_2) = true := decide_eq_true c13
        clear c13
        by_cases c14 : a0_2 < (l0_0.length : Int)
        · rw [if_pos c14] at H
          have c14b0 : decide (a0_2 < (l0_0.length : Int)) = true := decide_eq_true c14
          clear c14
          by_cases c15 : a0_2 < (t134.length : Int)
          · rw [if_pos c15] at H
            have c15b0 : decide (a0_2 < (t134.length : Int)) = true := decide_eq_true c15
            clear c15
            obtain ⟨y143, hy143⟩ : ∃ y_ : List Int, y_ = (t134.set (a0_2 : Int).toNat (-1)) := ⟨_, rfl⟩
            replace H : (if a0_2 < (t137.length : Int) then (some (y143, (t137.set (a0_2 : Int).toNat true), rd l0_0 a0_2, a0_2, 0)) else (none)) = some (r1, r2, r3, r4, r5) := by first | (rw [hy143]; with_reducible exact H) | (have H2_ := (Option.bind_some _ _).symm.trans H; rw [hy143]; with_reducible exact H2_) | (have H2_ := (Option.bind_some _ _).symm.trans H; with_reducible exact H2_) | with_reducible exact H | (rw [hy143]; exact H) | exact H
            have Ny143 := Aside0.mk hy143
            (try clear hy143)
            by_cases c17 : a0_2 < (t137.length : Int)
            · rw [if_pos c17] at H
              have c17b0 : decide (a0_2 < (t137.length : Int)) = true := decide_eq_true c17
              clear c17
              obtain ⟨y144, hy144⟩ : ∃ y_ : List Bool, y_ = (t137.set (a0_2 : Int).toNat true) := ⟨_, rfl⟩
              replace H : (some (y143, y144, rd l0_0 a0_2, a0_2, 0)) = some (r1, r2, r3, r4, r5) := by first | (rw [hy144]; with_reducible exact H) | (have H2_ := (Option.bind_some _ _).symm.trans H; rw [hy144]; with_reducible exact H2_) | (have H2_ := (Option.bind_some _ _).symm.trans H; with_reducible exact H2_) | with_reducible exact H | (rw [hy144]; exact H) | exact H
              have Ny144 := Aside0.mk hy144
              (try clear hy144)
              simp only [Option.some.injEq, Prod.mk.injEq] at H
              obtain ⟨rfl, rfl, rfl, rfl, rfl⟩ := H
              go_enter Try.func25, Try.ntmps25
              try go_wp2_with (first | ((with_reducible refine gate_dst (N := 1) rfl ?_); refine boxE (N := 1) (cs := #[.slice A0_0 l0_0.length c0_0, .slice A0_1 l0_1.length c0_1, .int .i64 a0_2]) (t := 36) ?_; intro gb131 hg w19 hbox hb; have n0_ := Aside0.mk (below_step (pB HB.out) hb); have n1_ := Aside0.mk (hbox); have n3_ := Aside0.mk (pL HB.out hg); clear HB; have HB := n0_; have BK131 := n1_; have GE131 := n3_; clear n0_ n1_ n3_; clear hb hbox hg) | ((with_reducible refine gate_dst (N := 2) rfl ?_); refine boxE (N := 2) (cs := #[.slice none 0 0, .slice none 0 0, .int .i64 0]) (t := 36) ?_; intro gb132 hg w20 hbox hb; have n0_ := Aside0.mk (blk_below (pK BK131.out) hb); have n1_ := Aside0.mk (below_step (pB HB.out) hb); have n2_ := Aside0.mk (hbox); have n4_ := Aside0.mk (pL HB.out hg); have n5_ := Aside0.mk (pNl BK131.out hg); have n6_ := Aside0.mk (pNg BK131.out hg); clear BK131; clear HB; have BK131 := n0_; have HB := n1_; have BK132 := n2_; have GE132 := n4_; have NB131_132 := n5_; have NB132_131 := n6_; clear n0_ n1_ n2_ n4_ n5_ n6_; clear hb hbox hg; have hnb21 := NB131_132.out; have hnc21 := NB132_131.out; obtain ⟨hcz22_0, hcz22_1, hcz22_2, hfz22_0, hfz22_1, hfz22_2⟩ := bk3 BK131.out) | ((with_reducible refine gate_callee (f := 35) rfl ?_); refine goesE (some 9) rfl rfl Try.func35 (by kernel_rfl) rfl #[.agg #[.slice A0_0 l0_0.length c0_0, .slice A0_1 l0_1.length c0_1, .int .i64 a0_2]] rfl ?_; (with_reducible refine (arena_Check.calls k _ _ l0_0 _ _ l0_1 a0_2 t133 _ ?side1 ?side2 ?side3 ?side4 A2.out).mono ?_); (case side1 => exact Kd.pC ((Kd.C_below HR0_0.out HB.out))); (case side2 => exact HC0_0.out); (case side3 => exact Kd.pC ((Kd.C_below HR0_1.out HB.out))); (case side4 => exact HC0_1.out); rintro e w23 ⟨rfl, hb⟩; refine ⟨_, rfl, ?_⟩; have n0_ := Aside0.mk (blk_below (pK BK131.out) hb); have n1_ := Aside0.mk (blk_below (pK BK132.out) hb); have n2_ := Aside0.mk (below_step (pB HB.out) hb); clear BK131; clear BK132; clear HB; have BK131 := n0_; have BK132 := n1_; have HB := n2_; clear n0_ n1_ n2_; (try clear hb); (try clear hb2); (try clear hk); (try clear hi); obtain ⟨hcz24_0, hcz24_1, hcz24_2, hfz24_0, hfz24_1, hfz24_2⟩ := bk3 BK131.out))
              have n0_ := Aside0.mk (blk_drew BK131.out)
              have n1_ := Aside0.mk (blk_drew BK132.out)
              have n2_ := Aside0.mk (below_drew1 HB.out)
              clear BK131
              clear BK132
              clear HB
              have BK131 := n0_
              have BK132 := n1_
              have HB := n2_
              clear n0_ n1_ n2_
              refine start_ (n := 7) (S := fun w' => w'.cell? ⟨gb131, 0, none⟩ = some (.slice A0_0 l0_0.length c0_0) ∧ w'.cell? ⟨gb131, 1, none⟩ = some (.slice A0_1 l0_1.length c0_1) ∧ w'.cell? ⟨gb131, 2, none⟩ = some (.int .i64 a0_2)) (ds := []) #[false, false, false, false, false, false, false] (by kernel_rfl) rfl rfl ⟨(blk_cell BK131.out 0).trans rfl, (blk_cell BK131.out 1).trans rfl, (blk_cell BK131.out 2).trans rfl⟩ (fun hHeld => ?_)
              generalize w23.drew = w25 at BK131 BK132 HB hHeld ⊢
              refine pure_ (i := 2) (N := some 20) (v := ?_) (a' := ?_) #[false, false, true, false, false, false, false] rfl rfl (by kernel_rfl) (fun _ _ _ h => h) (Or.inl ⟨by rfl, ?_⟩) ?_ ?_
              rotate_left
              · intro w'
                go_simp
                with_reducible rfl
              rotate_left
              · simp only [Act.put, List.setIfInBounds_toArray, List.set_cons_zero, List.set_cons_succ, i64_w, i32_w]
                rfl
              refine take_ (i := 0) (N := some 18) (v := ?_) (a' := ?_) #[true, false, true, false, false, false, false] rfl rfl (by kernel_rfl) (fun _ _ _ h => h) (Or.inl ⟨by rfl, ?_⟩) hHeld ?_ ?_
              rotate_left
              · rintro w' ⟨s0, s1, s2⟩
                go_simp
                with_reducible rfl
              rotate_left
              · simp only [Act.put, List.setIfInBounds_toArray, List.set_cons_zero, List.set_cons_succ, i64_w, i32_w]
                rfl
              refine take_ (i := 3) (N := some 21) (v := ?_) (a' := ?_) #[true, false, true, true, false, false, false] rfl rfl (by kernel_rfl) (fun _ _ _ h => h) (Or.inl ⟨by rfl, ?_⟩) hHeld ?_ ?_
              rotate_left
              · rintro w' ⟨s0, s1, s2⟩
                go_simp
                with_reducible rfl
              rotate_left
              · simp only [Act.put, List.setIfInBounds_toArray, List.set_cons_zero, List.set_cons_succ, i64_w, i32_w]
                rfl
              refine join_ (σ := Value × Value × Nat) 2 #[true, true, true, true, true, false, false] (fun s_ => [(19, .agg #[s_.1, s_.2.1, .int .i64 t140]), (6, .pointer (some ⟨s_.2.2, 0, none⟩))]) (fun s_ w' => (w'.cell? ⟨gb131, 0, none⟩ = some (.slice A0_0 l0_0.length c0_0) ∧ w'.cell? ⟨gb131, 1, none⟩ = some (.slice A0_1 l0_1.length c0_1) ∧ w'.cell? ⟨gb131, 2, none⟩ = some (.int .i64 a0_2)) ∧ (Kd.R (Kd.int .i64) 3 w' w.heap.size (fun _ => True) s_.1 t134) ∧ (Kd.R Kd.bool 4 w' w.heap.size (fun _ => True) s_.2.1 t137) ∧ (w'.heap[gb131]? = some (.cells #[.slice A0_0 l0_0.length c0_0, .slice A0_1 l0_1.length c0_1, .int .i64 a0_2] 36 (0, 0))) ∧ (w'.heap[gb132]? = some (.cells #[.slice none 0 0, .slice none 0 0, .int .i64 0] 36 (0, 0))) ∧ (w'.heap[s_.2.2]? = some (.cells #[.slice none 0 0, .slice none 0 0, .int .i64 0] 36 (0, 0))) ∧ (w.heap.size ≤ s_.2.2) ∧ (w.heap.size ≤ s_.2.2) ∧ (gb131 ≠ s_.2.2) ∧ (s_.2.2 ≠ gb131) ∧ (gb132 ≠ s_.2.2) ∧ (s_.2.2 ≠ gb132) ∧ (Below w.heap.size w w')) ?_ ?_
              rotate_left
              · intro hCont
                refine two_ (i := 1) (j := 4) (Ni := some 19) (Nj := some 6) #[true, true, true, true, false, false, false] #[true, false, true, true, true, false, false] rfl rfl rfl rfl (by kernel_rfl) (by decide) (by decide) (fun K hK => ?_) (fun K hK => ?_)
                · skip
                  refine goes_ Try.func49 (by kernel_rfl) rfl #[.agg #[.slice A0_0 l0_0.length c0_0, .slice A0_1 l0_1.length c0_1, .int .i64 a0_2]] (by rfl) rfl rfl (by (try simp only [List.map_toArray, List.map_cons, List.map_nil]); first | done | rfl | (simp only [List.length_drop, List.length_take]; rfl)) ?_
                  with_reducible refine (arena_twin.calls _ _ l0_0 _ _ l0_1 a0_2 t134 t137 t140 _ ?side1 ?side2 ?side3 ?side4 A12.out).mono ?_
                  (case side1 => exact Kd.pC ((Kd.C_below HR0_0.out HB.out)))
                  (case side2 => exact HC0_0.out)
                  (case side3 => exact Kd.pC ((Kd.C_below HR0_1.out HB.out)))
                  (case side4 => exact HC0_1.out)
                  rintro e w26 ⟨v135, v138, rfl, ho0, ho1, hb⟩
                  refine ⟨_, rfl, ?_⟩
                  have n0_ := Aside0.mk (Kd.R_lower ho0 (below_size (pB HB.out)))
                  have n1_ := Aside0.mk (Kd.R_lower ho1 (below_size (pB HB.out)))
                  have n2_ := Aside0.mk (blk_below (pK BK131.out) hb)
                  have n3_ := Aside0.mk (blk_below (pK BK132.out) hb)
                  have n4_ := Aside0.mk (below_step (pB HB.out) hb)
                  clear BK131
                  clear BK132
                  clear HB
                  have HO136 := n0_
                  have HO139 := n1_
                  have BK131 := n2_
                  have BK132 := n3_
                  have HB := n4_
                  clear n0_ n1_ n2_ n3_ n4_
                  (try clear hb)
                  (try clear hb2)
                  (try clear hk)
                  (try clear hi)
                  (try clear ho0)
                  (try clear ho1)
                  refine hK.out _ _ ⟨(blk_cell BK131.out 0).trans rfl, (blk_cell BK131.out 1).trans rfl, (blk_cell BK131.out 2).trans rfl⟩ (fun hHeld => ?_)
                  clear hK K
                  refine norm_ (a' := ?_) ?_ ?_
                  rotate_left
                  · show Act.put _ (some 19) _ = _
                    simp only [Act.put, List.setIfInBounds_toArray, List.set_cons_zero, List.set_cons_succ, i64_w, i32_w]
                    rfl
                  refine one_ (i := 4) (N := some 6) #[true, true, true, true, true, false, false] rfl rfl (by kernel_rfl) (by decide) (fun K hK => ?_)
                  refine box_step ?hg (N := 6) ?hd (cs := #[.slice none 0 0, .slice none 0 0, .int .i64 0]) (t := 36) ?hr ?_; (case hd => rfl); (case hg => rfl); (case hr => first | (go_simp; done) | (go_simp; rfl))
                  intro gb141 hg w27 hbox hb
                  have n0_ := Aside0.mk (Kd.R_below (Kd.pR HO136.out) hb)
                  have n1_ := Aside0.mk (Kd.R_below (Kd.pR HO139.out) hb)
                  have n2_ := Aside0.mk (blk_below (pK BK131.out) hb)
                  have n3_ := Aside0.mk (blk_below (pK BK132.out) hb)
                  have n4_ := Aside0.mk (below_step (pB HB.out) hb)
                  have n5_ := Aside0.mk (hbox)
                  have n6_ := Aside0.mk (pL HB.out hg)
                  have n7_ := Aside0.mk (pL HB.out hg)
                  have n8_ := Aside0.mk (pNl BK131.out hg)
                  have n9_ := Aside0.mk (pNg BK131.out hg)
                  have n10_ := Aside0.mk (pNl BK132.out hg)
                  have n11_ := Aside0.mk (pNg BK132.out hg)
                  clear HO136
                  clear HO139
                  clear BK131
                  clear BK132
                  clear HB
                  have HO136 := n0_
                  have HO139 := n1_
                  have BK131 := n2_
                  have BK132 := n3_
                  have HB := n4_
                  have BK141 := n5_
                  have GW141 := n6_
                  have GE141 := n7_
                  have NB131_141 := n8_
                  have NB141_131 := n9_
                  have NB132_141 := n10_
                  have NB141_132 := n11_
                  clear n0_ n1_ n2_ n3_ n4_ n5_ n6_ n7_ n8_ n9_ n10_ n11_
                  clear hb hbox hg
                  refine hK.out _ _ ⟨(blk_cell BK131.out 0).trans rfl, (blk_cell BK131.out 1).trans rfl, (blk_cell BK131.out 2).trans rfl⟩ (fun hHeld => ?_)
                  clear hK K
                  refine norm_ (a' := ?_) ?_ ?_
                  rotate_left
                  · show Act.put _ (some 6) _ = _
                    simp only [Act.put, List.setIfInBounds_toArray, List.set_cons_zero, List.set_cons_succ, i64_w, i32_w]
                    rfl
                  exact norm_ (by simp only [putAll, Act.put, List.setIfInBounds_toArray, List.set_cons_zero, List.set_cons_succ]) (hCont (v135, v138, gb141) _ ⟨hHeld, (Kd.pR HO136.out), (Kd.pR HO139.out), (pK BK131.out), (pK BK132.out), (pK BK141.out), GW141.out, GE141.out, NB131_141.out, NB141_131.out, NB132_141.out, NB141_132.out, (pB HB.out)⟩)
                · skip
                  refine box_step ?hg (N := 6) ?hd (cs := #[.slice none 0 0, .slice none 0 0, .int .i64 0]) (t := 36) ?hr ?_; (case hd => rfl); (case hg => rfl); (case hr => first | (go_simp; done) | (go_simp; rfl))
                  intro gb141 hg w26 hbox hb
                  have n0_ := Aside0.mk (blk_below (pK BK131.out) hb)
                  have n1_ := Aside0.mk (blk_below (pK BK132.out) hb)
                  have n2_ := Aside0.mk (below_step (pB HB.out) hb)
                  have n3_ := Aside0.mk (hbox)
                  have n4_ := Aside0.mk (pL HB.out hg)
                  have n5_ := Aside0.mk (pL HB.out hg)
                  have n6_ := Aside0.mk (pNl BK131.out hg)
                  have n7_ := Aside0.mk (pNg BK131.out hg)
                  have n8_ := Aside0.mk (pNl BK132.out hg)
                  have n9_ := Aside0.mk (pNg BK132.out hg)
                  clear BK131
                  clear BK132
                  clear HB
                  have BK131 := n0_
                  have BK132 := n1_
                  have HB := n2_
                  have BK141 := n3_
                  have GW141 := n4_
                  have GE141 := n5_
                  have NB131_141 := n6_
                  have NB141_131 := n7_
                  have NB132_141 := n8_
                  have NB141_132 := n9_
                  clear n0_ n1_ n2_ n3_ n4_ n5_ n6_ n7_ n8_ n9_
                  clear hb hbox hg
                  refine hK.out _ _ ⟨(blk_cell BK131.out 0).trans rfl, (blk_cell BK131.out 1).trans rfl, (blk_cell BK131.out 2).trans rfl⟩ (fun hHeld => ?_)
                  clear hK K
                  refine norm_ (a' := ?_) ?_ ?_
                  rotate_left
                  · show Act.put _ (some 6) _ = _
                    simp only [Act.put, List.setIfInBounds_toArray, List.set_cons_zero, List.set_cons_succ, i64_w, i32_w]
                    rfl
                  refine one_ (i := 1) (N := some 19) #[true, true, true, true, true, false, false] rfl rfl (by kernel_rfl) (by decide) (fun K hK => ?_)
                  refine goes_ Try.func49 (by kernel_rfl) rfl #[.agg #[.slice A0_0 l0_0.length c0_0, .slice A0_1 l0_1.length c0_1, .int .i64 a0_2]] (by rfl) rfl rfl (by (try simp only [List.map_toArray, List.map_cons, List.map_nil]); first | done | rfl | (simp only [List.length_drop, List.length_take]; rfl)) ?_
                  with_reducible refine (arena_twin.calls _ _ l0_0 _ _ l0_1 a0_2 t134 t137 t140 _ ?side1 ?side2 ?side3 ?side4 A12.out).mono ?_
                  (case side1 => exact Kd.pC ((Kd.C_below HR0_0.out HB.out)))
                  (case side2 => exact HC0_0.out)
                  (case side3 => exact Kd.pC ((Kd.C_below HR0_1.out HB.out)))
                  (case side4 => exact HC0_1.out)
                  rintro e w27 ⟨v135, v138, rfl, ho0, ho1, hb⟩
                  refine ⟨_, rfl, ?_⟩
                  have n0_ := Aside0.mk (Kd.R_lower ho0 (below_size (pB HB.out)))
                  have n1_ := Aside0.mk (Kd.R_lower ho1 (below_size (pB HB.out)))
                  have n2_ := Aside0.mk (blk_below (pK BK131.out) hb)
                  have n3_ := Aside0.mk (blk_below (pK BK132.out) hb)
                  have n4_ := Aside0.mk (blk_below (pK BK141.out) hb)
                  have n5_ := Aside0.mk (below_step (pB HB.out) hb)
                  clear BK131
                  clear BK132
                  clear BK141
                  clear HB
                  have HO136 := n0_
                  have HO139 := n1_
                  have BK131 := n2_
                  have BK132 := n3_
                  have BK141 := n4_
                  have HB := n5_
                  clear n0_ n1_ n2_ n3_ n4_ n5_
                  (try clear hb)
                  (try clear hb2)
                  (try clear hk)
                  (try clear hi)
                  (try clear ho0)
                  (try clear ho1)
                  refine hK.out _ _ ⟨(blk_cell BK131.out 0).trans rfl, (blk_cell BK131.out 1).trans rfl, (blk_cell BK131.out 2).trans rfl⟩ (fun hHeld => ?_)
                  clear hK K
                  refine norm_ (a' := ?_) ?_ ?_
                  rotate_left
                  · show Act.put _ (some 19) _ = _
                    simp only [Act.put, List.setIfInBounds_toArray, List.set_cons_zero, List.set_cons_succ, i64_w, i32_w]
                    rfl
                  exact norm_ (by simp only [putAll, Act.put, List.setIfInBounds_toArray, List.set_cons_zero, List.set_cons_succ]) (hCont (v135, v138, gb141) _ ⟨hHeld, (Kd.pR HO136.out), (Kd.pR HO139.out), (pK BK131.out), (pK BK132.out), (pK BK141.out), GW141.out, GE141.out, NB131_141.out, NB141_131.out, NB132_141.out, NB141_132.out, (pB HB.out)⟩)
              rintro ⟨v135, v138, gb141⟩ w28 ⟨hS_, h0_, h1_, h2_, h3_, h4_, h5_, h6_, h7_, h8_, h9_, h10_, h11_⟩
              have n0_ : Aside0 (Kd.R (Kd.int .i64) 3 w28 w.heap.size (fun _ => True) v135 t134) := ⟨h0_⟩
              have n1_ : Aside0 (Kd.R Kd.bool 4 w28 w.heap.size (fun _ => True) v138 t137) := ⟨h1_⟩
              have n2_ : Aside0 (w28.heap[gb131]? = some (.cells #[.slice A0_0 l0_0.length c0_0, .slice A0_1 l0_1.length c0_1, .int .i64 a0_2] 36 (0, 0))) := ⟨h2_⟩
              have n3_ : Aside0 (w28.heap[gb132]? = some (.cells #[.slice none 0 0, .slice none 0 0, .int .i64 0] 36 (0, 0))) := ⟨h3_⟩
              have n4_ : Aside0 (w28.heap[gb141]? = some (.cells #[.slice none 0 0, .slice none 0 0, .int .i64 0] 36 (0, 0))) := ⟨h4_⟩
              have n6_ : Aside0 (w.heap.size ≤ gb141) := ⟨h6_⟩
              have n7_ : Aside0 (gb131 ≠ gb141) := ⟨h7_⟩
              have n8_ : Aside0 (gb141 ≠ gb131) := ⟨h8_⟩
              have n9_ : Aside0 (gb132 ≠ gb141) := ⟨h9_⟩
              have n10_ : Aside0 (gb141 ≠ gb132) := ⟨h10_⟩
              have n11_ : Aside0 (Below w.heap.size w w28) := ⟨h11_⟩
              clear BK131
              clear BK132
              clear HB
              clear h0_ h1_ h2_ h3_ h4_ h5_ h6_ h7_ h8_ h9_ h10_ h11_
              have HO136 := n0_
              have HO139 := n1_
              have BK131 := n2_
              have BK132 := n3_
              have BK141 := n4_
              have GE141 := n6_
              have NB131_141 := n7_
              have NB141_131 := n8_
              have NB132_141 := n9_
              have NB141_132 := n10_
              have HB := n11_
              clear n0_ n1_ n2_ n3_ n4_ n6_ n7_ n8_ n9_ n10_ n11_
              have hHeld : w28.cell? ⟨gb131, 0, none⟩ = some (.slice A0_0 l0_0.length c0_0) ∧ w28.cell? ⟨gb131, 1, none⟩ = some (.slice A0_1 l0_1.length c0_1) ∧ w28.cell? ⟨gb131, 2, none⟩ = some (.int .i64 a0_2) := hS_
              obtain ⟨Ao29, co29, eo29⟩ := Kd.R_slice HO136.out
              (first | subst eo29 | (injection eo29 with f1_ f2_ f3_; have f4_ := f1_.symm; have f5_ := f3_.symm; clear f1_ f2_ f3_; subst f4_; subst f5_))
              obtain ⟨Ao31, co31, eo31⟩ := Kd.R_slice HO139.out
              (first | subst eo31 | (injection eo31 with f1_ f2_ f3_; have f4_ := f1_.symm; have f5_ := f3_.symm; clear f1_ f2_ f3_; subst f4_; subst f5_))
              refine norm_ (a' := ?_) ?_ ?_
              rotate_left
              · simp only [putAll, Act.put, List.setIfInBounds_toArray, List.set_cons_zero, List.set_cons_succ]
                rfl
              refine one_ (i := 5) (N := none) #[true, true, true, true, true, true, false] rfl rfl (by kernel_rfl) (by decide) (fun K hK => ?_)
              have hs30 : w28.cell? ⟨gb141, 0, none⟩ = some (.slice none 0 0) := (blk_cell BK141.out 0).trans rfl
              have hfs30 := blk_frozen BK141.out 0
              have hns30_0 := NB131_141.out
              have hns30_1 := NB132_141.out
              have hms30_0 := NB141_131.out
              have hms30_1 := NB141_132.out
              have hs32 : w28.cell? ⟨gb141, 1, none⟩ = some (.slice none 0 0) := (blk_cell BK141.out 1).trans rfl
              have hfs32 := blk_frozen BK141.out 1
              have hns32_0 := NB131_141.out
              have hns32_1 := NB132_141.out
              have hms32_0 := NB141_131.out
              have hms32_1 := NB141_132.out
              have hs33 : w28.cell? ⟨gb141, 2, none⟩ = some (.int .i64 0) := (blk_cell BK141.out 2).trans rfl
              have hfs33 := blk_frozen BK141.out 2
              have hns33_0 := NB131_141.out
              have hns33_1 := NB132_141.out
              have hms33_0 := NB141_131.out
              have hms33_1 := NB141_132.out
              refine skip_ (w1 := ?_) (by rfl) rfl ?_ ?_
              rotate_left
              · go_simp
                rfl
              refine hK.out _ _ ⟨((cell_far (p := ⟨gb141, _, none⟩) NB131_141.out _).trans (((cell_far (p := ⟨gb141, _, none⟩) NB131_141.out _).trans (((cell_far (p := ⟨gb141, _, none⟩) NB131_141.out _).trans (hHeld.1)))))), ((cell_far (p := ⟨gb141, _, none⟩) NB131_141.out _).trans (((cell_far (p := ⟨gb141, _, none⟩) NB131_141.out _).trans (((cell_far (p := ⟨gb141, _, none⟩) NB131_141.out _).trans (hHeld.2.1)))))), ((cell_far (p := ⟨gb141, _, none⟩) NB131_141.out _).trans (((cell_far (p := ⟨gb141, _, none⟩) NB131_141.out _).trans (((cell_far (p := ⟨gb141, _, none⟩) NB131_141.out _).trans (hHeld.2.2))))))⟩ (fun hHeld => ?_)
              clear hK K
              refine pure_ (i := 6) (N := some 7) (v := ?_) (a' := ?_) #[true, true, true, true, true, true, true] rfl rfl (by kernel_rfl) (fun _ _ _ h => h) (Or.inl ⟨by rfl, ?_⟩) ?_ ?_
              rotate_left
              · intro w'
                go_simp
                with_reducible rfl
              rotate_left
              · simp only [Act.put, List.setIfInBounds_toArray, List.set_cons_zero, List.set_cons_succ, i64_w, i32_w]
                rfl
              refine done_ (by kernel_rfl) ?_
              have n0_ : Aside0 (Kd.R (Kd.int .i64) 3 (((w28.setCell ⟨gb141, 0, none⟩ (.slice Ao29 t134.length co29)).setCell ⟨gb141, 1, none⟩ (.slice Ao31 t137.length co31)).setCell ⟨gb141, 2, none⟩ (.int .i64 t140)) w.heap.size (fun _ => True) (.slice Ao29 t134.length co29) t134) := ⟨Kd.pR (Kd.R_mono (Kd.R_far (p := ⟨gb141, 2, none⟩) (Kd.R_far (p := ⟨gb141, 1, none⟩) (Kd.R_far (p := ⟨gb141, 0, none⟩) (Kd.R_types HO136.out BK141.out (by decide)) (fun _ hk => hk.2) (.slice Ao29 t134.length co29)) (fun _ hk => hk.2) (.slice Ao31 t137.length co31)) (fun _ hk => hk.2) (.int .i64 t140)) (fun _ hk => trivial))⟩
              have n1_ : Aside0 (Kd.R Kd.bool 4 (((w28.setCell ⟨gb141, 0, none⟩ (.slice Ao29 t134.length co29)).setCell ⟨gb141, 1, none⟩ (.slice Ao31 t137.length co31)).setCell ⟨gb141, 2, none⟩ (.int .i64 t140)) w.heap.size (fun _ => True) (.slice Ao31 t137.length co31) t137) := ⟨Kd.pR (Kd.R_mono (Kd.R_far (p := ⟨gb141, 2, none⟩) (Kd.R_far (p := ⟨gb141, 1, none⟩) (Kd.R_far (p := ⟨gb141, 0, none⟩) (Kd.R_types HO139.out BK141.out (by decide)) (fun _ hk => hk.2) (.slice Ao29 t134.length co29)) (fun _ hk => hk.2) (.slice Ao31 t137.length co31)) (fun _ hk => hk.2) (.int .i64 t140)) (fun _ hk => trivial))⟩
              have n2_ : Aside0 ((((w28.setCell ⟨gb141, 0, none⟩ (.slice Ao29 t134.length co29)).setCell ⟨gb141, 1, none⟩ (.slice Ao31 t137.length co31)).setCell ⟨gb141, 2, none⟩ (.int .i64 t140)).heap[gb131]? = some (.cells #[.slice A0_0 l0_0.length c0_0, .slice A0_1 l0_1.length c0_1, .int .i64 a0_2] 36 (0, 0))) := ⟨by (with_reducible repeat (first | refine blk_drewN ?_ _ | refine blk_drew ?_ | refine blk_alloc ?_ _)); refine blk_far ?_ NB131_141.out _; (with_reducible repeat (first | refine blk_drewN ?_ _ | refine blk_drew ?_ | refine blk_alloc ?_ _)); refine blk_far ?_ NB131_141.out _; (with_reducible repeat (first | refine blk_drewN ?_ _ | refine blk_drew ?_ | refine blk_alloc ?_ _)); refine blk_far ?_ NB131_141.out _; (with_reducible repeat (first | refine blk_drewN ?_ _ | refine blk_drew ?_ | refine blk_alloc ?_ _)); exact BK131.out⟩
              have n3_ : Aside0 ((((w28.setCell ⟨gb141, 0, none⟩ (.slice Ao29 t134.length co29)).setCell ⟨gb141, 1, none⟩ (.slice Ao31 t137.length co31)).setCell ⟨gb141, 2, none⟩ (.int .i64 t140)).heap[gb132]? = some (.cells #[.slice none 0 0, .slice none 0 0, .int .i64 0] 36 (0, 0))) := ⟨by (with_reducible repeat (first | refine blk_drewN ?_ _ | refine blk_drew ?_ | refine blk_alloc ?_ _)); refine blk_far ?_ NB132_141.out _; (with_reducible repeat (first | refine blk_drewN ?_ _ | refine blk_drew ?_ | refine blk_alloc ?_ _)); refine blk_far ?_ NB132_141.out _; (with_reducible repeat (first | refine blk_drewN ?_ _ | refine blk_drew ?_ | refine blk_alloc ?_ _)); refine blk_far ?_ NB132_141.out _; (with_reducible repeat (first | refine blk_drewN ?_ _ | refine blk_drew ?_ | refine blk_alloc ?_ _)); exact BK132.out⟩
              have n4_ : Aside0 ((((w28.setCell ⟨gb141, 0, none⟩ (.slice Ao29 t134.length co29)).setCell ⟨gb141, 1, none⟩ (.slice Ao31 t137.length co31)).setCell ⟨gb141, 2, none⟩ (.int .i64 t140)).heap[gb141]? = some (.cells #[.slice Ao29 t134.length co29, .slice Ao31 t137.length co31, .int .i64 t140] 36 (0, 0))) := ⟨by (with_reducible repeat (first | refine blk_drewN ?_ _ | refine blk_drew ?_ | refine blk_alloc ?_ _)); refine blk_put (cs := #[.slice Ao29 t134.length co29, .slice Ao31 t137.length co31, .int .i64 0]) ?_ 2 _ rfl; (with_reducible repeat (first | refine blk_drewN ?_ _ | refine blk_drew ?_ | refine blk_alloc ?_ _)); refine blk_put (cs := #[.slice Ao29 t134.length co29, .slice none 0 0, .int .i64 0]) ?_ 1 _ rfl; (with_reducible repeat (first | refine blk_drewN ?_ _ | refine blk_drew ?_ | refine blk_alloc ?_ _)); refine blk_put (cs := #[.slice none 0 0, .slice none 0 0, .int .i64 0]) ?_ 0 _ rfl; (with_reducible repeat (first | refine blk_drewN ?_ _ | refine blk_drew ?_ | refine blk_alloc ?_ _)); exact BK141.out⟩
              have n5_ : Aside0 (Below w.heap.size w (((w28.setCell ⟨gb141, 0, none⟩ (.slice Ao29 t134.length co29)).setCell ⟨gb141, 1, none⟩ (.slice Ao31 t137.length co31)).setCell ⟨gb141, 2, none⟩ (.int .i64 t140))) := ⟨pB HB.out⟩
              (try clear HO136)
              (try clear HO139)
              (try clear BK131)
              (try clear BK132)
              (try clear BK141)
              (try clear HB)
              generalize (((w28.setCell ⟨gb141, 0, none⟩ (.slice Ao29 t134.length co29)).setCell ⟨gb141, 1, none⟩ (.slice Ao31 t137.length co31)).setCell ⟨gb141, 2, none⟩ (.int .i64 t140)) = w34 at n0_ n1_ n2_ n3_ n4_ n5_ ⊢
              have HO136 := n0_
              have HO139 := n1_
              have BK131 := n2_
              have BK132 := n3_
              have BK141 := n4_
              have HB := n5_
              clear n0_ n1_ n2_ n3_ n4_ n5_
              have hnb35 := NB141_131.out
              have hnc35 := NB131_141.out
              have hnb36 := NB141_132.out
              have hnc36 := NB132_141.out
              obtain ⟨hcz37_0, hcz37_1, hcz37_2, hfz37_0, hfz37_1, hfz37_2⟩ := bk3 BK141.out
              obtain ⟨hcz38_0, hcz38_1, hcz38_2, hfz38_0, hfz38_1, hfz38_2⟩ := bk3 BK131.out
              have p142 : 0 ≤ (a0_2 : Int) := od
              have q142 : a0_2 < (l0_0.length : Int) := od
              obtain ⟨ad142, e142, hx142_0⟩ := Kd.at_int HR0_0.out a0_2 p142 q142
              cases e142
              replace hx142_0 := (HB.out.cell (World.block_lt_of_cell? w _ hx142_0)).trans hx142_0
              replace p142 := eq_true p142
              replace q142 := eq_true q142
              go_wp2_with (fail)
              replace HO136 := Aside0.mk (Kd.R_drew HO136.out)
              replace HO139 := Aside0.mk (Kd.R_drew HO139.out)
              replace BK131 := Aside0.mk (blk_drew BK131.out)
              replace BK132 := Aside0.mk (blk_drew BK132.out)
              replace BK141 := Aside0.mk (blk_drew BK141.out)
              replace HB := Aside0.mk (below_drew1 HB.out)
              replace hcz37_0 := cell_dr hcz37_0
              replace hcz37_1 := cell_dr hcz37_1
              replace hcz37_2 := cell_dr hcz37_2
              replace hcz38_0 := cell_dr hcz38_0
              replace hcz38_1 := cell_dr hcz38_1
              replace hcz38_2 := cell_dr hcz38_2
              replace hx142_0 := cell_dr hx142_0
              replace hfz37_0 := froz_dr hfz37_0
              replace hfz37_1 := froz_dr hfz37_1
              replace hfz37_2 := froz_dr hfz37_2
              replace hfz38_0 := froz_dr hfz38_0
              replace hfz38_1 := froz_dr hfz38_1
              replace hfz38_2 := froz_dr hfz38_2
              refine start_ (n := 17) (S := fun w' => w'.cell? ⟨gb141, 0, none⟩ = some (.slice Ao29 t134.length co29) ∧ w'.cell? ⟨gb141, 1, none⟩ = some (.slice Ao31 t137.length co31) ∧ w'.cell? ⟨gb131, 0, none⟩ = some (.slice (some ad142) l0_0.length c0_0) ∧ w'.cell? (ad142.add a0_2.toNat) = some (.int .i64 (rd l0_0 a0_2))) (ds := [12, 14, 16]) #[false, false, false, false, false, false, false, false, false, false, false, false, false, false, false, false, false] (by kernel_rfl) rfl rfl ⟨(blk_cell BK141.out 0).trans rfl, (blk_cell BK141.out 1).trans rfl, (blk_cell BK131.out 0).trans rfl, hx142_0⟩ (fun hHeld => ?_)
              generalize w34.drew = w34 at HO136 HO139 BK131 BK132 BK141 HB hcz37_0 hcz37_1 hcz37_2 hcz38_0 hcz38_1 hcz38_2 hx142_0 hfz37_0 hfz37_1 hfz37_2 hfz38_0 hfz38_1 hfz38_2 hHeld ⊢
              refine pure_ (i := 0) (N := some 22) (v := ?_) (a' := ?_) #[true, false, false, false, false, false, false, false, false, false, false, false, false, false, false, false, false] rfl rfl (by kernel_rfl) (fun _ _ _ h => h) (Or.inl ⟨by rfl, ?_⟩) ?_ ?_
              rotate_left
              · intro w'
                go_simp
                with_reducible rfl
              rotate_left
              · simp only [Act.put, List.setIfInBounds_toArray, List.set_cons_zero, List.set_cons_succ, i64_w, i32_w]
                rfl
              refine pure_ (i := 2) (N := some 24) (v := ?_) (a' := ?_) #[true, false, true, false, false, false, false, false, false, false, false, false, false, false, false, false, false] rfl rfl (by kernel_rfl) (fun _ _ _ h => h) (Or.inl ⟨by rfl, ?_⟩) ?_ ?_
              rotate_left
              · intro w'
                go_simp
                with_reducible rfl
              rotate_left
              · simp only [Act.put, List.setIfInBounds_toArray, List.set_cons_zero, List.set_cons_succ, i64_w, i32_w]
                rfl
              refine pure_ (i := 3) (N := some 25) (v := ?_) (a' := ?_) #[true, false, true, true, false, false, false, false, false, false, false, false, false, false, false, false, false] rfl rfl (by kernel_rfl) (fun _ _ _ h => h) (Or.inl ⟨by rfl, ?_⟩) ?_ ?_
              rotate_left
              · intro w'
                go_simp
                with_reducible rfl
              rotate_left
              · simp only [Act.put, List.setIfInBounds_toArray, List.set_cons_zero, List.set_cons_succ, i64_w, i32_w]
                rfl
              refine pure_ (i := 5) (N := some 27) (v := ?_) (a' := ?_) #[true, false, true, true, false, true, false, false, false, false, false, false, false, false, false, false, false] rfl rfl (by kernel_rfl) (fun _ _ _ h => h) (Or.inl ⟨by rfl, ?_⟩) ?_ ?_
              rotate_left
              · intro w'
                go_simp
                with_reducible rfl
              rotate_left
              · simp only [Act.put, List.setIfInBounds_toArray, List.set_cons_zero, List.set_cons_succ, i64_w, i32_w]
                rfl
              refine pure_ (i := 6) (N := some 28) (v := ?_) (a' := ?_) #[true, false, true, true, false, true, true, false, false, false, false, false, false, false, false, false, false] rfl rfl (by kernel_rfl) (fun _ _ _ h => h) (Or.inl ⟨by rfl, ?_⟩) ?_ ?_
              rotate_left
              · intro w'
                go_simp
                with_reducible rfl
              rotate_left
              · simp only [Act.put, List.setIfInBounds_toArray, List.set_cons_zero, List.set_cons_succ, i64_w, i32_w]
                rfl
              refine pure_ (i := 8) (N := some 30) (v := ?_) (a' := ?_) #[true, false, true, true, false, true, true, false, true, false, false, false, false, false, false, false, false] rfl rfl (by kernel_rfl) (fun _ _ _ h => h) (Or.inl ⟨by rfl, ?_⟩) ?_ ?_
              rotate_left
              · intro w'
                go_simp
                with_reducible rfl
              rotate_left
              · simp only [Act.put, List.setIfInBounds_toArray, List.set_cons_zero, List.set_cons_succ, i64_w, i32_w]
                rfl
              refine take_ (i := 1) (N := some 23) (v := ?_) (a' := ?_) #[true, true, true, true, false, true, true, false, true, false, false, false, false, false, false, false, false] rfl rfl (by kernel_rfl) (fun _ _ _ h => h) (Or.inl ⟨by rfl, ?_⟩) hHeld ?_ ?_
              rotate_left
              · rintro w' ⟨s0, s1, s2, s3⟩
                go_simp
                with_reducible rfl
              rotate_left
              · simp only [Act.put, List.setIfInBounds_toArray, List.set_cons_zero, List.set_cons_succ, i64_w, i32_w]
                rfl
              refine take_ (i := 4) (N := some 26) (v := ?_) (a' := ?_) #[true, true, true, true, true, true, true, false, true, false, false, false, false, false, false, false, false] rfl rfl (by kernel_rfl) (fun _ _ _ h => h) (Or.inl ⟨by rfl, ?_⟩) hHeld ?_ ?_
              rotate_left
              · rintro w' ⟨s0, s1, s2, s3⟩
                go_simp
                with_reducible rfl
              rotate_left
              · simp only [Act.put, List.setIfInBounds_toArray, List.set_cons_zero, List.set_cons_succ, i64_w, i32_w]
                rfl
              refine take_ (i := 7) (N := some 29) (v := ?_) (a' := ?_) #[true, true, true, true, true, true, true, true, true, false, false, false, false, false, false, false, false] rfl rfl (by kernel_rfl) (fun _ _ _ h => h) (Or.inl ⟨by rfl, ?_⟩) hHeld ?_ ?_
              rotate_left
              · rintro w' ⟨s0, s1, s2, s3⟩
                go_simp
                with_reducible rfl
              rotate_left
              · simp only [Act.put, List.setIfInBounds_toArray, List.set_cons_zero, List.set_cons_succ, i64_w, i32_w]
                rfl
              refine pure_ (i := 9) (N := some 31) (v := ?_) (a' := ?_) #[true, true, true, true, true, true, true, true, true, true, false, false, false, false, false, false, false] rfl rfl (by kernel_rfl) (fun _ _ _ h => h) (Or.inl ⟨by rfl, ?_⟩) ?_ ?_
              rotate_left
              · intro w'
                go_simp
                with_reducible rfl
              rotate_left
              · simp only [Act.put, List.setIfInBounds_toArray, List.set_cons_zero, List.set_cons_succ, i64_w, i32_w]
                rfl
              refine take_ (i := 10) (N := some 32) (v := ?_) (a' := ?_) #[true, true, true, true, true, true, true, true, true, true, true, false, false, false, false, false, false] rfl rfl (by kernel_rfl) (fun _ _ _ h => h) (Or.inl ⟨by rfl, ?_⟩) hHeld ?_ ?_
              rotate_left
              · rintro w' ⟨s0, s1, s2, s3⟩
                go_simp
                with_reducible rfl
              rotate_left
              · simp only [Act.put, List.setIfInBounds_toArray, List.set_cons_zero, List.set_cons_succ, i64_w, i32_w]
                rfl
              refine pure_ (i := 11) (N := some 33) (v := ?_) (a' := ?_) #[true, true, true, true, true, true, true, true, true, true, true, true, false, false, false, false, false] rfl rfl (by kernel_rfl) (fun _ _ _ h => h) (Or.inl ⟨by rfl, ?_⟩) ?_ ?_
              rotate_left
              · intro w'
                go_simp
                with_reducible rfl
              rotate_left
              · simp only [Act.put, List.setIfInBounds_toArray, List.set_cons_zero, List.set_cons_succ, i64_w, i32_w]
                rfl
              refine last_ (i := 12) (N := none) #[true, true, true, true, true, true, true, true, true, true, true, true, true, false, false, false, false] rfl rfl (by kernel_rfl) (by decide) (fun K hK => ?_)
              refine skip_ (w1 := (w34.setCell ⟨gb141, 2, none⟩ (.int .i64 (rd l0_0 a0_2)))) (by rfl) rfl ?_ ?_
              · go_simp
                first | done | rfl
              refine hK.out _ _ ?_
              clear hK K
              generalize hw_ : (w34.setCell ⟨gb141, 2, none⟩ (.int .i64 (rd l0_0 a0_2))) = w39 at ⊢
              have hw := hw_.symm
              clear hw_
              have n0_ : Aside0 (Kd.R (Kd.int .i64) 3 w39 w.heap.size (fun _ => True) (.slice Ao29 t134.length co29) t134) := ⟨(by rw [hw]; exact (Kd.pR (Kd.R_mono (Kd.R_far (p := ⟨gb141, 2, none⟩) (Kd.R_types HO136.out BK141.out (by decide)) (fun _ hk => hk.2) (.int .i64 (rd l0_0 a0_2))) (fun _ hk => trivial))))⟩
              have n1_ : Aside0 (Kd.R Kd.bool 4 w39 w.heap.size (fun _ => True) (.slice Ao31 t137.length co31) t137) := ⟨(by rw [hw]; exact (Kd.pR (Kd.R_mono (Kd.R_far (p := ⟨gb141, 2, none⟩) (Kd.R_types HO139.out BK141.out (by decide)) (fun _ hk => hk.2) (.int .i64 (rd l0_0 a0_2))) (fun _ hk => trivial))))⟩
              have n3_ : Aside0 (w39.heap[gb132]? = some (.cells #[.slice none 0 0, .slice none 0 0, .int .i64 0] 36 (0, 0))) := ⟨(by rw [hw]; exact (by (with_reducible repeat (first | refine blk_drewN ?_ _ | refine blk_drew ?_ | refine blk_alloc ?_ _)); refine blk_far ?_ NB132_141.out _; (with_reducible repeat (first | refine blk_drewN ?_ _ | refine blk_drew ?_ | refine blk_alloc ?_ _)); exact BK132.out))⟩
              have n4_ : Aside0 (w39.heap[gb141]? = some (.cells #[.slice Ao29 t134.length co29, .slice Ao31 t137.length co31, .int .i64 (rd l0_0 a0_2)] 36 (0, 0))) := ⟨(by rw [hw]; exact (by (with_reducible repeat (first | refine blk_drewN ?_ _ | refine blk_drew ?_ | refine blk_alloc ?_ _)); refine blk_put (cs := #[.slice Ao29 t134.length co29, .slice Ao31 t137.length co31, .int .i64 t140]) ?_ 2 _ rfl; (with_reducible repeat (first | refine blk_drewN ?_ _ | refine blk_drew ?_ | refine blk_alloc ?_ _)); exact BK141.out))⟩
              have n5_ : Aside0 (Below w.heap.size w w39) := ⟨(by rw [hw]; exact (pB HB.out))⟩
              clear hw
              clear HO136
              clear HO139
              (try clear BK131)
              clear BK132
              clear BK141
              clear HB
              have HO136 := n0_
              have HO139 := n1_
              have BK132 := n3_
              have BK141 := n4_
              have HB := n5_
              clear n0_ n1_ n3_ n4_ n5_
              have p16 : 0 ≤ (a0_2 : Int) := od
              have q16 : (a0_2 : Int) < ((t134.length : Int) : Int) := od
              obtain ⟨go16, co16, eo16, gb16, gl16, cl16, HG16⟩ := Kd.R_form HO136.out (by omega)
              (first | cases eo16 | (injection eo16 with ea_ en_ ec_; (first | subst ea_ | (injection ea_ with ea_; subst ea_)); subst ec_; clear en_))
              have GB16 := Aside0.mk gb16
              have GG16 := Aside0.mk HG16
              clear gb16 gl16 HG16
              obtain ⟨hx16_0, hf16_0⟩ := Kd.R_celln 0 HO136.out (a0_2 : Int) p16 q16
              replace p16 := eq_true p16
              replace q16 := eq_true q16
              obtain ⟨hy40_, hz40_⟩ := Kd.R_celln 0 HO136.out (a0_2 : Int) od od
              have HP40 := Kd.R_putg HO136.out (a0_2 : Int) (-1)
              refine pure_ (i := 13) (N := some 34) (v := ?_) (a' := ?_) #[true, true, true, true, true, true, true, true, true, true, true, true, true, true, false, false, false] rfl rfl (by kernel_rfl) (fun _ _ _ h => h) (Or.inl ⟨by rfl, ?_⟩) ?_ ?_
              rotate_left
              · intro w'
                go_simp
                with_reducible rfl
              rotate_left
              · simp only [Act.put, List.setIfInBounds_toArray, List.set_cons_zero, List.set_cons_succ, i64_w, i32_w]
                rfl
              refine last_ (i := 14) (N := none) #[true, true, true, true, true, true, true, true, true, true, true, true, true, true, true, false, false] rfl rfl (by kernel_rfl) (by decide) (fun K hK => ?_)
              refine skip_ (w1 := (w39.setCell ⟨go16, (a0_2 : Int).toNat, none⟩ (.int .i64 (-1)))) (by rfl) rfl ?_ ?_
              · go_simp
                first | done | rfl
              refine hK.out _ _ ?_
              clear hK K
              generalize hw_ : (w39.setCell ⟨go16, (a0_2 : Int).toNat, none⟩ (.int .i64 (-1))) = w41 at ⊢
              have hw := hw_.symm
              clear hw_
              have hg : w39.grownBy w41 (some go16) := (by rw [hw]; exact HP40.2)
              have hp_ : Kd.R (Kd.int .i64) 3 w41 w.heap.size (fun _ => True) (.slice (some ⟨go16, 0, none⟩) t134.length co29) y143 := (by rw [hw, Ny143.out]; exact HP40.1)
              (try clear HP40)
              have n1_ := Aside0.mk (blk_grown (pK BK132.out) hg (Kd.R_ne HO136.out BK132.out (by decide)))
              have n2_ := Aside0.mk (hp_)
              have n3_ := Aside0.mk (Kd.R_over' (v := (.slice (some ⟨go16, 0, none⟩) t134.length co29)) (Kd.pR HO139.out) (Kd.R_typed HO136.out) (by decide) hg)
              have n4_ := Aside0.mk (blk_grown (pK BK141.out) hg (Kd.R_ne HO136.out BK141.out (by decide)))
              have n5_ := Aside0.mk ((by rw [hw]; exact below_set (HB.out) GB16.out : Below w.heap.size w w41))
              (try clear BK131)
              clear BK132
              clear HO136
              clear HO139
              clear BK141
              clear HB
              have BK132 := n1_
              have HO136 := n2_
              have HO139 := n3_
              have BK141 := n4_
              have HB := n5_
              clear n1_ n2_ n3_ n4_ n5_
              clear hg hw hp_
              have p18 : 0 ≤ (a0_2 : Int) := od
              have q18 : (a0_2 : Int) < ((t137.length : Int) : Int) := od
              obtain ⟨go18, co18, eo18, gb18, gl18, cl18, HG18⟩ := Kd.R_form HO139.out (by omega)
              (first | cases eo18 | (injection eo18 with ea_ en_ ec_; (first | subst ea_ | (injection ea_ with ea_; subst ea_)); subst ec_; clear en_))
              have GB18 := Aside0.mk gb18
              have GG18 := Aside0.mk HG18
              clear gb18 gl18 HG18
              obtain ⟨hx18_0, hf18_0⟩ := Kd.R_celln false HO139.out (a0_2 : Int) p18 q18
              replace p18 := eq_true p18
              replace q18 := eq_true q18
              obtain ⟨hy42_, hz42_⟩ := Kd.R_celln false HO139.out (a0_2 : Int) od od
              have HP42 := Kd.R_putg HO139.out (a0_2 : Int) true
              refine pure_ (i := 15) (N := some 35) (v := ?_) (a' := ?_) #[true, true, true, true, true, true, true, true, true, true, true, true, true, true, true, true, false] rfl rfl (by kernel_rfl) (fun _ _ _ h => h) (Or.inl ⟨by rfl, ?_⟩) ?_ ?_
              rotate_left
              · intro w'
                go_simp
                with_reducible rfl
              rotate_left
              · simp only [Act.put, List.setIfInBounds_toArray, List.set_cons_zero, List.set_cons_succ, i64_w, i32_w]
                rfl
              refine last_ (i := 16) (N := none) #[true, true, true, true, true, true, true, true, true, true, true, true, true, true, true, true, true] rfl rfl (by kernel_rfl) (by decide) (fun K hK => ?_)
              refine skip_ (w1 := (w41.setCell ⟨go18, (a0_2 : Int).toNat, none⟩ (.bool true))) (by rfl) rfl ?_ ?_
              · go_simp
                first | done | rfl
              refine hK.out _ _ ?_
              clear hK K
              generalize hw_ : (w41.setCell ⟨go18, (a0_2 : Int).toNat, none⟩ (.bool true)) = w43 at ⊢
              have hw := hw_.symm
              (try clear hw_)
              have hg : w41.grownBy w43 (some go18) := (by rw [hw]; exact HP42.2)
              have hp_ : Kd.R Kd.bool 4 w43 w.heap.size (fun _ => True) (.slice (some ⟨go18, 0, none⟩) t137.length co31) y144 := (by rw [hw, Ny144.out]; exact HP42.1)
              (try clear HP42)
              have n1_ := Aside0.mk (blk_grown (pK BK132.out) hg (Kd.R_ne HO139.out BK132.out (by decide)))
              have n2_ := Aside0.mk (Kd.R_over' (v := (.slice (some ⟨go18, 0, none⟩) t137.length co31)) (Kd.pR HO136.out) (Kd.R_typed HO139.out) (by decide) hg)
              have n3_ := Aside0.mk (hp_)
              have n4_ := Aside0.mk (blk_grown (pK BK141.out) hg (Kd.R_ne HO139.out BK141.out (by decide)))
              have n5_ := Aside0.mk ((by rw [hw]; exact below_set (HB.out) GB18.out : Below w.heap.size w w43))
              (try clear BK131)
              clear BK132
              clear HO136
              clear HO139
              clear BK141
              clear HB
              have BK132 := n1_
              have HO136 := n2_
              have HO139 := n3_
              have BK141 := n4_
              have HB := n5_
              clear n1_ n2_ n3_ n4_ n5_
              clear hg hw hp_
              obtain ⟨hcz44_0, hcz44_1, hcz44_2, hfz44_0, hfz44_1, hfz44_2⟩ := bk3 BK141.out
              obtain ⟨hcz45_0, hcz45_1, hcz45_2, hfz45_0, hfz45_1, hfz45_2⟩ := bk3 BK132.out
              refine done_ (by kernel_rfl) ?_
              try go_wp2_with (fail)
              refine bodyPost_ret (results_ctt rfl _ _ gb132 36 #[.slice (some ⟨go16, 0, none⟩) t134.length co29, .slice (some ⟨go18, 0, none⟩) t137.length co31, .int .i64 (rd l0_0 a0_2)] (0, 0) _ rfl (by (with_reducible repeat (first | refine blk_drewN ?_ _ | refine blk_drew ?_ | refine blk_alloc ?_ _)); refine blk_put (cs := #[.slice (some ⟨go16, 0, none⟩) t134.length co29, .slice (some ⟨go18, 0, none⟩) t137.length co31, .int .i64 0]) ?_ 2 _ rfl; (with_reducible repeat (first | refine blk_drewN ?_ _ | refine blk_drew ?_ | refine blk_alloc ?_ _)); refine blk_put (cs := #[.slice (some ⟨go16, 0, none⟩) t134.length co29, .slice none 0 0, .int .i64 0]) ?_ 1 _ rfl; (with_reducible repeat (first | refine blk_drewN ?_ _ | refine blk_drew ?_ | refine blk_alloc ?_ _)); refine blk_put (cs := #[.slice none 0 0, .slice none 0 0, .int .i64 0]) ?_ 0 _ rfl; (with_reducible repeat (first | refine blk_drewN ?_ _ | refine blk_drew ?_ | refine blk_alloc ?_ _)); exact BK132.out) Try.underlying36 rfl (by kernel_rfl)) rfl ?_
              exact ⟨_, _, by first | rfl | (simp [errW_none, errW_some] <;> rfl) | (simp [*, errW_none, errW_some] <;> rfl), Kd.pR (Kd.R_mono (Kd.R_far (p := ⟨gb132, 2, none⟩) (Kd.R_far (p := ⟨gb132, 1, none⟩) (Kd.R_far (p := ⟨gb132, 0, none⟩) (Kd.R_types HO136.out BK132.out (by decide)) (fun _ hk => hk.2) (.slice (some ⟨go16, 0, none⟩) t134.length co29)) (fun _ hk => hk.2) (.slice (some ⟨go18, 0, none⟩) t137.length co31)) (fun _ hk => hk.2) (.int .i64 (rd l0_0 a0_2))) (fun _ hk => trivial)), Kd.pR (Kd.R_mono (Kd.R_far (p := ⟨gb132, 2, none⟩) (Kd.R_far (p := ⟨gb132, 1, none⟩) (Kd.R_far (p := ⟨gb132, 0, none⟩) (Kd.R_types HO139.out BK132.out (by decide)) (fun _ hk => hk.2) (.slice (some ⟨go16, 0, none⟩) t134.length co29)) (fun _ hk => hk.2) (.slice (some ⟨go18, 0, none⟩) t137.length co31)) (fun _ hk => hk.2) (.int .i64 (rd l0_0 a0_2))) (fun _ hk => trivial)), pB HB.out⟩
            · rw [if_neg c17] at H
              exact absurd H (by simp)
          · rw [if_neg c15] at H
            exact absurd H (by simp)
        · rw [if_neg c14] at H
          exact absurd H (by simp)
      · rw [if_neg c13] at H
        exact absurd H (by simp)
  · rw [if_neg c3] at H
    have c3b0 : (t133 == 0) = false := beq_eq_false_iff_ne.mpr c3
    have c3b1 : (t133 != 0) = true := bne_iff_ne.mpr c3
    simp only [Option.some.injEq, Prod.mk.injEq] at H
    obtain ⟨rfl, rfl, rfl, rfl, rfl⟩ := H
    go_enter Try.func25, Try.ntmps25
    go_wp2_with (first | ((with_reducible refine gate_dst (N := 1) rfl ?_); refine boxE (N := 1) (cs := #[.slice A0_0 l0_0.length c0_0, .slice A0_1 l0_1.length c0_1, .int .i64 a0_2]) (t := 36) ?_; intro gb131 hg w46 hbox hb; have n0_ := Aside0.mk (below_step (pB HB.out) hb); have n1_ := Aside0.mk (hbox); have n3_ := Aside0.mk (pL HB.out hg); clear HB; have HB := n0_; have BK131 := n1_; have GE131 := n3_; clear n0_ n1_ n3_; clear hb hbox hg) | ((with_reducible refine gate_dst (N := 2) rfl ?_); refine boxE (N := 2) (cs := #[.slice none 0 0, .slice none 0 0, .int .i64 0]) (t := 36) ?_; intro gb132 hg w47 hbox hb; have n0_ := Aside0.mk (blk_below (pK BK131.out) hb); have n1_ := Aside0.mk (below_step (pB HB.out) hb); have n2_ := Aside0.mk (hbox); have n4_ := Aside0.mk (pL HB.out hg); have n5_ := Aside0.mk (pNl BK131.out hg); have n6_ := Aside0.mk (pNg BK131.out hg); clear BK131; clear HB; have BK131 := n0_; have HB := n1_; have BK132 := n2_; have GE132 := n4_; have NB131_132 := n5_; have NB132_131 := n6_; clear n0_ n1_ n2_ n4_ n5_ n6_; clear hb hbox hg; have hnb48 := NB131_132.out; have hnc48 := NB132_131.out; obtain ⟨hcz49_0, hcz49_1, hcz49_2, hfz49_0, hfz49_1, hfz49_2⟩ := bk3 BK131.out) | ((with_reducible refine gate_callee (f := 35) rfl ?_); refine goesE (some 9) rfl rfl Try.func35 (by kernel_rfl) rfl #[.agg #[.slice A0_0 l0_0.length c0_0, .slice A0_1 l0_1.length c0_1, .int .i64 a0_2]] rfl ?_; (with_reducible refine (arena_Check.calls k _ _ l0_0 _ _ l0_1 a0_2 t133 _ ?side1 ?side2 ?side3 ?side4 A2.out).mono ?_); (case side1 => exact Kd.pC ((Kd.C_below HR0_0.out HB.out))); (case side2 => exact HC0_0.out); (case side3 => exact Kd.pC ((Kd.C_below HR0_1.out HB.out))); (case side4 => exact HC0_1.out); rintro e w50 ⟨rfl, hb⟩; refine ⟨_, rfl, ?_⟩; have n1_ := Aside0.mk (blk_below (pK BK132.out) hb); have n2_ := Aside0.mk (below_step (pB HB.out) hb); (try clear BK131); clear BK132; clear HB; have BK132 := n1_; have HB := n2_; clear n1_ n2_; (try clear hb); (try clear hb2); (try clear hk); (try clear hi); obtain ⟨hcz51_0, hcz51_1, hcz51_2, hfz51_0, hfz51_1, hfz51_2⟩ := bk3 BK132.out))
    refine bodyPost_ret (results_ctt rfl _ _ gb132 36 #[.slice none 0 0, .slice none 0 0, .int .i64 0] (0, 0) _ rfl (by (with_reducible repeat (first | refine blk_drewN ?_ _ | refine blk_drew ?_ | refine blk_alloc ?_ _)); refine blk_put (cs := #[.slice none 0 0, .slice none 0 0, .int .i64 0]) ?_ 2 _ rfl; (with_reducible repeat (first | refine blk_drewN ?_ _ | refine blk_drew ?_ | refine blk_alloc ?_ _)); refine blk_put (cs := #[.slice none 0 0, .slice none 0 0, .int .i64 0]) ?_ 1 _ rfl; (with_reducible repeat (first | refine blk_drewN ?_ _ | refine blk_drew ?_ | refine blk_alloc ?_ _)); refine blk_put (cs := #[.slice none 0 0, .slice none 0 0, .int .i64 0]) ?_ 0 _ rfl; (with_reducible repeat (first | refine blk_drewN ?_ _ | refine blk_drew ?_ | refine blk_alloc ?_ _)); exact BK132.out) Try.underlying36 rfl (by kernel_rfl)) rfl ?_
    exact ⟨_, _, by first | rfl | (simp [errW_none, errW_some] <;> rfl) | (simp [*, errW_none, errW_some] <;> rfl), by first | exact Kd.R_nil _ _ _ _ _ | exact Kd.N_nil _ _ _ _ _ | exact Kd.V_nil _ _ _ _ _ | exact Kd.Q_nil _ _ _ _ _ | exact Kd.S_nil _ _ _ _ _, by first | exact Kd.R_nil _ _ _ _ _ | exact Kd.N_nil _ _ _ _ _ | exact Kd.V_nil _ _ _ _ _ | exact Kd.Q_nil _ _ _ _ _ | exact Kd.S_nil _ _ _ _ _, pB HB.out⟩

end Go.Proofs.Ytlgfopdindklnaa.PArena
