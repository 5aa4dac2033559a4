-- printed by a program of this session (a turned copy of the kit's print); Lean checks it
import Derived.Test.YtlgfopdindklnaaPProbex0
import Derived.Test.YtlgfopdindklnaaPProbex2
import Derived.Test.YtlgfopdindklnaaPProbex3
import Derived.Test.YtlgfopdindklnaaPProbex9
namespace Go.Proofs.Ytlgfopdindklnaa.PProbe
open Go.RowKit Go.Proofs.YtlgfopdindklnaaW.PrintWords Go.Proofs.YtlgfopdindklnaaW.PrintLast Go.Proofs.YtlgfopdindklnaaW.PrintMore
attribute [local go_sem] max2_int min2_int max_two min_two max_three min_three max_four min_four   -- for this text's walks alone
set_option linter.unusedVariables false
set_option linter.unusedSimpArgs false

/-! ### probe_Put: function 36 -/
mutual
def probe_Put.j0 : Nat → List (S71) → Int → Int → Bool → Option ((List (S71)) × Int)
  | 0, _, _, _, _ => none
  | k + 1, x0, x1, x2, x25 => if x25 = true then (some (([] : List (S71)), 2)) else ((probe_look.f k x0 x1).bind fun bt161 => (if 0 ≤ bt161.1 then (if bt161.1 < (x0.length : Int) then (if (rd_T71 x0 bt161.1).f2 = true then (some (([] : List (S71)), 14)) else (probe_Put.l0 k x0 x1 x2 bt161.1 0 x0 (x0.length : Int) 0)) else (none)) else (none)))
def probe_Put.l0 : Nat → List (S71) → Int → Int → Int → Int → List (S71) → Int → Int → Option ((List (S71)) × Int)
  | 0, _, _, _, _, _, _, _, _ => none
  | k + 1, x0, x1, x2, x9, x11, x37, x38, x39 => if x39 < x38 then (if 0 ≤ x39 then (if x39 < (x37.length : Int) then (if (rd_T71 x37 x39).f2 = true then (probe_Put.l0 k x0 x1 x2 x9 (wrap64 (x11 + 1)) x37 x38 (wrap64 (x39 + 1))) else (probe_Put.l0 k x0 x1 x2 x9 x11 x37 x38 (wrap64 (x39 + 1)))) else (none)) else (none)) else (if x11 ≥ 12 then (some (([] : List (S71)), 18)) else ((api_Cell.f x0).bind fun t166 => (if 0 ≤ x9 then (if x9 < (t166.length : Int) then (some ((t166.set (x9 : Int).toNat (⟨x1, x2, true⟩ : S71)), 0)) else (none)) else (none))))
end
def probe_Put.f (k : Nat) (l0 : List (S71)) (a1 : Int) (a2 : Int) : Option ((List (S71)) × Int) := (probe_Check.f k l0).bind fun t160 => (if t160 = 0 then (if a2 < 0 then (probe_Put.j0 k l0 a1 a2 true) else (probe_Put.j0 k l0 a1 a2 (decide (a2 ≥ 16)))) else (some (([] : List (S71)), t160)))
theorem probe_Put.mono_l : ∀ k, (∀ y0 y1 y2 y3, LeO (probe_Put.j0 k y0 y1 y2 y3) (probe_Put.j0 (k + 1) y0 y1 y2 y3)) ∧ (∀ y0 y1 y2 y3 y4 y5 y6 y7, LeO (probe_Put.l0 k y0 y1 y2 y3 y4 y5 y6 y7) (probe_Put.l0 (k + 1) y0 y1 y2 y3 y4 y5 y6 y7))
  | 0 => ⟨fun _ _ _ _ r h => by simp [probe_Put.j0] at h, fun _ _ _ _ _ _ _ _ r h => by simp [probe_Put.l0] at h⟩
  | k + 1 => by
    obtain ⟨ih0, ih1⟩ := probe_Put.mono_l k
    refine ⟨?_, ?_⟩
    · intro y0 y1 y2 y3
      unfold probe_Put.j0
      repeat' first
      | (with_reducible exact ih0 _ _ _ _)
      | (with_reducible exact ih1 _ _ _ _ _ _ _ _)
      | (with_reducible exact probe_Check.mono _ _)
      | (with_reducible exact probe_look.mono _ _ _)
      | (with_reducible exact LeO.refl _)
      | (with_reducible exact LeO.none _)
      | (with_reducible refine LeO.ite ?_ ?_)
      | (with_reducible refine LeO.bind ?_ (fun _ => ?_))
      | exact ih0 _ _ _ _
      | exact ih1 _ _ _ _ _ _ _ _
      | exact probe_Check.mono _ _
      | exact probe_look.mono _ _ _
      | exact LeO.none _
      | refine LeO.ite ?_ ?_
      | refine LeO.bind ?_ (fun _ => ?_)
    · intro y0 y1 y2 y3 y4 y5 y6 y7
      unfold probe_Put.l0
      repeat' first
      | (with_reducible exact ih0 _ _ _ _)
      | (with_reducible exact ih1 _ _ _ _ _ _ _ _)
      | (with_reducible exact probe_Check.mono _ _)
      | (with_reducible exact probe_look.mono _ _ _)
      | (with_reducible exact LeO.refl _)
      | (with_reducible exact LeO.none _)
      | (with_reducible refine LeO.ite ?_ ?_)
      | (with_reducible refine LeO.bind ?_ (fun _ => ?_))
      | exact ih0 _ _ _ _
      | exact ih1 _ _ _ _ _ _ _ _
      | exact probe_Check.mono _ _
      | exact probe_look.mono _ _ _
      | exact LeO.none _
      | refine LeO.ite ?_ ?_
      | refine LeO.bind ?_ (fun _ => ?_)
theorem probe_Put.mono : ∀ a0 a1 a2 k, LeO (probe_Put.f k a0 a1 a2) (probe_Put.f (k + 1) a0 a1 a2) := by
  intro a0 a1 a2 k
  obtain ⟨ih0, ih1⟩ := probe_Put.mono_l k
  unfold probe_Put.f
  repeat' first
      | (with_reducible exact ih0 _ _ _ _)
      | (with_reducible exact ih1 _ _ _ _ _ _ _ _)
      | (with_reducible exact probe_Check.mono _ _)
      | (with_reducible exact probe_look.mono _ _ _)
      | (with_reducible exact LeO.refl _)
      | (with_reducible exact LeO.none _)
      | (with_reducible refine LeO.ite ?_ ?_)
      | (with_reducible refine LeO.bind ?_ (fun _ => ?_))
      | exact ih0 _ _ _ _
      | exact ih1 _ _ _ _ _ _ _ _
      | exact probe_Check.mono _ _
      | exact probe_look.mono _ _ _
      | exact LeO.none _
      | refine LeO.ite ?_ ?_
      | refine LeO.bind ?_ (fun _ => ?_)
set_option maxHeartbeats 8000000 in
set_option maxRecDepth 100000 in
theorem probe_Put.calls (k : Nat) (A0 : Option Addr) (c0 : Nat) (l0 : List (S71)) (a1 : Int) (a2 : Int) (r1 : List (S71)) (r2 : Int) (w : World) (hr0 : Kd.C k71 w A0 l0.length l0) (hc0 : l0.length ≤ c0) (h : probe_Put.f k l0 a1 a2 = some (r1, r2)) :
    Calls Try.prog 36 #[.slice A0 l0.length c0, .int .u32 a1, .int .i64 a2] w fun e w' => ∃ v0_ : Value, e = .returned (.tuple #[v0_, .int .i64 r2]) ∧ Kd.R k71 71 w' w.heap.size (fun _ => True) v0_ r1 ∧ Below w.heap.size w w' := by
  have hu71 := Try.underlying71
  have HR0 := Aside0.mk hr0
  have HC0 := Aside0.mk hc0
  clear hr0 hc0
  have HB := Aside0.mk (Below.refl w.heap.size w)
  have H : ((probe_Check.f k l0).bind fun t160 => (if t160 = 0 then (if a2 < 0 then (probe_Put.j0 k l0 a1 a2 true) else (probe_Put.j0 k l0 a1 a2 (decide (a2 ≥ 16)))) else (some (([] : List (S71)), t160)))) = some (r1, r2) := h
  (try clear h)
  replace H := Option.bind_eq_some_iff.mp H
  obtain ⟨t160, A40, H⟩ := H
  replace H : (if t160 = 0 then (if a2 < 0 then (probe_Put.j0 k l0 a1 a2 true) else (probe_Put.j0 k l0 a1 a2 (decide (a2 ≥ 16)))) else (some (([] : List (S71)), t160))) = some (r1, r2) := H
  have A4 := Aside0.mk A40
  (try clear A40)
  by_cases c5 : t160 = 0
  · rw [if_pos c5] at H
    have c5b0 : (t160 == 0) = true := beq_iff_eq.mpr c5
    have c5b1 : (t160 != 0) = false := bne_eq_false_iff_eq.mpr c5
    clear c5
    have HC6 := Aside0.mk H
    clear H
    go_enter Try.func36, Try.ntmps36
    go_upto_region 4 with (first | ((with_reducible refine gate_callee (f := 20) rfl ?_); refine goesE (some 16) rfl rfl Try.func20 (by kernel_rfl) rfl #[.slice A0 l0.length c0] rfl ?_; (with_reducible refine (probe_Check.calls k _ _ l0 t160 _ ?side1 ?side2 A4.out).mono ?_); (case side1 => exact Kd.pC HR0.out); (case side2 => exact HC0.out); rintro e w7 ⟨rfl, hb⟩; refine ⟨_, rfl, ?_⟩; have n0_ := Aside0.mk (below_step (pB HB.out) hb); clear HB; have HB := n0_; clear n0_; (try clear hb); (try clear hb2); (try clear hk); (try clear hi)))
    (try simp only [Act.put, List.setIfInBounds_toArray, List.set_cons_zero, List.set_cons_succ])
    go_cut [25] (fun v25 wc => ∃ (kq : Nat) (x25_5 : Bool), v25 = .bool x25_5 ∧ Aside0 (probe_Put.j0 kq l0 a1 a2 x25_5 = some (r1, r2)) ∧ Aside0 (kq ≤ k) ∧ Aside0 (Below w.heap.size w wc))
    case first =>
      have H := HC6.out
      (try clear HC6)
      by_cases c8 : a2 < 0
      · rw [if_pos c8] at H
        have c8b0 : decide (a2 < 0) = true := decide_eq_true c8
        clear c8
        (first | rw [c8b0] | (simp only [i64_w, i32_w]; rw [c8b0]) | skip)
        have H' := Aside0.mk H
        clear H
        go_wp2
        go_meet
        case rel => exact ⟨_, (true), (by first | rfl | (simp; done) | (simp [*]; done)), H', ⟨by first | omega | exact Nat.le_refl _⟩, ⟨pB HB.out⟩⟩
      · rw [if_neg c8] at H
        have c8b0 : decide (a2 < 0) = false := decide_eq_false c8
        clear c8
        (first | rw [c8b0] | (simp only [i64_w, i32_w]; rw [c8b0]) | skip)
        have H' := Aside0.mk H
        clear H
        go_wp2
        go_meet
        case rel => exact ⟨_, (decide (a2 ≥ 16)), (by first | rfl | (simp; done) | (simp [*]; done)), H', ⟨by first | omega | exact Nat.le_refl _⟩, ⟨pB HB.out⟩⟩
    case rest =>
      (try clear HC6)
      try clear c2
      try clear p2
      try clear c3
      try clear c5
      try clear c5b0
      try clear c5b1
      try clear c8
      try clear c8b0
      obtain ⟨kq, x25_5, rfl, HA, HJ5, HB⟩ := hcut
      cases kq with
      | zero => exact absurd HA.out (by simp [probe_Put.j0])
      | succ kj5 =>
        have H := HA.out
        clear HA
        simp only [probe_Put.j0] at H
        by_cases c9 : x25_5 = true
        · subst c9
          have H1 : (some (([] : List (S71)), 2)) = some (r1, r2) := by rw [if_pos rfl] at H; exact H
          clear H
          have H := H1
          clear H1
          simp only [Option.some.injEq, Prod.mk.injEq] at H
          obtain ⟨rfl, rfl⟩ := H
          go_wp2
          go_ret2
          exact ⟨_, by first | rfl | (simp [errW_none, errW_some] <;> rfl) | (simp [*, errW_none, errW_some] <;> rfl), by first | exact Kd.R_nil _ _ _ _ _ | exact Kd.N_nil _ _ _ _ _ | exact Kd.V_nil _ _ _ _ _ | exact Kd.Q_nil _ _ _ _ _ | exact Kd.S_nil _ _ _ _ _, pB HB.out⟩
        · replace c9 := Bool.eq_false_iff.mpr c9
          subst c9
          have H1 : ((probe_look.f kj5 l0 a1).bind fun bt161 => (if 0 ≤ bt161.1 then (if bt161.1 < (l0.length : Int) then (if (rd_T71 l0 bt161.1).f2 = true then (some (([] : List (S71)), 14)) else (probe_Put.l0 kj5 l0 a1 a2 bt161.1 0 l0 (l0.length : Int) 0)) else (none)) else (none))) = some (r1, r2) := by rw [if_neg (show ¬ (false = true) by decide)] at H; exact H
          clear H
          have H := H1
          clear H1
          replace H := Option.bind_eq_some_iff.mp H
          obtain ⟨⟨t161, t162⟩, A100, H⟩ := H
          replace H : (if 0 ≤ t161 then (if t161 < (l0.length : Int) then (if (rd_T71 l0 t161).f2 = true then (some (([] : List (S71)), 14)) else (probe_Put.l0 kj5 l0 a1 a2 t161 0 l0 (l0.length : Int) 0)) else (none)) else (none)) = some (r1, r2) := H
          have A10 := Aside0.mk A100
          (try clear A100)
          by_cases c11 : 0 ≤ t161
          · rw [if_pos c11] at H
            have c11b0 : decide (0 ≤ t161) = true := decide_eq_true c11
            clear c11
            by_cases c12 : t161 < (l0.length : Int)
            · rw [if_pos c12] at H
              have c12b0 : decide (t161 < (l0.length : Int)) = true := decide_eq_true c12
              clear c12
              obtain ⟨bq13, hbq13⟩ : ∃ b_ : Bool, b_ = ((rd_T71 l0 t161).f2) := ⟨_, rfl⟩
              replace H : (if bq13 = true then (some (([] : List (S71)), 14)) else (probe_Put.l0 kj5 l0 a1 a2 t161 0 l0 (l0.length : Int) 0)) = some (r1, r2) := by rw [← hbq13] at H; exact H
              have Nbq13 := Aside0.mk hbq13
              (try clear hbq13)
              by_cases c14 : bq13 = true
              · subst c14
                have H1 : (some (([] : List (S71)), 14)) = some (r1, r2) := by rw [if_pos rfl] at H; exact H
                clear H
                have H := H1
                clear H1
                simp only [Option.some.injEq, Prod.mk.injEq] at H
                obtain ⟨rfl, rfl⟩ := H
                go_wp2_with (first | ((with_reducible refine gate_callee (f := 46) rfl ?_); refine goesE (some 29) rfl rfl Try.func46 (by kernel_rfl) rfl #[.slice A0 l0.length c0, .int .u32 a1] rfl ?_; (with_reducible refine (probe_look.calls kj5 _ _ l0 a1 t161 t162 _ ?side1 ?side2 A10.out).mono ?_); (case side1 => exact Kd.pC ((Kd.C_below HR0.out HB.out))); (case side2 => exact HC0.out); rintro e w' ⟨rfl, ⟨nd, rfl⟩⟩; refine ⟨_, rfl, ?_⟩; have p163 : 0 ≤ (t161 : Int) := od; have q163 : t161 < (l0.length : Int) := od; obtain ⟨ad163, e163, hx163_0, hx163_1, hx163_2⟩ := at_T71 HR0.out t161 p163 q163; (try rw [← Nbq13.out] at hx163_2); cases e163; replace hx163_0 := (HB.out.cell (World.block_lt_of_cell? w _ hx163_0)).trans hx163_0; replace hx163_1 := (HB.out.cell (World.block_lt_of_cell? w _ hx163_1)).trans hx163_1; replace hx163_2 := (HB.out.cell (World.block_lt_of_cell? w _ hx163_2)).trans hx163_2; replace p163 := eq_true p163; replace q163 := eq_true q163))
                go_ret2
                exact ⟨_, by first | rfl | (simp [errW_none, errW_some] <;> rfl) | (simp [*, errW_none, errW_some] <;> rfl), by first | exact Kd.R_nil _ _ _ _ _ | exact Kd.N_nil _ _ _ _ _ | exact Kd.V_nil _ _ _ _ _ | exact Kd.Q_nil _ _ _ _ _ | exact Kd.S_nil _ _ _ _ _, pB HB.out⟩
              · replace c14 := Bool.eq_false_iff.mpr c14
                subst c14
                have H1 : (probe_Put.l0 kj5 l0 a1 a2 t161 0 l0 (l0.length : Int) 0) = some (r1, r2) := by rw [if_neg (show ¬ (false = true) by decide)] at H; exact H
                clear H
                have H := H1
                clear H1
                have H' := Aside0.mk H
                clear H
                go_wp2_with (first | ((with_reducible refine gate_callee (f := 46) rfl ?_); refine goesE (some 29) rfl rfl Try.func46 (by kernel_rfl) rfl #[.slice A0 l0.length c0, .int .u32 a1] rfl ?_; (with_reducible refine (probe_look.calls kj5 _ _ l0 a1 t161 t162 _ ?side1 ?side2 A10.out).mono ?_); (case side1 => exact Kd.pC ((Kd.C_below HR0.out HB.out))); (case side2 => exact HC0.out); rintro e w' ⟨rfl, ⟨nd, rfl⟩⟩; refine ⟨_, rfl, ?_⟩; have p163 : 0 ≤ (t161 : Int) := od; have q163 : t161 < (l0.length : Int) := od; obtain ⟨ad163, e163, hx163_0, hx163_1, hx163_2⟩ := at_T71 HR0.out t161 p163 q163; (try rw [← Nbq13.out] at hx163_2); cases e163; replace hx163_0 := (HB.out.cell (World.block_lt_of_cell? w _ hx163_0)).trans hx163_0; replace hx163_1 := (HB.out.cell (World.block_lt_of_cell? w _ hx163_1)).trans hx163_1; replace hx163_2 := (HB.out.cell (World.block_lt_of_cell? w _ hx163_2)).trans hx163_2; replace p163 := eq_true p163; replace q163 := eq_true q163))
                go_loopg [11, 39] kj5 (fun kq v11 v39 w' => ∃ (x11_2 : Int) (x39_2 : Int), v11 = .int .i64 x11_2 ∧ v39 = .int .i64 x39_2 ∧ Aside0 (probe_Put.l0 kq l0 a1 a2 t161 x11_2 l0 (l0.length : Int) x39_2 = some (r1, r2)) ∧ Aside0 (kq ≤ kj5) ∧ Aside0 (Below w.heap.size w w'))
                case atStart => exact ⟨(0), (0), (by first | rfl | (simp; done) | (simp [*]; done)), (by first | rfl | (simp; done) | (simp [*]; done)), H', ⟨Nat.le_refl _⟩, ⟨pB HB.out⟩⟩
                case round =>
                  clear H'
                  try clear c1
                  try clear p1
                  try clear q1
                  try clear hx1
                  try clear c2
                  try clear p2
                  try clear c3
                  try clear c4
                  try clear c5
                  try clear c5b0
                  try clear c5b1
                  try clear c8
                  try clear c8b0
                  try clear c9
                  try clear c11
                  try clear c11b0
                  try clear c12
                  try clear c12b0
                  try clear q13
                  try clear c14
                  try clear hx163_0
                  try clear hx163_1
                  try clear hx163_2
                  try clear p163
                  try clear p2
                  try clear q163
                  obtain ⟨x11_2, x39_2, rfl, rfl, HA, HK2, HB⟩ := hrel
                  cases gk with
                  | zero => exact absurd HA.out (by simp [probe_Put.l0])
                  | succ k2 =>
                    have H := HA.out
                    (try clear HA)
                    simp only [probe_Put.l0] at H
                    by_cases c15 : x39_2 < (l0.length : Int)
                    · rw [if_pos c15] at H
                      have c15b0 : decide (x39_2 < (l0.length : Int)) = true := decide_eq_true c15
                      clear c15
                      by_cases c16 : 0 ≤ x39_2
                      · rw [if_pos c16] at H
                        have c16b0 : decide (0 ≤ x39_2) = true := decide_eq_true c16
                        clear c16
                        by_cases c17 : x39_2 < (l0.length : Int)
                        · rw [if_pos c17] at H
                          have c17b0 : decide (x39_2 < (l0.length : Int)) = true := decide_eq_true c17
                          clear c17
                          obtain ⟨bq18, hbq18⟩ : ∃ b_ : Bool, b_ = ((rd_T71 l0 x39_2).f2) := ⟨_, rfl⟩
                          replace H : (if bq18 = true then (probe_Put.l0 k2 l0 a1 a2 t161 (wrap64 (x11_2 + 1)) l0 (l0.length : Int) (wrap64 (x39_2 + 1))) else (probe_Put.l0 k2 l0 a1 a2 t161 x11_2 l0 (l0.length : Int) (wrap64 (x39_2 + 1)))) = some (r1, r2) := by rw [← hbq18] at H; exact H
                          have Nbq18 := Aside0.mk hbq18
                          (try clear hbq18)
                          by_cases c19 : bq18 = true
                          · subst c19
                            have H1 : (probe_Put.l0 k2 l0 a1 a2 t161 (wrap64 (x11_2 + 1)) l0 (l0.length : Int) (wrap64 (x39_2 + 1))) = some (r1, r2) := by rw [if_pos rfl] at H; exact H
                            clear H
                            have H := H1
                            clear H1
                            have H' := Aside0.mk H
                            clear H
                            have p164 : 0 ≤ (x39_2 : Int) := od
                            have q164 : x39_2 < (l0.length : Int) := od
                            obtain ⟨ad164, e164, hx164_0, hx164_1, hx164_2⟩ := at_T71 HR0.out x39_2 p164 q164
                            (try rw [← Nbq13.out] at hx164_2)
                            (try rw [← Nbq18.out] at hx164_2)
                            obtain rfl : ad163 = ad164 := (by injection e164)
                            replace hx164_0 := (HB.out.cell (World.block_lt_of_cell? w _ hx164_0)).trans hx164_0
                            replace hx164_1 := (HB.out.cell (World.block_lt_of_cell? w _ hx164_1)).trans hx164_1
                            replace hx164_2 := (HB.out.cell (World.block_lt_of_cell? w _ hx164_2)).trans hx164_2
                            replace p164 := eq_true p164
                            replace q164 := eq_true q164
                            go_wp2_with (first | ((with_reducible refine gate_dst (N := 13) rfl ?_); refine boxE (N := 13) (cs := #[.int .u32 0, .int .i64 0, .bool false]) (t := 71) ?_; intro gb165 hg w20 hbox hb; have n0_ := Aside0.mk (below_step (pB HB.out) hb); have n1_ := Aside0.mk (hbox); have n3_ := Aside0.mk (pL HB.out hg); clear HB; have HB := n0_; have BK165 := n1_; have GE165 := n3_; clear n0_ n1_ n3_; clear hb hbox hg; obtain ⟨hcz21_0, hcz21_1, hcz21_2, hfz21_0, hfz21_1, hfz21_2⟩ := bk3 BK165.out))
                            go_roundg k2
                            case measure => have := HJ5.out; have := HK2.out; omega
                            case rel => exact ⟨(wrap64 (x11_2 + 1)), (wrap64 (x39_2 + 1)), (by first | rfl | (simp; done) | (simp [*]; done)), (by first | rfl | (simp; done) | (simp [*]; done)), H', ⟨by have := HJ5.out; have := HK2.out; omega⟩, ⟨pB HB.out⟩⟩
                          · replace c19 := Bool.eq_false_iff.mpr c19
                            subst c19
                            have H1 : (probe_Put.l0 k2 l0 a1 a2 t161 x11_2 l0 (l0.length : Int) (wrap64 (x39_2 + 1))) = some (r1, r2) := by rw [if_neg (show ¬ (false = true) by decide)] at H; exact H
                            clear H
                            have H := H1
                            (try clear H1)
                            have H' := Aside0.mk H
                            clear H
                            have p164 : 0 ≤ (x39_2 : Int) := od
                            have q164 : x39_2 < (l0.length : Int) := od
                            obtain ⟨ad164, e164, hx164_0, hx164_1, hx164_2⟩ := at_T71 HR0.out x39_2 p164 q164
                            (try rw [← Nbq13.out] at hx164_2)
                            (try rw [← Nbq18.out] at hx164_2)
                            obtain rfl : ad163 = ad164 := (by injection e164)
                            replace hx164_0 := (HB.out.cell (World.block_lt_of_cell? w _ hx164_0)).trans hx164_0
                            replace hx164_1 := (HB.out.cell (World.block_lt_of_cell? w _ hx164_1)).trans hx164_1
                            replace hx164_2 := (HB.out.cell (World.block_lt_of_cell? w _ hx164_2)).trans hx164_2
                            replace p164 := eq_true p164
                            replace q164 := eq_true q164
                            go_wp2_with (first | ((with_reducible refine gate_dst (N := 13) rfl ?_); refine boxE (N := 13) (cs := #[.int .u32 0, .int .i64 0, .bool false]) (t := 71) ?_; intro gb165 hg w22 hbox hb; have n0_ := Aside0.mk (below_step (pB HB.out) hb); have n1_ := Aside0.mk (hbox); have n3_ := Aside0.mk (pL HB.out hg); clear HB; have HB := n0_; have BK165 := n1_; have GE165 := n3_; clear n0_ n1_ n3_; clear hb hbox hg; obtain ⟨hcz23_0, hcz23_1, hcz23_2, hfz23_0, hfz23_1, hfz23_2⟩ := bk3 BK165.out))
                            go_roundg k2
                            case measure => have := HJ5.out; have := HK2.out; omega
                            case rel => exact ⟨(x11_2), (wrap64 (x39_2 + 1)), (by first | rfl | (simp; done) | (simp [*]; done)), (by first | rfl | (simp; done) | (simp [*]; done)), H', ⟨by have := HJ5.out; have := HK2.out; omega⟩, ⟨pB HB.out⟩⟩
                        · rw [if_neg c17] at H
                          exact absurd H (by simp)
                      · rw [if_neg c16] at H
                        exact absurd H (by simp)
                    · rw [if_neg c15] at H
                      have c15b0 : decide (x39_2 < (l0.length : Int)) = false := decide_eq_false c15
                      (try clear c15)
                      by_cases c24 : x11_2 ≥ 12
                      · rw [if_pos c24] at H
                        have c24b0 : decide (12 ≤ x11_2) = true := decide_eq_true c24
                        clear c24
                        simp only [Option.some.injEq, Prod.mk.injEq] at H
                        obtain ⟨rfl, rfl⟩ := H
                        go_wp2
                        go_ret2
                        exact ⟨_, by first | rfl | (simp [errW_none, errW_some] <;> rfl) | (simp [*, errW_none, errW_some] <;> rfl), by first | exact Kd.R_nil _ _ _ _ _ | exact Kd.N_nil _ _ _ _ _ | exact Kd.V_nil _ _ _ _ _ | exact Kd.Q_nil _ _ _ _ _ | exact Kd.S_nil _ _ _ _ _, pB HB.out⟩
                      · rw [if_neg c24] at H
                        have c24b0 : decide (12 ≤ x11_2) = false := decide_eq_false c24
                        (try clear c24)
                        replace H := Option.bind_eq_some_iff.mp H
                        obtain ⟨t166, A250, H⟩ := H
                        replace H : (if 0 ≤ t161 then (if t161 < (t166.length : Int) then (some ((t166.set (t161 : Int).toNat (⟨a1, a2, true⟩ : S71)), 0)) else (none)) else (none)) = some (r1, r2) := H
                        have A25 := Aside0.mk A250
                        (try clear A250)
                        by_cases c26 : 0 ≤ t161
                        · rw [if_pos c26] at H
                          have c26b0 : decide (0 ≤ t161) = true := decide_eq_true c26
                          clear c26
                          by_cases c27 : t161 < (t166.length : Int)
                          · rw [if_pos c27] at H
                            have c27b0 : decide (t161 < (t166.length : Int)) = true := decide_eq_true c27
                            clear c27
                            obtain ⟨y169, hy169⟩ : ∃ y_ : List (S71), y_ = (t166.set (t161 : Int).toNat (⟨a1, a2, true⟩ : S71)) := ⟨_, rfl⟩
                            replace H : (some (y169, 0)) = some (r1, r2) := by first | (rw [hy169]; with_reducible exact H) | (have H2_ := (Option.bind_some _ _).symm.trans H; rw [hy169]; with_reducible exact H2_) | (have H2_ := (Option.bind_some _ _).symm.trans H; with_reducible exact H2_) | with_reducible exact H | (rw [hy169]; exact H) | exact H
                            have Ny169 := Aside0.mk hy169
                            (try clear hy169)
                            simp only [Option.some.injEq, Prod.mk.injEq] at H
                            obtain ⟨rfl, rfl⟩ := H
                            go_wp2_with (first | ((with_reducible refine gate_callee (f := 51) rfl ?_); refine goesE (some 51) rfl rfl Try.func51 (by kernel_rfl) rfl #[.slice (some ad163) l0.length c0] rfl ?_; (with_reducible refine (api_Cell.calls _ _ l0 t166 _ ?side1 ?side2 A25.out).mono ?_); (case side1 => exact Kd.pC ((Kd.C_below HR0.out HB.out))); (case side2 => exact HC0.out); rintro e w29 ⟨v167, rfl, ho0, hb⟩; refine ⟨_, rfl, ?_⟩; have n0_ := Aside0.mk (Kd.R_lower ho0 (below_size (pB HB.out))); have n1_ := Aside0.mk (below_step (pB HB.out) hb); clear HB; have HO168 := n0_; have HB := n1_; clear n0_ n1_; (try clear hb); (try clear hb2); (try clear hk); (try clear hi); (try clear ho0); have p28 : 0 ≤ (t161 : Int) := od; have q28 : (t161 : Int) < ((t166.length : Int) : Int) := od; obtain ⟨go28, co28, eo28, gb28, gl28, cl28, HG28⟩ := Kd.R_form HO168.out (by omega); (first | cases eo28 | (injection eo28 with ea_ en_ ec_; (first | subst ea_ | (injection ea_ with ea_; subst ea_)); subst ec_; clear en_)); have GB28 := Aside0.mk gb28; have GG28 := Aside0.mk HG28; clear gb28 gl28 HG28; obtain ⟨ce28, hcl28, hM28, hcc28, hfr28⟩ := Kd.R_elem HO168.out z71 (t161 : Int) p28 q28; obtain rfl := k71_openM hM28; have hx28_0 : w29.cell? ⟨go28, (t161 : Int).toNat * 3, none⟩ = some (.int .u32 ((rd_T71 t166 t161).f0)) := hcc28 0 _ rfl; have hx28_1 : w29.cell? ⟨go28, (t161 : Int).toNat * 3 + 1, none⟩ = some (.int .i64 ((rd_T71 t166 t161).f1)) := hcc28 1 _ rfl; have hx28_2 : w29.cell? ⟨go28, (t161 : Int).toNat * 3 + 2, none⟩ = some (.bool ((rd_T71 t166 t161).f2)) := hcc28 2 _ rfl; have hf28_0 : w29.frozen? ⟨go28, (t161 : Int).toNat * 3, none⟩ = false := hfr28 0; have hf28_1 : w29.frozen? ⟨go28, (t161 : Int).toNat * 3 + 1, none⟩ = false := hfr28 1; have hf28_2 : w29.frozen? ⟨go28, (t161 : Int).toNat * 3 + 2, none⟩ = false := hfr28 2; clear hcl28 hcc28 hfr28 hM28; replace p28 := eq_true p28; replace q28 := eq_true q28; have HX30 := Aside0.mk (show Kd.R k71 71 w29 w.heap.size (fun _ => True) (.slice (some ⟨go28, 0, none⟩) t166.length co28) t166 from (Kd.pR HO168.out)); obtain ⟨ce30, hcl30, hM30, hcc30, hfr30⟩ := Kd.R_elem HX30.out z71 (t161 : Int) od (by have h_ : (t161 : Int) < ((t166.length : Int) : Int) := od; first | exact h_ | (have e_ := (Kd.R_reads' HO168.out).1; omega) | simpa using h_); obtain rfl := k71_openM hM30; have HP30 := Kd.R_seg HX30.out (t161 : Int) od (by have h_ : (t161 : Int) < ((t166.length : Int) : Int) := od; first | exact h_ | (have e_ := (Kd.R_reads' HO168.out).1; omega) | simpa using h_) (seg := [.int .u32 a1, .int .i64 a2, .bool true]) (j := 0) hcl30 hcc30 (show 3 ≤ 3 from by decide) (x' := (⟨a1, a2, true⟩ : S71)) (k71_mkM _ _ _ (⟨a1, a2, true⟩ : S71) ) (fun _ hk => hk); have hx30_0 := hcc30 0 _ rfl; (try simp only [show (k71).sz = 3 from rfl, Nat.mul_one, Nat.add_zero] at hx30_0); have hf30_0 := hfr30 0; (try simp only [show (k71).sz = 3 from rfl, Nat.mul_one, Nat.add_zero] at hf30_0); have hx30_1 := hcc30 1 _ rfl; (try simp only [show (k71).sz = 3 from rfl, Nat.mul_one, Nat.add_zero] at hx30_1); have hf30_1 := hfr30 1; (try simp only [show (k71).sz = 3 from rfl, Nat.mul_one, Nat.add_zero] at hf30_1); have hx30_2 := hcc30 2 _ rfl; (try simp only [show (k71).sz = 3 from rfl, Nat.mul_one, Nat.add_zero] at hx30_2); have hf30_2 := hfr30 2; (try simp only [show (k71).sz = 3 from rfl, Nat.mul_one, Nat.add_zero] at hf30_2); clear hcl30 hcc30 hfr30 hM30) | ((with_reducible refine gate_store (t := 71) (p := 57) rfl ?_); refine store_event (t := 71) (p := 57) (v := ?vo_w31) (w1 := (((w29.setCell ⟨go28, (t161 : Int).toNat * 3, none⟩ (.int .u32 a1)).setCell ⟨go28, (t161 : Int).toNat * 3 + 1, none⟩ (.int .i64 a2)).setCell ⟨go28, (t161 : Int).toNat * 3 + 2, none⟩ (.bool true))) ?hg ?ho ?hn ?hr ?_; (case ho => rfl); (case hg => rfl); (case hn => rfl); (case hr => first | (go_simp; done) | (go_simp; rfl)); intro w31 hw; have hg : w29.grownBy w31 (some go28) := (by rw [hw]; exact HP30.2); have hp_ : Kd.R k71 71 w31 w.heap.size (fun _ => True) (.slice (some ⟨go28, 0, none⟩) t166.length co28) y169 := (by rw [hw, Ny169.out]; exact HP30.1); (try clear HP30); have n0_ := Aside0.mk (hp_); have n1_ := Aside0.mk ((by rw [hw]; exact below_set (below_set (below_set (HB.out) GB28.out) GB28.out) GB28.out : Below w.heap.size w w31)); clear HO168; clear HB; have HO168 := n0_; have HB := n1_; clear n0_ n1_; clear hg hw hp_))
                            go_ret2
                            exact ⟨_, by first | rfl | (simp [errW_none, errW_some] <;> rfl) | (simp [*, errW_none, errW_some] <;> rfl), Kd.pR HO168.out, pB HB.out⟩
                          · rw [if_neg c27] at H
                            exact absurd H (by simp)
                        · rw [if_neg c26] at H
                          exact absurd H (by simp)
            · rw [if_neg c12] at H
              exact absurd H (by simp)
          · rw [if_neg c11] at H
            exact absurd H (by simp)
  · rw [if_neg c5] at H
    have c5b0 : (t160 == 0) = false := beq_eq_false_iff_ne.mpr c5
    have c5b1 : (t160 != 0) = true := bne_iff_ne.mpr c5
    simp only [Option.some.injEq, Prod.mk.injEq] at H
    obtain ⟨rfl, rfl⟩ := H
    go_enter Try.func36, Try.ntmps36
    go_wp2_with (first | ((with_reducible refine gate_callee (f := 20) rfl ?_); refine goesE (some 16) rfl rfl Try.func20 (by kernel_rfl) rfl #[.slice A0 l0.length c0] rfl ?_; (with_reducible refine (probe_Check.calls k _ _ l0 t160 _ ?side1 ?side2 A4.out).mono ?_); (case side1 => exact Kd.pC HR0.out); (case side2 => exact HC0.out); rintro e w32 ⟨rfl, hb⟩; refine ⟨_, rfl, ?_⟩; have n0_ := Aside0.mk (below_step (pB HB.out) hb); clear HB; have HB := n0_; clear n0_; (try clear hb); (try clear hb2); (try clear hk); (try clear hi)))
    go_ret2
    exact ⟨_, by first | rfl | (simp [errW_none, errW_some] <;> rfl) | (simp [*, errW_none, errW_some] <;> rfl), by first | exact Kd.R_nil _ _ _ _ _ | exact Kd.N_nil _ _ _ _ _ | exact Kd.V_nil _ _ _ _ _ | exact Kd.Q_nil _ _ _ _ _ | exact Kd.S_nil _ _ _ _ _, pB HB.out⟩

end Go.Proofs.Ytlgfopdindklnaa.PProbe
