-- printed by a program of this session (a turned copy of the kit's print); Lean checks it
import Derived.Test.YtlgfopdindklnaaPProbex0
import Derived.Test.YtlgfopdindklnaaPProbex4
import Derived.Test.YtlgfopdindklnaaPProbex6
import Derived.Test.YtlgfopdindklnaaPProbex10
import Derived.Test.YtlgfopdindklnaaPProbex12
import Derived.Test.YtlgfopdindklnaaPProbex16
import Derived.Test.YtlgfopdindklnaaPProbex17
namespace Go.Proofs.Ytlgfopdindklnaa.PProbe
open Go.RowKit Go.Proofs.YtlgfopdindklnaaW.PrintWords Go.Proofs.YtlgfopdindklnaaW.PrintLast Go.Proofs.YtlgfopdindklnaaW.PrintMore
attribute [local go_sem] max2_int min2_int max_two min_two max_three min_three max_four min_four   -- for this text's walks alone
set_option linter.unusedVariables false
set_option linter.unusedSimpArgs false

/-! ### spigotlaw14_ProbeExact: function 11 -/
mutual
def spigotlaw14_ProbeExact.l0 : Nat → List Int → Int → Bool → List (S71) → List Int → List Int → Int → Option (Bool)
  | 0, _, _, _, _, _, _, _ => none
  | k + 1, x0, x1, x5, x6, x7, x8, x9 => if x9 < (x0.length : Int) then (spigotlaw14_ProbeExact.l1 k x0 x1 x5 x6 x7 x8 x9 (-1) 0) else (spigotlaw14_ProbeExact.l2 k x1 x5 x6 x7 x8 false 0)
def spigotlaw14_ProbeExact.l1 : Nat → List Int → Int → Bool → List (S71) → List Int → List Int → Int → Int → Int → Option (Bool)
  | 0, _, _, _, _, _, _, _, _, _ => none
  | k + 1, x0, x1, x5, x6, x7, x8, x9, x10, x11 => if x11 < (x7.length : Int) then (if 0 ≤ x11 then (if 0 ≤ x9 then (if x9 < (x0.length : Int) then (if (rd x7 x11) = (rd x0 x9) then (spigotlaw14_ProbeExact.l1 k x0 x1 x5 x6 x7 x8 x9 x11 (wrap64 (x11 + 1))) else (spigotlaw14_ProbeExact.l1 k x0 x1 x5 x6 x7 x8 x9 x10 (wrap64 (x11 + 1)))) else (none)) else (none)) else (none)) else (if x10 ≥ 0 then (if 0 ≤ x9 then (if x9 < (x0.length : Int) then ((probe_Drop.f k x6 (rd x0 x9)).bind fun bt361 => (if bt361.2 = 0 then ((some (([] : List Int) : List Int)).bind fun y365 => (if 0 ≤ x10 then (if x10 ≤ (x7.length : Int) then ((some (x7.take (x10 : Int).toNat : List Int)).bind fun y368 => (if y365.length + y368.length < 35184372088832 then ((some (y365 ++ y368 : List Int)).bind fun y372 => (if 0 ≤ (wrap64 (x10 + 1)) then (if (wrap64 (x10 + 1)) ≤ (x7.length : Int) then ((some (x7.drop ((wrap64 (x10 + 1)) : Int).toNat : List Int)).bind fun y375 => (if y372.length + y375.length < 35184372088832 then ((some (y372 ++ y375 : List Int)).bind fun y379 => ((some (([] : List Int) : List Int)).bind fun y382 => (if x10 ≤ (x8.length : Int) then ((some (x8.take (x10 : Int).toNat : List Int)).bind fun y385 => (if y382.length + y385.length < 17592186044416 then ((some (y382 ++ y385 : List Int)).bind fun y389 => (if (wrap64 (x10 + 1)) ≤ (x8.length : Int) then ((some (x8.drop ((wrap64 (x10 + 1)) : Int).toNat : List Int)).bind fun y392 => (if y389.length + y392.length < 17592186044416 then ((spigotref14_Check.f k bt361.1).bind fun t399 => (if t399 = 0 then ((spigotref14_Count.f k bt361.1).bind fun t400 => (if t400 = (y379.length : Int) then (spigotlaw14_ProbeExact.l0 k x0 x1 x5 bt361.1 y379 (y389 ++ y392) (wrap64 (x9 + 1))) else (some false))) else (some false))) else (none))) else (none))) else (none))) else (none)))) else (none))) else (none)) else (none))) else (none))) else (none)) else (none))) else (some false))) else (none)) else (none)) else (if 0 ≤ x9 then (if x9 < (x0.length : Int) then ((probe_Put.f k x6 (rd x0 x9) (Int.tmod x9 16)).bind fun bt402 => (if (x7.length : Int) = 12 then (if bt402.2 = 18 then (spigotlaw14_ProbeExact.l0 k x0 x1 x5 x6 x7 x8 (wrap64 (x9 + 1))) else (some false)) else (if bt402.2 = 0 then (if x7.length < 35184372088832 then ((some (x7 ++ [rd x0 x9] : List Int)).bind fun y407 => (if x8.length < 17592186044416 then ((spigotref14_Check.f k bt402.1).bind fun t413 => (if t413 = 0 then ((spigotref14_Count.f k bt402.1).bind fun t414 => (if t414 = (y407.length : Int) then (spigotlaw14_ProbeExact.l0 k x0 x1 x5 bt402.1 y407 (x8 ++ [Int.tmod x9 16]) (wrap64 (x9 + 1))) else (some false))) else (some false))) else (none))) else (none)) else (some false)))) else (none)) else (none)))
def spigotlaw14_ProbeExact.l2 : Nat → Int → Bool → List (S71) → List Int → List Int → Bool → Int → Option (Bool)
  | 0, _, _, _, _, _, _, _ => none
  | k + 1, x1, x5, x6, x7, x8, x16, x17 => if x17 < (x7.length : Int) then (if 0 ≤ x17 then ((probe_Find.f k x6 (rd x7 x17)).bind fun bt416 => (if bt416.2 = 0 then (if x17 < (x8.length : Int) then (if bt416.1 = (rd x8 x17) then (if x16 = true then (spigotlaw14_ProbeExact.l2 k x1 x5 x6 x7 x8 true (wrap64 (x17 + 1))) else (spigotlaw14_ProbeExact.l2 k x1 x5 x6 x7 x8 ((rd x7 x17) == x1) (wrap64 (x17 + 1)))) else (some false)) else (none)) else (some false))) else (none)) else ((probe_Find.f k x6 x1).bind fun bt420 => (if x5 = true then (if ((bt420.2 == 0) == x16) = true then (if bt420.2 = 0 then (some true) else (some (bt420.2 == 6))) else (some false)) else (some false)))
end
def spigotlaw14_ProbeExact.f (k : Nat) (l0 : List Int) (a1 : Int) : Option (Bool) := (spigotlaw14_alive.f k).bind fun t354 => (if t354 = true then (if (l0.length : Int) > 60 then (some t354) else ((probe_New.f).bind fun t355 => (spigotlaw14_ProbeExact.l0 k l0 a1 t354 t355 ([] : List Int) ([] : List Int) 0))) else (none))
theorem spigotlaw14_ProbeExact.mono_l : ∀ k, (∀ y0 y1 y2 y3 y4 y5 y6, LeO (spigotlaw14_ProbeExact.l0 k y0 y1 y2 y3 y4 y5 y6) (spigotlaw14_ProbeExact.l0 (k + 1) y0 y1 y2 y3 y4 y5 y6)) ∧ (∀ y0 y1 y2 y3 y4 y5 y6 y7 y8, LeO (spigotlaw14_ProbeExact.l1 k y0 y1 y2 y3 y4 y5 y6 y7 y8) (spigotlaw14_ProbeExact.l1 (k + 1) y0 y1 y2 y3 y4 y5 y6 y7 y8)) ∧ (∀ y0 y1 y2 y3 y4 y5 y6, LeO (spigotlaw14_ProbeExact.l2 k y0 y1 y2 y3 y4 y5 y6) (spigotlaw14_ProbeExact.l2 (k + 1) y0 y1 y2 y3 y4 y5 y6))
  | 0 => ⟨fun _ _ _ _ _ _ _ r h => by simp [spigotlaw14_ProbeExact.l0] at h, fun _ _ _ _ _ _ _ _ _ r h => by simp [spigotlaw14_ProbeExact.l1] at h, fun _ _ _ _ _ _ _ r h => by simp [spigotlaw14_ProbeExact.l2] at h⟩
  | k + 1 => by
    obtain ⟨ih0, ih1, ih2⟩ := spigotlaw14_ProbeExact.mono_l k
    refine ⟨?_, ?_, ?_⟩
    · intro y0 y1 y2 y3 y4 y5 y6
      unfold spigotlaw14_ProbeExact.l0
      repeat' first
      | (with_reducible exact ih0 _ _ _ _ _ _ _)
      | (with_reducible exact ih1 _ _ _ _ _ _ _ _ _)
      | (with_reducible exact ih2 _ _ _ _ _ _ _)
      | (with_reducible exact probe_Drop.mono _ _ _)
      | (with_reducible exact probe_Find.mono _ _ _)
      | (with_reducible exact probe_Put.mono _ _ _ _)
      | (with_reducible exact spigotlaw14_alive.mono _)
      | (with_reducible exact spigotref14_Check.mono _ _)
      | (with_reducible exact spigotref14_Count.mono _ _)
      | (with_reducible exact LeO.refl _)
      | (with_reducible exact LeO.none _)
      | (with_reducible refine LeO.ite ?_ ?_)
      | (with_reducible refine LeO.bind ?_ (fun _ => ?_))
      | exact ih0 _ _ _ _ _ _ _
      | exact ih1 _ _ _ _ _ _ _ _ _
      | exact ih2 _ _ _ _ _ _ _
      | exact probe_Drop.mono _ _ _
      | exact probe_Find.mono _ _ _
      | exact probe_Put.mono _ _ _ _
      | exact spigotlaw14_alive.mono _
      | exact spigotref14_Check.mono _ _
      | exact spigotref14_Count.mono _ _
      | exact LeO.none _
      | refine LeO.ite ?_ ?_
      | refine LeO.bind ?_ (fun _ => ?_)
    · intro y0 y1 y2 y3 y4 y5 y6 y7 y8
      unfold spigotlaw14_ProbeExact.l1
      repeat' first
      | (with_reducible exact ih0 _ _ _ _ _ _ _)
      | (with_reducible exact ih1 _ _ _ _ _ _ _ _ _)
      | (with_reducible exact ih2 _ _ _ _ _ _ _)
      | (with_reducible exact probe_Drop.mono _ _ _)
      | (with_reducible exact probe_Find.mono _ _ _)
      | (with_reducible exact probe_Put.mono _ _ _ _)
      | (with_reducible exact spigotlaw14_alive.mono _)
      | (with_reducible exact spigotref14_Check.mono _ _)
      | (with_reducible exact spigotref14_Count.mono _ _)
      | (with_reducible exact LeO.refl _)
      | (with_reducible exact LeO.none _)
      | (with_reducible refine LeO.ite ?_ ?_)
      | (with_reducible refine LeO.bind ?_ (fun _ => ?_))
      | exact ih0 _ _ _ _ _ _ _
      | exact ih1 _ _ _ _ _ _ _ _ _
      | exact ih2 _ _ _ _ _ _ _
      | exact probe_Drop.mono _ _ _
      | exact probe_Find.mono _ _ _
      | exact probe_Put.mono _ _ _ _
      | exact spigotlaw14_alive.mono _
      | exact spigotref14_Check.mono _ _
      | exact spigotref14_Count.mono _ _
      | exact LeO.none _
      | refine LeO.ite ?_ ?_
      | refine LeO.bind ?_ (fun _ => ?_)
    · intro y0 y1 y2 y3 y4 y5 y6
      unfold spigotlaw14_ProbeExact.l2
      repeat' first
      | (with_reducible exact ih0 _ _ _ _ _ _ _)
      | (with_reducible exact ih1 _ _ _ _ _ _ _ _ _)
      | (with_reducible exact ih2 _ _ _ _ _ _ _)
      | (with_reducible exact probe_Drop.mono _ _ _)
      | (with_reducible exact probe_Find.mono _ _ _)
      | (with_reducible exact probe_Put.mono _ _ _ _)
      | (with_reducible exact spigotlaw14_alive.mono _)
      | (with_reducible exact spigotref14_Check.mono _ _)
      | (with_reducible exact spigotref14_Count.mono _ _)
      | (with_reducible exact LeO.refl _)
      | (with_reducible exact LeO.none _)
      | (with_reducible refine LeO.ite ?_ ?_)
      | (with_reducible refine LeO.bind ?_ (fun _ => ?_))
      | exact ih0 _ _ _ _ _ _ _
      | exact ih1 _ _ _ _ _ _ _ _ _
      | exact ih2 _ _ _ _ _ _ _
      | exact probe_Drop.mono _ _ _
      | exact probe_Find.mono _ _ _
      | exact probe_Put.mono _ _ _ _
      | exact spigotlaw14_alive.mono _
      | exact spigotref14_Check.mono _ _
      | exact spigotref14_Count.mono _ _
      | exact LeO.none _
      | refine LeO.ite ?_ ?_
      | refine LeO.bind ?_ (fun _ => ?_)
theorem spigotlaw14_ProbeExact.mono : ∀ a0 a1 k, LeO (spigotlaw14_ProbeExact.f k a0 a1) (spigotlaw14_ProbeExact.f (k + 1) a0 a1) := by
  intro a0 a1 k
  obtain ⟨ih0, ih1, ih2⟩ := spigotlaw14_ProbeExact.mono_l k
  unfold spigotlaw14_ProbeExact.f
  repeat' first
      | (with_reducible exact ih0 _ _ _ _ _ _ _)
      | (with_reducible exact ih1 _ _ _ _ _ _ _ _ _)
      | (with_reducible exact ih2 _ _ _ _ _ _ _)
      | (with_reducible exact probe_Drop.mono _ _ _)
      | (with_reducible exact probe_Find.mono _ _ _)
      | (with_reducible exact probe_Put.mono _ _ _ _)
      | (with_reducible exact spigotlaw14_alive.mono _)
      | (with_reducible exact spigotref14_Check.mono _ _)
      | (with_reducible exact spigotref14_Count.mono _ _)
      | (with_reducible exact LeO.refl _)
      | (with_reducible exact LeO.none _)
      | (with_reducible refine LeO.ite ?_ ?_)
      | (with_reducible refine LeO.bind ?_ (fun _ => ?_))
      | exact ih0 _ _ _ _ _ _ _
      | exact ih1 _ _ _ _ _ _ _ _ _
      | exact ih2 _ _ _ _ _ _ _
      | exact probe_Drop.mono _ _ _
      | exact probe_Find.mono _ _ _
      | exact probe_Put.mono _ _ _ _
      | exact spigotlaw14_alive.mono _
      | exact spigotref14_Check.mono _ _
      | exact spigotref14_Count.mono _ _
      | exact LeO.none _
      | refine LeO.ite ?_ ?_
      | refine LeO.bind ?_ (fun _ => ?_)
def spigotlaw14_ProbeExact.T14 : Bool × List (List Nat × List Nat) := (true, [([], []), ([], []), ([0, 1], [0, 1]), ([2], [2]), ([], []), ([], []), ([4, 5], [4, 5]), ([6], [6]), ([3, 7], [3, 7])])
def spigotlaw14_ProbeExact.B14 : List Nat := [0, 0, 3, 7, 0, 0, 48, 112, 255]
theorem spigotlaw14_ProbeExact.tab14 : rtab .any (opsOf Try.f11 14) = spigotlaw14_ProbeExact.T14 := by kernel_rfl
theorem spigotlaw14_ProbeExact.bits14 : waitsOk spigotlaw14_ProbeExact.T14.2 spigotlaw14_ProbeExact.B14 = true := by kernel_rfl
def spigotlaw14_ProbeExact.T20 : Bool × List (List Nat × List Nat) := (true, [([], []), ([], []), ([], []), ([], []), ([2, 3], [2, 3]), ([1, 4], [1, 4]), ([], []), ([], []), ([7], [7]), ([6, 8], [6, 8]), ([5, 9, 5], [5, 9]), ([], []), ([], []), ([], []), ([12, 13], [12, 13]), ([11, 14, 10], [11, 14]), ([], []), ([], []), ([17], [17]), ([16, 18], [16, 18]), ([15, 19, 15], [15, 19]), ([0, 20, 0], [0]), ([10, 21, 0, 1, 2, 3, 4, 5, 6, 7, 8, 9, 10, 21], [2, 6, 10]), ([20, 22, 0, 1, 2, 3, 4, 5, 6, 7, 8, 9, 10, 11, 12, 13, 14, 15, 16, 17, 18, 19, 20, 21, 22], [12, 16, 20])])
def spigotlaw14_ProbeExact.B20 : List Nat := [0, 0, 0, 0, 12, 30, 0, 0, 128, 448, 1022, 0, 0, 0, 12288, 32766, 0, 0, 131072, 458752, 1048574, 2097151, 4194303, 8388607]
theorem spigotlaw14_ProbeExact.tab20 : rtab .any (opsOf Try.f11 20) = spigotlaw14_ProbeExact.T20 := by kernel_rfl
theorem spigotlaw14_ProbeExact.bits20 : waitsOk spigotlaw14_ProbeExact.T20.2 spigotlaw14_ProbeExact.B20 = true := by kernel_rfl
set_option maxHeartbeats 8000000 in
set_option maxRecDepth 100000 in
theorem spigotlaw14_ProbeExact.calls (k : Nat) (A0 : Option Addr) (c0 : Nat) (l0 : List Int) (a1 : Int) (w : World) (hr0 : Kd.C (Kd.int .u32) w A0 l0.length l0) (hc0 : l0.length ≤ c0) (h : spigotlaw14_ProbeExact.f k l0 a1 = some true) :
    Calls Try.prog 11 #[.slice A0 l0.length c0, .int .u32 a1] w fun e w' => e = .returned (.bool true) ∧ Below w.heap.size w w' := by
  have HR0 := Aside0.mk hr0
  have HC0 := Aside0.mk hc0
  clear hr0 hc0
  have HB := Aside0.mk (Below.refl w.heap.size w)
  have H : ((spigotlaw14_alive.f k).bind fun t354 => (if t354 = true then (if (l0.length : Int) > 60 then (some t354) else ((probe_New.f).bind fun t355 => (spigotlaw14_ProbeExact.l0 k l0 a1 t354 t355 ([] : List Int) ([] : List Int) 0))) else (none))) = some true := h
  clear h
  replace H := Option.bind_eq_some_iff.mp H
  obtain ⟨t354, A30, H⟩ := H
  replace H : (if t354 = true then (if (l0.length : Int) > 60 then (some t354) else ((probe_New.f).bind fun t355 => (spigotlaw14_ProbeExact.l0 k l0 a1 t354 t355 ([] : List Int) ([] : List Int) 0))) else (none)) = some true := H
  have A3 := Aside0.mk A30
  (try clear A30)
  by_cases c4 : t354 = true
  · subst c4
    have H1 : (if (l0.length : Int) > 60 then (some true) else ((probe_New.f).bind fun t355 => (spigotlaw14_ProbeExact.l0 k l0 a1 true t355 ([] : List Int) ([] : List Int) 0))) = some true := by rw [if_pos rfl] at H; exact H
    clear H
    have H := H1
    clear H1
    by_cases c5 : (l0.length : Int) > 60
    · rw [if_pos c5] at H
      have c5b0 : decide (60 < (l0.length : Int)) = true := decide_eq_true c5
      have c5b1 : decide (60 < l0.length) = true := decide_eq_true (by omega)
      clear c5
      clear H
      go_enter Try.func11, Try.ntmps11
      go_wp2_with (first | ((with_reducible refine gate_callee (f := 42) rfl ?_); refine goesE (some 22) rfl rfl Try.func42 (by kernel_rfl) rfl #[] rfl ?_; (with_reducible refine (spigotlaw14_alive.calls k   _ A3.out).mono ?_); rintro e w6 ⟨rfl, hb⟩; refine ⟨_, rfl, ?_⟩; have n0_ := Aside0.mk (below_step (pB HB.out) hb); clear HB; have HB := n0_; clear n0_; (try clear hb); (try clear hb2); (try clear hk); (try clear hi)))
      go_ret
      exact ⟨by first | rfl | (simp [errW_none, errW_some] <;> rfl) | (simp [*, errW_none, errW_some] <;> rfl), pB HB.out⟩
    · rw [if_neg c5] at H
      have c5b0 : decide (60 < (l0.length : Int)) = false := decide_eq_false c5
      have c5b1 : decide (60 < l0.length) = false := decide_eq_false (by omega)
      clear c5
      replace H := Option.bind_eq_some_iff.mp H
      obtain ⟨t355, A70, H⟩ := H
      replace H : (spigotlaw14_ProbeExact.l0 k l0 a1 true t355 ([] : List Int) ([] : List Int) 0) = some true := H
      have A7 := Aside0.mk A70
      (try clear A70)
      have H' := Aside0.mk H
      clear H
      go_enter Try.func11, Try.ntmps11
      go_wp2_with (first | ((with_reducible refine gate_callee (f := 42) rfl ?_); refine goesE (some 22) rfl rfl Try.func42 (by kernel_rfl) rfl #[] rfl ?_; (with_reducible refine (spigotlaw14_alive.calls k   _ A3.out).mono ?_); rintro e w8 ⟨rfl, hb⟩; refine ⟨_, rfl, ?_⟩; have n0_ := Aside0.mk (below_step (pB HB.out) hb); clear HB; have HB := n0_; clear n0_; (try clear hb); (try clear hb2); (try clear hk); (try clear hi)) | ((with_reducible refine gate_callee (f := 41) rfl ?_); refine goesE (some 31) rfl rfl Try.func41 (by kernel_rfl) rfl #[] rfl ?_; (with_reducible refine (probe_New.calls  t355 _ A7.out).mono ?_); rintro e w9 ⟨v356, rfl, ho0, hb⟩; refine ⟨_, rfl, ?_⟩; have n0_ := Aside0.mk (Kd.R_lower ho0 (below_size (pB HB.out))); have n1_ := Aside0.mk (below_step (pB HB.out) hb); clear HB; have HO357 := n0_; have HB := n1_; clear n0_ n1_; (try clear hb); (try clear hb2); (try clear hk); (try clear hi); (try clear ho0)))
      go_loopg [6, 7, 8, 9] k (fun kq v6 v7 v8 v9 w' => ∃ (x6_1 : List (S71)) (x7_1 : List Int) (x8_1 : List Int) (x9_1 : Int), v9 = .int .i64 x9_1 ∧ Aside0 (spigotlaw14_ProbeExact.l0 kq l0 a1 true x6_1 x7_1 x8_1 x9_1 = some true) ∧ Aside0 (kq ≤ k) ∧ Aside0 (Kd.R k71 71 w' w.heap.size (fun _ => True) v6 x6_1) ∧ Aside0 (Kd.R (Kd.int .u32) 23 w' w.heap.size (fun _ => True) v7 x7_1) ∧ Aside0 (Kd.R (Kd.int .i64) 3 w' w.heap.size (fun _ => True) v8 x8_1) ∧ Aside0 (Below w.heap.size w w'))
      case atStart => exact ⟨(t355), (([] : List Int)), (([] : List Int)), (0), (by first | rfl | (simp; done) | (simp [*]; done)), H', ⟨Nat.le_refl _⟩, ⟨Kd.pR HO357.out⟩, ⟨by first | exact Kd.R_nil _ _ _ _ _ | exact Kd.N_nil _ _ _ _ _ | exact Kd.V_nil _ _ _ _ _ | exact Kd.Q_nil _ _ _ _ _ | exact Kd.S_nil _ _ _ _ _⟩, ⟨by first | exact Kd.R_nil _ _ _ _ _ | exact Kd.N_nil _ _ _ _ _ | exact Kd.V_nil _ _ _ _ _ | exact Kd.Q_nil _ _ _ _ _ | exact Kd.S_nil _ _ _ _ _⟩, ⟨pB HB.out⟩⟩
      case round =>
        clear H'
        try clear c1
        try clear p2
        try clear c4
        try clear c5
        try clear c5b0
        try clear c5b1
        obtain ⟨x6_1, x7_1, x8_1, x9_1, rfl, HA, HK1, HO_6, HO_7, HO_8, HB⟩ := hrel
        cases gk with
        | zero => exact absurd HA.out (by simp [spigotlaw14_ProbeExact.l0])
        | succ k1 =>
          have H := HA.out
          clear HA
          simp only [spigotlaw14_ProbeExact.l0] at H
          by_cases c10 : x9_1 < (l0.length : Int)
          · rw [if_pos c10] at H
            have c10b0 : decide (x9_1 < (l0.length : Int)) = true := decide_eq_true c10
            clear c10
            have H' := Aside0.mk H
            clear H
            go_wp2
            go_loopg [10, 11] k1 (fun kq v10 v11 w' => ∃ (x10_2 : Int) (x11_2 : Int), v10 = .int .i64 x10_2 ∧ v11 = .int .i64 x11_2 ∧ Aside0 (spigotlaw14_ProbeExact.l1 kq l0 a1 true x6_1 x7_1 x8_1 x9_1 x10_2 x11_2 = some true) ∧ Aside0 (kq ≤ k1) ∧ Aside0 (Kd.R k71 71 w' w.heap.size (fun _ => True) u6 x6_1) ∧ Aside0 (Kd.R (Kd.int .u32) 23 w' w.heap.size (fun _ => True) u7 x7_1) ∧ Aside0 (Kd.R (Kd.int .i64) 3 w' w.heap.size (fun _ => True) u8 x8_1) ∧ Aside0 (Below w.heap.size w w'))
            case atStart => exact ⟨((-1)), (0), (by first | rfl | (simp; done) | (simp [*]; done)), (by first | rfl | (simp; done) | (simp [*]; done)), H', ⟨Nat.le_refl _⟩, ⟨Kd.pR HO_6.out⟩, ⟨Kd.pR HO_7.out⟩, ⟨Kd.pR HO_8.out⟩, ⟨pB HB.out⟩⟩
            case round =>
              clear H'
              try clear c1
              try clear p2
              try clear c4
              try clear c5
              try clear c5b0
              try clear c5b1
              try clear c10
              try clear c10b0
              try clear p2
              obtain ⟨x10_2, x11_2, rfl, rfl, HA, HK2, HO_6, HO_7, HO_8, HB⟩ := hrel
              cases gk with
              | zero => exact absurd HA.out (by simp [spigotlaw14_ProbeExact.l1])
              | succ k2 =>
                have H := HA.out
                clear HA
                simp only [spigotlaw14_ProbeExact.l1] at H
                by_cases c11 : x11_2 < (x7_1.length : Int)
                · rw [if_pos c11] at H
                  have c11b0 : decide (x11_2 < (x7_1.length : Int)) = true := decide_eq_true c11
                  clear c11
                  by_cases c12 : 0 ≤ x11_2
                  · rw [if_pos c12] at H
                    have c12b0 : decide (0 ≤ x11_2) = true := decide_eq_true c12
                    clear c12
                    by_cases c13 : 0 ≤ x9_1
                    · rw [if_pos c13] at H
                      have c13b0 : decide (0 ≤ x9_1) = true := decide_eq_true c13
                      clear c13
                      by_cases c14 : x9_1 < (l0.length : Int)
                      · rw [if_pos c14] at H
                        have c14b0 : decide (x9_1 < (l0.length : Int)) = true := decide_eq_true c14
                        clear c14
                        by_cases c15 : (rd x7_1 x11_2) = (rd l0 x9_1)
                        · rw [if_pos c15] at H
                          have c15b0 : ((rd x7_1 x11_2) == (rd l0 x9_1)) = true := beq_iff_eq.mpr c15
                          have c15b1 : ((rd x7_1 x11_2) != (rd l0 x9_1)) = false := bne_eq_false_iff_eq.mpr c15
                          clear c15
                          have H' := Aside0.mk H
                          clear H
                          obtain ⟨Ao16, co16, eo16⟩ := Kd.R_slice HO_7.out
                          subst eo16
                          try go_wp2
                          have n0_ := Aside0.mk (Kd.R_drew HO_6.out)
                          have n1_ := Aside0.mk (Kd.R_drew HO_7.out)
                          have n2_ := Aside0.mk (Kd.R_drew HO_8.out)
                          have n3_ := Aside0.mk (below_drew1 HB.out)
                          clear HO_6
                          clear HO_7
                          clear HO_8
                          clear HB
                          have HO_6 := n0_
                          have HO_7 := n1_
                          have HO_8 := n2_
                          have HB := n3_
                          clear n0_ n1_ n2_ n3_
                          have p358 : 0 ≤ (x11_2 : Int) := od
                          have q358 : x11_2 < (x7_1.length : Int) := od
                          obtain ⟨ad358, e358, hx358_0⟩ := Kd.at_int (Kd.R_reads' HO_7.out).2.2 x11_2 p358 q358
                          cases e358
                          replace p358 := eq_true p358
                          replace q358 := eq_true q358
                          have p359 : 0 ≤ (x9_1 : Int) := od
                          have q359 : x9_1 < (l0.length : Int) := od
                          obtain ⟨ad359, e359, hx359_0⟩ := Kd.at_int HR0.out x9_1 p359 q359
                          have hw359_0 := hx359_0
                          cases e359
                          replace hx359_0 := (HB.out.cell (World.block_lt_of_cell? w _ hx359_0)).trans hx359_0
                          replace p359 := eq_true p359
                          replace q359 := eq_true q359
                          refine start_ (n := 9) (S := fun w' => w'.cell? (ad358.add (x11_2).toNat) = some (.int .u32 (rd x7_1 x11_2)) ∧ w'.cell? (ad359.add (x9_1).toNat) = some (.int .u32 (rd l0 x9_1))) (ds := []) #[false, false, false, false, false, false, false, false, false] (by kernel_rfl) rfl rfl ⟨hx358_0, ((HB.out.cell (World.block_lt_of_cell? w _ hw359_0)).trans hw359_0)⟩ (fun hHeld => ?_); refine with_tabW spigotlaw14_ProbeExact.tab14 spigotlaw14_ProbeExact.bits14 (fun HT_ HW_ => ?_)
                          generalize wr.drew = w17 at HO_6 HO_7 HO_8 HB hx358_0 hx359_0 hHeld ⊢
                          refine pure_ (i := 0) (N := some 44) (v := ?_) (a' := ?_) #[true, false, false, false, false, false, false, false, false] rfl rfl (any_of HT_.out (by kernel_rfl)) (fun _ _ _ h => h) (Or.inl ⟨by rfl, ?_⟩) ?_ ?_
                          rotate_left
                          · intro w'
                            go_simp
                            with_reducible rfl
                          rotate_left
                          · simp only [Act.put, List.setIfInBounds_toArray, List.set_cons_zero, List.set_cons_succ, i64_w, i32_w]
                            rfl
                          refine pure_ (i := 1) (N := some 45) (v := ?_) (a' := ?_) #[true, true, false, false, false, false, false, false, false] rfl rfl (any_of HT_.out (by kernel_rfl)) (fun _ _ _ h => h) (Or.inl ⟨by rfl, ?_⟩) ?_ ?_
                          rotate_left
                          · intro w'
                            go_simp
                            with_reducible rfl
                          rotate_left
                          · simp only [Act.put, List.setIfInBounds_toArray, List.set_cons_zero, List.set_cons_succ, i64_w, i32_w]
                            rfl
                          refine pure_ (i := 2) (N := some 46) (v := ?_) (a' := ?_) #[true, true, true, false, false, false, false, false, false] rfl rfl (any_of HT_.out (by kernel_rfl)) (fun _ _ _ h => h) (Or.inl ⟨by rfl, ?_⟩) ?_ ?_
                          rotate_left
                          · intro w'
                            go_simp
                            with_reducible rfl
                          rotate_left
                          · simp only [Act.put, List.setIfInBounds_toArray, List.set_cons_zero, List.set_cons_succ, i64_w, i32_w]
                            rfl
                          refine pure_ (i := 4) (N := some 48) (v := ?_) (a' := ?_) #[true, true, true, false, true, false, false, false, false] rfl rfl (any_of HT_.out (by kernel_rfl)) (fun _ _ _ h => h) (Or.inl ⟨by rfl, ?_⟩) ?_ ?_
                          rotate_left
                          · intro w'
                            go_simp
                            with_reducible rfl
                          rotate_left
                          · simp only [Act.put, List.setIfInBounds_toArray, List.set_cons_zero, List.set_cons_succ, i64_w, i32_w]
                            rfl
                          refine pure_ (i := 5) (N := some 49) (v := ?_) (a' := ?_) #[true, true, true, false, true, true, false, false, false] rfl rfl (any_of HT_.out (by kernel_rfl)) (fun _ _ _ h => h) (Or.inl ⟨by rfl, ?_⟩) ?_ ?_
                          rotate_left
                          · intro w'
                            go_simp
                            with_reducible rfl
                          rotate_left
                          · simp only [Act.put, List.setIfInBounds_toArray, List.set_cons_zero, List.set_cons_succ, i64_w, i32_w]
                            rfl
                          refine pure_ (i := 6) (N := some 50) (v := ?_) (a' := ?_) #[true, true, true, false, true, true, true, false, false] rfl rfl (any_of HT_.out (by kernel_rfl)) (fun _ _ _ h => h) (Or.inl ⟨by rfl, ?_⟩) ?_ ?_
                          rotate_left
                          · intro w'
                            go_simp
                            with_reducible rfl
                          rotate_left
                          · simp only [Act.put, List.setIfInBounds_toArray, List.set_cons_zero, List.set_cons_succ, i64_w, i32_w]
                            rfl
                          refine take_ (i := 3) (N := some 47) (v := ?_) (a' := ?_) #[true, true, true, true, true, true, true, false, false] rfl rfl (take_ofW HT_.out HW_.out (by kernel_rfl)) (fun _ _ _ h => h) (Or.inl ⟨by rfl, ?_⟩) hHeld ?_ ?_
                          rotate_left
                          · rintro w' ⟨s0, s1⟩
                            go_simp
                            with_reducible rfl
                          rotate_left
                          · simp only [Act.put, List.setIfInBounds_toArray, List.set_cons_zero, List.set_cons_succ, i64_w, i32_w]
                            rfl
                          refine take_ (i := 7) (N := some 51) (v := ?_) (a' := ?_) #[true, true, true, true, true, true, true, true, false] rfl rfl (take_ofW HT_.out HW_.out (by kernel_rfl)) (fun _ _ _ h => h) (Or.inl ⟨by rfl, ?_⟩) hHeld ?_ ?_
                          rotate_left
                          · rintro w' ⟨s0, s1⟩
                            go_simp
                            with_reducible rfl
                          rotate_left
                          · simp only [Act.put, List.setIfInBounds_toArray, List.set_cons_zero, List.set_cons_succ, i64_w, i32_w]
                            rfl
                          refine pure_ (i := 8) (N := some 52) (v := ?_) (a' := ?_) #[true, true, true, true, true, true, true, true, true] rfl rfl (any_of HT_.out (by kernel_rfl)) (fun _ _ _ h => h) (Or.inl ⟨by rfl, ?_⟩) ?_ ?_
                          rotate_left
                          · intro w'
                            go_simp
                            with_reducible rfl
                          rotate_left
                          · simp only [Act.put, List.setIfInBounds_toArray, List.set_cons_zero, List.set_cons_succ, i64_w, i32_w]
                            rfl
                          refine done_ (done_of HT_.out (by kernel_rfl)) ?_
                          try go_wp2
                          go_roundg k2
                          case measure => have := HK1.out; have := HK2.out; omega
                          case rel => exact ⟨(x11_2), (wrap64 (x11_2 + 1)), (by first | rfl | (simp; done) | (simp [*]; done)), (by first | rfl | (simp; done) | (simp [*]; done)), H', ⟨by have := HK1.out; have := HK2.out; omega⟩, ⟨Kd.pR HO_6.out⟩, ⟨Kd.pR HO_7.out⟩, ⟨Kd.pR HO_8.out⟩, ⟨pB HB.out⟩⟩
                        · rw [if_neg c15] at H
                          have c15b0 : ((rd x7_1 x11_2) == (rd l0 x9_1)) = false := beq_eq_false_iff_ne.mpr c15
                          have c15b1 : ((rd x7_1 x11_2) != (rd l0 x9_1)) = true := bne_iff_ne.mpr c15
                          have H' := Aside0.mk H
                          clear H
                          obtain ⟨Ao18, co18, eo18⟩ := Kd.R_slice HO_7.out
                          subst eo18
                          try go_wp2
                          have n0_ := Aside0.mk (Kd.R_drew HO_6.out)
                          have n1_ := Aside0.mk (Kd.R_drew HO_7.out)
                          have n2_ := Aside0.mk (Kd.R_drew HO_8.out)
                          have n3_ := Aside0.mk (below_drew1 HB.out)
                          clear HO_6
                          clear HO_7
                          clear HO_8
                          clear HB
                          have HO_6 := n0_
                          have HO_7 := n1_
                          have HO_8 := n2_
                          have HB := n3_
                          clear n0_ n1_ n2_ n3_
                          have p358 : 0 ≤ (x11_2 : Int) := od
                          have q358 : x11_2 < (x7_1.length : Int) := od
                          obtain ⟨ad358, e358, hx358_0⟩ := Kd.at_int (Kd.R_reads' HO_7.out).2.2 x11_2 p358 q358
                          cases e358
                          replace p358 := eq_true p358
                          replace q358 := eq_true q358
                          have p359 : 0 ≤ (x9_1 : Int) := od
                          have q359 : x9_1 < (l0.length : Int) := od
                          obtain ⟨ad359, e359, hx359_0⟩ := Kd.at_int HR0.out x9_1 p359 q359
                          have hw359_0 := hx359_0
                          cases e359
                          replace hx359_0 := (HB.out.cell (World.block_lt_of_cell? w _ hx359_0)).trans hx359_0
                          replace p359 := eq_true p359
                          replace q359 := eq_true q359
                          refine start_ (n := 9) (S := fun w' => w'.cell? (ad358.add (x11_2).toNat) = some (.int .u32 (rd x7_1 x11_2)) ∧ w'.cell? (ad359.add (x9_1).toNat) = some (.int .u32 (rd l0 x9_1))) (ds := []) #[false, false, false, false, false, false, false, false, false] (by kernel_rfl) rfl rfl ⟨hx358_0, ((HB.out.cell (World.block_lt_of_cell? w _ hw359_0)).trans hw359_0)⟩ (fun hHeld => ?_); refine with_tabW spigotlaw14_ProbeExact.tab14 spigotlaw14_ProbeExact.bits14 (fun HT_ HW_ => ?_)
                          generalize wr.drew = w19 at HO_6 HO_7 HO_8 HB hx358_0 hx359_0 hHeld ⊢
                          refine pure_ (i := 0) (N := some 44) (v := ?_) (a' := ?_) #[true, false, false, false, false, false, false, false, false] rfl rfl (any_of HT_.out (by kernel_rfl)) (fun _ _ _ h => h) (Or.inl ⟨by rfl, ?_⟩) ?_ ?_
                          rotate_left
                          · intro w'
                            go_simp
                            with_reducible rfl
                          rotate_left
                          · simp only [Act.put, List.setIfInBounds_toArray, List.set_cons_zero, List.set_cons_succ, i64_w, i32_w]
                            rfl
                          refine pure_ (i := 1) (N := some 45) (v := ?_) (a' := ?_) #[true, true, false, false, false, false, false, false, false] rfl rfl (any_of HT_.out (by kernel_rfl)) (fun _ _ _ h => h) (Or.inl ⟨by rfl, ?_⟩) ?_ ?_
                          rotate_left
                          · intro w'
                            go_simp
                            with_reducible rfl
                          rotate_left
                          · simp only [Act.put, List.setIfInBounds_toArray, List.set_cons_zero, List.set_cons_succ, i64_w, i32_w]
                            rfl
                          refine pure_ (i := 2) (N := some 46) (v := ?_) (a' := ?_) #[true, true, true, false, false, false, false, false, false] rfl rfl (any_of HT_.out (by kernel_rfl)) (fun _ _ _ h => h) (Or.inl ⟨by rfl, ?_⟩) ?_ ?_
                          rotate_left
                          · intro w'
                            go_simp
                            with_reducible rfl
                          rotate_left
                          · simp only [Act.put, List.setIfInBounds_toArray, List.set_cons_zero, List.set_cons_succ, i64_w, i32_w]
                            rfl
                          refine pure_ (i := 4) (N := some 48) (v := ?_) (a' := ?_) #[true, true, true, false, true, false, false, false, false] rfl rfl (any_of HT_.out (by kernel_rfl)) (fun _ _ _ h => h) (Or.inl ⟨by rfl, ?_⟩) ?_ ?_
                          rotate_left
                          · intro w'
                            go_simp
                            with_reducible rfl
                          rotate_left
                          · simp only [Act.put, List.setIfInBounds_toArray, List.set_cons_zero, List.set_cons_succ, i64_w, i32_w]
                            rfl
                          refine pure_ (i := 5) (N := some 49) (v := ?_) (a' := ?_) #[true, true, true, false, true, true, false, false, false] rfl rfl (any_of HT_.out (by kernel_rfl)) (fun _ _ _ h => h) (Or.inl ⟨by rfl, ?_⟩) ?_ ?_
                          rotate_left
                          · intro w'
                            go_simp
                            with_reducible rfl
                          rotate_left
                          · simp only [Act.put, List.setIfInBounds_toArray, List.set_cons_zero, List.set_cons_succ, i64_w, i32_w]
                            rfl
                          refine pure_ (i := 6) (N := some 50) (v := ?_) (a' := ?_) #[true, true, true, false, true, true, true, false, false] rfl rfl (any_of HT_.out (by kernel_rfl)) (fun _ _ _ h => h) (Or.inl ⟨by rfl, ?_⟩) ?_ ?_
                          rotate_left
                          · intro w'
                            go_simp
                            with_reducible rfl
                          rotate_left
                          · simp only [Act.put, List.setIfInBounds_toArray, List.set_cons_zero, List.set_cons_succ, i64_w, i32_w]
                            rfl
                          refine take_ (i := 3) (N := some 47) (v := ?_) (a' := ?_) #[true, true, true, true, true, true, true, false, false] rfl rfl (take_ofW HT_.out HW_.out (by kernel_rfl)) (fun _ _ _ h => h) (Or.inl ⟨by rfl, ?_⟩) hHeld ?_ ?_
                          rotate_left
                          · rintro w' ⟨s0, s1⟩
                            go_simp
                            with_reducible rfl
                          rotate_left
                          · simp only [Act.put, List.setIfInBounds_toArray, List.set_cons_zero, List.set_cons_succ, i64_w, i32_w]
                            rfl
                          refine take_ (i := 7) (N := some 51) (v := ?_) (a' := ?_) #[true, true, true, true, true, true, true, true, false] rfl rfl (take_ofW HT_.out HW_.out (by kernel_rfl)) (fun _ _ _ h => h) (Or.inl ⟨by rfl, ?_⟩) hHeld ?_ ?_
                          rotate_left
                          · rintro w' ⟨s0, s1⟩
                            go_simp
                            with_reducible rfl
                          rotate_left
                          · simp only [Act.put, List.setIfInBounds_toArray, List.set_cons_zero, List.set_cons_succ, i64_w, i32_w]
                            rfl
                          refine pure_ (i := 8) (N := some 52) (v := ?_) (a' := ?_) #[true, true, true, true, true, true, true, true, true] rfl rfl (any_of HT_.out (by kernel_rfl)) (fun _ _ _ h => h) (Or.inl ⟨by rfl, ?_⟩) ?_ ?_
                          rotate_left
                          · intro w'
                            go_simp
                            with_reducible rfl
                          rotate_left
                          · simp only [Act.put, List.setIfInBounds_toArray, List.set_cons_zero, List.set_cons_succ, i64_w, i32_w]
                            rfl
                          refine done_ (done_of HT_.out (by kernel_rfl)) ?_
                          try go_wp2
                          go_roundg k2
                          case measure => have := HK1.out; have := HK2.out; omega
                          case rel => exact ⟨(x10_2), (wrap64 (x11_2 + 1)), (by first | rfl | (simp; done) | (simp [*]; done)), (by first | rfl | (simp; done) | (simp [*]; done)), H', ⟨by have := HK1.out; have := HK2.out; omega⟩, ⟨Kd.pR HO_6.out⟩, ⟨Kd.pR HO_7.out⟩, ⟨Kd.pR HO_8.out⟩, ⟨pB HB.out⟩⟩
                      · rw [if_neg c14] at H
                        exact absurd H (by simp)
                    · rw [if_neg c13] at H
                      exact absurd H (by simp)
                  · rw [if_neg c12] at H
                    exact absurd H (by simp)
                · rw [if_neg c11] at H
                  have c11b0 : decide (x11_2 < (x7_1.length : Int)) = false := decide_eq_false c11
                  (try clear c11)
                  by_cases c20 : x10_2 ≥ 0
                  · rw [if_pos c20] at H
                    have c20b0 : decide (0 ≤ x10_2) = true := decide_eq_true c20
                    clear c20
                    by_cases c21 : 0 ≤ x9_1
                    · rw [if_pos c21] at H
                      have c21b0 : decide (0 ≤ x9_1) = true := decide_eq_true c21
                      clear c21
                      by_cases c22 : x9_1 < (l0.length : Int)
                      · rw [if_pos c22] at H
                        have c22b0 : decide (x9_1 < (l0.length : Int)) = true := decide_eq_true c22
                        clear c22
                        replace H := Option.bind_eq_some_iff.mp H
                        obtain ⟨⟨t361, t362⟩, A230, H⟩ := H
                        replace H : (if t362 = 0 then ((some (([] : List Int) : List Int)).bind fun y365 => (if 0 ≤ x10_2 then (if x10_2 ≤ (x7_1.length : Int) then ((some (x7_1.take (x10_2 : Int).toNat : List Int)).bind fun y368 => (if y365.length + y368.length < 35184372088832 then ((some (y365 ++ y368 : List Int)).bind fun y372 => (if 0 ≤ (wrap64 (x10_2 + 1)) then (if (wrap64 (x10_2 + 1)) ≤ (x7_1.length : Int) then ((some (x7_1.drop ((wrap64 (x10_2 + 1)) : Int).toNat : List Int)).bind fun y375 => (if y372.length + y375.length < 35184372088832 then ((some (y372 ++ y375 : List Int)).bind fun y379 => ((some (([] : List Int) : List Int)).bind fun y382 => (if x10_2 ≤ (x8_1.length : Int) then ((some (x8_1.take (x10_2 : Int).toNat : List Int)).bind fun y385 => (if y382.length + y385.length < 17592186044416 then ((some (y382 ++ y385 : List Int)).bind fun y389 => (if (wrap64 (x10_2 + 1)) ≤ (x8_1.length : Int) then ((some (x8_1.drop ((wrap64 (x10_2 + 1)) : Int).toNat : List Int)).bind fun y392 => (if y389.length + y392.length < 17592186044416 then ((spigotref14_Check.f k2 t361).bind fun t399 => (if t399 = 0 then ((spigotref14_Count.f k2 t361).bind fun t400 => (if t400 = (y379.length : Int) then (spigotlaw14_ProbeExact.l0 k2 l0 a1 true t361 y379 (y389 ++ y392) (wrap64 (x9_1 + 1))) else (some false))) else (some false))) else (none))) else (none))) else (none))) else (none)))) else (none))) else (none)) else (none))) else (none))) else (none)) else (none))) else (some false)) = some true := H
                        have A23 := Aside0.mk A230
                        (try clear A230)
                        by_cases c24 : t362 = 0
                        · rw [if_pos c24] at H
                          have c24b0 : (t362 == 0) = true := beq_iff_eq.mpr c24
                          have c24b1 : (t362 != 0) = false := bne_eq_false_iff_eq.mpr c24
                          clear c24
                          obtain ⟨y365, hy365⟩ : ∃ y_ : List Int, y_ = (([] : List Int)) := ⟨_, rfl⟩
                          replace H : (if 0 ≤ x10_2 then (if x10_2 ≤ (x7_1.length : Int) then ((some (x7_1.take (x10_2 : Int).toNat : List Int)).bind fun y368 => (if y365.length + y368.length < 35184372088832 then ((some (y365 ++ y368 : List Int)).bind fun y372 => (if 0 ≤ (wrap64 (x10_2 + 1)) then (if (wrap64 (x10_2 + 1)) ≤ (x7_1.length : Int) then ((some (x7_1.drop ((wrap64 (x10_2 + 1)) : Int).toNat : List Int)).bind fun y375 => (if y372.length + y375.length < 35184372088832 then ((some (y372 ++ y375 : List Int)).bind fun y379 => ((some (([] : List Int) : List Int)).bind fun y382 => (if x10_2 ≤ (x8_1.length : Int) then ((some (x8_1.take (x10_2 : Int).toNat : List Int)).bind fun y385 => (if y382.length + y385.length < 17592186044416 then ((some (y382 ++ y385 : List Int)).bind fun y389 => (if (wrap64 (x10_2 + 1)) ≤ (x8_1.length : Int) then ((some (x8_1.drop ((wrap64 (x10_2 + 1)) : Int).toNat : List Int)).bind fun y392 => (if y389.length + y392.length < 17592186044416 then ((spigotref14_Check.f k2 t361).bind fun t399 => (if t399 = 0 then ((spigotref14_Count.f k2 t361).bind fun t400 => (if t400 = (y379.length : Int) then (spigotlaw14_ProbeExact.l0 k2 l0 a1 true t361 y379 (y389 ++ y392) (wrap64 (x9_1 + 1))) else (some false))) else (some false))) else (none))) else (none))) else (none))) else (none)))) else (none))) else (none)) else (none))) else (none))) else (none)) else (none)) = some true := by first | (rw [hy365]; with_reducible exact H) | (have H2_ := (Option.bind_some _ _).symm.trans H; rw [hy365]; with_reducible exact H2_) | (have H2_ := (Option.bind_some _ _).symm.trans H; with_reducible exact H2_) | with_reducible exact H | (rw [hy365]; exact H) | exact H
                          have Ny365 := Aside0.mk hy365
                          (try clear hy365)
                          by_cases c25 : 0 ≤ x10_2
                          · rw [if_pos c25] at H
                            have c25b0 := eq_true c25
                            have c25b1 : decide (0 ≤ x10_2) = true := decide_eq_true c25
                            clear c25
                            by_cases c26 : x10_2 ≤ (x7_1.length : Int)
                            · rw [if_pos c26] at H
                              have c26b0 := eq_true c26
                              have c26b1 : decide (x10_2 ≤ (x7_1.length : Int)) = true := decide_eq_true c26
                              clear c26
                              obtain ⟨y368, hy368⟩ : ∃ y_ : List Int, y_ = (x7_1.take (x10_2 : Int).toNat) := ⟨_, rfl⟩
                              replace H : (if y365.length + y368.length < 35184372088832 then ((some (y365 ++ y368 : List Int)).bind fun y372 => (if 0 ≤ (wrap64 (x10_2 + 1)) then (if (wrap64 (x10_2 + 1)) ≤ (x7_1.length : Int) then ((some (x7_1.drop ((wrap64 (x10_2 + 1)) : Int).toNat : List Int)).bind fun y375 => (if y372.length + y375.length < 35184372088832 then ((some (y372 ++ y375 : List Int)).bind fun y379 => ((some (([] : List Int) : List Int)).bind fun y382 => (if x10_2 ≤ (x8_1.length : Int) then ((some (x8_1.take (x10_2 : Int).toNat : List Int)).bind fun y385 => (if y382.length + y385.length < 17592186044416 then ((some (y382 ++ y385 : List Int)).bind fun y389 => (if (wrap64 (x10_2 + 1)) ≤ (x8_1.length : Int) then ((some (x8_1.drop ((wrap64 (x10_2 + 1)) : Int).toNat : List Int)).bind fun y392 => (if y389.length + y392.length < 17592186044416 then ((spigotref14_Check.f k2 t361).bind fun t399 => (if t399 = 0 then ((spigotref14_Count.f k2 t361).bind fun t400 => (if t400 = (y379.length : Int) then (spigotlaw14_ProbeExact.l0 k2 l0 a1 true t361 y379 (y389 ++ y392) (wrap64 (x9_1 + 1))) else (some false))) else (some false))) else (none))) else (none))) else (none))) else (none)))) else (none))) else (none)) else (none))) else (none)) = some true := by first | (rw [hy368]; with_reducible exact H) | (have H2_ := (Option.bind_some _ _).symm.trans H; rw [hy368]; with_reducible exact H2_) | (have H2_ := (Option.bind_some _ _).symm.trans H; with_reducible exact H2_) | with_reducible exact H | (rw [hy368]; exact H) | exact H
                              have Ny368 := Aside0.mk hy368
                              (try clear hy368)
                              by_cases c27 : y365.length + y368.length < 35184372088832
                              · rw [if_pos c27] at H
                                have LMc27 := Aside0.mk c27
                                clear c27
                                obtain ⟨y372, hy372⟩ : ∃ y_ : List Int, y_ = (y365 ++ y368) := ⟨_, rfl⟩
                                replace H : (if 0 ≤ (wrap64 (x10_2 + 1)) then (if (wrap64 (x10_2 + 1)) ≤ (x7_1.length : Int) then ((some (x7_1.drop ((wrap64 (x10_2 + 1)) : Int).toNat : List Int)).bind fun y375 => (if y372.length + y375.length < 35184372088832 then ((some (y372 ++ y375 : List Int)).bind fun y379 => ((some (([] : List Int) : List Int)).bind fun y382 => (if x10_2 ≤ (x8_1.length : Int) then ((some (x8_1.take (x10_2 : Int).toNat : List Int)).bind fun y385 => (if y382.length + y385.length < 17592186044416 then ((some (y382 ++ y385 : List Int)).bind fun y389 => (if (wrap64 (x10_2 + 1)) ≤ (x8_1.length : Int) then ((some (x8_1.drop ((wrap64 (x10_2 + 1)) : Int).toNat : List Int)).bind fun y392 => (if y389.length + y392.length < 17592186044416 then ((spigotref14_Check.f k2 t361).bind fun t399 => (if t399 = 0 then ((spigotref14_Count.f k2 t361).bind fun t400 => (if t400 = (y379.length : Int) then (spigotlaw14_ProbeExact.l0 k2 l0 a1 true t361 y379 (y389 ++ y392) (wrap64 (x9_1 + 1))) else (some false))) else (some false))) else (none))) else (none))) else (none))) else (none)))) else (none))) else (none)) else (none)) = some true := by first | (rw [hy372]; with_reducible exact H) | (have H2_ := (Option.bind_some _ _).symm.trans H; rw [hy372]; with_reducible exact H2_) | (have H2_ := (Option.bind_some _ _).symm.trans H; with_reducible exact H2_) | with_reducible exact H | (rw [hy372]; exact H) | exact H
                                have Ny372 := Aside0.mk hy372
                                (try clear hy372)
                                obtain ⟨ji28, hji28⟩ : ∃ j_ : Int, (wrap64 (x10_2 + 1)) = j_ := ⟨_, rfl⟩
                                replace H : (if 0 ≤ (ji28) then (if (ji28) ≤ (x7_1.length : Int) then ((some (x7_1.drop ((ji28) : Int).toNat : List Int)).bind fun y375 => (if y372.length + y375.length < 35184372088832 then ((some (y372 ++ y375 : List Int)).bind fun y379 => ((some (([] : List Int) : List Int)).bind fun y382 => (if x10_2 ≤ (x8_1.length : Int) then ((some (x8_1.take (x10_2 : Int).toNat : List Int)).bind fun y385 => (if y382.length + y385.length < 17592186044416 then ((some (y382 ++ y385 : List Int)).bind fun y389 => (if (ji28) ≤ (x8_1.length : Int) then ((some (x8_1.drop ((ji28) : Int).toNat : List Int)).bind fun y392 => (if y389.length + y392.length < 17592186044416 then ((spigotref14_Check.f k2 t361).bind fun t399 => (if t399 = 0 then ((spigotref14_Count.f k2 t361).bind fun t400 => (if t400 = (y379.length : Int) then (spigotlaw14_ProbeExact.l0 k2 l0 a1 true t361 y379 (y389 ++ y392) (wrap64 (x9_1 + 1))) else (some false))) else (some false))) else (none))) else (none))) else (none))) else (none)))) else (none))) else (none)) else (none)) = some true := by first | (rw [hji28] at H; exact H) | (simp only [hji28] at H ⊢; exact H)
                                (try rw [hji28] at A23)
                                have hji28w : (IntKind.i64.wrap (x10_2 + 1)) = ji28 := (i64_w _).trans hji28
                                by_cases c29 : 0 ≤ (ji28)
                                · rw [if_pos c29] at H
                                  have c29b0 := eq_true c29
                                  have c29b1 : decide (0 ≤ (ji28)) = true := decide_eq_true c29
                                  clear c29
                                  by_cases c30 : (ji28) ≤ (x7_1.length : Int)
                                  · rw [if_pos c30] at H
                                    have c30b0 := eq_true c30
                                    have c30b1 : decide ((ji28) ≤ (x7_1.length : Int)) = true := decide_eq_true c30
                                    clear c30
                                    obtain ⟨y375, hy375⟩ : ∃ y_ : List Int, y_ = (x7_1.drop ((ji28) : Int).toNat) := ⟨_, rfl⟩
                                    replace H : (if y372.length + y375.length < 35184372088832 then ((some (y372 ++ y375 : List Int)).bind fun y379 => ((some (([] : List Int) : List Int)).bind fun y382 => (if x10_2 ≤ (x8_1.length : Int) then ((some (x8_1.take (x10_2 : Int).toNat : List Int)).bind fun y385 => (if y382.length + y385.length < 17592186044416 then ((some (y382 ++ y385 : List Int)).bind fun y389 => (if (ji28) ≤ (x8_1.length : Int) then ((some (x8_1.drop ((ji28) : Int).toNat : List Int)).bind fun y392 => (if y389.length + y392.length < 17592186044416 then ((spigotref14_Check.f k2 t361).bind fun t399 => (if t399 = 0 then ((spigotref14_Count.f k2 t361).bind fun t400 => (if t400 = (y379.length : Int) then (spigotlaw14_ProbeExact.l0 k2 l0 a1 true t361 y379 (y389 ++ y392) (wrap64 (x9_1 + 1))) else (some false))) else (some false))) else (none))) else (none))) else (none))) else (none)))) else (none)) = some true := by first | (rw [hy375]; with_reducible exact H) | (have H2_ := (Option.bind_some _ _).symm.trans H; rw [hy375]; with_reducible exact H2_) | (have H2_ := (Option.bind_some _ _).symm.trans H; with_reducible exact H2_) | with_reducible exact H | (rw [hy375]; exact H) | exact H
                                    have Ny375 := Aside0.mk hy375
                                    (try clear hy375)
                                    by_cases c31 : y372.length + y375.length < 35184372088832
                                    · rw [if_pos c31] at H
                                      have LMc31 := Aside0.mk c31
                                      clear c31
                                      obtain ⟨y379, hy379⟩ : ∃ y_ : List Int, y_ = (y372 ++ y375) := ⟨_, rfl⟩
                                      replace H : ((some (([] : List Int) : List Int)).bind fun y382 => (if x10_2 ≤ (x8_1.length : Int) then ((some (x8_1.take (x10_2 : Int).toNat : List Int)).bind fun y385 => (if y382.length + y385.length < 17592186044416 then ((some (y382 ++ y385 : List Int)).bind fun y389 => (if (ji28) ≤ (x8_1.length : Int) then ((some (x8_1.drop ((ji28) : Int).toNat : List Int)).bind fun y392 => (if y389.length + y392.length < 17592186044416 then ((spigotref14_Check.f k2 t361).bind fun t399 => (if t399 = 0 then ((spigotref14_Count.f k2 t361).bind fun t400 => (if t400 = (y379.length : Int) then (spigotlaw14_ProbeExact.l0 k2 l0 a1 true t361 y379 (y389 ++ y392) (wrap64 (x9_1 + 1))) else (some false))) else (some false))) else (none))) else (none))) else (none))) else (none))) = some true := by first | (rw [hy379]; with_reducible exact H) | (have H2_ := (Option.bind_some _ _).symm.trans H; rw [hy379]; with_reducible exact H2_) | (have H2_ := (Option.bind_some _ _).symm.trans H; with_reducible exact H2_) | with_reducible exact H | (rw [hy379]; exact H) | exact H
                                      have Ny379 := Aside0.mk hy379
                                      (try clear hy379)
                                      obtain ⟨y382, hy382⟩ : ∃ y_ : List Int, y_ = (([] : List Int)) := ⟨_, rfl⟩
                                      replace H : (if x10_2 ≤ (x8_1.length : Int) then ((some (x8_1.take (x10_2 : Int).toNat : List Int)).bind fun y385 => (if y382.length + y385.length < 17592186044416 then ((some (y382 ++ y385 : List Int)).bind fun y389 => (if (ji28) ≤ (x8_1.length : Int) then ((some (x8_1.drop ((ji28) : Int).toNat : List Int)).bind fun y392 => (if y389.length + y392.length < 17592186044416 then ((spigotref14_Check.f k2 t361).bind fun t399 => (if t399 = 0 then ((spigotref14_Count.f k2 t361).bind fun t400 => (if t400 = (y379.length : Int) then (spigotlaw14_ProbeExact.l0 k2 l0 a1 true t361 y379 (y389 ++ y392) (wrap64 (x9_1 + 1))) else (some false))) else (some false))) else (none))) else (none))) else (none))) else (none)) = some true := by first | (rw [hy382]; with_reducible exact H) | (have H2_ := (Option.bind_some _ _).symm.trans H; rw [hy382]; with_reducible exact H2_) | (have H2_ := (Option.bind_some _ _).symm.trans H; with_reducible exact H2_) | with_reducible exact H | (rw [hy382]; exact H) | exact H
                                      have Ny382 := Aside0.mk hy382
                                      (try clear hy382)
                                      have c32b0 := eq_true (od : 0 ≤ x10_2)
                                      by_cases c33 : x10_2 ≤ (x8_1.length : Int)
                                      · rw [if_pos c33] at H
                                        have c33b0 := eq_true c33
                                        have c33b1 : decide (x10_2 ≤ (x8_1.length : Int)) = true := decide_eq_true c33
                                        clear c33
                                        obtain ⟨y385, hy385⟩ : ∃ y_ : List Int, y_ = (x8_1.take (x10_2 : Int).toNat) := ⟨_, rfl⟩
                                        replace H : (if y382.length + y385.length < 17592186044416 then ((some (y382 ++ y385 : List Int)).bind fun y389 => (if (ji28) ≤ (x8_1.length : Int) then ((some (x8_1.drop ((ji28) : Int).toNat : List Int)).bind fun y392 => (if y389.length + y392.length < 17592186044416 then ((spigotref14_Check.f k2 t361).bind fun t399 => (if t399 = 0 then ((spigotref14_Count.f k2 t361).bind fun t400 => (if t400 = (y379.length : Int) then (spigotlaw14_ProbeExact.l0 k2 l0 a1 true t361 y379 (y389 ++ y392) (wrap64 (x9_1 + 1))) else (some false))) else (some false))) else (none))) else (none))) else (none)) = some true := by first | (rw [hy385]; with_reducible exact H) | (have H2_ := (Option.bind_some _ _).symm.trans H; rw [hy385]; with_reducible exact H2_) | (have H2_ := (Option.bind_some _ _).symm.trans H; with_reducible exact H2_) | with_reducible exact H | (rw [hy385]; exact H) | exact H
                                        have Ny385 := Aside0.mk hy385
                                        (try clear hy385)
                                        by_cases c34 : y382.length + y385.length < 17592186044416
                                        · rw [if_pos c34] at H
                                          have LMc34 := Aside0.mk c34
                                          clear c34
                                          obtain ⟨y389, hy389⟩ : ∃ y_ : List Int, y_ = (y382 ++ y385) := ⟨_, rfl⟩
                                          replace H : (if (ji28) ≤ (x8_1.length : Int) then ((some (x8_1.drop ((ji28) : Int).toNat : List Int)).bind fun y392 => (if y389.length + y392.length < 17592186044416 then ((spigotref14_Check.f k2 t361).bind fun t399 => (if t399 = 0 then ((spigotref14_Count.f k2 t361).bind fun t400 => (if t400 = (y379.length : Int) then (spigotlaw14_ProbeExact.l0 k2 l0 a1 true t361 y379 (y389 ++ y392) (wrap64 (x9_1 + 1))) else (some false))) else (some false))) else (none))) else (none)) = some true := by first | (rw [hy389]; with_reducible exact H) | (have H2_ := (Option.bind_some _ _).symm.trans H; rw [hy389]; with_reducible exact H2_) | (have H2_ := (Option.bind_some _ _).symm.trans H; with_reducible exact H2_) | with_reducible exact H | (rw [hy389]; exact H) | exact H
                                          have Ny389 := Aside0.mk hy389
                                          (try clear hy389)
                                          have c35b0 := eq_true (od : 0 ≤ (ji28))
                                          by_cases c36 : (ji28) ≤ (x8_1.length : Int)
                                          · rw [if_pos c36] at H
                                            have c36b0 := eq_true c36
                                            have c36b1 : decide ((ji28) ≤ (x8_1.length : Int)) = true := decide_eq_true c36
                                            clear c36
                                            obtain ⟨y392, hy392⟩ : ∃ y_ : List Int, y_ = (x8_1.drop ((ji28) : Int).toNat) := ⟨_, rfl⟩
                                            replace H : (if y389.length + y392.length < 17592186044416 then ((spigotref14_Check.f k2 t361).bind fun t399 => (if t399 = 0 then ((spigotref14_Count.f k2 t361).bind fun t400 => (if t400 = (y379.length : Int) then (spigotlaw14_ProbeExact.l0 k2 l0 a1 true t361 y379 (y389 ++ y392) (wrap64 (x9_1 + 1))) else (some false))) else (some false))) else (none)) = some true := by first | (rw [hy392]; with_reducible exact H) | (have H2_ := (Option.bind_some _ _).symm.trans H; rw [hy392]; with_reducible exact H2_) | (have H2_ := (Option.bind_some _ _).symm.trans H; with_reducible exact H2_) | with_reducible exact H | (rw [hy392]; exact H) | exact H
                                            have Ny392 := Aside0.mk hy392
                                            (try clear hy392)
                                            by_cases c37 : y389.length + y392.length < 17592186044416
                                            · rw [if_pos c37] at H
                                              have LMc37 := Aside0.mk c37
                                              clear c37
                                              obtain ⟨y396, hy396⟩ : ∃ y_ : List Int, y_ = (y389 ++ y392) := ⟨_, rfl⟩
                                              replace H : ((spigotref14_Check.f k2 t361).bind fun t399 => (if t399 = 0 then ((spigotref14_Count.f k2 t361).bind fun t400 => (if t400 = (y379.length : Int) then (spigotlaw14_ProbeExact.l0 k2 l0 a1 true t361 y379 y396 (wrap64 (x9_1 + 1))) else (some false))) else (some false))) = some true := by first | (rw [hy396]; with_reducible exact H) | (have H2_ := (Option.bind_some _ _).symm.trans H; rw [hy396]; with_reducible exact H2_) | (have H2_ := (Option.bind_some _ _).symm.trans H; with_reducible exact H2_) | with_reducible exact H | (rw [hy396]; exact H) | exact H
                                              have Ny396 := Aside0.mk hy396
                                              (try clear hy396)
                                              replace H := Option.bind_eq_some_iff.mp H
                                              obtain ⟨t399, A380, H⟩ := H
                                              replace H : (if t399 = 0 then ((spigotref14_Count.f k2 t361).bind fun t400 => (if t400 = (y379.length : Int) then (spigotlaw14_ProbeExact.l0 k2 l0 a1 true t361 y379 y396 (wrap64 (x9_1 + 1))) else (some false))) else (some false)) = some true := H
                                              have A38 := Aside0.mk A380
                                              (try clear A380)
                                              by_cases c39 : t399 = 0
                                              · rw [if_pos c39] at H
                                                have c39b0 : (t399 == 0) = true := beq_iff_eq.mpr c39
                                                have c39b1 : (t399 != 0) = false := bne_eq_false_iff_eq.mpr c39
                                                clear c39
                                                replace H := Option.bind_eq_some_iff.mp H
                                                obtain ⟨t400, A400, H⟩ := H
                                                replace H : (if t400 = (y379.length : Int) then (spigotlaw14_ProbeExact.l0 k2 l0 a1 true t361 y379 y396 (wrap64 (x9_1 + 1))) else (some false)) = some true := H
                                                have A40 := Aside0.mk A400
                                                (try clear A400)
                                                by_cases c41 : t400 = (y379.length : Int)
                                                · rw [if_pos c41] at H
                                                  have c41b0 : (t400 == (y379.length : Int)) = true := beq_iff_eq.mpr c41
                                                  have c41b1 : (t400 != (y379.length : Int)) = false := bne_eq_false_iff_eq.mpr c41
                                                  clear c41
                                                  have H' := Aside0.mk H
                                                  clear H
                                                  obtain ⟨Ao42, co42, eo42⟩ := Kd.R_slice HO_7.out
                                                  subst eo42
                                                  have p360 : 0 ≤ (x9_1 : Int) := od
                                                  have q360 : x9_1 < (l0.length : Int) := od
                                                  obtain ⟨ad360, e360, hx360_0⟩ := Kd.at_int HR0.out x9_1 p360 q360
                                                  cases e360
                                                  replace hx360_0 := (HB.out.cell (World.block_lt_of_cell? w _ hx360_0)).trans hx360_0
                                                  replace p360 := eq_true p360
                                                  replace q360 := eq_true q360
                                                  obtain ⟨Ao43, co43, eo43⟩ := Kd.R_slice HO_6.out
                                                  subst eo43
                                                  try go_wp2_with (first | ((with_reducible refine gate_callee (f := 38) rfl ?_); refine goesE (some 62) rfl rfl Try.func38 (by kernel_rfl) rfl #[.slice Ao43 x6_1.length co43, .int .u32 (rd l0 x9_1)] rfl ?_; (with_reducible refine (probe_Drop.calls k2 _ _ x6_1 (rd l0 x9_1) t361 t362 _ ?side1 ?side2 A23.out).mono ?_); (case side1 => exact Kd.pC ((Kd.R_reads' HO_6.out).2.2)); (case side2 => exact (Kd.R_reads' HO_6.out).2.1); rintro e w44 ⟨v363, rfl, ho0, hb⟩; refine ⟨_, rfl, ?_⟩; have n0_ := Aside0.mk (Kd.R_elder' (Kd.pR HO_6.out) (Kd.R_base ho0) hb); have n1_ := Aside0.mk (Kd.R_below (Kd.pR HO_7.out) hb); have n2_ := Aside0.mk (Kd.R_below (Kd.pR HO_8.out) hb); have n3_ := Aside0.mk (Kd.R_lower (Kd.R_new' ho0 (Kd.R_lt (Kd.pR HO_6.out))) (below_size (pB HB.out))); have n4_ := Aside0.mk (below_step (pB HB.out) hb); clear HO_6; clear HO_7; clear HO_8; clear HB; have HO_6 := n0_; have HO_7 := n1_; have HO_8 := n2_; have HO364 := n3_; have HB := n4_; clear n0_ n1_ n2_ n3_ n4_; (try clear hb); (try clear hb2); (try clear hk); (try clear hi); (try clear ho0)))
                                                  have n0_ := Aside0.mk (Kd.R_drew HO_6.out)
                                                  have n1_ := Aside0.mk (Kd.R_drew HO_7.out)
                                                  have n2_ := Aside0.mk (Kd.R_drew HO_8.out)
                                                  have n3_ := Aside0.mk (Kd.R_drew HO364.out)
                                                  have n4_ := Aside0.mk (below_drew1 HB.out)
                                                  clear HO_6
                                                  clear HO_7
                                                  clear HO_8
                                                  clear HO364
                                                  clear HB
                                                  have HO_6 := n0_
                                                  have HO_7 := n1_
                                                  have HO_8 := n2_
                                                  have HO364 := n3_
                                                  have HB := n4_
                                                  clear n0_ n1_ n2_ n3_ n4_
                                                  have q46 : (x10_2 : Int) ≤ ((x7_1.length : Int) : Int) := od
                                                  obtain ⟨i046, hi046, _, hsz46, _⟩ := info_parts info23
                                                  have hroom46 : x7_1.length ≤ co42 := (Kd.R_reads' HO_7.out).2.1
                                                  have hC46 : Kd.C (Kd.int .u32) _ Ao42 x7_1.length x7_1 := (Kd.R_reads' HO_7.out).2.2
                                                  have hcut46 := cut_to (P := Try.prog) 73 23 .i64 Try.underlying73 hi046 Ao42 x7_1.length co42 x10_2 od q46 hroom46
                                                  have hr46 := Kd.C_take (m := (x10_2 : Int).toNat) hC46 (by omega)
                                                  have hy46 : y368.length = (x10_2 : Int).toNat := (by rw [Ny368.out, List.length_take]; omega)
                                                  rw [← Ny368.out] at hr46
                                                  rw [← hy46] at hcut46
                                                  have HR371 := Aside0.mk hr46
                                                  have HC371 := Aside0.mk (show y368.length ≤ co42 from by omega)
                                                  clear hr46 hC46 hroom46 hi046 hsz46
                                                  have KY46 := Aside0.mk hy46
                                                  (try clear hy46)
                                                  have KL46 := Aside0.mk (show (x10_2 : Int).toNat ≤ x7_1.length from by omega)
                                                  replace q46 := eq_true q46
                                                  have q47 : ((ji28) : Int) ≤ ((x7_1.length : Int) : Int) := od
                                                  obtain ⟨i047, hi047, _, hsz47, _⟩ := info_parts info23
                                                  have hroom47 : x7_1.length ≤ co42 := (Kd.R_reads' HO_7.out).2.1
                                                  have hC47 : Kd.C (Kd.int .u32) _ Ao42 x7_1.length x7_1 := (Kd.R_reads' HO_7.out).2.2
                                                  have q047 : (0 : Int) ≤ ((ji28) : Int) := od
                                                  have hcut47 := cut_from (P := Try.prog) 73 23 .i64 Try.underlying73 hi047 1 hsz47 Ao42 x7_1.length co42 (ji28) q047 q47
                                                  have hr47 := Kd.C_drop (m := ((ji28) : Int).toNat) (c := co42) hC47 (by omega) hroom47
                                                  obtain ⟨A47, hA47⟩ : ∃ A1, A1 = (if co42 = ((ji28) : Int).toNat then Ao42 else (Ao42 : Option Addr).map (·.add (((ji28) : Int).toNat * 1))) := ⟨_, rfl⟩
                                                  obtain ⟨c47, hc47⟩ : ∃ c1, c1 = co42 - ((ji28) : Int).toNat := ⟨_, rfl⟩
                                                  have hy47 : y375.length = x7_1.length - ((ji28) : Int).toNat := (by rw [Ny375.out, List.length_drop] <;> omega)
                                                  rw [show (x7_1).drop ((ji28) : Int).toNat = y375 from Ny375.out.symm] at hr47
                                                  replace hr47 : Kd.C (Kd.int .u32) _ A47 y375.length y375 := (by rw [hA47]; exact hr47)
                                                  rw [← hy47, ← hA47, ← hc47] at hcut47
                                                  have HR378 := Aside0.mk hr47
                                                  have HC378 := Aside0.mk (show y375.length ≤ c47 from by rw [hy47, hc47]; exact Nat.sub_le_sub_right hroom47 _)
                                                  clear hr47 hC47 hroom47 hi047 hsz47 hc47
                                                  have KY47 := Aside0.mk hy47
                                                  have KA47 := Aside0.mk hA47
                                                  clear hy47 hA47
                                                  have KL47 := Aside0.mk (show ((ji28) : Int).toNat ≤ x7_1.length from by omega)
                                                  replace q47 := eq_true q47
                                                  obtain ⟨Ao49, co49, eo49⟩ := Kd.R_slice HO_8.out
                                                  (first | subst eo49 | (injection eo49 with f1_ f2_ f3_; have f4_ := f1_.symm; have f5_ := f3_.symm; clear f1_ f2_ f3_; subst f4_; subst f5_))
                                                  have q48 : (x10_2 : Int) ≤ ((x8_1.length : Int) : Int) := od
                                                  obtain ⟨i048, hi048, _, hsz48, _⟩ := info_parts info3
                                                  have hroom48 : x8_1.length ≤ co49 := (Kd.R_reads' HO_8.out).2.1
                                                  have hC48 : Kd.C (Kd.int .i64) _ Ao49 x8_1.length x8_1 := (Kd.R_reads' HO_8.out).2.2
                                                  have hcut48 := cut_to (P := Try.prog) 33 3 .i64 Try.underlying33 hi048 Ao49 x8_1.length co49 x10_2 od q48 hroom48
                                                  have hr48 := Kd.C_take (m := (x10_2 : Int).toNat) hC48 (by omega)
                                                  have hy48 : y385.length = (x10_2 : Int).toNat := (by rw [Ny385.out, List.length_take]; omega)
                                                  rw [← Ny385.out] at hr48
                                                  rw [← hy48] at hcut48
                                                  have HR388 := Aside0.mk hr48
                                                  have HC388 := Aside0.mk (show y385.length ≤ co49 from by omega)
                                                  clear hr48 hC48 hroom48 hi048 hsz48
                                                  have KY48 := Aside0.mk hy48
                                                  (try clear hy48)
                                                  have KL48 := Aside0.mk (show (x10_2 : Int).toNat ≤ x8_1.length from by omega)
                                                  replace q48 := eq_true q48
                                                  have q50 : ((ji28) : Int) ≤ ((x8_1.length : Int) : Int) := od
                                                  obtain ⟨i050, hi050, _, hsz50, _⟩ := info_parts info3
                                                  have hroom50 : x8_1.length ≤ co49 := (Kd.R_reads' HO_8.out).2.1
                                                  have hC50 : Kd.C (Kd.int .i64) _ Ao49 x8_1.length x8_1 := (Kd.R_reads' HO_8.out).2.2
                                                  have q050 : (0 : Int) ≤ ((ji28) : Int) := od
                                                  have hcut50 := cut_from (P := Try.prog) 33 3 .i64 Try.underlying33 hi050 1 hsz50 Ao49 x8_1.length co49 (ji28) q050 q50
                                                  have hr50 := Kd.C_drop (m := ((ji28) : Int).toNat) (c := co49) hC50 (by omega) hroom50
                                                  obtain ⟨A50, hA50⟩ : ∃ A1, A1 = (if co49 = ((ji28) : Int).toNat then Ao49 else (Ao49 : Option Addr).map (·.add (((ji28) : Int).toNat * 1))) := ⟨_, rfl⟩
                                                  obtain ⟨c50, hc50⟩ : ∃ c1, c1 = co49 - ((ji28) : Int).toNat := ⟨_, rfl⟩
                                                  have hy50 : y392.length = x8_1.length - ((ji28) : Int).toNat := (by rw [Ny392.out, List.length_drop] <;> omega)
                                                  rw [show (x8_1).drop ((ji28) : Int).toNat = y392 from Ny392.out.symm] at hr50
                                                  replace hr50 : Kd.C (Kd.int .i64) _ A50 y392.length y392 := (by rw [hA50]; exact hr50)
                                                  rw [← hy50, ← hA50, ← hc50] at hcut50
                                                  have HR395 := Aside0.mk hr50
                                                  have HC395 := Aside0.mk (show y392.length ≤ c50 from by rw [hy50, hc50]; exact Nat.sub_le_sub_right hroom50 _)
                                                  clear hr50 hC50 hroom50 hi050 hsz50 hc50
                                                  have KY50 := Aside0.mk hy50
                                                  have KA50 := Aside0.mk hA50
                                                  clear hy50 hA50
                                                  have KL50 := Aside0.mk (show ((ji28) : Int).toNat ≤ x8_1.length from by omega)
                                                  replace q50 := eq_true q50
                                                  refine start_ (n := 24) (S := fun w' => True) (ds := []) #[false, false, false, false, false, false, false, false, false, false, false, false, false, false, false, false, false, false, false, false, false, false, false, false] (by kernel_rfl) rfl rfl trivial (fun hHeld => ?_); refine with_tabW spigotlaw14_ProbeExact.tab20 spigotlaw14_ProbeExact.bits20 (fun HT_ HW_ => ?_)
                                                  generalize w44.drew = w45 at HO_6 HO_7 HO_8 HO364 HB HR371 HR378 HR388 HR395 hHeld ⊢
                                                  refine pure_ (i := 0) (N := some 67) (v := ?_) (a' := ?_) #[true, false, false, false, false, false, false, false, false, false, false, false, false, false, false, false, false, false, false, false, false, false, false, false] rfl rfl (any_of HT_.out (by kernel_rfl)) (fun _ _ _ h => h) (Or.inl ⟨by rfl, ?_⟩) ?_ ?_
                                                  rotate_left
                                                  · intro w'
                                                    go_simp
                                                    with_reducible rfl
                                                  rotate_left
                                                  · simp only [Act.put, List.setIfInBounds_toArray, List.set_cons_zero, List.set_cons_succ, i64_w, i32_w]
                                                    rfl
                                                  refine pure_ (i := 2) (N := some 69) (v := ?_) (a' := ?_) #[true, false, true, false, false, false, false, false, false, false, false, false, false, false, false, false, false, false, false, false, false, false, false, false] rfl rfl (any_of HT_.out (by kernel_rfl)) (fun _ _ _ h => h) (Or.inl ⟨by rfl, ?_⟩) ?_ ?_
                                                  rotate_left
                                                  · intro w'
                                                    go_simp
                                                    with_reducible rfl
                                                  rotate_left
                                                  · simp only [Act.put, List.setIfInBounds_toArray, List.set_cons_zero, List.set_cons_succ, i64_w, i32_w]
                                                    rfl
                                                  refine pure_ (i := 3) (N := some 70) (v := ?_) (a' := ?_) #[true, false, true, true, false, false, false, false, false, false, false, false, false, false, false, false, false, false, false, false, false, false, false, false] rfl rfl (any_of HT_.out (by kernel_rfl)) (fun _ _ _ h => h) (Or.inl ⟨by rfl, ?_⟩) ?_ ?_
                                                  rotate_left
                                                  · intro w'
                                                    go_simp
                                                    with_reducible rfl
                                                  rotate_left
                                                  · simp only [Act.put, List.setIfInBounds_toArray, List.set_cons_zero, List.set_cons_succ, i64_w, i32_w]
                                                    rfl
                                                  refine pure_ (i := 4) (N := some 71) (v := ?_) (a' := ?_) #[true, false, true, true, true, false, false, false, false, false, false, false, false, false, false, false, false, false, false, false, false, false, false, false] rfl rfl (any_of HT_.out (by kernel_rfl)) (fun _ _ _ h => h) (Or.inl ⟨by rfl, ?_⟩) ?_ ?_
                                                  rotate_left
                                                  · intro w'
                                                    go_simp
                                                    with_reducible rfl
                                                  rotate_left
                                                  · simp only [Act.put, List.setIfInBounds_toArray, List.set_cons_zero, List.set_cons_succ, i64_w, i32_w]
                                                    rfl
                                                  refine pure_ (i := 6) (N := some 73) (v := ?_) (a' := ?_) #[true, false, true, true, true, false, true, false, false, false, false, false, false, false, false, false, false, false, false, false, false, false, false, false] rfl rfl (any_of HT_.out (by kernel_rfl)) (fun _ _ _ h => h) (Or.inl ⟨by rfl, ?_⟩) ?_ ?_
                                                  rotate_left
                                                  · intro w'
                                                    go_simp
                                                    with_reducible rfl
                                                  rotate_left
                                                  · simp only [Act.put, List.setIfInBounds_toArray, List.set_cons_zero, List.set_cons_succ, i64_w, i32_w]
                                                    rfl
                                                  refine pure_ (i := 7) (N := some 74) (v := ?_) (a' := ?_) #[true, false, true, true, true, false, true, true, false, false, false, false, false, false, false, false, false, false, false, false, false, false, false, false] rfl rfl (any_of HT_.out (by kernel_rfl)) (fun _ _ _ h => h) (Or.inl ⟨by rfl, ?_⟩) ?_ ?_
                                                  rotate_left
                                                  · intro w'
                                                    go_simp
                                                    with_reducible rfl
                                                  rotate_left
                                                  · simp only [Act.put, List.setIfInBounds_toArray, List.set_cons_zero, List.set_cons_succ, i64_w, i32_w]
                                                    rfl
                                                  refine pure_ (i := 8) (N := some 75) (v := ?_) (a' := ?_) #[true, false, true, true, true, false, true, true, true, false, false, false, false, false, false, false, false, false, false, false, false, false, false, false] rfl rfl (any_of HT_.out (by kernel_rfl)) (fun _ _ _ h => h) (Or.inl ⟨by rfl, ?_⟩) ?_ ?_
                                                  rotate_left
                                                  · intro w'
                                                    go_simp
                                                    with_reducible rfl
                                                  rotate_left
                                                  · simp only [Act.put, List.setIfInBounds_toArray, List.set_cons_zero, List.set_cons_succ, i64_w, i32_w]
                                                    rfl
                                                  refine pure_ (i := 9) (N := some 76) (v := ?_) (a' := ?_) #[true, false, true, true, true, false, true, true, true, true, false, false, false, false, false, false, false, false, false, false, false, false, false, false] rfl rfl (any_of HT_.out (by kernel_rfl)) (fun _ _ _ h => h) (Or.inl ⟨by rfl, ?_⟩) ?_ ?_
                                                  rotate_left
                                                  · intro w'
                                                    go_simp
                                                    with_reducible rfl
                                                  rotate_left
                                                  · simp only [Act.put, List.setIfInBounds_toArray, List.set_cons_zero, List.set_cons_succ, i64_w, i32_w]
                                                    rfl
                                                  refine pure_ (i := 12) (N := some 79) (v := ?_) (a' := ?_) #[true, false, true, true, true, false, true, true, true, true, false, false, true, false, false, false, false, false, false, false, false, false, false, false] rfl rfl (any_of HT_.out (by kernel_rfl)) (fun _ _ _ h => h) (Or.inl ⟨by rfl, ?_⟩) ?_ ?_
                                                  rotate_left
                                                  · intro w'
                                                    go_simp
                                                    with_reducible rfl
                                                  rotate_left
                                                  · simp only [Act.put, List.setIfInBounds_toArray, List.set_cons_zero, List.set_cons_succ, i64_w, i32_w]
                                                    rfl
                                                  refine pure_ (i := 13) (N := some 80) (v := ?_) (a' := ?_) #[true, false, true, true, true, false, true, true, true, true, false, false, true, true, false, false, false, false, false, false, false, false, false, false] rfl rfl (any_of HT_.out (by kernel_rfl)) (fun _ _ _ h => h) (Or.inl ⟨by rfl, ?_⟩) ?_ ?_
                                                  rotate_left
                                                  · intro w'
                                                    go_simp
                                                    with_reducible rfl
                                                  rotate_left
                                                  · simp only [Act.put, List.setIfInBounds_toArray, List.set_cons_zero, List.set_cons_succ, i64_w, i32_w]
                                                    rfl
                                                  refine pure_ (i := 14) (N := some 81) (v := ?_) (a' := ?_) #[true, false, true, true, true, false, true, true, true, true, false, false, true, true, true, false, false, false, false, false, false, false, false, false] rfl rfl (any_of HT_.out (by kernel_rfl)) (fun _ _ _ h => h) (Or.inl ⟨by rfl, ?_⟩) ?_ ?_
                                                  rotate_left
                                                  · intro w'
                                                    go_simp
                                                    with_reducible rfl
                                                  rotate_left
                                                  · simp only [Act.put, List.setIfInBounds_toArray, List.set_cons_zero, List.set_cons_succ, i64_w, i32_w]
                                                    rfl
                                                  refine pure_ (i := 16) (N := some 83) (v := ?_) (a' := ?_) #[true, false, true, true, true, false, true, true, true, true, false, false, true, true, true, false, true, false, false, false, false, false, false, false] rfl rfl (any_of HT_.out (by kernel_rfl)) (fun _ _ _ h => h) (Or.inl ⟨by rfl, ?_⟩) ?_ ?_
                                                  rotate_left
                                                  · intro w'
                                                    go_simp
                                                    with_reducible rfl
                                                  rotate_left
                                                  · simp only [Act.put, List.setIfInBounds_toArray, List.set_cons_zero, List.set_cons_succ, i64_w, i32_w]
                                                    rfl
                                                  refine pure_ (i := 17) (N := some 84) (v := ?_) (a' := ?_) #[true, false, true, true, true, false, true, true, true, true, false, false, true, true, true, false, true, true, false, false, false, false, false, false] rfl rfl (any_of HT_.out (by kernel_rfl)) (fun _ _ _ h => h) (Or.inl ⟨by rfl, ?_⟩) ?_ ?_
                                                  rotate_left
                                                  · intro w'
                                                    go_simp
                                                    with_reducible rfl
                                                  rotate_left
                                                  · simp only [Act.put, List.setIfInBounds_toArray, List.set_cons_zero, List.set_cons_succ, i64_w, i32_w]
                                                    rfl
                                                  refine pure_ (i := 18) (N := some 85) (v := ?_) (a' := ?_) #[true, false, true, true, true, false, true, true, true, true, false, false, true, true, true, false, true, true, true, false, false, false, false, false] rfl rfl (any_of HT_.out (by kernel_rfl)) (fun _ _ _ h => h) (Or.inl ⟨by rfl, ?_⟩) ?_ ?_
                                                  rotate_left
                                                  · intro w'
                                                    go_simp
                                                    with_reducible rfl
                                                  rotate_left
                                                  · simp only [Act.put, List.setIfInBounds_toArray, List.set_cons_zero, List.set_cons_succ, i64_w, i32_w]
                                                    rfl
                                                  refine pure_ (i := 19) (N := some 86) (v := ?_) (a' := ?_) #[true, false, true, true, true, false, true, true, true, true, false, false, true, true, true, false, true, true, true, true, false, false, false, false] rfl rfl (any_of HT_.out (by kernel_rfl)) (fun _ _ _ h => h) (Or.inl ⟨by rfl, ?_⟩) ?_ ?_
                                                  rotate_left
                                                  · intro w'
                                                    go_simp
                                                    with_reducible rfl
                                                  rotate_left
                                                  · simp only [Act.put, List.setIfInBounds_toArray, List.set_cons_zero, List.set_cons_succ, i64_w, i32_w]
                                                    rfl
                                                  refine join_ (σ := Value × Value × Value × Value) 5 #[true, true, true, true, true, true, true, true, true, true, true, true, true, true, true, false, true, true, true, true, false, false, false, false] (fun s_ => [(68, s_.1), (72, s_.2.1), (77, s_.2.2.1), (78, s_.2.2.2)]) (fun s_ w' => (Kd.R k71 71 w' w.heap.size (fun k_ => some k_ ≠ (.slice Ao43 x6_1.length co43 : Value).ownBlock) v363 t361) ∧ (Kd.R (Kd.int .u32) 23 w' w.heap.size (fun k_ => some k_ ≠ (.slice Ao42 x7_1.length co42 : Value).ownBlock) s_.2.2.1 y379) ∧ (Kd.R (Kd.int .i64) 3 w' w.heap.size (fun k_ => some k_ ≠ (.slice Ao49 x8_1.length co49 : Value).ownBlock) s_.2.2.2 y382) ∧ (Kd.R k71 71 w' w.heap.size (fun k_ => some k_ ≠ (v363 : Value).ownBlock) (.slice Ao43 x6_1.length co43) x6_1) ∧ (Kd.R (Kd.int .u32) 23 w' w.heap.size (fun k_ => some k_ ≠ (s_.2.2.1 : Value).ownBlock) (.slice Ao42 x7_1.length co42) x7_1) ∧ (Kd.R (Kd.int .i64) 3 w' w.heap.size (fun k_ => some k_ ≠ (s_.2.2.2 : Value).ownBlock) (.slice Ao49 x8_1.length co49) x8_1) ∧ (Below w.heap.size w w')) ?_ ?_
                                                  rotate_left
                                                  · intro hCont
                                                    refine two_ (i := 1) (j := 11) (Ni := some 68) (Nj := some 78) #[true, true, true, true, true, false, true, true, true, true, false, false, true, true, true, false, true, true, true, true, false, false, false, false] #[true, false, true, true, true, false, true, true, true, true, false, true, true, true, true, false, true, true, true, true, false, false, false, false] rfl rfl rfl rfl (two_of HT_.out (by kernel_rfl)) (by decide) (by decide) (fun K hK => ?_) (fun K hK => ?_)
                                                    · skip
                                                      refine Kd.R_lit_step (Kd.int .u32) _ 23 ?hg (N := 68) ?hd (xs := ([] : List Int)) (inner := []) (ok := fun _ => True) (okp := fun _ => True) ?hr ?hp (fun _ hk => hk) trivial (Below.refl _ _) (Nat.le_refl _) (by simp) ?_; (case hd => rfl); (case hg => rfl); (case hr => first | (go_simp; done) | (go_simp; rfl)); (case hp => exact (Reps.none _ _))
                                                      intro v366 w51 ho52 hb hg_ hnew_
                                                      clear hg_ hnew_
                                                      (first | rw [← Ny365.out] at ho52 | (simp only [Int.reduceToNat] at ho52; rw [← Ny365.out] at ho52))
                                                      have n0_ := Aside0.mk (Kd.R_below (Kd.pR HO_6.out) hb)
                                                      have n1_ := Aside0.mk (Kd.R_elder' (Kd.pR HO_7.out) (Kd.R_base ho52) hb)
                                                      have n2_ := Aside0.mk (Kd.R_below (Kd.pR HO_8.out) hb)
                                                      have n3_ := Aside0.mk (Kd.R_below (Kd.pR HO364.out) hb)
                                                      have n4_ := Aside0.mk (Kd.R_lower (Kd.R_new' ho52 (Kd.R_lt (Kd.pR HO_7.out))) (below_size (pB HB.out)))
                                                      have n5_ := Aside0.mk (Kd.C_below (Kd.pC HR371.out) hb)
                                                      have n9_ := Aside0.mk (below_step (pB HB.out) hb)
                                                      clear HO_6
                                                      clear HO_7
                                                      clear HO_8
                                                      clear HO364
                                                      (try clear HR371)
                                                      (try clear HR378)
                                                      (try clear HR388)
                                                      (try clear HR395)
                                                      clear HB
                                                      have HO_6 := n0_
                                                      have HO_7 := n1_
                                                      have HO_8 := n2_
                                                      have HO364 := n3_
                                                      have HO367 := n4_
                                                      have HR371 := n5_
                                                      have HB := n9_
                                                      clear n0_ n1_ n2_ n3_ n4_ n5_ n9_
                                                      clear hb ho52
                                                      refine hK.out _ _ trivial (fun hHeld => ?_)
                                                      clear hK K
                                                      refine norm_ (a' := ?_) ?_ ?_
                                                      rotate_left
                                                      · show Act.put _ (some 68) _ = _
                                                        simp only [Act.put, List.setIfInBounds_toArray, List.set_cons_zero, List.set_cons_succ, i64_w, i32_w]
                                                        rfl
                                                      refine two_ (i := 5) (j := 11) (Ni := some 72) (Nj := some 78) #[true, true, true, true, true, true, true, true, true, true, false, false, true, true, true, false, true, true, true, true, false, false, false, false] #[true, true, true, true, true, false, true, true, true, true, false, true, true, true, true, false, true, true, true, true, false, false, false, false] rfl rfl rfl rfl (two_of HT_.out (by kernel_rfl)) (by decide) (by decide) (fun K hK => ?_) (fun K hK => ?_)
                                                      · skip
                                                        refine Kd.R_append_rows_step (Kd.int .u32) (w0 := w) w.heap.size (by rfl) (.tmp 68) (.tmp 71) 73 23 (.int .u32 0) 4 rfl Try.underlying73 info23 rfl (by decide) (by omega) v366 y365 y368 _ _ _ (fun k_ => some k_ ≠ (.slice Ao42 x7_1.length co42 : Value).ownBlock) (fun _ => False) rfl rfl ?aO ?aR (fun _ _ h => h) (fun _ h => h.elim) ?aF ?aB ?aS ?aL ?_
                                                        (case aR => exact Kd.pC HR371.out)
                                                        (case aB => exact (pB HB.out))
                                                        (case aF => exact (fun k_ hk => Kd.fresh' (Kd.R_lt (Kd.pR HO_7.out)) k_ hk))
                                                        (case aO => exact (Kd.pR (Kd.R_mono HO367.out (fun _ hk => hk.2))))
                                                        (case aS => exact (below_size (pB HB.out)))
                                                        (case aL => have := LMc27.out; omega)
                                                        intro v373 w53 ho hb hg hat
                                                        rw [← Ny372.out] at ho
                                                        have n0_ := Aside0.mk (Kd.R_over' (Kd.pR HO_6.out) (Kd.R_typed (Kd.pR HO367.out)) (by decide) hg)
                                                        have n1_ := Aside0.mk (Kd.R_after (ok := (fun _ => True)) (Kd.pR HO_7.out) hg hat)
                                                        have n2_ := Aside0.mk (Kd.R_over' (Kd.pR HO_8.out) (Kd.R_typed (Kd.pR HO367.out)) (by decide) hg)
                                                        have n3_ := Aside0.mk (Kd.R_over' (Kd.pR HO364.out) (Kd.R_typed (Kd.pR HO367.out)) (by decide) hg)
                                                        have n4_ := Aside0.mk (hb)
                                                        have n6_ := Aside0.mk ((show Kd.C (Kd.int .u32) w53 A47 y375.length y375 from by rw [Ny375.out, KA47.out]; exact Kd.C_drop (m := ((ji28) : Int).toNat) (c := co42) ((Kd.R_reads' (Kd.R_after (ok := (fun _ => True)) (Kd.pR HO_7.out) hg hat)).2.2) KL47.out ((Kd.R_reads' (Kd.R_after (ok := (fun _ => True)) (Kd.pR HO_7.out) hg hat)).2.1)))
                                                        have n9_ := Aside0.mk (ho)
                                                        clear HO_6
                                                        clear HO_7
                                                        clear HO_8
                                                        clear HO364
                                                        clear HB
                                                        (try clear HR371)
                                                        (try clear HR378)
                                                        (try clear HR388)
                                                        (try clear HR395)
                                                        clear HO367
                                                        have HO_6 := n0_
                                                        have HO_7 := n1_
                                                        have HO_8 := n2_
                                                        have HO364 := n3_
                                                        have HB := n4_
                                                        have HR378 := n6_
                                                        have HO374 := n9_
                                                        clear n0_ n1_ n2_ n3_ n4_ n6_ n9_
                                                        clear ho hb hg hat
                                                        refine hK.out _ _ trivial (fun hHeld => ?_)
                                                        clear hK K
                                                        refine norm_ (a' := ?_) ?_ ?_
                                                        rotate_left
                                                        · show Act.put _ (some 72) _ = _
                                                          simp only [Act.put, List.setIfInBounds_toArray, List.set_cons_zero, List.set_cons_succ, i64_w, i32_w]
                                                          rfl
                                                        refine two_ (i := 10) (j := 11) (Ni := some 77) (Nj := some 78) #[true, true, true, true, true, true, true, true, true, true, true, false, true, true, true, false, true, true, true, true, false, false, false, false] #[true, true, true, true, true, true, true, true, true, true, false, true, true, true, true, false, true, true, true, true, false, false, false, false] rfl rfl rfl rfl (two_of HT_.out (by kernel_rfl)) (by decide) (by decide) (fun K hK => ?_) (fun K hK => ?_)
                                                        · skip
                                                          refine Kd.R_append_rows_step (Kd.int .u32) (w0 := w) w.heap.size (by rfl) (.tmp 72) (.tmp 76) 73 23 (.int .u32 0) 4 rfl Try.underlying73 info23 rfl (by decide) (by omega) v373 y372 y375 _ _ _ (fun k_ => some k_ ≠ (.slice Ao42 x7_1.length co42 : Value).ownBlock) (fun _ => False) rfl rfl ?aO ?aR (fun _ _ h => h) (fun _ h => h.elim) ?aF ?aB ?aS ?aL ?_
                                                          (case aR => exact Kd.pC HR378.out)
                                                          (case aB => exact (pB HB.out))
                                                          (case aF => exact (fun k_ hk => Kd.fresh' (Kd.R_lt (Kd.pR HO_7.out)) k_ hk))
                                                          (case aO => exact (Kd.pR HO374.out))
                                                          (case aS => exact (below_size (pB HB.out)))
                                                          (case aL => have := LMc31.out; omega)
                                                          intro v380 w54 ho hb hg hat
                                                          rw [← Ny379.out] at ho
                                                          have n0_ := Aside0.mk (Kd.R_over' (Kd.pR HO_6.out) (Kd.R_typed (Kd.pR HO374.out)) (by decide) hg)
                                                          have n1_ := Aside0.mk (Kd.R_after (ok := (fun _ => True)) (Kd.pR HO_7.out) hg hat)
                                                          have n2_ := Aside0.mk (Kd.R_over' (Kd.pR HO_8.out) (Kd.R_typed (Kd.pR HO374.out)) (by decide) hg)
                                                          have n3_ := Aside0.mk (Kd.R_over' (Kd.pR HO364.out) (Kd.R_typed (Kd.pR HO374.out)) (by decide) hg)
                                                          have n4_ := Aside0.mk (hb)
                                                          have n6_ := Aside0.mk ((show Kd.C (Kd.int .u32) w54 A47 y375.length y375 from by rw [Ny375.out, KA47.out]; exact Kd.C_drop (m := ((ji28) : Int).toNat) (c := co42) ((Kd.R_reads' (Kd.R_after (ok := (fun _ => True)) (Kd.pR HO_7.out) hg hat)).2.2) KL47.out ((Kd.R_reads' (Kd.R_after (ok := (fun _ => True)) (Kd.pR HO_7.out) hg hat)).2.1)))
                                                          have n9_ := Aside0.mk (ho)
                                                          clear HO_6
                                                          clear HO_7
                                                          clear HO_8
                                                          clear HO364
                                                          clear HB
                                                          (try clear HR371)
                                                          (try clear HR378)
                                                          (try clear HR388)
                                                          (try clear HR395)
                                                          clear HO374
                                                          have HO_6 := n0_
                                                          have HO_7 := n1_
                                                          have HO_8 := n2_
                                                          have HO364 := n3_
                                                          have HB := n4_
                                                          have HR378 := n6_
                                                          have HO381 := n9_
                                                          clear n0_ n1_ n2_ n3_ n4_ n6_ n9_
                                                          clear ho hb hg hat
                                                          refine hK.out _ _ trivial (fun hHeld => ?_)
                                                          clear hK K
                                                          refine norm_ (a' := ?_) ?_ ?_
                                                          rotate_left
                                                          · show Act.put _ (some 77) _ = _
                                                            simp only [Act.put, List.setIfInBounds_toArray, List.set_cons_zero, List.set_cons_succ, i64_w, i32_w]
                                                            rfl
                                                          refine one_ (i := 11) (N := some 78) #[true, true, true, true, true, true, true, true, true, true, true, true, true, true, true, false, true, true, true, true, false, false, false, false] rfl rfl (one_of HT_.out (by kernel_rfl)) (by decide) (fun K hK => ?_)
                                                          refine Kd.R_lit_step (Kd.int .i64) _ 3 ?hg (N := 78) ?hd (xs := ([] : List Int)) (inner := []) (ok := fun _ => True) (okp := fun _ => True) ?hr ?hp (fun _ hk => hk) trivial (Below.refl _ _) (Nat.le_refl _) (by simp) ?_; (case hd => rfl); (case hg => rfl); (case hr => first | (go_simp; done) | (go_simp; rfl)); (case hp => exact (Reps.none _ _))
                                                          intro v383 w55 ho56 hb hg_ hnew_
                                                          clear hg_ hnew_
                                                          (first | rw [← Ny382.out] at ho56 | (simp only [Int.reduceToNat] at ho56; rw [← Ny382.out] at ho56))
                                                          have n0_ := Aside0.mk (Kd.R_below (Kd.pR HO_6.out) hb)
                                                          have n1_ := Aside0.mk (Kd.R_below (Kd.pR HO_7.out) hb)
                                                          have n2_ := Aside0.mk (Kd.R_elder' (Kd.pR HO_8.out) (Kd.R_base ho56) hb)
                                                          have n3_ := Aside0.mk (Kd.R_below (Kd.pR HO364.out) hb)
                                                          have n4_ := Aside0.mk (Kd.R_below (Kd.pR HO381.out) hb)
                                                          have n5_ := Aside0.mk (Kd.R_lower (Kd.R_new' ho56 (Kd.R_lt (Kd.pR HO_8.out))) (below_size (pB HB.out)))
                                                          have n7_ := Aside0.mk (Kd.C_below (Kd.pC HR378.out) hb)
                                                          have n10_ := Aside0.mk (below_step (pB HB.out) hb)
                                                          clear HO_6
                                                          clear HO_7
                                                          clear HO_8
                                                          clear HO364
                                                          clear HO381
                                                          (try clear HR371)
                                                          (try clear HR378)
                                                          (try clear HR388)
                                                          (try clear HR395)
                                                          clear HB
                                                          have HO_6 := n0_
                                                          have HO_7 := n1_
                                                          have HO_8 := n2_
                                                          have HO364 := n3_
                                                          have HO381 := n4_
                                                          have HO384 := n5_
                                                          have HR378 := n7_
                                                          have HB := n10_
                                                          clear n0_ n1_ n2_ n3_ n4_ n5_ n7_ n10_
                                                          clear hb ho56
                                                          refine hK.out _ _ trivial (fun hHeld => ?_)
                                                          clear hK K
                                                          refine norm_ (a' := ?_) ?_ ?_
                                                          rotate_left
                                                          · show Act.put _ (some 78) _ = _
                                                            simp only [Act.put, List.setIfInBounds_toArray, List.set_cons_zero, List.set_cons_succ, i64_w, i32_w]
                                                            rfl
                                                          exact norm_ (by simp only [putAll, Act.put, List.setIfInBounds_toArray, List.set_cons_zero, List.set_cons_succ]) (hCont (v366, v373, v380, v383) _ ⟨(Kd.pR (Kd.R_mono HO364.out (fun _ hk => hk.2))), (Kd.pR HO381.out), (Kd.pR (Kd.R_mono HO384.out (fun _ hk => hk.2))), (Kd.pR (Kd.R_mono HO_6.out (fun _ hk => hk.2))), (Kd.pR (Kd.R_mono HO_7.out (fun _ hk => hk.2))), (Kd.pR (Kd.R_mono HO_8.out (fun _ hk => hk.2))), (pB HB.out)⟩)
                                                        · skip
                                                          refine Kd.R_lit_step (Kd.int .i64) _ 3 ?hg (N := 78) ?hd (xs := ([] : List Int)) (inner := []) (ok := fun _ => True) (okp := fun _ => True) ?hr ?hp (fun _ hk => hk) trivial (Below.refl _ _) (Nat.le_refl _) (by simp) ?_; (case hd => rfl); (case hg => rfl); (case hr => first | (go_simp; done) | (go_simp; rfl)); (case hp => exact (Reps.none _ _))
                                                          intro v383 w54 ho55 hb hg_ hnew_
                                                          clear hg_ hnew_
                                                          (first | rw [← Ny382.out] at ho55 | (simp only [Int.reduceToNat] at ho55; rw [← Ny382.out] at ho55))
                                                          have n0_ := Aside0.mk (Kd.R_below (Kd.pR HO_6.out) hb)
                                                          have n1_ := Aside0.mk (Kd.R_below (Kd.pR HO_7.out) hb)
                                                          have n2_ := Aside0.mk (Kd.R_elder' (Kd.pR HO_8.out) (Kd.R_base ho55) hb)
                                                          have n3_ := Aside0.mk (Kd.R_below (Kd.pR HO364.out) hb)
                                                          have n4_ := Aside0.mk (Kd.R_below (Kd.pR HO374.out) hb)
                                                          have n5_ := Aside0.mk (Kd.R_lower (Kd.R_new' ho55 (Kd.R_lt (Kd.pR HO_8.out))) (below_size (pB HB.out)))
                                                          have n7_ := Aside0.mk (Kd.C_below (Kd.pC HR378.out) hb)
                                                          have n10_ := Aside0.mk (below_step (pB HB.out) hb)
                                                          clear HO_6
                                                          clear HO_7
                                                          clear HO_8
                                                          clear HO364
                                                          clear HO374
                                                          (try clear HR371)
                                                          (try clear HR378)
                                                          (try clear HR388)
                                                          (try clear HR395)
                                                          clear HB
                                                          have HO_6 := n0_
                                                          have HO_7 := n1_
                                                          have HO_8 := n2_
                                                          have HO364 := n3_
                                                          have HO374 := n4_
                                                          have HO384 := n5_
                                                          have HR378 := n7_
                                                          have HB := n10_
                                                          clear n0_ n1_ n2_ n3_ n4_ n5_ n7_ n10_
                                                          clear hb ho55
                                                          refine hK.out _ _ trivial (fun hHeld => ?_)
                                                          clear hK K
                                                          refine norm_ (a' := ?_) ?_ ?_
                                                          rotate_left
                                                          · show Act.put _ (some 78) _ = _
                                                            simp only [Act.put, List.setIfInBounds_toArray, List.set_cons_zero, List.set_cons_succ, i64_w, i32_w]
                                                            rfl
                                                          refine one_ (i := 10) (N := some 77) #[true, true, true, true, true, true, true, true, true, true, true, true, true, true, true, false, true, true, true, true, false, false, false, false] rfl rfl (one_of HT_.out (by kernel_rfl)) (by decide) (fun K hK => ?_)
                                                          refine Kd.R_append_rows_step (Kd.int .u32) (w0 := w) w.heap.size (by rfl) (.tmp 72) (.tmp 76) 73 23 (.int .u32 0) 4 rfl Try.underlying73 info23 rfl (by decide) (by omega) v373 y372 y375 _ _ _ (fun k_ => some k_ ≠ (.slice Ao42 x7_1.length co42 : Value).ownBlock) (fun _ => False) rfl rfl ?aO ?aR (fun _ _ h => h) (fun _ h => h.elim) ?aF ?aB ?aS ?aL ?_
                                                          (case aR => exact Kd.pC HR378.out)
                                                          (case aB => exact (pB HB.out))
                                                          (case aF => exact (fun k_ hk => Kd.fresh' (Kd.R_lt (Kd.pR HO_7.out)) k_ hk))
                                                          (case aO => exact (Kd.pR HO374.out))
                                                          (case aS => exact (below_size (pB HB.out)))
                                                          (case aL => have := LMc31.out; omega)
                                                          intro v380 w56 ho hb hg hat
                                                          rw [← Ny379.out] at ho
                                                          have n0_ := Aside0.mk (Kd.R_over' (Kd.pR HO_6.out) (Kd.R_typed (Kd.pR HO374.out)) (by decide) hg)
                                                          have n1_ := Aside0.mk (Kd.R_after (ok := (fun _ => True)) (Kd.pR HO_7.out) hg hat)
                                                          have n2_ := Aside0.mk (Kd.R_over' (Kd.pR HO_8.out) (Kd.R_typed (Kd.pR HO374.out)) (by decide) hg)
                                                          have n3_ := Aside0.mk (Kd.R_over' (Kd.pR HO364.out) (Kd.R_typed (Kd.pR HO374.out)) (by decide) hg)
                                                          have n4_ := Aside0.mk (Kd.R_over' (Kd.pR HO384.out) (Kd.R_typed (Kd.pR HO374.out)) (by decide) hg)
                                                          have n5_ := Aside0.mk (hb)
                                                          have n6_ := Aside0.mk ((show Kd.C (Kd.int .u32) w56 Ao42 y368.length y368 from by rw [Ny368.out]; exact Kd.C_take (m := (x10_2 : Int).toNat) ((Kd.R_reads' (Kd.R_after (ok := (fun _ => True)) (Kd.pR HO_7.out) hg hat)).2.2) KL46.out))
                                                          have n10_ := Aside0.mk (ho)
                                                          clear HO_6
                                                          clear HO_7
                                                          clear HO_8
                                                          clear HO364
                                                          clear HO384
                                                          clear HB
                                                          (try clear HR371)
                                                          (try clear HR378)
                                                          (try clear HR388)
                                                          (try clear HR395)
                                                          (try clear HO374)
                                                          have HO_6 := n0_
                                                          have HO_7 := n1_
                                                          have HO_8 := n2_
                                                          have HO364 := n3_
                                                          have HO384 := n4_
                                                          have HB := n5_
                                                          have HR371 := n6_
                                                          have HO381 := n10_
                                                          clear n0_ n1_ n2_ n3_ n4_ n5_ n6_ n10_
                                                          clear ho hb hg hat
                                                          refine hK.out _ _ trivial (fun hHeld => ?_)
                                                          clear hK K
                                                          refine norm_ (a' := ?_) ?_ ?_
                                                          rotate_left
                                                          · show Act.put _ (some 77) _ = _
                                                            simp only [Act.put, List.setIfInBounds_toArray, List.set_cons_zero, List.set_cons_succ, i64_w, i32_w]
                                                            rfl
                                                          exact norm_ (by simp only [putAll, Act.put, List.setIfInBounds_toArray, List.set_cons_zero, List.set_cons_succ]) (hCont (v366, v373, v380, v383) _ ⟨(Kd.pR (Kd.R_mono HO364.out (fun _ hk => hk.2))), (Kd.pR HO381.out), (Kd.pR (Kd.R_mono HO384.out (fun _ hk => hk.2))), (Kd.pR (Kd.R_mono HO_6.out (fun _ hk => hk.2))), (Kd.pR (Kd.R_mono HO_7.out (fun _ hk => hk.2))), (Kd.pR (Kd.R_mono HO_8.out (fun _ hk => hk.2))), (pB HB.out)⟩)
                                                      · skip
                                                        refine Kd.R_lit_step (Kd.int .i64) _ 3 ?hg (N := 78) ?hd (xs := ([] : List Int)) (inner := []) (ok := fun _ => True) (okp := fun _ => True) ?hr ?hp (fun _ hk => hk) trivial (Below.refl _ _) (Nat.le_refl _) (by simp) ?_; (case hd => rfl); (case hg => rfl); (case hr => first | (go_simp; done) | (go_simp; rfl)); (case hp => exact (Reps.none _ _))
                                                        intro v383 w53 ho54 hb hg_ hnew_
                                                        clear hg_ hnew_
                                                        (first | rw [← Ny382.out] at ho54 | (simp only [Int.reduceToNat] at ho54; rw [← Ny382.out] at ho54))
                                                        have n0_ := Aside0.mk (Kd.R_below (Kd.pR HO_6.out) hb)
                                                        have n1_ := Aside0.mk (Kd.R_below (Kd.pR HO_7.out) hb)
                                                        have n2_ := Aside0.mk (Kd.R_elder' (Kd.pR HO_8.out) (Kd.R_base ho54) hb)
                                                        have n3_ := Aside0.mk (Kd.R_below (Kd.pR HO364.out) hb)
                                                        have n4_ := Aside0.mk (Kd.R_below (Kd.pR HO367.out) hb)
                                                        have n5_ := Aside0.mk (Kd.R_lower (Kd.R_new' ho54 (Kd.R_lt (Kd.pR HO_8.out))) (below_size (pB HB.out)))
                                                        have n6_ := Aside0.mk (Kd.C_below (Kd.pC HR371.out) hb)
                                                        have n10_ := Aside0.mk (below_step (pB HB.out) hb)
                                                        clear HO_6
                                                        clear HO_7
                                                        clear HO_8
                                                        clear HO364
                                                        clear HO367
                                                        (try clear HR371)
                                                        (try clear HR378)
                                                        (try clear HR388)
                                                        (try clear HR395)
                                                        clear HB
                                                        have HO_6 := n0_
                                                        have HO_7 := n1_
                                                        have HO_8 := n2_
                                                        have HO364 := n3_
                                                        have HO367 := n4_
                                                        have HO384 := n5_
                                                        have HR371 := n6_
                                                        have HB := n10_
                                                        clear n0_ n1_ n2_ n3_ n4_ n5_ n6_ n10_
                                                        clear hb ho54
                                                        refine hK.out _ _ trivial (fun hHeld => ?_)
                                                        clear hK K
                                                        refine norm_ (a' := ?_) ?_ ?_
                                                        rotate_left
                                                        · show Act.put _ (some 78) _ = _
                                                          simp only [Act.put, List.setIfInBounds_toArray, List.set_cons_zero, List.set_cons_succ, i64_w, i32_w]
                                                          rfl
                                                        refine one_ (i := 5) (N := some 72) #[true, true, true, true, true, true, true, true, true, true, false, true, true, true, true, false, true, true, true, true, false, false, false, false] rfl rfl (one_of HT_.out (by kernel_rfl)) (by decide) (fun K hK => ?_)
                                                        refine Kd.R_append_rows_step (Kd.int .u32) (w0 := w) w.heap.size (by rfl) (.tmp 68) (.tmp 71) 73 23 (.int .u32 0) 4 rfl Try.underlying73 info23 rfl (by decide) (by omega) v366 y365 y368 _ _ _ (fun k_ => some k_ ≠ (.slice Ao42 x7_1.length co42 : Value).ownBlock) (fun _ => False) rfl rfl ?aO ?aR (fun _ _ h => h) (fun _ h => h.elim) ?aF ?aB ?aS ?aL ?_
                                                        (case aR => exact Kd.pC HR371.out)
                                                        (case aB => exact (pB HB.out))
                                                        (case aF => exact (fun k_ hk => Kd.fresh' (Kd.R_lt (Kd.pR HO_7.out)) k_ hk))
                                                        (case aO => exact (Kd.pR (Kd.R_mono HO367.out (fun _ hk => hk.2))))
                                                        (case aS => exact (below_size (pB HB.out)))
                                                        (case aL => have := LMc27.out; omega)
                                                        intro v373 w55 ho hb hg hat
                                                        rw [← Ny372.out] at ho
                                                        have n0_ := Aside0.mk (Kd.R_over' (Kd.pR HO_6.out) (Kd.R_typed (Kd.pR HO367.out)) (by decide) hg)
                                                        have n1_ := Aside0.mk (Kd.R_after (ok := (fun _ => True)) (Kd.pR HO_7.out) hg hat)
                                                        have n2_ := Aside0.mk (Kd.R_over' (Kd.pR HO_8.out) (Kd.R_typed (Kd.pR HO367.out)) (by decide) hg)
                                                        have n3_ := Aside0.mk (Kd.R_over' (Kd.pR HO364.out) (Kd.R_typed (Kd.pR HO367.out)) (by decide) hg)
                                                        have n4_ := Aside0.mk (Kd.R_over' (Kd.pR HO384.out) (Kd.R_typed (Kd.pR HO367.out)) (by decide) hg)
                                                        have n5_ := Aside0.mk (hb)
                                                        have n7_ := Aside0.mk ((show Kd.C (Kd.int .u32) w55 A47 y375.length y375 from by rw [Ny375.out, KA47.out]; exact Kd.C_drop (m := ((ji28) : Int).toNat) (c := co42) ((Kd.R_reads' (Kd.R_after (ok := (fun _ => True)) (Kd.pR HO_7.out) hg hat)).2.2) KL47.out ((Kd.R_reads' (Kd.R_after (ok := (fun _ => True)) (Kd.pR HO_7.out) hg hat)).2.1)))
                                                        have n10_ := Aside0.mk (ho)
                                                        clear HO_6
                                                        clear HO_7
                                                        clear HO_8
                                                        clear HO364
                                                        clear HO384
                                                        clear HB
                                                        (try clear HR371)
                                                        (try clear HR378)
                                                        (try clear HR388)
                                                        (try clear HR395)
                                                        (try clear HO367)
                                                        have HO_6 := n0_
                                                        have HO_7 := n1_
                                                        have HO_8 := n2_
                                                        have HO364 := n3_
                                                        have HO384 := n4_
                                                        have HB := n5_
                                                        have HR378 := n7_
                                                        have HO374 := n10_
                                                        clear n0_ n1_ n2_ n3_ n4_ n5_ n7_ n10_
                                                        clear ho hb hg hat
                                                        refine hK.out _ _ trivial (fun hHeld => ?_)
                                                        clear hK K
                                                        refine norm_ (a' := ?_) ?_ ?_
                                                        rotate_left
                                                        · show Act.put _ (some 72) _ = _
                                                          simp only [Act.put, List.setIfInBounds_toArray, List.set_cons_zero, List.set_cons_succ, i64_w, i32_w]
                                                          rfl
                                                        refine one_ (i := 10) (N := some 77) #[true, true, true, true, true, true, true, true, true, true, true, true, true, true, true, false, true, true, true, true, false, false, false, false] rfl rfl (one_of HT_.out (by kernel_rfl)) (by decide) (fun K hK => ?_)
                                                        refine Kd.R_append_rows_step (Kd.int .u32) (w0 := w) w.heap.size (by rfl) (.tmp 72) (.tmp 76) 73 23 (.int .u32 0) 4 rfl Try.underlying73 info23 rfl (by decide) (by omega) v373 y372 y375 _ _ _ (fun k_ => some k_ ≠ (.slice Ao42 x7_1.length co42 : Value).ownBlock) (fun _ => False) rfl rfl ?aO ?aR (fun _ _ h => h) (fun _ h => h.elim) ?aF ?aB ?aS ?aL ?_
                                                        (case aR => exact Kd.pC HR378.out)
                                                        (case aB => exact (pB HB.out))
                                                        (case aF => exact (fun k_ hk => Kd.fresh' (Kd.R_lt (Kd.pR HO_7.out)) k_ hk))
                                                        (case aO => exact (Kd.pR HO374.out))
                                                        (case aS => exact (below_size (pB HB.out)))
                                                        (case aL => have := LMc31.out; omega)
                                                        intro v380 w56 ho hb hg hat
                                                        rw [← Ny379.out] at ho
                                                        have n0_ := Aside0.mk (Kd.R_over' (Kd.pR HO_6.out) (Kd.R_typed (Kd.pR HO374.out)) (by decide) hg)
                                                        have n1_ := Aside0.mk (Kd.R_after (ok := (fun _ => True)) (Kd.pR HO_7.out) hg hat)
                                                        have n2_ := Aside0.mk (Kd.R_over' (Kd.pR HO_8.out) (Kd.R_typed (Kd.pR HO374.out)) (by decide) hg)
                                                        have n3_ := Aside0.mk (Kd.R_over' (Kd.pR HO364.out) (Kd.R_typed (Kd.pR HO374.out)) (by decide) hg)
                                                        have n4_ := Aside0.mk (Kd.R_over' (Kd.pR HO384.out) (Kd.R_typed (Kd.pR HO374.out)) (by decide) hg)
                                                        have n5_ := Aside0.mk (hb)
                                                        have n6_ := Aside0.mk ((show Kd.C (Kd.int .u32) w56 Ao42 y368.length y368 from by rw [Ny368.out]; exact Kd.C_take (m := (x10_2 : Int).toNat) ((Kd.R_reads' (Kd.R_after (ok := (fun _ => True)) (Kd.pR HO_7.out) hg hat)).2.2) KL46.out))
                                                        have n10_ := Aside0.mk (ho)
                                                        clear HO_6
                                                        clear HO_7
                                                        clear HO_8
                                                        clear HO364
                                                        clear HO384
                                                        clear HB
                                                        (try clear HR371)
                                                        (try clear HR378)
                                                        (try clear HR388)
                                                        (try clear HR395)
                                                        (try clear HO374)
                                                        have HO_6 := n0_
                                                        have HO_7 := n1_
                                                        have HO_8 := n2_
                                                        have HO364 := n3_
                                                        have HO384 := n4_
                                                        have HB := n5_
                                                        have HR371 := n6_
                                                        have HO381 := n10_
                                                        clear n0_ n1_ n2_ n3_ n4_ n5_ n6_ n10_
                                                        clear ho hb hg hat
                                                        refine hK.out _ _ trivial (fun hHeld => ?_)
                                                        clear hK K
                                                        refine norm_ (a' := ?_) ?_ ?_
                                                        rotate_left
                                                        · show Act.put _ (some 77) _ = _
                                                          simp only [Act.put, List.setIfInBounds_toArray, List.set_cons_zero, List.set_cons_succ, i64_w, i32_w]
                                                          rfl
                                                        exact norm_ (by simp only [putAll, Act.put, List.setIfInBounds_toArray, List.set_cons_zero, List.set_cons_succ]) (hCont (v366, v373, v380, v383) _ ⟨(Kd.pR (Kd.R_mono HO364.out (fun _ hk => hk.2))), (Kd.pR HO381.out), (Kd.pR (Kd.R_mono HO384.out (fun _ hk => hk.2))), (Kd.pR (Kd.R_mono HO_6.out (fun _ hk => hk.2))), (Kd.pR (Kd.R_mono HO_7.out (fun _ hk => hk.2))), (Kd.pR (Kd.R_mono HO_8.out (fun _ hk => hk.2))), (pB HB.out)⟩)
                                                    · skip
                                                      refine Kd.R_lit_step (Kd.int .i64) _ 3 ?hg (N := 78) ?hd (xs := ([] : List Int)) (inner := []) (ok := fun _ => True) (okp := fun _ => True) ?hr ?hp (fun _ hk => hk) trivial (Below.refl _ _) (Nat.le_refl _) (by simp) ?_; (case hd => rfl); (case hg => rfl); (case hr => first | (go_simp; done) | (go_simp; rfl)); (case hp => exact (Reps.none _ _))
                                                      intro v383 w51 ho52 hb hg_ hnew_
                                                      clear hg_ hnew_
                                                      (first | rw [← Ny382.out] at ho52 | (simp only [Int.reduceToNat] at ho52; rw [← Ny382.out] at ho52))
                                                      have n0_ := Aside0.mk (Kd.R_below (Kd.pR HO_6.out) hb)
                                                      have n1_ := Aside0.mk (Kd.R_below (Kd.pR HO_7.out) hb)
                                                      have n2_ := Aside0.mk (Kd.R_elder' (Kd.pR HO_8.out) (Kd.R_base ho52) hb)
                                                      have n3_ := Aside0.mk (Kd.R_below (Kd.pR HO364.out) hb)
                                                      have n4_ := Aside0.mk (Kd.R_lower (Kd.R_new' ho52 (Kd.R_lt (Kd.pR HO_8.out))) (below_size (pB HB.out)))
                                                      have n5_ := Aside0.mk (Kd.C_below (Kd.pC HR371.out) hb)
                                                      have n9_ := Aside0.mk (below_step (pB HB.out) hb)
                                                      clear HO_6
                                                      clear HO_7
                                                      clear HO_8
                                                      clear HO364
                                                      (try clear HR371)
                                                      (try clear HR378)
                                                      (try clear HR388)
                                                      (try clear HR395)
                                                      clear HB
                                                      have HO_6 := n0_
                                                      have HO_7 := n1_
                                                      have HO_8 := n2_
                                                      have HO364 := n3_
                                                      have HO384 := n4_
                                                      have HR371 := n5_
                                                      have HB := n9_
                                                      clear n0_ n1_ n2_ n3_ n4_ n5_ n9_
                                                      clear hb ho52
                                                      refine hK.out _ _ trivial (fun hHeld => ?_)
                                                      clear hK K
                                                      refine norm_ (a' := ?_) ?_ ?_
                                                      rotate_left
                                                      · show Act.put _ (some 78) _ = _
                                                        simp only [Act.put, List.setIfInBounds_toArray, List.set_cons_zero, List.set_cons_succ, i64_w, i32_w]
                                                        rfl
                                                      refine one_ (i := 1) (N := some 68) #[true, true, true, true, true, false, true, true, true, true, false, true, true, true, true, false, true, true, true, true, false, false, false, false] rfl rfl (one_of HT_.out (by kernel_rfl)) (by decide) (fun K hK => ?_)
                                                      refine Kd.R_lit_step (Kd.int .u32) _ 23 ?hg (N := 68) ?hd (xs := ([] : List Int)) (inner := []) (ok := fun _ => True) (okp := fun _ => True) ?hr ?hp (fun _ hk => hk) trivial (Below.refl _ _) (Nat.le_refl _) (by simp) ?_; (case hd => rfl); (case hg => rfl); (case hr => first | (go_simp; done) | (go_simp; rfl)); (case hp => exact (Reps.none _ _))
                                                      intro v366 w53 ho54 hb hg_ hnew_
                                                      clear hg_ hnew_
                                                      (first | rw [← Ny365.out] at ho54 | (simp only [Int.reduceToNat] at ho54; rw [← Ny365.out] at ho54))
                                                      have n0_ := Aside0.mk (Kd.R_below (Kd.pR HO_6.out) hb)
                                                      have n1_ := Aside0.mk (Kd.R_elder' (Kd.pR HO_7.out) (Kd.R_base ho54) hb)
                                                      have n2_ := Aside0.mk (Kd.R_below (Kd.pR HO_8.out) hb)
                                                      have n3_ := Aside0.mk (Kd.R_below (Kd.pR HO364.out) hb)
                                                      have n4_ := Aside0.mk (Kd.R_below (Kd.pR HO384.out) hb)
                                                      have n5_ := Aside0.mk (Kd.R_lower (Kd.R_new' ho54 (Kd.R_lt (Kd.pR HO_7.out))) (below_size (pB HB.out)))
                                                      have n6_ := Aside0.mk (Kd.C_below (Kd.pC HR371.out) hb)
                                                      have n10_ := Aside0.mk (below_step (pB HB.out) hb)
                                                      clear HO_6
                                                      clear HO_7
                                                      clear HO_8
                                                      clear HO364
                                                      clear HO384
                                                      (try clear HR371)
                                                      (try clear HR378)
                                                      (try clear HR388)
                                                      (try clear HR395)
                                                      clear HB
                                                      have HO_6 := n0_
                                                      have HO_7 := n1_
                                                      have HO_8 := n2_
                                                      have HO364 := n3_
                                                      have HO384 := n4_
                                                      have HO367 := n5_
                                                      have HR371 := n6_
                                                      have HB := n10_
                                                      clear n0_ n1_ n2_ n3_ n4_ n5_ n6_ n10_
                                                      clear hb ho54
                                                      refine hK.out _ _ trivial (fun hHeld => ?_)
                                                      clear hK K
                                                      refine norm_ (a' := ?_) ?_ ?_
                                                      rotate_left
                                                      · show Act.put _ (some 68) _ = _
                                                        simp only [Act.put, List.setIfInBounds_toArray, List.set_cons_zero, List.set_cons_succ, i64_w, i32_w]
                                                        rfl
                                                      refine one_ (i := 5) (N := some 72) #[true, true, true, true, true, true, true, true, true, true, false, true, true, true, true, false, true, true, true, true, false, false, false, false] rfl rfl (one_of HT_.out (by kernel_rfl)) (by decide) (fun K hK => ?_)
                                                      refine Kd.R_append_rows_step (Kd.int .u32) (w0 := w) w.heap.size (by rfl) (.tmp 68) (.tmp 71) 73 23 (.int .u32 0) 4 rfl Try.underlying73 info23 rfl (by decide) (by omega) v366 y365 y368 _ _ _ (fun k_ => some k_ ≠ (.slice Ao42 x7_1.length co42 : Value).ownBlock) (fun _ => False) rfl rfl ?aO ?aR (fun _ _ h => h) (fun _ h => h.elim) ?aF ?aB ?aS ?aL ?_
                                                      (case aR => exact Kd.pC HR371.out)
                                                      (case aB => exact (pB HB.out))
                                                      (case aF => exact (fun k_ hk => Kd.fresh' (Kd.R_lt (Kd.pR HO_7.out)) k_ hk))
                                                      (case aO => exact (Kd.pR (Kd.R_mono HO367.out (fun _ hk => hk.2))))
                                                      (case aS => exact (below_size (pB HB.out)))
                                                      (case aL => have := LMc27.out; omega)
                                                      intro v373 w55 ho hb hg hat
                                                      rw [← Ny372.out] at ho
                                                      have n0_ := Aside0.mk (Kd.R_over' (Kd.pR HO_6.out) (Kd.R_typed (Kd.pR HO367.out)) (by decide) hg)
                                                      have n1_ := Aside0.mk (Kd.R_after (ok := (fun _ => True)) (Kd.pR HO_7.out) hg hat)
                                                      have n2_ := Aside0.mk (Kd.R_over' (Kd.pR HO_8.out) (Kd.R_typed (Kd.pR HO367.out)) (by decide) hg)
                                                      have n3_ := Aside0.mk (Kd.R_over' (Kd.pR HO364.out) (Kd.R_typed (Kd.pR HO367.out)) (by decide) hg)
                                                      have n4_ := Aside0.mk (Kd.R_over' (Kd.pR HO384.out) (Kd.R_typed (Kd.pR HO367.out)) (by decide) hg)
                                                      have n5_ := Aside0.mk (hb)
                                                      have n7_ := Aside0.mk ((show Kd.C (Kd.int .u32) w55 A47 y375.length y375 from by rw [Ny375.out, KA47.out]; exact Kd.C_drop (m := ((ji28) : Int).toNat) (c := co42) ((Kd.R_reads' (Kd.R_after (ok := (fun _ => True)) (Kd.pR HO_7.out) hg hat)).2.2) KL47.out ((Kd.R_reads' (Kd.R_after (ok := (fun _ => True)) (Kd.pR HO_7.out) hg hat)).2.1)))
                                                      have n10_ := Aside0.mk (ho)
                                                      clear HO_6
                                                      clear HO_7
                                                      clear HO_8
                                                      clear HO364
                                                      clear HO384
                                                      clear HB
                                                      (try clear HR371)
                                                      (try clear HR378)
                                                      (try clear HR388)
                                                      (try clear HR395)
                                                      (try clear HO367)
                                                      have HO_6 := n0_
                                                      have HO_7 := n1_
                                                      have HO_8 := n2_
                                                      have HO364 := n3_
                                                      have HO384 := n4_
                                                      have HB := n5_
                                                      have HR378 := n7_
                                                      have HO374 := n10_
                                                      clear n0_ n1_ n2_ n3_ n4_ n5_ n7_ n10_
                                                      clear ho hb hg hat
                                                      refine hK.out _ _ trivial (fun hHeld => ?_)
                                                      clear hK K
                                                      refine norm_ (a' := ?_) ?_ ?_
                                                      rotate_left
                                                      · show Act.put _ (some 72) _ = _
                                                        simp only [Act.put, List.setIfInBounds_toArray, List.set_cons_zero, List.set_cons_succ, i64_w, i32_w]
                                                        rfl
                                                      refine one_ (i := 10) (N := some 77) #[true, true, true, true, true, true, true, true, true, true, true, true, true, true, true, false, true, true, true, true, false, false, false, false] rfl rfl (one_of HT_.out (by kernel_rfl)) (by decide) (fun K hK => ?_)
                                                      refine Kd.R_append_rows_step (Kd.int .u32) (w0 := w) w.heap.size (by rfl) (.tmp 72) (.tmp 76) 73 23 (.int .u32 0) 4 rfl Try.underlying73 info23 rfl (by decide) (by omega) v373 y372 y375 _ _ _ (fun k_ => some k_ ≠ (.slice Ao42 x7_1.length co42 : Value).ownBlock) (fun _ => False) rfl rfl ?aO ?aR (fun _ _ h => h) (fun _ h => h.elim) ?aF ?aB ?aS ?aL ?_
                                                      (case aR => exact Kd.pC HR378.out)
                                                      (case aB => exact (pB HB.out))
                                                      (case aF => exact (fun k_ hk => Kd.fresh' (Kd.R_lt (Kd.pR HO_7.out)) k_ hk))
                                                      (case aO => exact (Kd.pR HO374.out))
                                                      (case aS => exact (below_size (pB HB.out)))
                                                      (case aL => have := LMc31.out; omega)
                                                      intro v380 w56 ho hb hg hat
                                                      rw [← Ny379.out] at ho
                                                      have n0_ := Aside0.mk (Kd.R_over' (Kd.pR HO_6.out) (Kd.R_typed (Kd.pR HO374.out)) (by decide) hg)
                                                      have n1_ := Aside0.mk (Kd.R_after (ok := (fun _ => True)) (Kd.pR HO_7.out) hg hat)
                                                      have n2_ := Aside0.mk (Kd.R_over' (Kd.pR HO_8.out) (Kd.R_typed (Kd.pR HO374.out)) (by decide) hg)
                                                      have n3_ := Aside0.mk (Kd.R_over' (Kd.pR HO364.out) (Kd.R_typed (Kd.pR HO374.out)) (by decide) hg)
                                                      have n4_ := Aside0.mk (Kd.R_over' (Kd.pR HO384.out) (Kd.R_typed (Kd.pR HO374.out)) (by decide) hg)
                                                      have n5_ := Aside0.mk (hb)
                                                      have n6_ := Aside0.mk ((show Kd.C (Kd.int .u32) w56 Ao42 y368.length y368 from by rw [Ny368.out]; exact Kd.C_take (m := (x10_2 : Int).toNat) ((Kd.R_reads' (Kd.R_after (ok := (fun _ => True)) (Kd.pR HO_7.out) hg hat)).2.2) KL46.out))
                                                      have n7_ := Aside0.mk ((show Kd.C (Kd.int .u32) w56 A47 y375.length y375 from by rw [Ny375.out, KA47.out]; exact Kd.C_drop (m := ((ji28) : Int).toNat) (c := co42) ((Kd.R_reads' (Kd.R_after (ok := (fun _ => True)) (Kd.pR HO_7.out) hg hat)).2.2) KL47.out ((Kd.R_reads' (Kd.R_after (ok := (fun _ => True)) (Kd.pR HO_7.out) hg hat)).2.1)))
                                                      have n8_ := Aside0.mk ((show Kd.C (Kd.int .i64) w56 Ao49 y385.length y385 from by rw [Ny385.out]; exact Kd.C_take (m := (x10_2 : Int).toNat) ((Kd.R_reads' (Kd.R_over' (Kd.pR HO_8.out) (Kd.R_typed (Kd.pR HO374.out)) (by decide) hg)).2.2) KL48.out))
                                                      have n9_ := Aside0.mk ((show Kd.C (Kd.int .i64) w56 A50 y392.length y392 from by rw [Ny392.out, KA50.out]; exact Kd.C_drop (m := ((ji28) : Int).toNat) (c := co49) ((Kd.R_reads' (Kd.R_over' (Kd.pR HO_8.out) (Kd.R_typed (Kd.pR HO374.out)) (by decide) hg)).2.2) KL50.out ((Kd.R_reads' (Kd.R_over' (Kd.pR HO_8.out) (Kd.R_typed (Kd.pR HO374.out)) (by decide) hg)).2.1)))
                                                      have n10_ := Aside0.mk (ho)
                                                      clear HO_6
                                                      clear HO_7
                                                      clear HO_8
                                                      clear HO364
                                                      clear HO384
                                                      clear HB
                                                      (try clear HR371)
                                                      (try clear HR378)
                                                      (try clear HR388)
                                                      (try clear HR395)
                                                      (try clear HO374)
                                                      have HO_6 := n0_
                                                      have HO_7 := n1_
                                                      have HO_8 := n2_
                                                      have HO364 := n3_
                                                      have HO384 := n4_
                                                      have HB := n5_
                                                      have HR371 := n6_
                                                      have HR378 := n7_
                                                      have HR388 := n8_
                                                      have HR395 := n9_
                                                      have HO381 := n10_
                                                      clear n0_ n1_ n2_ n3_ n4_ n5_ n6_ n7_ n8_ n9_ n10_
                                                      clear ho hb hg hat
                                                      refine hK.out _ _ trivial (fun hHeld => ?_)
                                                      clear hK K
                                                      refine norm_ (a' := ?_) ?_ ?_
                                                      rotate_left
                                                      · show Act.put _ (some 77) _ = _
                                                        simp only [Act.put, List.setIfInBounds_toArray, List.set_cons_zero, List.set_cons_succ, i64_w, i32_w]
                                                        rfl
                                                      exact norm_ (by simp only [putAll, Act.put, List.setIfInBounds_toArray, List.set_cons_zero, List.set_cons_succ]) (hCont (v366, v373, v380, v383) _ ⟨(Kd.pR (Kd.R_mono HO364.out (fun _ hk => hk.2))), (Kd.pR HO381.out), (Kd.pR (Kd.R_mono HO384.out (fun _ hk => hk.2))), (Kd.pR (Kd.R_mono HO_6.out (fun _ hk => hk.2))), (Kd.pR (Kd.R_mono HO_7.out (fun _ hk => hk.2))), (Kd.pR (Kd.R_mono HO_8.out (fun _ hk => hk.2))), (pB HB.out)⟩)
                                                  rintro ⟨v366, v373, v380, v383⟩ w57 ⟨h0_, h1_, h2_, h3_, h4_, h5_, h6_⟩
                                                  have n0_ : Aside0 (Kd.R k71 71 w57 w.heap.size (fun k_ => some k_ ≠ (.slice Ao43 x6_1.length co43 : Value).ownBlock) v363 t361) := ⟨h0_⟩
                                                  have n1_ : Aside0 (Kd.R (Kd.int .u32) 23 w57 w.heap.size (fun k_ => some k_ ≠ (.slice Ao42 x7_1.length co42 : Value).ownBlock) v380 y379) := ⟨h1_⟩
                                                  have n2_ : Aside0 (Kd.R (Kd.int .i64) 3 w57 w.heap.size (fun k_ => some k_ ≠ (.slice Ao49 x8_1.length co49 : Value).ownBlock) v383 y382) := ⟨h2_⟩
                                                  have n3_ : Aside0 (Kd.R k71 71 w57 w.heap.size (fun k_ => some k_ ≠ (v363 : Value).ownBlock) (.slice Ao43 x6_1.length co43) x6_1) := ⟨h3_⟩
                                                  have n4_ : Aside0 (Kd.R (Kd.int .u32) 23 w57 w.heap.size (fun k_ => some k_ ≠ (v380 : Value).ownBlock) (.slice Ao42 x7_1.length co42) x7_1) := ⟨h4_⟩
                                                  have n5_ : Aside0 (Kd.R (Kd.int .i64) 3 w57 w.heap.size (fun k_ => some k_ ≠ (v383 : Value).ownBlock) (.slice Ao49 x8_1.length co49) x8_1) := ⟨h5_⟩
                                                  have n6_ : Aside0 (Below w.heap.size w w57) := ⟨h6_⟩
                                                  clear HO_6
                                                  clear HO_7
                                                  clear HO_8
                                                  clear HO364
                                                  clear HB
                                                  clear h0_ h1_ h2_ h3_ h4_ h5_ h6_
                                                  have HO364 := n0_
                                                  have HO381 := n1_
                                                  have HO384 := n2_
                                                  have HO_6 := n3_
                                                  have HO_7 := n4_
                                                  have HO_8 := n5_
                                                  have HB := n6_
                                                  clear n0_ n1_ n2_ n3_ n4_ n5_ n6_
                                                  have hHeld := trivial
                                                  have HR371 := Aside0.mk (show Kd.C (Kd.int .u32) _ Ao42 y368.length y368 from by rw [Ny368.out]; exact Kd.C_take (m := (x10_2 : Int).toNat) ((Kd.R_reads' HO_7.out).2.2) KL46.out)
                                                  have HR378 := Aside0.mk (show Kd.C (Kd.int .u32) _ A47 y375.length y375 from by rw [Ny375.out, KA47.out]; exact Kd.C_drop (m := ((ji28) : Int).toNat) (c := co42) ((Kd.R_reads' HO_7.out).2.2) KL47.out ((Kd.R_reads' HO_7.out).2.1))
                                                  have HR388 := Aside0.mk (show Kd.C (Kd.int .i64) _ Ao49 y385.length y385 from by rw [Ny385.out]; exact Kd.C_take (m := (x10_2 : Int).toNat) ((Kd.R_reads' HO_8.out).2.2) KL48.out)
                                                  have HR395 := Aside0.mk (show Kd.C (Kd.int .i64) _ A50 y392.length y392 from by rw [Ny392.out, KA50.out]; exact Kd.C_drop (m := ((ji28) : Int).toNat) (c := co49) ((Kd.R_reads' HO_8.out).2.2) KL50.out ((Kd.R_reads' HO_8.out).2.1))
                                                  refine norm_ (a' := ?_) ?_ ?_
                                                  rotate_left
                                                  · simp only [putAll, Act.put, List.setIfInBounds_toArray, List.set_cons_zero, List.set_cons_succ]
                                                    rfl
                                                  refine one_ (i := 15) (N := some 82) #[true, true, true, true, true, true, true, true, true, true, true, true, true, true, true, true, true, true, true, true, false, false, false, false] rfl rfl (one_of HT_.out (by kernel_rfl)) (by decide) (fun K hK => ?_)
                                                  refine Kd.R_append_rows_step (Kd.int .i64) (w0 := w) w.heap.size (by rfl) (.tmp 78) (.tmp 81) 33 3 (.int .i64 0) 8 rfl Try.underlying33 info3 rfl (by decide) (by omega) v383 y382 y385 _ _ _ (fun k_ => some k_ ≠ (.slice Ao49 x8_1.length co49 : Value).ownBlock) (fun _ => False) rfl rfl ?aO ?aR (fun _ _ h => h) (fun _ h => h.elim) ?aF ?aB ?aS ?aL ?_
                                                  (case aR => exact Kd.pC HR388.out)
                                                  (case aB => exact (pB HB.out))
                                                  (case aF => exact (fun k_ hk => Kd.fresh' (Kd.R_lt (Kd.pR HO_8.out)) k_ hk))
                                                  (case aO => exact (Kd.pR HO384.out))
                                                  (case aS => exact (below_size (pB HB.out)))
                                                  (case aL => have := LMc34.out; omega)
                                                  intro v390 w58 ho hb hg hat
                                                  rw [← Ny389.out] at ho
                                                  have n0_ := Aside0.mk (Kd.R_over' (Kd.pR HO_6.out) (Kd.R_typed (Kd.pR HO384.out)) (by decide) hg)
                                                  have n1_ := Aside0.mk (Kd.R_over' (Kd.pR HO_7.out) (Kd.R_typed (Kd.pR HO384.out)) (by decide) hg)
                                                  have n2_ := Aside0.mk (Kd.R_after (ok := (fun _ => True)) (Kd.pR (Kd.R_mono HO_8.out (fun _ hk => ⟨trivial, hk⟩))) hg hat)
                                                  have n3_ := Aside0.mk (Kd.R_over' (Kd.pR HO364.out) (Kd.R_typed (Kd.pR HO384.out)) (by decide) hg)
                                                  have n4_ := Aside0.mk (Kd.R_over' (Kd.pR HO381.out) (Kd.R_typed (Kd.pR HO384.out)) (by decide) hg)
                                                  have n5_ := Aside0.mk (hb)
                                                  have n9_ := Aside0.mk ((show Kd.C (Kd.int .i64) w58 A50 y392.length y392 from by rw [Ny392.out, KA50.out]; exact Kd.C_drop (m := ((ji28) : Int).toNat) (c := co49) ((Kd.R_reads' (Kd.R_after (ok := (fun _ => True)) (Kd.pR (Kd.R_mono HO_8.out (fun _ hk => ⟨trivial, hk⟩))) hg hat)).2.2) KL50.out ((Kd.R_reads' (Kd.R_after (ok := (fun _ => True)) (Kd.pR (Kd.R_mono HO_8.out (fun _ hk => ⟨trivial, hk⟩))) hg hat)).2.1)))
                                                  have n10_ := Aside0.mk (ho)
                                                  clear HO_6
                                                  clear HO_7
                                                  clear HO_8
                                                  clear HO364
                                                  clear HO381
                                                  clear HB
                                                  (try clear HR371)
                                                  (try clear HR378)
                                                  (try clear HR388)
                                                  (try clear HR395)
                                                  (try clear HO384)
                                                  have HO_6 := n0_
                                                  have HO_7 := n1_
                                                  have HO_8 := n2_
                                                  have HO364 := n3_
                                                  have HO381 := n4_
                                                  have HB := n5_
                                                  have HR395 := n9_
                                                  have HO391 := n10_
                                                  clear n0_ n1_ n2_ n3_ n4_ n5_ n9_ n10_
                                                  clear ho hb hg hat
                                                  refine hK.out _ _ trivial (fun hHeld => ?_)
                                                  clear hK K
                                                  refine norm_ (a' := ?_) ?_ ?_
                                                  rotate_left
                                                  · show Act.put _ (some 82) _ = _
                                                    simp only [Act.put, List.setIfInBounds_toArray, List.set_cons_zero, List.set_cons_succ, i64_w, i32_w]
                                                    rfl
                                                  refine one_ (i := 20) (N := some 87) #[true, true, true, true, true, true, true, true, true, true, true, true, true, true, true, true, true, true, true, true, true, false, false, false] rfl rfl (one_of HT_.out (by kernel_rfl)) (by decide) (fun K hK => ?_)
                                                  refine Kd.R_append_rows_step (Kd.int .i64) (w0 := w) w.heap.size (by rfl) (.tmp 82) (.tmp 86) 33 3 (.int .i64 0) 8 rfl Try.underlying33 info3 rfl (by decide) (by omega) v390 y389 y392 _ _ _ (fun k_ => some k_ ≠ (.slice Ao49 x8_1.length co49 : Value).ownBlock) (fun _ => False) rfl rfl ?aO ?aR (fun _ _ h => h) (fun _ h => h.elim) ?aF ?aB ?aS ?aL ?_
                                                  (case aR => exact Kd.pC HR395.out)
                                                  (case aB => exact (pB HB.out))
                                                  (case aF => exact (fun k_ hk => Kd.fresh' (Kd.R_lt (Kd.pR HO_8.out)) k_ hk))
                                                  (case aO => exact (Kd.pR HO391.out))
                                                  (case aS => exact (below_size (pB HB.out)))
                                                  (case aL => have := LMc37.out; omega)
                                                  intro v397 w59 ho hb hg hat
                                                  rw [← Ny396.out] at ho
                                                  have n0_ := Aside0.mk (Kd.R_over' (Kd.pR HO_6.out) (Kd.R_typed (Kd.pR HO391.out)) (by decide) hg)
                                                  have n1_ := Aside0.mk (Kd.R_over' (Kd.pR HO_7.out) (Kd.R_typed (Kd.pR HO391.out)) (by decide) hg)
                                                  have n2_ := Aside0.mk (Kd.R_after (ok := (fun _ => True)) (Kd.pR HO_8.out) hg hat)
                                                  have n3_ := Aside0.mk (Kd.R_over' (Kd.pR HO364.out) (Kd.R_typed (Kd.pR HO391.out)) (by decide) hg)
                                                  have n4_ := Aside0.mk (Kd.R_over' (Kd.pR HO381.out) (Kd.R_typed (Kd.pR HO391.out)) (by decide) hg)
                                                  have n5_ := Aside0.mk (hb)
                                                  have n10_ := Aside0.mk (ho)
                                                  clear HO_6
                                                  clear HO_7
                                                  clear HO_8
                                                  clear HO364
                                                  clear HO381
                                                  clear HB
                                                  (try clear HR371)
                                                  (try clear HR378)
                                                  (try clear HR388)
                                                  (try clear HR395)
                                                  (try clear HO391)
                                                  have HO_6 := n0_
                                                  have HO_7 := n1_
                                                  have HO_8 := n2_
                                                  have HO364 := n3_
                                                  have HO381 := n4_
                                                  have HB := n5_
                                                  have HO398 := n10_
                                                  clear n0_ n1_ n2_ n3_ n4_ n5_ n10_
                                                  clear ho hb hg hat
                                                  refine hK.out _ _ trivial (fun hHeld => ?_)
                                                  clear hK K
                                                  refine norm_ (a' := ?_) ?_ ?_
                                                  rotate_left
                                                  · show Act.put _ (some 87) _ = _
                                                    simp only [Act.put, List.setIfInBounds_toArray, List.set_cons_zero, List.set_cons_succ, i64_w, i32_w]
                                                    rfl
                                                  refine pure_ (i := 21) (N := some 6) (v := ?_) (a' := ?_) #[true, true, true, true, true, true, true, true, true, true, true, true, true, true, true, true, true, true, true, true, true, true, false, false] rfl rfl (any_of HT_.out (by kernel_rfl)) (fun _ _ _ h => h) (Or.inl ⟨by rfl, ?_⟩) ?_ ?_
                                                  rotate_left
                                                  · intro w'
                                                    go_simp
                                                    with_reducible rfl
                                                  rotate_left
                                                  · simp only [Act.put, List.setIfInBounds_toArray, List.set_cons_zero, List.set_cons_succ, i64_w, i32_w]
                                                    rfl
                                                  refine pure_ (i := 22) (N := some 7) (v := ?_) (a' := ?_) #[true, true, true, true, true, true, true, true, true, true, true, true, true, true, true, true, true, true, true, true, true, true, true, false] rfl rfl (any_of HT_.out (by kernel_rfl)) (fun _ _ _ h => h) (Or.inl ⟨by rfl, ?_⟩) ?_ ?_
                                                  rotate_left
                                                  · intro w'
                                                    go_simp
                                                    with_reducible rfl
                                                  rotate_left
                                                  · simp only [Act.put, List.setIfInBounds_toArray, List.set_cons_zero, List.set_cons_succ, i64_w, i32_w]
                                                    rfl
                                                  refine pure_ (i := 23) (N := some 8) (v := ?_) (a' := ?_) #[true, true, true, true, true, true, true, true, true, true, true, true, true, true, true, true, true, true, true, true, true, true, true, true] rfl rfl (any_of HT_.out (by kernel_rfl)) (fun _ _ _ h => h) (Or.inl ⟨by rfl, ?_⟩) ?_ ?_
                                                  rotate_left
                                                  · intro w'
                                                    go_simp
                                                    with_reducible rfl
                                                  rotate_left
                                                  · simp only [Act.put, List.setIfInBounds_toArray, List.set_cons_zero, List.set_cons_succ, i64_w, i32_w]
                                                    rfl
                                                  refine done_ (done_of HT_.out (by kernel_rfl)) ?_
                                                  obtain ⟨Ao60, co60, eo60⟩ := Kd.R_slice HO364.out
                                                  subst eo60
                                                  try go_wp2_with (first | ((with_reducible refine gate_callee (f := 21) rfl ?_); refine goesE (some 120) rfl rfl Try.func21 (by kernel_rfl) rfl #[.slice Ao60 t361.length co60] rfl ?_; (with_reducible refine (spigotref14_Check.calls k2 _ _ t361 t399 _ ?side1 ?side2 A38.out).mono ?_); (case side1 => exact Kd.pC ((Kd.R_reads' HO364.out).2.2)); (case side2 => exact (Kd.R_reads' HO364.out).2.1); rintro e w' ⟨rfl, ⟨nd, rfl⟩⟩; refine ⟨_, rfl, ?_⟩) | (go_at_call 43; (with_reducible refine (spigotref14_Count.calls k2 _ _ t361 t400 _ ?side1 ?side2 A40.out).mono ?_); (case side1 => exact Kd.pC ((Kd.R_reads' HO364.out).2.2)); (case side2 => exact (Kd.R_reads' HO364.out).2.1); rintro e w' ⟨rfl, ⟨nd, rfl⟩⟩; obtain ⟨Ao61, co61, eo61⟩ := Kd.R_slice HO381.out; subst eo61))
                                                  go_roundg k2
                                                  case measure => have := HK1.out; have := HK2.out; omega
                                                  case rel => exact ⟨(t361), (y379), (y396), (wrap64 (x9_1 + 1)), (by first | rfl | (simp; done) | (simp [*]; done)), H', ⟨by have := HK1.out; have := HK2.out; omega⟩, ⟨Kd.pR (Kd.R_mono HO364.out (fun _ hk => trivial))⟩, ⟨Kd.pR (Kd.R_mono HO381.out (fun _ hk => trivial))⟩, ⟨Kd.pR (Kd.R_mono HO398.out (fun _ hk => trivial))⟩, ⟨pB HB.out⟩⟩
                                                · rw [if_neg c41] at H
                                                  have c41b0 : (t400 == (y379.length : Int)) = false := beq_eq_false_iff_ne.mpr c41
                                                  have c41b1 : (t400 != (y379.length : Int)) = true := bne_iff_ne.mpr c41
                                                  exact absurd H (by simp)
                                              · rw [if_neg c39] at H
                                                have c39b0 : (t399 == 0) = false := beq_eq_false_iff_ne.mpr c39
                                                have c39b1 : (t399 != 0) = true := bne_iff_ne.mpr c39
                                                exact absurd H (by simp)
                                            · rw [if_neg c37] at H
                                              exact absurd H (by simp)
                                          · rw [if_neg c36] at H
                                            exact absurd H (by simp)
                                        · rw [if_neg c34] at H
                                          exact absurd H (by simp)
                                      · rw [if_neg c33] at H
                                        exact absurd H (by simp)
                                    · rw [if_neg c31] at H
                                      exact absurd H (by simp)
                                  · rw [if_neg c30] at H
                                    exact absurd H (by simp)
                                · rw [if_neg c29] at H
                                  exact absurd H (by simp)
                              · rw [if_neg c27] at H
                                exact absurd H (by simp)
                            · rw [if_neg c26] at H
                              exact absurd H (by simp)
                          · rw [if_neg c25] at H
                            exact absurd H (by simp)
                        · rw [if_neg c24] at H
                          have c24b0 : (t362 == 0) = false := beq_eq_false_iff_ne.mpr c24
                          have c24b1 : (t362 != 0) = true := bne_iff_ne.mpr c24
                          exact absurd H (by simp)
                      · rw [if_neg c22] at H
                        exact absurd H (by simp)
                    · rw [if_neg c21] at H
                      exact absurd H (by simp)
                  · rw [if_neg c20] at H
                    have c20b0 : decide (0 ≤ x10_2) = false := decide_eq_false c20
                    clear c20
                    by_cases c62 : 0 ≤ x9_1
                    · rw [if_pos c62] at H
                      have c62b0 : decide (0 ≤ x9_1) = true := decide_eq_true c62
                      clear c62
                      by_cases c63 : x9_1 < (l0.length : Int)
                      · rw [if_pos c63] at H
                        have c63b0 : decide (x9_1 < (l0.length : Int)) = true := decide_eq_true c63
                        clear c63
                        replace H := Option.bind_eq_some_iff.mp H
                        obtain ⟨⟨t402, t403⟩, A640, H⟩ := H
                        replace H : (if (x7_1.length : Int) = 12 then (if t403 = 18 then (spigotlaw14_ProbeExact.l0 k2 l0 a1 true x6_1 x7_1 x8_1 (wrap64 (x9_1 + 1))) else (some false)) else (if t403 = 0 then (if x7_1.length < 35184372088832 then ((some (x7_1 ++ [rd l0 x9_1] : List Int)).bind fun y407 => (if x8_1.length < 17592186044416 then ((spigotref14_Check.f k2 t402).bind fun t413 => (if t413 = 0 then ((spigotref14_Count.f k2 t402).bind fun t414 => (if t414 = (y407.length : Int) then (spigotlaw14_ProbeExact.l0 k2 l0 a1 true t402 y407 (x8_1 ++ [Int.tmod x9_1 16]) (wrap64 (x9_1 + 1))) else (some false))) else (some false))) else (none))) else (none)) else (some false))) = some true := H
                        have A64 := Aside0.mk A640
                        (try clear A640)
                        by_cases c65 : (x7_1.length : Int) = 12
                        · rw [if_pos c65] at H
                          have c65b0 : ((x7_1.length : Int) == 12) = true := beq_iff_eq.mpr c65
                          have c65b1 : ((x7_1.length : Int) != 12) = false := bne_eq_false_iff_eq.mpr c65
                          clear c65
                          by_cases c66 : t403 = 18
                          · rw [if_pos c66] at H
                            have c66b0 : (t403 == 18) = true := beq_iff_eq.mpr c66
                            have c66b1 : (t403 != 18) = false := bne_eq_false_iff_eq.mpr c66
                            clear c66
                            have H' := Aside0.mk H
                            clear H
                            obtain ⟨Ao67, co67, eo67⟩ := Kd.R_slice HO_7.out
                            subst eo67
                            have p401 : 0 ≤ (x9_1 : Int) := od
                            have q401 : x9_1 < (l0.length : Int) := od
                            obtain ⟨ad401, e401, hx401_0⟩ := Kd.at_int HR0.out x9_1 p401 q401
                            cases e401
                            replace hx401_0 := (HB.out.cell (World.block_lt_of_cell? w _ hx401_0)).trans hx401_0
                            replace p401 := eq_true p401
                            replace q401 := eq_true q401
                            obtain ⟨Ao68, co68, eo68⟩ := Kd.R_slice HO_6.out
                            subst eo68
                            go_wp2_with (first | ((with_reducible refine gate_callee (f := 36) rfl ?_); refine goesE (some 96) rfl rfl Try.func36 (by kernel_rfl) rfl #[.slice Ao68 x6_1.length co68, .int .u32 (rd l0 x9_1), .int .i64 (Int.tmod x9_1 16)] rfl ?_; (with_reducible refine (probe_Put.calls k2 _ _ x6_1 (rd l0 x9_1) (Int.tmod x9_1 16) t402 t403 _ ?side1 ?side2 A64.out).mono ?_); (case side1 => exact Kd.pC ((Kd.R_reads' HO_6.out).2.2)); (case side2 => exact (Kd.R_reads' HO_6.out).2.1); rintro e w69 ⟨v404, rfl, ho0, hb⟩; refine ⟨_, rfl, ?_⟩; have n0_ := Aside0.mk (Kd.R_elder' (Kd.pR HO_6.out) (Kd.R_base ho0) hb); have n1_ := Aside0.mk (Kd.R_below (Kd.pR HO_7.out) hb); have n2_ := Aside0.mk (Kd.R_below (Kd.pR HO_8.out) hb); have n4_ := Aside0.mk (below_step (pB HB.out) hb); clear HO_6; clear HO_7; clear HO_8; clear HB; have HO_6 := n0_; have HO_7 := n1_; have HO_8 := n2_; have HB := n4_; clear n0_ n1_ n2_ n4_; (try clear hb); (try clear hb2); (try clear hk); (try clear hi); (try clear ho0)))
                            go_roundg k2
                            case measure => have := HK1.out; have := HK2.out; omega
                            case rel => exact ⟨(x6_1), (x7_1), (x8_1), (wrap64 (x9_1 + 1)), (by first | rfl | (simp; done) | (simp [*]; done)), H', ⟨by have := HK1.out; have := HK2.out; omega⟩, ⟨Kd.pR (Kd.R_mono HO_6.out (fun _ hk => trivial))⟩, ⟨Kd.pR HO_7.out⟩, ⟨Kd.pR HO_8.out⟩, ⟨pB HB.out⟩⟩
                          · rw [if_neg c66] at H
                            have c66b0 : (t403 == 18) = false := beq_eq_false_iff_ne.mpr c66
                            have c66b1 : (t403 != 18) = true := bne_iff_ne.mpr c66
                            exact absurd H (by simp)
                        · rw [if_neg c65] at H
                          have c65b0 : ((x7_1.length : Int) == 12) = false := beq_eq_false_iff_ne.mpr c65
                          have c65b1 : ((x7_1.length : Int) != 12) = true := bne_iff_ne.mpr c65
                          by_cases c70 : t403 = 0
                          · rw [if_pos c70] at H
                            have c70b0 : (t403 == 0) = true := beq_iff_eq.mpr c70
                            have c70b1 : (t403 != 0) = false := bne_eq_false_iff_eq.mpr c70
                            clear c70
                            by_cases c71 : x7_1.length < 35184372088832
                            · rw [if_pos c71] at H
                              have LMc71 := Aside0.mk c71
                              clear c71
                              obtain ⟨y407, hy407⟩ : ∃ y_ : List Int, y_ = (x7_1 ++ [rd l0 x9_1]) := ⟨_, rfl⟩
                              replace H : (if x8_1.length < 17592186044416 then ((spigotref14_Check.f k2 t402).bind fun t413 => (if t413 = 0 then ((spigotref14_Count.f k2 t402).bind fun t414 => (if t414 = (y407.length : Int) then (spigotlaw14_ProbeExact.l0 k2 l0 a1 true t402 y407 (x8_1 ++ [Int.tmod x9_1 16]) (wrap64 (x9_1 + 1))) else (some false))) else (some false))) else (none)) = some true := by first | (rw [hy407]; with_reducible exact H) | (have H2_ := (Option.bind_some _ _).symm.trans H; rw [hy407]; with_reducible exact H2_) | (have H2_ := (Option.bind_some _ _).symm.trans H; with_reducible exact H2_) | with_reducible exact H | (rw [hy407]; exact H) | exact H
                              have Ny407 := Aside0.mk hy407
                              (try clear hy407)
                              by_cases c72 : x8_1.length < 17592186044416
                              · rw [if_pos c72] at H
                                have LMc72 := Aside0.mk c72
                                clear c72
                                obtain ⟨y410, hy410⟩ : ∃ y_ : List Int, y_ = (x8_1 ++ [Int.tmod x9_1 16]) := ⟨_, rfl⟩
                                replace H : ((spigotref14_Check.f k2 t402).bind fun t413 => (if t413 = 0 then ((spigotref14_Count.f k2 t402).bind fun t414 => (if t414 = (y407.length : Int) then (spigotlaw14_ProbeExact.l0 k2 l0 a1 true t402 y407 y410 (wrap64 (x9_1 + 1))) else (some false))) else (some false))) = some true := by first | (rw [hy410]; with_reducible exact H) | (have H2_ := (Option.bind_some _ _).symm.trans H; rw [hy410]; with_reducible exact H2_) | (have H2_ := (Option.bind_some _ _).symm.trans H; with_reducible exact H2_) | with_reducible exact H | (rw [hy410]; exact H) | exact H
                                have Ny410 := Aside0.mk hy410
                                (try clear hy410)
                                replace H := Option.bind_eq_some_iff.mp H
                                obtain ⟨t413, A730, H⟩ := H
                                replace H : (if t413 = 0 then ((spigotref14_Count.f k2 t402).bind fun t414 => (if t414 = (y407.length : Int) then (spigotlaw14_ProbeExact.l0 k2 l0 a1 true t402 y407 y410 (wrap64 (x9_1 + 1))) else (some false))) else (some false)) = some true := H
                                have A73 := Aside0.mk A730
                                (try clear A730)
                                by_cases c74 : t413 = 0
                                · rw [if_pos c74] at H
                                  have c74b0 : (t413 == 0) = true := beq_iff_eq.mpr c74
                                  have c74b1 : (t413 != 0) = false := bne_eq_false_iff_eq.mpr c74
                                  clear c74
                                  replace H := Option.bind_eq_some_iff.mp H
                                  obtain ⟨t414, A750, H⟩ := H
                                  replace H : (if t414 = (y407.length : Int) then (spigotlaw14_ProbeExact.l0 k2 l0 a1 true t402 y407 y410 (wrap64 (x9_1 + 1))) else (some false)) = some true := H
                                  have A75 := Aside0.mk A750
                                  (try clear A750)
                                  by_cases c76 : t414 = (y407.length : Int)
                                  · rw [if_pos c76] at H
                                    have c76b0 : (t414 == (y407.length : Int)) = true := beq_iff_eq.mpr c76
                                    have c76b1 : (t414 != (y407.length : Int)) = false := bne_eq_false_iff_eq.mpr c76
                                    clear c76
                                    have H' := Aside0.mk H
                                    clear H
                                    obtain ⟨Ao77, co77, eo77⟩ := Kd.R_slice HO_7.out
                                    subst eo77
                                    have p401 : 0 ≤ (x9_1 : Int) := od
                                    have q401 : x9_1 < (l0.length : Int) := od
                                    obtain ⟨ad401, e401, hx401_0⟩ := Kd.at_int HR0.out x9_1 p401 q401
                                    cases e401
                                    replace hx401_0 := (HB.out.cell (World.block_lt_of_cell? w _ hx401_0)).trans hx401_0
                                    replace p401 := eq_true p401
                                    replace q401 := eq_true q401
                                    obtain ⟨Ao78, co78, eo78⟩ := Kd.R_slice HO_6.out
                                    subst eo78
                                    go_wp2_with (first | ((with_reducible refine gate_callee (f := 36) rfl ?_); refine goesE (some 96) rfl rfl Try.func36 (by kernel_rfl) rfl #[.slice Ao78 x6_1.length co78, .int .u32 (rd l0 x9_1), .int .i64 (Int.tmod x9_1 16)] rfl ?_; (with_reducible refine (probe_Put.calls k2 _ _ x6_1 (rd l0 x9_1) (Int.tmod x9_1 16) t402 t403 _ ?side1 ?side2 A64.out).mono ?_); (case side1 => exact Kd.pC ((Kd.R_reads' HO_6.out).2.2)); (case side2 => exact (Kd.R_reads' HO_6.out).2.1); rintro e w79 ⟨v404, rfl, ho0, hb⟩; refine ⟨_, rfl, ?_⟩; have n0_ := Aside0.mk (Kd.R_elder' (Kd.pR HO_6.out) (Kd.R_base ho0) hb); have n1_ := Aside0.mk (Kd.R_below (Kd.pR HO_7.out) hb); have n2_ := Aside0.mk (Kd.R_below (Kd.pR HO_8.out) hb); have n3_ := Aside0.mk (Kd.R_lower (Kd.R_new' ho0 (Kd.R_lt (Kd.pR HO_6.out))) (below_size (pB HB.out))); have n4_ := Aside0.mk (below_step (pB HB.out) hb); clear HO_6; clear HO_7; clear HO_8; clear HB; have HO_6 := n0_; have HO_7 := n1_; have HO_8 := n2_; have HO405 := n3_; have HB := n4_; clear n0_ n1_ n2_ n3_ n4_; (try clear hb); (try clear hb2); (try clear hk); (try clear hi); (try clear ho0); have p406 : 0 ≤ (x9_1 : Int) := od; have q406 : x9_1 < (l0.length : Int) := od; obtain ⟨ad406, e406, hx406_0⟩ := Kd.at_int HR0.out x9_1 p406 q406; obtain rfl : ad401 = ad406 := (by injection e406); replace hx406_0 := (HB.out.cell (World.block_lt_of_cell? w _ hx406_0)).trans hx406_0; replace p406 := eq_true p406; replace q406 := eq_true q406) | ((with_reducible refine gate_builtin (b := .append) (xs := #[.tmp 107, .tmp 112]) rfl ?_); (try (refine gate_guard (by rfl) ?_; dsimp only)); at_builtin; refine Kd.R_append (Kd.int .u32) (w0 := w) w.heap.size rfl (.tmp 107) (.tmp 112) 73 23 (.int .u32 0) 4 rfl Try.underlying73 info23 rfl (by decide) (by omega) (.slice Ao77 x7_1.length co77) x7_1 (rd l0 x9_1) [.int .u32 (rd l0 x9_1)] (fun _ => True) (fun _ => False) rfl rfl ?aP (fun _ hk => hk.elim) ?aF ?aO ?aB ?aS ?aL ?_; (case aP => exact rfl); (case aB => exact (pB HB.out)); (case aF => exact (fun _ _ => trivial)); (case aO => exact (Kd.pR HO_7.out)); (case aS => exact (below_size (pB HB.out))); (case aL => have := LMc71.out; omega); intro v408 w80 ho hb hg hat; rw [← Ny407.out] at ho; have n0_ := Aside0.mk (Kd.R_over' (Kd.pR HO_6.out) (Kd.R_typed (Kd.pR HO_7.out)) (by decide) hg); have n1_ := Aside0.mk (Kd.R_over' (Kd.pR HO_8.out) (Kd.R_typed (Kd.pR HO_7.out)) (by decide) hg); have n2_ := Aside0.mk (Kd.R_over' (Kd.pR HO405.out) (Kd.R_typed (Kd.pR HO_7.out)) (by decide) hg); have n3_ := Aside0.mk (hb); have n4_ := Aside0.mk (ho); clear HO_6; clear HO_8; clear HO405; clear HB; clear HO_7; have HO_6 := n0_; have HO_8 := n1_; have HO405 := n2_; have HB := n3_; have HO409 := n4_; clear n0_ n1_ n2_ n3_ n4_; clear ho hb hg hat) | ((with_reducible refine gate_builtin (b := .append) (xs := #[.tmp 114, .tmp 117]) rfl ?_); (try (refine gate_guard (by rfl) ?_; dsimp only)); at_builtin; refine Kd.R_append (Kd.int .i64) (w0 := w) w.heap.size rfl (.tmp 114) (.tmp 117) 33 3 (.int .i64 0) 8 rfl Try.underlying33 info3 rfl (by decide) (by omega) u8 x8_1 (Int.tmod x9_1 16) [.int .i64 (Int.tmod x9_1 16)] (fun _ => True) (fun _ => False) rfl rfl ?aP (fun _ hk => hk.elim) ?aF ?aO ?aB ?aS ?aL ?_; (case aP => exact rfl); (case aB => exact (pB HB.out)); (case aF => exact (fun _ _ => trivial)); (case aO => exact (Kd.pR HO_8.out)); (case aS => exact (below_size (pB HB.out))); (case aL => have := LMc72.out; omega); intro v411 w81 ho hb hg hat; rw [← Ny410.out] at ho; have n0_ := Aside0.mk (Kd.R_over' (Kd.pR HO_6.out) (Kd.R_typed (Kd.pR HO_8.out)) (by decide) hg); have n1_ := Aside0.mk (Kd.R_over' (Kd.pR HO405.out) (Kd.R_typed (Kd.pR HO_8.out)) (by decide) hg); have n2_ := Aside0.mk (Kd.R_over' (Kd.pR HO409.out) (Kd.R_typed (Kd.pR HO_8.out)) (by decide) hg); have n3_ := Aside0.mk (hb); have n4_ := Aside0.mk (ho); clear HO_6; clear HO405; clear HO409; clear HB; clear HO_8; have HO_6 := n0_; have HO405 := n1_; have HO409 := n2_; have HB := n3_; have HO412 := n4_; clear n0_ n1_ n2_ n3_ n4_; clear ho hb hg hat; obtain ⟨Ao82, co82, eo82⟩ := Kd.R_slice HO405.out; subst eo82) | ((with_reducible refine gate_callee (f := 21) rfl ?_); refine goesE (some 120) rfl rfl Try.func21 (by kernel_rfl) rfl #[.slice Ao82 t402.length co82] rfl ?_; (with_reducible refine (spigotref14_Check.calls k2 _ _ t402 t413 _ ?side1 ?side2 A73.out).mono ?_); (case side1 => exact Kd.pC ((Kd.R_reads' HO405.out).2.2)); (case side2 => exact (Kd.R_reads' HO405.out).2.1); rintro e w' ⟨rfl, ⟨nd, rfl⟩⟩; refine ⟨_, rfl, ?_⟩) | (go_at_call 43; (with_reducible refine (spigotref14_Count.calls k2 _ _ t402 t414 _ ?side1 ?side2 A75.out).mono ?_); (case side1 => exact Kd.pC ((Kd.R_reads' HO405.out).2.2)); (case side2 => exact (Kd.R_reads' HO405.out).2.1); rintro e w' ⟨rfl, ⟨nd, rfl⟩⟩; obtain ⟨Ao83, co83, eo83⟩ := Kd.R_slice HO409.out; subst eo83))
                                    go_roundg k2
                                    case measure => have := HK1.out; have := HK2.out; omega
                                    case rel => exact ⟨(t402), (y407), (y410), (wrap64 (x9_1 + 1)), (by first | rfl | (simp; done) | (simp [*]; done)), H', ⟨by have := HK1.out; have := HK2.out; omega⟩, ⟨Kd.pR (Kd.R_mono HO405.out (fun _ hk => trivial))⟩, ⟨Kd.pR HO409.out⟩, ⟨Kd.pR HO412.out⟩, ⟨pB HB.out⟩⟩
                                  · rw [if_neg c76] at H
                                    have c76b0 : (t414 == (y407.length : Int)) = false := beq_eq_false_iff_ne.mpr c76
                                    have c76b1 : (t414 != (y407.length : Int)) = true := bne_iff_ne.mpr c76
                                    exact absurd H (by simp)
                                · rw [if_neg c74] at H
                                  have c74b0 : (t413 == 0) = false := beq_eq_false_iff_ne.mpr c74
                                  have c74b1 : (t413 != 0) = true := bne_iff_ne.mpr c74
                                  exact absurd H (by simp)
                              · rw [if_neg c72] at H
                                exact absurd H (by simp)
                            · rw [if_neg c71] at H
                              exact absurd H (by simp)
                          · rw [if_neg c70] at H
                            have c70b0 : (t403 == 0) = false := beq_eq_false_iff_ne.mpr c70
                            have c70b1 : (t403 != 0) = true := bne_iff_ne.mpr c70
                            exact absurd H (by simp)
                      · rw [if_neg c63] at H
                        exact absurd H (by simp)
                    · rw [if_neg c62] at H
                      exact absurd H (by simp)
          · rw [if_neg c10] at H
            have c10b0 : decide (x9_1 < (l0.length : Int)) = false := decide_eq_false c10
            clear c10
            have H' := Aside0.mk H
            clear H
            go_wp2
            go_loopg [16, 17] k1 (fun kq v16 v17 w' => ∃ (x16_2 : Bool) (x17_2 : Int), v16 = .bool x16_2 ∧ v17 = .int .i64 x17_2 ∧ Aside0 (spigotlaw14_ProbeExact.l2 kq a1 true x6_1 x7_1 x8_1 x16_2 x17_2 = some true) ∧ Aside0 (kq ≤ k1) ∧ Aside0 (Kd.R k71 71 w' w.heap.size (fun _ => True) u6 x6_1) ∧ Aside0 (Kd.R (Kd.int .u32) 23 w' w.heap.size (fun _ => True) u7 x7_1) ∧ Aside0 (Kd.R (Kd.int .i64) 3 w' w.heap.size (fun _ => True) u8 x8_1) ∧ Aside0 (Below w.heap.size w w'))
            case atStart => exact ⟨(false), (0), (by first | rfl | (simp; done) | (simp [*]; done)), (by first | rfl | (simp; done) | (simp [*]; done)), H', ⟨Nat.le_refl _⟩, ⟨Kd.pR HO_6.out⟩, ⟨Kd.pR HO_7.out⟩, ⟨Kd.pR HO_8.out⟩, ⟨pB HB.out⟩⟩
            case round =>
              clear H'
              try clear c1
              try clear c2
              try clear p2
              try clear c3
              try clear c4
              try clear p4
              try clear q4
              try clear hx4
              try clear c6
              try clear p6
              try clear c7
              try clear c10
              try clear c10b0
              try clear c20
              try clear c20b0
              try clear c21
              try clear c22
              try clear c24
              try clear c24b0
              try clear c24b1
              try clear c25
              try clear c26
              try clear c27
              try clear c29
              try clear c30
              try clear c31
              try clear c33
              try clear c34
              try clear c36
              try clear c37
              try clear c39
              try clear c39b0
              try clear c39b1
              try clear p40
              try clear q40
              try clear hx40
              try clear c41
              try clear c41b0
              try clear c41b1
              try clear c62
              try clear c62b0
              try clear c63
              try clear c63b0
              try clear p64
              try clear c65
              try clear c65b0
              try clear c65b1
              try clear c66
              try clear c66b0
              try clear c66b1
              try clear c70
              try clear c70b0
              try clear c70b1
              try clear c71
              try clear c72
              try clear c74
              try clear c74b0
              try clear c74b1
              try clear c76
              try clear c76b0
              try clear c76b1
              try clear hx401_0
              try clear hx406_0
              try clear p401
              try clear p406
              try clear q401
              try clear q406
              obtain ⟨x16_2, x17_2, rfl, rfl, HA, HK2, HO_6, HO_7, HO_8, HB⟩ := hrel
              cases gk with
              | zero => exact absurd HA.out (by simp [spigotlaw14_ProbeExact.l2])
              | succ k2 =>
                have H := HA.out
                (try clear HA)
                simp only [spigotlaw14_ProbeExact.l2] at H
                by_cases c84 : x17_2 < (x7_1.length : Int)
                · rw [if_pos c84] at H
                  have c84b0 : decide (x17_2 < (x7_1.length : Int)) = true := decide_eq_true c84
                  clear c84
                  by_cases c85 : 0 ≤ x17_2
                  · rw [if_pos c85] at H
                    have c85b0 : decide (0 ≤ x17_2) = true := decide_eq_true c85
                    clear c85
                    replace H := Option.bind_eq_some_iff.mp H
                    obtain ⟨⟨t416, t417⟩, A860, H⟩ := H
                    replace H : (if t417 = 0 then (if x17_2 < (x8_1.length : Int) then (if t416 = (rd x8_1 x17_2) then (if x16_2 = true then (spigotlaw14_ProbeExact.l2 k2 a1 true x6_1 x7_1 x8_1 true (wrap64 (x17_2 + 1))) else (spigotlaw14_ProbeExact.l2 k2 a1 true x6_1 x7_1 x8_1 ((rd x7_1 x17_2) == a1) (wrap64 (x17_2 + 1)))) else (some false)) else (none)) else (some false)) = some true := H
                    have A86 := Aside0.mk A860
                    (try clear A860)
                    by_cases c87 : t417 = 0
                    · rw [if_pos c87] at H
                      have c87b0 : (t417 == 0) = true := beq_iff_eq.mpr c87
                      have c87b1 : (t417 != 0) = false := bne_eq_false_iff_eq.mpr c87
                      clear c87
                      by_cases c88 : x17_2 < (x8_1.length : Int)
                      · rw [if_pos c88] at H
                        have c88b0 : decide (x17_2 < (x8_1.length : Int)) = true := decide_eq_true c88
                        clear c88
                        by_cases c89 : t416 = (rd x8_1 x17_2)
                        · rw [if_pos c89] at H
                          have c89b0 : (t416 == (rd x8_1 x17_2)) = true := beq_iff_eq.mpr c89
                          have c89b1 : (t416 != (rd x8_1 x17_2)) = false := bne_eq_false_iff_eq.mpr c89
                          clear c89
                          by_cases c90 : x16_2 = true
                          · subst c90
                            have H1 : (spigotlaw14_ProbeExact.l2 k2 a1 true x6_1 x7_1 x8_1 true (wrap64 (x17_2 + 1))) = some true := by rw [if_pos rfl] at H; exact H
                            clear H
                            have H := H1
                            clear H1
                            have H' := Aside0.mk H
                            clear H
                            obtain ⟨Ao91, co91, eo91⟩ := Kd.R_slice HO_7.out
                            subst eo91
                            have p415 : 0 ≤ (x17_2 : Int) := od
                            have q415 : x17_2 < (x7_1.length : Int) := od
                            obtain ⟨ad415, e415, hx415_0⟩ := Kd.at_int (Kd.R_reads' HO_7.out).2.2 x17_2 p415 q415
                            cases e415
                            replace p415 := eq_true p415
                            replace q415 := eq_true q415
                            obtain ⟨Ao92, co92, eo92⟩ := Kd.R_slice HO_6.out
                            subst eo92
                            go_wp2_with (first | ((with_reducible refine gate_callee (f := 14) rfl ?_); refine goesE (some 141) rfl rfl Try.func14 (by kernel_rfl) rfl #[.slice Ao92 x6_1.length co92, .int .u32 (rd x7_1 x17_2)] rfl ?_; (with_reducible refine (probe_Find.calls k2 _ _ x6_1 (rd x7_1 x17_2) t416 t417 _ ?side1 ?side2 A86.out).mono ?_); (case side1 => exact Kd.pC ((Kd.R_reads' HO_6.out).2.2)); (case side2 => exact (Kd.R_reads' HO_6.out).2.1); rintro e w93 ⟨rfl, hb⟩; refine ⟨_, rfl, ?_⟩; have n0_ := Aside0.mk (Kd.R_below (Kd.pR HO_6.out) hb); have n1_ := Aside0.mk (Kd.R_below (Kd.pR HO_7.out) hb); have n2_ := Aside0.mk (Kd.R_below (Kd.pR HO_8.out) hb); have n3_ := Aside0.mk (below_step (pB HB.out) hb); clear HO_6; clear HO_7; clear HO_8; clear HB; have HO_6 := n0_; have HO_7 := n1_; have HO_8 := n2_; have HB := n3_; clear n0_ n1_ n2_ n3_; (try clear hb); (try clear hb2); (try clear hk); (try clear hi); obtain ⟨Ao94, co94, eo94⟩ := Kd.R_slice HO_8.out; subst eo94; have p418 : 0 ≤ (x17_2 : Int) := od; have q418 : x17_2 < (x8_1.length : Int) := od; obtain ⟨ad418, e418, hx418_0⟩ := Kd.at_int (Kd.R_reads' HO_8.out).2.2 x17_2 p418 q418; cases e418; replace p418 := eq_true p418; replace q418 := eq_true q418))
                            go_roundg k2
                            case measure => have := HK1.out; have := HK2.out; omega
                            case rel => exact ⟨(true), (wrap64 (x17_2 + 1)), (by first | rfl | (simp; done) | (simp [*]; done)), (by first | rfl | (simp; done) | (simp [*]; done)), H', ⟨by have := HK1.out; have := HK2.out; omega⟩, ⟨Kd.pR HO_6.out⟩, ⟨Kd.pR HO_7.out⟩, ⟨Kd.pR HO_8.out⟩, ⟨pB HB.out⟩⟩
                          · replace c90 := Bool.eq_false_iff.mpr c90
                            subst c90
                            have H1 : (spigotlaw14_ProbeExact.l2 k2 a1 true x6_1 x7_1 x8_1 ((rd x7_1 x17_2) == a1) (wrap64 (x17_2 + 1))) = some true := by rw [if_neg (show ¬ (false = true) by decide)] at H; exact H
                            clear H
                            have H := H1
                            clear H1
                            have H' := Aside0.mk H
                            clear H
                            obtain ⟨Ao95, co95, eo95⟩ := Kd.R_slice HO_7.out
                            subst eo95
                            have p415 : 0 ≤ (x17_2 : Int) := od
                            have q415 : x17_2 < (x7_1.length : Int) := od
                            obtain ⟨ad415, e415, hx415_0⟩ := Kd.at_int (Kd.R_reads' HO_7.out).2.2 x17_2 p415 q415
                            cases e415
                            replace p415 := eq_true p415
                            replace q415 := eq_true q415
                            obtain ⟨Ao96, co96, eo96⟩ := Kd.R_slice HO_6.out
                            subst eo96
                            go_wp2_with (first | ((with_reducible refine gate_callee (f := 14) rfl ?_); refine goesE (some 141) rfl rfl Try.func14 (by kernel_rfl) rfl #[.slice Ao96 x6_1.length co96, .int .u32 (rd x7_1 x17_2)] rfl ?_; (with_reducible refine (probe_Find.calls k2 _ _ x6_1 (rd x7_1 x17_2) t416 t417 _ ?side1 ?side2 A86.out).mono ?_); (case side1 => exact Kd.pC ((Kd.R_reads' HO_6.out).2.2)); (case side2 => exact (Kd.R_reads' HO_6.out).2.1); rintro e w97 ⟨rfl, hb⟩; refine ⟨_, rfl, ?_⟩; have n0_ := Aside0.mk (Kd.R_below (Kd.pR HO_6.out) hb); have n1_ := Aside0.mk (Kd.R_below (Kd.pR HO_7.out) hb); have n2_ := Aside0.mk (Kd.R_below (Kd.pR HO_8.out) hb); have n3_ := Aside0.mk (below_step (pB HB.out) hb); clear HO_6; clear HO_7; clear HO_8; clear HB; have HO_6 := n0_; have HO_7 := n1_; have HO_8 := n2_; have HB := n3_; clear n0_ n1_ n2_ n3_; (try clear hb); (try clear hb2); (try clear hk); (try clear hi); obtain ⟨Ao98, co98, eo98⟩ := Kd.R_slice HO_8.out; subst eo98; have p418 : 0 ≤ (x17_2 : Int) := od; have q418 : x17_2 < (x8_1.length : Int) := od; obtain ⟨ad418, e418, hx418_0⟩ := Kd.at_int (Kd.R_reads' HO_8.out).2.2 x17_2 p418 q418; cases e418; replace p418 := eq_true p418; replace q418 := eq_true q418; have p419 : 0 ≤ (x17_2 : Int) := od; have q419 : x17_2 < (x7_1.length : Int) := od; obtain ⟨ad419, e419, hx419_0⟩ := Kd.at_int (Kd.R_reads' HO_7.out).2.2 x17_2 p419 q419; obtain rfl : ad415 = ad419 := (by injection e419); replace p419 := eq_true p419; replace q419 := eq_true q419))
                            go_roundg k2
                            case measure => have := HK1.out; have := HK2.out; omega
                            case rel => exact ⟨(((rd x7_1 x17_2) == a1)), (wrap64 (x17_2 + 1)), (by first | rfl | (simp; done) | (simp [*]; done)), (by first | rfl | (simp; done) | (simp [*]; done)), H', ⟨by have := HK1.out; have := HK2.out; omega⟩, ⟨Kd.pR HO_6.out⟩, ⟨Kd.pR HO_7.out⟩, ⟨Kd.pR HO_8.out⟩, ⟨pB HB.out⟩⟩
                        · rw [if_neg c89] at H
                          have c89b0 : (t416 == (rd x8_1 x17_2)) = false := beq_eq_false_iff_ne.mpr c89
                          have c89b1 : (t416 != (rd x8_1 x17_2)) = true := bne_iff_ne.mpr c89
                          exact absurd H (by simp)
                      · rw [if_neg c88] at H
                        exact absurd H (by simp)
                    · rw [if_neg c87] at H
                      have c87b0 : (t417 == 0) = false := beq_eq_false_iff_ne.mpr c87
                      have c87b1 : (t417 != 0) = true := bne_iff_ne.mpr c87
                      exact absurd H (by simp)
                  · rw [if_neg c85] at H
                    exact absurd H (by simp)
                · rw [if_neg c84] at H
                  have c84b0 : decide (x17_2 < (x7_1.length : Int)) = false := decide_eq_false c84
                  (try clear c84)
                  replace H := Option.bind_eq_some_iff.mp H
                  obtain ⟨⟨t420, t421⟩, A990, H⟩ := H
                  replace H : (if true = true then (if ((t421 == 0) == x16_2) = true then (if t421 = 0 then (some true) else (some (t421 == 6))) else (some false)) else (some false)) = some true := H
                  have A99 := Aside0.mk A990
                  (try clear A990)
                  replace H : (if ((t421 == 0) == x16_2) = true then (if t421 = 0 then (some true) else (some (t421 == 6))) else (some false)) = some true := by rw [if_pos rfl] at H; exact H
                  by_cases c100 : ((t421 == 0) == x16_2) = true
                  · rw [if_pos c100] at H
                    have c100b0 : ((t421 == 0) == x16_2) = true := c100
                    (try (have c100b1 : decide ((t421 == 0) = x16_2) = true := by simpa using c100))
                    (try (have c100b2 : ((t421 == 0) == x16_2) = true := by simpa using c100))
                    clear c100
                    by_cases c101 : t421 = 0
                    · rw [if_pos c101] at H
                      have c101b0 : (t421 == 0) = true := beq_iff_eq.mpr c101
                      have c101b1 : (t421 != 0) = false := bne_eq_false_iff_eq.mpr c101
                      obtain rfl : x16_2 = true := by rw [c101b0] at c100b0; simpa using c100b0
                      clear c101
                      clear H
                      obtain ⟨Ao102, co102, eo102⟩ := Kd.R_slice HO_7.out
                      subst eo102
                      obtain ⟨Ao103, co103, eo103⟩ := Kd.R_slice HO_6.out
                      subst eo103
                      go_wp2_with (first | ((with_reducible refine gate_callee (f := 14) rfl ?_); refine goesE (some 166) rfl rfl Try.func14 (by kernel_rfl) rfl #[.slice Ao103 x6_1.length co103, .int .u32 a1] rfl ?_; (with_reducible refine (probe_Find.calls k2 _ _ x6_1 a1 t420 t421 _ ?side1 ?side2 A99.out).mono ?_); (case side1 => exact Kd.pC ((Kd.R_reads' HO_6.out).2.2)); (case side2 => exact (Kd.R_reads' HO_6.out).2.1); rintro e w104 ⟨rfl, hb⟩; refine ⟨_, rfl, ?_⟩; have n0_ := Aside0.mk (Kd.R_below (Kd.pR HO_6.out) hb); have n1_ := Aside0.mk (Kd.R_below (Kd.pR HO_7.out) hb); have n3_ := Aside0.mk (below_step (pB HB.out) hb); clear HO_6; clear HO_7; (try clear HO_8); clear HB; have HO_6 := n0_; have HO_7 := n1_; have HB := n3_; clear n0_ n1_ n3_; (try clear hb); (try clear hb2); (try clear hk); (try clear hi)))
                      go_ret
                      exact ⟨by first | rfl | (simp [errW_none, errW_some] <;> rfl) | (simp [*, errW_none, errW_some] <;> rfl), pB HB.out⟩
                    · rw [if_neg c101] at H
                      have c101b0 : (t421 == 0) = false := beq_eq_false_iff_ne.mpr c101
                      have c101b1 : (t421 != 0) = true := bne_iff_ne.mpr c101
                      obtain rfl : x16_2 = false := by rw [c101b0] at c100b0; simpa using c100b0
                      have HRT := Aside0.mk (Option.some.inj H)
                      clear H
                      obtain ⟨Ao105, co105, eo105⟩ := Kd.R_slice HO_7.out
                      subst eo105
                      obtain ⟨Ao106, co106, eo106⟩ := Kd.R_slice HO_6.out
                      subst eo106
                      go_wp2_with (first | ((with_reducible refine gate_callee (f := 14) rfl ?_); refine goesE (some 166) rfl rfl Try.func14 (by kernel_rfl) rfl #[.slice Ao106 x6_1.length co106, .int .u32 a1] rfl ?_; (with_reducible refine (probe_Find.calls k2 _ _ x6_1 a1 t420 t421 _ ?side1 ?side2 A99.out).mono ?_); (case side1 => exact Kd.pC ((Kd.R_reads' HO_6.out).2.2)); (case side2 => exact (Kd.R_reads' HO_6.out).2.1); rintro e w107 ⟨rfl, hb⟩; refine ⟨_, rfl, ?_⟩; have n3_ := Aside0.mk (below_step (pB HB.out) hb); (try clear HO_6); (try clear HO_7); (try clear HO_8); clear HB; have HB := n3_; clear n3_; (try clear hb); (try clear hb2); (try clear hk); (try clear hi)))
                      go_ret
                      exact ⟨by first | rfl | (simp [errW_none, errW_some] <;> rfl) | (simp [*, errW_none, errW_some] <;> rfl) | (rw [HRT.out] <;> rfl) | (simp [HRT.out]; done) | (have h_ := HRT.out; simp [*] at h_ ⊢ <;> first | done | assumption | omega) | (have h_ := HRT.out; simp [*] at h_; done), pB HB.out⟩
                  · rw [if_neg c100] at H
                    have c100b0 : ((t421 == 0) == x16_2) = false := by simpa using c100
                    (try (have c100b1 : decide ((t421 == 0) = x16_2) = false := by simpa using c100))
                    (try (have c100b2 : ((t421 == 0) == x16_2) = false := by simpa using c100))
                    (try (have c100b3 : ¬ ((t421 == 0) = x16_2) := by simpa using c100))
                    clear c100
                    exact absurd H (by simp)
  · replace c4 := Bool.eq_false_iff.mpr c4
    subst c4
    have H1 : (none) = some true := by rw [if_neg (show ¬ (false = true) by decide)] at H; exact H
    clear H
    have H := H1
    clear H1
    exact absurd H (by simp)

/-- THE ONE PURE STATEMENT of spigotlaw14_ProbeExact. -/
def spigotlaw14_ProbeExact.Pure : Prop := ∀ (l0 : List Int) (a1 : Int), ((∀ x ∈ l0, (Lit.int .u32 x).wf = true) ∧ l0.length ≤ maxLen) → ((Lit.int .u32 a1).wf = true) → ∃ k, spigotlaw14_ProbeExact.f k l0 a1 = some true

end Go.Proofs.Ytlgfopdindklnaa.PProbe
