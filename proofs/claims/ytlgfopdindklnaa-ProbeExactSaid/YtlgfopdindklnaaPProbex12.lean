-- printed by a program of this session (a turned copy of the kit's print); Lean checks it
import Derived.Test.YtlgfopdindklnaaPProbex0
import Derived.Test.YtlgfopdindklnaaPProbex2
import Derived.Test.YtlgfopdindklnaaPProbex3
import Derived.Test.YtlgfopdindklnaaPProbex9
namespace Go.Proofs.Ytlgfopdindklnaa.PProbe
open Go.RowKit Go.Proofs.YtlgfopdindklnaaW.PrintWords Go.Proofs.YtlgfopdindklnaaW.PrintLast Go.Proofs.YtlgfopdindklnaaW.PrintMore
attribute [local go_sem] max2_int min2_int max_two min_two max_three min_three max_four min_four   -- for this text's walks alone
set_option linter.unusedVariables false
set_option linter.unusedSimpArgs false

/-! ### probe_Drop: function 38 -/
def probe_Drop.l0 : Nat → Int → List (S71) → Int → Option ((List (S71)) × Int)
  | 0, _, _, _ => none
  | k + 1, x7, x9, x10 => if 0 ≤ x10 then (if x10 < (x9.length : Int) then (if (rd_T71 x9 x10).f2 = true then ((probe_wrap.f (wrap64 (x10 - x7))).bind fun t193 => ((probe_Home.f ((rd_T71 x9 x10).f0)).bind fun t195 => ((probe_wrap.f (wrap64 ((wrap64 (t195 - x7)) - 1))).bind fun t196 => (if t196 ≥ t193 then (if 0 ≤ x7 then (if x7 < (x9.length : Int) then ((probe_wrap.f (wrap64 (x10 + 1))).bind fun t199 => (probe_Drop.l0 k x10 (x9.set (x7 : Int).toNat (⟨(rd_T71 x9 x10).f0, (rd_T71 x9 x10).f1, (rd_T71 x9 x10).f2⟩ : S71)) t199)) else (none)) else (none)) else ((probe_wrap.f (wrap64 (x10 + 1))).bind fun t200 => (probe_Drop.l0 k x7 x9 t200)))))) else (if 0 ≤ x7 then (if x7 < (x9.length : Int) then (some ((x9.set (x7 : Int).toNat (⟨0, 0, false⟩ : S71)), 0)) else (none)) else (none))) else (none)) else (none)
def probe_Drop.f (k : Nat) (l0 : List (S71)) (a1 : Int) : Option ((List (S71)) × Int) := (probe_Check.f k l0).bind fun t183 => (if t183 = 0 then ((probe_look.f k l0 a1).bind fun bt184 => (if 0 ≤ bt184.1 then (if bt184.1 < (l0.length : Int) then (if ((rd_T71 l0 bt184.1).f2 = true) then ((api_Cell.f l0).bind fun t187 => ((probe_wrap.f (wrap64 (bt184.1 + 1))).bind fun t190 => (probe_Drop.l0 k bt184.1 t187 t190))) else (some (([] : List (S71)), 6))) else (none)) else (none))) else (some (([] : List (S71)), t183)))
theorem probe_Drop.mono_l : ∀ k, (∀ y0 y1 y2, LeO (probe_Drop.l0 k y0 y1 y2) (probe_Drop.l0 (k + 1) y0 y1 y2))
  | 0 => fun _ _ _ r h => by simp [probe_Drop.l0] at h
  | k + 1 => by
    have ih0 := probe_Drop.mono_l k
    · intro y0 y1 y2
      unfold probe_Drop.l0
      repeat' first
      | (with_reducible exact ih0 _ _ _)
      | (with_reducible exact probe_Check.mono _ _)
      | (with_reducible exact probe_look.mono _ _ _)
      | (with_reducible exact LeO.refl _)
      | (with_reducible exact LeO.none _)
      | (with_reducible refine LeO.ite ?_ ?_)
      | (with_reducible refine LeO.bind ?_ (fun _ => ?_))
      | exact ih0 _ _ _
      | exact probe_Check.mono _ _
      | exact probe_look.mono _ _ _
      | exact LeO.none _
      | refine LeO.ite ?_ ?_
      | refine LeO.bind ?_ (fun _ => ?_)
theorem probe_Drop.mono : ∀ a0 a1 k, LeO (probe_Drop.f k a0 a1) (probe_Drop.f (k + 1) a0 a1) := by
  intro a0 a1 k
  have ih0 := probe_Drop.mono_l k
  unfold probe_Drop.f
  repeat' first
      | (with_reducible exact ih0 _ _ _)
      | (with_reducible exact probe_Check.mono _ _)
      | (with_reducible exact probe_look.mono _ _ _)
      | (with_reducible exact LeO.refl _)
      | (with_reducible exact LeO.none _)
      | (with_reducible refine LeO.ite ?_ ?_)
      | (with_reducible refine LeO.bind ?_ (fun _ => ?_))
      | exact ih0 _ _ _
      | exact probe_Check.mono _ _
      | exact probe_look.mono _ _ _
      | exact LeO.none _
      | refine LeO.ite ?_ ?_
      | refine LeO.bind ?_ (fun _ => ?_)
set_option maxHeartbeats 8000000 in
set_option maxRecDepth 100000 in
theorem probe_Drop.calls (k : Nat) (A0 : Option Addr) (c0 : Nat) (l0 : List (S71)) (a1 : Int) (r1 : List (S71)) (r2 : Int) (w : World) (hr0 : Kd.C k71 w A0 l0.length l0) (hc0 : l0.length ≤ c0) (h : probe_Drop.f k l0 a1 = some (r1, r2)) :
    Calls Try.prog 38 #[.slice A0 l0.length c0, .int .u32 a1] w fun e w' => ∃ v0_ : Value, e = .returned (.tuple #[v0_, .int .i64 r2]) ∧ Kd.R k71 71 w' w.heap.size (fun _ => True) v0_ r1 ∧ Below w.heap.size w w' := by
  have hu71 := Try.underlying71
  have HR0 := Aside0.mk hr0
  have HC0 := Aside0.mk hc0
  clear hr0 hc0
  have HB := Aside0.mk (Below.refl w.heap.size w)
  have H : ((probe_Check.f k l0).bind fun t183 => (if t183 = 0 then ((probe_look.f k l0 a1).bind fun bt184 => (if 0 ≤ bt184.1 then (if bt184.1 < (l0.length : Int) then (if ((rd_T71 l0 bt184.1).f2 = true) then ((api_Cell.f l0).bind fun t187 => ((probe_wrap.f (wrap64 (bt184.1 + 1))).bind fun t190 => (probe_Drop.l0 k bt184.1 t187 t190))) else (some (([] : List (S71)), 6))) else (none)) else (none))) else (some (([] : List (S71)), t183)))) = some (r1, r2) := h
  (try clear h)
  replace H := Option.bind_eq_some_iff.mp H
  obtain ⟨t183, A30, H⟩ := H
  replace H : (if t183 = 0 then ((probe_look.f k l0 a1).bind fun bt184 => (if 0 ≤ bt184.1 then (if bt184.1 < (l0.length : Int) then (if ((rd_T71 l0 bt184.1).f2 = true) then ((api_Cell.f l0).bind fun t187 => ((probe_wrap.f (wrap64 (bt184.1 + 1))).bind fun t190 => (probe_Drop.l0 k bt184.1 t187 t190))) else (some (([] : List (S71)), 6))) else (none)) else (none))) else (some (([] : List (S71)), t183))) = some (r1, r2) := H
  have A3 := Aside0.mk A30
  (try clear A30)
  by_cases c4 : t183 = 0
  · rw [if_pos c4] at H
    have c4b0 : (t183 == 0) = true := beq_iff_eq.mpr c4
    have c4b1 : (t183 != 0) = false := bne_eq_false_iff_eq.mpr c4
    clear c4
    replace H := Option.bind_eq_some_iff.mp H
    obtain ⟨⟨t184, t185⟩, A50, H⟩ := H
    replace H : (if 0 ≤ t184 then (if t184 < (l0.length : Int) then (if ((rd_T71 l0 t184).f2 = true) then ((api_Cell.f l0).bind fun t187 => ((probe_wrap.f (wrap64 (t184 + 1))).bind fun t190 => (probe_Drop.l0 k t184 t187 t190))) else (some (([] : List (S71)), 6))) else (none)) else (none)) = some (r1, r2) := H
    have A5 := Aside0.mk A50
    (try clear A50)
    by_cases c6 : 0 ≤ t184
    · rw [if_pos c6] at H
      have c6b0 : decide (0 ≤ t184) = true := decide_eq_true c6
      clear c6
      by_cases c7 : t184 < (l0.length : Int)
      · rw [if_pos c7] at H
        have c7b0 : decide (t184 < (l0.length : Int)) = true := decide_eq_true c7
        clear c7
        obtain ⟨bq8, hbq8⟩ : ∃ b_ : Bool, b_ = ((rd_T71 l0 t184).f2) := ⟨_, rfl⟩
        replace H : (if (bq8 = true) then ((api_Cell.f l0).bind fun t187 => ((probe_wrap.f (wrap64 (t184 + 1))).bind fun t190 => (probe_Drop.l0 k t184 t187 t190))) else (some (([] : List (S71)), 6))) = some (r1, r2) := by rw [← hbq8] at H; exact H
        have Nbq8 := Aside0.mk hbq8
        (try clear hbq8)
        by_cases c9 : (bq8 = true)
        · subst c9
          have H1 : ((api_Cell.f l0).bind fun t187 => ((probe_wrap.f (wrap64 (t184 + 1))).bind fun t190 => (probe_Drop.l0 k t184 t187 t190))) = some (r1, r2) := by rw [if_pos rfl] at H; exact H
          clear H
          have H := H1
          clear H1
          replace H := Option.bind_eq_some_iff.mp H
          obtain ⟨t187, A100, H⟩ := H
          replace H : ((probe_wrap.f (wrap64 (t184 + 1))).bind fun t190 => (probe_Drop.l0 k t184 t187 t190)) = some (r1, r2) := H
          have A10 := Aside0.mk A100
          (try clear A100)
          replace H := Option.bind_eq_some_iff.mp H
          obtain ⟨t190, A110, H⟩ := H
          replace H : (probe_Drop.l0 k t184 t187 t190) = some (r1, r2) := H
          have A11 := Aside0.mk A110
          (try clear A110)
          have H' := Aside0.mk H
          clear H
          go_enter Try.func38, Try.ntmps38
          go_wp2_with (first | ((with_reducible refine gate_callee (f := 20) rfl ?_); refine goesE (some 13) rfl rfl Try.func20 (by kernel_rfl) rfl #[.slice A0 l0.length c0] rfl ?_; (with_reducible refine (probe_Check.calls k _ _ l0 t183 _ ?side1 ?side2 A3.out).mono ?_); (case side1 => exact Kd.pC HR0.out); (case side2 => exact HC0.out); rintro e w12 ⟨rfl, hb⟩; refine ⟨_, rfl, ?_⟩; have n0_ := Aside0.mk (below_step (pB HB.out) hb); clear HB; have HB := n0_; clear n0_; (try clear hb); (try clear hb2); (try clear hk); (try clear hi)) | ((with_reducible refine gate_callee (f := 46) rfl ?_); refine goesE (some 20) rfl rfl Try.func46 (by kernel_rfl) rfl #[.slice A0 l0.length c0, .int .u32 a1] rfl ?_; (with_reducible refine (probe_look.calls k _ _ l0 a1 t184 t185 _ ?side1 ?side2 A5.out).mono ?_); (case side1 => exact Kd.pC ((Kd.C_below HR0.out HB.out))); (case side2 => exact HC0.out); rintro e w' ⟨rfl, ⟨nd, rfl⟩⟩; refine ⟨_, rfl, ?_⟩; have p186 : 0 ≤ (t184 : Int) := od; have q186 : t184 < (l0.length : Int) := od; obtain ⟨ad186, e186, hx186_0, hx186_1, hx186_2⟩ := at_T71 HR0.out t184 p186 q186; (try rw [← Nbq8.out] at hx186_2); cases e186; replace hx186_0 := (HB.out.cell (World.block_lt_of_cell? w _ hx186_0)).trans hx186_0; replace hx186_1 := (HB.out.cell (World.block_lt_of_cell? w _ hx186_1)).trans hx186_1; replace hx186_2 := (HB.out.cell (World.block_lt_of_cell? w _ hx186_2)).trans hx186_2; replace p186 := eq_true p186; replace q186 := eq_true q186) | ((with_reducible refine gate_callee (f := 51) rfl ?_); refine goesE (some 30) rfl rfl Try.func51 (by kernel_rfl) rfl #[.slice (some ad186) l0.length c0] rfl ?_; (with_reducible refine (api_Cell.calls _ _ l0 t187 _ ?side1 ?side2 A10.out).mono ?_); (case side1 => exact Kd.pC ((Kd.C_below HR0.out (pB HB.out)))); (case side2 => exact HC0.out); rintro e w13 ⟨v188, rfl, ho0, hb⟩; refine ⟨_, rfl, ?_⟩; have n0_ := Aside0.mk (Kd.R_lower ho0 (below_size (pB HB.out))); have n1_ := Aside0.mk (below_step (pB HB.out) hb); clear HB; have HO189 := n0_; have HB := n1_; clear n0_ n1_; (try clear hb); (try clear hb2); (try clear hk); (try clear hi); (try clear ho0)) | ((with_reducible refine gate_callee (f := 52) rfl ?_); refine goesE (some 33) rfl rfl Try.func52 (by kernel_rfl) rfl #[.int .i64 (wrap64 (t184 + 1))] rfl ?_; (with_reducible refine (probe_wrap.calls (wrap64 (t184 + 1)) t190 _ A11.out).mono ?_); rintro e w' ⟨rfl, ⟨nd, rfl⟩⟩; refine ⟨_, rfl, ?_⟩))
          go_loopg [7, 10] k (fun kq v7 v10 w' => ∃ (x7_1 : Int) (x9_1 : List (S71)) (x10_1 : Int), v7 = .int .i64 x7_1 ∧ v10 = .int .i64 x10_1 ∧ Aside0 (probe_Drop.l0 kq x7_1 x9_1 x10_1 = some (r1, r2)) ∧ Aside0 (kq ≤ k) ∧ Aside0 (Kd.R k71 71 w' w.heap.size (fun _ => True) v188 x9_1) ∧ Aside0 (Below w.heap.size w w'))
          case atStart => exact ⟨(t184), (t187), (t190), (by first | rfl | (simp; done) | (simp [*]; done)), (by first | rfl | (simp; done) | (simp [*]; done)), H', ⟨Nat.le_refl _⟩, ⟨Kd.pR HO189.out⟩, ⟨pB HB.out⟩⟩
          case round =>
            clear H'
            try clear p1
            try clear q1
            try clear hx1
            try clear c2
            try clear p2
            try clear c3
            try clear c4
            try clear c4b0
            try clear c4b1
            try clear c5
            try clear c6
            try clear c6b0
            try clear p6
            try clear c7
            try clear c7b0
            try clear q8
            try clear c9
            try clear hx186_0
            try clear hx186_1
            try clear hx186_2
            try clear p186
            try clear q186
            obtain ⟨x7_1, x9_1, x10_1, rfl, rfl, HA, HK1, HO_9, HB⟩ := hrel
            cases gk with
            | zero => exact absurd HA.out (by simp [probe_Drop.l0])
            | succ k1 =>
              have H := HA.out
              (try clear HA)
              simp only [probe_Drop.l0] at H
              by_cases c14 : 0 ≤ x10_1
              · rw [if_pos c14] at H
                have c14b0 : decide (0 ≤ x10_1) = true := decide_eq_true c14
                clear c14
                by_cases c15 : x10_1 < (x9_1.length : Int)
                · rw [if_pos c15] at H
                  have c15b0 : decide (x10_1 < (x9_1.length : Int)) = true := decide_eq_true c15
                  clear c15
                  obtain ⟨bq16, hbq16⟩ : ∃ b_ : Bool, b_ = ((rd_T71 x9_1 x10_1).f2) := ⟨_, rfl⟩
                  replace H : (if bq16 = true then ((probe_wrap.f (wrap64 (x10_1 - x7_1))).bind fun t193 => ((probe_Home.f ((rd_T71 x9_1 x10_1).f0)).bind fun t195 => ((probe_wrap.f (wrap64 ((wrap64 (t195 - x7_1)) - 1))).bind fun t196 => (if t196 ≥ t193 then (if 0 ≤ x7_1 then (if x7_1 < (x9_1.length : Int) then ((probe_wrap.f (wrap64 (x10_1 + 1))).bind fun t199 => (probe_Drop.l0 k1 x10_1 (x9_1.set (x7_1 : Int).toNat (⟨(rd_T71 x9_1 x10_1).f0, (rd_T71 x9_1 x10_1).f1, bq16⟩ : S71)) t199)) else (none)) else (none)) else ((probe_wrap.f (wrap64 (x10_1 + 1))).bind fun t200 => (probe_Drop.l0 k1 x7_1 x9_1 t200)))))) else (if 0 ≤ x7_1 then (if x7_1 < (x9_1.length : Int) then (some ((x9_1.set (x7_1 : Int).toNat (⟨0, 0, false⟩ : S71)), 0)) else (none)) else (none))) = some (r1, r2) := by rw [← hbq16] at H; exact H
                  have Nbq16 := Aside0.mk hbq16
                  (try clear hbq16)
                  by_cases c17 : bq16 = true
                  · subst c17
                    have H1 : ((probe_wrap.f (wrap64 (x10_1 - x7_1))).bind fun t193 => ((probe_Home.f ((rd_T71 x9_1 x10_1).f0)).bind fun t195 => ((probe_wrap.f (wrap64 ((wrap64 (t195 - x7_1)) - 1))).bind fun t196 => (if t196 ≥ t193 then (if 0 ≤ x7_1 then (if x7_1 < (x9_1.length : Int) then ((probe_wrap.f (wrap64 (x10_1 + 1))).bind fun t199 => (probe_Drop.l0 k1 x10_1 (x9_1.set (x7_1 : Int).toNat (⟨(rd_T71 x9_1 x10_1).f0, (rd_T71 x9_1 x10_1).f1, true⟩ : S71)) t199)) else (none)) else (none)) else ((probe_wrap.f (wrap64 (x10_1 + 1))).bind fun t200 => (probe_Drop.l0 k1 x7_1 x9_1 t200)))))) = some (r1, r2) := by rw [if_pos rfl] at H; exact H
                    clear H
                    have H := H1
                    clear H1
                    replace H := Option.bind_eq_some_iff.mp H
                    obtain ⟨t193, A180, H⟩ := H
                    replace H : ((probe_Home.f ((rd_T71 x9_1 x10_1).f0)).bind fun t195 => ((probe_wrap.f (wrap64 ((wrap64 (t195 - x7_1)) - 1))).bind fun t196 => (if t196 ≥ t193 then (if 0 ≤ x7_1 then (if x7_1 < (x9_1.length : Int) then ((probe_wrap.f (wrap64 (x10_1 + 1))).bind fun t199 => (probe_Drop.l0 k1 x10_1 (x9_1.set (x7_1 : Int).toNat (⟨(rd_T71 x9_1 x10_1).f0, (rd_T71 x9_1 x10_1).f1, true⟩ : S71)) t199)) else (none)) else (none)) else ((probe_wrap.f (wrap64 (x10_1 + 1))).bind fun t200 => (probe_Drop.l0 k1 x7_1 x9_1 t200))))) = some (r1, r2) := H
                    have A18 := Aside0.mk A180
                    (try clear A180)
                    replace H := Option.bind_eq_some_iff.mp H
                    obtain ⟨t195, A190, H⟩ := H
                    replace H : ((probe_wrap.f (wrap64 ((wrap64 (t195 - x7_1)) - 1))).bind fun t196 => (if t196 ≥ t193 then (if 0 ≤ x7_1 then (if x7_1 < (x9_1.length : Int) then ((probe_wrap.f (wrap64 (x10_1 + 1))).bind fun t199 => (probe_Drop.l0 k1 x10_1 (x9_1.set (x7_1 : Int).toNat (⟨(rd_T71 x9_1 x10_1).f0, (rd_T71 x9_1 x10_1).f1, true⟩ : S71)) t199)) else (none)) else (none)) else ((probe_wrap.f (wrap64 (x10_1 + 1))).bind fun t200 => (probe_Drop.l0 k1 x7_1 x9_1 t200)))) = some (r1, r2) := H
                    have A19 := Aside0.mk A190
                    (try clear A190)
                    replace H := Option.bind_eq_some_iff.mp H
                    obtain ⟨t196, A200, H⟩ := H
                    replace H : (if t196 ≥ t193 then (if 0 ≤ x7_1 then (if x7_1 < (x9_1.length : Int) then ((probe_wrap.f (wrap64 (x10_1 + 1))).bind fun t199 => (probe_Drop.l0 k1 x10_1 (x9_1.set (x7_1 : Int).toNat (⟨(rd_T71 x9_1 x10_1).f0, (rd_T71 x9_1 x10_1).f1, true⟩ : S71)) t199)) else (none)) else (none)) else ((probe_wrap.f (wrap64 (x10_1 + 1))).bind fun t200 => (probe_Drop.l0 k1 x7_1 x9_1 t200))) = some (r1, r2) := H
                    have A20 := Aside0.mk A200
                    (try clear A200)
                    by_cases c21 : t196 ≥ t193
                    · rw [if_pos c21] at H
                      have c21b0 : decide (t193 ≤ t196) = true := decide_eq_true c21
                      clear c21
                      by_cases c22 : 0 ≤ x7_1
                      · rw [if_pos c22] at H
                        have c22b0 : decide (0 ≤ x7_1) = true := decide_eq_true c22
                        clear c22
                        by_cases c23 : x7_1 < (x9_1.length : Int)
                        · rw [if_pos c23] at H
                          have c23b0 : decide (x7_1 < (x9_1.length : Int)) = true := decide_eq_true c23
                          clear c23
                          obtain ⟨y198, hy198⟩ : ∃ y_ : List (S71), y_ = (x9_1.set (x7_1 : Int).toNat (⟨(rd_T71 x9_1 x10_1).f0, (rd_T71 x9_1 x10_1).f1, true⟩ : S71)) := ⟨_, rfl⟩
                          replace H : ((probe_wrap.f (wrap64 (x10_1 + 1))).bind fun t199 => (probe_Drop.l0 k1 x10_1 y198 t199)) = some (r1, r2) := by first | (rw [hy198]; with_reducible exact H) | (have H2_ := (Option.bind_some _ _).symm.trans H; rw [hy198]; with_reducible exact H2_) | (have H2_ := (Option.bind_some _ _).symm.trans H; with_reducible exact H2_) | with_reducible exact H | (rw [hy198]; exact H) | exact H
                          have Ny198 := Aside0.mk hy198
                          (try clear hy198)
                          replace H := Option.bind_eq_some_iff.mp H
                          obtain ⟨t199, A250, H⟩ := H
                          replace H : (probe_Drop.l0 k1 x10_1 y198 t199) = some (r1, r2) := H
                          have A25 := Aside0.mk A250
                          (try clear A250)
                          have H' := Aside0.mk H
                          clear H
                          obtain ⟨Ao26, co26, eo26⟩ := Kd.R_slice HO_9.out
                          subst eo26
                          have p191 : 0 ≤ (x10_1 : Int) := od
                          have q191 : x10_1 < (x9_1.length : Int) := od
                          obtain ⟨ad191, e191, hx191_0, hx191_1, hx191_2⟩ := at_T71 (Kd.R_reads' HO_9.out).2.2 x10_1 p191 q191
                          (try rw [← Nbq8.out] at hx191_2)
                          (try rw [← Nbq16.out] at hx191_2)
                          cases e191
                          replace p191 := eq_true p191
                          replace q191 := eq_true q191
                          go_wp2_with (first | ((with_reducible refine gate_callee (f := 52) rfl ?_); refine goesE (some 45) rfl rfl Try.func52 (by kernel_rfl) rfl #[.int .i64 (wrap64 (x10_1 - x7_1))] rfl ?_; (with_reducible refine (probe_wrap.calls (wrap64 (x10_1 - x7_1)) t193 _ A18.out).mono ?_); rintro e w' ⟨rfl, ⟨nd, rfl⟩⟩; refine ⟨_, rfl, ?_⟩; (try (rw [drewN_self wr]; generalize hq_ : World.drewN wr _ = wr; have n0_ : Aside0 (Kd.R k71 71 wr w.heap.size (fun _ => True) (.slice (some ad191) x9_1.length co26) x9_1) := ⟨by rw [← hq_]; exact (Kd.pR HO_9.out)⟩; have n1_ : Aside0 (Below w.heap.size w wr) := ⟨by rw [← hq_]; exact (pB HB.out)⟩; clear HO_9 HB hq_; have HO_9 := n0_; have HB := n1_; clear n0_ n1_)); have p194 : 0 ≤ (x10_1 : Int) := od; have q194 : x10_1 < (x9_1.length : Int) := od; obtain ⟨ad194, e194, hx194_0, hx194_1, hx194_2⟩ := at_T71 (Kd.R_reads' HO_9.out).2.2 x10_1 p194 q194; (try rw [← Nbq8.out] at hx194_2); (try rw [← Nbq16.out] at hx194_2); obtain rfl : ad191 = ad194 := (by injection e194); replace p194 := eq_true p194; replace q194 := eq_true q194) | ((with_reducible refine gate_callee (f := 18) rfl ?_); refine goesE (some 51) rfl rfl Try.func18 (by kernel_rfl) rfl #[.int .u32 ((rd_T71 x9_1 x10_1).f0)] rfl ?_; (with_reducible refine (probe_Home.calls ((rd_T71 x9_1 x10_1).f0) t195 _ A19.out).mono ?_); rintro e w' ⟨rfl, ⟨nd, rfl⟩⟩; refine ⟨_, rfl, ?_⟩; (try (rw [drewN_self wr]; generalize hq_ : World.drewN wr _ = wr; have n0_ : Aside0 (Kd.R k71 71 wr w.heap.size (fun _ => True) (.slice (some ad191) x9_1.length co26) x9_1) := ⟨by rw [← hq_]; exact (Kd.pR HO_9.out)⟩; have n1_ : Aside0 (Below w.heap.size w wr) := ⟨by rw [← hq_]; exact (pB HB.out)⟩; clear HO_9 HB hq_; have HO_9 := n0_; have HB := n1_; clear n0_ n1_))) | ((with_reducible refine gate_callee (f := 52) rfl ?_); refine goesE (some 55) rfl rfl Try.func52 (by kernel_rfl) rfl #[.int .i64 (wrap64 ((wrap64 (t195 - x7_1)) - 1))] rfl ?_; (with_reducible refine (probe_wrap.calls (wrap64 ((wrap64 (t195 - x7_1)) - 1)) t196 _ A20.out).mono ?_); rintro e w' ⟨rfl, ⟨nd, rfl⟩⟩; refine ⟨_, rfl, ?_⟩; (try (rw [drewN_self wr]; generalize hq_ : World.drewN wr _ = wr; have n0_ : Aside0 (Kd.R k71 71 wr w.heap.size (fun _ => True) (.slice (some ad191) x9_1.length co26) x9_1) := ⟨by rw [← hq_]; exact (Kd.pR HO_9.out)⟩; have n1_ : Aside0 (Below w.heap.size w wr) := ⟨by rw [← hq_]; exact (pB HB.out)⟩; clear HO_9 HB hq_; have HO_9 := n0_; have HB := n1_; clear n0_ n1_)); have p197 : 0 ≤ (x10_1 : Int) := od; have q197 : x10_1 < (x9_1.length : Int) := od; obtain ⟨ad197, e197, hx197_0, hx197_1, hx197_2⟩ := at_T71 (Kd.R_reads' HO_9.out).2.2 x10_1 p197 q197; (try rw [← Nbq8.out] at hx197_2); (try rw [← Nbq16.out] at hx197_2); obtain rfl : ad191 = ad197 := (by injection e197); replace p197 := eq_true p197; replace q197 := eq_true q197; have p24 : 0 ≤ (x7_1 : Int) := od; have q24 : (x7_1 : Int) < ((x9_1.length : Int) : Int) := od; obtain ⟨go24, co24, eo24, gb24, gl24, cl24, HG24⟩ := Kd.R_form HO_9.out (by omega); (first | cases eo24 | (injection eo24 with ea_ en_ ec_; (first | subst ea_ | (injection ea_ with ea_; subst ea_)); subst ec_; clear en_)); have GB24 := Aside0.mk gb24; have GG24 := Aside0.mk HG24; clear gb24 gl24 HG24; (first | simp only [add_plain] at hx191_0 | skip); (first | simp only [add_plain] at hx191_1 | skip); (first | simp only [add_plain] at hx191_2 | skip); (first | simp only [add_plain] at hx194_0 | skip); (first | simp only [add_plain] at hx194_1 | skip); (first | simp only [add_plain] at hx194_2 | skip); (first | simp only [add_plain] at hx197_0 | skip); (first | simp only [add_plain] at hx197_1 | skip); (first | simp only [add_plain] at hx197_2 | skip); obtain ⟨ce24, hcl24, hM24, hcc24, hfr24⟩ := Kd.R_elem HO_9.out z71 (x7_1 : Int) p24 q24; obtain rfl := k71_openM hM24; have hx24_0 : wr.cell? ⟨go24, (x7_1 : Int).toNat * 3, none⟩ = some (.int .u32 ((rd_T71 x9_1 x7_1).f0)) := hcc24 0 _ rfl; have hx24_1 : wr.cell? ⟨go24, (x7_1 : Int).toNat * 3 + 1, none⟩ = some (.int .i64 ((rd_T71 x9_1 x7_1).f1)) := hcc24 1 _ rfl; have hx24_2 : wr.cell? ⟨go24, (x7_1 : Int).toNat * 3 + 2, none⟩ = some (.bool ((rd_T71 x9_1 x7_1).f2)) := hcc24 2 _ rfl; have hf24_0 : wr.frozen? ⟨go24, (x7_1 : Int).toNat * 3, none⟩ = false := hfr24 0; have hf24_1 : wr.frozen? ⟨go24, (x7_1 : Int).toNat * 3 + 1, none⟩ = false := hfr24 1; have hf24_2 : wr.frozen? ⟨go24, (x7_1 : Int).toNat * 3 + 2, none⟩ = false := hfr24 2; clear hcl24 hcc24 hfr24 hM24; replace p24 := eq_true p24; replace q24 := eq_true q24; have HX27 := Aside0.mk (show Kd.R k71 71 wr w.heap.size (fun _ => True) (.slice (some ⟨go24, 0, none⟩) x9_1.length co26) x9_1 from (Kd.pR HO_9.out)); obtain ⟨ce27, hcl27, hM27, hcc27, hfr27⟩ := Kd.R_elem HX27.out z71 (x7_1 : Int) od (by have h_ : (x7_1 : Int) < ((x9_1.length : Int) : Int) := od; first | exact h_ | (have e_ := (Kd.R_reads' HO_9.out).1; omega) | simpa using h_); obtain rfl := k71_openM hM27; have HP27 := Kd.R_seg HX27.out (x7_1 : Int) od (by have h_ : (x7_1 : Int) < ((x9_1.length : Int) : Int) := od; first | exact h_ | (have e_ := (Kd.R_reads' HO_9.out).1; omega) | simpa using h_) (seg := [.int .u32 ((rd_T71 x9_1 x10_1).f0), .int .i64 ((rd_T71 x9_1 x10_1).f1), .bool true]) (j := 0) hcl27 hcc27 (show 3 ≤ 3 from by decide) (x' := (⟨(rd_T71 x9_1 x10_1).f0, (rd_T71 x9_1 x10_1).f1, true⟩ : S71)) (k71_mkM _ _ _ (⟨(rd_T71 x9_1 x10_1).f0, (rd_T71 x9_1 x10_1).f1, true⟩ : S71) ) (fun _ hk => hk); have hx27_0 := hcc27 0 _ rfl; (try simp only [show (k71).sz = 3 from rfl, Nat.mul_one, Nat.add_zero] at hx27_0); have hf27_0 := hfr27 0; (try simp only [show (k71).sz = 3 from rfl, Nat.mul_one, Nat.add_zero] at hf27_0); have hx27_1 := hcc27 1 _ rfl; (try simp only [show (k71).sz = 3 from rfl, Nat.mul_one, Nat.add_zero] at hx27_1); have hf27_1 := hfr27 1; (try simp only [show (k71).sz = 3 from rfl, Nat.mul_one, Nat.add_zero] at hf27_1); have hx27_2 := hcc27 2 _ rfl; (try simp only [show (k71).sz = 3 from rfl, Nat.mul_one, Nat.add_zero] at hx27_2); have hf27_2 := hfr27 2; (try simp only [show (k71).sz = 3 from rfl, Nat.mul_one, Nat.add_zero] at hf27_2); clear hcl27 hcc27 hfr27 hM27) | ((with_reducible refine gate_store (t := 71) (p := 65) rfl ?_); refine store_event (t := 71) (p := 65) (v := ?vo_w28) (w1 := (((wr.setCell ⟨go24, (x7_1 : Int).toNat * 3, none⟩ (.int .u32 ((rd_T71 x9_1 x10_1).f0))).setCell ⟨go24, (x7_1 : Int).toNat * 3 + 1, none⟩ (.int .i64 ((rd_T71 x9_1 x10_1).f1))).setCell ⟨go24, (x7_1 : Int).toNat * 3 + 2, none⟩ (.bool true))) ?hg ?ho ?hn ?hr ?_; (case ho => rfl); (case hg => rfl); (case hn => rfl); (case hr => first | (go_simp; done) | (go_simp; rfl)); intro w28 hw; have hg : wr.grownBy w28 (some go24) := (by rw [hw]; exact HP27.2); have hp_ : Kd.R k71 71 w28 w.heap.size (fun _ => True) (.slice (some ⟨go24, 0, none⟩) x9_1.length co26) y198 := (by rw [hw, Ny198.out]; exact HP27.1); (try clear HP27); have n0_ := Aside0.mk (hp_); have n1_ := Aside0.mk ((by rw [hw]; exact below_set (below_set (below_set (HB.out) GB24.out) GB24.out) GB24.out : Below w.heap.size w w28)); clear HO_9; clear HB; have HO_9 := n0_; have HB := n1_; clear n0_ n1_; clear hg hw hp_) | ((with_reducible refine gate_callee (f := 52) rfl ?_); refine goesE (some 41) rfl rfl Try.func52 (by kernel_rfl) rfl #[.int .i64 (wrap64 (x10_1 + 1))] rfl ?_; (with_reducible refine (probe_wrap.calls (wrap64 (x10_1 + 1)) t199 _ A25.out).mono ?_); rintro e w' ⟨rfl, ⟨nd, rfl⟩⟩; refine ⟨_, rfl, ?_⟩))
                          go_roundg k1
                          case measure => have := HK1.out; omega
                          case rel => exact ⟨(x10_1), (y198), (t199), (by first | rfl | (simp; done) | (simp [*]; done)), (by first | rfl | (simp; done) | (simp [*]; done)), H', ⟨by have := HK1.out; omega⟩, ⟨Kd.pR HO_9.out⟩, ⟨pB HB.out⟩⟩
                        · rw [if_neg c23] at H
                          exact absurd H (by simp)
                      · rw [if_neg c22] at H
                        exact absurd H (by simp)
                    · rw [if_neg c21] at H
                      have c21b0 : decide (t193 ≤ t196) = false := decide_eq_false c21
                      (try clear c21)
                      replace H := Option.bind_eq_some_iff.mp H
                      obtain ⟨t200, A290, H⟩ := H
                      replace H : (probe_Drop.l0 k1 x7_1 x9_1 t200) = some (r1, r2) := H
                      have A29 := Aside0.mk A290
                      (try clear A290)
                      have H' := Aside0.mk H
                      clear H
                      obtain ⟨Ao30, co30, eo30⟩ := Kd.R_slice HO_9.out
                      subst eo30
                      have p191 : 0 ≤ (x10_1 : Int) := od
                      have q191 : x10_1 < (x9_1.length : Int) := od
                      obtain ⟨ad191, e191, hx191_0, hx191_1, hx191_2⟩ := at_T71 (Kd.R_reads' HO_9.out).2.2 x10_1 p191 q191
                      (try rw [← Nbq8.out] at hx191_2)
                      (try rw [← Nbq16.out] at hx191_2)
                      cases e191
                      replace p191 := eq_true p191
                      replace q191 := eq_true q191
                      go_wp2_with (first | ((with_reducible refine gate_callee (f := 52) rfl ?_); refine goesE (some 45) rfl rfl Try.func52 (by kernel_rfl) rfl #[.int .i64 (wrap64 (x10_1 - x7_1))] rfl ?_; (with_reducible refine (probe_wrap.calls (wrap64 (x10_1 - x7_1)) t193 _ A18.out).mono ?_); rintro e w' ⟨rfl, ⟨nd, rfl⟩⟩; refine ⟨_, rfl, ?_⟩; have p194 : 0 ≤ (x10_1 : Int) := od; have q194 : x10_1 < (x9_1.length : Int) := od; obtain ⟨ad194, e194, hx194_0, hx194_1, hx194_2⟩ := at_T71 (Kd.R_reads' HO_9.out).2.2 x10_1 p194 q194; (try rw [← Nbq8.out] at hx194_2); (try rw [← Nbq16.out] at hx194_2); obtain rfl : ad191 = ad194 := (by injection e194); replace p194 := eq_true p194; replace q194 := eq_true q194) | ((with_reducible refine gate_callee (f := 18) rfl ?_); refine goesE (some 51) rfl rfl Try.func18 (by kernel_rfl) rfl #[.int .u32 ((rd_T71 x9_1 x10_1).f0)] rfl ?_; (with_reducible refine (probe_Home.calls ((rd_T71 x9_1 x10_1).f0) t195 _ A19.out).mono ?_); rintro e w' ⟨rfl, ⟨nd, rfl⟩⟩; refine ⟨_, rfl, ?_⟩) | ((with_reducible refine gate_callee (f := 52) rfl ?_); refine goesE (some 55) rfl rfl Try.func52 (by kernel_rfl) rfl #[.int .i64 (wrap64 ((wrap64 (t195 - x7_1)) - 1))] rfl ?_; (with_reducible refine (probe_wrap.calls (wrap64 ((wrap64 (t195 - x7_1)) - 1)) t196 _ A20.out).mono ?_); rintro e w' ⟨rfl, ⟨nd, rfl⟩⟩; refine ⟨_, rfl, ?_⟩) | ((with_reducible refine gate_callee (f := 52) rfl ?_); refine goesE (some 41) rfl rfl Try.func52 (by kernel_rfl) rfl #[.int .i64 (wrap64 (x10_1 + 1))] rfl ?_; (with_reducible refine (probe_wrap.calls (wrap64 (x10_1 + 1)) t200 _ A29.out).mono ?_); rintro e w' ⟨rfl, ⟨nd, rfl⟩⟩; refine ⟨_, rfl, ?_⟩))
                      go_roundg k1
                      case measure => have := HK1.out; omega
                      case rel => exact ⟨(x7_1), (x9_1), (t200), (by first | rfl | (simp; done) | (simp [*]; done)), (by first | rfl | (simp; done) | (simp [*]; done)), H', ⟨by have := HK1.out; omega⟩, ⟨Kd.pR HO_9.out⟩, ⟨pB HB.out⟩⟩
                  · replace c17 := Bool.eq_false_iff.mpr c17
                    subst c17
                    have H1 : (if 0 ≤ x7_1 then (if x7_1 < (x9_1.length : Int) then (some ((x9_1.set (x7_1 : Int).toNat (⟨0, 0, false⟩ : S71)), 0)) else (none)) else (none)) = some (r1, r2) := by rw [if_neg (show ¬ (false = true) by decide)] at H; exact H
                    clear H
                    have H := H1
                    clear H1
                    by_cases c31 : 0 ≤ x7_1
                    · rw [if_pos c31] at H
                      have c31b0 : decide (0 ≤ x7_1) = true := decide_eq_true c31
                      clear c31
                      by_cases c32 : x7_1 < (x9_1.length : Int)
                      · rw [if_pos c32] at H
                        have c32b0 : decide (x7_1 < (x9_1.length : Int)) = true := decide_eq_true c32
                        clear c32
                        obtain ⟨y192, hy192⟩ : ∃ y_ : List (S71), y_ = (x9_1.set (x7_1 : Int).toNat (⟨0, 0, false⟩ : S71)) := ⟨_, rfl⟩
                        replace H : (some (y192, 0)) = some (r1, r2) := by first | (rw [hy192]; with_reducible exact H) | (have H2_ := (Option.bind_some _ _).symm.trans H; rw [hy192]; with_reducible exact H2_) | (have H2_ := (Option.bind_some _ _).symm.trans H; with_reducible exact H2_) | with_reducible exact H | (rw [hy192]; exact H) | exact H
                        have Ny192 := Aside0.mk hy192
                        (try clear hy192)
                        simp only [Option.some.injEq, Prod.mk.injEq] at H
                        obtain ⟨rfl, rfl⟩ := H
                        obtain ⟨Ao34, co34, eo34⟩ := Kd.R_slice HO_9.out
                        subst eo34
                        have p191 : 0 ≤ (x10_1 : Int) := od
                        have q191 : x10_1 < (x9_1.length : Int) := od
                        obtain ⟨ad191, e191, hx191_0, hx191_1, hx191_2⟩ := at_T71 (Kd.R_reads' HO_9.out).2.2 x10_1 p191 q191
                        (try rw [← Nbq8.out] at hx191_2)
                        (try rw [← Nbq16.out] at hx191_2)
                        cases e191
                        replace p191 := eq_true p191
                        replace q191 := eq_true q191
                        have p33 : 0 ≤ (x7_1 : Int) := od
                        have q33 : (x7_1 : Int) < ((x9_1.length : Int) : Int) := od
                        obtain ⟨go33, co33, eo33, gb33, gl33, cl33, HG33⟩ := Kd.R_form HO_9.out (by omega)
                        (first | cases eo33 | (injection eo33 with ea_ en_ ec_; (first | subst ea_ | (injection ea_ with ea_; subst ea_)); subst ec_; clear en_))
                        have GB33 := Aside0.mk gb33
                        have GG33 := Aside0.mk HG33
                        clear gb33 gl33 HG33
                        (first | simp only [add_plain] at hx191_0 | skip)
                        (first | simp only [add_plain] at hx191_1 | skip)
                        (first | simp only [add_plain] at hx191_2 | skip)
                        (first | simp only [add_plain] at hx194_0 | skip)
                        (first | simp only [add_plain] at hx194_1 | skip)
                        (first | simp only [add_plain] at hx194_2 | skip)
                        obtain ⟨ce33, hcl33, hM33, hcc33, hfr33⟩ := Kd.R_elem HO_9.out z71 (x7_1 : Int) p33 q33
                        obtain rfl := k71_openM hM33
                        have hx33_0 : wr.cell? ⟨go33, (x7_1 : Int).toNat * 3, none⟩ = some (.int .u32 ((rd_T71 x9_1 x7_1).f0)) := hcc33 0 _ rfl
                        have hx33_1 : wr.cell? ⟨go33, (x7_1 : Int).toNat * 3 + 1, none⟩ = some (.int .i64 ((rd_T71 x9_1 x7_1).f1)) := hcc33 1 _ rfl
                        have hx33_2 : wr.cell? ⟨go33, (x7_1 : Int).toNat * 3 + 2, none⟩ = some (.bool ((rd_T71 x9_1 x7_1).f2)) := hcc33 2 _ rfl
                        have hf33_0 : wr.frozen? ⟨go33, (x7_1 : Int).toNat * 3, none⟩ = false := hfr33 0
                        have hf33_1 : wr.frozen? ⟨go33, (x7_1 : Int).toNat * 3 + 1, none⟩ = false := hfr33 1
                        have hf33_2 : wr.frozen? ⟨go33, (x7_1 : Int).toNat * 3 + 2, none⟩ = false := hfr33 2
                        clear hcl33 hcc33 hfr33 hM33
                        replace p33 := eq_true p33
                        replace q33 := eq_true q33
                        have HX35 := Aside0.mk (show Kd.R k71 71 wr w.heap.size (fun _ => True) (.slice (some ⟨go33, 0, none⟩) x9_1.length co34) x9_1 from (Kd.pR HO_9.out))
                        obtain ⟨ce35, hcl35, hM35, hcc35, hfr35⟩ := Kd.R_elem HX35.out z71 (x7_1 : Int) od (by have h_ : (x7_1 : Int) < ((x9_1.length : Int) : Int) := od; first | exact h_ | (have e_ := (Kd.R_reads' HO_9.out).1; omega) | simpa using h_)
                        obtain rfl := k71_openM hM35
                        have HP35 := Kd.R_seg HX35.out (x7_1 : Int) od (by have h_ : (x7_1 : Int) < ((x9_1.length : Int) : Int) := od; first | exact h_ | (have e_ := (Kd.R_reads' HO_9.out).1; omega) | simpa using h_) (seg := [.int .u32 0, .int .i64 0, .bool false]) (j := 0) hcl35 hcc35 (show 3 ≤ 3 from by decide) (x' := (⟨0, 0, false⟩ : S71)) (k71_mkM _ _ _ (⟨0, 0, false⟩ : S71) ) (fun _ hk => hk)
                        have hx35_0 := hcc35 0 _ rfl
                        (try simp only [show (k71).sz = 3 from rfl, Nat.mul_one, Nat.add_zero] at hx35_0)
                        have hf35_0 := hfr35 0
                        (try simp only [show (k71).sz = 3 from rfl, Nat.mul_one, Nat.add_zero] at hf35_0)
                        have hx35_1 := hcc35 1 _ rfl
                        (try simp only [show (k71).sz = 3 from rfl, Nat.mul_one, Nat.add_zero] at hx35_1)
                        have hf35_1 := hfr35 1
                        (try simp only [show (k71).sz = 3 from rfl, Nat.mul_one, Nat.add_zero] at hf35_1)
                        have hx35_2 := hcc35 2 _ rfl
                        (try simp only [show (k71).sz = 3 from rfl, Nat.mul_one, Nat.add_zero] at hx35_2)
                        have hf35_2 := hfr35 2
                        (try simp only [show (k71).sz = 3 from rfl, Nat.mul_one, Nat.add_zero] at hf35_2)
                        clear hcl35 hcc35 hfr35 hM35
                        go_wp2_with (first | ((with_reducible refine gate_store (t := 71) (p := 69) rfl ?_); refine store_event (t := 71) (p := 69) (v := ?vo_w36) (w1 := (((wr.setCell ⟨go33, (x7_1 : Int).toNat * 3, none⟩ (.int .u32 0)).setCell ⟨go33, (x7_1 : Int).toNat * 3 + 1, none⟩ (.int .i64 0)).setCell ⟨go33, (x7_1 : Int).toNat * 3 + 2, none⟩ (.bool false))) ?hg ?ho ?hn ?hr ?_; (case ho => rfl); (case hg => rfl); (case hn => rfl); (case hr => first | (go_simp; done) | (go_simp; rfl)); intro w36 hw; have hg : wr.grownBy w36 (some go33) := (by rw [hw]; exact HP35.2); have hp_ : Kd.R k71 71 w36 w.heap.size (fun _ => True) (.slice (some ⟨go33, 0, none⟩) x9_1.length co34) y192 := (by rw [hw, Ny192.out]; exact HP35.1); (try clear HP35); have n0_ := Aside0.mk (hp_); have n1_ := Aside0.mk ((by rw [hw]; exact below_set (below_set (below_set (HB.out) GB33.out) GB33.out) GB33.out : Below w.heap.size w w36)); clear HO_9; clear HB; have HO_9 := n0_; have HB := n1_; clear n0_ n1_; clear hg hw hp_))
                        go_ret2
                        exact ⟨_, by first | rfl | (simp [errW_none, errW_some] <;> rfl) | (simp [*, errW_none, errW_some] <;> rfl), Kd.pR HO_9.out, pB HB.out⟩
                      · rw [if_neg c32] at H
                        exact absurd H (by simp)
                    · rw [if_neg c31] at H
                      exact absurd H (by simp)
                · rw [if_neg c15] at H
                  exact absurd H (by simp)
              · rw [if_neg c14] at H
                exact absurd H (by simp)
        · replace c9 := Bool.eq_false_iff.mpr c9
          subst c9
          have H1 : (some (([] : List (S71)), 6)) = some (r1, r2) := by rw [if_neg (show ¬ (false = true) by decide)] at H; exact H
          clear H
          have H := H1
          (try clear H1)
          simp only [Option.some.injEq, Prod.mk.injEq] at H
          obtain ⟨rfl, rfl⟩ := H
          go_enter Try.func38, Try.ntmps38
          go_wp2_with (first | ((with_reducible refine gate_callee (f := 20) rfl ?_); refine goesE (some 13) rfl rfl Try.func20 (by kernel_rfl) rfl #[.slice A0 l0.length c0] rfl ?_; (with_reducible refine (probe_Check.calls k _ _ l0 t183 _ ?side1 ?side2 A3.out).mono ?_); (case side1 => exact Kd.pC HR0.out); (case side2 => exact HC0.out); rintro e w37 ⟨rfl, hb⟩; refine ⟨_, rfl, ?_⟩; have n0_ := Aside0.mk (below_step (pB HB.out) hb); clear HB; have HB := n0_; clear n0_; (try clear hb); (try clear hb2); (try clear hk); (try clear hi)) | ((with_reducible refine gate_callee (f := 46) rfl ?_); refine goesE (some 20) rfl rfl Try.func46 (by kernel_rfl) rfl #[.slice A0 l0.length c0, .int .u32 a1] rfl ?_; (with_reducible refine (probe_look.calls k _ _ l0 a1 t184 t185 _ ?side1 ?side2 A5.out).mono ?_); (case side1 => exact Kd.pC ((Kd.C_below HR0.out HB.out))); (case side2 => exact HC0.out); rintro e w' ⟨rfl, ⟨nd, rfl⟩⟩; refine ⟨_, rfl, ?_⟩; have p186 : 0 ≤ (t184 : Int) := od; have q186 : t184 < (l0.length : Int) := od; obtain ⟨ad186, e186, hx186_0, hx186_1, hx186_2⟩ := at_T71 HR0.out t184 p186 q186; (try rw [← Nbq8.out] at hx186_2); cases e186; replace hx186_0 := (HB.out.cell (World.block_lt_of_cell? w _ hx186_0)).trans hx186_0; replace hx186_1 := (HB.out.cell (World.block_lt_of_cell? w _ hx186_1)).trans hx186_1; replace hx186_2 := (HB.out.cell (World.block_lt_of_cell? w _ hx186_2)).trans hx186_2; replace p186 := eq_true p186; replace q186 := eq_true q186))
          go_ret2
          exact ⟨_, by first | rfl | (simp [errW_none, errW_some] <;> rfl) | (simp [*, errW_none, errW_some] <;> rfl), by first | exact Kd.R_nil _ _ _ _ _ | exact Kd.N_nil _ _ _ _ _ | exact Kd.V_nil _ _ _ _ _ | exact Kd.Q_nil _ _ _ _ _ | exact Kd.S_nil _ _ _ _ _, pB HB.out⟩
      · rw [if_neg c7] at H
        exact absurd H (by simp)
    · rw [if_neg c6] at H
      exact absurd H (by simp)
  · rw [if_neg c4] at H
    have c4b0 : (t183 == 0) = false := beq_eq_false_iff_ne.mpr c4
    have c4b1 : (t183 != 0) = true := bne_iff_ne.mpr c4
    simp only [Option.some.injEq, Prod.mk.injEq] at H
    obtain ⟨rfl, rfl⟩ := H
    go_enter Try.func38, Try.ntmps38
    go_wp2_with (first | ((with_reducible refine gate_callee (f := 20) rfl ?_); refine goesE (some 13) rfl rfl Try.func20 (by kernel_rfl) rfl #[.slice A0 l0.length c0] rfl ?_; (with_reducible refine (probe_Check.calls k _ _ l0 t183 _ ?side1 ?side2 A3.out).mono ?_); (case side1 => exact Kd.pC HR0.out); (case side2 => exact HC0.out); rintro e w38 ⟨rfl, hb⟩; refine ⟨_, rfl, ?_⟩; have n0_ := Aside0.mk (below_step (pB HB.out) hb); clear HB; have HB := n0_; clear n0_; (try clear hb); (try clear hb2); (try clear hk); (try clear hi)))
    go_ret2
    exact ⟨_, by first | rfl | (simp [errW_none, errW_some] <;> rfl) | (simp [*, errW_none, errW_some] <;> rfl), by first | exact Kd.R_nil _ _ _ _ _ | exact Kd.N_nil _ _ _ _ _ | exact Kd.V_nil _ _ _ _ _ | exact Kd.Q_nil _ _ _ _ _ | exact Kd.S_nil _ _ _ _ _, pB HB.out⟩

end Go.Proofs.Ytlgfopdindklnaa.PProbe
