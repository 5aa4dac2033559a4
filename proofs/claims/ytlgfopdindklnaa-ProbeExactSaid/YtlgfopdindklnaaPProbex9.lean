-- printed by a program of this session (a turned copy of the kit's print); Lean checks it
import Derived.Test.YtlgfopdindklnaaPProbex0
import Derived.Test.YtlgfopdindklnaaPProbex2
import Derived.Test.YtlgfopdindklnaaPProbex3
import Derived.Test.YtlgfopdindklnaaPProbex4
import Derived.Test.YtlgfopdindklnaaPProbex6
import Derived.Test.YtlgfopdindklnaaPProbex7
import Derived.Test.YtlgfopdindklnaaPProbex8
namespace Go.Proofs.Ytlgfopdindklnaa.PProbe
open Go.RowKit Go.Proofs.YtlgfopdindklnaaW.PrintWords Go.Proofs.YtlgfopdindklnaaW.PrintLast Go.Proofs.YtlgfopdindklnaaW.PrintMore
attribute [local go_sem] max2_int min2_int max_two min_two max_three min_three max_four min_four   -- for this text's walks alone
set_option linter.unusedVariables false
set_option linter.unusedSimpArgs false

/-! ### spigotlaw14_ProbeFinds: function 3 -/
def spigotlaw14_ProbeFinds.f (k : Nat) (l0 : List (S71)) (a1 : Int) : Option (Bool) := if (l0.length : Int) > 100 then (some true) else ((probe_Find.f k l0 a1).bind fun bt142 => ((spigotref14_Find.f k l0 a1).bind fun bt144 => ((probe_Steps.f k l0 a1).bind fun bt146 => ((spigotref14_Steps.f k l0 a1).bind fun bt148 => ((probe_Home.f a1).bind fun t150 => ((spigotref14_Home.f a1).bind fun t151 => (if t150 = t151 then ((probe_Check.f k l0).bind fun t152 => ((spigotref14_Check.f k l0).bind fun t153 => (if t152 = t153 then (if bt142.1 = bt144.1 then (if bt142.2 = bt144.2 then (if bt146.1 = bt148.1 then (some (bt146.2 == bt148.2)) else (some false)) else (some false)) else (some false)) else (some false)))) else (some false))))))))
theorem spigotlaw14_ProbeFinds.mono : ∀ a0 a1 k, LeO (spigotlaw14_ProbeFinds.f k a0 a1) (spigotlaw14_ProbeFinds.f (k + 1) a0 a1) := by
  intro a0 a1 k
  unfold spigotlaw14_ProbeFinds.f
  repeat' first
      | (with_reducible exact probe_Check.mono _ _)
      | (with_reducible exact probe_Find.mono _ _ _)
      | (with_reducible exact probe_Steps.mono _ _ _)
      | (with_reducible exact spigotref14_Check.mono _ _)
      | (with_reducible exact spigotref14_Find.mono _ _ _)
      | (with_reducible exact spigotref14_Steps.mono _ _ _)
      | (with_reducible exact LeO.refl _)
      | (with_reducible exact LeO.none _)
      | (with_reducible refine LeO.ite ?_ ?_)
      | (with_reducible refine LeO.bind ?_ (fun _ => ?_))
      | exact probe_Check.mono _ _
      | exact probe_Find.mono _ _ _
      | exact probe_Steps.mono _ _ _
      | exact spigotref14_Check.mono _ _
      | exact spigotref14_Find.mono _ _ _
      | exact spigotref14_Steps.mono _ _ _
      | exact LeO.none _
      | refine LeO.ite ?_ ?_
      | refine LeO.bind ?_ (fun _ => ?_)
set_option maxHeartbeats 8000000 in
set_option maxRecDepth 100000 in
theorem spigotlaw14_ProbeFinds.calls (k : Nat) (A0 : Option Addr) (c0 : Nat) (l0 : List (S71)) (a1 : Int) (w : World) (hr0 : Kd.C k71 w A0 l0.length l0) (hc0 : l0.length ≤ c0) (h : spigotlaw14_ProbeFinds.f k l0 a1 = some true) :
    Calls Try.prog 3 #[.slice A0 l0.length c0, .int .u32 a1] w fun e w' => e = .returned (.bool true) ∧ Below w.heap.size w w' := by
  have HR0 := Aside0.mk hr0
  have HC0 := Aside0.mk hc0
  clear hr0 hc0
  have HB := Aside0.mk (Below.refl w.heap.size w)
  have H : (if (l0.length : Int) > 100 then (some true) else ((probe_Find.f k l0 a1).bind fun bt142 => ((spigotref14_Find.f k l0 a1).bind fun bt144 => ((probe_Steps.f k l0 a1).bind fun bt146 => ((spigotref14_Steps.f k l0 a1).bind fun bt148 => ((probe_Home.f a1).bind fun t150 => ((spigotref14_Home.f a1).bind fun t151 => (if t150 = t151 then ((probe_Check.f k l0).bind fun t152 => ((spigotref14_Check.f k l0).bind fun t153 => (if t152 = t153 then (if bt142.1 = bt144.1 then (if bt142.2 = bt144.2 then (if bt146.1 = bt148.1 then (some (bt146.2 == bt148.2)) else (some false)) else (some false)) else (some false)) else (some false)))) else (some false))))))))) = some true := h
  (try clear h)
  by_cases c3 : (l0.length : Int) > 100
  · rw [if_pos c3] at H
    have c3b0 : decide (100 < (l0.length : Int)) = true := decide_eq_true c3
    have c3b1 : decide (100 < l0.length) = true := decide_eq_true (by omega)
    clear c3
    clear H
    go_enter Try.func3, Try.ntmps3
    go_wp2
    go_ret
    exact ⟨by first | rfl | (simp [errW_none, errW_some] <;> rfl) | (simp [*, errW_none, errW_some] <;> rfl), pB HB.out⟩
  · rw [if_neg c3] at H
    have c3b0 : decide (100 < (l0.length : Int)) = false := decide_eq_false c3
    have c3b1 : decide (100 < l0.length) = false := decide_eq_false (by omega)
    (try clear c3)
    replace H := Option.bind_eq_some_iff.mp H
    obtain ⟨⟨t142, t143⟩, A40, H⟩ := H
    replace H : ((spigotref14_Find.f k l0 a1).bind fun bt144 => ((probe_Steps.f k l0 a1).bind fun bt146 => ((spigotref14_Steps.f k l0 a1).bind fun bt148 => ((probe_Home.f a1).bind fun t150 => ((spigotref14_Home.f a1).bind fun t151 => (if t150 = t151 then ((probe_Check.f k l0).bind fun t152 => ((spigotref14_Check.f k l0).bind fun t153 => (if t152 = t153 then (if t142 = bt144.1 then (if t143 = bt144.2 then (if bt146.1 = bt148.1 then (some (bt146.2 == bt148.2)) else (some false)) else (some false)) else (some false)) else (some false)))) else (some false))))))) = some true := H
    have A4 := Aside0.mk A40
    (try clear A40)
    replace H := Option.bind_eq_some_iff.mp H
    obtain ⟨⟨t144, t145⟩, A50, H⟩ := H
    replace H : ((probe_Steps.f k l0 a1).bind fun bt146 => ((spigotref14_Steps.f k l0 a1).bind fun bt148 => ((probe_Home.f a1).bind fun t150 => ((spigotref14_Home.f a1).bind fun t151 => (if t150 = t151 then ((probe_Check.f k l0).bind fun t152 => ((spigotref14_Check.f k l0).bind fun t153 => (if t152 = t153 then (if t142 = t144 then (if t143 = t145 then (if bt146.1 = bt148.1 then (some (bt146.2 == bt148.2)) else (some false)) else (some false)) else (some false)) else (some false)))) else (some false)))))) = some true := H
    have A5 := Aside0.mk A50
    (try clear A50)
    replace H := Option.bind_eq_some_iff.mp H
    obtain ⟨⟨t146, t147⟩, A60, H⟩ := H
    replace H : ((spigotref14_Steps.f k l0 a1).bind fun bt148 => ((probe_Home.f a1).bind fun t150 => ((spigotref14_Home.f a1).bind fun t151 => (if t150 = t151 then ((probe_Check.f k l0).bind fun t152 => ((spigotref14_Check.f k l0).bind fun t153 => (if t152 = t153 then (if t142 = t144 then (if t143 = t145 then (if t146 = bt148.1 then (some (t147 == bt148.2)) else (some false)) else (some false)) else (some false)) else (some false)))) else (some false))))) = some true := H
    have A6 := Aside0.mk A60
    (try clear A60)
    replace H := Option.bind_eq_some_iff.mp H
    obtain ⟨⟨t148, t149⟩, A70, H⟩ := H
    replace H : ((probe_Home.f a1).bind fun t150 => ((spigotref14_Home.f a1).bind fun t151 => (if t150 = t151 then ((probe_Check.f k l0).bind fun t152 => ((spigotref14_Check.f k l0).bind fun t153 => (if t152 = t153 then (if t142 = t144 then (if t143 = t145 then (if t146 = t148 then (some (t147 == t149)) else (some false)) else (some false)) else (some false)) else (some false)))) else (some false)))) = some true := H
    have A7 := Aside0.mk A70
    (try clear A70)
    replace H := Option.bind_eq_some_iff.mp H
    obtain ⟨t150, A80, H⟩ := H
    replace H : ((spigotref14_Home.f a1).bind fun t151 => (if t150 = t151 then ((probe_Check.f k l0).bind fun t152 => ((spigotref14_Check.f k l0).bind fun t153 => (if t152 = t153 then (if t142 = t144 then (if t143 = t145 then (if t146 = t148 then (some (t147 == t149)) else (some false)) else (some false)) else (some false)) else (some false)))) else (some false))) = some true := H
    have A8 := Aside0.mk A80
    (try clear A80)
    replace H := Option.bind_eq_some_iff.mp H
    obtain ⟨t151, A90, H⟩ := H
    replace H : (if t150 = t151 then ((probe_Check.f k l0).bind fun t152 => ((spigotref14_Check.f k l0).bind fun t153 => (if t152 = t153 then (if t142 = t144 then (if t143 = t145 then (if t146 = t148 then (some (t147 == t149)) else (some false)) else (some false)) else (some false)) else (some false)))) else (some false)) = some true := H
    have A9 := Aside0.mk A90
    (try clear A90)
    by_cases c10 : t150 = t151
    · rw [if_pos c10] at H
      have c10b0 : (t150 == t151) = true := beq_iff_eq.mpr c10
      have c10b1 : (t150 != t151) = false := bne_eq_false_iff_eq.mpr c10
      clear c10
      replace H := Option.bind_eq_some_iff.mp H
      obtain ⟨t152, A110, H⟩ := H
      replace H : ((spigotref14_Check.f k l0).bind fun t153 => (if t152 = t153 then (if t142 = t144 then (if t143 = t145 then (if t146 = t148 then (some (t147 == t149)) else (some false)) else (some false)) else (some false)) else (some false))) = some true := H
      have A11 := Aside0.mk A110
      (try clear A110)
      replace H := Option.bind_eq_some_iff.mp H
      obtain ⟨t153, A120, H⟩ := H
      replace H : (if t152 = t153 then (if t142 = t144 then (if t143 = t145 then (if t146 = t148 then (some (t147 == t149)) else (some false)) else (some false)) else (some false)) else (some false)) = some true := H
      have A12 := Aside0.mk A120
      (try clear A120)
      by_cases c13 : t152 = t153
      · rw [if_pos c13] at H
        have c13b0 : (t152 == t153) = true := beq_iff_eq.mpr c13
        have c13b1 : (t152 != t153) = false := bne_eq_false_iff_eq.mpr c13
        clear c13
        by_cases c14 : t142 = t144
        · rw [if_pos c14] at H
          have c14b0 : (t142 == t144) = true := beq_iff_eq.mpr c14
          have c14b1 : (t142 != t144) = false := bne_eq_false_iff_eq.mpr c14
          clear c14
          by_cases c15 : t143 = t145
          · rw [if_pos c15] at H
            have c15b0 : (t143 == t145) = true := beq_iff_eq.mpr c15
            have c15b1 : (t143 != t145) = false := bne_eq_false_iff_eq.mpr c15
            clear c15
            by_cases c16 : t146 = t148
            · rw [if_pos c16] at H
              have c16b0 : (t146 == t148) = true := beq_iff_eq.mpr c16
              have c16b1 : (t146 != t148) = false := bne_eq_false_iff_eq.mpr c16
              clear c16
              have HRT := Aside0.mk (Option.some.inj H)
              clear H
              go_enter Try.func3, Try.ntmps3
              go_wp2_with (first | ((with_reducible refine gate_callee (f := 14) rfl ?_); refine goesE (some 19) rfl rfl Try.func14 (by kernel_rfl) rfl #[.slice A0 l0.length c0, .int .u32 a1] rfl ?_; (with_reducible refine (probe_Find.calls k _ _ l0 a1 t142 t143 _ ?side1 ?side2 A4.out).mono ?_); (case side1 => exact Kd.pC HR0.out); (case side2 => exact HC0.out); rintro e w17 ⟨rfl, hb⟩; refine ⟨_, rfl, ?_⟩; have n0_ := Aside0.mk (below_step (pB HB.out) hb); clear HB; have HB := n0_; clear n0_; (try clear hb); (try clear hb2); (try clear hk); (try clear hi)) | ((with_reducible refine gate_callee (f := 15) rfl ?_); refine goesE (some 25) rfl rfl Try.func15 (by kernel_rfl) rfl #[.slice A0 l0.length c0, .int .u32 a1] rfl ?_; (with_reducible refine (spigotref14_Find.calls k _ _ l0 a1 t144 t145 _ ?side1 ?side2 A5.out).mono ?_); (case side1 => exact Kd.pC ((Kd.C_below HR0.out HB.out))); (case side2 => exact HC0.out); rintro e w' ⟨rfl, ⟨nd, rfl⟩⟩; refine ⟨_, rfl, ?_⟩) | ((with_reducible refine gate_callee (f := 16) rfl ?_); refine goesE (some 31) rfl rfl Try.func16 (by kernel_rfl) rfl #[.slice A0 l0.length c0, .int .u32 a1] rfl ?_; (with_reducible refine (probe_Steps.calls k _ _ l0 a1 t146 t147 _ ?side1 ?side2 A6.out).mono ?_); (case side1 => exact Kd.pC ((Kd.C_below HR0.out (pB HB.out)))); (case side2 => exact HC0.out); rintro e w18 ⟨rfl, hb⟩; refine ⟨_, rfl, ?_⟩; have n0_ := Aside0.mk (below_step (pB HB.out) hb); clear HB; have HB := n0_; clear n0_; (try clear hb); (try clear hb2); (try clear hk); (try clear hi)) | ((with_reducible refine gate_callee (f := 17) rfl ?_); refine goesE (some 37) rfl rfl Try.func17 (by kernel_rfl) rfl #[.slice A0 l0.length c0, .int .u32 a1] rfl ?_; (with_reducible refine (spigotref14_Steps.calls k _ _ l0 a1 t148 t149 _ ?side1 ?side2 A7.out).mono ?_); (case side1 => exact Kd.pC ((Kd.C_below HR0.out HB.out))); (case side2 => exact HC0.out); rintro e w' ⟨rfl, ⟨nd, rfl⟩⟩; refine ⟨_, rfl, ?_⟩) | ((with_reducible refine gate_callee (f := 18) rfl ?_); refine goesE (some 41) rfl rfl Try.func18 (by kernel_rfl) rfl #[.int .u32 a1] rfl ?_; (with_reducible refine (probe_Home.calls a1 t150 _ A8.out).mono ?_); rintro e w' ⟨rfl, ⟨nd, rfl⟩⟩; refine ⟨_, rfl, ?_⟩) | ((with_reducible refine gate_callee (f := 19) rfl ?_); refine goesE (some 43) rfl rfl Try.func19 (by kernel_rfl) rfl #[.int .u32 a1] rfl ?_; (with_reducible refine (spigotref14_Home.calls a1 t151 _ A9.out).mono ?_); rintro e w' ⟨rfl, ⟨nd, rfl⟩⟩; refine ⟨_, rfl, ?_⟩) | (go_at_call 20; (with_reducible refine (probe_Check.calls k _ _ l0 t152 _ ?side1 ?side2 A11.out).mono ?_); (case side1 => exact Kd.pC ((Kd.C_below HR0.out (pB HB.out)))); (case side2 => exact HC0.out); rintro e w19 ⟨rfl, hb⟩; have n0_ := Aside0.mk (below_step (pB HB.out) hb); clear HB; have HB := n0_; clear n0_; (try clear hb); (try clear hb2); (try clear hk); (try clear hi)) | (go_at_call 21; (with_reducible refine (spigotref14_Check.calls k _ _ l0 t153 _ ?side1 ?side2 A12.out).mono ?_); (case side1 => exact Kd.pC ((Kd.C_below HR0.out HB.out))); (case side2 => exact HC0.out); rintro e w' ⟨rfl, ⟨nd, rfl⟩⟩))
              go_ret
              exact ⟨by first | rfl | (simp [errW_none, errW_some] <;> rfl) | (simp [*, errW_none, errW_some] <;> rfl) | (rw [HRT.out] <;> rfl) | (simp [HRT.out]; done) | (have h_ := HRT.out; simp [*] at h_ ⊢ <;> first | done | assumption | omega) | (have h_ := HRT.out; simp [*] at h_; done), pB HB.out⟩
            · rw [if_neg c16] at H
              have c16b0 : (t146 == t148) = false := beq_eq_false_iff_ne.mpr c16
              have c16b1 : (t146 != t148) = true := bne_iff_ne.mpr c16
              exact absurd H (by simp)
          · rw [if_neg c15] at H
            have c15b0 : (t143 == t145) = false := beq_eq_false_iff_ne.mpr c15
            have c15b1 : (t143 != t145) = true := bne_iff_ne.mpr c15
            exact absurd H (by simp)
        · rw [if_neg c14] at H
          have c14b0 : (t142 == t144) = false := beq_eq_false_iff_ne.mpr c14
          have c14b1 : (t142 != t144) = true := bne_iff_ne.mpr c14
          exact absurd H (by simp)
      · rw [if_neg c13] at H
        have c13b0 : (t152 == t153) = false := beq_eq_false_iff_ne.mpr c13
        have c13b1 : (t152 != t153) = true := bne_iff_ne.mpr c13
        exact absurd H (by simp)
    · rw [if_neg c10] at H
      have c10b0 : (t150 == t151) = false := beq_eq_false_iff_ne.mpr c10
      have c10b1 : (t150 != t151) = true := bne_iff_ne.mpr c10
      exact absurd H (by simp)

/-- THE ONE PURE STATEMENT of spigotlaw14_ProbeFinds. -/
def spigotlaw14_ProbeFinds.Pure : Prop := ∀ (l0 : List (S71)) (a1 : Int), ((∀ x ∈ l0, ((Lit.int .u32 x.f0).wf = true) ∧ ((Lit.int .i64 x.f1).wf = true) ∧ (True)) ∧ l0.length ≤ maxLen) → ((Lit.int .u32 a1).wf = true) → ∃ k, spigotlaw14_ProbeFinds.f k l0 a1 = some true

/-! ### api_Cell: function 51 -/
def api_Cell.f (l0 : List (S71)) : Option ((List (S71))) := (some (([] : List (S71)) : List (S71))).bind fun y154 => (if y154.length + l0.length < 5864062014805 then (some (y154 ++ l0)) else (none))
set_option maxHeartbeats 8000000 in
set_option maxRecDepth 100000 in
theorem api_Cell.calls (A0 : Option Addr) (c0 : Nat) (l0 : List (S71)) (r : List (S71)) (w : World) (hr0 : Kd.C k71 w A0 l0.length l0) (hc0 : l0.length ≤ c0) (h : api_Cell.f l0 = some r) :
    Calls Try.prog 51 #[.slice A0 l0.length c0] w fun e w' => ∃ v0_ : Value, e = .returned (v0_) ∧ Kd.R k71 71 w' w.heap.size (fun _ => True) v0_ r ∧ Below w.heap.size w w' := by
  have HR0 := Aside0.mk hr0
  have HC0 := Aside0.mk hc0
  clear hr0 hc0
  have HB := Aside0.mk (Below.refl w.heap.size w)
  have H : ((some (([] : List (S71)) : List (S71))).bind fun y154 => (if y154.length + l0.length < 5864062014805 then (some (y154 ++ l0)) else (none))) = some r := h
  clear h
  obtain ⟨y154, hy154⟩ : ∃ y_ : List (S71), y_ = (([] : List (S71))) := ⟨_, rfl⟩
  replace H : (if y154.length + l0.length < 5864062014805 then (some (y154 ++ l0)) else (none)) = some r := by first | (rw [hy154]; with_reducible exact H) | (have H2_ := (Option.bind_some _ _).symm.trans H; rw [hy154]; with_reducible exact H2_) | (have H2_ := (Option.bind_some _ _).symm.trans H; with_reducible exact H2_) | with_reducible exact H | (rw [hy154]; exact H) | exact H
  have Ny154 := Aside0.mk hy154
  (try clear hy154)
  by_cases c2 : y154.length + l0.length < 5864062014805
  · rw [if_pos c2] at H
    have LMc2 := Aside0.mk c2
    clear c2
    obtain ⟨y157, hy157⟩ : ∃ y_ : List (S71), y_ = (y154 ++ l0) := ⟨_, rfl⟩
    replace H : (some y157) = some r := by first | (rw [hy157]; with_reducible exact H) | (have H2_ := (Option.bind_some _ _).symm.trans H; rw [hy157]; with_reducible exact H2_) | (have H2_ := (Option.bind_some _ _).symm.trans H; with_reducible exact H2_) | with_reducible exact H | (rw [hy157]; exact H) | exact H
    have Ny157 := Aside0.mk hy157
    (try clear hy157)
    obtain rfl := Option.some.inj H
    by_cases hz : A0.isNone = true
    · have hA : A0 = none := by cases A0 with
        | none => rfl
        | some _ => exact absurd hz (by simp)
      have hl : l0 = [] := by
        rcases Nat.eq_zero_or_pos l0.length with h0 | h0
        · exact List.eq_nil_of_length_eq_zero h0
        · obtain ⟨ad, e, _⟩ := HR0.out.2.2 h0
          rw [hA] at e
          cases e
      have hy : y157 = [] := by rw [Ny157.out, Ny154.out, hl]; rfl
      clear hz LMc2 Ny154 Ny157 HR0 HC0
      subst hA hl hy
      have hnl := fun W => Lib.run_eql_slice_nil (P := Try.prog) W 22 71 none 0 c0 0 0 Try.underlying22
      go_enter Try.func51, Try.ntmps51
      go_wp2
      go_ret
      exact ⟨_, rfl, Kd.R_nil _ _ _ _ _, HB.out⟩
    · have hz' : A0.isNone = false := Bool.eq_false_iff.mpr hz
      (try clear hz)
      have hnl := fun W => Lib.run_eql_slice_nil (P := Try.prog) W 22 71 A0 l0.length c0 0 0 Try.underlying22
      go_enter Try.func51, Try.ntmps51
      go_wp2_with (first | ((with_reducible refine gate_dst (N := 5) rfl ?_); refine Kd.R_lit k71 _ 71 ?hg (N := 5) ?hd (xs := ([] : List (S71))) (inner := []) (ok := fun _ => True) (okp := fun _ => True) ?hr ?hp (fun _ hk => hk) trivial (Below.refl _ _) (Nat.le_refl _) (by simp) ?_; (case hd => rfl); (case hg => rfl); (case hr => first | (go_simp; done) | (go_simp; rfl)); (case hp => exact (Reps.none _ _)); intro v155 w3 ho4 hb hg_ hnew_; clear hg_ hnew_; (first | rw [← Ny154.out] at ho4 | (simp only [Int.reduceToNat] at ho4; rw [← Ny154.out] at ho4)); have n0_ := Aside0.mk (Kd.R_lower ho4 (below_size (pB HB.out))); have n1_ := Aside0.mk (below_step (pB HB.out) hb); clear HB; have HO156 := n0_; have HB := n1_; clear n0_ n1_; clear hb ho4) | ((with_reducible refine gate_builtin (b := .append) (xs := #[.tmp 5, .tmp 6]) rfl ?_); at_builtin; refine Kd.R_append_rows k71 (w0 := w) w.heap.size rfl (.tmp 5) (.tmp 6) 22 71 (.agg #[(.int .u32 0), (.int .i64 0), (.bool false)]) 24 rfl Try.underlying22 info71 rfl (by decide) (by omega) v155 y154 l0 _ _ _ (fun _ => True) (fun _ => False) rfl rfl ?aO ?aR (fun _ _ h => h) (fun _ h => h.elim) ?aF ?aB ?aS ?aL ?_; (case aR => exact Kd.pC ((Kd.C_below HR0.out HB.out))); (case aB => exact (pB HB.out)); (case aF => exact (fun _ _ => trivial)); (case aO => exact (Kd.pR HO156.out)); (case aS => exact (below_size (pB HB.out))); (case aL => have := LMc2.out; omega); intro v158 w5 ho hb hg hat; rw [← Ny157.out] at ho; have n0_ := Aside0.mk (hb); have n1_ := Aside0.mk (ho); clear HB; (try clear HO156); have HB := n0_; have HO159 := n1_; clear n0_ n1_; clear ho hb hg hat))
      go_ret
      exact ⟨_, by first | rfl | (simp [errW_none, errW_some] <;> rfl) | (simp [*, errW_none, errW_some] <;> rfl), Kd.pR HO159.out, pB HB.out⟩
  · rw [if_neg c2] at H
    exact absurd H (by simp)

end Go.Proofs.Ytlgfopdindklnaa.PProbe
