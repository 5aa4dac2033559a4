-- printed by a program of this session (a turned copy of the kit's print); Lean checks it
import Derived.Test.YtlgfopdindklnaaPProbex0
import Derived.Test.YtlgfopdindklnaaPProbex10
import Derived.Test.YtlgfopdindklnaaPProbex11
import Derived.Test.YtlgfopdindklnaaPProbex12
import Derived.Test.YtlgfopdindklnaaPProbex14
import Derived.Test.YtlgfopdindklnaaPProbex15
namespace Go.Proofs.Ytlgfopdindklnaa.PProbe
open Go.RowKit Go.Proofs.YtlgfopdindklnaaW.PrintWords Go.Proofs.YtlgfopdindklnaaW.PrintLast Go.Proofs.YtlgfopdindklnaaW.PrintMore
attribute [local go_sem] max2_int min2_int max_two min_two max_three min_three max_four min_four   -- for this text's walks alone
set_option linter.unusedVariables false
set_option linter.unusedSimpArgs false

/-! ### spigotlaw14_ProbeMoves: function 9 -/
def spigotlaw14_ProbeMoves.f (k : Nat) (l0 : List (S71)) (a1 : Int) (a2 : Int) : Option (Bool) := if (l0.length : Int) > 100 then (some true) else ((some (([] : List (S71)) : List (S71))).bind fun y220 => (if y220.length + l0.length < 5864062014805 then ((some (y220 ++ l0 : List (S71))).bind fun y223 => ((probe_Put.f k y223 a1 a2).bind fun bt226 => ((spigotref14_Put.f k l0 a1 a2).bind fun bt230 => ((probe_Drop.f k y223 a1).bind fun bt234 => ((spigotref14_Drop.f k l0 a1).bind fun bt238 => ((spigotref14_Same.f k bt226.1 bt230.1).bind fun t242 => (if t242 = true then (if bt226.2 = bt230.2 then ((spigotref14_Same.f k bt234.1 bt238.1).bind fun t243 => (if t243 = true then (if bt234.2 = bt238.2 then ((spigotref14_Same.f k y223 l0).bind fun t244 => (some t244)) else (some false)) else (some false))) else (some false)) else (some false)))))))) else (none)))
theorem spigotlaw14_ProbeMoves.mono : ∀ a0 a1 a2 k, LeO (spigotlaw14_ProbeMoves.f k a0 a1 a2) (spigotlaw14_ProbeMoves.f (k + 1) a0 a1 a2) := by
  intro a0 a1 a2 k
  unfold spigotlaw14_ProbeMoves.f
  repeat' first
      | (with_reducible exact probe_Drop.mono _ _ _)
      | (with_reducible exact probe_Put.mono _ _ _ _)
      | (with_reducible exact spigotref14_Drop.mono _ _ _)
      | (with_reducible exact spigotref14_Put.mono _ _ _ _)
      | (with_reducible exact spigotref14_Same.mono _ _ _)
      | (with_reducible exact LeO.refl _)
      | (with_reducible exact LeO.none _)
      | (with_reducible refine LeO.ite ?_ ?_)
      | (with_reducible refine LeO.bind ?_ (fun _ => ?_))
      | exact probe_Drop.mono _ _ _
      | exact probe_Put.mono _ _ _ _
      | exact spigotref14_Drop.mono _ _ _
      | exact spigotref14_Put.mono _ _ _ _
      | exact spigotref14_Same.mono _ _ _
      | exact LeO.none _
      | refine LeO.ite ?_ ?_
      | refine LeO.bind ?_ (fun _ => ?_)
set_option maxHeartbeats 8000000 in
set_option maxRecDepth 100000 in
theorem spigotlaw14_ProbeMoves.calls (k : Nat) (A0 : Option Addr) (c0 : Nat) (l0 : List (S71)) (a1 : Int) (a2 : Int) (w : World) (hr0 : Kd.C k71 w A0 l0.length l0) (hc0 : l0.length ≤ c0) (h : spigotlaw14_ProbeMoves.f k l0 a1 a2 = some true) :
    Calls Try.prog 9 #[.slice A0 l0.length c0, .int .u32 a1, .int .i64 a2] w fun e w' => e = .returned (.bool true) ∧ Below w.heap.size w w' := by
  have HR0 := Aside0.mk hr0
  have HC0 := Aside0.mk hc0
  clear hr0 hc0
  have HB := Aside0.mk (Below.refl w.heap.size w)
  have H : (if (l0.length : Int) > 100 then (some true) else ((some (([] : List (S71)) : List (S71))).bind fun y220 => (if y220.length + l0.length < 5864062014805 then ((some (y220 ++ l0 : List (S71))).bind fun y223 => ((probe_Put.f k y223 a1 a2).bind fun bt226 => ((spigotref14_Put.f k l0 a1 a2).bind fun bt230 => ((probe_Drop.f k y223 a1).bind fun bt234 => ((spigotref14_Drop.f k l0 a1).bind fun bt238 => ((spigotref14_Same.f k bt226.1 bt230.1).bind fun t242 => (if t242 = true then (if bt226.2 = bt230.2 then ((spigotref14_Same.f k bt234.1 bt238.1).bind fun t243 => (if t243 = true then (if bt234.2 = bt238.2 then ((spigotref14_Same.f k y223 l0).bind fun t244 => (some t244)) else (some false)) else (some false))) else (some false)) else (some false)))))))) else (none)))) = some true := h
  clear h
  by_cases c4 : (l0.length : Int) > 100
  · rw [if_pos c4] at H
    have c4b0 : decide (100 < (l0.length : Int)) = true := decide_eq_true c4
    have c4b1 : decide (100 < l0.length) = true := decide_eq_true (by omega)
    clear c4
    clear H
    go_enter Try.func9, Try.ntmps9
    go_wp2
    go_ret
    exact ⟨by first | rfl | (simp [errW_none, errW_some] <;> rfl) | (simp [*, errW_none, errW_some] <;> rfl), pB HB.out⟩
  · rw [if_neg c4] at H
    have c4b0 : decide (100 < (l0.length : Int)) = false := decide_eq_false c4
    have c4b1 : decide (100 < l0.length) = false := decide_eq_false (by omega)
    (try clear c4)
    obtain ⟨y220, hy220⟩ : ∃ y_ : List (S71), y_ = (([] : List (S71))) := ⟨_, rfl⟩
    replace H : (if y220.length + l0.length < 5864062014805 then ((some (y220 ++ l0 : List (S71))).bind fun y223 => ((probe_Put.f k y223 a1 a2).bind fun bt226 => ((spigotref14_Put.f k l0 a1 a2).bind fun bt230 => ((probe_Drop.f k y223 a1).bind fun bt234 => ((spigotref14_Drop.f k l0 a1).bind fun bt238 => ((spigotref14_Same.f k bt226.1 bt230.1).bind fun t242 => (if t242 = true then (if bt226.2 = bt230.2 then ((spigotref14_Same.f k bt234.1 bt238.1).bind fun t243 => (if t243 = true then (if bt234.2 = bt238.2 then ((spigotref14_Same.f k y223 l0).bind fun t244 => (some t244)) else (some false)) else (some false))) else (some false)) else (some false)))))))) else (none)) = some true := by first | (rw [hy220]; with_reducible exact H) | (have H2_ := (Option.bind_some _ _).symm.trans H; rw [hy220]; with_reducible exact H2_) | (have H2_ := (Option.bind_some _ _).symm.trans H; with_reducible exact H2_) | with_reducible exact H | (rw [hy220]; exact H) | exact H
    have Ny220 := Aside0.mk hy220
    (try clear hy220)
    by_cases c5 : y220.length + l0.length < 5864062014805
    · rw [if_pos c5] at H
      have LMc5 := Aside0.mk c5
      clear c5
      obtain ⟨y223, hy223⟩ : ∃ y_ : List (S71), y_ = (y220 ++ l0) := ⟨_, rfl⟩
      replace H : ((probe_Put.f k y223 a1 a2).bind fun bt226 => ((spigotref14_Put.f k l0 a1 a2).bind fun bt230 => ((probe_Drop.f k y223 a1).bind fun bt234 => ((spigotref14_Drop.f k l0 a1).bind fun bt238 => ((spigotref14_Same.f k bt226.1 bt230.1).bind fun t242 => (if t242 = true then (if bt226.2 = bt230.2 then ((spigotref14_Same.f k bt234.1 bt238.1).bind fun t243 => (if t243 = true then (if bt234.2 = bt238.2 then ((spigotref14_Same.f k y223 l0).bind fun t244 => (some t244)) else (some false)) else (some false))) else (some false)) else (some false))))))) = some true := by first | (rw [hy223]; with_reducible exact H) | (have H2_ := (Option.bind_some _ _).symm.trans H; rw [hy223]; with_reducible exact H2_) | (have H2_ := (Option.bind_some _ _).symm.trans H; with_reducible exact H2_) | with_reducible exact H | (rw [hy223]; exact H) | exact H
      have Ny223 := Aside0.mk hy223
      (try clear hy223)
      replace H := Option.bind_eq_some_iff.mp H
      obtain ⟨⟨t226, t227⟩, A60, H⟩ := H
      replace H : ((spigotref14_Put.f k l0 a1 a2).bind fun bt230 => ((probe_Drop.f k y223 a1).bind fun bt234 => ((spigotref14_Drop.f k l0 a1).bind fun bt238 => ((spigotref14_Same.f k t226 bt230.1).bind fun t242 => (if t242 = true then (if t227 = bt230.2 then ((spigotref14_Same.f k bt234.1 bt238.1).bind fun t243 => (if t243 = true then (if bt234.2 = bt238.2 then ((spigotref14_Same.f k y223 l0).bind fun t244 => (some t244)) else (some false)) else (some false))) else (some false)) else (some false)))))) = some true := H
      have A6 := Aside0.mk A60
      (try clear A60)
      replace H := Option.bind_eq_some_iff.mp H
      obtain ⟨⟨t230, t231⟩, A70, H⟩ := H
      replace H : ((probe_Drop.f k y223 a1).bind fun bt234 => ((spigotref14_Drop.f k l0 a1).bind fun bt238 => ((spigotref14_Same.f k t226 t230).bind fun t242 => (if t242 = true then (if t227 = t231 then ((spigotref14_Same.f k bt234.1 bt238.1).bind fun t243 => (if t243 = true then (if bt234.2 = bt238.2 then ((spigotref14_Same.f k y223 l0).bind fun t244 => (some t244)) else (some false)) else (some false))) else (some false)) else (some false))))) = some true := H
      have A7 := Aside0.mk A70
      (try clear A70)
      replace H := Option.bind_eq_some_iff.mp H
      obtain ⟨⟨t234, t235⟩, A80, H⟩ := H
      replace H : ((spigotref14_Drop.f k l0 a1).bind fun bt238 => ((spigotref14_Same.f k t226 t230).bind fun t242 => (if t242 = true then (if t227 = t231 then ((spigotref14_Same.f k t234 bt238.1).bind fun t243 => (if t243 = true then (if t235 = bt238.2 then ((spigotref14_Same.f k y223 l0).bind fun t244 => (some t244)) else (some false)) else (some false))) else (some false)) else (some false)))) = some true := H
      have A8 := Aside0.mk A80
      (try clear A80)
      replace H := Option.bind_eq_some_iff.mp H
      obtain ⟨⟨t238, t239⟩, A90, H⟩ := H
      replace H : ((spigotref14_Same.f k t226 t230).bind fun t242 => (if t242 = true then (if t227 = t231 then ((spigotref14_Same.f k t234 t238).bind fun t243 => (if t243 = true then (if t235 = t239 then ((spigotref14_Same.f k y223 l0).bind fun t244 => (some t244)) else (some false)) else (some false))) else (some false)) else (some false))) = some true := H
      have A9 := Aside0.mk A90
      (try clear A90)
      replace H := Option.bind_eq_some_iff.mp H
      obtain ⟨t242, A100, H⟩ := H
      replace H : (if t242 = true then (if t227 = t231 then ((spigotref14_Same.f k t234 t238).bind fun t243 => (if t243 = true then (if t235 = t239 then ((spigotref14_Same.f k y223 l0).bind fun t244 => (some t244)) else (some false)) else (some false))) else (some false)) else (some false)) = some true := H
      have A10 := Aside0.mk A100
      (try clear A100)
      by_cases c11 : t242 = true
      · subst c11
        have H1 : (if t227 = t231 then ((spigotref14_Same.f k t234 t238).bind fun t243 => (if t243 = true then (if t235 = t239 then ((spigotref14_Same.f k y223 l0).bind fun t244 => (some t244)) else (some false)) else (some false))) else (some false)) = some true := by rw [if_pos rfl] at H; exact H
        clear H
        have H := H1
        clear H1
        by_cases c12 : t227 = t231
        · rw [if_pos c12] at H
          have c12b0 : (t227 == t231) = true := beq_iff_eq.mpr c12
          have c12b1 : (t227 != t231) = false := bne_eq_false_iff_eq.mpr c12
          clear c12
          replace H := Option.bind_eq_some_iff.mp H
          obtain ⟨t243, A130, H⟩ := H
          replace H : (if t243 = true then (if t235 = t239 then ((spigotref14_Same.f k y223 l0).bind fun t244 => (some t244)) else (some false)) else (some false)) = some true := H
          have A13 := Aside0.mk A130
          (try clear A130)
          by_cases c14 : t243 = true
          · subst c14
            have H1 : (if t235 = t239 then ((spigotref14_Same.f k y223 l0).bind fun t244 => (some t244)) else (some false)) = some true := by rw [if_pos rfl] at H; exact H
            clear H
            have H := H1
            clear H1
            by_cases c15 : t235 = t239
            · rw [if_pos c15] at H
              have c15b0 : (t235 == t239) = true := beq_iff_eq.mpr c15
              have c15b1 : (t235 != t239) = false := bne_eq_false_iff_eq.mpr c15
              clear c15
              replace H := Option.bind_eq_some_iff.mp H
              obtain ⟨t244, A160, H⟩ := H
              replace H : (some t244) = some true := H
              have A16 := Aside0.mk A160
              (try clear A160)
              have HRT := Aside0.mk (Option.some.inj H)
              clear H
              go_enter Try.func9, Try.ntmps9
              go_wp2_with (first | ((with_reducible refine gate_dst (N := 19) rfl ?_); refine Kd.R_lit k71 _ 71 ?hg (N := 19) ?hd (xs := ([] : List (S71))) (inner := []) (ok := fun _ => True) (okp := fun _ => True) ?hr ?hp (fun _ hk => hk) trivial (Below.refl _ _) (Nat.le_refl _) (by simp) ?_; (case hd => rfl); (case hg => rfl); (case hr => first | (go_simp; done) | (go_simp; rfl)); (case hp => exact (Reps.none _ _)); intro v221 w17 ho18 hb hg_ hnew_; clear hg_ hnew_; (first | rw [← Ny220.out] at ho18 | (simp only [Int.reduceToNat] at ho18; rw [← Ny220.out] at ho18)); have n0_ := Aside0.mk (Kd.R_lower ho18 (below_size (pB HB.out))); have n1_ := Aside0.mk (below_step (pB HB.out) hb); clear HB; have HO222 := n0_; have HB := n1_; clear n0_ n1_; clear hb ho18) | ((with_reducible refine gate_builtin (b := .append) (xs := #[.tmp 19, .tmp 20]) rfl ?_); at_builtin; refine Kd.R_append_rows k71 (w0 := w) w.heap.size rfl (.tmp 19) (.tmp 20) 22 71 (.agg #[(.int .u32 0), (.int .i64 0), (.bool false)]) 24 rfl Try.underlying22 info71 rfl (by decide) (by omega) v221 y220 l0 _ _ _ (fun _ => True) (fun _ => False) rfl rfl ?aO ?aR (fun _ _ h => h) (fun _ h => h.elim) ?aF ?aB ?aS ?aL ?_; (case aR => exact Kd.pC ((Kd.C_below HR0.out HB.out))); (case aB => exact (pB HB.out)); (case aF => exact (fun _ _ => trivial)); (case aO => exact (Kd.pR HO222.out)); (case aS => exact (below_size (pB HB.out))); (case aL => have := LMc5.out; omega); intro v224 w19 ho hb hg hat; rw [← Ny223.out] at ho; have n0_ := Aside0.mk (hb); have n1_ := Aside0.mk (ho); clear HB; (try clear HO222); have HB := n0_; have HO225 := n1_; clear n0_ n1_; clear ho hb hg hat; obtain ⟨Ao20, co20, eo20⟩ := Kd.R_slice HO225.out; subst eo20) | ((with_reducible refine gate_callee (f := 36) rfl ?_); refine goesE (some 26) rfl rfl Try.func36 (by kernel_rfl) rfl #[.slice Ao20 y223.length co20, .int .u32 a1, .int .i64 a2] rfl ?_; (with_reducible refine (probe_Put.calls k _ _ y223 a1 a2 t226 t227 _ ?side1 ?side2 A6.out).mono ?_); (case side1 => exact Kd.pC ((Kd.R_reads' HO225.out).2.2)); (case side2 => exact (Kd.R_reads' HO225.out).2.1); rintro e w21 ⟨v228, rfl, ho0, hb⟩; refine ⟨_, rfl, ?_⟩; have n0_ := Aside0.mk (Kd.R_elder' (Kd.pR HO225.out) (Kd.R_base ho0) hb); have n1_ := Aside0.mk (Kd.R_lower (Kd.R_new' ho0 (Kd.R_lt (Kd.pR HO225.out))) (below_size (pB HB.out))); have n2_ := Aside0.mk (below_step (pB HB.out) hb); clear HO225; clear HB; have HO225 := n0_; have HO229 := n1_; have HB := n2_; clear n0_ n1_ n2_; (try clear hb); (try clear hb2); (try clear hk); (try clear hi); (try clear ho0)) | ((with_reducible refine gate_callee (f := 37) rfl ?_); refine goesE (some 33) rfl rfl Try.func37 (by kernel_rfl) rfl #[.slice A0 l0.length c0, .int .u32 a1, .int .i64 a2] rfl ?_; (with_reducible refine (spigotref14_Put.calls k _ _ l0 a1 a2 t230 t231 _ ?side1 ?side2 A7.out).mono ?_); (case side1 => exact Kd.pC ((Kd.C_below HR0.out HB.out))); (case side2 => exact HC0.out); rintro e w22 ⟨v232, rfl, ho0, hb⟩; refine ⟨_, rfl, ?_⟩; have n0_ := Aside0.mk (Kd.R_elder' (Kd.pR HO225.out) (Kd.R_base ho0) hb); have n1_ := Aside0.mk (Kd.R_elder' (Kd.pR HO229.out) (Kd.R_base ho0) hb); have n2_ := Aside0.mk (Kd.R_lower (Kd.R_new' (Kd.R_new' ho0 (Kd.R_lt (Kd.pR HO225.out))) (Kd.R_lt (Kd.pR HO229.out))) (below_size (pB HB.out))); have n3_ := Aside0.mk (below_step (pB HB.out) hb); clear HO225; clear HO229; clear HB; have HO225 := n0_; have HO229 := n1_; have HO233 := n2_; have HB := n3_; clear n0_ n1_ n2_ n3_; (try clear hb); (try clear hb2); (try clear hk); (try clear hi); (try clear ho0)) | ((with_reducible refine gate_callee (f := 38) rfl ?_); refine goesE (some 39) rfl rfl Try.func38 (by kernel_rfl) rfl #[.slice Ao20 y223.length co20, .int .u32 a1] rfl ?_; (with_reducible refine (probe_Drop.calls k _ _ y223 a1 t234 t235 _ ?side1 ?side2 A8.out).mono ?_); (case side1 => exact Kd.pC ((Kd.R_reads' HO225.out).2.2)); (case side2 => exact (Kd.R_reads' HO225.out).2.1); rintro e w23 ⟨v236, rfl, ho0, hb⟩; refine ⟨_, rfl, ?_⟩; have n0_ := Aside0.mk (Kd.R_elder' (Kd.pR HO225.out) (Kd.R_base ho0) hb); have n1_ := Aside0.mk (Kd.R_elder' (Kd.pR HO229.out) (Kd.R_base ho0) hb); have n2_ := Aside0.mk (Kd.R_elder' (Kd.pR HO233.out) (Kd.R_base ho0) hb); have n3_ := Aside0.mk (Kd.R_lower (Kd.R_new' (Kd.R_new' (Kd.R_new' ho0 (Kd.R_lt (Kd.pR HO225.out))) (Kd.R_lt (Kd.pR HO229.out))) (Kd.R_lt (Kd.pR HO233.out))) (below_size (pB HB.out))); have n4_ := Aside0.mk (below_step (pB HB.out) hb); clear HO225; clear HO229; clear HO233; clear HB; have HO225 := n0_; have HO229 := n1_; have HO233 := n2_; have HO237 := n3_; have HB := n4_; clear n0_ n1_ n2_ n3_ n4_; (try clear hb); (try clear hb2); (try clear hk); (try clear hi); (try clear ho0)) | ((with_reducible refine gate_callee (f := 39) rfl ?_); refine goesE (some 45) rfl rfl Try.func39 (by kernel_rfl) rfl #[.slice A0 l0.length c0, .int .u32 a1] rfl ?_; (with_reducible refine (spigotref14_Drop.calls k _ _ l0 a1 t238 t239 _ ?side1 ?side2 A9.out).mono ?_); (case side1 => exact Kd.pC ((Kd.C_below HR0.out HB.out))); (case side2 => exact HC0.out); rintro e w24 ⟨v240, rfl, ho0, hb⟩; refine ⟨_, rfl, ?_⟩; have n0_ := Aside0.mk (Kd.R_elder' (Kd.pR HO225.out) (Kd.R_base ho0) hb); have n1_ := Aside0.mk (Kd.R_elder' (Kd.pR HO229.out) (Kd.R_base ho0) hb); have n2_ := Aside0.mk (Kd.R_elder' (Kd.pR HO233.out) (Kd.R_base ho0) hb); have n3_ := Aside0.mk (Kd.R_elder' (Kd.pR HO237.out) (Kd.R_base ho0) hb); have n4_ := Aside0.mk (Kd.R_lower (Kd.R_new' (Kd.R_new' (Kd.R_new' (Kd.R_new' ho0 (Kd.R_lt (Kd.pR HO225.out))) (Kd.R_lt (Kd.pR HO229.out))) (Kd.R_lt (Kd.pR HO233.out))) (Kd.R_lt (Kd.pR HO237.out))) (below_size (pB HB.out))); have n5_ := Aside0.mk (below_step (pB HB.out) hb); clear HO225; clear HO229; clear HO233; clear HO237; clear HB; have HO225 := n0_; have HO229 := n1_; have HO233 := n2_; have HO237 := n3_; have HO241 := n4_; have HB := n5_; clear n0_ n1_ n2_ n3_ n4_ n5_; (try clear hb); (try clear hb2); (try clear hk); (try clear hi); (try clear ho0); obtain ⟨Ao25, co25, eo25⟩ := Kd.R_slice HO229.out; subst eo25; obtain ⟨Ao26, co26, eo26⟩ := Kd.R_slice HO233.out; subst eo26) | ((with_reducible refine gate_callee (f := 40) rfl ?_); refine goesE (some 50) rfl rfl Try.func40 (by kernel_rfl) rfl #[.slice Ao25 t226.length co25, .slice Ao26 t230.length co26] rfl ?_; (with_reducible refine (spigotref14_Same.calls k _ _ t226 _ _ t230 true _ ?side1 ?side2 ?side3 ?side4 A10.out).mono ?_); (case side1 => exact Kd.pC ((Kd.R_reads' HO229.out).2.2)); (case side2 => exact (Kd.R_reads' HO229.out).2.1); (case side3 => exact Kd.pC ((Kd.R_reads' HO233.out).2.2)); (case side4 => exact (Kd.R_reads' HO233.out).2.1); rintro e w' ⟨rfl, ⟨nd, rfl⟩⟩; refine ⟨_, rfl, ?_⟩; obtain ⟨Ao27, co27, eo27⟩ := Kd.R_slice HO237.out; subst eo27; obtain ⟨Ao28, co28, eo28⟩ := Kd.R_slice HO241.out; subst eo28) | (go_at_call 40; (with_reducible refine (spigotref14_Same.calls k _ _ t234 _ _ t238 true _ ?side1 ?side2 ?side3 ?side4 A13.out).mono ?_); (case side1 => exact Kd.pC ((Kd.R_reads' HO237.out).2.2)); (case side2 => exact (Kd.R_reads' HO237.out).2.1); (case side3 => exact Kd.pC ((Kd.R_reads' HO241.out).2.2)); (case side4 => exact (Kd.R_reads' HO241.out).2.1); rintro e w' ⟨rfl, ⟨nd, rfl⟩⟩) | (go_at_call 40; (with_reducible refine (spigotref14_Same.calls k _ _ y223 _ _ l0 t244 _ ?side1 ?side2 ?side3 ?side4 A16.out).mono ?_); (case side1 => exact Kd.pC ((Kd.R_reads' HO225.out).2.2)); (case side2 => exact (Kd.R_reads' HO225.out).2.1); (case side3 => exact Kd.pC ((Kd.C_below HR0.out (pB HB.out)))); (case side4 => exact HC0.out); rintro e w' ⟨rfl, ⟨nd, rfl⟩⟩))
              go_ret
              exact ⟨by first | rfl | (simp [errW_none, errW_some] <;> rfl) | (simp [*, errW_none, errW_some] <;> rfl) | (rw [HRT.out] <;> rfl) | (simp [HRT.out]; done) | (have h_ := HRT.out; simp [*] at h_ ⊢ <;> first | done | assumption | omega) | (have h_ := HRT.out; simp [*] at h_; done), pB HB.out⟩
            · rw [if_neg c15] at H
              have c15b0 : (t235 == t239) = false := beq_eq_false_iff_ne.mpr c15
              have c15b1 : (t235 != t239) = true := bne_iff_ne.mpr c15
              exact absurd H (by simp)
          · replace c14 := Bool.eq_false_iff.mpr c14
            subst c14
            have H1 : (some false) = some true := by rw [if_neg (show ¬ (false = true) by decide)] at H; exact H
            clear H
            have H := H1
            clear H1
            exact absurd H (by simp)
        · rw [if_neg c12] at H
          have c12b0 : (t227 == t231) = false := beq_eq_false_iff_ne.mpr c12
          have c12b1 : (t227 != t231) = true := bne_iff_ne.mpr c12
          exact absurd H (by simp)
      · replace c11 := Bool.eq_false_iff.mpr c11
        subst c11
        have H1 : (some false) = some true := by rw [if_neg (show ¬ (false = true) by decide)] at H; exact H
        clear H
        have H := H1
        clear H1
        exact absurd H (by simp)
    · rw [if_neg c5] at H
      exact absurd H (by simp)

/-- THE ONE PURE STATEMENT of spigotlaw14_ProbeMoves. -/
def spigotlaw14_ProbeMoves.Pure : Prop := ∀ (l0 : List (S71)) (a1 : Int) (a2 : Int), ((∀ x ∈ l0, ((Lit.int .u32 x.f0).wf = true) ∧ ((Lit.int .i64 x.f1).wf = true) ∧ (True)) ∧ l0.length ≤ maxLen) → ((Lit.int .u32 a1).wf = true) → ((Lit.int .i64 a2).wf = true) → ∃ k, spigotlaw14_ProbeMoves.f k l0 a1 a2 = some true

/-! ### probe_New: function 41 -/
def probe_New.f  : Option ((List (S71))) := if 16 ≤ 11728124029610 then (some (List.replicate 16 z71)) else (none)
set_option maxHeartbeats 8000000 in
set_option maxRecDepth 100000 in
theorem probe_New.calls  (r : List (S71)) (w : World) (h : probe_New.f  = some r) :
    Calls Try.prog 41 #[] w fun e w' => ∃ v0_ : Value, e = .returned (v0_) ∧ Kd.R k71 71 w' w.heap.size (fun _ => True) v0_ r ∧ Below w.heap.size w w' := by
  have HB := Aside0.mk (Below.refl w.heap.size w)
  have H : (if 16 ≤ 11728124029610 then (some (List.replicate 16 z71)) else (none)) = some r := h
  (try clear h)
  by_cases c1 : 16 ≤ 11728124029610
  · rw [if_pos c1] at H
    have c1b0 := eq_true c1
    have c1b1 : decide (16 ≤ 11728124029610) = true := decide_eq_true c1
    clear c1
    obtain ⟨y245, hy245⟩ : ∃ y_ : List (S71), y_ = (List.replicate 16 z71) := ⟨_, rfl⟩
    replace H : (some y245) = some r := by first | (rw [hy245]; with_reducible exact H) | (have H2_ := (Option.bind_some _ _).symm.trans H; rw [hy245]; with_reducible exact H2_) | (have H2_ := (Option.bind_some _ _).symm.trans H; with_reducible exact H2_) | with_reducible exact H | (rw [hy245]; exact H) | exact H
    have Ny245 := Aside0.mk hy245
    (try clear hy245)
    obtain rfl := Option.some.inj H
    go_enter Try.func41, Try.ntmps41
    go_wp2_with (first | ((with_reducible refine gate_dst (N := 1) rfl ?_); refine Kd.R_make k71 _ 71 rfl (N := 1) rfl 22 _ _ rfl 16 rfl rfl Try.underlying22 (.agg #[(.int .u32 0), (.int .i64 0), (.bool false)]) 24 info71 rfl (by decide) (by omega) z71 (ok := fun _ => True) (okp := fun _ => True) (k71_mkM _ _ _ z71 ) (fun _ hk => hk) trivial (by omega) (by omega) (Below.refl _ _) (Nat.le_refl _) ?_; intro v246 w2 ho3 hb hg_ hnew_; clear hg_ hnew_; (first | rw [← Ny245.out] at ho3 | (simp only [Int.reduceToNat] at ho3; rw [← Ny245.out] at ho3)); have n0_ := Aside0.mk (Kd.R_lower ho3 (below_size (pB HB.out))); have n1_ := Aside0.mk (below_step (pB HB.out) hb); clear HB; have HO247 := n0_; have HB := n1_; clear n0_ n1_; clear hb ho3))
    go_ret
    exact ⟨_, by first | rfl | (simp [errW_none, errW_some] <;> rfl) | (simp [*, errW_none, errW_some] <;> rfl), Kd.pR HO247.out, pB HB.out⟩
  · rw [if_neg c1] at H
    exact absurd H (by simp)

end Go.Proofs.Ytlgfopdindklnaa.PProbe
