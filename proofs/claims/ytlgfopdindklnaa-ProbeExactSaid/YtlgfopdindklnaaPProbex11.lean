-- printed by a program of this session (a turned copy of the kit's print); Lean checks it
import Derived.Test.YtlgfopdindklnaaPProbex0
import Derived.Test.YtlgfopdindklnaaPProbex4
import Derived.Test.YtlgfopdindklnaaPProbex5
import Derived.Test.YtlgfopdindklnaaPProbex6
namespace Go.Proofs.Ytlgfopdindklnaa.PProbe
open Go.RowKit Go.Proofs.YtlgfopdindklnaaW.PrintWords Go.Proofs.YtlgfopdindklnaaW.PrintLast Go.Proofs.YtlgfopdindklnaaW.PrintMore
attribute [local go_sem] max2_int min2_int max_two min_two max_three min_three max_four min_four   -- for this text's walks alone
set_option linter.unusedVariables false
set_option linter.unusedSimpArgs false

/-! ### spigotref14_Put: function 37 -/
mutual
def spigotref14_Put.j0 : Nat → List (S71) → Int → Int → Bool → Option ((List (S71)) × Int)
  | 0, _, _, _, _ => none
  | k + 1, x0, x1, x2, x20 => if x20 = true then (some (([] : List (S71)), 2)) else ((spigotref14_At.f k x0 x1).bind fun t172 => (if t172 ≥ 0 then (some (([] : List (S71)), 14)) else ((spigotref14_Count.f k x0).bind fun t173 => (if t173 = 12 then (some (([] : List (S71)), 18)) else ((some (([] : List (S71)) : List (S71))).bind fun y174 => (if y174.length + x0.length < 5864062014805 then ((spigotref14_Home.f x1).bind fun t180 => (spigotref14_Put.l0 k x1 x2 (y174 ++ x0) t180)) else (none)))))))
def spigotref14_Put.l0 : Nat → Int → Int → List (S71) → Int → Option ((List (S71)) × Int)
  | 0, _, _, _, _ => none
  | k + 1, x1, x2, x8, x9 => if 0 ≤ x9 then (if x9 < (x8.length : Int) then (if (rd_T71 x8 x9).f2 = true then (spigotref14_Put.l0 k x1 x2 x8 (Int.tmod (wrap64 (x9 + 1)) 16)) else (some ((x8.set (x9 : Int).toNat (⟨x1, x2, true⟩ : S71)), 0))) else (none)) else (none)
end
def spigotref14_Put.f (k : Nat) (l0 : List (S71)) (a1 : Int) (a2 : Int) : Option ((List (S71)) × Int) := (spigotref14_Check.f k l0).bind fun t170 => (if t170 = 0 then (if a2 < 0 then (spigotref14_Put.j0 k l0 a1 a2 true) else (spigotref14_Put.j0 k l0 a1 a2 (decide (a2 ≥ 16)))) else ((spigotref14_Check.f k l0).bind fun t171 => (some (([] : List (S71)), t171))))
theorem spigotref14_Put.mono_l : ∀ k, (∀ y0 y1 y2 y3, LeO (spigotref14_Put.j0 k y0 y1 y2 y3) (spigotref14_Put.j0 (k + 1) y0 y1 y2 y3)) ∧ (∀ y0 y1 y2 y3, LeO (spigotref14_Put.l0 k y0 y1 y2 y3) (spigotref14_Put.l0 (k + 1) y0 y1 y2 y3))
  | 0 => ⟨fun _ _ _ _ r h => by simp [spigotref14_Put.j0] at h, fun _ _ _ _ r h => by simp [spigotref14_Put.l0] at h⟩
  | k + 1 => by
    obtain ⟨ih0, ih1⟩ := spigotref14_Put.mono_l k
    refine ⟨?_, ?_⟩
    · intro y0 y1 y2 y3
      unfold spigotref14_Put.j0
      repeat' first
      | (with_reducible exact ih0 _ _ _ _)
      | (with_reducible exact ih1 _ _ _ _)
      | (with_reducible exact spigotref14_At.mono _ _ _)
      | (with_reducible exact spigotref14_Check.mono _ _)
      | (with_reducible exact spigotref14_Count.mono _ _)
      | (with_reducible exact LeO.refl _)
      | (with_reducible exact LeO.none _)
      | (with_reducible refine LeO.ite ?_ ?_)
      | (with_reducible refine LeO.bind ?_ (fun _ => ?_))
      | exact ih0 _ _ _ _
      | exact ih1 _ _ _ _
      | exact spigotref14_At.mono _ _ _
      | exact spigotref14_Check.mono _ _
      | exact spigotref14_Count.mono _ _
      | exact LeO.none _
      | refine LeO.ite ?_ ?_
      | refine LeO.bind ?_ (fun _ => ?_)
    · intro y0 y1 y2 y3
      unfold spigotref14_Put.l0
      repeat' first
      | (with_reducible exact ih0 _ _ _ _)
      | (with_reducible exact ih1 _ _ _ _)
      | (with_reducible exact spigotref14_At.mono _ _ _)
      | (with_reducible exact spigotref14_Check.mono _ _)
      | (with_reducible exact spigotref14_Count.mono _ _)
      | (with_reducible exact LeO.refl _)
      | (with_reducible exact LeO.none _)
      | (with_reducible refine LeO.ite ?_ ?_)
      | (with_reducible refine LeO.bind ?_ (fun _ => ?_))
      | exact ih0 _ _ _ _
      | exact ih1 _ _ _ _
      | exact spigotref14_At.mono _ _ _
      | exact spigotref14_Check.mono _ _
      | exact spigotref14_Count.mono _ _
      | exact LeO.none _
      | refine LeO.ite ?_ ?_
      | refine LeO.bind ?_ (fun _ => ?_)
theorem spigotref14_Put.mono : ∀ a0 a1 a2 k, LeO (spigotref14_Put.f k a0 a1 a2) (spigotref14_Put.f (k + 1) a0 a1 a2) := by
  intro a0 a1 a2 k
  obtain ⟨ih0, ih1⟩ := spigotref14_Put.mono_l k
  unfold spigotref14_Put.f
  repeat' first
      | (with_reducible exact ih0 _ _ _ _)
      | (with_reducible exact ih1 _ _ _ _)
      | (with_reducible exact spigotref14_At.mono _ _ _)
      | (with_reducible exact spigotref14_Check.mono _ _)
      | (with_reducible exact spigotref14_Count.mono _ _)
      | (with_reducible exact LeO.refl _)
      | (with_reducible exact LeO.none _)
      | (with_reducible refine LeO.ite ?_ ?_)
      | (with_reducible refine LeO.bind ?_ (fun _ => ?_))
      | exact ih0 _ _ _ _
      | exact ih1 _ _ _ _
      | exact spigotref14_At.mono _ _ _
      | exact spigotref14_Check.mono _ _
      | exact spigotref14_Count.mono _ _
      | exact LeO.none _
      | refine LeO.ite ?_ ?_
      | refine LeO.bind ?_ (fun _ => ?_)
set_option maxHeartbeats 8000000 in
set_option maxRecDepth 100000 in
theorem spigotref14_Put.calls (k : Nat) (A0 : Option Addr) (c0 : Nat) (l0 : List (S71)) (a1 : Int) (a2 : Int) (r1 : List (S71)) (r2 : Int) (w : World) (hr0 : Kd.C k71 w A0 l0.length l0) (hc0 : l0.length ≤ c0) (h : spigotref14_Put.f k l0 a1 a2 = some (r1, r2)) :
    Calls Try.prog 37 #[.slice A0 l0.length c0, .int .u32 a1, .int .i64 a2] w fun e w' => ∃ v0_ : Value, e = .returned (.tuple #[v0_, .int .i64 r2]) ∧ Kd.R k71 71 w' w.heap.size (fun _ => True) v0_ r1 ∧ Below w.heap.size w w' := by
  have hu71 := Try.underlying71
  have HR0 := Aside0.mk hr0
  have HC0 := Aside0.mk hc0
  clear hr0 hc0
  have HB := Aside0.mk (Below.refl w.heap.size w)
  have H : ((spigotref14_Check.f k l0).bind fun t170 => (if t170 = 0 then (if a2 < 0 then (spigotref14_Put.j0 k l0 a1 a2 true) else (spigotref14_Put.j0 k l0 a1 a2 (decide (a2 ≥ 16)))) else ((spigotref14_Check.f k l0).bind fun t171 => (some (([] : List (S71)), t171))))) = some (r1, r2) := h
  clear h
  replace H := Option.bind_eq_some_iff.mp H
  obtain ⟨t170, A40, H⟩ := H
  replace H : (if t170 = 0 then (if a2 < 0 then (spigotref14_Put.j0 k l0 a1 a2 true) else (spigotref14_Put.j0 k l0 a1 a2 (decide (a2 ≥ 16)))) else ((spigotref14_Check.f k l0).bind fun t171 => (some (([] : List (S71)), t171)))) = some (r1, r2) := H
  have A4 := Aside0.mk A40
  (try clear A40)
  by_cases c5 : t170 = 0
  · rw [if_pos c5] at H
    have c5b0 : (t170 == 0) = true := beq_iff_eq.mpr c5
    have c5b1 : (t170 != 0) = false := bne_eq_false_iff_eq.mpr c5
    clear c5
    have HC6 := Aside0.mk H
    clear H
    go_enter Try.func37, Try.ntmps37
    go_upto_region 3 with (first | ((with_reducible refine gate_callee (f := 21) rfl ?_); refine goesE (some 11) rfl rfl Try.func21 (by kernel_rfl) rfl #[.slice A0 l0.length c0] rfl ?_; (with_reducible refine (spigotref14_Check.calls k _ _ l0 t170 _ ?side1 ?side2 A4.out).mono ?_); (case side1 => exact Kd.pC HR0.out); (case side2 => exact HC0.out); rintro e w' ⟨rfl, ⟨nd, rfl⟩⟩; refine ⟨_, rfl, ?_⟩))
    (try simp only [Act.put, List.setIfInBounds_toArray, List.set_cons_zero, List.set_cons_succ])
    go_cut [20] (fun v20 wc => ∃ (kq : Nat) (x20_5 : Bool), v20 = .bool x20_5 ∧ Aside0 (spigotref14_Put.j0 kq l0 a1 a2 x20_5 = some (r1, r2)) ∧ Aside0 (kq ≤ k) ∧ Aside0 (Below w.heap.size w wc))
    case first =>
      have H := HC6.out
      (try clear HC6)
      by_cases c7 : a2 < 0
      · rw [if_pos c7] at H
        have c7b0 : decide (a2 < 0) = true := decide_eq_true c7
        clear c7
        (first | rw [c7b0] | (simp only [i64_w, i32_w]; rw [c7b0]) | skip)
        have H' := Aside0.mk H
        clear H
        go_wp2
        go_meet
        case rel => exact ⟨_, (true), (by first | rfl | (simp; done) | (simp [*]; done)), H', ⟨by first | omega | exact Nat.le_refl _⟩, ⟨pB HB.out⟩⟩
      · rw [if_neg c7] at H
        have c7b0 : decide (a2 < 0) = false := decide_eq_false c7
        clear c7
        (first | rw [c7b0] | (simp only [i64_w, i32_w]; rw [c7b0]) | skip)
        have H' := Aside0.mk H
        clear H
        go_wp2
        go_meet
        case rel => exact ⟨_, (decide (a2 ≥ 16)), (by first | rfl | (simp; done) | (simp [*]; done)), H', ⟨by first | omega | exact Nat.le_refl _⟩, ⟨pB HB.out⟩⟩
    case rest =>
      (try clear HC6)
      try clear c2
      try clear p2
      try clear c3
      try clear c5
      try clear c5b0
      try clear c5b1
      try clear c7
      try clear c7b0
      obtain ⟨kq, x20_5, rfl, HA, HJ5, HB⟩ := hcut
      cases kq with
      | zero => exact absurd HA.out (by simp [spigotref14_Put.j0])
      | succ kj5 =>
        have H := HA.out
        clear HA
        simp only [spigotref14_Put.j0] at H
        by_cases c8 : x20_5 = true
        · subst c8
          have H1 : (some (([] : List (S71)), 2)) = some (r1, r2) := by rw [if_pos rfl] at H; exact H
          clear H
          have H := H1
          clear H1
          simp only [Option.some.injEq, Prod.mk.injEq] at H
          obtain ⟨rfl, rfl⟩ := H
          go_wp2
          go_ret2
          exact ⟨_, by first | rfl | (simp [errW_none, errW_some] <;> rfl) | (simp [*, errW_none, errW_some] <;> rfl), by first | exact Kd.R_nil _ _ _ _ _ | exact Kd.N_nil _ _ _ _ _ | exact Kd.V_nil _ _ _ _ _ | exact Kd.Q_nil _ _ _ _ _ | exact Kd.S_nil _ _ _ _ _, pB HB.out⟩
        · replace c8 := Bool.eq_false_iff.mpr c8
          subst c8
          have H1 : ((spigotref14_At.f kj5 l0 a1).bind fun t172 => (if t172 ≥ 0 then (some (([] : List (S71)), 14)) else ((spigotref14_Count.f kj5 l0).bind fun t173 => (if t173 = 12 then (some (([] : List (S71)), 18)) else ((some (([] : List (S71)) : List (S71))).bind fun y174 => (if y174.length + l0.length < 5864062014805 then ((spigotref14_Home.f a1).bind fun t180 => (spigotref14_Put.l0 kj5 a1 a2 (y174 ++ l0) t180)) else (none))))))) = some (r1, r2) := by rw [if_neg (show ¬ (false = true) by decide)] at H; exact H
          clear H
          have H := H1
          clear H1
          replace H := Option.bind_eq_some_iff.mp H
          obtain ⟨t172, A90, H⟩ := H
          replace H : (if t172 ≥ 0 then (some (([] : List (S71)), 14)) else ((spigotref14_Count.f kj5 l0).bind fun t173 => (if t173 = 12 then (some (([] : List (S71)), 18)) else ((some (([] : List (S71)) : List (S71))).bind fun y174 => (if y174.length + l0.length < 5864062014805 then ((spigotref14_Home.f a1).bind fun t180 => (spigotref14_Put.l0 kj5 a1 a2 (y174 ++ l0) t180)) else (none)))))) = some (r1, r2) := H
          have A9 := Aside0.mk A90
          (try clear A90)
          by_cases c10 : t172 ≥ 0
          · rw [if_pos c10] at H
            have c10b0 : decide (0 ≤ t172) = true := decide_eq_true c10
            clear c10
            simp only [Option.some.injEq, Prod.mk.injEq] at H
            obtain ⟨rfl, rfl⟩ := H
            go_wp2_with (first | ((with_reducible refine gate_callee (f := 45) rfl ?_); refine goesE (some 23) rfl rfl Try.func45 (by kernel_rfl) rfl #[.slice A0 l0.length c0, .int .u32 a1] rfl ?_; (with_reducible refine (spigotref14_At.calls kj5 _ _ l0 a1 t172 _ ?side1 ?side2 A9.out).mono ?_); (case side1 => exact Kd.pC ((Kd.C_below HR0.out HB.out))); (case side2 => exact HC0.out); rintro e w' ⟨rfl, ⟨nd, rfl⟩⟩; refine ⟨_, rfl, ?_⟩))
            go_ret2
            exact ⟨_, by first | rfl | (simp [errW_none, errW_some] <;> rfl) | (simp [*, errW_none, errW_some] <;> rfl), by first | exact Kd.R_nil _ _ _ _ _ | exact Kd.N_nil _ _ _ _ _ | exact Kd.V_nil _ _ _ _ _ | exact Kd.Q_nil _ _ _ _ _ | exact Kd.S_nil _ _ _ _ _, pB HB.out⟩
          · rw [if_neg c10] at H
            have c10b0 : decide (0 ≤ t172) = false := decide_eq_false c10
            clear c10
            replace H := Option.bind_eq_some_iff.mp H
            obtain ⟨t173, A110, H⟩ := H
            replace H : (if t173 = 12 then (some (([] : List (S71)), 18)) else ((some (([] : List (S71)) : List (S71))).bind fun y174 => (if y174.length + l0.length < 5864062014805 then ((spigotref14_Home.f a1).bind fun t180 => (spigotref14_Put.l0 kj5 a1 a2 (y174 ++ l0) t180)) else (none)))) = some (r1, r2) := H
            have A11 := Aside0.mk A110
            (try clear A110)
            by_cases c12 : t173 = 12
            · rw [if_pos c12] at H
              have c12b0 : (t173 == 12) = true := beq_iff_eq.mpr c12
              have c12b1 : (t173 != 12) = false := bne_eq_false_iff_eq.mpr c12
              clear c12
              simp only [Option.some.injEq, Prod.mk.injEq] at H
              obtain ⟨rfl, rfl⟩ := H
              go_wp2_with (first | ((with_reducible refine gate_callee (f := 45) rfl ?_); refine goesE (some 23) rfl rfl Try.func45 (by kernel_rfl) rfl #[.slice A0 l0.length c0, .int .u32 a1] rfl ?_; (with_reducible refine (spigotref14_At.calls kj5 _ _ l0 a1 t172 _ ?side1 ?side2 A9.out).mono ?_); (case side1 => exact Kd.pC ((Kd.C_below HR0.out HB.out))); (case side2 => exact HC0.out); rintro e w' ⟨rfl, ⟨nd, rfl⟩⟩; refine ⟨_, rfl, ?_⟩) | ((with_reducible refine gate_callee (f := 43) rfl ?_); refine goesE (some 26) rfl rfl Try.func43 (by kernel_rfl) rfl #[.slice A0 l0.length c0] rfl ?_; (with_reducible refine (spigotref14_Count.calls kj5 _ _ l0 t173 _ ?side1 ?side2 A11.out).mono ?_); (case side1 => exact Kd.pC ((Kd.C_below HR0.out (pB HB.out)))); (case side2 => exact HC0.out); rintro e w' ⟨rfl, ⟨nd, rfl⟩⟩; refine ⟨_, rfl, ?_⟩))
              go_ret2
              exact ⟨_, by first | rfl | (simp [errW_none, errW_some] <;> rfl) | (simp [*, errW_none, errW_some] <;> rfl), by first | exact Kd.R_nil _ _ _ _ _ | exact Kd.N_nil _ _ _ _ _ | exact Kd.V_nil _ _ _ _ _ | exact Kd.Q_nil _ _ _ _ _ | exact Kd.S_nil _ _ _ _ _, pB HB.out⟩
            · rw [if_neg c12] at H
              have c12b0 : (t173 == 12) = false := beq_eq_false_iff_ne.mpr c12
              have c12b1 : (t173 != 12) = true := bne_iff_ne.mpr c12
              obtain ⟨y174, hy174⟩ : ∃ y_ : List (S71), y_ = (([] : List (S71))) := ⟨_, rfl⟩
              replace H : (if y174.length + l0.length < 5864062014805 then ((spigotref14_Home.f a1).bind fun t180 => (spigotref14_Put.l0 kj5 a1 a2 (y174 ++ l0) t180)) else (none)) = some (r1, r2) := by first | (rw [hy174]; with_reducible exact H) | (have H2_ := (Option.bind_some _ _).symm.trans H; rw [hy174]; with_reducible exact H2_) | (have H2_ := (Option.bind_some _ _).symm.trans H; with_reducible exact H2_) | with_reducible exact H | (rw [hy174]; exact H) | exact H
              have Ny174 := Aside0.mk hy174
              (try clear hy174)
              by_cases c13 : y174.length + l0.length < 5864062014805
              · rw [if_pos c13] at H
                have LMc13 := Aside0.mk c13
                clear c13
                obtain ⟨y177, hy177⟩ : ∃ y_ : List (S71), y_ = (y174 ++ l0) := ⟨_, rfl⟩
                replace H : ((spigotref14_Home.f a1).bind fun t180 => (spigotref14_Put.l0 kj5 a1 a2 y177 t180)) = some (r1, r2) := by first | (rw [hy177]; with_reducible exact H) | (have H2_ := (Option.bind_some _ _).symm.trans H; rw [hy177]; with_reducible exact H2_) | (have H2_ := (Option.bind_some _ _).symm.trans H; with_reducible exact H2_) | with_reducible exact H | (rw [hy177]; exact H) | exact H
                have Ny177 := Aside0.mk hy177
                (try clear hy177)
                replace H := Option.bind_eq_some_iff.mp H
                obtain ⟨t180, A140, H⟩ := H
                replace H : (spigotref14_Put.l0 kj5 a1 a2 y177 t180) = some (r1, r2) := H
                have A14 := Aside0.mk A140
                (try clear A140)
                have H' := Aside0.mk H
                clear H
                go_wp2_with (first | ((with_reducible refine gate_callee (f := 45) rfl ?_); refine goesE (some 23) rfl rfl Try.func45 (by kernel_rfl) rfl #[.slice A0 l0.length c0, .int .u32 a1] rfl ?_; (with_reducible refine (spigotref14_At.calls kj5 _ _ l0 a1 t172 _ ?side1 ?side2 A9.out).mono ?_); (case side1 => exact Kd.pC ((Kd.C_below HR0.out HB.out))); (case side2 => exact HC0.out); rintro e w' ⟨rfl, ⟨nd, rfl⟩⟩; refine ⟨_, rfl, ?_⟩) | ((with_reducible refine gate_callee (f := 43) rfl ?_); refine goesE (some 26) rfl rfl Try.func43 (by kernel_rfl) rfl #[.slice A0 l0.length c0] rfl ?_; (with_reducible refine (spigotref14_Count.calls kj5 _ _ l0 t173 _ ?side1 ?side2 A11.out).mono ?_); (case side1 => exact Kd.pC ((Kd.C_below HR0.out (pB HB.out)))); (case side2 => exact HC0.out); rintro e w' ⟨rfl, ⟨nd, rfl⟩⟩; refine ⟨_, rfl, ?_⟩) | ((with_reducible refine gate_dst (N := 28) rfl ?_); refine Kd.R_lit k71 _ 71 ?hg (N := 28) ?hd (xs := ([] : List (S71))) (inner := []) (ok := fun _ => True) (okp := fun _ => True) ?hr ?hp (fun _ hk => hk) trivial (Below.refl _ _) (Nat.le_refl _) (by simp) ?_; (case hd => rfl); (case hg => rfl); (case hr => first | (go_simp; done) | (go_simp; rfl)); (case hp => exact (Reps.none _ _)); intro v175 w15 ho16 hb hg_ hnew_; clear hg_ hnew_; (first | rw [← Ny174.out] at ho16 | (simp only [Int.reduceToNat] at ho16; rw [← Ny174.out] at ho16)); have n0_ := Aside0.mk (Kd.R_lower ho16 (below_size (pB HB.out))); have n1_ := Aside0.mk (below_step (pB HB.out) hb); clear HB; have HO176 := n0_; have HB := n1_; clear n0_ n1_; clear hb ho16) | ((with_reducible refine gate_builtin (b := .append) (xs := #[.tmp 28, .tmp 29]) rfl ?_); at_builtin; refine Kd.R_append_rows k71 (w0 := w) w.heap.size rfl (.tmp 28) (.tmp 29) 22 71 (.agg #[(.int .u32 0), (.int .i64 0), (.bool false)]) 24 rfl Try.underlying22 info71 rfl (by decide) (by omega) v175 y174 l0 _ _ _ (fun _ => True) (fun _ => False) rfl rfl ?aO ?aR (fun _ _ h => h) (fun _ h => h.elim) ?aF ?aB ?aS ?aL ?_; (case aR => exact Kd.pC ((Kd.C_below HR0.out HB.out))); (case aB => exact (pB HB.out)); (case aF => exact (fun _ _ => trivial)); (case aO => exact (Kd.pR HO176.out)); (case aS => exact (below_size (pB HB.out))); (case aL => have := LMc13.out; omega); intro v178 w17 ho hb hg hat; rw [← Ny177.out] at ho; have n0_ := Aside0.mk (hb); have n1_ := Aside0.mk (ho); clear HB; (try clear HO176); have HB := n0_; have HO179 := n1_; clear n0_ n1_; clear ho hb hg hat) | ((with_reducible refine gate_callee (f := 19) rfl ?_); refine goesE (some 32) rfl rfl Try.func19 (by kernel_rfl) rfl #[.int .u32 a1] rfl ?_; (with_reducible refine (spigotref14_Home.calls a1 t180 _ A14.out).mono ?_); rintro e w' ⟨rfl, ⟨nd, rfl⟩⟩; refine ⟨_, rfl, ?_⟩))
                go_loopg [9] kj5 (fun kq v9 w' => ∃ (x9_2 : Int), v9 = .int .i64 x9_2 ∧ Aside0 (spigotref14_Put.l0 kq a1 a2 y177 x9_2 = some (r1, r2)) ∧ Aside0 (kq ≤ kj5) ∧ Aside0 (Kd.R k71 71 w' w.heap.size (fun _ => True) v178 y177) ∧ Aside0 (Below w.heap.size w w'))
                case atStart => exact ⟨(t180), (by first | rfl | (simp; done) | (simp [*]; done)), H', ⟨Nat.le_refl _⟩, ⟨Kd.pR HO179.out⟩, ⟨pB HB.out⟩⟩
                case round =>
                  clear H'
                  try clear c1
                  try clear c2
                  try clear p2
                  try clear c3
                  try clear c4
                  try clear c5
                  try clear c5b0
                  try clear c5b1
                  try clear c7
                  try clear c7b0
                  try clear c8
                  try clear c10
                  try clear c10b0
                  try clear c12
                  try clear c12b0
                  try clear c12b1
                  try clear c13
                  try clear p2
                  obtain ⟨x9_2, rfl, HA, HK2, HO_8, HB⟩ := hrel
                  cases gk with
                  | zero => exact absurd HA.out (by simp [spigotref14_Put.l0])
                  | succ k2 =>
                    have H := HA.out
                    (try clear HA)
                    simp only [spigotref14_Put.l0] at H
                    by_cases c18 : 0 ≤ x9_2
                    · rw [if_pos c18] at H
                      have c18b0 : decide (0 ≤ x9_2) = true := decide_eq_true c18
                      clear c18
                      by_cases c19 : x9_2 < (y177.length : Int)
                      · rw [if_pos c19] at H
                        have c19b0 : decide (x9_2 < (y177.length : Int)) = true := decide_eq_true c19
                        clear c19
                        obtain ⟨bq20, hbq20⟩ : ∃ b_ : Bool, b_ = ((rd_T71 y177 x9_2).f2) := ⟨_, rfl⟩
                        replace H : (if bq20 = true then (spigotref14_Put.l0 k2 a1 a2 y177 (Int.tmod (wrap64 (x9_2 + 1)) 16)) else (some ((y177.set (x9_2 : Int).toNat (⟨a1, a2, true⟩ : S71)), 0))) = some (r1, r2) := by rw [← hbq20] at H; exact H
                        have Nbq20 := Aside0.mk hbq20
                        (try clear hbq20)
                        by_cases c21 : bq20 = true
                        · subst c21
                          have H1 : (spigotref14_Put.l0 k2 a1 a2 y177 (Int.tmod (wrap64 (x9_2 + 1)) 16)) = some (r1, r2) := by rw [if_pos rfl] at H; exact H
                          clear H
                          have H := H1
                          clear H1
                          have H' := Aside0.mk H
                          clear H
                          obtain ⟨Ao22, co22, eo22⟩ := Kd.R_slice HO_8.out
                          subst eo22
                          have p181 : 0 ≤ (x9_2 : Int) := od
                          have q181 : x9_2 < (y177.length : Int) := od
                          obtain ⟨ad181, e181, hx181_0, hx181_1, hx181_2⟩ := at_T71 (Kd.R_reads' HO_8.out).2.2 x9_2 p181 q181
                          (try rw [← Nbq20.out] at hx181_2)
                          cases e181
                          replace p181 := eq_true p181
                          replace q181 := eq_true q181
                          go_wp2
                          go_roundg k2
                          case measure => have := HJ5.out; have := HK2.out; omega
                          case rel => exact ⟨(Int.tmod (wrap64 (x9_2 + 1)) 16), (by first | rfl | (simp; done) | (simp [*]; done)), H', ⟨by have := HJ5.out; have := HK2.out; omega⟩, ⟨Kd.pR HO_8.out⟩, ⟨pB HB.out⟩⟩
                        · replace c21 := Bool.eq_false_iff.mpr c21
                          subst c21
                          have H1 : (some ((y177.set (x9_2 : Int).toNat (⟨a1, a2, true⟩ : S71)), 0)) = some (r1, r2) := by rw [if_neg (show ¬ (false = true) by decide)] at H; exact H
                          clear H
                          have H := H1
                          (try clear H1)
                          obtain ⟨y182, hy182⟩ : ∃ y_ : List (S71), y_ = (y177.set (x9_2 : Int).toNat (⟨a1, a2, true⟩ : S71)) := ⟨_, rfl⟩
                          replace H : (some (y182, 0)) = some (r1, r2) := by first | (rw [hy182]; with_reducible exact H) | (have H2_ := (Option.bind_some _ _).symm.trans H; rw [hy182]; with_reducible exact H2_) | (have H2_ := (Option.bind_some _ _).symm.trans H; with_reducible exact H2_) | with_reducible exact H | (rw [hy182]; exact H) | exact H
                          have Ny182 := Aside0.mk hy182
                          (try clear hy182)
                          simp only [Option.some.injEq, Prod.mk.injEq] at H
                          obtain ⟨rfl, rfl⟩ := H
                          obtain ⟨Ao24, co24, eo24⟩ := Kd.R_slice HO_8.out
                          subst eo24
                          have p181 : 0 ≤ (x9_2 : Int) := od
                          have q181 : x9_2 < (y177.length : Int) := od
                          obtain ⟨ad181, e181, hx181_0, hx181_1, hx181_2⟩ := at_T71 (Kd.R_reads' HO_8.out).2.2 x9_2 p181 q181
                          (try rw [← Nbq20.out] at hx181_2)
                          cases e181
                          replace p181 := eq_true p181
                          replace q181 := eq_true q181
                          have p23 : 0 ≤ (x9_2 : Int) := od
                          have q23 : (x9_2 : Int) < ((y177.length : Int) : Int) := od
                          obtain ⟨go23, co23, eo23, gb23, gl23, cl23, HG23⟩ := Kd.R_form HO_8.out (by omega)
                          (first | cases eo23 | (injection eo23 with ea_ en_ ec_; (first | subst ea_ | (injection ea_ with ea_; subst ea_)); subst ec_; clear en_))
                          have GB23 := Aside0.mk gb23
                          have GG23 := Aside0.mk HG23
                          clear gb23 gl23 HG23
                          (first | simp only [add_plain] at hx181_0 | skip)
                          (first | simp only [add_plain] at hx181_1 | skip)
                          (first | simp only [add_plain] at hx181_2 | skip)
                          obtain ⟨ce23, hcl23, hM23, hcc23, hfr23⟩ := Kd.R_elem HO_8.out z71 (x9_2 : Int) p23 q23
                          obtain rfl := k71_openM hM23
                          have hx23_0 : wr.cell? ⟨go23, (x9_2 : Int).toNat * 3, none⟩ = some (.int .u32 ((rd_T71 y177 x9_2).f0)) := hcc23 0 _ rfl
                          have hx23_1 : wr.cell? ⟨go23, (x9_2 : Int).toNat * 3 + 1, none⟩ = some (.int .i64 ((rd_T71 y177 x9_2).f1)) := hcc23 1 _ rfl
                          have hx23_2 : wr.cell? ⟨go23, (x9_2 : Int).toNat * 3 + 2, none⟩ = some (.bool ((rd_T71 y177 x9_2).f2)) := hcc23 2 _ rfl
                          have hf23_0 : wr.frozen? ⟨go23, (x9_2 : Int).toNat * 3, none⟩ = false := hfr23 0
                          have hf23_1 : wr.frozen? ⟨go23, (x9_2 : Int).toNat * 3 + 1, none⟩ = false := hfr23 1
                          have hf23_2 : wr.frozen? ⟨go23, (x9_2 : Int).toNat * 3 + 2, none⟩ = false := hfr23 2
                          clear hcl23 hcc23 hfr23 hM23
                          replace p23 := eq_true p23
                          replace q23 := eq_true q23
                          have HX25 := Aside0.mk (show Kd.R k71 71 wr w.heap.size (fun _ => True) (.slice (some ⟨go23, 0, none⟩) y177.length co24) y177 from (Kd.pR HO_8.out))
                          obtain ⟨ce25, hcl25, hM25, hcc25, hfr25⟩ := Kd.R_elem HX25.out z71 (x9_2 : Int) od (by have h_ : (x9_2 : Int) < ((y177.length : Int) : Int) := od; first | exact h_ | (have e_ := (Kd.R_reads' HO_8.out).1; omega) | simpa using h_)
                          obtain rfl := k71_openM hM25
                          have HP25 := Kd.R_seg HX25.out (x9_2 : Int) od (by have h_ : (x9_2 : Int) < ((y177.length : Int) : Int) := od; first | exact h_ | (have e_ := (Kd.R_reads' HO_8.out).1; omega) | simpa using h_) (seg := [.int .u32 a1, .int .i64 a2, .bool true]) (j := 0) hcl25 hcc25 (show 3 ≤ 3 from by decide) (x' := (⟨a1, a2, true⟩ : S71)) (k71_mkM _ _ _ (⟨a1, a2, true⟩ : S71) ) (fun _ hk => hk)
                          have hx25_0 := hcc25 0 _ rfl
                          (try simp only [show (k71).sz = 3 from rfl, Nat.mul_one, Nat.add_zero] at hx25_0)
                          have hf25_0 := hfr25 0
                          (try simp only [show (k71).sz = 3 from rfl, Nat.mul_one, Nat.add_zero] at hf25_0)
                          have hx25_1 := hcc25 1 _ rfl
                          (try simp only [show (k71).sz = 3 from rfl, Nat.mul_one, Nat.add_zero] at hx25_1)
                          have hf25_1 := hfr25 1
                          (try simp only [show (k71).sz = 3 from rfl, Nat.mul_one, Nat.add_zero] at hf25_1)
                          have hx25_2 := hcc25 2 _ rfl
                          (try simp only [show (k71).sz = 3 from rfl, Nat.mul_one, Nat.add_zero] at hx25_2)
                          have hf25_2 := hfr25 2
                          (try simp only [show (k71).sz = 3 from rfl, Nat.mul_one, Nat.add_zero] at hf25_2)
                          clear hcl25 hcc25 hfr25 hM25
                          go_wp2_with (first | ((with_reducible refine gate_store (t := 71) (p := 46) rfl ?_); refine store_event (t := 71) (p := 46) (v := ?vo_w26) (w1 := (((wr.setCell ⟨go23, (x9_2 : Int).toNat * 3, none⟩ (.int .u32 a1)).setCell ⟨go23, (x9_2 : Int).toNat * 3 + 1, none⟩ (.int .i64 a2)).setCell ⟨go23, (x9_2 : Int).toNat * 3 + 2, none⟩ (.bool true))) ?hg ?ho ?hn ?hr ?_; (case ho => rfl); (case hg => rfl); (case hn => rfl); (case hr => first | (go_simp; done) | (go_simp; rfl)); intro w26 hw; have hg : wr.grownBy w26 (some go23) := (by rw [hw]; exact HP25.2); have hp_ : Kd.R k71 71 w26 w.heap.size (fun _ => True) (.slice (some ⟨go23, 0, none⟩) y177.length co24) y182 := (by rw [hw, Ny182.out]; exact HP25.1); (try clear HP25); have n0_ := Aside0.mk (hp_); have n1_ := Aside0.mk ((by rw [hw]; exact below_set (below_set (below_set (HB.out) GB23.out) GB23.out) GB23.out : Below w.heap.size w w26)); clear HO_8; clear HB; have HO_8 := n0_; have HB := n1_; clear n0_ n1_; clear hg hw hp_))
                          go_ret2
                          exact ⟨_, by first | rfl | (simp [errW_none, errW_some] <;> rfl) | (simp [*, errW_none, errW_some] <;> rfl), Kd.pR HO_8.out, pB HB.out⟩
                      · rw [if_neg c19] at H
                        exact absurd H (by simp)
                    · rw [if_neg c18] at H
                      exact absurd H (by simp)
              · rw [if_neg c13] at H
                exact absurd H (by simp)
  · rw [if_neg c5] at H
    have c5b0 : (t170 == 0) = false := beq_eq_false_iff_ne.mpr c5
    have c5b1 : (t170 != 0) = true := bne_iff_ne.mpr c5
    replace H := Option.bind_eq_some_iff.mp H
    obtain ⟨t171, A270, H⟩ := H
    replace H : (some (([] : List (S71)), t171)) = some (r1, r2) := H
    have A27 := Aside0.mk A270
    clear A270
    simp only [Option.some.injEq, Prod.mk.injEq] at H
    obtain ⟨rfl, rfl⟩ := H
    go_enter Try.func37, Try.ntmps37
    go_wp2_with (first | ((with_reducible refine gate_callee (f := 21) rfl ?_); refine goesE (some 11) rfl rfl Try.func21 (by kernel_rfl) rfl #[.slice A0 l0.length c0] rfl ?_; (with_reducible refine (spigotref14_Check.calls k _ _ l0 t170 _ ?side1 ?side2 A4.out).mono ?_); (case side1 => exact Kd.pC HR0.out); (case side2 => exact HC0.out); rintro e w' ⟨rfl, ⟨nd, rfl⟩⟩; refine ⟨_, rfl, ?_⟩) | ((with_reducible refine gate_callee (f := 21) rfl ?_); refine goesE (some 14) rfl rfl Try.func21 (by kernel_rfl) rfl #[.slice A0 l0.length c0] rfl ?_; (with_reducible refine (spigotref14_Check.calls k _ _ l0 t171 _ ?side1 ?side2 A27.out).mono ?_); (case side1 => exact Kd.pC HR0.out); (case side2 => exact HC0.out); rintro e w' ⟨rfl, ⟨nd, rfl⟩⟩; refine ⟨_, rfl, ?_⟩))
    go_ret2
    exact ⟨_, by first | rfl | (simp [errW_none, errW_some] <;> rfl) | (simp [*, errW_none, errW_some] <;> rfl), by first | exact Kd.R_nil _ _ _ _ _ | exact Kd.N_nil _ _ _ _ _ | exact Kd.V_nil _ _ _ _ _ | exact Kd.Q_nil _ _ _ _ _ | exact Kd.S_nil _ _ _ _ _, pB HB.out⟩

end Go.Proofs.Ytlgfopdindklnaa.PProbe
