-- printed by a program of this session (a turned copy of the kit's print); Lean checks it
import Derived.Test.YtlgfopdindklnaaPProbex0
import Derived.Test.YtlgfopdindklnaaPProbex4
import Derived.Test.YtlgfopdindklnaaPProbex5
import Derived.Test.YtlgfopdindklnaaPProbex6
import Derived.Test.YtlgfopdindklnaaPProbex13
namespace Go.Proofs.Ytlgfopdindklnaa.PProbe
open Go.RowKit Go.Proofs.YtlgfopdindklnaaW.PrintWords Go.Proofs.YtlgfopdindklnaaW.PrintLast Go.Proofs.YtlgfopdindklnaaW.PrintMore
attribute [local go_sem] max2_int min2_int max_two min_two max_three min_three max_four min_four   -- for this text's walks alone
set_option linter.unusedVariables false
set_option linter.unusedSimpArgs false

/-! ### spigotref14_Drop: function 39 -/
def spigotref14_Drop.l0 : Nat → Int → List (S71) → Int → Option ((List (S71)) × Int)
  | 0, _, _, _ => none
  | k + 1, x6, x7, x8 => if 0 ≤ x8 then (if x8 < (x7.length : Int) then (if (rd_T71 x7 x8).f2 = true then ((spigotref14_Home.f ((rd_T71 x7 x8).f0)).bind fun t213 => ((spigotref14_behind.f k t213 x6 x8).bind fun t214 => (if t214 = true then (spigotref14_Drop.l0 k x6 x7 (Int.tmod (wrap64 (x8 + 1)) 16)) else (if 0 ≤ x6 then (if x6 < (x7.length : Int) then (spigotref14_Drop.l0 k x8 ((x7.set (x6 : Int).toNat (⟨(rd_T71 x7 x8).f0, (rd_T71 x7 x8).f1, (rd_T71 x7 x8).f2⟩ : S71)).set (x8 : Int).toNat (⟨0, 0, false⟩ : S71)) (Int.tmod (wrap64 (x8 + 1)) 16)) else (none)) else (none))))) else (some (x7, 0))) else (none)) else (none)
def spigotref14_Drop.f (k : Nat) (l0 : List (S71)) (a1 : Int) : Option ((List (S71)) × Int) := (spigotref14_Check.f k l0).bind fun t201 => (if t201 = 0 then ((spigotref14_At.f k l0 a1).bind fun t203 => (if t203 < 0 then (some (([] : List (S71)), 6)) else ((some (([] : List (S71)) : List (S71))).bind fun y204 => (if y204.length + l0.length < 5864062014805 then ((some (y204 ++ l0 : List (S71))).bind fun y207 => (if 0 ≤ t203 then (if t203 < (y207.length : Int) then (spigotref14_Drop.l0 k t203 (y207.set (t203 : Int).toNat (⟨0, 0, false⟩ : S71)) (Int.tmod (wrap64 (t203 + 1)) 16)) else (none)) else (none))) else (none))))) else ((spigotref14_Check.f k l0).bind fun t202 => (some (([] : List (S71)), t202))))
theorem spigotref14_Drop.mono_l : ∀ k, (∀ y0 y1 y2, LeO (spigotref14_Drop.l0 k y0 y1 y2) (spigotref14_Drop.l0 (k + 1) y0 y1 y2))
  | 0 => fun _ _ _ r h => by simp [spigotref14_Drop.l0] at h
  | k + 1 => by
    have ih0 := spigotref14_Drop.mono_l k
    · intro y0 y1 y2
      unfold spigotref14_Drop.l0
      repeat' first
      | (with_reducible exact ih0 _ _ _)
      | (with_reducible exact spigotref14_At.mono _ _ _)
      | (with_reducible exact spigotref14_Check.mono _ _)
      | (with_reducible exact spigotref14_behind.mono _ _ _ _)
      | (with_reducible exact LeO.refl _)
      | (with_reducible exact LeO.none _)
      | (with_reducible refine LeO.ite ?_ ?_)
      | (with_reducible refine LeO.bind ?_ (fun _ => ?_))
      | exact ih0 _ _ _
      | exact spigotref14_At.mono _ _ _
      | exact spigotref14_Check.mono _ _
      | exact spigotref14_behind.mono _ _ _ _
      | exact LeO.none _
      | refine LeO.ite ?_ ?_
      | refine LeO.bind ?_ (fun _ => ?_)
theorem spigotref14_Drop.mono : ∀ a0 a1 k, LeO (spigotref14_Drop.f k a0 a1) (spigotref14_Drop.f (k + 1) a0 a1) := by
  intro a0 a1 k
  have ih0 := spigotref14_Drop.mono_l k
  unfold spigotref14_Drop.f
  repeat' first
      | (with_reducible exact ih0 _ _ _)
      | (with_reducible exact spigotref14_At.mono _ _ _)
      | (with_reducible exact spigotref14_Check.mono _ _)
      | (with_reducible exact spigotref14_behind.mono _ _ _ _)
      | (with_reducible exact LeO.refl _)
      | (with_reducible exact LeO.none _)
      | (with_reducible refine LeO.ite ?_ ?_)
      | (with_reducible refine LeO.bind ?_ (fun _ => ?_))
      | exact ih0 _ _ _
      | exact spigotref14_At.mono _ _ _
      | exact spigotref14_Check.mono _ _
      | exact spigotref14_behind.mono _ _ _ _
      | exact LeO.none _
      | refine LeO.ite ?_ ?_
      | refine LeO.bind ?_ (fun _ => ?_)
set_option maxHeartbeats 8000000 in
set_option maxRecDepth 100000 in
theorem spigotref14_Drop.calls (k : Nat) (A0 : Option Addr) (c0 : Nat) (l0 : List (S71)) (a1 : Int) (r1 : List (S71)) (r2 : Int) (w : World) (hr0 : Kd.C k71 w A0 l0.length l0) (hc0 : l0.length ≤ c0) (h : spigotref14_Drop.f k l0 a1 = some (r1, r2)) :
    Calls Try.prog 39 #[.slice A0 l0.length c0, .int .u32 a1] w fun e w' => ∃ v0_ : Value, e = .returned (.tuple #[v0_, .int .i64 r2]) ∧ Kd.R k71 71 w' w.heap.size (fun _ => True) v0_ r1 ∧ Below w.heap.size w w' := by
  have hu71 := Try.underlying71
  have HR0 := Aside0.mk hr0
  have HC0 := Aside0.mk hc0
  clear hr0 hc0
  have HB := Aside0.mk (Below.refl w.heap.size w)
  have H : ((spigotref14_Check.f k l0).bind fun t201 => (if t201 = 0 then ((spigotref14_At.f k l0 a1).bind fun t203 => (if t203 < 0 then (some (([] : List (S71)), 6)) else ((some (([] : List (S71)) : List (S71))).bind fun y204 => (if y204.length + l0.length < 5864062014805 then ((some (y204 ++ l0 : List (S71))).bind fun y207 => (if 0 ≤ t203 then (if t203 < (y207.length : Int) then (spigotref14_Drop.l0 k t203 (y207.set (t203 : Int).toNat (⟨0, 0, false⟩ : S71)) (Int.tmod (wrap64 (t203 + 1)) 16)) else (none)) else (none))) else (none))))) else ((spigotref14_Check.f k l0).bind fun t202 => (some (([] : List (S71)), t202))))) = some (r1, r2) := h
  clear h
  replace H := Option.bind_eq_some_iff.mp H
  obtain ⟨t201, A30, H⟩ := H
  replace H : (if t201 = 0 then ((spigotref14_At.f k l0 a1).bind fun t203 => (if t203 < 0 then (some (([] : List (S71)), 6)) else ((some (([] : List (S71)) : List (S71))).bind fun y204 => (if y204.length + l0.length < 5864062014805 then ((some (y204 ++ l0 : List (S71))).bind fun y207 => (if 0 ≤ t203 then (if t203 < (y207.length : Int) then (spigotref14_Drop.l0 k t203 (y207.set (t203 : Int).toNat (⟨0, 0, false⟩ : S71)) (Int.tmod (wrap64 (t203 + 1)) 16)) else (none)) else (none))) else (none))))) else ((spigotref14_Check.f k l0).bind fun t202 => (some (([] : List (S71)), t202)))) = some (r1, r2) := H
  have A3 := Aside0.mk A30
  (try clear A30)
  by_cases c4 : t201 = 0
  · rw [if_pos c4] at H
    have c4b0 : (t201 == 0) = true := beq_iff_eq.mpr c4
    have c4b1 : (t201 != 0) = false := bne_eq_false_iff_eq.mpr c4
    clear c4
    replace H := Option.bind_eq_some_iff.mp H
    obtain ⟨t203, A50, H⟩ := H
    replace H : (if t203 < 0 then (some (([] : List (S71)), 6)) else ((some (([] : List (S71)) : List (S71))).bind fun y204 => (if y204.length + l0.length < 5864062014805 then ((some (y204 ++ l0 : List (S71))).bind fun y207 => (if 0 ≤ t203 then (if t203 < (y207.length : Int) then (spigotref14_Drop.l0 k t203 (y207.set (t203 : Int).toNat (⟨0, 0, false⟩ : S71)) (Int.tmod (wrap64 (t203 + 1)) 16)) else (none)) else (none))) else (none)))) = some (r1, r2) := H
    have A5 := Aside0.mk A50
    (try clear A50)
    by_cases c6 : t203 < 0
    · rw [if_pos c6] at H
      have c6b0 : decide (t203 < 0) = true := decide_eq_true c6
      clear c6
      simp only [Option.some.injEq, Prod.mk.injEq] at H
      obtain ⟨rfl, rfl⟩ := H
      go_enter Try.func39, Try.ntmps39
      go_wp2_with (first | ((with_reducible refine gate_callee (f := 21) rfl ?_); refine goesE (some 10) rfl rfl Try.func21 (by kernel_rfl) rfl #[.slice A0 l0.length c0] rfl ?_; (with_reducible refine (spigotref14_Check.calls k _ _ l0 t201 _ ?side1 ?side2 A3.out).mono ?_); (case side1 => exact Kd.pC HR0.out); (case side2 => exact HC0.out); rintro e w' ⟨rfl, ⟨nd, rfl⟩⟩; refine ⟨_, rfl, ?_⟩) | ((with_reducible refine gate_callee (f := 45) rfl ?_); refine goesE (some 16) rfl rfl Try.func45 (by kernel_rfl) rfl #[.slice A0 l0.length c0, .int .u32 a1] rfl ?_; (with_reducible refine (spigotref14_At.calls k _ _ l0 a1 t203 _ ?side1 ?side2 A5.out).mono ?_); (case side1 => exact Kd.pC HR0.out); (case side2 => exact HC0.out); rintro e w' ⟨rfl, ⟨nd, rfl⟩⟩; refine ⟨_, rfl, ?_⟩))
      go_ret2
      exact ⟨_, by first | rfl | (simp [errW_none, errW_some] <;> rfl) | (simp [*, errW_none, errW_some] <;> rfl), by first | exact Kd.R_nil _ _ _ _ _ | exact Kd.N_nil _ _ _ _ _ | exact Kd.V_nil _ _ _ _ _ | exact Kd.Q_nil _ _ _ _ _ | exact Kd.S_nil _ _ _ _ _, pB HB.out⟩
    · rw [if_neg c6] at H
      have c6b0 : decide (t203 < 0) = false := decide_eq_false c6
      clear c6
      obtain ⟨y204, hy204⟩ : ∃ y_ : List (S71), y_ = (([] : List (S71))) := ⟨_, rfl⟩
      replace H : (if y204.length + l0.length < 5864062014805 then ((some (y204 ++ l0 : List (S71))).bind fun y207 => (if 0 ≤ t203 then (if t203 < (y207.length : Int) then (spigotref14_Drop.l0 k t203 (y207.set (t203 : Int).toNat (⟨0, 0, false⟩ : S71)) (Int.tmod (wrap64 (t203 + 1)) 16)) else (none)) else (none))) else (none)) = some (r1, r2) := by first | (rw [hy204]; with_reducible exact H) | (have H2_ := (Option.bind_some _ _).symm.trans H; rw [hy204]; with_reducible exact H2_) | (have H2_ := (Option.bind_some _ _).symm.trans H; with_reducible exact H2_) | with_reducible exact H | (rw [hy204]; exact H) | exact H
      have Ny204 := Aside0.mk hy204
      (try clear hy204)
      by_cases c7 : y204.length + l0.length < 5864062014805
      · rw [if_pos c7] at H
        have LMc7 := Aside0.mk c7
        clear c7
        obtain ⟨y207, hy207⟩ : ∃ y_ : List (S71), y_ = (y204 ++ l0) := ⟨_, rfl⟩
        replace H : (if 0 ≤ t203 then (if t203 < (y207.length : Int) then (spigotref14_Drop.l0 k t203 (y207.set (t203 : Int).toNat (⟨0, 0, false⟩ : S71)) (Int.tmod (wrap64 (t203 + 1)) 16)) else (none)) else (none)) = some (r1, r2) := by first | (rw [hy207]; with_reducible exact H) | (have H2_ := (Option.bind_some _ _).symm.trans H; rw [hy207]; with_reducible exact H2_) | (have H2_ := (Option.bind_some _ _).symm.trans H; with_reducible exact H2_) | with_reducible exact H | (rw [hy207]; exact H) | exact H
        have Ny207 := Aside0.mk hy207
        (try clear hy207)
        by_cases c8 : 0 ≤ t203
        · rw [if_pos c8] at H
          have c8b0 : decide (0 ≤ t203) = true := decide_eq_true c8
          clear c8
          by_cases c9 : t203 < (y207.length : Int)
          · rw [if_pos c9] at H
            have c9b0 : decide (t203 < (y207.length : Int)) = true := decide_eq_true c9
            clear c9
            obtain ⟨y210, hy210⟩ : ∃ y_ : List (S71), y_ = (y207.set (t203 : Int).toNat (⟨0, 0, false⟩ : S71)) := ⟨_, rfl⟩
            replace H : (spigotref14_Drop.l0 k t203 y210 (Int.tmod (wrap64 (t203 + 1)) 16)) = some (r1, r2) := by first | (rw [hy210]; with_reducible exact H) | (have H2_ := (Option.bind_some _ _).symm.trans H; rw [hy210]; with_reducible exact H2_) | (have H2_ := (Option.bind_some _ _).symm.trans H; with_reducible exact H2_) | with_reducible exact H | (rw [hy210]; exact H) | exact H
            have Ny210 := Aside0.mk hy210
            (try clear hy210)
            have H' := Aside0.mk H
            clear H
            go_enter Try.func39, Try.ntmps39
            go_wp2_with (first | ((with_reducible refine gate_callee (f := 21) rfl ?_); refine goesE (some 10) rfl rfl Try.func21 (by kernel_rfl) rfl #[.slice A0 l0.length c0] rfl ?_; (with_reducible refine (spigotref14_Check.calls k _ _ l0 t201 _ ?side1 ?side2 A3.out).mono ?_); (case side1 => exact Kd.pC HR0.out); (case side2 => exact HC0.out); rintro e w' ⟨rfl, ⟨nd, rfl⟩⟩; refine ⟨_, rfl, ?_⟩) | ((with_reducible refine gate_callee (f := 45) rfl ?_); refine goesE (some 16) rfl rfl Try.func45 (by kernel_rfl) rfl #[.slice A0 l0.length c0, .int .u32 a1] rfl ?_; (with_reducible refine (spigotref14_At.calls k _ _ l0 a1 t203 _ ?side1 ?side2 A5.out).mono ?_); (case side1 => exact Kd.pC HR0.out); (case side2 => exact HC0.out); rintro e w' ⟨rfl, ⟨nd, rfl⟩⟩; refine ⟨_, rfl, ?_⟩) | ((with_reducible refine gate_dst (N := 19) rfl ?_); refine Kd.R_lit k71 _ 71 ?hg (N := 19) ?hd (xs := ([] : List (S71))) (inner := []) (ok := fun _ => True) (okp := fun _ => True) ?hr ?hp (fun _ hk => hk) trivial (Below.refl _ _) (Nat.le_refl _) (by simp) ?_; (case hd => rfl); (case hg => rfl); (case hr => first | (go_simp; done) | (go_simp; rfl)); (case hp => exact (Reps.none _ _)); intro v205 w11 ho12 hb hg_ hnew_; clear hg_ hnew_; (first | rw [← Ny204.out] at ho12 | (simp only [Int.reduceToNat] at ho12; rw [← Ny204.out] at ho12)); have n0_ := Aside0.mk (Kd.R_lower ho12 (below_size (pB HB.out))); have n1_ := Aside0.mk (below_step (pB HB.out) hb); clear HB; have HO206 := n0_; have HB := n1_; clear n0_ n1_; clear hb ho12) | ((with_reducible refine gate_builtin (b := .append) (xs := #[.tmp 19, .tmp 20]) rfl ?_); at_builtin; refine Kd.R_append_rows k71 (w0 := w) w.heap.size rfl (.tmp 19) (.tmp 20) 22 71 (.agg #[(.int .u32 0), (.int .i64 0), (.bool false)]) 24 rfl Try.underlying22 info71 rfl (by decide) (by omega) v205 y204 l0 _ _ _ (fun _ => True) (fun _ => False) rfl rfl ?aO ?aR (fun _ _ h => h) (fun _ h => h.elim) ?aF ?aB ?aS ?aL ?_; (case aR => exact Kd.pC ((Kd.C_below HR0.out HB.out))); (case aB => exact (pB HB.out)); (case aF => exact (fun _ _ => trivial)); (case aO => exact (Kd.pR HO206.out)); (case aS => exact (below_size (pB HB.out))); (case aL => have := LMc7.out; omega); intro v208 w13 ho hb hg hat; rw [← Ny207.out] at ho; have n0_ := Aside0.mk (hb); have n1_ := Aside0.mk (ho); clear HB; (try clear HO206); have HB := n0_; have HO209 := n1_; clear n0_ n1_; clear ho hb hg hat; have p10 : 0 ≤ (t203 : Int) := od; have q10 : (t203 : Int) < ((y207.length : Int) : Int) := od; obtain ⟨go10, co10, eo10, gb10, gl10, cl10, HG10⟩ := Kd.R_form HO209.out (by omega); (first | cases eo10 | (injection eo10 with ea_ en_ ec_; (first | subst ea_ | (injection ea_ with ea_; subst ea_)); subst ec_; clear en_)); have GB10 := Aside0.mk gb10; have GG10 := Aside0.mk HG10; clear gb10 gl10 HG10; obtain ⟨ce10, hcl10, hM10, hcc10, hfr10⟩ := Kd.R_elem HO209.out z71 (t203 : Int) p10 q10; obtain rfl := k71_openM hM10; have hx10_0 : w13.cell? ⟨go10, (t203 : Int).toNat * 3, none⟩ = some (.int .u32 ((rd_T71 y207 t203).f0)) := hcc10 0 _ rfl; have hx10_1 : w13.cell? ⟨go10, (t203 : Int).toNat * 3 + 1, none⟩ = some (.int .i64 ((rd_T71 y207 t203).f1)) := hcc10 1 _ rfl; have hx10_2 : w13.cell? ⟨go10, (t203 : Int).toNat * 3 + 2, none⟩ = some (.bool ((rd_T71 y207 t203).f2)) := hcc10 2 _ rfl; have hf10_0 : w13.frozen? ⟨go10, (t203 : Int).toNat * 3, none⟩ = false := hfr10 0; have hf10_1 : w13.frozen? ⟨go10, (t203 : Int).toNat * 3 + 1, none⟩ = false := hfr10 1; have hf10_2 : w13.frozen? ⟨go10, (t203 : Int).toNat * 3 + 2, none⟩ = false := hfr10 2; clear hcl10 hcc10 hfr10 hM10; replace p10 := eq_true p10; replace q10 := eq_true q10; have HX14 := Aside0.mk (show Kd.R k71 71 w13 w.heap.size (fun _ => True) (.slice (some ⟨go10, 0, none⟩) y207.length co10) y207 from (Kd.pR HO209.out)); obtain ⟨ce14, hcl14, hM14, hcc14, hfr14⟩ := Kd.R_elem HX14.out z71 (t203 : Int) od (by have h_ : (t203 : Int) < ((y207.length : Int) : Int) := od; first | exact h_ | (have e_ := (Kd.R_reads' HO209.out).1; omega) | simpa using h_); obtain rfl := k71_openM hM14; have HP14 := Kd.R_seg HX14.out (t203 : Int) od (by have h_ : (t203 : Int) < ((y207.length : Int) : Int) := od; first | exact h_ | (have e_ := (Kd.R_reads' HO209.out).1; omega) | simpa using h_) (seg := [.int .u32 0, .int .i64 0, .bool false]) (j := 0) hcl14 hcc14 (show 3 ≤ 3 from by decide) (x' := (⟨0, 0, false⟩ : S71)) (k71_mkM _ _ _ (⟨0, 0, false⟩ : S71) ) (fun _ hk => hk); have hx14_0 := hcc14 0 _ rfl; (try simp only [show (k71).sz = 3 from rfl, Nat.mul_one, Nat.add_zero] at hx14_0); have hf14_0 := hfr14 0; (try simp only [show (k71).sz = 3 from rfl, Nat.mul_one, Nat.add_zero] at hf14_0); have hx14_1 := hcc14 1 _ rfl; (try simp only [show (k71).sz = 3 from rfl, Nat.mul_one, Nat.add_zero] at hx14_1); have hf14_1 := hfr14 1; (try simp only [show (k71).sz = 3 from rfl, Nat.mul_one, Nat.add_zero] at hf14_1); have hx14_2 := hcc14 2 _ rfl; (try simp only [show (k71).sz = 3 from rfl, Nat.mul_one, Nat.add_zero] at hx14_2); have hf14_2 := hfr14 2; (try simp only [show (k71).sz = 3 from rfl, Nat.mul_one, Nat.add_zero] at hf14_2); clear hcl14 hcc14 hfr14 hM14) | ((with_reducible refine gate_store (t := 71) (p := 25) rfl ?_); refine store_event (t := 71) (p := 25) (v := ?vo_w15) (w1 := (((w13.setCell ⟨go10, (t203 : Int).toNat * 3, none⟩ (.int .u32 0)).setCell ⟨go10, (t203 : Int).toNat * 3 + 1, none⟩ (.int .i64 0)).setCell ⟨go10, (t203 : Int).toNat * 3 + 2, none⟩ (.bool false))) ?hg ?ho ?hn ?hr ?_; (case ho => rfl); (case hg => rfl); (case hn => rfl); (case hr => first | (go_simp; done) | (go_simp; rfl)); intro w15 hw; have hg : w13.grownBy w15 (some go10) := (by rw [hw]; exact HP14.2); have hp_ : Kd.R k71 71 w15 w.heap.size (fun _ => True) (.slice (some ⟨go10, 0, none⟩) y207.length co10) y210 := (by rw [hw, Ny210.out]; exact HP14.1); (try clear HP14); have n0_ := Aside0.mk (hp_); have n1_ := Aside0.mk ((by rw [hw]; exact below_set (below_set (below_set (HB.out) GB10.out) GB10.out) GB10.out : Below w.heap.size w w15)); clear HO209; clear HB; have HO209 := n0_; have HB := n1_; clear n0_ n1_; clear hg hw hp_))
            go_loopg [6, 8] k (fun kq v6 v8 w' => ∃ (x6_1 : Int) (x7_1 : List (S71)) (x8_1 : Int), v6 = .int .i64 x6_1 ∧ v8 = .int .i64 x8_1 ∧ Aside0 (spigotref14_Drop.l0 kq x6_1 x7_1 x8_1 = some (r1, r2)) ∧ Aside0 (kq ≤ k) ∧ Aside0 (Kd.R k71 71 w' w.heap.size (fun _ => True) (.slice (some ⟨go10, 0, none⟩) y207.length co10) x7_1) ∧ Aside0 (Below w.heap.size w w'))
            case atStart => exact ⟨(t203), (y210), (Int.tmod (wrap64 (t203 + 1)) 16), (by first | rfl | (simp; done) | (simp [*]; done)), (by first | rfl | (simp; done) | (simp [*]; done)), H', ⟨Nat.le_refl _⟩, ⟨Kd.pR HO209.out⟩, ⟨pB HB.out⟩⟩
            case round =>
              clear H'
              try clear c1
              try clear p1
              try clear q1
              try clear hx1
              try clear c2
              try clear p2
              try clear c3
              try clear c4
              try clear c4b0
              try clear c4b1
              try clear c6
              try clear c6b0
              try clear p6
              try clear c7
              try clear c8
              try clear c8b0
              try clear c9
              try clear c9b0
              try clear c10
              try clear p10
              try clear q10
              try clear hx10
              try clear hf10
              try clear c14
              try clear hx14
              try clear hf14
              try clear hx10_0
              try clear hx10_1
              try clear hx10_2
              try clear hx14_0
              try clear hx14_1
              try clear hx14_2
              try clear p10
              try clear q10
              obtain ⟨x6_1, x7_1, x8_1, rfl, rfl, HA, HK1, HO_7, HB⟩ := hrel
              have hl7_1 := (Kd.R_reads' HO_7.out).1
              rw [hl7_1] at HO_7
              (try simp only [hl7_1])
              cases gk with
              | zero => exact absurd HA.out (by simp [spigotref14_Drop.l0])
              | succ k1 =>
                have H := HA.out
                (try clear HA)
                simp only [spigotref14_Drop.l0] at H
                by_cases c16 : 0 ≤ x8_1
                · rw [if_pos c16] at H
                  have c16b0 : decide (0 ≤ x8_1) = true := decide_eq_true c16
                  clear c16
                  by_cases c17 : x8_1 < (x7_1.length : Int)
                  · rw [if_pos c17] at H
                    have c17b0 : decide (x8_1 < (x7_1.length : Int)) = true := decide_eq_true c17
                    clear c17
                    obtain ⟨bq18, hbq18⟩ : ∃ b_ : Bool, b_ = ((rd_T71 x7_1 x8_1).f2) := ⟨_, rfl⟩
                    replace H : (if bq18 = true then ((spigotref14_Home.f ((rd_T71 x7_1 x8_1).f0)).bind fun t213 => ((spigotref14_behind.f k1 t213 x6_1 x8_1).bind fun t214 => (if t214 = true then (spigotref14_Drop.l0 k1 x6_1 x7_1 (Int.tmod (wrap64 (x8_1 + 1)) 16)) else (if 0 ≤ x6_1 then (if x6_1 < (x7_1.length : Int) then (spigotref14_Drop.l0 k1 x8_1 ((x7_1.set (x6_1 : Int).toNat (⟨(rd_T71 x7_1 x8_1).f0, (rd_T71 x7_1 x8_1).f1, bq18⟩ : S71)).set (x8_1 : Int).toNat (⟨0, 0, false⟩ : S71)) (Int.tmod (wrap64 (x8_1 + 1)) 16)) else (none)) else (none))))) else (some (x7_1, 0))) = some (r1, r2) := by rw [← hbq18] at H; exact H
                    have Nbq18 := Aside0.mk hbq18
                    (try clear hbq18)
                    by_cases c19 : bq18 = true
                    · subst c19
                      have H1 : ((spigotref14_Home.f ((rd_T71 x7_1 x8_1).f0)).bind fun t213 => ((spigotref14_behind.f k1 t213 x6_1 x8_1).bind fun t214 => (if t214 = true then (spigotref14_Drop.l0 k1 x6_1 x7_1 (Int.tmod (wrap64 (x8_1 + 1)) 16)) else (if 0 ≤ x6_1 then (if x6_1 < (x7_1.length : Int) then (spigotref14_Drop.l0 k1 x8_1 ((x7_1.set (x6_1 : Int).toNat (⟨(rd_T71 x7_1 x8_1).f0, (rd_T71 x7_1 x8_1).f1, true⟩ : S71)).set (x8_1 : Int).toNat (⟨0, 0, false⟩ : S71)) (Int.tmod (wrap64 (x8_1 + 1)) 16)) else (none)) else (none))))) = some (r1, r2) := by rw [if_pos rfl] at H; exact H
                      clear H
                      have H := H1
                      clear H1
                      replace H := Option.bind_eq_some_iff.mp H
                      obtain ⟨t213, A200, H⟩ := H
                      replace H : ((spigotref14_behind.f k1 t213 x6_1 x8_1).bind fun t214 => (if t214 = true then (spigotref14_Drop.l0 k1 x6_1 x7_1 (Int.tmod (wrap64 (x8_1 + 1)) 16)) else (if 0 ≤ x6_1 then (if x6_1 < (x7_1.length : Int) then (spigotref14_Drop.l0 k1 x8_1 ((x7_1.set (x6_1 : Int).toNat (⟨(rd_T71 x7_1 x8_1).f0, (rd_T71 x7_1 x8_1).f1, true⟩ : S71)).set (x8_1 : Int).toNat (⟨0, 0, false⟩ : S71)) (Int.tmod (wrap64 (x8_1 + 1)) 16)) else (none)) else (none)))) = some (r1, r2) := H
                      have A20 := Aside0.mk A200
                      (try clear A200)
                      replace H := Option.bind_eq_some_iff.mp H
                      obtain ⟨t214, A210, H⟩ := H
                      replace H : (if t214 = true then (spigotref14_Drop.l0 k1 x6_1 x7_1 (Int.tmod (wrap64 (x8_1 + 1)) 16)) else (if 0 ≤ x6_1 then (if x6_1 < (x7_1.length : Int) then (spigotref14_Drop.l0 k1 x8_1 ((x7_1.set (x6_1 : Int).toNat (⟨(rd_T71 x7_1 x8_1).f0, (rd_T71 x7_1 x8_1).f1, true⟩ : S71)).set (x8_1 : Int).toNat (⟨0, 0, false⟩ : S71)) (Int.tmod (wrap64 (x8_1 + 1)) 16)) else (none)) else (none))) = some (r1, r2) := H
                      have A21 := Aside0.mk A210
                      (try clear A210)
                      by_cases c22 : t214 = true
                      · subst c22
                        have H1 : (spigotref14_Drop.l0 k1 x6_1 x7_1 (Int.tmod (wrap64 (x8_1 + 1)) 16)) = some (r1, r2) := by rw [if_pos rfl] at H; exact H
                        clear H
                        have H := H1
                        clear H1
                        have H' := Aside0.mk H
                        clear H
                        have p211 : 0 ≤ (x8_1 : Int) := od
                        have q211 : x8_1 < (x7_1.length : Int) := od
                        obtain ⟨ad211, e211, hx211_0, hx211_1, hx211_2⟩ := at_T71 (Kd.R_reads' HO_7.out).2.2 x8_1 p211 q211
                        (try rw [← Nbq18.out] at hx211_2)
                        obtain rfl : (⟨go10, 0, none⟩ : Addr) = ad211 := (by injection e211)
                        (first | simp only [add_plain] at hx211_0 | simp only [add_at] at hx211_0 | simp only [Addr.add, Nat.zero_add] at hx211_0 | skip)
                        (first | simp only [add_plain] at hx211_1 | simp only [add_at] at hx211_1 | simp only [Addr.add, Nat.zero_add] at hx211_1 | skip)
                        (first | simp only [add_plain] at hx211_2 | simp only [add_at] at hx211_2 | simp only [Addr.add, Nat.zero_add] at hx211_2 | skip)
                        replace p211 := eq_true p211
                        replace q211 := eq_true q211
                        have p212 : 0 ≤ (x8_1 : Int) := od
                        have q212 : x8_1 < (x7_1.length : Int) := od
                        obtain ⟨ad212, e212, hx212_0, hx212_1, hx212_2⟩ := at_T71 (Kd.R_reads' HO_7.out).2.2 x8_1 p212 q212
                        (try rw [← Nbq18.out] at hx212_2)
                        obtain rfl : (⟨go10, 0, none⟩ : Addr) = ad212 := (by injection e212)
                        (first | simp only [add_plain] at hx212_0 | simp only [add_at] at hx212_0 | simp only [Addr.add, Nat.zero_add] at hx212_0 | skip)
                        (first | simp only [add_plain] at hx212_1 | simp only [add_at] at hx212_1 | simp only [Addr.add, Nat.zero_add] at hx212_1 | skip)
                        (first | simp only [add_plain] at hx212_2 | simp only [add_at] at hx212_2 | simp only [Addr.add, Nat.zero_add] at hx212_2 | skip)
                        replace p212 := eq_true p212
                        replace q212 := eq_true q212
                        go_wp2_with (first | ((with_reducible refine gate_callee (f := 19) rfl ?_); refine goesE (some 42) rfl rfl Try.func19 (by kernel_rfl) rfl #[.int .u32 ((rd_T71 x7_1 x8_1).f0)] rfl ?_; (with_reducible refine (spigotref14_Home.calls ((rd_T71 x7_1 x8_1).f0) t213 _ A20.out).mono ?_); rintro e w' ⟨rfl, ⟨nd, rfl⟩⟩; refine ⟨_, rfl, ?_⟩) | ((with_reducible refine gate_callee (f := 53) rfl ?_); refine goesE (some 45) rfl rfl Try.func53 (by kernel_rfl) rfl #[.int .i64 t213, .int .i64 x6_1, .int .i64 x8_1] rfl ?_; (with_reducible refine (spigotref14_behind.calls k1 t213 x6_1 x8_1 true _ A21.out).mono ?_); rintro e w' ⟨rfl, ⟨nd, rfl⟩⟩; refine ⟨_, rfl, ?_⟩))
                        (try simp only [← hl7_1])
                        go_roundg k1
                        case measure => have := HK1.out; omega
                        case rel => exact ⟨(x6_1), (x7_1), (Int.tmod (wrap64 (x8_1 + 1)) 16), (by first | rfl | (simp; done) | (simp [*]; done)), (by first | rfl | (simp; done) | (simp [*]; done)), H', ⟨by have := HK1.out; omega⟩, ⟨by (try simp only [hl7_1]); (with_reducible repeat (first | apply Kd.R_alloc | apply Kd.R_drewN | apply Kd.R_drew)); exact HO_7.out⟩, ⟨pB HB.out⟩⟩
                      · replace c22 := Bool.eq_false_iff.mpr c22
                        subst c22
                        have H1 : (if 0 ≤ x6_1 then (if x6_1 < (x7_1.length : Int) then (spigotref14_Drop.l0 k1 x8_1 ((x7_1.set (x6_1 : Int).toNat (⟨(rd_T71 x7_1 x8_1).f0, (rd_T71 x7_1 x8_1).f1, true⟩ : S71)).set (x8_1 : Int).toNat (⟨0, 0, false⟩ : S71)) (Int.tmod (wrap64 (x8_1 + 1)) 16)) else (none)) else (none)) = some (r1, r2) := by rw [if_neg (show ¬ (false = true) by decide)] at H; exact H
                        clear H
                        have H := H1
                        clear H1
                        by_cases c23 : 0 ≤ x6_1
                        · rw [if_pos c23] at H
                          have c23b0 : decide (0 ≤ x6_1) = true := decide_eq_true c23
                          clear c23
                          by_cases c24 : x6_1 < (x7_1.length : Int)
                          · rw [if_pos c24] at H
                            have c24b0 : decide (x6_1 < (x7_1.length : Int)) = true := decide_eq_true c24
                            clear c24
                            obtain ⟨y216, hy216⟩ : ∃ y_ : List (S71), y_ = (x7_1.set (x6_1 : Int).toNat (⟨(rd_T71 x7_1 x8_1).f0, (rd_T71 x7_1 x8_1).f1, true⟩ : S71)) := ⟨_, rfl⟩
                            replace H : (spigotref14_Drop.l0 k1 x8_1 (y216.set (x8_1 : Int).toNat (⟨0, 0, false⟩ : S71)) (Int.tmod (wrap64 (x8_1 + 1)) 16)) = some (r1, r2) := by first | (rw [hy216]; with_reducible exact H) | (have H2_ := (Option.bind_some _ _).symm.trans H; rw [hy216]; with_reducible exact H2_) | (have H2_ := (Option.bind_some _ _).symm.trans H; with_reducible exact H2_) | with_reducible exact H | (rw [hy216]; exact H) | exact H
                            have Ny216 := Aside0.mk hy216
                            (try clear hy216)
                            obtain ⟨y217, hy217⟩ : ∃ y_ : List (S71), y_ = (y216.set (x8_1 : Int).toNat (⟨0, 0, false⟩ : S71)) := ⟨_, rfl⟩
                            replace H : (spigotref14_Drop.l0 k1 x8_1 y217 (Int.tmod (wrap64 (x8_1 + 1)) 16)) = some (r1, r2) := by first | (rw [hy217]; with_reducible exact H) | (have H2_ := (Option.bind_some _ _).symm.trans H; rw [hy217]; with_reducible exact H2_) | (have H2_ := (Option.bind_some _ _).symm.trans H; with_reducible exact H2_) | with_reducible exact H | (rw [hy217]; exact H) | exact H
                            have Ny217 := Aside0.mk hy217
                            (try clear hy217)
                            have H' := Aside0.mk H
                            clear H
                            have p211 : 0 ≤ (x8_1 : Int) := od
                            have q211 : x8_1 < (x7_1.length : Int) := od
                            obtain ⟨ad211, e211, hx211_0, hx211_1, hx211_2⟩ := at_T71 (Kd.R_reads' HO_7.out).2.2 x8_1 p211 q211
                            (try rw [← Nbq18.out] at hx211_2)
                            obtain rfl : (⟨go10, 0, none⟩ : Addr) = ad211 := (by injection e211)
                            (first | simp only [add_plain] at hx211_0 | simp only [add_at] at hx211_0 | simp only [Addr.add, Nat.zero_add] at hx211_0 | skip)
                            (first | simp only [add_plain] at hx211_1 | simp only [add_at] at hx211_1 | simp only [Addr.add, Nat.zero_add] at hx211_1 | skip)
                            (first | simp only [add_plain] at hx211_2 | simp only [add_at] at hx211_2 | simp only [Addr.add, Nat.zero_add] at hx211_2 | skip)
                            replace p211 := eq_true p211
                            replace q211 := eq_true q211
                            have p212 : 0 ≤ (x8_1 : Int) := od
                            have q212 : x8_1 < (x7_1.length : Int) := od
                            obtain ⟨ad212, e212, hx212_0, hx212_1, hx212_2⟩ := at_T71 (Kd.R_reads' HO_7.out).2.2 x8_1 p212 q212
                            (try rw [← Nbq18.out] at hx212_2)
                            obtain rfl : (⟨go10, 0, none⟩ : Addr) = ad212 := (by injection e212)
                            (first | simp only [add_plain] at hx212_0 | simp only [add_at] at hx212_0 | simp only [Addr.add, Nat.zero_add] at hx212_0 | skip)
                            (first | simp only [add_plain] at hx212_1 | simp only [add_at] at hx212_1 | simp only [Addr.add, Nat.zero_add] at hx212_1 | skip)
                            (first | simp only [add_plain] at hx212_2 | simp only [add_at] at hx212_2 | simp only [Addr.add, Nat.zero_add] at hx212_2 | skip)
                            replace p212 := eq_true p212
                            replace q212 := eq_true q212
                            go_wp2_with (first | ((with_reducible refine gate_callee (f := 19) rfl ?_); refine goesE (some 42) rfl rfl Try.func19 (by kernel_rfl) rfl #[.int .u32 ((rd_T71 x7_1 x8_1).f0)] rfl ?_; (with_reducible refine (spigotref14_Home.calls ((rd_T71 x7_1 x8_1).f0) t213 _ A20.out).mono ?_); rintro e w' ⟨rfl, ⟨nd, rfl⟩⟩; refine ⟨_, rfl, ?_⟩; (try (rw [drewN_self wr]; generalize hq_ : World.drewN wr _ = wr; have n0_ : Aside0 (Kd.R k71 71 wr w.heap.size (fun _ => True) (.slice (some ⟨go10, 0, none⟩) x7_1.length co10) x7_1) := ⟨by rw [← hq_]; exact (Kd.pR HO_7.out)⟩; have n1_ : Aside0 (Below w.heap.size w wr) := ⟨by rw [← hq_]; exact (pB HB.out)⟩; clear HO_7 HB hq_; have HO_7 := n0_; have HB := n1_; clear n0_ n1_))) | ((with_reducible refine gate_callee (f := 53) rfl ?_); refine goesE (some 45) rfl rfl Try.func53 (by kernel_rfl) rfl #[.int .i64 t213, .int .i64 x6_1, .int .i64 x8_1] rfl ?_; (with_reducible refine (spigotref14_behind.calls k1 t213 x6_1 x8_1 false _ A21.out).mono ?_); rintro e w' ⟨rfl, ⟨nd, rfl⟩⟩; refine ⟨_, rfl, ?_⟩; (try (rw [drewN_self wr]; generalize hq_ : World.drewN wr _ = wr; have n0_ : Aside0 (Kd.R k71 71 wr w.heap.size (fun _ => True) (.slice (some ⟨go10, 0, none⟩) x7_1.length co10) x7_1) := ⟨by rw [← hq_]; exact (Kd.pR HO_7.out)⟩; have n1_ : Aside0 (Below w.heap.size w wr) := ⟨by rw [← hq_]; exact (pB HB.out)⟩; clear HO_7 HB hq_; have HO_7 := n0_; have HB := n1_; clear n0_ n1_)); have p215 : 0 ≤ (x8_1 : Int) := od; have q215 : x8_1 < (x7_1.length : Int) := od; obtain ⟨ad215, e215, hx215_0, hx215_1, hx215_2⟩ := at_T71 (Kd.R_reads' HO_7.out).2.2 x8_1 p215 q215; (try rw [← Nbq18.out] at hx215_2); obtain rfl : (⟨go10, 0, none⟩ : Addr) = ad215 := (by injection e215); (first | simp only [add_plain] at hx215_0 | simp only [add_at] at hx215_0 | simp only [Addr.add, Nat.zero_add] at hx215_0 | skip); (first | simp only [add_plain] at hx215_1 | simp only [add_at] at hx215_1 | simp only [Addr.add, Nat.zero_add] at hx215_1 | skip); (first | simp only [add_plain] at hx215_2 | simp only [add_at] at hx215_2 | simp only [Addr.add, Nat.zero_add] at hx215_2 | skip); replace p215 := eq_true p215; replace q215 := eq_true q215; have p25 : 0 ≤ (x6_1 : Int) := od; have q25 : (x6_1 : Int) < ((x7_1.length : Int) : Int) := od; obtain ⟨ce25, hcl25, hM25, hcc25, hfr25⟩ := Kd.R_elem HO_7.out z71 (x6_1 : Int) p25 q25; obtain rfl := k71_openM hM25; have hx25_0 : wr.cell? ⟨go10, (x6_1 : Int).toNat * 3, none⟩ = some (.int .u32 ((rd_T71 x7_1 x6_1).f0)) := hcc25 0 _ rfl; have hx25_1 : wr.cell? ⟨go10, (x6_1 : Int).toNat * 3 + 1, none⟩ = some (.int .i64 ((rd_T71 x7_1 x6_1).f1)) := hcc25 1 _ rfl; have hx25_2 : wr.cell? ⟨go10, (x6_1 : Int).toNat * 3 + 2, none⟩ = some (.bool ((rd_T71 x7_1 x6_1).f2)) := hcc25 2 _ rfl; have hf25_0 : wr.frozen? ⟨go10, (x6_1 : Int).toNat * 3, none⟩ = false := hfr25 0; have hf25_1 : wr.frozen? ⟨go10, (x6_1 : Int).toNat * 3 + 1, none⟩ = false := hfr25 1; have hf25_2 : wr.frozen? ⟨go10, (x6_1 : Int).toNat * 3 + 2, none⟩ = false := hfr25 2; clear hcl25 hcc25 hfr25 hM25; replace p25 := eq_true p25; replace q25 := eq_true q25; have HX27 := Aside0.mk (show Kd.R k71 71 wr w.heap.size (fun _ => True) (.slice (some ⟨go10, 0, none⟩) x7_1.length co10) x7_1 from (Kd.pR HO_7.out)); obtain ⟨ce27, hcl27, hM27, hcc27, hfr27⟩ := Kd.R_elem HX27.out z71 (x6_1 : Int) od (by have h_ : (x6_1 : Int) < ((x7_1.length : Int) : Int) := od; first | exact h_ | (have e_ := (Kd.R_reads' HO_7.out).1; omega) | simpa using h_); obtain rfl := k71_openM hM27; have HP27 := Kd.R_seg HX27.out (x6_1 : Int) od (by have h_ : (x6_1 : Int) < ((x7_1.length : Int) : Int) := od; first | exact h_ | (have e_ := (Kd.R_reads' HO_7.out).1; omega) | simpa using h_) (seg := [.int .u32 ((rd_T71 x7_1 x8_1).f0), .int .i64 ((rd_T71 x7_1 x8_1).f1), .bool true]) (j := 0) hcl27 hcc27 (show 3 ≤ 3 from by decide) (x' := (⟨(rd_T71 x7_1 x8_1).f0, (rd_T71 x7_1 x8_1).f1, true⟩ : S71)) (k71_mkM _ _ _ (⟨(rd_T71 x7_1 x8_1).f0, (rd_T71 x7_1 x8_1).f1, true⟩ : S71) ) (fun _ hk => hk); have hx27_0 := hcc27 0 _ rfl; (try simp only [show (k71).sz = 3 from rfl, Nat.mul_one, Nat.add_zero] at hx27_0); have hf27_0 := hfr27 0; (try simp only [show (k71).sz = 3 from rfl, Nat.mul_one, Nat.add_zero] at hf27_0); have hx27_1 := hcc27 1 _ rfl; (try simp only [show (k71).sz = 3 from rfl, Nat.mul_one, Nat.add_zero] at hx27_1); have hf27_1 := hfr27 1; (try simp only [show (k71).sz = 3 from rfl, Nat.mul_one, Nat.add_zero] at hf27_1); have hx27_2 := hcc27 2 _ rfl; (try simp only [show (k71).sz = 3 from rfl, Nat.mul_one, Nat.add_zero] at hx27_2); have hf27_2 := hfr27 2; (try simp only [show (k71).sz = 3 from rfl, Nat.mul_one, Nat.add_zero] at hf27_2); clear hcl27 hcc27 hfr27 hM27) | ((with_reducible refine gate_store (t := 71) (p := 52) rfl ?_); refine store_event (t := 71) (p := 52) (v := ?vo_w28) (w1 := (((wr.setCell ⟨go10, (x6_1 : Int).toNat * 3, none⟩ (.int .u32 ((rd_T71 x7_1 x8_1).f0))).setCell ⟨go10, (x6_1 : Int).toNat * 3 + 1, none⟩ (.int .i64 ((rd_T71 x7_1 x8_1).f1))).setCell ⟨go10, (x6_1 : Int).toNat * 3 + 2, none⟩ (.bool true))) ?hg ?ho ?hn ?hr ?_; (case ho => rfl); (case hg => rfl); (case hn => rfl); (case hr => first | (go_simp; done) | (go_simp; rfl)); intro w28 hw; have hg : wr.grownBy w28 (some go10) := (by rw [hw]; exact HP27.2); have hp_ : Kd.R k71 71 w28 w.heap.size (fun _ => True) (.slice (some ⟨go10, 0, none⟩) x7_1.length co10) y216 := (by rw [hw, Ny216.out]; exact HP27.1); (try clear HP27); have n0_ := Aside0.mk (hp_); have n1_ := Aside0.mk ((by rw [hw]; exact below_set (below_set (below_set (HB.out) GB10.out) GB10.out) GB10.out : Below w.heap.size w w28)); clear HO_7; clear HB; have HO_7 := n0_; have HB := n1_; clear n0_ n1_; clear hg hw hp_; have p26 : 0 ≤ (x8_1 : Int) := od; have q26 : (x8_1 : Int) < ((x7_1.length : Int) : Int) := od; obtain ⟨ce26, hcl26, hM26, hcc26, hfr26⟩ := Kd.R_elem HO_7.out z71 (x8_1 : Int) p26 q26; obtain rfl := k71_openM hM26; have hx26_0 : w28.cell? ⟨go10, (x8_1 : Int).toNat * 3, none⟩ = some (.int .u32 ((rd_T71 y216 x8_1).f0)) := hcc26 0 _ rfl; have hx26_1 : w28.cell? ⟨go10, (x8_1 : Int).toNat * 3 + 1, none⟩ = some (.int .i64 ((rd_T71 y216 x8_1).f1)) := hcc26 1 _ rfl; have hx26_2 : w28.cell? ⟨go10, (x8_1 : Int).toNat * 3 + 2, none⟩ = some (.bool ((rd_T71 y216 x8_1).f2)) := hcc26 2 _ rfl; have hf26_0 : w28.frozen? ⟨go10, (x8_1 : Int).toNat * 3, none⟩ = false := hfr26 0; have hf26_1 : w28.frozen? ⟨go10, (x8_1 : Int).toNat * 3 + 1, none⟩ = false := hfr26 1; have hf26_2 : w28.frozen? ⟨go10, (x8_1 : Int).toNat * 3 + 2, none⟩ = false := hfr26 2; clear hcl26 hcc26 hfr26 hM26; replace p26 := eq_true p26; replace q26 := eq_true q26; have HX29 := Aside0.mk (show Kd.R k71 71 w28 w.heap.size (fun _ => True) (.slice (some ⟨go10, 0, none⟩) x7_1.length co10) y216 from (Kd.pR HO_7.out)); obtain ⟨ce29, hcl29, hM29, hcc29, hfr29⟩ := Kd.R_elem HX29.out z71 (x8_1 : Int) od (by have h_ : (x8_1 : Int) < ((x7_1.length : Int) : Int) := od; first | exact h_ | (have e_ := (Kd.R_reads' HO_7.out).1; omega) | simpa using h_); obtain rfl := k71_openM hM29; have HP29 := Kd.R_seg HX29.out (x8_1 : Int) od (by have h_ : (x8_1 : Int) < ((x7_1.length : Int) : Int) := od; first | exact h_ | (have e_ := (Kd.R_reads' HO_7.out).1; omega) | simpa using h_) (seg := [.int .u32 0, .int .i64 0, .bool false]) (j := 0) hcl29 hcc29 (show 3 ≤ 3 from by decide) (x' := (⟨0, 0, false⟩ : S71)) (k71_mkM _ _ _ (⟨0, 0, false⟩ : S71) ) (fun _ hk => hk); have hx29_0 := hcc29 0 _ rfl; (try simp only [show (k71).sz = 3 from rfl, Nat.mul_one, Nat.add_zero] at hx29_0); have hf29_0 := hfr29 0; (try simp only [show (k71).sz = 3 from rfl, Nat.mul_one, Nat.add_zero] at hf29_0); have hx29_1 := hcc29 1 _ rfl; (try simp only [show (k71).sz = 3 from rfl, Nat.mul_one, Nat.add_zero] at hx29_1); have hf29_1 := hfr29 1; (try simp only [show (k71).sz = 3 from rfl, Nat.mul_one, Nat.add_zero] at hf29_1); have hx29_2 := hcc29 2 _ rfl; (try simp only [show (k71).sz = 3 from rfl, Nat.mul_one, Nat.add_zero] at hx29_2); have hf29_2 := hfr29 2; (try simp only [show (k71).sz = 3 from rfl, Nat.mul_one, Nat.add_zero] at hf29_2); clear hcl29 hcc29 hfr29 hM29) | ((with_reducible refine gate_store (t := 71) (p := 56) rfl ?_); refine store_event (t := 71) (p := 56) (v := ?vo_w30) (w1 := (((w28.setCell ⟨go10, (x8_1 : Int).toNat * 3, none⟩ (.int .u32 0)).setCell ⟨go10, (x8_1 : Int).toNat * 3 + 1, none⟩ (.int .i64 0)).setCell ⟨go10, (x8_1 : Int).toNat * 3 + 2, none⟩ (.bool false))) ?hg ?ho ?hn ?hr ?_; (case ho => rfl); (case hg => rfl); (case hn => rfl); (case hr => first | (go_simp; done) | (go_simp; rfl)); intro w30 hw; have hg : w28.grownBy w30 (some go10) := (by rw [hw]; exact HP29.2); have hp_ : Kd.R k71 71 w30 w.heap.size (fun _ => True) (.slice (some ⟨go10, 0, none⟩) x7_1.length co10) y217 := (by rw [hw, Ny217.out]; exact HP29.1); (try clear HP29); have n0_ := Aside0.mk (hp_); have n1_ := Aside0.mk ((by rw [hw]; exact below_set (below_set (below_set (HB.out) GB10.out) GB10.out) GB10.out : Below w.heap.size w w30)); clear HO_7; clear HB; have HO_7 := n0_; have HB := n1_; clear n0_ n1_; clear hg hw hp_))
                            (try simp only [← hl7_1])
                            go_roundg k1
                            case measure => have := HK1.out; omega
                            case rel => exact ⟨(x8_1), (y217), (Int.tmod (wrap64 (x8_1 + 1)) 16), (by first | rfl | (simp; done) | (simp [*]; done)), (by first | rfl | (simp; done) | (simp [*]; done)), H', ⟨by have := HK1.out; omega⟩, ⟨by (try simp only [hl7_1]); (with_reducible repeat (first | apply Kd.R_alloc | apply Kd.R_drewN | apply Kd.R_drew)); exact HO_7.out⟩, ⟨pB HB.out⟩⟩
                          · rw [if_neg c24] at H
                            exact absurd H (by simp)
                        · rw [if_neg c23] at H
                          exact absurd H (by simp)
                    · replace c19 := Bool.eq_false_iff.mpr c19
                      subst c19
                      have H1 : (some (x7_1, 0)) = some (r1, r2) := by rw [if_neg (show ¬ (false = true) by decide)] at H; exact H
                      clear H
                      have H := H1
                      clear H1
                      simp only [Option.some.injEq, Prod.mk.injEq] at H
                      obtain ⟨rfl, rfl⟩ := H
                      have p211 : 0 ≤ (x8_1 : Int) := od
                      have q211 : x8_1 < (x7_1.length : Int) := od
                      obtain ⟨ad211, e211, hx211_0, hx211_1, hx211_2⟩ := at_T71 (Kd.R_reads' HO_7.out).2.2 x8_1 p211 q211
                      (try rw [← Nbq18.out] at hx211_2)
                      obtain rfl : (⟨go10, 0, none⟩ : Addr) = ad211 := (by injection e211)
                      (first | simp only [add_plain] at hx211_0 | simp only [add_at] at hx211_0 | simp only [Addr.add, Nat.zero_add] at hx211_0 | skip)
                      (first | simp only [add_plain] at hx211_1 | simp only [add_at] at hx211_1 | simp only [Addr.add, Nat.zero_add] at hx211_1 | skip)
                      (first | simp only [add_plain] at hx211_2 | simp only [add_at] at hx211_2 | simp only [Addr.add, Nat.zero_add] at hx211_2 | skip)
                      replace p211 := eq_true p211
                      replace q211 := eq_true q211
                      go_wp2
                      go_ret2
                      exact ⟨_, by first | rfl | (simp [errW_none, errW_some] <;> rfl) | (simp [*, errW_none, errW_some] <;> rfl), Kd.pR HO_7.out, pB HB.out⟩
                  · rw [if_neg c17] at H
                    exact absurd H (by simp)
                · rw [if_neg c16] at H
                  exact absurd H (by simp)
          · rw [if_neg c9] at H
            exact absurd H (by simp)
        · rw [if_neg c8] at H
          exact absurd H (by simp)
      · rw [if_neg c7] at H
        exact absurd H (by simp)
  · rw [if_neg c4] at H
    have c4b0 : (t201 == 0) = false := beq_eq_false_iff_ne.mpr c4
    have c4b1 : (t201 != 0) = true := bne_iff_ne.mpr c4
    replace H := Option.bind_eq_some_iff.mp H
    obtain ⟨t202, A310, H⟩ := H
    replace H : (some (([] : List (S71)), t202)) = some (r1, r2) := H
    have A31 := Aside0.mk A310
    clear A310
    simp only [Option.some.injEq, Prod.mk.injEq] at H
    obtain ⟨rfl, rfl⟩ := H
    go_enter Try.func39, Try.ntmps39
    go_wp2_with (first | ((with_reducible refine gate_callee (f := 21) rfl ?_); refine goesE (some 10) rfl rfl Try.func21 (by kernel_rfl) rfl #[.slice A0 l0.length c0] rfl ?_; (with_reducible refine (spigotref14_Check.calls k _ _ l0 t201 _ ?side1 ?side2 A3.out).mono ?_); (case side1 => exact Kd.pC HR0.out); (case side2 => exact HC0.out); rintro e w' ⟨rfl, ⟨nd, rfl⟩⟩; refine ⟨_, rfl, ?_⟩) | ((with_reducible refine gate_callee (f := 21) rfl ?_); refine goesE (some 13) rfl rfl Try.func21 (by kernel_rfl) rfl #[.slice A0 l0.length c0] rfl ?_; (with_reducible refine (spigotref14_Check.calls k _ _ l0 t202 _ ?side1 ?side2 A31.out).mono ?_); (case side1 => exact Kd.pC HR0.out); (case side2 => exact HC0.out); rintro e w' ⟨rfl, ⟨nd, rfl⟩⟩; refine ⟨_, rfl, ?_⟩))
    go_ret2
    exact ⟨_, by first | rfl | (simp [errW_none, errW_some] <;> rfl) | (simp [*, errW_none, errW_some] <;> rfl), by first | exact Kd.R_nil _ _ _ _ _ | exact Kd.N_nil _ _ _ _ _ | exact Kd.V_nil _ _ _ _ _ | exact Kd.Q_nil _ _ _ _ _ | exact Kd.S_nil _ _ _ _ _, pB HB.out⟩

end Go.Proofs.Ytlgfopdindklnaa.PProbe
