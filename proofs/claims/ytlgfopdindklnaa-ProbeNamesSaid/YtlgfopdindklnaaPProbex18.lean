-- printed by a program of this session (a turned copy of the kit's print); Lean checks it
import Derived.Test.YtlgfopdindklnaaPProbex0
import Derived.Test.YtlgfopdindklnaaPProbex3
import Derived.Test.YtlgfopdindklnaaPProbex4
import Derived.Test.YtlgfopdindklnaaPProbex7
import Derived.Test.YtlgfopdindklnaaPProbex10
import Derived.Test.YtlgfopdindklnaaPProbex12
import Derived.Test.YtlgfopdindklnaaPProbex16
import Derived.Test.YtlgfopdindklnaaPProbex17
namespace Go.Proofs.Ytlgfopdindklnaa.PProbe
open Go.RowKit Go.Proofs.YtlgfopdindklnaaW.PrintWords Go.Proofs.YtlgfopdindklnaaW.PrintLast Go.Proofs.YtlgfopdindklnaaW.PrintMore
attribute [local go_sem] max2_int min2_int max_two min_two max_three min_three max_four min_four   -- for this text's walks alone
set_option linter.unusedVariables false
set_option linter.unusedSimpArgs false

/-! ### spigotlaw14_ProbeNames: function 10 -/
mutual
def spigotlaw14_ProbeNames.l0 : Nat → Int → Option (Bool)
  | 0, _ => none
  | k + 1, x1 => if x1 < 7 then (if 16 ≤ 11728124029610 then ((some (List.replicate 16 z71 : List (S71))).bind fun y274 => (if x1 = 0 then (if 1 ≤ (y274.length : Int) then ((some (y274.drop (1 : Int).toNat : List (S71))).bind fun y277 => ((probe_Find.f k y277 1).bind fun bt280 => ((probe_Check.f k y277).bind fun t282 => (if t282 = 8 then (if bt280.2 = 8 then (spigotlaw14_ProbeNames.l0 k (wrap64 (x1 + 1))) else (some false)) else (some false))))) else (none)) else (if x1 = 1 then (if 0 < (y274.length : Int) then ((some (y274.set (0 : Int).toNat (⟨1, (rd_T71 y274 0).f1, (rd_T71 y274 0).f2⟩ : S71) : List (S71))).bind fun y283 => ((probe_Find.f k y283 1).bind fun bt284 => ((probe_Check.f k y283).bind fun t286 => (if t286 = 8 then (if bt284.2 = 8 then (spigotlaw14_ProbeNames.l0 k (wrap64 (x1 + 1))) else (some false)) else (some false))))) else (none)) else (if x1 = 2 then (if 0 < (y274.length : Int) then ((some (y274.set (0 : Int).toNat (⟨(rd_T71 y274 0).f0, 1, (rd_T71 y274 0).f2⟩ : S71) : List (S71))).bind fun y287 => ((probe_Find.f k y287 1).bind fun bt288 => ((probe_Check.f k y287).bind fun t290 => (if t290 = 8 then (if bt288.2 = 8 then (spigotlaw14_ProbeNames.l0 k (wrap64 (x1 + 1))) else (some false)) else (some false))))) else (none)) else (if x1 = 3 then (if 8 < (y274.length : Int) then ((some (y274.set (8 : Int).toNat (⟨1, 0, true⟩ : S71) : List (S71))).bind fun y291 => ((probe_Find.f k y291 1).bind fun bt292 => ((probe_Check.f k y291).bind fun t294 => (if t294 = 8 then (if bt292.2 = 8 then (spigotlaw14_ProbeNames.l0 k (wrap64 (x1 + 1))) else (some false)) else (some false))))) else (none)) else (if x1 = 4 then (if 9 < (y274.length : Int) then ((some (y274.set (9 : Int).toNat (⟨1, 16, true⟩ : S71) : List (S71))).bind fun y295 => ((probe_Find.f k y295 1).bind fun bt296 => ((probe_Check.f k y295).bind fun t298 => (if t298 = 8 then (if bt296.2 = 8 then (spigotlaw14_ProbeNames.l0 k (wrap64 (x1 + 1))) else (some false)) else (some false))))) else (none)) else (if x1 = 5 then (if 9 < (y274.length : Int) then (if 10 < (y274.length : Int) then ((some ((y274.set (9 : Int).toNat (⟨1, 0, true⟩ : S71)).set (10 : Int).toNat (⟨1, 2, true⟩ : S71) : List (S71))).bind fun y300 => ((probe_Find.f k y300 1).bind fun bt301 => ((probe_Check.f k y300).bind fun t303 => (if t303 = 8 then (if bt301.2 = 8 then (spigotlaw14_ProbeNames.l0 k (wrap64 (x1 + 1))) else (some false)) else (some false))))) else (none)) else (none)) else (if x1 = 6 then (if 9 < (y274.length : Int) then ((some (y274.set (9 : Int).toNat (⟨1, (-1), true⟩ : S71) : List (S71))).bind fun y304 => ((probe_Find.f k y304 1).bind fun bt305 => ((probe_Check.f k y304).bind fun t307 => (if t307 = 8 then (if bt305.2 = 8 then (spigotlaw14_ProbeNames.l0 k (wrap64 (x1 + 1))) else (some false)) else (some false))))) else (none)) else ((probe_Find.f k y274 1).bind fun bt308 => ((probe_Check.f k y274).bind fun t310 => (if t310 = 8 then (if bt308.2 = 8 then (spigotlaw14_ProbeNames.l0 k (wrap64 (x1 + 1))) else (some false)) else (some false)))))))))))) else (none)) else ((probe_New.f).bind fun t311 => (spigotlaw14_ProbeNames.l1 k t311 0))
def spigotlaw14_ProbeNames.l1 : Nat → List (S71) → Int → Option (Bool)
  | 0, _, _ => none
  | k + 1, x5, x6 => if x6 < 12 then ((probe_Put.f k x5 ((x6) % 4294967296) x6).bind fun bt314 => (if bt314.2 = 0 then (spigotlaw14_ProbeNames.l1 k bt314.1 (wrap64 (x6 + 1))) else (some false))) else ((probe_Put.f k x5 12 0).bind fun bt318 => ((probe_Put.f k x5 3 0).bind fun bt322 => ((probe_Put.f k x5 3 16).bind fun bt326 => ((probe_Put.f k x5 3 (-1)).bind fun bt330 => ((probe_Drop.f k x5 12).bind fun bt334 => ((probe_Find.f k x5 4294967295).bind fun bt338 => ((probe_Drop.f k ([] : List (S71)) 0).bind fun bt340 => ((probe_Put.f k ([] : List (S71)) 0 99).bind fun bt344 => ((probe_Steps.f k ([] : List (S71)) 0).bind fun bt348 => ((spigotlaw14_alive.f k).bind fun t350 => (if t350 = true then ((probe_New.f).bind fun t351 => (if (t351.length : Int) = 16 then (if bt318.2 = 18 then (if bt322.2 = 14 then (if bt326.2 = 2 then (if bt330.2 = 2 then (if bt334.2 = 6 then (if bt338.2 = 6 then (if bt340.2 = 8 then (if bt344.2 = 8 then (some (bt348.2 == 8)) else (some false)) else (some false)) else (some false)) else (some false)) else (some false)) else (some false)) else (some false)) else (some false)) else (some false))) else (none))))))))))))
end
def spigotlaw14_ProbeNames.f (k : Nat)  : Option (Bool) := spigotlaw14_ProbeNames.l0 k 0
theorem spigotlaw14_ProbeNames.mono_l : ∀ k, (∀ y0, LeO (spigotlaw14_ProbeNames.l0 k y0) (spigotlaw14_ProbeNames.l0 (k + 1) y0)) ∧ (∀ y0 y1, LeO (spigotlaw14_ProbeNames.l1 k y0 y1) (spigotlaw14_ProbeNames.l1 (k + 1) y0 y1))
  | 0 => ⟨fun _ r h => by simp [spigotlaw14_ProbeNames.l0] at h, fun _ _ r h => by simp [spigotlaw14_ProbeNames.l1] at h⟩
  | k + 1 => by
    obtain ⟨ih0, ih1⟩ := spigotlaw14_ProbeNames.mono_l k
    refine ⟨?_, ?_⟩
    · intro y0
      unfold spigotlaw14_ProbeNames.l0
      repeat' first
      | (with_reducible exact ih0 _)
      | (with_reducible exact ih1 _ _)
      | (with_reducible exact probe_Check.mono _ _)
      | (with_reducible exact probe_Drop.mono _ _ _)
      | (with_reducible exact probe_Find.mono _ _ _)
      | (with_reducible exact probe_Put.mono _ _ _ _)
      | (with_reducible exact probe_Steps.mono _ _ _)
      | (with_reducible exact spigotlaw14_alive.mono _)
      | (with_reducible exact LeO.refl _)
      | (with_reducible exact LeO.none _)
      | (with_reducible refine LeO.ite ?_ ?_)
      | (with_reducible refine LeO.bind ?_ (fun _ => ?_))
      | exact ih0 _
      | exact ih1 _ _
      | exact probe_Check.mono _ _
      | exact probe_Drop.mono _ _ _
      | exact probe_Find.mono _ _ _
      | exact probe_Put.mono _ _ _ _
      | exact probe_Steps.mono _ _ _
      | exact spigotlaw14_alive.mono _
      | exact LeO.none _
      | refine LeO.ite ?_ ?_
      | refine LeO.bind ?_ (fun _ => ?_)
    · intro y0 y1
      unfold spigotlaw14_ProbeNames.l1
      repeat' first
      | (with_reducible exact ih0 _)
      | (with_reducible exact ih1 _ _)
      | (with_reducible exact probe_Check.mono _ _)
      | (with_reducible exact probe_Drop.mono _ _ _)
      | (with_reducible exact probe_Find.mono _ _ _)
      | (with_reducible exact probe_Put.mono _ _ _ _)
      | (with_reducible exact probe_Steps.mono _ _ _)
      | (with_reducible exact spigotlaw14_alive.mono _)
      | (with_reducible exact LeO.refl _)
      | (with_reducible exact LeO.none _)
      | (with_reducible refine LeO.ite ?_ ?_)
      | (with_reducible refine LeO.bind ?_ (fun _ => ?_))
      | exact ih0 _
      | exact ih1 _ _
      | exact probe_Check.mono _ _
      | exact probe_Drop.mono _ _ _
      | exact probe_Find.mono _ _ _
      | exact probe_Put.mono _ _ _ _
      | exact probe_Steps.mono _ _ _
      | exact spigotlaw14_alive.mono _
      | exact LeO.none _
      | refine LeO.ite ?_ ?_
      | refine LeO.bind ?_ (fun _ => ?_)
theorem spigotlaw14_ProbeNames.mono : ∀ k, LeO (spigotlaw14_ProbeNames.f k ) (spigotlaw14_ProbeNames.f (k + 1) ) := by
  intro  k
  obtain ⟨ih0, ih1⟩ := spigotlaw14_ProbeNames.mono_l k
  unfold spigotlaw14_ProbeNames.f
  repeat' first
      | (with_reducible exact ih0 _)
      | (with_reducible exact ih1 _ _)
      | (with_reducible exact probe_Check.mono _ _)
      | (with_reducible exact probe_Drop.mono _ _ _)
      | (with_reducible exact probe_Find.mono _ _ _)
      | (with_reducible exact probe_Put.mono _ _ _ _)
      | (with_reducible exact probe_Steps.mono _ _ _)
      | (with_reducible exact spigotlaw14_alive.mono _)
      | (with_reducible exact LeO.refl _)
      | (with_reducible exact LeO.none _)
      | (with_reducible refine LeO.ite ?_ ?_)
      | (with_reducible refine LeO.bind ?_ (fun _ => ?_))
      | exact ih0 _
      | exact ih1 _ _
      | exact probe_Check.mono _ _
      | exact probe_Drop.mono _ _ _
      | exact probe_Find.mono _ _ _
      | exact probe_Put.mono _ _ _ _
      | exact probe_Steps.mono _ _ _
      | exact spigotlaw14_alive.mono _
      | exact LeO.none _
      | refine LeO.ite ?_ ?_
      | refine LeO.bind ?_ (fun _ => ?_)
set_option maxHeartbeats 8000000 in
set_option maxRecDepth 100000 in
theorem spigotlaw14_ProbeNames.calls (k : Nat)  (w : World) (h : spigotlaw14_ProbeNames.f k  = some true) :
    Calls Try.prog 10 #[] w fun e w' => e = .returned (.bool true) ∧ Below w.heap.size w w' := by
  have hu71 := Try.underlying71
  have HB := Aside0.mk (Below.refl w.heap.size w)
  have H : (spigotlaw14_ProbeNames.l0 k 0) = some true := h
  (try clear h)
  have H' := Aside0.mk H
  clear H
  go_enter Try.func10, Try.ntmps10
  go_wp2
  go_loopg [1] k (fun kq v1 w' => ∃ (x1_1 : Int), v1 = .int .i64 x1_1 ∧ Aside0 (spigotlaw14_ProbeNames.l0 kq x1_1 = some true) ∧ Aside0 (kq ≤ k) ∧ Aside0 (Below w.heap.size w w'))
  case atStart => exact ⟨(0), (by first | rfl | (simp; done) | (simp [*]; done)), H', ⟨Nat.le_refl _⟩, ⟨pB HB.out⟩⟩
  case round =>
    clear H'
    obtain ⟨x1_1, rfl, HA, HK1, HB⟩ := hrel
    cases gk with
    | zero => exact absurd HA.out (by simp [spigotlaw14_ProbeNames.l0])
    | succ k1 =>
      have H := HA.out
      clear HA
      simp only [spigotlaw14_ProbeNames.l0] at H
      by_cases c1 : x1_1 < 7
      · rw [if_pos c1] at H
        have c1b0 : decide (x1_1 < 7) = true := decide_eq_true c1
        clear c1
        by_cases c2 : 16 ≤ 11728124029610
        · rw [if_pos c2] at H
          have c2b0 := eq_true c2
          have c2b1 : decide (16 ≤ 11728124029610) = true := decide_eq_true c2
          clear c2
          obtain ⟨y274, hy274⟩ : ∃ y_ : List (S71), y_ = (List.replicate 16 z71) := ⟨_, rfl⟩
          replace H : (if x1_1 = 0 then (if 1 ≤ (y274.length : Int) then ((some (y274.drop (1 : Int).toNat : List (S71))).bind fun y277 => ((probe_Find.f k1 y277 1).bind fun bt280 => ((probe_Check.f k1 y277).bind fun t282 => (if t282 = 8 then (if bt280.2 = 8 then (spigotlaw14_ProbeNames.l0 k1 (wrap64 (x1_1 + 1))) else (some false)) else (some false))))) else (none)) else (if x1_1 = 1 then (if 0 < (y274.length : Int) then ((some (y274.set (0 : Int).toNat (⟨1, (rd_T71 y274 0).f1, (rd_T71 y274 0).f2⟩ : S71) : List (S71))).bind fun y283 => ((probe_Find.f k1 y283 1).bind fun bt284 => ((probe_Check.f k1 y283).bind fun t286 => (if t286 = 8 then (if bt284.2 = 8 then (spigotlaw14_ProbeNames.l0 k1 (wrap64 (x1_1 + 1))) else (some false)) else (some false))))) else (none)) else (if x1_1 = 2 then (if 0 < (y274.length : Int) then ((some (y274.set (0 : Int).toNat (⟨(rd_T71 y274 0).f0, 1, (rd_T71 y274 0).f2⟩ : S71) : List (S71))).bind fun y287 => ((probe_Find.f k1 y287 1).bind fun bt288 => ((probe_Check.f k1 y287).bind fun t290 => (if t290 = 8 then (if bt288.2 = 8 then (spigotlaw14_ProbeNames.l0 k1 (wrap64 (x1_1 + 1))) else (some false)) else (some false))))) else (none)) else (if x1_1 = 3 then (if 8 < (y274.length : Int) then ((some (y274.set (8 : Int).toNat (⟨1, 0, true⟩ : S71) : List (S71))).bind fun y291 => ((probe_Find.f k1 y291 1).bind fun bt292 => ((probe_Check.f k1 y291).bind fun t294 => (if t294 = 8 then (if bt292.2 = 8 then (spigotlaw14_ProbeNames.l0 k1 (wrap64 (x1_1 + 1))) else (some false)) else (some false))))) else (none)) else (if x1_1 = 4 then (if 9 < (y274.length : Int) then ((some (y274.set (9 : Int).toNat (⟨1, 16, true⟩ : S71) : List (S71))).bind fun y295 => ((probe_Find.f k1 y295 1).bind fun bt296 => ((probe_Check.f k1 y295).bind fun t298 => (if t298 = 8 then (if bt296.2 = 8 then (spigotlaw14_ProbeNames.l0 k1 (wrap64 (x1_1 + 1))) else (some false)) else (some false))))) else (none)) else (if x1_1 = 5 then (if 9 < (y274.length : Int) then (if 10 < (y274.length : Int) then ((some ((y274.set (9 : Int).toNat (⟨1, 0, true⟩ : S71)).set (10 : Int).toNat (⟨1, 2, true⟩ : S71) : List (S71))).bind fun y300 => ((probe_Find.f k1 y300 1).bind fun bt301 => ((probe_Check.f k1 y300).bind fun t303 => (if t303 = 8 then (if bt301.2 = 8 then (spigotlaw14_ProbeNames.l0 k1 (wrap64 (x1_1 + 1))) else (some false)) else (some false))))) else (none)) else (none)) else (if x1_1 = 6 then (if 9 < (y274.length : Int) then ((some (y274.set (9 : Int).toNat (⟨1, (-1), true⟩ : S71) : List (S71))).bind fun y304 => ((probe_Find.f k1 y304 1).bind fun bt305 => ((probe_Check.f k1 y304).bind fun t307 => (if t307 = 8 then (if bt305.2 = 8 then (spigotlaw14_ProbeNames.l0 k1 (wrap64 (x1_1 + 1))) else (some false)) else (some false))))) else (none)) else ((probe_Find.f k1 y274 1).bind fun bt308 => ((probe_Check.f k1 y274).bind fun t310 => (if t310 = 8 then (if bt308.2 = 8 then (spigotlaw14_ProbeNames.l0 k1 (wrap64 (x1_1 + 1))) else (some false)) else (some false))))))))))) = some true := by first | (rw [hy274]; with_reducible exact H) | (have H2_ := (Option.bind_some _ _).symm.trans H; rw [hy274]; with_reducible exact H2_) | (have H2_ := (Option.bind_some _ _).symm.trans H; with_reducible exact H2_) | with_reducible exact H | (rw [hy274]; exact H) | exact H
          have Ny274 := Aside0.mk hy274
          (try clear hy274)
          by_cases c3 : x1_1 = 0
          · rw [if_pos c3] at H
            have c3b0 : (x1_1 == 0) = true := beq_iff_eq.mpr c3
            have c3b1 : (x1_1 != 0) = false := bne_eq_false_iff_eq.mpr c3
            clear c3
            by_cases c4 : 1 ≤ (y274.length : Int)
            · rw [if_pos c4] at H
              have c4b0 := eq_true c4
              have c4b1 : decide (1 ≤ (y274.length : Int)) = true := decide_eq_true c4
              clear c4
              obtain ⟨y277, hy277⟩ : ∃ y_ : List (S71), y_ = (y274.drop (1 : Int).toNat) := ⟨_, rfl⟩
              replace H : ((probe_Find.f k1 y277 1).bind fun bt280 => ((probe_Check.f k1 y277).bind fun t282 => (if t282 = 8 then (if bt280.2 = 8 then (spigotlaw14_ProbeNames.l0 k1 (wrap64 (x1_1 + 1))) else (some false)) else (some false)))) = some true := by first | (rw [hy277]; with_reducible exact H) | (have H2_ := (Option.bind_some _ _).symm.trans H; rw [hy277]; with_reducible exact H2_) | (have H2_ := (Option.bind_some _ _).symm.trans H; with_reducible exact H2_) | with_reducible exact H | (rw [hy277]; exact H) | exact H
              have Ny277 := Aside0.mk hy277
              (try clear hy277)
              replace H := Option.bind_eq_some_iff.mp H
              obtain ⟨⟨t280, t281⟩, A50, H⟩ := H
              replace H : ((probe_Check.f k1 y277).bind fun t282 => (if t282 = 8 then (if t281 = 8 then (spigotlaw14_ProbeNames.l0 k1 (wrap64 (x1_1 + 1))) else (some false)) else (some false))) = some true := H
              have A5 := Aside0.mk A50
              (try clear A50)
              replace H := Option.bind_eq_some_iff.mp H
              obtain ⟨t282, A60, H⟩ := H
              replace H : (if t282 = 8 then (if t281 = 8 then (spigotlaw14_ProbeNames.l0 k1 (wrap64 (x1_1 + 1))) else (some false)) else (some false)) = some true := H
              have A6 := Aside0.mk A60
              (try clear A60)
              by_cases c7 : t282 = 8
              · rw [if_pos c7] at H
                have c7b0 : (t282 == 8) = true := beq_iff_eq.mpr c7
                have c7b1 : (t282 != 8) = false := bne_eq_false_iff_eq.mpr c7
                clear c7
                by_cases c8 : t281 = 8
                · rw [if_pos c8] at H
                  have c8b0 : (t281 == 8) = true := beq_iff_eq.mpr c8
                  have c8b1 : (t281 != 8) = false := bne_eq_false_iff_eq.mpr c8
                  clear c8
                  have H' := Aside0.mk H
                  clear H
                  go_wp2_with (first | ((with_reducible refine gate_dst (N := 31) rfl ?_); (try (refine gate_guard (by rfl) ?_; dsimp only)); refine Kd.R_make k71 _ 71 rfl (N := 31) rfl 22 _ _ rfl 16 rfl rfl Try.underlying22 (.agg #[(.int .u32 0), (.int .i64 0), (.bool false)]) 24 info71 rfl (by decide) (by omega) z71 (ok := fun _ => True) (okp := fun _ => True) (k71_mkM _ _ _ z71 ) (fun _ hk => hk) trivial (by omega) (by omega) (Below.refl _ _) (Nat.le_refl _) ?_; intro v275 w9 ho10 hb hg_ hnew_; clear hg_ hnew_; (first | rw [← Ny274.out] at ho10 | (simp only [Int.reduceToNat] at ho10; rw [← Ny274.out] at ho10)); have n0_ := Aside0.mk (Kd.R_lower ho10 (below_size (pB HB.out))); have n1_ := Aside0.mk (below_step (pB HB.out) hb); clear HB; have HO276 := n0_; have HB := n1_; clear n0_ n1_; clear hb ho10; obtain ⟨Ao11, co11, eo11⟩ := Kd.R_slice HO276.out; subst eo11; have q12 : (1 : Int) ≤ ((y274.length : Int) : Int) := od; obtain ⟨i012, hi012, _, hsz12, _⟩ := info_parts info71; have hcut12 := cut_from (P := Try.prog) 22 71 .i64 Try.underlying22 hi012 3 hsz12 Ao11 y274.length co11 1 (by omega) q12; have hr12 := Kd.Q_drop (k := (1 : Int).toNat) (Kd.Q_of_R HO276.out) (by omega); obtain ⟨A12, hA12⟩ : ∃ A1, A1 = (if co11 = (1 : Int).toNat then Ao11 else (Ao11 : Option Addr).map (·.add ((1 : Int).toNat * 3))) := ⟨_, rfl⟩; obtain ⟨c12, hc12⟩ : ∃ c1, c1 = co11 - (1 : Int).toNat := ⟨_, rfl⟩; have hy12 : y277.length = y274.length - (1 : Int).toNat := (by rw [Ny277.out, List.length_drop]); rw [← Ny277.out] at hr12; rw [← hy12, ← hA12, ← hc12] at hcut12; replace hr12 : Kd.Q k71 71 w9 w.heap.size (fun _ => True) (.slice A12 y277.length c12) y277 := (by rw [hA12, hc12, hy12]; exact hr12); have HE12 : Aside0 ((Value.slice A12 y277.length c12).ownBlock = (.slice Ao11 y274.length co11 : Value).ownBlock) := ⟨by rw [hA12]; split <;> (cases (Ao11 : Option Addr) <;> rfl)⟩; clear hy12 hi012 hsz12 HO276 hA12 hc12; have HO279 := Aside0.mk hr12; (try clear hr12); replace q12 := eq_true q12) | ((with_reducible refine gate_callee (f := 14) rfl ?_); refine goesE (some 72) rfl rfl Try.func14 (by kernel_rfl) rfl #[.slice A12 y277.length c12, .int .u32 1] rfl ?_; (with_reducible refine (probe_Find.calls k1 _ _ y277 1 t280 t281 _ ?side1 ?side2 A5.out).mono ?_); (case side1 => exact Kd.pC ((Kd.Q_reads' HO279.out).2.2)); (case side2 => exact (Kd.Q_reads' HO279.out).2.1); rintro e w13 ⟨rfl, hb⟩; refine ⟨_, rfl, ?_⟩; have n0_ := Aside0.mk (Kd.Q_below (Kd.pQ HO279.out) hb); have n1_ := Aside0.mk (below_step (pB HB.out) hb); clear HO279; clear HB; have HO279 := n0_; have HB := n1_; clear n0_ n1_; (try clear hb); (try clear hb2); (try clear hk); (try clear hi)) | ((with_reducible refine gate_callee (f := 20) rfl ?_); refine goesE (some 76) rfl rfl Try.func20 (by kernel_rfl) rfl #[.slice A12 y277.length c12] rfl ?_; (with_reducible refine (probe_Check.calls k1 _ _ y277 t282 _ ?side1 ?side2 A6.out).mono ?_); (case side1 => exact Kd.pC ((Kd.Q_reads' HO279.out).2.2)); (case side2 => exact (Kd.Q_reads' HO279.out).2.1); rintro e w14 ⟨rfl, hb⟩; refine ⟨_, rfl, ?_⟩; have n1_ := Aside0.mk (below_step (pB HB.out) hb); (try clear HO279); clear HB; have HB := n1_; clear n1_; (try clear hb); (try clear hb2); (try clear hk); (try clear hi)))
                  go_roundg k1
                  case measure => have := HK1.out; omega
                  case rel => exact ⟨(wrap64 (x1_1 + 1)), (by first | rfl | (simp; done) | (simp [*]; done)), H', ⟨by have := HK1.out; omega⟩, ⟨pB HB.out⟩⟩
                · rw [if_neg c8] at H
                  have c8b0 : (t281 == 8) = false := beq_eq_false_iff_ne.mpr c8
                  have c8b1 : (t281 != 8) = true := bne_iff_ne.mpr c8
                  exact absurd H (by simp)
              · rw [if_neg c7] at H
                have c7b0 : (t282 == 8) = false := beq_eq_false_iff_ne.mpr c7
                have c7b1 : (t282 != 8) = true := bne_iff_ne.mpr c7
                exact absurd H (by simp)
            · rw [if_neg c4] at H
              exact absurd H (by simp)
          · rw [if_neg c3] at H
            have c3b0 : (x1_1 == 0) = false := beq_eq_false_iff_ne.mpr c3
            have c3b1 : (x1_1 != 0) = true := bne_iff_ne.mpr c3
            by_cases c15 : x1_1 = 1
            · rw [if_pos c15] at H
              have c15b0 : (x1_1 == 1) = true := beq_iff_eq.mpr c15
              have c15b1 : (x1_1 != 1) = false := bne_eq_false_iff_eq.mpr c15
              clear c15
              by_cases c16 : 0 < (y274.length : Int)
              · rw [if_pos c16] at H
                have c16b0 : decide (0 < (y274.length : Int)) = true := decide_eq_true c16
                have c16b1 : decide (0 < y274.length) = true := decide_eq_true (by omega)
                clear c16
                obtain ⟨y283, hy283⟩ : ∃ y_ : List (S71), y_ = (y274.set (0 : Int).toNat (⟨1, (rd_T71 y274 0).f1, (rd_T71 y274 0).f2⟩ : S71)) := ⟨_, rfl⟩
                replace H : ((probe_Find.f k1 y283 1).bind fun bt284 => ((probe_Check.f k1 y283).bind fun t286 => (if t286 = 8 then (if bt284.2 = 8 then (spigotlaw14_ProbeNames.l0 k1 (wrap64 (x1_1 + 1))) else (some false)) else (some false)))) = some true := by first | (rw [hy283]; with_reducible exact H) | (have H2_ := (Option.bind_some _ _).symm.trans H; rw [hy283]; with_reducible exact H2_) | (have H2_ := (Option.bind_some _ _).symm.trans H; with_reducible exact H2_) | with_reducible exact H | (rw [hy283]; exact H) | exact H
                have Ny283 := Aside0.mk hy283
                (try clear hy283)
                replace H := Option.bind_eq_some_iff.mp H
                obtain ⟨⟨t284, t285⟩, A180, H⟩ := H
                replace H : ((probe_Check.f k1 y283).bind fun t286 => (if t286 = 8 then (if t285 = 8 then (spigotlaw14_ProbeNames.l0 k1 (wrap64 (x1_1 + 1))) else (some false)) else (some false))) = some true := H
                have A18 := Aside0.mk A180
                (try clear A180)
                replace H := Option.bind_eq_some_iff.mp H
                obtain ⟨t286, A190, H⟩ := H
                replace H : (if t286 = 8 then (if t285 = 8 then (spigotlaw14_ProbeNames.l0 k1 (wrap64 (x1_1 + 1))) else (some false)) else (some false)) = some true := H
                have A19 := Aside0.mk A190
                (try clear A190)
                by_cases c20 : t286 = 8
                · rw [if_pos c20] at H
                  have c20b0 : (t286 == 8) = true := beq_iff_eq.mpr c20
                  have c20b1 : (t286 != 8) = false := bne_eq_false_iff_eq.mpr c20
                  clear c20
                  by_cases c21 : t285 = 8
                  · rw [if_pos c21] at H
                    have c21b0 : (t285 == 8) = true := beq_iff_eq.mpr c21
                    have c21b1 : (t285 != 8) = false := bne_eq_false_iff_eq.mpr c21
                    clear c21
                    have H' := Aside0.mk H
                    clear H
                    go_wp2_with (first | ((with_reducible refine gate_dst (N := 31) rfl ?_); (try (refine gate_guard (by rfl) ?_; dsimp only)); refine Kd.R_make k71 _ 71 rfl (N := 31) rfl 22 _ _ rfl 16 rfl rfl Try.underlying22 (.agg #[(.int .u32 0), (.int .i64 0), (.bool false)]) 24 info71 rfl (by decide) (by omega) z71 (ok := fun _ => True) (okp := fun _ => True) (k71_mkM _ _ _ z71 ) (fun _ hk => hk) trivial (by omega) (by omega) (Below.refl _ _) (Nat.le_refl _) ?_; intro v275 w22 ho23 hb hg_ hnew_; clear hg_ hnew_; (first | rw [← Ny274.out] at ho23 | (simp only [Int.reduceToNat] at ho23; rw [← Ny274.out] at ho23)); have n0_ := Aside0.mk (Kd.R_lower ho23 (below_size (pB HB.out))); have n1_ := Aside0.mk (below_step (pB HB.out) hb); clear HB; have HO276 := n0_; have HB := n1_; clear n0_ n1_; clear hb ho23; have p17 : 0 ≤ (0 : Int) := (by omega); have q17 : (0 : Int) < ((y274.length : Int) : Int) := od; have qi17 : (0 < y274.length) = True := eq_true (by omega); obtain ⟨go17, co17, eo17, gb17, gl17, cl17, HG17⟩ := Kd.R_form HO276.out (by omega); (first | cases eo17 | (injection eo17 with ea_ en_ ec_; (first | subst ea_ | (injection ea_ with ea_; subst ea_)); subst ec_; clear en_)); have GB17 := Aside0.mk gb17; have GG17 := Aside0.mk HG17; clear gb17 gl17 HG17; obtain ⟨ce17, hcl17, hM17, hcc17, hfr17⟩ := Kd.R_elem HO276.out z71 (0 : Int) p17 q17; obtain rfl := k71_openM hM17; have hx17_0 : w22.cell? ⟨go17, (0 : Int).toNat * 3, none⟩ = some (.int .u32 ((rd_T71 y274 0).f0)) := hcc17 0 _ rfl; have hx17_1 : w22.cell? ⟨go17, (0 : Int).toNat * 3 + 1, none⟩ = some (.int .i64 ((rd_T71 y274 0).f1)) := hcc17 1 _ rfl; have hx17_2 : w22.cell? ⟨go17, (0 : Int).toNat * 3 + 2, none⟩ = some (.bool ((rd_T71 y274 0).f2)) := hcc17 2 _ rfl; have hf17_0 : w22.frozen? ⟨go17, (0 : Int).toNat * 3, none⟩ = false := hfr17 0; have hf17_1 : w22.frozen? ⟨go17, (0 : Int).toNat * 3 + 1, none⟩ = false := hfr17 1; have hf17_2 : w22.frozen? ⟨go17, (0 : Int).toNat * 3 + 2, none⟩ = false := hfr17 2; clear hcl17 hcc17 hfr17 hM17; (try rw [show ((0 : Int)).toNat = 0 from rfl] at hx17_0); (try simp only [Nat.reduceMul, Nat.zero_mul, Nat.zero_add, Nat.reduceAdd] at hx17_0); (try rw [show ((0 : Int)).toNat = 0 from rfl] at hf17_0); (try simp only [Nat.reduceMul, Nat.zero_mul, Nat.zero_add, Nat.reduceAdd] at hf17_0); (try rw [show ((0 : Int)).toNat = 0 from rfl] at hx17_1); (try simp only [Nat.reduceMul, Nat.zero_mul, Nat.zero_add, Nat.reduceAdd] at hx17_1); (try rw [show ((0 : Int)).toNat = 0 from rfl] at hf17_1); (try simp only [Nat.reduceMul, Nat.zero_mul, Nat.zero_add, Nat.reduceAdd] at hf17_1); (try rw [show ((0 : Int)).toNat = 0 from rfl] at hx17_2); (try simp only [Nat.reduceMul, Nat.zero_mul, Nat.zero_add, Nat.reduceAdd] at hx17_2); (try rw [show ((0 : Int)).toNat = 0 from rfl] at hf17_2); (try simp only [Nat.reduceMul, Nat.zero_mul, Nat.zero_add, Nat.reduceAdd] at hf17_2); replace p17 := eq_true p17; replace q17 := eq_true q17; have HX24 := Aside0.mk (show Kd.R k71 71 w22 w.heap.size (fun _ => True) (.slice (some ⟨go17, 0, none⟩) y274.length co17) y274 from (Kd.pR HO276.out)); obtain ⟨ce24, hcl24, hM24, hcc24, hfr24⟩ := Kd.R_elem HX24.out z71 (0 : Int) (by omega) (by have h_ : (0 : Int) < ((y274.length : Int) : Int) := od; first | exact h_ | (have e_ := (Kd.R_reads' HO276.out).1; omega) | simpa using h_); obtain rfl := k71_openM hM24; have HP24 := Kd.R_seg HX24.out (0 : Int) (by omega) (by have h_ : (0 : Int) < ((y274.length : Int) : Int) := od; first | exact h_ | (have e_ := (Kd.R_reads' HO276.out).1; omega) | simpa using h_) (seg := [.int .u32 1]) (j := 0) hcl24 hcc24 (show 1 ≤ 3 from by decide) (x' := (⟨1, (rd_T71 y274 0).f1, (rd_T71 y274 0).f2⟩ : S71)) (k71_mkM _ _ _ (⟨1, (rd_T71 y274 0).f1, (rd_T71 y274 0).f2⟩ : S71) ) (fun _ hk => hk); have hx24_0 := hcc24 0 _ rfl; (try simp only [show (k71).sz = 3 from rfl, Nat.mul_one, Nat.add_zero] at hx24_0); (try rw [show ((0 : Int)).toNat = 0 from rfl] at hx24_0); (try simp only [Nat.reduceMul, Nat.zero_mul, Nat.zero_add, Nat.reduceAdd] at hx24_0); have hf24_0 := hfr24 0; (try simp only [show (k71).sz = 3 from rfl, Nat.mul_one, Nat.add_zero] at hf24_0); (try rw [show ((0 : Int)).toNat = 0 from rfl] at hf24_0); (try simp only [Nat.reduceMul, Nat.zero_mul, Nat.zero_add, Nat.reduceAdd] at hf24_0); clear hcl24 hcc24 hfr24 hM24) | ((with_reducible refine gate_store (t := 23) (p := 41) rfl ?_); refine store_event (t := 23) (p := 41) (v := ?vo_w25) (w1 := (w22.setCell ⟨go17, 0, none⟩ (.int .u32 1))) ?hg ?ho ?hn ?hr ?_; (case ho => rfl); (case hg => rfl); (case hn => rfl); (case hr => first | (go_simp; done) | (go_simp; rfl)); intro w25 hw; have hg : w22.grownBy w25 (some go17) := (by rw [hw]; exact HP24.2); have hp_ : Kd.R k71 71 w25 w.heap.size (fun _ => True) (.slice (some ⟨go17, 0, none⟩) y274.length co17) y283 := (by rw [hw, Ny283.out]; exact HP24.1); (try clear HP24); have n0_ := Aside0.mk (hp_); have n1_ := Aside0.mk ((by rw [hw]; exact below_set (HB.out) GB17.out : Below w.heap.size w w25)); clear HO276; clear HB; have HO276 := n0_; have HB := n1_; clear n0_ n1_; clear hg hw hp_) | ((with_reducible refine gate_callee (f := 14) rfl ?_); refine goesL_ (some 72) rfl rfl Try.func14 (by kernel_rfl) rfl #[.slice (some ⟨go17, 0, none⟩) y283.length co17, .int .u32 1] rfl (by (try simp only [List.map_toArray, List.map_cons, List.map_nil]); first | done | (rw [show y283.length = y274.length from (Kd.R_reads' HO276.out).1.symm] <;> rfl) | rfl | (simp only [List.length_drop, List.length_take]; rfl)) ?_; (with_reducible refine (probe_Find.calls k1 _ _ y283 1 t284 t285 _ ?side1 ?side2 A18.out).mono ?_); (case side1 => exact Kd.pC ((Kd.R_reads' HO276.out).2.2)); (case side2 => rw [show y283.length = y274.length from (Kd.R_reads' HO276.out).1.symm]; exact (Kd.R_reads' HO276.out).2.1); rintro e w26 ⟨rfl, hb⟩; refine ⟨_, rfl, ?_⟩; have n0_ := Aside0.mk (Kd.R_below (Kd.pR HO276.out) hb); have n1_ := Aside0.mk (below_step (pB HB.out) hb); clear HO276; clear HB; have HO276 := n0_; have HB := n1_; clear n0_ n1_; (try clear hb); (try clear hb2); (try clear hk); (try clear hi)) | ((with_reducible refine gate_callee (f := 20) rfl ?_); refine goesL_ (some 76) rfl rfl Try.func20 (by kernel_rfl) rfl #[.slice (some ⟨go17, 0, none⟩) y283.length co17] rfl (by (try simp only [List.map_toArray, List.map_cons, List.map_nil]); first | done | (rw [show y283.length = y274.length from (Kd.R_reads' HO276.out).1.symm] <;> rfl) | rfl | (simp only [List.length_drop, List.length_take]; rfl)) ?_; (with_reducible refine (probe_Check.calls k1 _ _ y283 t286 _ ?side1 ?side2 A19.out).mono ?_); (case side1 => exact Kd.pC ((Kd.R_reads' HO276.out).2.2)); (case side2 => rw [show y283.length = y274.length from (Kd.R_reads' HO276.out).1.symm]; exact (Kd.R_reads' HO276.out).2.1); rintro e w27 ⟨rfl, hb⟩; refine ⟨_, rfl, ?_⟩; have n1_ := Aside0.mk (below_step (pB HB.out) hb); (try clear HO276); clear HB; have HB := n1_; clear n1_; (try clear hb); (try clear hb2); (try clear hk); (try clear hi)))
                    go_roundg k1
                    case measure => have := HK1.out; omega
                    case rel => exact ⟨(wrap64 (x1_1 + 1)), (by first | rfl | (simp; done) | (simp [*]; done)), H', ⟨by have := HK1.out; omega⟩, ⟨pB HB.out⟩⟩
                  · rw [if_neg c21] at H
                    have c21b0 : (t285 == 8) = false := beq_eq_false_iff_ne.mpr c21
                    have c21b1 : (t285 != 8) = true := bne_iff_ne.mpr c21
                    exact absurd H (by simp)
                · rw [if_neg c20] at H
                  have c20b0 : (t286 == 8) = false := beq_eq_false_iff_ne.mpr c20
                  have c20b1 : (t286 != 8) = true := bne_iff_ne.mpr c20
                  exact absurd H (by simp)
              · rw [if_neg c16] at H
                exact absurd H (by simp)
            · rw [if_neg c15] at H
              have c15b0 : (x1_1 == 1) = false := beq_eq_false_iff_ne.mpr c15
              have c15b1 : (x1_1 != 1) = true := bne_iff_ne.mpr c15
              by_cases c28 : x1_1 = 2
              · rw [if_pos c28] at H
                have c28b0 : (x1_1 == 2) = true := beq_iff_eq.mpr c28
                have c28b1 : (x1_1 != 2) = false := bne_eq_false_iff_eq.mpr c28
                clear c28
                by_cases c29 : 0 < (y274.length : Int)
                · rw [if_pos c29] at H
                  have c29b0 : decide (0 < (y274.length : Int)) = true := decide_eq_true c29
                  have c29b1 : decide (0 < y274.length) = true := decide_eq_true (by omega)
                  clear c29
                  obtain ⟨y287, hy287⟩ : ∃ y_ : List (S71), y_ = (y274.set (0 : Int).toNat (⟨(rd_T71 y274 0).f0, 1, (rd_T71 y274 0).f2⟩ : S71)) := ⟨_, rfl⟩
                  replace H : ((probe_Find.f k1 y287 1).bind fun bt288 => ((probe_Check.f k1 y287).bind fun t290 => (if t290 = 8 then (if bt288.2 = 8 then (spigotlaw14_ProbeNames.l0 k1 (wrap64 (x1_1 + 1))) else (some false)) else (some false)))) = some true := by first | (rw [hy287]; with_reducible exact H) | (have H2_ := (Option.bind_some _ _).symm.trans H; rw [hy287]; with_reducible exact H2_) | (have H2_ := (Option.bind_some _ _).symm.trans H; with_reducible exact H2_) | with_reducible exact H | (rw [hy287]; exact H) | exact H
                  have Ny287 := Aside0.mk hy287
                  (try clear hy287)
                  replace H := Option.bind_eq_some_iff.mp H
                  obtain ⟨⟨t288, t289⟩, A310, H⟩ := H
                  replace H : ((probe_Check.f k1 y287).bind fun t290 => (if t290 = 8 then (if t289 = 8 then (spigotlaw14_ProbeNames.l0 k1 (wrap64 (x1_1 + 1))) else (some false)) else (some false))) = some true := H
                  have A31 := Aside0.mk A310
                  (try clear A310)
                  replace H := Option.bind_eq_some_iff.mp H
                  obtain ⟨t290, A320, H⟩ := H
                  replace H : (if t290 = 8 then (if t289 = 8 then (spigotlaw14_ProbeNames.l0 k1 (wrap64 (x1_1 + 1))) else (some false)) else (some false)) = some true := H
                  have A32 := Aside0.mk A320
                  (try clear A320)
                  by_cases c33 : t290 = 8
                  · rw [if_pos c33] at H
                    have c33b0 : (t290 == 8) = true := beq_iff_eq.mpr c33
                    have c33b1 : (t290 != 8) = false := bne_eq_false_iff_eq.mpr c33
                    clear c33
                    by_cases c34 : t289 = 8
                    · rw [if_pos c34] at H
                      have c34b0 : (t289 == 8) = true := beq_iff_eq.mpr c34
                      have c34b1 : (t289 != 8) = false := bne_eq_false_iff_eq.mpr c34
                      clear c34
                      have H' := Aside0.mk H
                      clear H
                      go_wp2_with (first | ((with_reducible refine gate_dst (N := 31) rfl ?_); (try (refine gate_guard (by rfl) ?_; dsimp only)); refine Kd.R_make k71 _ 71 rfl (N := 31) rfl 22 _ _ rfl 16 rfl rfl Try.underlying22 (.agg #[(.int .u32 0), (.int .i64 0), (.bool false)]) 24 info71 rfl (by decide) (by omega) z71 (ok := fun _ => True) (okp := fun _ => True) (k71_mkM _ _ _ z71 ) (fun _ hk => hk) trivial (by omega) (by omega) (Below.refl _ _) (Nat.le_refl _) ?_; intro v275 w35 ho36 hb hg_ hnew_; clear hg_ hnew_; (first | rw [← Ny274.out] at ho36 | (simp only [Int.reduceToNat] at ho36; rw [← Ny274.out] at ho36)); have n0_ := Aside0.mk (Kd.R_lower ho36 (below_size (pB HB.out))); have n1_ := Aside0.mk (below_step (pB HB.out) hb); clear HB; have HO276 := n0_; have HB := n1_; clear n0_ n1_; clear hb ho36; have p30 : 0 ≤ (0 : Int) := (by omega); have q30 : (0 : Int) < ((y274.length : Int) : Int) := od; have qi30 : (0 < y274.length) = True := eq_true (by omega); obtain ⟨go30, co30, eo30, gb30, gl30, cl30, HG30⟩ := Kd.R_form HO276.out (by omega); (first | cases eo30 | (injection eo30 with ea_ en_ ec_; (first | subst ea_ | (injection ea_ with ea_; subst ea_)); subst ec_; clear en_)); have GB30 := Aside0.mk gb30; have GG30 := Aside0.mk HG30; clear gb30 gl30 HG30; obtain ⟨ce30, hcl30, hM30, hcc30, hfr30⟩ := Kd.R_elem HO276.out z71 (0 : Int) p30 q30; obtain rfl := k71_openM hM30; have hx30_0 : w35.cell? ⟨go30, (0 : Int).toNat * 3, none⟩ = some (.int .u32 ((rd_T71 y274 0).f0)) := hcc30 0 _ rfl; have hx30_1 : w35.cell? ⟨go30, (0 : Int).toNat * 3 + 1, none⟩ = some (.int .i64 ((rd_T71 y274 0).f1)) := hcc30 1 _ rfl; have hx30_2 : w35.cell? ⟨go30, (0 : Int).toNat * 3 + 2, none⟩ = some (.bool ((rd_T71 y274 0).f2)) := hcc30 2 _ rfl; have hf30_0 : w35.frozen? ⟨go30, (0 : Int).toNat * 3, none⟩ = false := hfr30 0; have hf30_1 : w35.frozen? ⟨go30, (0 : Int).toNat * 3 + 1, none⟩ = false := hfr30 1; have hf30_2 : w35.frozen? ⟨go30, (0 : Int).toNat * 3 + 2, none⟩ = false := hfr30 2; clear hcl30 hcc30 hfr30 hM30; (try rw [show ((0 : Int)).toNat = 0 from rfl] at hx30_0); (try simp only [Nat.reduceMul, Nat.zero_mul, Nat.zero_add, Nat.reduceAdd] at hx30_0); (try rw [show ((0 : Int)).toNat = 0 from rfl] at hf30_0); (try simp only [Nat.reduceMul, Nat.zero_mul, Nat.zero_add, Nat.reduceAdd] at hf30_0); (try rw [show ((0 : Int)).toNat = 0 from rfl] at hx30_1); (try simp only [Nat.reduceMul, Nat.zero_mul, Nat.zero_add, Nat.reduceAdd] at hx30_1); (try rw [show ((0 : Int)).toNat = 0 from rfl] at hf30_1); (try simp only [Nat.reduceMul, Nat.zero_mul, Nat.zero_add, Nat.reduceAdd] at hf30_1); (try rw [show ((0 : Int)).toNat = 0 from rfl] at hx30_2); (try simp only [Nat.reduceMul, Nat.zero_mul, Nat.zero_add, Nat.reduceAdd] at hx30_2); (try rw [show ((0 : Int)).toNat = 0 from rfl] at hf30_2); (try simp only [Nat.reduceMul, Nat.zero_mul, Nat.zero_add, Nat.reduceAdd] at hf30_2); replace p30 := eq_true p30; replace q30 := eq_true q30; have HX37 := Aside0.mk (show Kd.R k71 71 w35 w.heap.size (fun _ => True) (.slice (some ⟨go30, 0, none⟩) y274.length co30) y274 from (Kd.pR HO276.out)); obtain ⟨ce37, hcl37, hM37, hcc37, hfr37⟩ := Kd.R_elem HX37.out z71 (0 : Int) (by omega) (by have h_ : (0 : Int) < ((y274.length : Int) : Int) := od; first | exact h_ | (have e_ := (Kd.R_reads' HO276.out).1; omega) | simpa using h_); obtain rfl := k71_openM hM37; have HP37 := Kd.R_seg HX37.out (0 : Int) (by omega) (by have h_ : (0 : Int) < ((y274.length : Int) : Int) := od; first | exact h_ | (have e_ := (Kd.R_reads' HO276.out).1; omega) | simpa using h_) (seg := [.int .i64 1]) (j := 1) hcl37 hcc37 (show 2 ≤ 3 from by decide) (x' := (⟨(rd_T71 y274 0).f0, 1, (rd_T71 y274 0).f2⟩ : S71)) (k71_mkM _ _ _ (⟨(rd_T71 y274 0).f0, 1, (rd_T71 y274 0).f2⟩ : S71) ) (fun _ hk => hk); have hx37_1 := hcc37 1 _ rfl; (try simp only [show (k71).sz = 3 from rfl, Nat.mul_one, Nat.add_zero] at hx37_1); (try rw [show ((0 : Int)).toNat = 0 from rfl] at hx37_1); (try simp only [Nat.reduceMul, Nat.zero_mul, Nat.zero_add, Nat.reduceAdd] at hx37_1); have hf37_1 := hfr37 1; (try simp only [show (k71).sz = 3 from rfl, Nat.mul_one, Nat.add_zero] at hf37_1); (try rw [show ((0 : Int)).toNat = 0 from rfl] at hf37_1); (try simp only [Nat.reduceMul, Nat.zero_mul, Nat.zero_add, Nat.reduceAdd] at hf37_1); clear hcl37 hcc37 hfr37 hM37) | ((with_reducible refine gate_store (t := 3) (p := 46) rfl ?_); refine store_event (t := 3) (p := 46) (v := ?vo_w38) (w1 := (w35.setCell ⟨go30, 1, none⟩ (.int .i64 1))) ?hg ?ho ?hn ?hr ?_; (case ho => rfl); (case hg => rfl); (case hn => rfl); (case hr => first | (go_simp; done) | (go_simp; rfl)); intro w38 hw; have hg : w35.grownBy w38 (some go30) := (by rw [hw]; exact HP37.2); have hp_ : Kd.R k71 71 w38 w.heap.size (fun _ => True) (.slice (some ⟨go30, 0, none⟩) y274.length co30) y287 := (by rw [hw, Ny287.out]; exact HP37.1); (try clear HP37); have n0_ := Aside0.mk (hp_); have n1_ := Aside0.mk ((by rw [hw]; exact below_set (HB.out) GB30.out : Below w.heap.size w w38)); clear HO276; clear HB; have HO276 := n0_; have HB := n1_; clear n0_ n1_; clear hg hw hp_) | ((with_reducible refine gate_callee (f := 14) rfl ?_); refine goesL_ (some 72) rfl rfl Try.func14 (by kernel_rfl) rfl #[.slice (some ⟨go30, 0, none⟩) y287.length co30, .int .u32 1] rfl (by (try simp only [List.map_toArray, List.map_cons, List.map_nil]); first | done | (rw [show y287.length = y274.length from (Kd.R_reads' HO276.out).1.symm] <;> rfl) | rfl | (simp only [List.length_drop, List.length_take]; rfl)) ?_; (with_reducible refine (probe_Find.calls k1 _ _ y287 1 t288 t289 _ ?side1 ?side2 A31.out).mono ?_); (case side1 => exact Kd.pC ((Kd.R_reads' HO276.out).2.2)); (case side2 => rw [show y287.length = y274.length from (Kd.R_reads' HO276.out).1.symm]; exact (Kd.R_reads' HO276.out).2.1); rintro e w39 ⟨rfl, hb⟩; refine ⟨_, rfl, ?_⟩; have n0_ := Aside0.mk (Kd.R_below (Kd.pR HO276.out) hb); have n1_ := Aside0.mk (below_step (pB HB.out) hb); clear HO276; clear HB; have HO276 := n0_; have HB := n1_; clear n0_ n1_; (try clear hb); (try clear hb2); (try clear hk); (try clear hi)) | ((with_reducible refine gate_callee (f := 20) rfl ?_); refine goesL_ (some 76) rfl rfl Try.func20 (by kernel_rfl) rfl #[.slice (some ⟨go30, 0, none⟩) y287.length co30] rfl (by (try simp only [List.map_toArray, List.map_cons, List.map_nil]); first | done | (rw [show y287.length = y274.length from (Kd.R_reads' HO276.out).1.symm] <;> rfl) | rfl | (simp only [List.length_drop, List.length_take]; rfl)) ?_; (with_reducible refine (probe_Check.calls k1 _ _ y287 t290 _ ?side1 ?side2 A32.out).mono ?_); (case side1 => exact Kd.pC ((Kd.R_reads' HO276.out).2.2)); (case side2 => rw [show y287.length = y274.length from (Kd.R_reads' HO276.out).1.symm]; exact (Kd.R_reads' HO276.out).2.1); rintro e w40 ⟨rfl, hb⟩; refine ⟨_, rfl, ?_⟩; have n1_ := Aside0.mk (below_step (pB HB.out) hb); (try clear HO276); clear HB; have HB := n1_; clear n1_; (try clear hb); (try clear hb2); (try clear hk); (try clear hi)))
                      go_roundg k1
                      case measure => have := HK1.out; omega
                      case rel => exact ⟨(wrap64 (x1_1 + 1)), (by first | rfl | (simp; done) | (simp [*]; done)), H', ⟨by have := HK1.out; omega⟩, ⟨pB HB.out⟩⟩
                    · rw [if_neg c34] at H
                      have c34b0 : (t289 == 8) = false := beq_eq_false_iff_ne.mpr c34
                      have c34b1 : (t289 != 8) = true := bne_iff_ne.mpr c34
                      exact absurd H (by simp)
                  · rw [if_neg c33] at H
                    have c33b0 : (t290 == 8) = false := beq_eq_false_iff_ne.mpr c33
                    have c33b1 : (t290 != 8) = true := bne_iff_ne.mpr c33
                    exact absurd H (by simp)
                · rw [if_neg c29] at H
                  exact absurd H (by simp)
              · rw [if_neg c28] at H
                have c28b0 : (x1_1 == 2) = false := beq_eq_false_iff_ne.mpr c28
                have c28b1 : (x1_1 != 2) = true := bne_iff_ne.mpr c28
                by_cases c41 : x1_1 = 3
                · rw [if_pos c41] at H
                  have c41b0 : (x1_1 == 3) = true := beq_iff_eq.mpr c41
                  have c41b1 : (x1_1 != 3) = false := bne_eq_false_iff_eq.mpr c41
                  clear c41
                  by_cases c42 : 8 < (y274.length : Int)
                  · rw [if_pos c42] at H
                    have c42b0 : decide (8 < (y274.length : Int)) = true := decide_eq_true c42
                    have c42b1 : decide (8 < y274.length) = true := decide_eq_true (by omega)
                    clear c42
                    obtain ⟨y291, hy291⟩ : ∃ y_ : List (S71), y_ = (y274.set (8 : Int).toNat (⟨1, 0, true⟩ : S71)) := ⟨_, rfl⟩
                    replace H : ((probe_Find.f k1 y291 1).bind fun bt292 => ((probe_Check.f k1 y291).bind fun t294 => (if t294 = 8 then (if bt292.2 = 8 then (spigotlaw14_ProbeNames.l0 k1 (wrap64 (x1_1 + 1))) else (some false)) else (some false)))) = some true := by first | (rw [hy291]; with_reducible exact H) | (have H2_ := (Option.bind_some _ _).symm.trans H; rw [hy291]; with_reducible exact H2_) | (have H2_ := (Option.bind_some _ _).symm.trans H; with_reducible exact H2_) | with_reducible exact H | (rw [hy291]; exact H) | exact H
                    have Ny291 := Aside0.mk hy291
                    (try clear hy291)
                    replace H := Option.bind_eq_some_iff.mp H
                    obtain ⟨⟨t292, t293⟩, A440, H⟩ := H
                    replace H : ((probe_Check.f k1 y291).bind fun t294 => (if t294 = 8 then (if t293 = 8 then (spigotlaw14_ProbeNames.l0 k1 (wrap64 (x1_1 + 1))) else (some false)) else (some false))) = some true := H
                    have A44 := Aside0.mk A440
                    (try clear A440)
                    replace H := Option.bind_eq_some_iff.mp H
                    obtain ⟨t294, A450, H⟩ := H
                    replace H : (if t294 = 8 then (if t293 = 8 then (spigotlaw14_ProbeNames.l0 k1 (wrap64 (x1_1 + 1))) else (some false)) else (some false)) = some true := H
                    have A45 := Aside0.mk A450
                    (try clear A450)
                    by_cases c46 : t294 = 8
                    · rw [if_pos c46] at H
                      have c46b0 : (t294 == 8) = true := beq_iff_eq.mpr c46
                      have c46b1 : (t294 != 8) = false := bne_eq_false_iff_eq.mpr c46
                      clear c46
                      by_cases c47 : t293 = 8
                      · rw [if_pos c47] at H
                        have c47b0 : (t293 == 8) = true := beq_iff_eq.mpr c47
                        have c47b1 : (t293 != 8) = false := bne_eq_false_iff_eq.mpr c47
                        clear c47
                        have H' := Aside0.mk H
                        clear H
                        go_wp2_with (first | ((with_reducible refine gate_dst (N := 31) rfl ?_); (try (refine gate_guard (by rfl) ?_; dsimp only)); refine Kd.R_make k71 _ 71 rfl (N := 31) rfl 22 _ _ rfl 16 rfl rfl Try.underlying22 (.agg #[(.int .u32 0), (.int .i64 0), (.bool false)]) 24 info71 rfl (by decide) (by omega) z71 (ok := fun _ => True) (okp := fun _ => True) (k71_mkM _ _ _ z71 ) (fun _ hk => hk) trivial (by omega) (by omega) (Below.refl _ _) (Nat.le_refl _) ?_; intro v275 w48 ho49 hb hg_ hnew_; clear hg_ hnew_; (first | rw [← Ny274.out] at ho49 | (simp only [Int.reduceToNat] at ho49; rw [← Ny274.out] at ho49)); have n0_ := Aside0.mk (Kd.R_lower ho49 (below_size (pB HB.out))); have n1_ := Aside0.mk (below_step (pB HB.out) hb); clear HB; have HO276 := n0_; have HB := n1_; clear n0_ n1_; clear hb ho49; have p43 : 0 ≤ (8 : Int) := (by omega); have q43 : (8 : Int) < ((y274.length : Int) : Int) := od; have qi43 : (8 < y274.length) = True := eq_true (by omega); obtain ⟨go43, co43, eo43, gb43, gl43, cl43, HG43⟩ := Kd.R_form HO276.out (by omega); (first | cases eo43 | (injection eo43 with ea_ en_ ec_; (first | subst ea_ | (injection ea_ with ea_; subst ea_)); subst ec_; clear en_)); have GB43 := Aside0.mk gb43; have GG43 := Aside0.mk HG43; clear gb43 gl43 HG43; obtain ⟨ce43, hcl43, hM43, hcc43, hfr43⟩ := Kd.R_elem HO276.out z71 (8 : Int) p43 q43; obtain rfl := k71_openM hM43; have hx43_0 : w48.cell? ⟨go43, (8 : Int).toNat * 3, none⟩ = some (.int .u32 ((rd_T71 y274 8).f0)) := hcc43 0 _ rfl; have hx43_1 : w48.cell? ⟨go43, (8 : Int).toNat * 3 + 1, none⟩ = some (.int .i64 ((rd_T71 y274 8).f1)) := hcc43 1 _ rfl; have hx43_2 : w48.cell? ⟨go43, (8 : Int).toNat * 3 + 2, none⟩ = some (.bool ((rd_T71 y274 8).f2)) := hcc43 2 _ rfl; have hf43_0 : w48.frozen? ⟨go43, (8 : Int).toNat * 3, none⟩ = false := hfr43 0; have hf43_1 : w48.frozen? ⟨go43, (8 : Int).toNat * 3 + 1, none⟩ = false := hfr43 1; have hf43_2 : w48.frozen? ⟨go43, (8 : Int).toNat * 3 + 2, none⟩ = false := hfr43 2; clear hcl43 hcc43 hfr43 hM43; (try rw [show ((8 : Int)).toNat = 8 from rfl] at hx43_0); (try simp only [Nat.reduceMul, Nat.zero_mul, Nat.zero_add, Nat.reduceAdd] at hx43_0); (try rw [show ((8 : Int)).toNat = 8 from rfl] at hf43_0); (try simp only [Nat.reduceMul, Nat.zero_mul, Nat.zero_add, Nat.reduceAdd] at hf43_0); (try rw [show ((8 : Int)).toNat = 8 from rfl] at hx43_1); (try simp only [Nat.reduceMul, Nat.zero_mul, Nat.zero_add, Nat.reduceAdd] at hx43_1); (try rw [show ((8 : Int)).toNat = 8 from rfl] at hf43_1); (try simp only [Nat.reduceMul, Nat.zero_mul, Nat.zero_add, Nat.reduceAdd] at hf43_1); (try rw [show ((8 : Int)).toNat = 8 from rfl] at hx43_2); (try simp only [Nat.reduceMul, Nat.zero_mul, Nat.zero_add, Nat.reduceAdd] at hx43_2); (try rw [show ((8 : Int)).toNat = 8 from rfl] at hf43_2); (try simp only [Nat.reduceMul, Nat.zero_mul, Nat.zero_add, Nat.reduceAdd] at hf43_2); replace p43 := eq_true p43; replace q43 := eq_true q43; have HX50 := Aside0.mk (show Kd.R k71 71 w48 w.heap.size (fun _ => True) (.slice (some ⟨go43, 0, none⟩) y274.length co43) y274 from (Kd.pR HO276.out)); obtain ⟨ce50, hcl50, hM50, hcc50, hfr50⟩ := Kd.R_elem HX50.out z71 (8 : Int) (by omega) (by have h_ : (8 : Int) < ((y274.length : Int) : Int) := od; first | exact h_ | (have e_ := (Kd.R_reads' HO276.out).1; omega) | simpa using h_); obtain rfl := k71_openM hM50; have HP50 := Kd.R_seg HX50.out (8 : Int) (by omega) (by have h_ : (8 : Int) < ((y274.length : Int) : Int) := od; first | exact h_ | (have e_ := (Kd.R_reads' HO276.out).1; omega) | simpa using h_) (seg := [.int .u32 1, .int .i64 0, .bool true]) (j := 0) hcl50 hcc50 (show 3 ≤ 3 from by decide) (x' := (⟨1, 0, true⟩ : S71)) (k71_mkM _ _ _ (⟨1, 0, true⟩ : S71) ) (fun _ hk => hk); have hx50_0 := hcc50 0 _ rfl; (try simp only [show (k71).sz = 3 from rfl, Nat.mul_one, Nat.add_zero] at hx50_0); (try rw [show ((8 : Int)).toNat = 8 from rfl] at hx50_0); (try simp only [Nat.reduceMul, Nat.zero_mul, Nat.zero_add, Nat.reduceAdd] at hx50_0); have hf50_0 := hfr50 0; (try simp only [show (k71).sz = 3 from rfl, Nat.mul_one, Nat.add_zero] at hf50_0); (try rw [show ((8 : Int)).toNat = 8 from rfl] at hf50_0); (try simp only [Nat.reduceMul, Nat.zero_mul, Nat.zero_add, Nat.reduceAdd] at hf50_0); have hx50_1 := hcc50 1 _ rfl; (try simp only [show (k71).sz = 3 from rfl, Nat.mul_one, Nat.add_zero] at hx50_1); (try rw [show ((8 : Int)).toNat = 8 from rfl] at hx50_1); (try simp only [Nat.reduceMul, Nat.zero_mul, Nat.zero_add, Nat.reduceAdd] at hx50_1); have hf50_1 := hfr50 1; (try simp only [show (k71).sz = 3 from rfl, Nat.mul_one, Nat.add_zero] at hf50_1); (try rw [show ((8 : Int)).toNat = 8 from rfl] at hf50_1); (try simp only [Nat.reduceMul, Nat.zero_mul, Nat.zero_add, Nat.reduceAdd] at hf50_1); have hx50_2 := hcc50 2 _ rfl; (try simp only [show (k71).sz = 3 from rfl, Nat.mul_one, Nat.add_zero] at hx50_2); (try rw [show ((8 : Int)).toNat = 8 from rfl] at hx50_2); (try simp only [Nat.reduceMul, Nat.zero_mul, Nat.zero_add, Nat.reduceAdd] at hx50_2); have hf50_2 := hfr50 2; (try simp only [show (k71).sz = 3 from rfl, Nat.mul_one, Nat.add_zero] at hf50_2); (try rw [show ((8 : Int)).toNat = 8 from rfl] at hf50_2); (try simp only [Nat.reduceMul, Nat.zero_mul, Nat.zero_add, Nat.reduceAdd] at hf50_2); clear hcl50 hcc50 hfr50 hM50) | ((with_reducible refine gate_store (t := 71) (p := 51) rfl ?_); refine store_event (t := 71) (p := 51) (v := ?vo_w51) (w1 := (((w48.setCell ⟨go43, 24, none⟩ (.int .u32 1)).setCell ⟨go43, 25, none⟩ (.int .i64 0)).setCell ⟨go43, 26, none⟩ (.bool true))) ?hg ?ho ?hn ?hr ?_; (case ho => rfl); (case hg => rfl); (case hn => rfl); (case hr => first | (go_simp; done) | (go_simp; rfl)); intro w51 hw; have hg : w48.grownBy w51 (some go43) := (by rw [hw]; exact HP50.2); have hp_ : Kd.R k71 71 w51 w.heap.size (fun _ => True) (.slice (some ⟨go43, 0, none⟩) y274.length co43) y291 := (by rw [hw, Ny291.out]; exact HP50.1); (try clear HP50); have n0_ := Aside0.mk (hp_); have n1_ := Aside0.mk ((by rw [hw]; exact below_set (below_set (below_set (HB.out) GB43.out) GB43.out) GB43.out : Below w.heap.size w w51)); clear HO276; clear HB; have HO276 := n0_; have HB := n1_; clear n0_ n1_; clear hg hw hp_) | ((with_reducible refine gate_callee (f := 14) rfl ?_); refine goesL_ (some 72) rfl rfl Try.func14 (by kernel_rfl) rfl #[.slice (some ⟨go43, 0, none⟩) y291.length co43, .int .u32 1] rfl (by (try simp only [List.map_toArray, List.map_cons, List.map_nil]); first | done | (rw [show y291.length = y274.length from (Kd.R_reads' HO276.out).1.symm] <;> rfl) | rfl | (simp only [List.length_drop, List.length_take]; rfl)) ?_; (with_reducible refine (probe_Find.calls k1 _ _ y291 1 t292 t293 _ ?side1 ?side2 A44.out).mono ?_); (case side1 => exact Kd.pC ((Kd.R_reads' HO276.out).2.2)); (case side2 => rw [show y291.length = y274.length from (Kd.R_reads' HO276.out).1.symm]; exact (Kd.R_reads' HO276.out).2.1); rintro e w52 ⟨rfl, hb⟩; refine ⟨_, rfl, ?_⟩; have n0_ := Aside0.mk (Kd.R_below (Kd.pR HO276.out) hb); have n1_ := Aside0.mk (below_step (pB HB.out) hb); clear HO276; clear HB; have HO276 := n0_; have HB := n1_; clear n0_ n1_; (try clear hb); (try clear hb2); (try clear hk); (try clear hi)) | ((with_reducible refine gate_callee (f := 20) rfl ?_); refine goesL_ (some 76) rfl rfl Try.func20 (by kernel_rfl) rfl #[.slice (some ⟨go43, 0, none⟩) y291.length co43] rfl (by (try simp only [List.map_toArray, List.map_cons, List.map_nil]); first | done | (rw [show y291.length = y274.length from (Kd.R_reads' HO276.out).1.symm] <;> rfl) | rfl | (simp only [List.length_drop, List.length_take]; rfl)) ?_; (with_reducible refine (probe_Check.calls k1 _ _ y291 t294 _ ?side1 ?side2 A45.out).mono ?_); (case side1 => exact Kd.pC ((Kd.R_reads' HO276.out).2.2)); (case side2 => rw [show y291.length = y274.length from (Kd.R_reads' HO276.out).1.symm]; exact (Kd.R_reads' HO276.out).2.1); rintro e w53 ⟨rfl, hb⟩; refine ⟨_, rfl, ?_⟩; have n1_ := Aside0.mk (below_step (pB HB.out) hb); (try clear HO276); clear HB; have HB := n1_; clear n1_; (try clear hb); (try clear hb2); (try clear hk); (try clear hi)))
                        go_roundg k1
                        case measure => have := HK1.out; omega
                        case rel => exact ⟨(wrap64 (x1_1 + 1)), (by first | rfl | (simp; done) | (simp [*]; done)), H', ⟨by have := HK1.out; omega⟩, ⟨pB HB.out⟩⟩
                      · rw [if_neg c47] at H
                        have c47b0 : (t293 == 8) = false := beq_eq_false_iff_ne.mpr c47
                        have c47b1 : (t293 != 8) = true := bne_iff_ne.mpr c47
                        exact absurd H (by simp)
                    · rw [if_neg c46] at H
                      have c46b0 : (t294 == 8) = false := beq_eq_false_iff_ne.mpr c46
                      have c46b1 : (t294 != 8) = true := bne_iff_ne.mpr c46
                      exact absurd H (by simp)
                  · rw [if_neg c42] at H
                    exact absurd H (by simp)
                · rw [if_neg c41] at H
                  have c41b0 : (x1_1 == 3) = false := beq_eq_false_iff_ne.mpr c41
                  have c41b1 : (x1_1 != 3) = true := bne_iff_ne.mpr c41
                  by_cases c54 : x1_1 = 4
                  · rw [if_pos c54] at H
                    have c54b0 : (x1_1 == 4) = true := beq_iff_eq.mpr c54
                    have c54b1 : (x1_1 != 4) = false := bne_eq_false_iff_eq.mpr c54
                    clear c54
                    by_cases c55 : 9 < (y274.length : Int)
                    · rw [if_pos c55] at H
                      have c55b0 : decide (9 < (y274.length : Int)) = true := decide_eq_true c55
                      have c55b1 : decide (9 < y274.length) = true := decide_eq_true (by omega)
                      clear c55
                      obtain ⟨y295, hy295⟩ : ∃ y_ : List (S71), y_ = (y274.set (9 : Int).toNat (⟨1, 16, true⟩ : S71)) := ⟨_, rfl⟩
                      replace H : ((probe_Find.f k1 y295 1).bind fun bt296 => ((probe_Check.f k1 y295).bind fun t298 => (if t298 = 8 then (if bt296.2 = 8 then (spigotlaw14_ProbeNames.l0 k1 (wrap64 (x1_1 + 1))) else (some false)) else (some false)))) = some true := by first | (rw [hy295]; with_reducible exact H) | (have H2_ := (Option.bind_some _ _).symm.trans H; rw [hy295]; with_reducible exact H2_) | (have H2_ := (Option.bind_some _ _).symm.trans H; with_reducible exact H2_) | with_reducible exact H | (rw [hy295]; exact H) | exact H
                      have Ny295 := Aside0.mk hy295
                      (try clear hy295)
                      replace H := Option.bind_eq_some_iff.mp H
                      obtain ⟨⟨t296, t297⟩, A570, H⟩ := H
                      replace H : ((probe_Check.f k1 y295).bind fun t298 => (if t298 = 8 then (if t297 = 8 then (spigotlaw14_ProbeNames.l0 k1 (wrap64 (x1_1 + 1))) else (some false)) else (some false))) = some true := H
                      have A57 := Aside0.mk A570
                      (try clear A570)
                      replace H := Option.bind_eq_some_iff.mp H
                      obtain ⟨t298, A580, H⟩ := H
                      replace H : (if t298 = 8 then (if t297 = 8 then (spigotlaw14_ProbeNames.l0 k1 (wrap64 (x1_1 + 1))) else (some false)) else (some false)) = some true := H
                      have A58 := Aside0.mk A580
                      (try clear A580)
                      by_cases c59 : t298 = 8
                      · rw [if_pos c59] at H
                        have c59b0 : (t298 == 8) = true := beq_iff_eq.mpr c59
                        have c59b1 : (t298 != 8) = false := bne_eq_false_iff_eq.mpr c59
                        clear c59
                        by_cases c60 : t297 = 8
                        · rw [if_pos c60] at H
                          have c60b0 : (t297 == 8) = true := beq_iff_eq.mpr c60
                          have c60b1 : (t297 != 8) = false := bne_eq_false_iff_eq.mpr c60
                          clear c60
                          have H' := Aside0.mk H
                          clear H
                          go_wp2_with (first | ((with_reducible refine gate_dst (N := 31) rfl ?_); (try (refine gate_guard (by rfl) ?_; dsimp only)); refine Kd.R_make k71 _ 71 rfl (N := 31) rfl 22 _ _ rfl 16 rfl rfl Try.underlying22 (.agg #[(.int .u32 0), (.int .i64 0), (.bool false)]) 24 info71 rfl (by decide) (by omega) z71 (ok := fun _ => True) (okp := fun _ => True) (k71_mkM _ _ _ z71 ) (fun _ hk => hk) trivial (by omega) (by omega) (Below.refl _ _) (Nat.le_refl _) ?_; intro v275 w61 ho62 hb hg_ hnew_; clear hg_ hnew_; (first | rw [← Ny274.out] at ho62 | (simp only [Int.reduceToNat] at ho62; rw [← Ny274.out] at ho62)); have n0_ := Aside0.mk (Kd.R_lower ho62 (below_size (pB HB.out))); have n1_ := Aside0.mk (below_step (pB HB.out) hb); clear HB; have HO276 := n0_; have HB := n1_; clear n0_ n1_; clear hb ho62; have p56 : 0 ≤ (9 : Int) := (by omega); have q56 : (9 : Int) < ((y274.length : Int) : Int) := od; have qi56 : (9 < y274.length) = True := eq_true (by omega); obtain ⟨go56, co56, eo56, gb56, gl56, cl56, HG56⟩ := Kd.R_form HO276.out (by omega); (first | cases eo56 | (injection eo56 with ea_ en_ ec_; (first | subst ea_ | (injection ea_ with ea_; subst ea_)); subst ec_; clear en_)); have GB56 := Aside0.mk gb56; have GG56 := Aside0.mk HG56; clear gb56 gl56 HG56; obtain ⟨ce56, hcl56, hM56, hcc56, hfr56⟩ := Kd.R_elem HO276.out z71 (9 : Int) p56 q56; obtain rfl := k71_openM hM56; have hx56_0 : w61.cell? ⟨go56, (9 : Int).toNat * 3, none⟩ = some (.int .u32 ((rd_T71 y274 9).f0)) := hcc56 0 _ rfl; have hx56_1 : w61.cell? ⟨go56, (9 : Int).toNat * 3 + 1, none⟩ = some (.int .i64 ((rd_T71 y274 9).f1)) := hcc56 1 _ rfl; have hx56_2 : w61.cell? ⟨go56, (9 : Int).toNat * 3 + 2, none⟩ = some (.bool ((rd_T71 y274 9).f2)) := hcc56 2 _ rfl; have hf56_0 : w61.frozen? ⟨go56, (9 : Int).toNat * 3, none⟩ = false := hfr56 0; have hf56_1 : w61.frozen? ⟨go56, (9 : Int).toNat * 3 + 1, none⟩ = false := hfr56 1; have hf56_2 : w61.frozen? ⟨go56, (9 : Int).toNat * 3 + 2, none⟩ = false := hfr56 2; clear hcl56 hcc56 hfr56 hM56; (try rw [show ((9 : Int)).toNat = 9 from rfl] at hx56_0); (try simp only [Nat.reduceMul, Nat.zero_mul, Nat.zero_add, Nat.reduceAdd] at hx56_0); (try rw [show ((9 : Int)).toNat = 9 from rfl] at hf56_0); (try simp only [Nat.reduceMul, Nat.zero_mul, Nat.zero_add, Nat.reduceAdd] at hf56_0); (try rw [show ((9 : Int)).toNat = 9 from rfl] at hx56_1); (try simp only [Nat.reduceMul, Nat.zero_mul, Nat.zero_add, Nat.reduceAdd] at hx56_1); (try rw [show ((9 : Int)).toNat = 9 from rfl] at hf56_1); (try simp only [Nat.reduceMul, Nat.zero_mul, Nat.zero_add, Nat.reduceAdd] at hf56_1); (try rw [show ((9 : Int)).toNat = 9 from rfl] at hx56_2); (try simp only [Nat.reduceMul, Nat.zero_mul, Nat.zero_add, Nat.reduceAdd] at hx56_2); (try rw [show ((9 : Int)).toNat = 9 from rfl] at hf56_2); (try simp only [Nat.reduceMul, Nat.zero_mul, Nat.zero_add, Nat.reduceAdd] at hf56_2); replace p56 := eq_true p56; replace q56 := eq_true q56; have HX63 := Aside0.mk (show Kd.R k71 71 w61 w.heap.size (fun _ => True) (.slice (some ⟨go56, 0, none⟩) y274.length co56) y274 from (Kd.pR HO276.out)); obtain ⟨ce63, hcl63, hM63, hcc63, hfr63⟩ := Kd.R_elem HX63.out z71 (9 : Int) (by omega) (by have h_ : (9 : Int) < ((y274.length : Int) : Int) := od; first | exact h_ | (have e_ := (Kd.R_reads' HO276.out).1; omega) | simpa using h_); obtain rfl := k71_openM hM63; have HP63 := Kd.R_seg HX63.out (9 : Int) (by omega) (by have h_ : (9 : Int) < ((y274.length : Int) : Int) := od; first | exact h_ | (have e_ := (Kd.R_reads' HO276.out).1; omega) | simpa using h_) (seg := [.int .u32 1, .int .i64 16, .bool true]) (j := 0) hcl63 hcc63 (show 3 ≤ 3 from by decide) (x' := (⟨1, 16, true⟩ : S71)) (k71_mkM _ _ _ (⟨1, 16, true⟩ : S71) ) (fun _ hk => hk); have hx63_0 := hcc63 0 _ rfl; (try simp only [show (k71).sz = 3 from rfl, Nat.mul_one, Nat.add_zero] at hx63_0); (try rw [show ((9 : Int)).toNat = 9 from rfl] at hx63_0); (try simp only [Nat.reduceMul, Nat.zero_mul, Nat.zero_add, Nat.reduceAdd] at hx63_0); have hf63_0 := hfr63 0; (try simp only [show (k71).sz = 3 from rfl, Nat.mul_one, Nat.add_zero] at hf63_0); (try rw [show ((9 : Int)).toNat = 9 from rfl] at hf63_0); (try simp only [Nat.reduceMul, Nat.zero_mul, Nat.zero_add, Nat.reduceAdd] at hf63_0); have hx63_1 := hcc63 1 _ rfl; (try simp only [show (k71).sz = 3 from rfl, Nat.mul_one, Nat.add_zero] at hx63_1); (try rw [show ((9 : Int)).toNat = 9 from rfl] at hx63_1); (try simp only [Nat.reduceMul, Nat.zero_mul, Nat.zero_add, Nat.reduceAdd] at hx63_1); have hf63_1 := hfr63 1; (try simp only [show (k71).sz = 3 from rfl, Nat.mul_one, Nat.add_zero] at hf63_1); (try rw [show ((9 : Int)).toNat = 9 from rfl] at hf63_1); (try simp only [Nat.reduceMul, Nat.zero_mul, Nat.zero_add, Nat.reduceAdd] at hf63_1); have hx63_2 := hcc63 2 _ rfl; (try simp only [show (k71).sz = 3 from rfl, Nat.mul_one, Nat.add_zero] at hx63_2); (try rw [show ((9 : Int)).toNat = 9 from rfl] at hx63_2); (try simp only [Nat.reduceMul, Nat.zero_mul, Nat.zero_add, Nat.reduceAdd] at hx63_2); have hf63_2 := hfr63 2; (try simp only [show (k71).sz = 3 from rfl, Nat.mul_one, Nat.add_zero] at hf63_2); (try rw [show ((9 : Int)).toNat = 9 from rfl] at hf63_2); (try simp only [Nat.reduceMul, Nat.zero_mul, Nat.zero_add, Nat.reduceAdd] at hf63_2); clear hcl63 hcc63 hfr63 hM63) | ((with_reducible refine gate_store (t := 71) (p := 56) rfl ?_); refine store_event (t := 71) (p := 56) (v := ?vo_w64) (w1 := (((w61.setCell ⟨go56, 27, none⟩ (.int .u32 1)).setCell ⟨go56, 28, none⟩ (.int .i64 16)).setCell ⟨go56, 29, none⟩ (.bool true))) ?hg ?ho ?hn ?hr ?_; (case ho => rfl); (case hg => rfl); (case hn => rfl); (case hr => first | (go_simp; done) | (go_simp; rfl)); intro w64 hw; have hg : w61.grownBy w64 (some go56) := (by rw [hw]; exact HP63.2); have hp_ : Kd.R k71 71 w64 w.heap.size (fun _ => True) (.slice (some ⟨go56, 0, none⟩) y274.length co56) y295 := (by rw [hw, Ny295.out]; exact HP63.1); (try clear HP63); have n0_ := Aside0.mk (hp_); have n1_ := Aside0.mk ((by rw [hw]; exact below_set (below_set (below_set (HB.out) GB56.out) GB56.out) GB56.out : Below w.heap.size w w64)); clear HO276; clear HB; have HO276 := n0_; have HB := n1_; clear n0_ n1_; clear hg hw hp_) | ((with_reducible refine gate_callee (f := 14) rfl ?_); refine goesL_ (some 72) rfl rfl Try.func14 (by kernel_rfl) rfl #[.slice (some ⟨go56, 0, none⟩) y295.length co56, .int .u32 1] rfl (by (try simp only [List.map_toArray, List.map_cons, List.map_nil]); first | done | (rw [show y295.length = y274.length from (Kd.R_reads' HO276.out).1.symm] <;> rfl) | rfl | (simp only [List.length_drop, List.length_take]; rfl)) ?_; (with_reducible refine (probe_Find.calls k1 _ _ y295 1 t296 t297 _ ?side1 ?side2 A57.out).mono ?_); (case side1 => exact Kd.pC ((Kd.R_reads' HO276.out).2.2)); (case side2 => rw [show y295.length = y274.length from (Kd.R_reads' HO276.out).1.symm]; exact (Kd.R_reads' HO276.out).2.1); rintro e w65 ⟨rfl, hb⟩; refine ⟨_, rfl, ?_⟩; have n0_ := Aside0.mk (Kd.R_below (Kd.pR HO276.out) hb); have n1_ := Aside0.mk (below_step (pB HB.out) hb); clear HO276; clear HB; have HO276 := n0_; have HB := n1_; clear n0_ n1_; (try clear hb); (try clear hb2); (try clear hk); (try clear hi)) | ((with_reducible refine gate_callee (f := 20) rfl ?_); refine goesL_ (some 76) rfl rfl Try.func20 (by kernel_rfl) rfl #[.slice (some ⟨go56, 0, none⟩) y295.length co56] rfl (by (try simp only [List.map_toArray, List.map_cons, List.map_nil]); first | done | (rw [show y295.length = y274.length from (Kd.R_reads' HO276.out).1.symm] <;> rfl) | rfl | (simp only [List.length_drop, List.length_take]; rfl)) ?_; (with_reducible refine (probe_Check.calls k1 _ _ y295 t298 _ ?side1 ?side2 A58.out).mono ?_); (case side1 => exact Kd.pC ((Kd.R_reads' HO276.out).2.2)); (case side2 => rw [show y295.length = y274.length from (Kd.R_reads' HO276.out).1.symm]; exact (Kd.R_reads' HO276.out).2.1); rintro e w66 ⟨rfl, hb⟩; refine ⟨_, rfl, ?_⟩; have n1_ := Aside0.mk (below_step (pB HB.out) hb); (try clear HO276); clear HB; have HB := n1_; clear n1_; (try clear hb); (try clear hb2); (try clear hk); (try clear hi)))
                          go_roundg k1
                          case measure => have := HK1.out; omega
                          case rel => exact ⟨(wrap64 (x1_1 + 1)), (by first | rfl | (simp; done) | (simp [*]; done)), H', ⟨by have := HK1.out; omega⟩, ⟨pB HB.out⟩⟩
                        · rw [if_neg c60] at H
                          have c60b0 : (t297 == 8) = false := beq_eq_false_iff_ne.mpr c60
                          have c60b1 : (t297 != 8) = true := bne_iff_ne.mpr c60
                          exact absurd H (by simp)
                      · rw [if_neg c59] at H
                        have c59b0 : (t298 == 8) = false := beq_eq_false_iff_ne.mpr c59
                        have c59b1 : (t298 != 8) = true := bne_iff_ne.mpr c59
                        exact absurd H (by simp)
                    · rw [if_neg c55] at H
                      exact absurd H (by simp)
                  · rw [if_neg c54] at H
                    have c54b0 : (x1_1 == 4) = false := beq_eq_false_iff_ne.mpr c54
                    have c54b1 : (x1_1 != 4) = true := bne_iff_ne.mpr c54
                    by_cases c67 : x1_1 = 5
                    · rw [if_pos c67] at H
                      have c67b0 : (x1_1 == 5) = true := beq_iff_eq.mpr c67
                      have c67b1 : (x1_1 != 5) = false := bne_eq_false_iff_eq.mpr c67
                      clear c67
                      by_cases c68 : 9 < (y274.length : Int)
                      · rw [if_pos c68] at H
                        have c68b0 : decide (9 < (y274.length : Int)) = true := decide_eq_true c68
                        have c68b1 : decide (9 < y274.length) = true := decide_eq_true (by omega)
                        clear c68
                        obtain ⟨y299, hy299⟩ : ∃ y_ : List (S71), y_ = (y274.set (9 : Int).toNat (⟨1, 0, true⟩ : S71)) := ⟨_, rfl⟩
                        replace H : (if 10 < (y274.length : Int) then ((some (y299.set (10 : Int).toNat (⟨1, 2, true⟩ : S71) : List (S71))).bind fun y300 => ((probe_Find.f k1 y300 1).bind fun bt301 => ((probe_Check.f k1 y300).bind fun t303 => (if t303 = 8 then (if bt301.2 = 8 then (spigotlaw14_ProbeNames.l0 k1 (wrap64 (x1_1 + 1))) else (some false)) else (some false))))) else (none)) = some true := by first | (rw [hy299]; with_reducible exact H) | (have H2_ := (Option.bind_some _ _).symm.trans H; rw [hy299]; with_reducible exact H2_) | (have H2_ := (Option.bind_some _ _).symm.trans H; with_reducible exact H2_) | with_reducible exact H | (rw [hy299]; exact H) | exact H
                        have Ny299 := Aside0.mk hy299
                        (try clear hy299)
                        by_cases c70 : 10 < (y274.length : Int)
                        · rw [if_pos c70] at H
                          have c70b0 : decide (10 < (y274.length : Int)) = true := decide_eq_true c70
                          have c70b1 : decide (10 < y274.length) = true := decide_eq_true (by omega)
                          clear c70
                          obtain ⟨y300, hy300⟩ : ∃ y_ : List (S71), y_ = (y299.set (10 : Int).toNat (⟨1, 2, true⟩ : S71)) := ⟨_, rfl⟩
                          replace H : ((probe_Find.f k1 y300 1).bind fun bt301 => ((probe_Check.f k1 y300).bind fun t303 => (if t303 = 8 then (if bt301.2 = 8 then (spigotlaw14_ProbeNames.l0 k1 (wrap64 (x1_1 + 1))) else (some false)) else (some false)))) = some true := by first | (rw [hy300]; with_reducible exact H) | (have H2_ := (Option.bind_some _ _).symm.trans H; rw [hy300]; with_reducible exact H2_) | (have H2_ := (Option.bind_some _ _).symm.trans H; with_reducible exact H2_) | with_reducible exact H | (rw [hy300]; exact H) | exact H
                          have Ny300 := Aside0.mk hy300
                          (try clear hy300)
                          replace H := Option.bind_eq_some_iff.mp H
                          obtain ⟨⟨t301, t302⟩, A720, H⟩ := H
                          replace H : ((probe_Check.f k1 y300).bind fun t303 => (if t303 = 8 then (if t302 = 8 then (spigotlaw14_ProbeNames.l0 k1 (wrap64 (x1_1 + 1))) else (some false)) else (some false))) = some true := H
                          have A72 := Aside0.mk A720
                          (try clear A720)
                          replace H := Option.bind_eq_some_iff.mp H
                          obtain ⟨t303, A730, H⟩ := H
                          replace H : (if t303 = 8 then (if t302 = 8 then (spigotlaw14_ProbeNames.l0 k1 (wrap64 (x1_1 + 1))) else (some false)) else (some false)) = some true := H
                          have A73 := Aside0.mk A730
                          (try clear A730)
                          by_cases c74 : t303 = 8
                          · rw [if_pos c74] at H
                            have c74b0 : (t303 == 8) = true := beq_iff_eq.mpr c74
                            have c74b1 : (t303 != 8) = false := bne_eq_false_iff_eq.mpr c74
                            clear c74
                            by_cases c75 : t302 = 8
                            · rw [if_pos c75] at H
                              have c75b0 : (t302 == 8) = true := beq_iff_eq.mpr c75
                              have c75b1 : (t302 != 8) = false := bne_eq_false_iff_eq.mpr c75
                              clear c75
                              have H' := Aside0.mk H
                              clear H
                              go_wp2_with (first | ((with_reducible refine gate_dst (N := 31) rfl ?_); (try (refine gate_guard (by rfl) ?_; dsimp only)); refine Kd.R_make k71 _ 71 rfl (N := 31) rfl 22 _ _ rfl 16 rfl rfl Try.underlying22 (.agg #[(.int .u32 0), (.int .i64 0), (.bool false)]) 24 info71 rfl (by decide) (by omega) z71 (ok := fun _ => True) (okp := fun _ => True) (k71_mkM _ _ _ z71 ) (fun _ hk => hk) trivial (by omega) (by omega) (Below.refl _ _) (Nat.le_refl _) ?_; intro v275 w76 ho77 hb hg_ hnew_; clear hg_ hnew_; (first | rw [← Ny274.out] at ho77 | (simp only [Int.reduceToNat] at ho77; rw [← Ny274.out] at ho77)); have n0_ := Aside0.mk (Kd.R_lower ho77 (below_size (pB HB.out))); have n1_ := Aside0.mk (below_step (pB HB.out) hb); clear HB; have HO276 := n0_; have HB := n1_; clear n0_ n1_; clear hb ho77; have p69 : 0 ≤ (9 : Int) := (by omega); have q69 : (9 : Int) < ((y274.length : Int) : Int) := od; have qi69 : (9 < y274.length) = True := eq_true (by omega); obtain ⟨go69, co69, eo69, gb69, gl69, cl69, HG69⟩ := Kd.R_form HO276.out (by omega); (first | cases eo69 | (injection eo69 with ea_ en_ ec_; (first | subst ea_ | (injection ea_ with ea_; subst ea_)); subst ec_; clear en_)); have GB69 := Aside0.mk gb69; have GG69 := Aside0.mk HG69; clear gb69 gl69 HG69; obtain ⟨ce69, hcl69, hM69, hcc69, hfr69⟩ := Kd.R_elem HO276.out z71 (9 : Int) p69 q69; obtain rfl := k71_openM hM69; have hx69_0 : w76.cell? ⟨go69, (9 : Int).toNat * 3, none⟩ = some (.int .u32 ((rd_T71 y274 9).f0)) := hcc69 0 _ rfl; have hx69_1 : w76.cell? ⟨go69, (9 : Int).toNat * 3 + 1, none⟩ = some (.int .i64 ((rd_T71 y274 9).f1)) := hcc69 1 _ rfl; have hx69_2 : w76.cell? ⟨go69, (9 : Int).toNat * 3 + 2, none⟩ = some (.bool ((rd_T71 y274 9).f2)) := hcc69 2 _ rfl; have hf69_0 : w76.frozen? ⟨go69, (9 : Int).toNat * 3, none⟩ = false := hfr69 0; have hf69_1 : w76.frozen? ⟨go69, (9 : Int).toNat * 3 + 1, none⟩ = false := hfr69 1; have hf69_2 : w76.frozen? ⟨go69, (9 : Int).toNat * 3 + 2, none⟩ = false := hfr69 2; clear hcl69 hcc69 hfr69 hM69; (try rw [show ((9 : Int)).toNat = 9 from rfl] at hx69_0); (try simp only [Nat.reduceMul, Nat.zero_mul, Nat.zero_add, Nat.reduceAdd] at hx69_0); (try rw [show ((9 : Int)).toNat = 9 from rfl] at hf69_0); (try simp only [Nat.reduceMul, Nat.zero_mul, Nat.zero_add, Nat.reduceAdd] at hf69_0); (try rw [show ((9 : Int)).toNat = 9 from rfl] at hx69_1); (try simp only [Nat.reduceMul, Nat.zero_mul, Nat.zero_add, Nat.reduceAdd] at hx69_1); (try rw [show ((9 : Int)).toNat = 9 from rfl] at hf69_1); (try simp only [Nat.reduceMul, Nat.zero_mul, Nat.zero_add, Nat.reduceAdd] at hf69_1); (try rw [show ((9 : Int)).toNat = 9 from rfl] at hx69_2); (try simp only [Nat.reduceMul, Nat.zero_mul, Nat.zero_add, Nat.reduceAdd] at hx69_2); (try rw [show ((9 : Int)).toNat = 9 from rfl] at hf69_2); (try simp only [Nat.reduceMul, Nat.zero_mul, Nat.zero_add, Nat.reduceAdd] at hf69_2); replace p69 := eq_true p69; replace q69 := eq_true q69; have HX78 := Aside0.mk (show Kd.R k71 71 w76 w.heap.size (fun _ => True) (.slice (some ⟨go69, 0, none⟩) y274.length co69) y274 from (Kd.pR HO276.out)); obtain ⟨ce78, hcl78, hM78, hcc78, hfr78⟩ := Kd.R_elem HX78.out z71 (9 : Int) (by omega) (by have h_ : (9 : Int) < ((y274.length : Int) : Int) := od; first | exact h_ | (have e_ := (Kd.R_reads' HO276.out).1; omega) | simpa using h_); obtain rfl := k71_openM hM78; have HP78 := Kd.R_seg HX78.out (9 : Int) (by omega) (by have h_ : (9 : Int) < ((y274.length : Int) : Int) := od; first | exact h_ | (have e_ := (Kd.R_reads' HO276.out).1; omega) | simpa using h_) (seg := [.int .u32 1, .int .i64 0, .bool true]) (j := 0) hcl78 hcc78 (show 3 ≤ 3 from by decide) (x' := (⟨1, 0, true⟩ : S71)) (k71_mkM _ _ _ (⟨1, 0, true⟩ : S71) ) (fun _ hk => hk); have hx78_0 := hcc78 0 _ rfl; (try simp only [show (k71).sz = 3 from rfl, Nat.mul_one, Nat.add_zero] at hx78_0); (try rw [show ((9 : Int)).toNat = 9 from rfl] at hx78_0); (try simp only [Nat.reduceMul, Nat.zero_mul, Nat.zero_add, Nat.reduceAdd] at hx78_0); have hf78_0 := hfr78 0; (try simp only [show (k71).sz = 3 from rfl, Nat.mul_one, Nat.add_zero] at hf78_0); (try rw [show ((9 : Int)).toNat = 9 from rfl] at hf78_0); (try simp only [Nat.reduceMul, Nat.zero_mul, Nat.zero_add, Nat.reduceAdd] at hf78_0); have hx78_1 := hcc78 1 _ rfl; (try simp only [show (k71).sz = 3 from rfl, Nat.mul_one, Nat.add_zero] at hx78_1); (try rw [show ((9 : Int)).toNat = 9 from rfl] at hx78_1); (try simp only [Nat.reduceMul, Nat.zero_mul, Nat.zero_add, Nat.reduceAdd] at hx78_1); have hf78_1 := hfr78 1; (try simp only [show (k71).sz = 3 from rfl, Nat.mul_one, Nat.add_zero] at hf78_1); (try rw [show ((9 : Int)).toNat = 9 from rfl] at hf78_1); (try simp only [Nat.reduceMul, Nat.zero_mul, Nat.zero_add, Nat.reduceAdd] at hf78_1); have hx78_2 := hcc78 2 _ rfl; (try simp only [show (k71).sz = 3 from rfl, Nat.mul_one, Nat.add_zero] at hx78_2); (try rw [show ((9 : Int)).toNat = 9 from rfl] at hx78_2); (try simp only [Nat.reduceMul, Nat.zero_mul, Nat.zero_add, Nat.reduceAdd] at hx78_2); have hf78_2 := hfr78 2; (try simp only [show (k71).sz = 3 from rfl, Nat.mul_one, Nat.add_zero] at hf78_2); (try rw [show ((9 : Int)).toNat = 9 from rfl] at hf78_2); (try simp only [Nat.reduceMul, Nat.zero_mul, Nat.zero_add, Nat.reduceAdd] at hf78_2); clear hcl78 hcc78 hfr78 hM78) | ((with_reducible refine gate_store (t := 71) (p := 63) rfl ?_); refine store_event (t := 71) (p := 63) (v := ?vo_w79) (w1 := (((w76.setCell ⟨go69, 27, none⟩ (.int .u32 1)).setCell ⟨go69, 28, none⟩ (.int .i64 0)).setCell ⟨go69, 29, none⟩ (.bool true))) ?hg ?ho ?hn ?hr ?_; (case ho => rfl); (case hg => rfl); (case hn => rfl); (case hr => first | (go_simp; done) | (go_simp; rfl)); intro w79 hw; have hg : w76.grownBy w79 (some go69) := (by rw [hw]; exact HP78.2); have hp_ : Kd.R k71 71 w79 w.heap.size (fun _ => True) (.slice (some ⟨go69, 0, none⟩) y274.length co69) y299 := (by rw [hw, Ny299.out]; exact HP78.1); (try clear HP78); have n0_ := Aside0.mk (hp_); have n1_ := Aside0.mk ((by rw [hw]; exact below_set (below_set (below_set (HB.out) GB69.out) GB69.out) GB69.out : Below w.heap.size w w79)); clear HO276; clear HB; have HO276 := n0_; have HB := n1_; clear n0_ n1_; clear hg hw hp_; have p71 : 0 ≤ (10 : Int) := (by omega); have q71 : (10 : Int) < ((y274.length : Int) : Int) := od; have qi71 : (10 < y274.length) = True := eq_true (by omega); obtain ⟨ce71, hcl71, hM71, hcc71, hfr71⟩ := Kd.R_elem HO276.out z71 (10 : Int) p71 q71; obtain rfl := k71_openM hM71; have hx71_0 : w79.cell? ⟨go69, (10 : Int).toNat * 3, none⟩ = some (.int .u32 ((rd_T71 y299 10).f0)) := hcc71 0 _ rfl; have hx71_1 : w79.cell? ⟨go69, (10 : Int).toNat * 3 + 1, none⟩ = some (.int .i64 ((rd_T71 y299 10).f1)) := hcc71 1 _ rfl; have hx71_2 : w79.cell? ⟨go69, (10 : Int).toNat * 3 + 2, none⟩ = some (.bool ((rd_T71 y299 10).f2)) := hcc71 2 _ rfl; have hf71_0 : w79.frozen? ⟨go69, (10 : Int).toNat * 3, none⟩ = false := hfr71 0; have hf71_1 : w79.frozen? ⟨go69, (10 : Int).toNat * 3 + 1, none⟩ = false := hfr71 1; have hf71_2 : w79.frozen? ⟨go69, (10 : Int).toNat * 3 + 2, none⟩ = false := hfr71 2; clear hcl71 hcc71 hfr71 hM71; (try rw [show ((10 : Int)).toNat = 10 from rfl] at hx71_0); (try simp only [Nat.reduceMul, Nat.zero_mul, Nat.zero_add, Nat.reduceAdd] at hx71_0); (try rw [show ((10 : Int)).toNat = 10 from rfl] at hf71_0); (try simp only [Nat.reduceMul, Nat.zero_mul, Nat.zero_add, Nat.reduceAdd] at hf71_0); (try rw [show ((10 : Int)).toNat = 10 from rfl] at hx71_1); (try simp only [Nat.reduceMul, Nat.zero_mul, Nat.zero_add, Nat.reduceAdd] at hx71_1); (try rw [show ((10 : Int)).toNat = 10 from rfl] at hf71_1); (try simp only [Nat.reduceMul, Nat.zero_mul, Nat.zero_add, Nat.reduceAdd] at hf71_1); (try rw [show ((10 : Int)).toNat = 10 from rfl] at hx71_2); (try simp only [Nat.reduceMul, Nat.zero_mul, Nat.zero_add, Nat.reduceAdd] at hx71_2); (try rw [show ((10 : Int)).toNat = 10 from rfl] at hf71_2); (try simp only [Nat.reduceMul, Nat.zero_mul, Nat.zero_add, Nat.reduceAdd] at hf71_2); replace p71 := eq_true p71; replace q71 := eq_true q71; have HX80 := Aside0.mk (show Kd.R k71 71 w79 w.heap.size (fun _ => True) (.slice (some ⟨go69, 0, none⟩) y274.length co69) y299 from (Kd.pR HO276.out)); obtain ⟨ce80, hcl80, hM80, hcc80, hfr80⟩ := Kd.R_elem HX80.out z71 (10 : Int) (by omega) (by have h_ : (10 : Int) < ((y274.length : Int) : Int) := od; first | exact h_ | (have e_ := (Kd.R_reads' HO276.out).1; omega) | simpa using h_); obtain rfl := k71_openM hM80; have HP80 := Kd.R_seg HX80.out (10 : Int) (by omega) (by have h_ : (10 : Int) < ((y274.length : Int) : Int) := od; first | exact h_ | (have e_ := (Kd.R_reads' HO276.out).1; omega) | simpa using h_) (seg := [.int .u32 1, .int .i64 2, .bool true]) (j := 0) hcl80 hcc80 (show 3 ≤ 3 from by decide) (x' := (⟨1, 2, true⟩ : S71)) (k71_mkM _ _ _ (⟨1, 2, true⟩ : S71) ) (fun _ hk => hk); have hx80_0 := hcc80 0 _ rfl; (try simp only [show (k71).sz = 3 from rfl, Nat.mul_one, Nat.add_zero] at hx80_0); (try rw [show ((10 : Int)).toNat = 10 from rfl] at hx80_0); (try simp only [Nat.reduceMul, Nat.zero_mul, Nat.zero_add, Nat.reduceAdd] at hx80_0); have hf80_0 := hfr80 0; (try simp only [show (k71).sz = 3 from rfl, Nat.mul_one, Nat.add_zero] at hf80_0); (try rw [show ((10 : Int)).toNat = 10 from rfl] at hf80_0); (try simp only [Nat.reduceMul, Nat.zero_mul, Nat.zero_add, Nat.reduceAdd] at hf80_0); have hx80_1 := hcc80 1 _ rfl; (try simp only [show (k71).sz = 3 from rfl, Nat.mul_one, Nat.add_zero] at hx80_1); (try rw [show ((10 : Int)).toNat = 10 from rfl] at hx80_1); (try simp only [Nat.reduceMul, Nat.zero_mul, Nat.zero_add, Nat.reduceAdd] at hx80_1); have hf80_1 := hfr80 1; (try simp only [show (k71).sz = 3 from rfl, Nat.mul_one, Nat.add_zero] at hf80_1); (try rw [show ((10 : Int)).toNat = 10 from rfl] at hf80_1); (try simp only [Nat.reduceMul, Nat.zero_mul, Nat.zero_add, Nat.reduceAdd] at hf80_1); have hx80_2 := hcc80 2 _ rfl; (try simp only [show (k71).sz = 3 from rfl, Nat.mul_one, Nat.add_zero] at hx80_2); (try rw [show ((10 : Int)).toNat = 10 from rfl] at hx80_2); (try simp only [Nat.reduceMul, Nat.zero_mul, Nat.zero_add, Nat.reduceAdd] at hx80_2); have hf80_2 := hfr80 2; (try simp only [show (k71).sz = 3 from rfl, Nat.mul_one, Nat.add_zero] at hf80_2); (try rw [show ((10 : Int)).toNat = 10 from rfl] at hf80_2); (try simp only [Nat.reduceMul, Nat.zero_mul, Nat.zero_add, Nat.reduceAdd] at hf80_2); clear hcl80 hcc80 hfr80 hM80) | ((with_reducible refine gate_store (t := 71) (p := 64) rfl ?_); refine store_event (t := 71) (p := 64) (v := ?vo_w81) (w1 := (((w79.setCell ⟨go69, 30, none⟩ (.int .u32 1)).setCell ⟨go69, 31, none⟩ (.int .i64 2)).setCell ⟨go69, 32, none⟩ (.bool true))) ?hg ?ho ?hn ?hr ?_; (case ho => rfl); (case hg => rfl); (case hn => rfl); (case hr => first | (go_simp; done) | (go_simp; rfl)); intro w81 hw; have hg : w79.grownBy w81 (some go69) := (by rw [hw]; exact HP80.2); have hp_ : Kd.R k71 71 w81 w.heap.size (fun _ => True) (.slice (some ⟨go69, 0, none⟩) y274.length co69) y300 := (by rw [hw, Ny300.out]; exact HP80.1); (try clear HP80); have n0_ := Aside0.mk (hp_); have n1_ := Aside0.mk ((by rw [hw]; exact below_set (below_set (below_set (HB.out) GB69.out) GB69.out) GB69.out : Below w.heap.size w w81)); clear HO276; clear HB; have HO276 := n0_; have HB := n1_; clear n0_ n1_; clear hg hw hp_) | ((with_reducible refine gate_callee (f := 14) rfl ?_); refine goesL_ (some 72) rfl rfl Try.func14 (by kernel_rfl) rfl #[.slice (some ⟨go69, 0, none⟩) y300.length co69, .int .u32 1] rfl (by (try simp only [List.map_toArray, List.map_cons, List.map_nil]); first | done | (rw [show y300.length = y274.length from (Kd.R_reads' HO276.out).1.symm] <;> rfl) | rfl | (simp only [List.length_drop, List.length_take]; rfl)) ?_; (with_reducible refine (probe_Find.calls k1 _ _ y300 1 t301 t302 _ ?side1 ?side2 A72.out).mono ?_); (case side1 => exact Kd.pC ((Kd.R_reads' HO276.out).2.2)); (case side2 => rw [show y300.length = y274.length from (Kd.R_reads' HO276.out).1.symm]; exact (Kd.R_reads' HO276.out).2.1); rintro e w82 ⟨rfl, hb⟩; refine ⟨_, rfl, ?_⟩; have n0_ := Aside0.mk (Kd.R_below (Kd.pR HO276.out) hb); have n1_ := Aside0.mk (below_step (pB HB.out) hb); clear HO276; clear HB; have HO276 := n0_; have HB := n1_; clear n0_ n1_; (try clear hb); (try clear hb2); (try clear hk); (try clear hi)) | ((with_reducible refine gate_callee (f := 20) rfl ?_); refine goesL_ (some 76) rfl rfl Try.func20 (by kernel_rfl) rfl #[.slice (some ⟨go69, 0, none⟩) y300.length co69] rfl (by (try simp only [List.map_toArray, List.map_cons, List.map_nil]); first | done | (rw [show y300.length = y274.length from (Kd.R_reads' HO276.out).1.symm] <;> rfl) | rfl | (simp only [List.length_drop, List.length_take]; rfl)) ?_; (with_reducible refine (probe_Check.calls k1 _ _ y300 t303 _ ?side1 ?side2 A73.out).mono ?_); (case side1 => exact Kd.pC ((Kd.R_reads' HO276.out).2.2)); (case side2 => rw [show y300.length = y274.length from (Kd.R_reads' HO276.out).1.symm]; exact (Kd.R_reads' HO276.out).2.1); rintro e w83 ⟨rfl, hb⟩; refine ⟨_, rfl, ?_⟩; have n1_ := Aside0.mk (below_step (pB HB.out) hb); (try clear HO276); clear HB; have HB := n1_; clear n1_; (try clear hb); (try clear hb2); (try clear hk); (try clear hi)))
                              go_roundg k1
                              case measure => have := HK1.out; omega
                              case rel => exact ⟨(wrap64 (x1_1 + 1)), (by first | rfl | (simp; done) | (simp [*]; done)), H', ⟨by have := HK1.out; omega⟩, ⟨pB HB.out⟩⟩
                            · rw [if_neg c75] at H
                              have c75b0 : (t302 == 8) = false := beq_eq_false_iff_ne.mpr c75
                              have c75b1 : (t302 != 8) = true := bne_iff_ne.mpr c75
                              exact absurd H (by simp)
                          · rw [if_neg c74] at H
                            have c74b0 : (t303 == 8) = false := beq_eq_false_iff_ne.mpr c74
                            have c74b1 : (t303 != 8) = true := bne_iff_ne.mpr c74
                            exact absurd H (by simp)
                        · rw [if_neg c70] at H
                          exact absurd H (by simp)
                      · rw [if_neg c68] at H
                        exact absurd H (by simp)
                    · rw [if_neg c67] at H
                      have c67b0 : (x1_1 == 5) = false := beq_eq_false_iff_ne.mpr c67
                      have c67b1 : (x1_1 != 5) = true := bne_iff_ne.mpr c67
                      by_cases c84 : x1_1 = 6
                      · rw [if_pos c84] at H
                        have c84b0 : (x1_1 == 6) = true := beq_iff_eq.mpr c84
                        have c84b1 : (x1_1 != 6) = false := bne_eq_false_iff_eq.mpr c84
                        clear c84
                        by_cases c85 : 9 < (y274.length : Int)
                        · rw [if_pos c85] at H
                          have c85b0 : decide (9 < (y274.length : Int)) = true := decide_eq_true c85
                          have c85b1 : decide (9 < y274.length) = true := decide_eq_true (by omega)
                          clear c85
                          obtain ⟨y304, hy304⟩ : ∃ y_ : List (S71), y_ = (y274.set (9 : Int).toNat (⟨1, (-1), true⟩ : S71)) := ⟨_, rfl⟩
                          replace H : ((probe_Find.f k1 y304 1).bind fun bt305 => ((probe_Check.f k1 y304).bind fun t307 => (if t307 = 8 then (if bt305.2 = 8 then (spigotlaw14_ProbeNames.l0 k1 (wrap64 (x1_1 + 1))) else (some false)) else (some false)))) = some true := by first | (rw [hy304]; with_reducible exact H) | (have H2_ := (Option.bind_some _ _).symm.trans H; rw [hy304]; with_reducible exact H2_) | (have H2_ := (Option.bind_some _ _).symm.trans H; with_reducible exact H2_) | with_reducible exact H | (rw [hy304]; exact H) | exact H
                          have Ny304 := Aside0.mk hy304
                          (try clear hy304)
                          replace H := Option.bind_eq_some_iff.mp H
                          obtain ⟨⟨t305, t306⟩, A870, H⟩ := H
                          replace H : ((probe_Check.f k1 y304).bind fun t307 => (if t307 = 8 then (if t306 = 8 then (spigotlaw14_ProbeNames.l0 k1 (wrap64 (x1_1 + 1))) else (some false)) else (some false))) = some true := H
                          have A87 := Aside0.mk A870
                          (try clear A870)
                          replace H := Option.bind_eq_some_iff.mp H
                          obtain ⟨t307, A880, H⟩ := H
                          replace H : (if t307 = 8 then (if t306 = 8 then (spigotlaw14_ProbeNames.l0 k1 (wrap64 (x1_1 + 1))) else (some false)) else (some false)) = some true := H
                          have A88 := Aside0.mk A880
                          (try clear A880)
                          by_cases c89 : t307 = 8
                          · rw [if_pos c89] at H
                            have c89b0 : (t307 == 8) = true := beq_iff_eq.mpr c89
                            have c89b1 : (t307 != 8) = false := bne_eq_false_iff_eq.mpr c89
                            clear c89
                            by_cases c90 : t306 = 8
                            · rw [if_pos c90] at H
                              have c90b0 : (t306 == 8) = true := beq_iff_eq.mpr c90
                              have c90b1 : (t306 != 8) = false := bne_eq_false_iff_eq.mpr c90
                              clear c90
                              have H' := Aside0.mk H
                              clear H
                              go_wp2_with (first | ((with_reducible refine gate_dst (N := 31) rfl ?_); (try (refine gate_guard (by rfl) ?_; dsimp only)); refine Kd.R_make k71 _ 71 rfl (N := 31) rfl 22 _ _ rfl 16 rfl rfl Try.underlying22 (.agg #[(.int .u32 0), (.int .i64 0), (.bool false)]) 24 info71 rfl (by decide) (by omega) z71 (ok := fun _ => True) (okp := fun _ => True) (k71_mkM _ _ _ z71 ) (fun _ hk => hk) trivial (by omega) (by omega) (Below.refl _ _) (Nat.le_refl _) ?_; intro v275 w91 ho92 hb hg_ hnew_; clear hg_ hnew_; (first | rw [← Ny274.out] at ho92 | (simp only [Int.reduceToNat] at ho92; rw [← Ny274.out] at ho92)); have n0_ := Aside0.mk (Kd.R_lower ho92 (below_size (pB HB.out))); have n1_ := Aside0.mk (below_step (pB HB.out) hb); clear HB; have HO276 := n0_; have HB := n1_; clear n0_ n1_; clear hb ho92; have p86 : 0 ≤ (9 : Int) := (by omega); have q86 : (9 : Int) < ((y274.length : Int) : Int) := od; have qi86 : (9 < y274.length) = True := eq_true (by omega); obtain ⟨go86, co86, eo86, gb86, gl86, cl86, HG86⟩ := Kd.R_form HO276.out (by omega); (first | cases eo86 | (injection eo86 with ea_ en_ ec_; (first | subst ea_ | (injection ea_ with ea_; subst ea_)); subst ec_; clear en_)); have GB86 := Aside0.mk gb86; have GG86 := Aside0.mk HG86; clear gb86 gl86 HG86; obtain ⟨ce86, hcl86, hM86, hcc86, hfr86⟩ := Kd.R_elem HO276.out z71 (9 : Int) p86 q86; obtain rfl := k71_openM hM86; have hx86_0 : w91.cell? ⟨go86, (9 : Int).toNat * 3, none⟩ = some (.int .u32 ((rd_T71 y274 9).f0)) := hcc86 0 _ rfl; have hx86_1 : w91.cell? ⟨go86, (9 : Int).toNat * 3 + 1, none⟩ = some (.int .i64 ((rd_T71 y274 9).f1)) := hcc86 1 _ rfl; have hx86_2 : w91.cell? ⟨go86, (9 : Int).toNat * 3 + 2, none⟩ = some (.bool ((rd_T71 y274 9).f2)) := hcc86 2 _ rfl; have hf86_0 : w91.frozen? ⟨go86, (9 : Int).toNat * 3, none⟩ = false := hfr86 0; have hf86_1 : w91.frozen? ⟨go86, (9 : Int).toNat * 3 + 1, none⟩ = false := hfr86 1; have hf86_2 : w91.frozen? ⟨go86, (9 : Int).toNat * 3 + 2, none⟩ = false := hfr86 2; clear hcl86 hcc86 hfr86 hM86; (try rw [show ((9 : Int)).toNat = 9 from rfl] at hx86_0); (try simp only [Nat.reduceMul, Nat.zero_mul, Nat.zero_add, Nat.reduceAdd] at hx86_0); (try rw [show ((9 : Int)).toNat = 9 from rfl] at hf86_0); (try simp only [Nat.reduceMul, Nat.zero_mul, Nat.zero_add, Nat.reduceAdd] at hf86_0); (try rw [show ((9 : Int)).toNat = 9 from rfl] at hx86_1); (try simp only [Nat.reduceMul, Nat.zero_mul, Nat.zero_add, Nat.reduceAdd] at hx86_1); (try rw [show ((9 : Int)).toNat = 9 from rfl] at hf86_1); (try simp only [Nat.reduceMul, Nat.zero_mul, Nat.zero_add, Nat.reduceAdd] at hf86_1); (try rw [show ((9 : Int)).toNat = 9 from rfl] at hx86_2); (try simp only [Nat.reduceMul, Nat.zero_mul, Nat.zero_add, Nat.reduceAdd] at hx86_2); (try rw [show ((9 : Int)).toNat = 9 from rfl] at hf86_2); (try simp only [Nat.reduceMul, Nat.zero_mul, Nat.zero_add, Nat.reduceAdd] at hf86_2); replace p86 := eq_true p86; replace q86 := eq_true q86; have HX93 := Aside0.mk (show Kd.R k71 71 w91 w.heap.size (fun _ => True) (.slice (some ⟨go86, 0, none⟩) y274.length co86) y274 from (Kd.pR HO276.out)); obtain ⟨ce93, hcl93, hM93, hcc93, hfr93⟩ := Kd.R_elem HX93.out z71 (9 : Int) (by omega) (by have h_ : (9 : Int) < ((y274.length : Int) : Int) := od; first | exact h_ | (have e_ := (Kd.R_reads' HO276.out).1; omega) | simpa using h_); obtain rfl := k71_openM hM93; have HP93 := Kd.R_seg HX93.out (9 : Int) (by omega) (by have h_ : (9 : Int) < ((y274.length : Int) : Int) := od; first | exact h_ | (have e_ := (Kd.R_reads' HO276.out).1; omega) | simpa using h_) (seg := [.int .u32 1, .int .i64 (-1), .bool true]) (j := 0) hcl93 hcc93 (show 3 ≤ 3 from by decide) (x' := (⟨1, (-1), true⟩ : S71)) (k71_mkM _ _ _ (⟨1, (-1), true⟩ : S71) ) (fun _ hk => hk); have hx93_0 := hcc93 0 _ rfl; (try simp only [show (k71).sz = 3 from rfl, Nat.mul_one, Nat.add_zero] at hx93_0); (try rw [show ((9 : Int)).toNat = 9 from rfl] at hx93_0); (try simp only [Nat.reduceMul, Nat.zero_mul, Nat.zero_add, Nat.reduceAdd] at hx93_0); have hf93_0 := hfr93 0; (try simp only [show (k71).sz = 3 from rfl, Nat.mul_one, Nat.add_zero] at hf93_0); (try rw [show ((9 : Int)).toNat = 9 from rfl] at hf93_0); (try simp only [Nat.reduceMul, Nat.zero_mul, Nat.zero_add, Nat.reduceAdd] at hf93_0); have hx93_1 := hcc93 1 _ rfl; (try simp only [show (k71).sz = 3 from rfl, Nat.mul_one, Nat.add_zero] at hx93_1); (try rw [show ((9 : Int)).toNat = 9 from rfl] at hx93_1); (try simp only [Nat.reduceMul, Nat.zero_mul, Nat.zero_add, Nat.reduceAdd] at hx93_1); have hf93_1 := hfr93 1; (try simp only [show (k71).sz = 3 from rfl, Nat.mul_one, Nat.add_zero] at hf93_1); (try rw [show ((9 : Int)).toNat = 9 from rfl] at hf93_1); (try simp only [Nat.reduceMul, Nat.zero_mul, Nat.zero_add, Nat.reduceAdd] at hf93_1); have hx93_2 := hcc93 2 _ rfl; (try simp only [show (k71).sz = 3 from rfl, Nat.mul_one, Nat.add_zero] at hx93_2); (try rw [show ((9 : Int)).toNat = 9 from rfl] at hx93_2); (try simp only [Nat.reduceMul, Nat.zero_mul, Nat.zero_add, Nat.reduceAdd] at hx93_2); have hf93_2 := hfr93 2; (try simp only [show (k71).sz = 3 from rfl, Nat.mul_one, Nat.add_zero] at hf93_2); (try rw [show ((9 : Int)).toNat = 9 from rfl] at hf93_2); (try simp only [Nat.reduceMul, Nat.zero_mul, Nat.zero_add, Nat.reduceAdd] at hf93_2); clear hcl93 hcc93 hfr93 hM93) | ((with_reducible refine gate_store (t := 71) (p := 69) rfl ?_); refine store_event (t := 71) (p := 69) (v := ?vo_w94) (w1 := (((w91.setCell ⟨go86, 27, none⟩ (.int .u32 1)).setCell ⟨go86, 28, none⟩ (.int .i64 (-1))).setCell ⟨go86, 29, none⟩ (.bool true))) ?hg ?ho ?hn ?hr ?_; (case ho => rfl); (case hg => rfl); (case hn => rfl); (case hr => first | (go_simp; done) | (go_simp; rfl)); intro w94 hw; have hg : w91.grownBy w94 (some go86) := (by rw [hw]; exact HP93.2); have hp_ : Kd.R k71 71 w94 w.heap.size (fun _ => True) (.slice (some ⟨go86, 0, none⟩) y274.length co86) y304 := (by rw [hw, Ny304.out]; exact HP93.1); (try clear HP93); have n0_ := Aside0.mk (hp_); have n1_ := Aside0.mk ((by rw [hw]; exact below_set (below_set (below_set (HB.out) GB86.out) GB86.out) GB86.out : Below w.heap.size w w94)); clear HO276; clear HB; have HO276 := n0_; have HB := n1_; clear n0_ n1_; clear hg hw hp_) | ((with_reducible refine gate_callee (f := 14) rfl ?_); refine goesL_ (some 72) rfl rfl Try.func14 (by kernel_rfl) rfl #[.slice (some ⟨go86, 0, none⟩) y304.length co86, .int .u32 1] rfl (by (try simp only [List.map_toArray, List.map_cons, List.map_nil]); first | done | (rw [show y304.length = y274.length from (Kd.R_reads' HO276.out).1.symm] <;> rfl) | rfl | (simp only [List.length_drop, List.length_take]; rfl)) ?_; (with_reducible refine (probe_Find.calls k1 _ _ y304 1 t305 t306 _ ?side1 ?side2 A87.out).mono ?_); (case side1 => exact Kd.pC ((Kd.R_reads' HO276.out).2.2)); (case side2 => rw [show y304.length = y274.length from (Kd.R_reads' HO276.out).1.symm]; exact (Kd.R_reads' HO276.out).2.1); rintro e w95 ⟨rfl, hb⟩; refine ⟨_, rfl, ?_⟩; have n0_ := Aside0.mk (Kd.R_below (Kd.pR HO276.out) hb); have n1_ := Aside0.mk (below_step (pB HB.out) hb); clear HO276; clear HB; have HO276 := n0_; have HB := n1_; clear n0_ n1_; (try clear hb); (try clear hb2); (try clear hk); (try clear hi)) | ((with_reducible refine gate_callee (f := 20) rfl ?_); refine goesL_ (some 76) rfl rfl Try.func20 (by kernel_rfl) rfl #[.slice (some ⟨go86, 0, none⟩) y304.length co86] rfl (by (try simp only [List.map_toArray, List.map_cons, List.map_nil]); first | done | (rw [show y304.length = y274.length from (Kd.R_reads' HO276.out).1.symm] <;> rfl) | rfl | (simp only [List.length_drop, List.length_take]; rfl)) ?_; (with_reducible refine (probe_Check.calls k1 _ _ y304 t307 _ ?side1 ?side2 A88.out).mono ?_); (case side1 => exact Kd.pC ((Kd.R_reads' HO276.out).2.2)); (case side2 => rw [show y304.length = y274.length from (Kd.R_reads' HO276.out).1.symm]; exact (Kd.R_reads' HO276.out).2.1); rintro e w96 ⟨rfl, hb⟩; refine ⟨_, rfl, ?_⟩; have n1_ := Aside0.mk (below_step (pB HB.out) hb); (try clear HO276); clear HB; have HB := n1_; clear n1_; (try clear hb); (try clear hb2); (try clear hk); (try clear hi)))
                              go_roundg k1
                              case measure => have := HK1.out; omega
                              case rel => exact ⟨(wrap64 (x1_1 + 1)), (by first | rfl | (simp; done) | (simp [*]; done)), H', ⟨by have := HK1.out; omega⟩, ⟨pB HB.out⟩⟩
                            · rw [if_neg c90] at H
                              have c90b0 : (t306 == 8) = false := beq_eq_false_iff_ne.mpr c90
                              have c90b1 : (t306 != 8) = true := bne_iff_ne.mpr c90
                              exact absurd H (by simp)
                          · rw [if_neg c89] at H
                            have c89b0 : (t307 == 8) = false := beq_eq_false_iff_ne.mpr c89
                            have c89b1 : (t307 != 8) = true := bne_iff_ne.mpr c89
                            exact absurd H (by simp)
                        · rw [if_neg c85] at H
                          exact absurd H (by simp)
                      · rw [if_neg c84] at H
                        have c84b0 : (x1_1 == 6) = false := beq_eq_false_iff_ne.mpr c84
                        have c84b1 : (x1_1 != 6) = true := bne_iff_ne.mpr c84
                        replace H := Option.bind_eq_some_iff.mp H
                        obtain ⟨⟨t308, t309⟩, A970, H⟩ := H
                        replace H : ((probe_Check.f k1 y274).bind fun t310 => (if t310 = 8 then (if t309 = 8 then (spigotlaw14_ProbeNames.l0 k1 (wrap64 (x1_1 + 1))) else (some false)) else (some false))) = some true := H
                        have A97 := Aside0.mk A970
                        (try clear A970)
                        replace H := Option.bind_eq_some_iff.mp H
                        obtain ⟨t310, A980, H⟩ := H
                        replace H : (if t310 = 8 then (if t309 = 8 then (spigotlaw14_ProbeNames.l0 k1 (wrap64 (x1_1 + 1))) else (some false)) else (some false)) = some true := H
                        have A98 := Aside0.mk A980
                        (try clear A980)
                        by_cases c99 : t310 = 8
                        · rw [if_pos c99] at H
                          have c99b0 : (t310 == 8) = true := beq_iff_eq.mpr c99
                          have c99b1 : (t310 != 8) = false := bne_eq_false_iff_eq.mpr c99
                          clear c99
                          by_cases c100 : t309 = 8
                          · rw [if_pos c100] at H
                            have c100b0 : (t309 == 8) = true := beq_iff_eq.mpr c100
                            have c100b1 : (t309 != 8) = false := bne_eq_false_iff_eq.mpr c100
                            clear c100
                            have H' := Aside0.mk H
                            clear H
                            go_wp2_with (first | ((with_reducible refine gate_dst (N := 31) rfl ?_); (try (refine gate_guard (by rfl) ?_; dsimp only)); refine Kd.R_make k71 _ 71 rfl (N := 31) rfl 22 _ _ rfl 16 rfl rfl Try.underlying22 (.agg #[(.int .u32 0), (.int .i64 0), (.bool false)]) 24 info71 rfl (by decide) (by omega) z71 (ok := fun _ => True) (okp := fun _ => True) (k71_mkM _ _ _ z71 ) (fun _ hk => hk) trivial (by omega) (by omega) (Below.refl _ _) (Nat.le_refl _) ?_; intro v275 w101 ho102 hb hg_ hnew_; clear hg_ hnew_; (first | rw [← Ny274.out] at ho102 | (simp only [Int.reduceToNat] at ho102; rw [← Ny274.out] at ho102)); have n0_ := Aside0.mk (Kd.R_lower ho102 (below_size (pB HB.out))); have n1_ := Aside0.mk (below_step (pB HB.out) hb); clear HB; have HO276 := n0_; have HB := n1_; clear n0_ n1_; clear hb ho102; obtain ⟨Ao103, co103, eo103⟩ := Kd.R_slice HO276.out; subst eo103) | ((with_reducible refine gate_callee (f := 14) rfl ?_); refine goesE (some 72) rfl rfl Try.func14 (by kernel_rfl) rfl #[.slice Ao103 y274.length co103, .int .u32 1] rfl ?_; (with_reducible refine (probe_Find.calls k1 _ _ y274 1 t308 t309 _ ?side1 ?side2 A97.out).mono ?_); (case side1 => exact Kd.pC ((Kd.R_reads' HO276.out).2.2)); (case side2 => exact (Kd.R_reads' HO276.out).2.1); rintro e w104 ⟨rfl, hb⟩; refine ⟨_, rfl, ?_⟩; have n0_ := Aside0.mk (Kd.R_below (Kd.pR HO276.out) hb); have n1_ := Aside0.mk (below_step (pB HB.out) hb); clear HO276; clear HB; have HO276 := n0_; have HB := n1_; clear n0_ n1_; (try clear hb); (try clear hb2); (try clear hk); (try clear hi)) | ((with_reducible refine gate_callee (f := 20) rfl ?_); refine goesE (some 76) rfl rfl Try.func20 (by kernel_rfl) rfl #[.slice Ao103 y274.length co103] rfl ?_; (with_reducible refine (probe_Check.calls k1 _ _ y274 t310 _ ?side1 ?side2 A98.out).mono ?_); (case side1 => exact Kd.pC ((Kd.R_reads' HO276.out).2.2)); (case side2 => exact (Kd.R_reads' HO276.out).2.1); rintro e w105 ⟨rfl, hb⟩; refine ⟨_, rfl, ?_⟩; have n1_ := Aside0.mk (below_step (pB HB.out) hb); (try clear HO276); clear HB; have HB := n1_; clear n1_; (try clear hb); (try clear hb2); (try clear hk); (try clear hi)))
                            go_roundg k1
                            case measure => have := HK1.out; omega
                            case rel => exact ⟨(wrap64 (x1_1 + 1)), (by first | rfl | (simp; done) | (simp [*]; done)), H', ⟨by have := HK1.out; omega⟩, ⟨pB HB.out⟩⟩
                          · rw [if_neg c100] at H
                            have c100b0 : (t309 == 8) = false := beq_eq_false_iff_ne.mpr c100
                            have c100b1 : (t309 != 8) = true := bne_iff_ne.mpr c100
                            exact absurd H (by simp)
                        · rw [if_neg c99] at H
                          have c99b0 : (t310 == 8) = false := beq_eq_false_iff_ne.mpr c99
                          have c99b1 : (t310 != 8) = true := bne_iff_ne.mpr c99
                          exact absurd H (by simp)
        · rw [if_neg c2] at H
          exact absurd H (by simp)
      · rw [if_neg c1] at H
        have c1b0 : decide (x1_1 < 7) = false := decide_eq_false c1
        clear c1
        replace H := Option.bind_eq_some_iff.mp H
        obtain ⟨t311, A1060, H⟩ := H
        replace H : (spigotlaw14_ProbeNames.l1 k1 t311 0) = some true := H
        have A106 := Aside0.mk A1060
        (try clear A1060)
        have H' := Aside0.mk H
        clear H
        go_wp2_with (first | ((with_reducible refine gate_callee (f := 41) rfl ?_); refine goesE (some 82) rfl rfl Try.func41 (by kernel_rfl) rfl #[] rfl ?_; (with_reducible refine (probe_New.calls  t311 _ A106.out).mono ?_); rintro e w107 ⟨v312, rfl, ho0, hb⟩; refine ⟨_, rfl, ?_⟩; have n0_ := Aside0.mk (Kd.R_lower ho0 (below_size (pB HB.out))); have n1_ := Aside0.mk (below_step (pB HB.out) hb); clear HB; have HO313 := n0_; have HB := n1_; clear n0_ n1_; (try clear hb); (try clear hb2); (try clear hk); (try clear hi); (try clear ho0)))
        go_loopg [5, 6] k1 (fun kq v5 v6 w' => ∃ (x5_2 : List (S71)) (x6_2 : Int), v6 = .int .i64 x6_2 ∧ Aside0 (spigotlaw14_ProbeNames.l1 kq x5_2 x6_2 = some true) ∧ Aside0 (kq ≤ k1) ∧ Aside0 (Kd.R k71 71 w' w.heap.size (fun _ => True) v5 x5_2) ∧ Aside0 (Below w.heap.size w w'))
        case atStart => exact ⟨(t311), (0), (by first | rfl | (simp; done) | (simp [*]; done)), H', ⟨Nat.le_refl _⟩, ⟨Kd.pR HO313.out⟩, ⟨pB HB.out⟩⟩
        case round =>
          clear H'
          try clear c1
          try clear c1b0
          try clear p1
          try clear q1
          try clear hx1
          try clear qi1
          try clear hf1
          try clear c2
          try clear c2b0
          try clear c2b1
          try clear p2
          try clear hx2
          try clear hf2
          try clear c3
          try clear c3b0
          try clear c3b1
          try clear p3
          try clear q3
          try clear hx3
          try clear qi3
          try clear hf3
          try clear c4
          try clear c4b0
          try clear c4b1
          try clear p4
          try clear q4
          try clear hx4
          try clear qi4
          try clear hf4
          try clear c5
          try clear p5
          try clear q5
          try clear hx5
          try clear qi5
          try clear hf5
          try clear c6
          try clear p6
          try clear q6
          try clear hx6
          try clear qi6
          try clear hf6
          try clear c7
          try clear c7b0
          try clear c7b1
          try clear p7
          try clear q7
          try clear hx7
          try clear qi7
          try clear hf7
          try clear c8
          try clear c8b0
          try clear c8b1
          try clear p8
          try clear q8
          try clear hx8
          try clear qi8
          try clear hf8
          try clear c9
          try clear hx9
          try clear hf9
          try clear c10
          try clear c12
          try clear q12
          try clear c14
          try clear c15
          try clear c15b0
          try clear c15b1
          try clear c16
          try clear c16b0
          try clear c16b1
          try clear c17
          try clear p17
          try clear q17
          try clear hx17
          try clear qi17
          try clear hf17
          try clear c20
          try clear c20b0
          try clear c20b1
          try clear c21
          try clear c21b0
          try clear c21b1
          try clear c24
          try clear hx24
          try clear hf24
          try clear c28
          try clear c28b0
          try clear c28b1
          try clear c29
          try clear c29b0
          try clear c29b1
          try clear c30
          try clear p30
          try clear q30
          try clear hx30
          try clear qi30
          try clear hf30
          try clear c33
          try clear c33b0
          try clear c33b1
          try clear c34
          try clear c34b0
          try clear c34b1
          try clear c37
          try clear hx37
          try clear hf37
          try clear c41
          try clear c41b0
          try clear c41b1
          try clear c42
          try clear c42b0
          try clear c42b1
          try clear c43
          try clear p43
          try clear q43
          try clear hx43
          try clear qi43
          try clear hf43
          try clear c46
          try clear c46b0
          try clear c46b1
          try clear c47
          try clear c47b0
          try clear c47b1
          try clear c50
          try clear hx50
          try clear hf50
          try clear c54
          try clear c54b0
          try clear c54b1
          try clear c55
          try clear c55b0
          try clear c55b1
          try clear c56
          try clear p56
          try clear q56
          try clear hx56
          try clear qi56
          try clear hf56
          try clear c59
          try clear c59b0
          try clear c59b1
          try clear c60
          try clear c60b0
          try clear c60b1
          try clear c63
          try clear hx63
          try clear hf63
          try clear p64
          try clear c67
          try clear c67b0
          try clear c67b1
          try clear c68
          try clear c68b0
          try clear c68b1
          try clear c69
          try clear p69
          try clear q69
          try clear hx69
          try clear qi69
          try clear hf69
          try clear c70
          try clear c70b0
          try clear c70b1
          try clear c71
          try clear p71
          try clear q71
          try clear hx71
          try clear qi71
          try clear hf71
          try clear c74
          try clear c74b0
          try clear c74b1
          try clear c75
          try clear c75b0
          try clear c75b1
          try clear c78
          try clear hx78
          try clear hf78
          try clear c80
          try clear hx80
          try clear hf80
          try clear c84
          try clear c84b0
          try clear c84b1
          try clear c85
          try clear c85b0
          try clear c85b1
          try clear c86
          try clear p86
          try clear q86
          try clear hx86
          try clear qi86
          try clear hf86
          try clear c89
          try clear c89b0
          try clear c89b1
          try clear c90
          try clear c90b0
          try clear c90b1
          try clear c93
          try clear hx93
          try clear hf93
          try clear c99
          try clear c99b0
          try clear c99b1
          try clear c100
          try clear c100b0
          try clear c100b1
          try clear hx17_0
          try clear hx17_1
          try clear hx17_2
          try clear hx24_0
          try clear hx30_0
          try clear hx30_1
          try clear hx30_2
          try clear hx37_1
          try clear hx43_0
          try clear hx43_1
          try clear hx43_2
          try clear hx50_0
          try clear hx50_1
          try clear hx50_2
          try clear hx56_0
          try clear hx56_1
          try clear hx56_2
          try clear hx63_0
          try clear hx63_1
          try clear hx63_2
          try clear hx69_0
          try clear hx69_1
          try clear hx69_2
          try clear hx71_0
          try clear hx71_1
          try clear hx71_2
          try clear hx78_0
          try clear hx78_1
          try clear hx78_2
          try clear hx80_0
          try clear hx80_1
          try clear hx80_2
          try clear hx86_0
          try clear hx86_1
          try clear hx86_2
          try clear hx93_0
          try clear hx93_1
          try clear hx93_2
          try clear p17
          try clear p30
          try clear p43
          try clear p56
          try clear p69
          try clear p71
          try clear p86
          try clear q12
          try clear q17
          try clear q30
          try clear q43
          try clear q56
          try clear q69
          try clear q71
          try clear q86
          obtain ⟨x5_2, x6_2, rfl, HA, HK2, HO_5, HB⟩ := hrel
          cases gk with
          | zero => exact absurd HA.out (by simp [spigotlaw14_ProbeNames.l1])
          | succ k2 =>
            have H := HA.out
            (try clear HA)
            simp only [spigotlaw14_ProbeNames.l1] at H
            by_cases c108 : x6_2 < 12
            · rw [if_pos c108] at H
              have c108b0 : decide (x6_2 < 12) = true := decide_eq_true c108
              clear c108
              replace H := Option.bind_eq_some_iff.mp H
              obtain ⟨⟨t314, t315⟩, A1090, H⟩ := H
              replace H : (if t315 = 0 then (spigotlaw14_ProbeNames.l1 k2 t314 (wrap64 (x6_2 + 1))) else (some false)) = some true := H
              have A109 := Aside0.mk A1090
              (try clear A1090)
              by_cases c110 : t315 = 0
              · rw [if_pos c110] at H
                have c110b0 : (t315 == 0) = true := beq_iff_eq.mpr c110
                have c110b1 : (t315 != 0) = false := bne_eq_false_iff_eq.mpr c110
                clear c110
                have H' := Aside0.mk H
                clear H
                obtain ⟨Ao111, co111, eo111⟩ := Kd.R_slice HO_5.out
                subst eo111
                go_wp2_with (first | ((with_reducible refine gate_callee (f := 36) rfl ?_); refine goesE (some 92) rfl rfl Try.func36 (by kernel_rfl) rfl #[.slice Ao111 x5_2.length co111, .int .u32 ((x6_2) % 4294967296), .int .i64 x6_2] rfl ?_; (with_reducible refine (probe_Put.calls k2 _ _ x5_2 ((x6_2) % 4294967296) x6_2 t314 t315 _ ?side1 ?side2 A109.out).mono ?_); (case side1 => exact Kd.pC ((Kd.R_reads' HO_5.out).2.2)); (case side2 => exact (Kd.R_reads' HO_5.out).2.1); rintro e w112 ⟨v316, rfl, ho0, hb⟩; refine ⟨_, rfl, ?_⟩; have n0_ := Aside0.mk (Kd.R_elder' (Kd.pR HO_5.out) (Kd.R_base ho0) hb); have n1_ := Aside0.mk (Kd.R_lower (Kd.R_new' ho0 (Kd.R_lt (Kd.pR HO_5.out))) (below_size (pB HB.out))); have n2_ := Aside0.mk (below_step (pB HB.out) hb); clear HO_5; clear HB; have HO_5 := n0_; have HO317 := n1_; have HB := n2_; clear n0_ n1_ n2_; (try clear hb); (try clear hb2); (try clear hk); (try clear hi); (try clear ho0)))
                go_roundg k2
                case measure => have := HK1.out; have := HK2.out; omega
                case rel => exact ⟨(t314), (wrap64 (x6_2 + 1)), (by first | rfl | (simp; done) | (simp [*]; done)), H', ⟨by have := HK1.out; have := HK2.out; omega⟩, ⟨Kd.pR (Kd.R_mono HO317.out (fun _ hk => trivial))⟩, ⟨pB HB.out⟩⟩
              · rw [if_neg c110] at H
                have c110b0 : (t315 == 0) = false := beq_eq_false_iff_ne.mpr c110
                have c110b1 : (t315 != 0) = true := bne_iff_ne.mpr c110
                exact absurd H (by simp)
            · rw [if_neg c108] at H
              have c108b0 : decide (x6_2 < 12) = false := decide_eq_false c108
              (try clear c108)
              replace H := Option.bind_eq_some_iff.mp H
              obtain ⟨⟨t318, t319⟩, A1130, H⟩ := H
              replace H : ((probe_Put.f k2 x5_2 3 0).bind fun bt322 => ((probe_Put.f k2 x5_2 3 16).bind fun bt326 => ((probe_Put.f k2 x5_2 3 (-1)).bind fun bt330 => ((probe_Drop.f k2 x5_2 12).bind fun bt334 => ((probe_Find.f k2 x5_2 4294967295).bind fun bt338 => ((probe_Drop.f k2 ([] : List (S71)) 0).bind fun bt340 => ((probe_Put.f k2 ([] : List (S71)) 0 99).bind fun bt344 => ((probe_Steps.f k2 ([] : List (S71)) 0).bind fun bt348 => ((spigotlaw14_alive.f k2).bind fun t350 => (if t350 = true then ((probe_New.f).bind fun t351 => (if (t351.length : Int) = 16 then (if t319 = 18 then (if bt322.2 = 14 then (if bt326.2 = 2 then (if bt330.2 = 2 then (if bt334.2 = 6 then (if bt338.2 = 6 then (if bt340.2 = 8 then (if bt344.2 = 8 then (some (bt348.2 == 8)) else (some false)) else (some false)) else (some false)) else (some false)) else (some false)) else (some false)) else (some false)) else (some false)) else (some false))) else (none))))))))))) = some true := H
              have A113 := Aside0.mk A1130
              (try clear A1130)
              replace H := Option.bind_eq_some_iff.mp H
              obtain ⟨⟨t322, t323⟩, A1140, H⟩ := H
              replace H : ((probe_Put.f k2 x5_2 3 16).bind fun bt326 => ((probe_Put.f k2 x5_2 3 (-1)).bind fun bt330 => ((probe_Drop.f k2 x5_2 12).bind fun bt334 => ((probe_Find.f k2 x5_2 4294967295).bind fun bt338 => ((probe_Drop.f k2 ([] : List (S71)) 0).bind fun bt340 => ((probe_Put.f k2 ([] : List (S71)) 0 99).bind fun bt344 => ((probe_Steps.f k2 ([] : List (S71)) 0).bind fun bt348 => ((spigotlaw14_alive.f k2).bind fun t350 => (if t350 = true then ((probe_New.f).bind fun t351 => (if (t351.length : Int) = 16 then (if t319 = 18 then (if t323 = 14 then (if bt326.2 = 2 then (if bt330.2 = 2 then (if bt334.2 = 6 then (if bt338.2 = 6 then (if bt340.2 = 8 then (if bt344.2 = 8 then (some (bt348.2 == 8)) else (some false)) else (some false)) else (some false)) else (some false)) else (some false)) else (some false)) else (some false)) else (some false)) else (some false))) else (none)))))))))) = some true := H
              have A114 := Aside0.mk A1140
              (try clear A1140)
              replace H := Option.bind_eq_some_iff.mp H
              obtain ⟨⟨t326, t327⟩, A1150, H⟩ := H
              replace H : ((probe_Put.f k2 x5_2 3 (-1)).bind fun bt330 => ((probe_Drop.f k2 x5_2 12).bind fun bt334 => ((probe_Find.f k2 x5_2 4294967295).bind fun bt338 => ((probe_Drop.f k2 ([] : List (S71)) 0).bind fun bt340 => ((probe_Put.f k2 ([] : List (S71)) 0 99).bind fun bt344 => ((probe_Steps.f k2 ([] : List (S71)) 0).bind fun bt348 => ((spigotlaw14_alive.f k2).bind fun t350 => (if t350 = true then ((probe_New.f).bind fun t351 => (if (t351.length : Int) = 16 then (if t319 = 18 then (if t323 = 14 then (if t327 = 2 then (if bt330.2 = 2 then (if bt334.2 = 6 then (if bt338.2 = 6 then (if bt340.2 = 8 then (if bt344.2 = 8 then (some (bt348.2 == 8)) else (some false)) else (some false)) else (some false)) else (some false)) else (some false)) else (some false)) else (some false)) else (some false)) else (some false))) else (none))))))))) = some true := H
              have A115 := Aside0.mk A1150
              (try clear A1150)
              replace H := Option.bind_eq_some_iff.mp H
              obtain ⟨⟨t330, t331⟩, A1160, H⟩ := H
              replace H : ((probe_Drop.f k2 x5_2 12).bind fun bt334 => ((probe_Find.f k2 x5_2 4294967295).bind fun bt338 => ((probe_Drop.f k2 ([] : List (S71)) 0).bind fun bt340 => ((probe_Put.f k2 ([] : List (S71)) 0 99).bind fun bt344 => ((probe_Steps.f k2 ([] : List (S71)) 0).bind fun bt348 => ((spigotlaw14_alive.f k2).bind fun t350 => (if t350 = true then ((probe_New.f).bind fun t351 => (if (t351.length : Int) = 16 then (if t319 = 18 then (if t323 = 14 then (if t327 = 2 then (if t331 = 2 then (if bt334.2 = 6 then (if bt338.2 = 6 then (if bt340.2 = 8 then (if bt344.2 = 8 then (some (bt348.2 == 8)) else (some false)) else (some false)) else (some false)) else (some false)) else (some false)) else (some false)) else (some false)) else (some false)) else (some false))) else (none)))))))) = some true := H
              have A116 := Aside0.mk A1160
              (try clear A1160)
              replace H := Option.bind_eq_some_iff.mp H
              obtain ⟨⟨t334, t335⟩, A1170, H⟩ := H
              replace H : ((probe_Find.f k2 x5_2 4294967295).bind fun bt338 => ((probe_Drop.f k2 ([] : List (S71)) 0).bind fun bt340 => ((probe_Put.f k2 ([] : List (S71)) 0 99).bind fun bt344 => ((probe_Steps.f k2 ([] : List (S71)) 0).bind fun bt348 => ((spigotlaw14_alive.f k2).bind fun t350 => (if t350 = true then ((probe_New.f).bind fun t351 => (if (t351.length : Int) = 16 then (if t319 = 18 then (if t323 = 14 then (if t327 = 2 then (if t331 = 2 then (if t335 = 6 then (if bt338.2 = 6 then (if bt340.2 = 8 then (if bt344.2 = 8 then (some (bt348.2 == 8)) else (some false)) else (some false)) else (some false)) else (some false)) else (some false)) else (some false)) else (some false)) else (some false)) else (some false))) else (none))))))) = some true := H
              have A117 := Aside0.mk A1170
              (try clear A1170)
              replace H := Option.bind_eq_some_iff.mp H
              obtain ⟨⟨t338, t339⟩, A1180, H⟩ := H
              replace H : ((probe_Drop.f k2 ([] : List (S71)) 0).bind fun bt340 => ((probe_Put.f k2 ([] : List (S71)) 0 99).bind fun bt344 => ((probe_Steps.f k2 ([] : List (S71)) 0).bind fun bt348 => ((spigotlaw14_alive.f k2).bind fun t350 => (if t350 = true then ((probe_New.f).bind fun t351 => (if (t351.length : Int) = 16 then (if t319 = 18 then (if t323 = 14 then (if t327 = 2 then (if t331 = 2 then (if t335 = 6 then (if t339 = 6 then (if bt340.2 = 8 then (if bt344.2 = 8 then (some (bt348.2 == 8)) else (some false)) else (some false)) else (some false)) else (some false)) else (some false)) else (some false)) else (some false)) else (some false)) else (some false))) else (none)))))) = some true := H
              have A118 := Aside0.mk A1180
              (try clear A1180)
              replace H := Option.bind_eq_some_iff.mp H
              obtain ⟨⟨t340, t341⟩, A1190, H⟩ := H
              replace H : ((probe_Put.f k2 ([] : List (S71)) 0 99).bind fun bt344 => ((probe_Steps.f k2 ([] : List (S71)) 0).bind fun bt348 => ((spigotlaw14_alive.f k2).bind fun t350 => (if t350 = true then ((probe_New.f).bind fun t351 => (if (t351.length : Int) = 16 then (if t319 = 18 then (if t323 = 14 then (if t327 = 2 then (if t331 = 2 then (if t335 = 6 then (if t339 = 6 then (if t341 = 8 then (if bt344.2 = 8 then (some (bt348.2 == 8)) else (some false)) else (some false)) else (some false)) else (some false)) else (some false)) else (some false)) else (some false)) else (some false)) else (some false))) else (none))))) = some true := H
              have A119 := Aside0.mk A1190
              (try clear A1190)
              replace H := Option.bind_eq_some_iff.mp H
              obtain ⟨⟨t344, t345⟩, A1200, H⟩ := H
              replace H : ((probe_Steps.f k2 ([] : List (S71)) 0).bind fun bt348 => ((spigotlaw14_alive.f k2).bind fun t350 => (if t350 = true then ((probe_New.f).bind fun t351 => (if (t351.length : Int) = 16 then (if t319 = 18 then (if t323 = 14 then (if t327 = 2 then (if t331 = 2 then (if t335 = 6 then (if t339 = 6 then (if t341 = 8 then (if t345 = 8 then (some (bt348.2 == 8)) else (some false)) else (some false)) else (some false)) else (some false)) else (some false)) else (some false)) else (some false)) else (some false)) else (some false))) else (none)))) = some true := H
              have A120 := Aside0.mk A1200
              (try clear A1200)
              replace H := Option.bind_eq_some_iff.mp H
              obtain ⟨⟨t348, t349⟩, A1210, H⟩ := H
              replace H : ((spigotlaw14_alive.f k2).bind fun t350 => (if t350 = true then ((probe_New.f).bind fun t351 => (if (t351.length : Int) = 16 then (if t319 = 18 then (if t323 = 14 then (if t327 = 2 then (if t331 = 2 then (if t335 = 6 then (if t339 = 6 then (if t341 = 8 then (if t345 = 8 then (some (t349 == 8)) else (some false)) else (some false)) else (some false)) else (some false)) else (some false)) else (some false)) else (some false)) else (some false)) else (some false))) else (none))) = some true := H
              have A121 := Aside0.mk A1210
              (try clear A1210)
              replace H := Option.bind_eq_some_iff.mp H
              obtain ⟨t350, A1220, H⟩ := H
              replace H : (if t350 = true then ((probe_New.f).bind fun t351 => (if (t351.length : Int) = 16 then (if t319 = 18 then (if t323 = 14 then (if t327 = 2 then (if t331 = 2 then (if t335 = 6 then (if t339 = 6 then (if t341 = 8 then (if t345 = 8 then (some (t349 == 8)) else (some false)) else (some false)) else (some false)) else (some false)) else (some false)) else (some false)) else (some false)) else (some false)) else (some false))) else (none)) = some true := H
              have A122 := Aside0.mk A1220
              (try clear A1220)
              by_cases c123 : t350 = true
              · subst c123
                have H1 : ((probe_New.f).bind fun t351 => (if (t351.length : Int) = 16 then (if t319 = 18 then (if t323 = 14 then (if t327 = 2 then (if t331 = 2 then (if t335 = 6 then (if t339 = 6 then (if t341 = 8 then (if t345 = 8 then (some (t349 == 8)) else (some false)) else (some false)) else (some false)) else (some false)) else (some false)) else (some false)) else (some false)) else (some false)) else (some false))) = some true := by rw [if_pos rfl] at H; exact H
                clear H
                have H := H1
                clear H1
                replace H := Option.bind_eq_some_iff.mp H
                obtain ⟨t351, A1240, H⟩ := H
                replace H : (if (t351.length : Int) = 16 then (if t319 = 18 then (if t323 = 14 then (if t327 = 2 then (if t331 = 2 then (if t335 = 6 then (if t339 = 6 then (if t341 = 8 then (if t345 = 8 then (some (t349 == 8)) else (some false)) else (some false)) else (some false)) else (some false)) else (some false)) else (some false)) else (some false)) else (some false)) else (some false)) = some true := H
                have A124 := Aside0.mk A1240
                (try clear A1240)
                by_cases c125 : (t351.length : Int) = 16
                · rw [if_pos c125] at H
                  have c125b0 : ((t351.length : Int) == 16) = true := beq_iff_eq.mpr c125
                  have c125b1 : ((t351.length : Int) != 16) = false := bne_eq_false_iff_eq.mpr c125
                  clear c125
                  by_cases c126 : t319 = 18
                  · rw [if_pos c126] at H
                    have c126b0 : (t319 == 18) = true := beq_iff_eq.mpr c126
                    have c126b1 : (t319 != 18) = false := bne_eq_false_iff_eq.mpr c126
                    clear c126
                    by_cases c127 : t323 = 14
                    · rw [if_pos c127] at H
                      have c127b0 : (t323 == 14) = true := beq_iff_eq.mpr c127
                      have c127b1 : (t323 != 14) = false := bne_eq_false_iff_eq.mpr c127
                      clear c127
                      by_cases c128 : t327 = 2
                      · rw [if_pos c128] at H
                        have c128b0 : (t327 == 2) = true := beq_iff_eq.mpr c128
                        have c128b1 : (t327 != 2) = false := bne_eq_false_iff_eq.mpr c128
                        clear c128
                        by_cases c129 : t331 = 2
                        · rw [if_pos c129] at H
                          have c129b0 : (t331 == 2) = true := beq_iff_eq.mpr c129
                          have c129b1 : (t331 != 2) = false := bne_eq_false_iff_eq.mpr c129
                          clear c129
                          by_cases c130 : t335 = 6
                          · rw [if_pos c130] at H
                            have c130b0 : (t335 == 6) = true := beq_iff_eq.mpr c130
                            have c130b1 : (t335 != 6) = false := bne_eq_false_iff_eq.mpr c130
                            clear c130
                            by_cases c131 : t339 = 6
                            · rw [if_pos c131] at H
                              have c131b0 : (t339 == 6) = true := beq_iff_eq.mpr c131
                              have c131b1 : (t339 != 6) = false := bne_eq_false_iff_eq.mpr c131
                              clear c131
                              by_cases c132 : t341 = 8
                              · rw [if_pos c132] at H
                                have c132b0 : (t341 == 8) = true := beq_iff_eq.mpr c132
                                have c132b1 : (t341 != 8) = false := bne_eq_false_iff_eq.mpr c132
                                clear c132
                                by_cases c133 : t345 = 8
                                · rw [if_pos c133] at H
                                  have c133b0 : (t345 == 8) = true := beq_iff_eq.mpr c133
                                  have c133b1 : (t345 != 8) = false := bne_eq_false_iff_eq.mpr c133
                                  clear c133
                                  have HRT := Aside0.mk (Option.some.inj H)
                                  clear H
                                  obtain ⟨Ao134, co134, eo134⟩ := Kd.R_slice HO_5.out
                                  subst eo134
                                  go_wp2_with (first | ((with_reducible refine gate_callee (f := 36) rfl ?_); refine goesE (some 100) rfl rfl Try.func36 (by kernel_rfl) rfl #[.slice Ao134 x5_2.length co134, .int .u32 12, .int .i64 0] rfl ?_; (with_reducible refine (probe_Put.calls k2 _ _ x5_2 12 0 t318 t319 _ ?side1 ?side2 A113.out).mono ?_); (case side1 => exact Kd.pC ((Kd.R_reads' HO_5.out).2.2)); (case side2 => exact (Kd.R_reads' HO_5.out).2.1); rintro e w135 ⟨v320, rfl, ho0, hb⟩; refine ⟨_, rfl, ?_⟩; have n0_ := Aside0.mk (Kd.R_elder' (Kd.pR HO_5.out) (Kd.R_base ho0) hb); have n1_ := Aside0.mk (Kd.R_lower (Kd.R_new' ho0 (Kd.R_lt (Kd.pR HO_5.out))) (below_size (pB HB.out))); have n2_ := Aside0.mk (below_step (pB HB.out) hb); clear HO_5; clear HB; have HO_5 := n0_; have HO321 := n1_; have HB := n2_; clear n0_ n1_ n2_; (try clear hb); (try clear hb2); (try clear hk); (try clear hi); (try clear ho0)) | ((with_reducible refine gate_callee (f := 36) rfl ?_); refine goesE (some 105) rfl rfl Try.func36 (by kernel_rfl) rfl #[.slice Ao134 x5_2.length co134, .int .u32 3, .int .i64 0] rfl ?_; (with_reducible refine (probe_Put.calls k2 _ _ x5_2 3 0 t322 t323 _ ?side1 ?side2 A114.out).mono ?_); (case side1 => exact Kd.pC ((Kd.R_reads' HO_5.out).2.2)); (case side2 => exact (Kd.R_reads' HO_5.out).2.1); rintro e w136 ⟨v324, rfl, ho0, hb⟩; refine ⟨_, rfl, ?_⟩; have n0_ := Aside0.mk (Kd.R_elder' (Kd.pR HO_5.out) (Kd.R_base ho0) hb); have n1_ := Aside0.mk (Kd.R_elder' (Kd.pR HO321.out) (Kd.R_base ho0) hb); have n2_ := Aside0.mk (Kd.R_lower (Kd.R_new' (Kd.R_new' ho0 (Kd.R_lt (Kd.pR HO_5.out))) (Kd.R_lt (Kd.pR HO321.out))) (below_size (pB HB.out))); have n3_ := Aside0.mk (below_step (pB HB.out) hb); clear HO_5; clear HO321; clear HB; have HO_5 := n0_; have HO321 := n1_; have HO325 := n2_; have HB := n3_; clear n0_ n1_ n2_ n3_; (try clear hb); (try clear hb2); (try clear hk); (try clear hi); (try clear ho0)) | ((with_reducible refine gate_callee (f := 36) rfl ?_); refine goesE (some 110) rfl rfl Try.func36 (by kernel_rfl) rfl #[.slice Ao134 x5_2.length co134, .int .u32 3, .int .i64 16] rfl ?_; (with_reducible refine (probe_Put.calls k2 _ _ x5_2 3 16 t326 t327 _ ?side1 ?side2 A115.out).mono ?_); (case side1 => exact Kd.pC ((Kd.R_reads' HO_5.out).2.2)); (case side2 => exact (Kd.R_reads' HO_5.out).2.1); rintro e w137 ⟨v328, rfl, ho0, hb⟩; refine ⟨_, rfl, ?_⟩; have n0_ := Aside0.mk (Kd.R_elder' (Kd.pR HO_5.out) (Kd.R_base ho0) hb); have n1_ := Aside0.mk (Kd.R_elder' (Kd.pR HO321.out) (Kd.R_base ho0) hb); have n2_ := Aside0.mk (Kd.R_elder' (Kd.pR HO325.out) (Kd.R_base ho0) hb); have n3_ := Aside0.mk (Kd.R_lower (Kd.R_new' (Kd.R_new' (Kd.R_new' ho0 (Kd.R_lt (Kd.pR HO_5.out))) (Kd.R_lt (Kd.pR HO321.out))) (Kd.R_lt (Kd.pR HO325.out))) (below_size (pB HB.out))); have n4_ := Aside0.mk (below_step (pB HB.out) hb); clear HO_5; clear HO321; clear HO325; clear HB; have HO_5 := n0_; have HO321 := n1_; have HO325 := n2_; have HO329 := n3_; have HB := n4_; clear n0_ n1_ n2_ n3_ n4_; (try clear hb); (try clear hb2); (try clear hk); (try clear hi); (try clear ho0)) | ((with_reducible refine gate_callee (f := 36) rfl ?_); refine goesE (some 115) rfl rfl Try.func36 (by kernel_rfl) rfl #[.slice Ao134 x5_2.length co134, .int .u32 3, .int .i64 (-1)] rfl ?_; (with_reducible refine (probe_Put.calls k2 _ _ x5_2 3 (-1) t330 t331 _ ?side1 ?side2 A116.out).mono ?_); (case side1 => exact Kd.pC ((Kd.R_reads' HO_5.out).2.2)); (case side2 => exact (Kd.R_reads' HO_5.out).2.1); rintro e w138 ⟨v332, rfl, ho0, hb⟩; refine ⟨_, rfl, ?_⟩; have n0_ := Aside0.mk (Kd.R_elder' (Kd.pR HO_5.out) (Kd.R_base ho0) hb); have n1_ := Aside0.mk (Kd.R_elder' (Kd.pR HO321.out) (Kd.R_base ho0) hb); have n2_ := Aside0.mk (Kd.R_elder' (Kd.pR HO325.out) (Kd.R_base ho0) hb); have n3_ := Aside0.mk (Kd.R_elder' (Kd.pR HO329.out) (Kd.R_base ho0) hb); have n4_ := Aside0.mk (Kd.R_lower (Kd.R_new' (Kd.R_new' (Kd.R_new' (Kd.R_new' ho0 (Kd.R_lt (Kd.pR HO_5.out))) (Kd.R_lt (Kd.pR HO321.out))) (Kd.R_lt (Kd.pR HO325.out))) (Kd.R_lt (Kd.pR HO329.out))) (below_size (pB HB.out))); have n5_ := Aside0.mk (below_step (pB HB.out) hb); clear HO_5; clear HO321; clear HO325; clear HO329; clear HB; have HO_5 := n0_; have HO321 := n1_; have HO325 := n2_; have HO329 := n3_; have HO333 := n4_; have HB := n5_; clear n0_ n1_ n2_ n3_ n4_ n5_; (try clear hb); (try clear hb2); (try clear hk); (try clear hi); (try clear ho0)) | ((with_reducible refine gate_callee (f := 38) rfl ?_); refine goesE (some 120) rfl rfl Try.func38 (by kernel_rfl) rfl #[.slice Ao134 x5_2.length co134, .int .u32 12] rfl ?_; (with_reducible refine (probe_Drop.calls k2 _ _ x5_2 12 t334 t335 _ ?side1 ?side2 A117.out).mono ?_); (case side1 => exact Kd.pC ((Kd.R_reads' HO_5.out).2.2)); (case side2 => exact (Kd.R_reads' HO_5.out).2.1); rintro e w139 ⟨v336, rfl, ho0, hb⟩; refine ⟨_, rfl, ?_⟩; have n0_ := Aside0.mk (Kd.R_elder' (Kd.pR HO_5.out) (Kd.R_base ho0) hb); have n1_ := Aside0.mk (Kd.R_elder' (Kd.pR HO321.out) (Kd.R_base ho0) hb); have n2_ := Aside0.mk (Kd.R_elder' (Kd.pR HO325.out) (Kd.R_base ho0) hb); have n3_ := Aside0.mk (Kd.R_elder' (Kd.pR HO329.out) (Kd.R_base ho0) hb); have n4_ := Aside0.mk (Kd.R_elder' (Kd.pR HO333.out) (Kd.R_base ho0) hb); have n5_ := Aside0.mk (Kd.R_lower (Kd.R_new' (Kd.R_new' (Kd.R_new' (Kd.R_new' (Kd.R_new' ho0 (Kd.R_lt (Kd.pR HO_5.out))) (Kd.R_lt (Kd.pR HO321.out))) (Kd.R_lt (Kd.pR HO325.out))) (Kd.R_lt (Kd.pR HO329.out))) (Kd.R_lt (Kd.pR HO333.out))) (below_size (pB HB.out))); have n6_ := Aside0.mk (below_step (pB HB.out) hb); clear HO_5; clear HO321; clear HO325; clear HO329; clear HO333; clear HB; have HO_5 := n0_; have HO321 := n1_; have HO325 := n2_; have HO329 := n3_; have HO333 := n4_; have HO337 := n5_; have HB := n6_; clear n0_ n1_ n2_ n3_ n4_ n5_ n6_; (try clear hb); (try clear hb2); (try clear hk); (try clear hi); (try clear ho0)) | ((with_reducible refine gate_callee (f := 14) rfl ?_); refine goesE (some 125) rfl rfl Try.func14 (by kernel_rfl) rfl #[.slice Ao134 x5_2.length co134, .int .u32 4294967295] rfl ?_; (with_reducible refine (probe_Find.calls k2 _ _ x5_2 4294967295 t338 t339 _ ?side1 ?side2 A118.out).mono ?_); (case side1 => exact Kd.pC ((Kd.R_reads' HO_5.out).2.2)); (case side2 => exact (Kd.R_reads' HO_5.out).2.1); rintro e w140 ⟨rfl, hb⟩; refine ⟨_, rfl, ?_⟩; have n0_ := Aside0.mk (Kd.R_below (Kd.pR HO_5.out) hb); have n1_ := Aside0.mk (Kd.R_below (Kd.pR HO321.out) hb); have n2_ := Aside0.mk (Kd.R_below (Kd.pR HO325.out) hb); have n3_ := Aside0.mk (Kd.R_below (Kd.pR HO329.out) hb); have n4_ := Aside0.mk (Kd.R_below (Kd.pR HO333.out) hb); have n5_ := Aside0.mk (Kd.R_below (Kd.pR HO337.out) hb); have n6_ := Aside0.mk (below_step (pB HB.out) hb); clear HO_5; clear HO321; clear HO325; clear HO329; clear HO333; clear HO337; clear HB; have HO_5 := n0_; have HO321 := n1_; have HO325 := n2_; have HO329 := n3_; have HO333 := n4_; have HO337 := n5_; have HB := n6_; clear n0_ n1_ n2_ n3_ n4_ n5_ n6_; (try clear hb); (try clear hb2); (try clear hk); (try clear hi)) | ((with_reducible refine gate_callee (f := 38) rfl ?_); refine goesE (some 129) rfl rfl Try.func38 (by kernel_rfl) rfl #[.slice none 0 0, .int .u32 0] rfl ?_; (refine (probe_Drop.calls k2 _ _ ([] : List (S71)) 0 t340 t341 _ ?side1 ?side2 A119.out).mono ?_); (case side1 => exact Kd.C_nil _ _); (case side2 => exact Nat.le_refl _); rintro e w141 ⟨v342, rfl, ho0, hb⟩; refine ⟨_, rfl, ?_⟩; have n0_ := Aside0.mk (Kd.R_elder' (Kd.pR HO_5.out) (Kd.R_base ho0) hb); have n1_ := Aside0.mk (Kd.R_elder' (Kd.pR HO321.out) (Kd.R_base ho0) hb); have n2_ := Aside0.mk (Kd.R_elder' (Kd.pR HO325.out) (Kd.R_base ho0) hb); have n3_ := Aside0.mk (Kd.R_elder' (Kd.pR HO329.out) (Kd.R_base ho0) hb); have n4_ := Aside0.mk (Kd.R_elder' (Kd.pR HO333.out) (Kd.R_base ho0) hb); have n5_ := Aside0.mk (Kd.R_elder' (Kd.pR HO337.out) (Kd.R_base ho0) hb); have n6_ := Aside0.mk (Kd.R_lower (Kd.R_new' (Kd.R_new' (Kd.R_new' (Kd.R_new' (Kd.R_new' (Kd.R_new' ho0 (Kd.R_lt (Kd.pR HO_5.out))) (Kd.R_lt (Kd.pR HO321.out))) (Kd.R_lt (Kd.pR HO325.out))) (Kd.R_lt (Kd.pR HO329.out))) (Kd.R_lt (Kd.pR HO333.out))) (Kd.R_lt (Kd.pR HO337.out))) (below_size (pB HB.out))); have n7_ := Aside0.mk (below_step (pB HB.out) hb); clear HO_5; clear HO321; clear HO325; clear HO329; clear HO333; clear HO337; clear HB; have HO_5 := n0_; have HO321 := n1_; have HO325 := n2_; have HO329 := n3_; have HO333 := n4_; have HO337 := n5_; have HO343 := n6_; have HB := n7_; clear n0_ n1_ n2_ n3_ n4_ n5_ n6_ n7_; (try clear hb); (try clear hb2); (try clear hk); (try clear hi); (try clear ho0)) | ((with_reducible refine gate_callee (f := 36) rfl ?_); refine goesE (some 133) rfl rfl Try.func36 (by kernel_rfl) rfl #[.slice none 0 0, .int .u32 0, .int .i64 99] rfl ?_; (refine (probe_Put.calls k2 _ _ ([] : List (S71)) 0 99 t344 t345 _ ?side1 ?side2 A120.out).mono ?_); (case side1 => exact Kd.C_nil _ _); (case side2 => exact Nat.le_refl _); rintro e w142 ⟨v346, rfl, ho0, hb⟩; refine ⟨_, rfl, ?_⟩; have n0_ := Aside0.mk (Kd.R_elder' (Kd.pR HO_5.out) (Kd.R_base ho0) hb); have n1_ := Aside0.mk (Kd.R_elder' (Kd.pR HO321.out) (Kd.R_base ho0) hb); have n2_ := Aside0.mk (Kd.R_elder' (Kd.pR HO325.out) (Kd.R_base ho0) hb); have n3_ := Aside0.mk (Kd.R_elder' (Kd.pR HO329.out) (Kd.R_base ho0) hb); have n4_ := Aside0.mk (Kd.R_elder' (Kd.pR HO333.out) (Kd.R_base ho0) hb); have n5_ := Aside0.mk (Kd.R_elder' (Kd.pR HO337.out) (Kd.R_base ho0) hb); have n6_ := Aside0.mk (Kd.R_elder' (Kd.pR HO343.out) (Kd.R_base ho0) hb); have n7_ := Aside0.mk (Kd.R_lower (Kd.R_new' (Kd.R_new' (Kd.R_new' (Kd.R_new' (Kd.R_new' (Kd.R_new' (Kd.R_new' ho0 (Kd.R_lt (Kd.pR HO_5.out))) (Kd.R_lt (Kd.pR HO321.out))) (Kd.R_lt (Kd.pR HO325.out))) (Kd.R_lt (Kd.pR HO329.out))) (Kd.R_lt (Kd.pR HO333.out))) (Kd.R_lt (Kd.pR HO337.out))) (Kd.R_lt (Kd.pR HO343.out))) (below_size (pB HB.out))); have n8_ := Aside0.mk (below_step (pB HB.out) hb); clear HO_5; clear HO321; clear HO325; clear HO329; clear HO333; clear HO337; clear HO343; clear HB; have HO_5 := n0_; have HO321 := n1_; have HO325 := n2_; have HO329 := n3_; have HO333 := n4_; have HO337 := n5_; have HO343 := n6_; have HO347 := n7_; have HB := n8_; clear n0_ n1_ n2_ n3_ n4_ n5_ n6_ n7_ n8_; (try clear hb); (try clear hb2); (try clear hk); (try clear hi); (try clear ho0)) | ((with_reducible refine gate_callee (f := 16) rfl ?_); refine goesE (some 137) rfl rfl Try.func16 (by kernel_rfl) rfl #[.slice none 0 0, .int .u32 0] rfl ?_; (refine (probe_Steps.calls k2 _ _ ([] : List (S71)) 0 t348 t349 _ ?side1 ?side2 A121.out).mono ?_); (case side1 => exact Kd.C_nil _ _); (case side2 => exact Nat.le_refl _); rintro e w143 ⟨rfl, hb⟩; refine ⟨_, rfl, ?_⟩; have n0_ := Aside0.mk (Kd.R_below (Kd.pR HO_5.out) hb); have n1_ := Aside0.mk (Kd.R_below (Kd.pR HO321.out) hb); have n2_ := Aside0.mk (Kd.R_below (Kd.pR HO325.out) hb); have n3_ := Aside0.mk (Kd.R_below (Kd.pR HO329.out) hb); have n4_ := Aside0.mk (Kd.R_below (Kd.pR HO333.out) hb); have n5_ := Aside0.mk (Kd.R_below (Kd.pR HO337.out) hb); have n6_ := Aside0.mk (Kd.R_below (Kd.pR HO343.out) hb); have n7_ := Aside0.mk (Kd.R_below (Kd.pR HO347.out) hb); have n8_ := Aside0.mk (below_step (pB HB.out) hb); clear HO_5; clear HO321; clear HO325; clear HO329; clear HO333; clear HO337; clear HO343; clear HO347; clear HB; have HO_5 := n0_; have HO321 := n1_; have HO325 := n2_; have HO329 := n3_; have HO333 := n4_; have HO337 := n5_; have HO343 := n6_; have HO347 := n7_; have HB := n8_; clear n0_ n1_ n2_ n3_ n4_ n5_ n6_ n7_ n8_; (try clear hb); (try clear hb2); (try clear hk); (try clear hi)) | (go_at_call 42; (with_reducible refine (spigotlaw14_alive.calls k2   _ A122.out).mono ?_); rintro e w144 ⟨rfl, hb⟩; have n0_ := Aside0.mk (Kd.R_below (Kd.pR HO_5.out) hb); have n1_ := Aside0.mk (Kd.R_below (Kd.pR HO321.out) hb); have n2_ := Aside0.mk (Kd.R_below (Kd.pR HO325.out) hb); have n3_ := Aside0.mk (Kd.R_below (Kd.pR HO329.out) hb); have n4_ := Aside0.mk (Kd.R_below (Kd.pR HO333.out) hb); have n5_ := Aside0.mk (Kd.R_below (Kd.pR HO337.out) hb); have n6_ := Aside0.mk (Kd.R_below (Kd.pR HO343.out) hb); have n7_ := Aside0.mk (Kd.R_below (Kd.pR HO347.out) hb); have n8_ := Aside0.mk (below_step (pB HB.out) hb); clear HO_5; clear HO321; clear HO325; clear HO329; clear HO333; clear HO337; clear HO343; clear HO347; clear HB; have HO_5 := n0_; have HO321 := n1_; have HO325 := n2_; have HO329 := n3_; have HO333 := n4_; have HO337 := n5_; have HO343 := n6_; have HO347 := n7_; have HB := n8_; clear n0_ n1_ n2_ n3_ n4_ n5_ n6_ n7_ n8_; (try clear hb); (try clear hb2); (try clear hk); (try clear hi)) | (go_at_call 41; (with_reducible refine (probe_New.calls  t351 _ A124.out).mono ?_); rintro e w145 ⟨v352, rfl, ho0, hb⟩; have n8_ := Aside0.mk (Kd.R_lower (Kd.R_new' (Kd.R_new' (Kd.R_new' (Kd.R_new' (Kd.R_new' (Kd.R_new' (Kd.R_new' (Kd.R_new' ho0 (Kd.R_lt (Kd.pR HO_5.out))) (Kd.R_lt (Kd.pR HO321.out))) (Kd.R_lt (Kd.pR HO325.out))) (Kd.R_lt (Kd.pR HO329.out))) (Kd.R_lt (Kd.pR HO333.out))) (Kd.R_lt (Kd.pR HO337.out))) (Kd.R_lt (Kd.pR HO343.out))) (Kd.R_lt (Kd.pR HO347.out))) (below_size (pB HB.out))); have n9_ := Aside0.mk (below_step (pB HB.out) hb); (try clear HO_5); (try clear HO321); (try clear HO325); (try clear HO329); (try clear HO333); (try clear HO337); (try clear HO343); (try clear HO347); clear HB; have HO353 := n8_; have HB := n9_; clear n8_ n9_; (try clear hb); (try clear hb2); (try clear hk); (try clear hi); (try clear ho0); obtain ⟨Ao146, co146, eo146⟩ := Kd.R_slice HO353.out; subst eo146))
                                  go_ret
                                  exact ⟨by first | rfl | (simp [errW_none, errW_some] <;> rfl) | (simp [*, errW_none, errW_some] <;> rfl) | (rw [HRT.out] <;> rfl) | (simp [HRT.out]; done) | (have h_ := HRT.out; simp [*] at h_ ⊢ <;> first | done | assumption | omega) | (have h_ := HRT.out; simp [*] at h_; done), pB HB.out⟩
                                · rw [if_neg c133] at H
                                  have c133b0 : (t345 == 8) = false := beq_eq_false_iff_ne.mpr c133
                                  have c133b1 : (t345 != 8) = true := bne_iff_ne.mpr c133
                                  exact absurd H (by simp)
                              · rw [if_neg c132] at H
                                have c132b0 : (t341 == 8) = false := beq_eq_false_iff_ne.mpr c132
                                have c132b1 : (t341 != 8) = true := bne_iff_ne.mpr c132
                                exact absurd H (by simp)
                            · rw [if_neg c131] at H
                              have c131b0 : (t339 == 6) = false := beq_eq_false_iff_ne.mpr c131
                              have c131b1 : (t339 != 6) = true := bne_iff_ne.mpr c131
                              exact absurd H (by simp)
                          · rw [if_neg c130] at H
                            have c130b0 : (t335 == 6) = false := beq_eq_false_iff_ne.mpr c130
                            have c130b1 : (t335 != 6) = true := bne_iff_ne.mpr c130
                            exact absurd H (by simp)
                        · rw [if_neg c129] at H
                          have c129b0 : (t331 == 2) = false := beq_eq_false_iff_ne.mpr c129
                          have c129b1 : (t331 != 2) = true := bne_iff_ne.mpr c129
                          exact absurd H (by simp)
                      · rw [if_neg c128] at H
                        have c128b0 : (t327 == 2) = false := beq_eq_false_iff_ne.mpr c128
                        have c128b1 : (t327 != 2) = true := bne_iff_ne.mpr c128
                        exact absurd H (by simp)
                    · rw [if_neg c127] at H
                      have c127b0 : (t323 == 14) = false := beq_eq_false_iff_ne.mpr c127
                      have c127b1 : (t323 != 14) = true := bne_iff_ne.mpr c127
                      exact absurd H (by simp)
                  · rw [if_neg c126] at H
                    have c126b0 : (t319 == 18) = false := beq_eq_false_iff_ne.mpr c126
                    have c126b1 : (t319 != 18) = true := bne_iff_ne.mpr c126
                    exact absurd H (by simp)
                · rw [if_neg c125] at H
                  have c125b0 : ((t351.length : Int) == 16) = false := beq_eq_false_iff_ne.mpr c125
                  have c125b1 : ((t351.length : Int) != 16) = true := bne_iff_ne.mpr c125
                  exact absurd H (by simp)
              · replace c123 := Bool.eq_false_iff.mpr c123
                subst c123
                have H1 : (none) = some true := by rw [if_neg (show ¬ (false = true) by decide)] at H; exact H
                clear H
                have H := H1
                clear H1
                exact absurd H (by simp)

/-- THE ONE PURE STATEMENT of spigotlaw14_ProbeNames. -/
def spigotlaw14_ProbeNames.Pure : Prop := ∃ k, spigotlaw14_ProbeNames.f k  = some true

end Go.Proofs.Ytlgfopdindklnaa.PProbe
