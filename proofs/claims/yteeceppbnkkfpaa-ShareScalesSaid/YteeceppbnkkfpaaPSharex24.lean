-- printed by a program of this session (a turned copy of the kit's print); Lean checks it
import Derived.Test.YteeceppbnkkfpaaPSharex0
namespace Go.Proofs.Yteeceppbnkkfpaa.PShare
open Go.RowKit Go.Proofs.YteeceppbnkkfpaaW.PrintWords Go.Proofs.YteeceppbnkkfpaaW.PrintLast Go.Proofs.YteeceppbnkkfpaaW.PrintMore
attribute [local go_sem] max2_int min2_int max_two min_two max_three min_three max_four min_four   -- for this text's walks alone
set_option linter.unusedVariables false
set_option linter.unusedSimpArgs false

/-! ### spigotref36_level: function 29 -/
mutual
def spigotref36_level.l0 : Nat → List (S37) → Int → List Bool → Int → Option (Int × Int)
  | 0, _, _, _, _ => none
  | k + 1, x0, x1, x6, x7 => if x7 < (x0.length : Int) then (if 0 ≤ x7 then (if x7 < (x6.length : Int) then (spigotref36_level.l0 k x0 x1 (x6.set (x7 : Int).toNat true) (wrap64 (x7 + 1))) else (none)) else (none)) else (spigotref36_level.l1 k x0 x1 x6 0 1 true)
def spigotref36_level.l1 : Nat → List (S37) → Int → List Bool → Int → Int → Bool → Option (Int × Int)
  | 0, _, _, _, _, _, _ => none
  | k + 1, x0, x1, x6, x8, x9, x10 => if x10 = true then (spigotref36_level.l2 k x0 x1 x6 x1 0 0) else (some (x8, x9))
def spigotref36_level.l2 : Nat → List (S37) → Int → List Bool → Int → Int → Int → Option (Int × Int)
  | 0, _, _, _, _, _, _ => none
  | k + 1, x0, x1, x6, x8, x9, x11 => if x11 < (x0.length : Int) then (if 0 ≤ x11 then (if x11 < (x6.length : Int) then (if rdOf false x6 x11 = true then (spigotref36_level.l2 k x0 x1 x6 x8 (wrap64 (x9 + ((rd_T37 x0 x11).f1))) (wrap64 (x11 + 1))) else (spigotref36_level.l2 k x0 x1 x6 (wrap64 (x8 - ((rd_T37 x0 x11).f0))) x9 (wrap64 (x11 + 1)))) else (none)) else (none)) else (spigotref36_level.l3 k x0 x1 x6 x8 x9 false 0)
def spigotref36_level.l3 : Nat → List (S37) → Int → List Bool → Int → Int → Bool → Int → Option (Int × Int)
  | 0, _, _, _, _, _, _, _ => none
  | k + 1, x0, x1, x6, x8, x9, x10, x12 => if x12 < (x0.length : Int) then (if 0 ≤ x12 then (if x12 < (x6.length : Int) then (if rdOf false x6 x12 = true then (if (wrap64 (((rd_T37 x0 x12).f0) * x9)) ≤ (wrap64 (x8 * ((rd_T37 x0 x12).f1))) then (spigotref36_level.l3 k x0 x1 (x6.set (x12 : Int).toNat false) x8 x9 true (wrap64 (x12 + 1))) else (spigotref36_level.l3 k x0 x1 x6 x8 x9 x10 (wrap64 (x12 + 1)))) else (spigotref36_level.l3 k x0 x1 x6 x8 x9 x10 (wrap64 (x12 + 1)))) else (none)) else (none)) else (spigotref36_level.l1 k x0 x1 x6 x8 x9 x10)
end
def spigotref36_level.f (k : Nat) (l0 : List (S37)) (a1 : Int) : Option (Int × Int) := if 0 ≤ (l0.length : Int) then (if ((l0.length : Int) : Int).toNat ≤ 281474976710656 then (spigotref36_level.l0 k l0 a1 (List.replicate ((l0.length : Int) : Int).toNat false) 0) else (none)) else (none)
theorem spigotref36_level.mono_l : ∀ k, (∀ y0 y1 y2 y3, LeO (spigotref36_level.l0 k y0 y1 y2 y3) (spigotref36_level.l0 (k + 1) y0 y1 y2 y3)) ∧ (∀ y0 y1 y2 y3 y4 y5, LeO (spigotref36_level.l1 k y0 y1 y2 y3 y4 y5) (spigotref36_level.l1 (k + 1) y0 y1 y2 y3 y4 y5)) ∧ (∀ y0 y1 y2 y3 y4 y5, LeO (spigotref36_level.l2 k y0 y1 y2 y3 y4 y5) (spigotref36_level.l2 (k + 1) y0 y1 y2 y3 y4 y5)) ∧ (∀ y0 y1 y2 y3 y4 y5 y6, LeO (spigotref36_level.l3 k y0 y1 y2 y3 y4 y5 y6) (spigotref36_level.l3 (k + 1) y0 y1 y2 y3 y4 y5 y6))
  | 0 => ⟨fun _ _ _ _ r h => by simp [spigotref36_level.l0] at h, fun _ _ _ _ _ _ r h => by simp [spigotref36_level.l1] at h, fun _ _ _ _ _ _ r h => by simp [spigotref36_level.l2] at h, fun _ _ _ _ _ _ _ r h => by simp [spigotref36_level.l3] at h⟩
  | k + 1 => by
    obtain ⟨ih0, ih1, ih2, ih3⟩ := spigotref36_level.mono_l k
    refine ⟨?_, ?_, ?_, ?_⟩
    · intro y0 y1 y2 y3
      unfold spigotref36_level.l0
      repeat' first
      | (with_reducible exact ih0 _ _ _ _)
      | (with_reducible exact ih1 _ _ _ _ _ _)
      | (with_reducible exact ih2 _ _ _ _ _ _)
      | (with_reducible exact ih3 _ _ _ _ _ _ _)
      | (with_reducible exact LeO.refl _)
      | (with_reducible exact LeO.none _)
      | (with_reducible refine LeO.ite ?_ ?_)
      | (with_reducible refine LeO.bind ?_ (fun _ => ?_))
      | exact ih0 _ _ _ _
      | exact ih1 _ _ _ _ _ _
      | exact ih2 _ _ _ _ _ _
      | exact ih3 _ _ _ _ _ _ _
      | exact LeO.none _
      | refine LeO.ite ?_ ?_
      | refine LeO.bind ?_ (fun _ => ?_)
    · intro y0 y1 y2 y3 y4 y5
      unfold spigotref36_level.l1
      repeat' first
      | (with_reducible exact ih0 _ _ _ _)
      | (with_reducible exact ih1 _ _ _ _ _ _)
      | (with_reducible exact ih2 _ _ _ _ _ _)
      | (with_reducible exact ih3 _ _ _ _ _ _ _)
      | (with_reducible exact LeO.refl _)
      | (with_reducible exact LeO.none _)
      | (with_reducible refine LeO.ite ?_ ?_)
      | (with_reducible refine LeO.bind ?_ (fun _ => ?_))
      | exact ih0 _ _ _ _
      | exact ih1 _ _ _ _ _ _
      | exact ih2 _ _ _ _ _ _
      | exact ih3 _ _ _ _ _ _ _
      | exact LeO.none _
      | refine LeO.ite ?_ ?_
      | refine LeO.bind ?_ (fun _ => ?_)
    · intro y0 y1 y2 y3 y4 y5
      unfold spigotref36_level.l2
      repeat' first
      | (with_reducible exact ih0 _ _ _ _)
      | (with_reducible exact ih1 _ _ _ _ _ _)
      | (with_reducible exact ih2 _ _ _ _ _ _)
      | (with_reducible exact ih3 _ _ _ _ _ _ _)
      | (with_reducible exact LeO.refl _)
      | (with_reducible exact LeO.none _)
      | (with_reducible refine LeO.ite ?_ ?_)
      | (with_reducible refine LeO.bind ?_ (fun _ => ?_))
      | exact ih0 _ _ _ _
      | exact ih1 _ _ _ _ _ _
      | exact ih2 _ _ _ _ _ _
      | exact ih3 _ _ _ _ _ _ _
      | exact LeO.none _
      | refine LeO.ite ?_ ?_
      | refine LeO.bind ?_ (fun _ => ?_)
    · intro y0 y1 y2 y3 y4 y5 y6
      unfold spigotref36_level.l3
      repeat' first
      | (with_reducible exact ih0 _ _ _ _)
      | (with_reducible exact ih1 _ _ _ _ _ _)
      | (with_reducible exact ih2 _ _ _ _ _ _)
      | (with_reducible exact ih3 _ _ _ _ _ _ _)
      | (with_reducible exact LeO.refl _)
      | (with_reducible exact LeO.none _)
      | (with_reducible refine LeO.ite ?_ ?_)
      | (with_reducible refine LeO.bind ?_ (fun _ => ?_))
      | exact ih0 _ _ _ _
      | exact ih1 _ _ _ _ _ _
      | exact ih2 _ _ _ _ _ _
      | exact ih3 _ _ _ _ _ _ _
      | exact LeO.none _
      | refine LeO.ite ?_ ?_
      | refine LeO.bind ?_ (fun _ => ?_)
theorem spigotref36_level.mono : ∀ a0 a1 k, LeO (spigotref36_level.f k a0 a1) (spigotref36_level.f (k + 1) a0 a1) := by
  intro a0 a1 k
  obtain ⟨ih0, ih1, ih2, ih3⟩ := spigotref36_level.mono_l k
  unfold spigotref36_level.f
  repeat' first
      | (with_reducible exact ih0 _ _ _ _)
      | (with_reducible exact ih1 _ _ _ _ _ _)
      | (with_reducible exact ih2 _ _ _ _ _ _)
      | (with_reducible exact ih3 _ _ _ _ _ _ _)
      | (with_reducible exact LeO.refl _)
      | (with_reducible exact LeO.none _)
      | (with_reducible refine LeO.ite ?_ ?_)
      | (with_reducible refine LeO.bind ?_ (fun _ => ?_))
      | exact ih0 _ _ _ _
      | exact ih1 _ _ _ _ _ _
      | exact ih2 _ _ _ _ _ _
      | exact ih3 _ _ _ _ _ _ _
      | exact LeO.none _
      | refine LeO.ite ?_ ?_
      | refine LeO.bind ?_ (fun _ => ?_)
set_option maxHeartbeats 8000000 in
set_option maxRecDepth 100000 in
theorem spigotref36_level.calls (k : Nat) (A0 : Option Addr) (c0 : Nat) (l0 : List (S37)) (a1 : Int) (r1 : Int) (r2 : Int) (w : World) (hr0 : Kd.C k37 w A0 l0.length l0) (hc0 : l0.length ≤ c0) (h : spigotref36_level.f k l0 a1 = some (r1, r2)) :
    Calls Try.prog 29 #[.slice A0 l0.length c0, .int .i64 a1] w fun e w' => e = .returned (.tuple #[.int .i64 r1, .int .i64 r2]) ∧ Below w.heap.size w w' := by
  have HR0 := Aside0.mk hr0
  have HC0 := Aside0.mk hc0
  clear hr0 hc0
  have HB := Aside0.mk (Below.refl w.heap.size w)
  have H : (if 0 ≤ (l0.length : Int) then (if ((l0.length : Int) : Int).toNat ≤ 281474976710656 then (spigotref36_level.l0 k l0 a1 (List.replicate ((l0.length : Int) : Int).toNat false) 0) else (none)) else (none)) = some (r1, r2) := h
  (try clear h)
  by_cases c3 : 0 ≤ (l0.length : Int)
  · rw [if_pos c3] at H
    have c3b0 := eq_true c3
    have c3b1 : decide (0 ≤ (l0.length : Int)) = true := decide_eq_true c3
    clear c3
    by_cases c4 : ((l0.length : Int) : Int).toNat ≤ 281474976710656
    · rw [if_pos c4] at H
      have c4b0 := eq_true c4
      have c4b1 : decide (((l0.length : Int) : Int).toNat ≤ 281474976710656) = true := decide_eq_true c4
      clear c4
      obtain ⟨y491, hy491⟩ : ∃ y_ : List Bool, y_ = (List.replicate ((l0.length : Int) : Int).toNat false) := ⟨_, rfl⟩
      replace H : (spigotref36_level.l0 k l0 a1 y491 0) = some (r1, r2) := by first | (rw [hy491]; with_reducible exact H) | (have H2_ := (Option.bind_some _ _).symm.trans H; rw [hy491]; with_reducible exact H2_) | (have H2_ := (Option.bind_some _ _).symm.trans H; with_reducible exact H2_) | with_reducible exact H | (rw [hy491]; exact H) | exact H
      have Ny491 := Aside0.mk hy491
      (try clear hy491)
      have H' := Aside0.mk H
      clear H
      go_enter Try.func29, Try.ntmps29
      go_wp2_with (first | ((with_reducible refine gate_dst (N := 15) rfl ?_); refine Kd.R_make Kd.bool _ 4 rfl (N := 15) rfl 71 _ _ rfl (l0.length : Int) rfl rfl Try.underlying71 (.bool false) 1 info4 rfl (by decide) (by omega) false (ok := fun _ => True) (okp := fun _ => True) rfl (fun _ hk => hk) trivial od (Nat.le_trans (Nat.mul_le_mul_right _ (od : (l0.length : Int).toNat ≤ 281474976710656)) (by omega)) (Below.refl _ _) (Nat.le_refl _) ?_; intro v492 w5 ho6 hb hg_ hnew_; clear hg_ hnew_; (first | rw [← Ny491.out] at ho6 | (simp only [Int.reduceToNat] at ho6; rw [← Ny491.out] at ho6)); have n0_ := Aside0.mk (Kd.R_lower ho6 (below_size (pB HB.out))); have n1_ := Aside0.mk (below_step (pB HB.out) hb); clear HB; have HO493 := n0_; have HB := n1_; clear n0_ n1_; clear hb ho6))
      repeat (go_quiet (first | ((with_reducible refine gate_dst (N := 15) rfl ?_); refine Kd.R_make Kd.bool _ 4 rfl (N := 15) rfl 71 _ _ rfl (l0.length : Int) rfl rfl Try.underlying71 (.bool false) 1 info4 rfl (by decide) (by omega) false (ok := fun _ => True) (okp := fun _ => True) rfl (fun _ hk => hk) trivial od (Nat.le_trans (Nat.mul_le_mul_right _ (od : (l0.length : Int).toNat ≤ 281474976710656)) (by omega)) (Below.refl _ _) (Nat.le_refl _) ?_; intro v492 w5 ho6 hb hg_ hnew_; clear hg_ hnew_; (first | rw [← Ny491.out] at ho6 | (simp only [Int.reduceToNat] at ho6; rw [← Ny491.out] at ho6)); have n0_ := Aside0.mk (Kd.R_lower ho6 (below_size (pB HB.out))); have n1_ := Aside0.mk (below_step (pB HB.out) hb); clear HB; have HO493 := n0_; have HB := n1_; clear n0_ n1_; clear hb ho6)); try go_wp2_with (first | ((with_reducible refine gate_dst (N := 15) rfl ?_); refine Kd.R_make Kd.bool _ 4 rfl (N := 15) rfl 71 _ _ rfl (l0.length : Int) rfl rfl Try.underlying71 (.bool false) 1 info4 rfl (by decide) (by omega) false (ok := fun _ => True) (okp := fun _ => True) rfl (fun _ hk => hk) trivial od (Nat.le_trans (Nat.mul_le_mul_right _ (od : (l0.length : Int).toNat ≤ 281474976710656)) (by omega)) (Below.refl _ _) (Nat.le_refl _) ?_; intro v492 w5 ho6 hb hg_ hnew_; clear hg_ hnew_; (first | rw [← Ny491.out] at ho6 | (simp only [Int.reduceToNat] at ho6; rw [← Ny491.out] at ho6)); have n0_ := Aside0.mk (Kd.R_lower ho6 (below_size (pB HB.out))); have n1_ := Aside0.mk (below_step (pB HB.out) hb); clear HB; have HO493 := n0_; have HB := n1_; clear n0_ n1_; clear hb ho6)))
      go_loopg [7] k (fun kq v7 w' => ∃ (x6_1 : List Bool) (x7_1 : Int), v7 = .int .i64 x7_1 ∧ Aside0 (spigotref36_level.l0 kq l0 a1 x6_1 x7_1 = some (r1, r2)) ∧ Aside0 (kq ≤ k) ∧ Aside0 (Kd.R Kd.bool 4 w' w.heap.size (fun _ => True) v492 x6_1) ∧ Aside0 (Below w.heap.size w w'))
      case atStart => exact ⟨(y491), (0), (by first | rfl | (simp; done) | (simp [*]; done)), H', ⟨Nat.le_refl _⟩, ⟨Kd.pR HO493.out⟩, ⟨pB HB.out⟩⟩
      case round =>
        clear H'
        try clear c2
        try clear p2
        try clear c3
        try clear c3b0
        try clear c3b1
        try clear c4
        try clear c4b0
        try clear c4b1
        obtain ⟨x6_1, x7_1, rfl, HA, HK1, HO_6, HB⟩ := hrel
        cases gk with
        | zero => exact absurd HA.out (by simp [spigotref36_level.l0])
        | succ k1 =>
          have H := HA.out
          clear HA
          simp only [spigotref36_level.l0] at H
          by_cases c7 : x7_1 < (l0.length : Int)
          · rw [if_pos c7] at H
            have c7b0 : decide (x7_1 < (l0.length : Int)) = true := decide_eq_true c7
            clear c7
            by_cases c8 : 0 ≤ x7_1
            · rw [if_pos c8] at H
              have c8b0 : decide (0 ≤ x7_1) = true := decide_eq_true c8
              clear c8
              by_cases c9 : x7_1 < (x6_1.length : Int)
              · rw [if_pos c9] at H
                have c9b0 : decide (x7_1 < (x6_1.length : Int)) = true := decide_eq_true c9
                clear c9
                obtain ⟨y494, hy494⟩ : ∃ y_ : List Bool, y_ = (x6_1.set (x7_1 : Int).toNat true) := ⟨_, rfl⟩
                replace H : (spigotref36_level.l0 k1 l0 a1 y494 (wrap64 (x7_1 + 1))) = some (r1, r2) := by first | (rw [hy494]; with_reducible exact H) | (have H2_ := (Option.bind_some _ _).symm.trans H; rw [hy494]; with_reducible exact H2_) | (have H2_ := (Option.bind_some _ _).symm.trans H; with_reducible exact H2_) | with_reducible exact H | (rw [hy494]; exact H) | exact H
                have Ny494 := Aside0.mk hy494
                (try clear hy494)
                have H' := Aside0.mk H
                clear H
                have p10 : 0 ≤ (x7_1 : Int) := od
                have q10 : (x7_1 : Int) < ((x6_1.length : Int) : Int) := od
                obtain ⟨go10, co10, eo10, gb10, gl10, cl10, HG10⟩ := Kd.R_form HO_6.out (by omega)
                (first | cases eo10 | (injection eo10 with ea_ en_ ec_; (first | subst ea_ | (injection ea_ with ea_; subst ea_)); subst ec_; clear en_))
                have GB10 := Aside0.mk gb10
                have GG10 := Aside0.mk HG10
                clear gb10 gl10 HG10
                obtain ⟨hx10_0, hf10_0⟩ := Kd.R_celln false HO_6.out (x7_1 : Int) p10 q10
                replace p10 := eq_true p10
                replace q10 := eq_true q10
                have HP11 := Kd.R_putg HO_6.out (x7_1 : Int) true
                go_wp2_with (first | ((with_reducible refine gate_store (t := 4) (p := 24) rfl ?_); (try (rw [drewN_self wr]; generalize hq_ : World.drewN wr _ = wr; have n0_ := Aside0.mk (Kd.R_at hq_ HO_6.out); have n1_ := Aside0.mk (below_at hq_ HB.out); clear hq_ HO_6 HB; have HO_6 := n0_; have HB := n1_; clear n0_ n1_; (try (obtain ⟨hx10_0, hf10_0⟩ := Kd.R_celln false HO_6.out (x7_1 : Int) (of_eq_true p10) (of_eq_true q10))); (try (have HP11 := Kd.R_putg HO_6.out (x7_1 : Int) true)))); refine store_event (t := 4) (p := 24) (v := ?vo_w12) (w1 := (wr.setCell ⟨go10, (x7_1 : Int).toNat, none⟩ (.bool true))) ?hg ?ho ?hn ?hr ?_; (case ho => rfl); (case hg => rfl); (case hn => rfl); (case hr => first | (go_simp; done) | (go_simp; rfl)); intro w12 hw; have hg : wr.grownBy w12 (some go10) := (by rw [hw]; exact HP11.2); have hp_ : Kd.R Kd.bool 4 w12 w.heap.size (fun _ => True) (.slice (some ⟨go10, 0, none⟩) x6_1.length co10) y494 := (by rw [hw, Ny494.out]; exact HP11.1); clear HP11; have n0_ := Aside0.mk (hp_); have n1_ := Aside0.mk ((by rw [hw]; exact below_set (HB.out) GB10.out : Below w.heap.size w w12)); clear HO_6; clear HB; have HO_6 := n0_; have HB := n1_; clear n0_ n1_; clear hg hw hp_))
                repeat (go_quiet (first | ((with_reducible refine gate_store (t := 4) (p := 24) rfl ?_); (try (rw [drewN_self wr]; generalize hq_ : World.drewN wr _ = wr; have n0_ := Aside0.mk (Kd.R_at hq_ HO_6.out); have n1_ := Aside0.mk (below_at hq_ HB.out); clear hq_ HO_6 HB; have HO_6 := n0_; have HB := n1_; clear n0_ n1_; (try (obtain ⟨hx10_0, hf10_0⟩ := Kd.R_celln false HO_6.out (x7_1 : Int) (of_eq_true p10) (of_eq_true q10))); (try (have HP11 := Kd.R_putg HO_6.out (x7_1 : Int) true)))); refine store_event (t := 4) (p := 24) (v := ?vo_w12) (w1 := (wr.setCell ⟨go10, (x7_1 : Int).toNat, none⟩ (.bool true))) ?hg ?ho ?hn ?hr ?_; (case ho => rfl); (case hg => rfl); (case hn => rfl); (case hr => first | (go_simp; done) | (go_simp; rfl)); intro w12 hw; have hg : wr.grownBy w12 (some go10) := (by rw [hw]; exact HP11.2); have hp_ : Kd.R Kd.bool 4 w12 w.heap.size (fun _ => True) (.slice (some ⟨go10, 0, none⟩) x6_1.length co10) y494 := (by rw [hw, Ny494.out]; exact HP11.1); clear HP11; have n0_ := Aside0.mk (hp_); have n1_ := Aside0.mk ((by rw [hw]; exact below_set (HB.out) GB10.out : Below w.heap.size w w12)); clear HO_6; clear HB; have HO_6 := n0_; have HB := n1_; clear n0_ n1_; clear hg hw hp_)); try go_wp2_with (first | ((with_reducible refine gate_store (t := 4) (p := 24) rfl ?_); (try (rw [drewN_self wr]; generalize hq_ : World.drewN wr _ = wr; have n0_ := Aside0.mk (Kd.R_at hq_ HO_6.out); have n1_ := Aside0.mk (below_at hq_ HB.out); clear hq_ HO_6 HB; have HO_6 := n0_; have HB := n1_; clear n0_ n1_; (try (obtain ⟨hx10_0, hf10_0⟩ := Kd.R_celln false HO_6.out (x7_1 : Int) (of_eq_true p10) (of_eq_true q10))); (try (have HP11 := Kd.R_putg HO_6.out (x7_1 : Int) true)))); refine store_event (t := 4) (p := 24) (v := ?vo_w12) (w1 := (wr.setCell ⟨go10, (x7_1 : Int).toNat, none⟩ (.bool true))) ?hg ?ho ?hn ?hr ?_; (case ho => rfl); (case hg => rfl); (case hn => rfl); (case hr => first | (go_simp; done) | (go_simp; rfl)); intro w12 hw; have hg : wr.grownBy w12 (some go10) := (by rw [hw]; exact HP11.2); have hp_ : Kd.R Kd.bool 4 w12 w.heap.size (fun _ => True) (.slice (some ⟨go10, 0, none⟩) x6_1.length co10) y494 := (by rw [hw, Ny494.out]; exact HP11.1); clear HP11; have n0_ := Aside0.mk (hp_); have n1_ := Aside0.mk ((by rw [hw]; exact below_set (HB.out) GB10.out : Below w.heap.size w w12)); clear HO_6; clear HB; have HO_6 := n0_; have HB := n1_; clear n0_ n1_; clear hg hw hp_)))
                go_roundg k1
                case measure => have := HK1.out; omega
                case rel => exact ⟨(y494), (wrap64 (x7_1 + 1)), (by first | rfl | (simp; done) | (simp [*]; done)), H', ⟨by have := HK1.out; omega⟩, ⟨Kd.pR HO_6.out⟩, ⟨pB HB.out⟩⟩
              · rw [if_neg c9] at H
                exact absurd H (by simp)
            · rw [if_neg c8] at H
              exact absurd H (by simp)
          · rw [if_neg c7] at H
            have c7b0 : decide (x7_1 < (l0.length : Int)) = false := decide_eq_false c7
            clear c7
            have H' := Aside0.mk H
            clear H
            go_wp2
            repeat (go_quiet (fail); try go_wp2)
            go_loopg [8, 9, 10] k1 (fun kq v8 v9 v10 w' => ∃ (x6_2 : List Bool) (x8_2 : Int) (x9_2 : Int) (x10_2 : Bool), v8 = .int .i64 x8_2 ∧ v9 = .int .i64 x9_2 ∧ v10 = .bool x10_2 ∧ Aside0 (spigotref36_level.l1 kq l0 a1 x6_2 x8_2 x9_2 x10_2 = some (r1, r2)) ∧ Aside0 (kq ≤ k1) ∧ Aside0 (Kd.R Kd.bool 4 w' w.heap.size (fun _ => True) v492 x6_2) ∧ Aside0 (Below w.heap.size w w'))
            case atStart => exact ⟨(x6_1), (0), (1), (true), (by first | rfl | (simp; done) | (simp [*]; done)), (by first | rfl | (simp; done) | (simp [*]; done)), (by first | rfl | (simp; done) | (simp [*]; done)), H', ⟨Nat.le_refl _⟩, ⟨Kd.pR HO_6.out⟩, ⟨pB HB.out⟩⟩
            case round =>
              clear H'
              try clear p1
              try clear q1
              try clear hx1
              try clear c2
              try clear p2
              try clear c3
              try clear c3b0
              try clear c3b1
              try clear c4
              try clear c4b0
              try clear c4b1
              try clear p6
              try clear c7
              try clear c7b0
              try clear c8
              try clear c8b0
              try clear c9
              try clear c9b0
              try clear p10
              try clear q10
              try clear hx10
              try clear hf10
              try clear hx10_0
              try clear p10
              try clear p2
              try clear q10
              obtain ⟨x6_2, x8_2, x9_2, x10_2, rfl, rfl, rfl, HA, HK2, HO_6, HB⟩ := hrel
              cases gk with
              | zero => exact absurd HA.out (by simp [spigotref36_level.l1])
              | succ k2 =>
                have H := HA.out
                clear HA
                simp only [spigotref36_level.l1] at H
                by_cases c13 : x10_2 = true
                · subst c13
                  have H1 : (spigotref36_level.l2 k2 l0 a1 x6_2 a1 0 0) = some (r1, r2) := by rw [if_pos rfl] at H; exact H
                  clear H
                  have H := H1
                  clear H1
                  have H' := Aside0.mk H
                  clear H
                  go_wp2
                  repeat (go_quiet (fail); try go_wp2)
                  go_loopg [8, 9, 11] k2 (fun kq v8 v9 v11 w' => ∃ (x8_3 : Int) (x9_3 : Int) (x11_3 : Int), v8 = .int .i64 x8_3 ∧ v9 = .int .i64 x9_3 ∧ v11 = .int .i64 x11_3 ∧ Aside0 (spigotref36_level.l2 kq l0 a1 x6_2 x8_3 x9_3 x11_3 = some (r1, r2)) ∧ Aside0 (kq ≤ k2) ∧ Aside0 (Kd.R Kd.bool 4 w' w.heap.size (fun _ => True) v492 x6_2) ∧ Aside0 (Below w.heap.size w w'))
                  case atStart => exact ⟨(a1), (0), (0), (by first | rfl | (simp; done) | (simp [*]; done)), (by first | rfl | (simp; done) | (simp [*]; done)), (by first | rfl | (simp; done) | (simp [*]; done)), H', ⟨Nat.le_refl _⟩, ⟨Kd.pR HO_6.out⟩, ⟨pB HB.out⟩⟩
                  case round =>
                    clear H'
                    try clear c1
                    try clear p1
                    try clear q1
                    try clear hx1
                    try clear c2
                    try clear p2
                    try clear c3
                    try clear c3b0
                    try clear c3b1
                    try clear c4
                    try clear c4b0
                    try clear c4b1
                    try clear p6
                    try clear c7
                    try clear c7b0
                    try clear c8
                    try clear c8b0
                    try clear c9
                    try clear c9b0
                    try clear p10
                    try clear q10
                    try clear hx10
                    try clear hf10
                    try clear c13
                    try clear hx10_0
                    try clear p1
                    try clear p10
                    try clear p2
                    try clear p6
                    try clear q1
                    try clear q10
                    obtain ⟨x8_3, x9_3, x11_3, rfl, rfl, rfl, HA, HK3, HO_6, HB⟩ := hrel
                    cases gk with
                    | zero => exact absurd HA.out (by simp [spigotref36_level.l2])
                    | succ k3 =>
                      have H := HA.out
                      clear HA
                      simp only [spigotref36_level.l2] at H
                      by_cases c14 : x11_3 < (l0.length : Int)
                      · rw [if_pos c14] at H
                        have c14b0 : decide (x11_3 < (l0.length : Int)) = true := decide_eq_true c14
                        clear c14
                        by_cases c15 : 0 ≤ x11_3
                        · rw [if_pos c15] at H
                          have c15b0 : decide (0 ≤ x11_3) = true := decide_eq_true c15
                          clear c15
                          by_cases c16 : x11_3 < (x6_2.length : Int)
                          · rw [if_pos c16] at H
                            have c16b0 : decide (x11_3 < (x6_2.length : Int)) = true := decide_eq_true c16
                            clear c16
                            obtain ⟨bq17, hbq17⟩ : ∃ b_ : Bool, b_ = (rdOf false x6_2 x11_3) := ⟨_, rfl⟩
                            replace H : (if bq17 = true then (spigotref36_level.l2 k3 l0 a1 x6_2 x8_3 (wrap64 (x9_3 + ((rd_T37 l0 x11_3).f1))) (wrap64 (x11_3 + 1))) else (spigotref36_level.l2 k3 l0 a1 x6_2 (wrap64 (x8_3 - ((rd_T37 l0 x11_3).f0))) x9_3 (wrap64 (x11_3 + 1)))) = some (r1, r2) := by rw [← hbq17] at H; exact H
                            have Nbq17 := Aside0.mk hbq17
                            (try clear hbq17)
                            by_cases c18 : bq17 = true
                            · subst c18
                              have H1 : (spigotref36_level.l2 k3 l0 a1 x6_2 x8_3 (wrap64 (x9_3 + ((rd_T37 l0 x11_3).f1))) (wrap64 (x11_3 + 1))) = some (r1, r2) := by rw [if_pos rfl] at H; exact H
                              clear H
                              have H := H1
                              clear H1
                              have H' := Aside0.mk H
                              clear H
                              obtain ⟨Ao19, co19, eo19⟩ := Kd.R_slice HO_6.out
                              subst eo19
                              have p495 : 0 ≤ (x11_3 : Int) := od
                              have q495 : x11_3 < (x6_2.length : Int) := od
                              obtain ⟨ad495, e495, hx495_0⟩ := Kd.at_bool (Kd.R_reads' HO_6.out).2.2 x11_3 p495 q495
                              (try rw [← Nbq17.out] at hx495_0)
                              cases e495
                              replace p495 := eq_true p495
                              replace q495 := eq_true q495
                              have p496 : 0 ≤ (x11_3 : Int) := od
                              have q496 : x11_3 < (l0.length : Int) := od
                              obtain ⟨ad496, e496, hx496_0, hx496_1⟩ := at_T37 HR0.out x11_3 p496 q496
                              cases e496
                              replace hx496_0 := (HB.out.cell (World.block_lt_of_cell? w _ hx496_0)).trans hx496_0
                              replace hx496_1 := (HB.out.cell (World.block_lt_of_cell? w _ hx496_1)).trans hx496_1
                              replace p496 := eq_true p496
                              replace q496 := eq_true q496
                              go_wp2
                              repeat (go_quiet (fail); try go_wp2)
                              go_roundg k3
                              case measure => have := HK1.out; have := HK2.out; have := HK3.out; omega
                              case rel => exact ⟨(x8_3), (wrap64 (x9_3 + ((rd_T37 l0 x11_3).f1))), (wrap64 (x11_3 + 1)), (by first | rfl | (simp; done) | (simp [*]; done)), (by first | rfl | (simp; done) | (simp [*]; done)), (by first | rfl | (simp; done) | (simp [*]; done)), H', ⟨by have := HK1.out; have := HK2.out; have := HK3.out; omega⟩, ⟨Kd.pR HO_6.out⟩, ⟨pB HB.out⟩⟩
                            · replace c18 := Bool.eq_false_iff.mpr c18
                              subst c18
                              have H1 : (spigotref36_level.l2 k3 l0 a1 x6_2 (wrap64 (x8_3 - ((rd_T37 l0 x11_3).f0))) x9_3 (wrap64 (x11_3 + 1))) = some (r1, r2) := by rw [if_neg (show ¬ (false = true) by decide)] at H; exact H
                              clear H
                              have H := H1
                              clear H1
                              have H' := Aside0.mk H
                              clear H
                              obtain ⟨Ao20, co20, eo20⟩ := Kd.R_slice HO_6.out
                              subst eo20
                              have p495 : 0 ≤ (x11_3 : Int) := od
                              have q495 : x11_3 < (x6_2.length : Int) := od
                              obtain ⟨ad495, e495, hx495_0⟩ := Kd.at_bool (Kd.R_reads' HO_6.out).2.2 x11_3 p495 q495
                              (try rw [← Nbq17.out] at hx495_0)
                              cases e495
                              replace p495 := eq_true p495
                              replace q495 := eq_true q495
                              have p497 : 0 ≤ (x11_3 : Int) := od
                              have q497 : x11_3 < (l0.length : Int) := od
                              obtain ⟨ad497, e497, hx497_0, hx497_1⟩ := at_T37 HR0.out x11_3 p497 q497
                              cases e497
                              replace hx497_0 := (HB.out.cell (World.block_lt_of_cell? w _ hx497_0)).trans hx497_0
                              replace hx497_1 := (HB.out.cell (World.block_lt_of_cell? w _ hx497_1)).trans hx497_1
                              replace p497 := eq_true p497
                              replace q497 := eq_true q497
                              go_wp2
                              repeat (go_quiet (fail); try go_wp2)
                              go_roundg k3
                              case measure => have := HK1.out; have := HK2.out; have := HK3.out; omega
                              case rel => exact ⟨(wrap64 (x8_3 - ((rd_T37 l0 x11_3).f0))), (x9_3), (wrap64 (x11_3 + 1)), (by first | rfl | (simp; done) | (simp [*]; done)), (by first | rfl | (simp; done) | (simp [*]; done)), (by first | rfl | (simp; done) | (simp [*]; done)), H', ⟨by have := HK1.out; have := HK2.out; have := HK3.out; omega⟩, ⟨Kd.pR HO_6.out⟩, ⟨pB HB.out⟩⟩
                          · rw [if_neg c16] at H
                            exact absurd H (by simp)
                        · rw [if_neg c15] at H
                          exact absurd H (by simp)
                      · rw [if_neg c14] at H
                        have c14b0 : decide (x11_3 < (l0.length : Int)) = false := decide_eq_false c14
                        clear c14
                        have H' := Aside0.mk H
                        clear H
                        go_wp2
                        repeat (go_quiet (fail); try go_wp2)
                        go_loopg [10, 12] k3 (fun kq v10 v12 w' => ∃ (x6_4 : List Bool) (x10_4 : Bool) (x12_4 : Int), v10 = .bool x10_4 ∧ v12 = .int .i64 x12_4 ∧ Aside0 (spigotref36_level.l3 kq l0 a1 x6_4 x8_3 x9_3 x10_4 x12_4 = some (r1, r2)) ∧ Aside0 (kq ≤ k3) ∧ Aside0 (Kd.R Kd.bool 4 w' w.heap.size (fun _ => True) v492 x6_4) ∧ Aside0 (Below w.heap.size w w'))
                        case atStart => exact ⟨(x6_2), (false), (0), (by first | rfl | (simp; done) | (simp [*]; done)), (by first | rfl | (simp; done) | (simp [*]; done)), H', ⟨Nat.le_refl _⟩, ⟨Kd.pR HO_6.out⟩, ⟨pB HB.out⟩⟩
                        case round =>
                          clear H'
                          try clear c1
                          try clear p1
                          try clear q1
                          try clear hx1
                          try clear c2
                          try clear p2
                          try clear c3
                          try clear c3b0
                          try clear c3b1
                          try clear c4
                          try clear c4b0
                          try clear c4b1
                          try clear p4
                          try clear q4
                          try clear hx4
                          try clear p6
                          try clear c7
                          try clear c7b0
                          try clear c8
                          try clear c8b0
                          try clear c9
                          try clear c9b0
                          try clear p10
                          try clear q10
                          try clear hx10
                          try clear hf10
                          try clear c13
                          try clear c14
                          try clear c14b0
                          try clear c15
                          try clear c15b0
                          try clear c16
                          try clear c16b0
                          try clear q17
                          try clear c18
                          try clear hx10_0
                          try clear hx495_0
                          try clear hx496_0
                          try clear hx496_1
                          try clear hx497_0
                          try clear hx497_1
                          try clear p1
                          try clear p10
                          try clear p2
                          try clear p495
                          try clear p496
                          try clear p497
                          try clear p6
                          try clear q1
                          try clear q10
                          try clear q495
                          try clear q496
                          try clear q497
                          obtain ⟨x6_4, x10_4, x12_4, rfl, rfl, HA, HK4, HO_6, HB⟩ := hrel
                          cases gk with
                          | zero => exact absurd HA.out (by simp [spigotref36_level.l3])
                          | succ k4 =>
                            have H := HA.out
                            (try clear HA)
                            simp only [spigotref36_level.l3] at H
                            by_cases c21 : x12_4 < (l0.length : Int)
                            · rw [if_pos c21] at H
                              have c21b0 : decide (x12_4 < (l0.length : Int)) = true := decide_eq_true c21
                              clear c21
                              by_cases c22 : 0 ≤ x12_4
                              · rw [if_pos c22] at H
                                have c22b0 : decide (0 ≤ x12_4) = true := decide_eq_true c22
                                clear c22
                                by_cases c23 : x12_4 < (x6_4.length : Int)
                                · rw [if_pos c23] at H
                                  have c23b0 : decide (x12_4 < (x6_4.length : Int)) = true := decide_eq_true c23
                                  clear c23
                                  obtain ⟨bq24, hbq24⟩ : ∃ b_ : Bool, b_ = (rdOf false x6_4 x12_4) := ⟨_, rfl⟩
                                  replace H : (if bq24 = true then (if (wrap64 (((rd_T37 l0 x12_4).f0) * x9_3)) ≤ (wrap64 (x8_3 * ((rd_T37 l0 x12_4).f1))) then (spigotref36_level.l3 k4 l0 a1 (x6_4.set (x12_4 : Int).toNat false) x8_3 x9_3 true (wrap64 (x12_4 + 1))) else (spigotref36_level.l3 k4 l0 a1 x6_4 x8_3 x9_3 x10_4 (wrap64 (x12_4 + 1)))) else (spigotref36_level.l3 k4 l0 a1 x6_4 x8_3 x9_3 x10_4 (wrap64 (x12_4 + 1)))) = some (r1, r2) := by rw [← hbq24] at H; exact H
                                  have Nbq24 := Aside0.mk hbq24
                                  (try clear hbq24)
                                  by_cases c25 : bq24 = true
                                  · subst c25
                                    have H1 : (if (wrap64 (((rd_T37 l0 x12_4).f0) * x9_3)) ≤ (wrap64 (x8_3 * ((rd_T37 l0 x12_4).f1))) then (spigotref36_level.l3 k4 l0 a1 (x6_4.set (x12_4 : Int).toNat false) x8_3 x9_3 true (wrap64 (x12_4 + 1))) else (spigotref36_level.l3 k4 l0 a1 x6_4 x8_3 x9_3 x10_4 (wrap64 (x12_4 + 1)))) = some (r1, r2) := by rw [if_pos rfl] at H; exact H
                                    clear H
                                    have H := H1
                                    clear H1
                                    by_cases c26 : (wrap64 (((rd_T37 l0 x12_4).f0) * x9_3)) ≤ (wrap64 (x8_3 * ((rd_T37 l0 x12_4).f1)))
                                    · rw [if_pos c26] at H
                                      have c26b0 : decide ((wrap64 (((rd_T37 l0 x12_4).f0) * x9_3)) ≤ (wrap64 (x8_3 * ((rd_T37 l0 x12_4).f1)))) = true := decide_eq_true c26
                                      clear c26
                                      obtain ⟨y501, hy501⟩ : ∃ y_ : List Bool, y_ = (x6_4.set (x12_4 : Int).toNat false) := ⟨_, rfl⟩
                                      replace H : (spigotref36_level.l3 k4 l0 a1 y501 x8_3 x9_3 true (wrap64 (x12_4 + 1))) = some (r1, r2) := by first | (rw [hy501]; with_reducible exact H) | (have H2_ := (Option.bind_some _ _).symm.trans H; rw [hy501]; with_reducible exact H2_) | (have H2_ := (Option.bind_some _ _).symm.trans H; with_reducible exact H2_) | with_reducible exact H | (rw [hy501]; exact H) | exact H
                                      have Ny501 := Aside0.mk hy501
                                      (try clear hy501)
                                      have H' := Aside0.mk H
                                      clear H
                                      obtain ⟨Ao28, co28, eo28⟩ := Kd.R_slice HO_6.out
                                      subst eo28
                                      have p498 : 0 ≤ (x12_4 : Int) := od
                                      have q498 : x12_4 < (x6_4.length : Int) := od
                                      obtain ⟨ad498, e498, hx498_0⟩ := Kd.at_bool (Kd.R_reads' HO_6.out).2.2 x12_4 p498 q498
                                      (try rw [← Nbq24.out] at hx498_0)
                                      cases e498
                                      replace p498 := eq_true p498
                                      replace q498 := eq_true q498
                                      have p499 : 0 ≤ (x12_4 : Int) := od
                                      have q499 : x12_4 < (l0.length : Int) := od
                                      obtain ⟨ad499, e499, hx499_0, hx499_1⟩ := at_T37 HR0.out x12_4 p499 q499
                                      cases e499
                                      replace hx499_0 := (HB.out.cell (World.block_lt_of_cell? w _ hx499_0)).trans hx499_0
                                      replace hx499_1 := (HB.out.cell (World.block_lt_of_cell? w _ hx499_1)).trans hx499_1
                                      replace p499 := eq_true p499
                                      replace q499 := eq_true q499
                                      have p500 : 0 ≤ (x12_4 : Int) := od
                                      have q500 : x12_4 < (l0.length : Int) := od
                                      obtain ⟨ad500, e500, hx500_0, hx500_1⟩ := at_T37 HR0.out x12_4 p500 q500
                                      obtain rfl : ad499 = ad500 := (by injection e500)
                                      replace hx500_0 := (HB.out.cell (World.block_lt_of_cell? w _ hx500_0)).trans hx500_0
                                      replace hx500_1 := (HB.out.cell (World.block_lt_of_cell? w _ hx500_1)).trans hx500_1
                                      replace p500 := eq_true p500
                                      replace q500 := eq_true q500
                                      have p27 : 0 ≤ (x12_4 : Int) := od
                                      have q27 : (x12_4 : Int) < ((x6_4.length : Int) : Int) := od
                                      obtain ⟨go27, co27, eo27, gb27, gl27, cl27, HG27⟩ := Kd.R_form HO_6.out (by omega)
                                      (first | cases eo27 | (injection eo27 with ea_ en_ ec_; (first | subst ea_ | (injection ea_ with ea_; subst ea_)); subst ec_; clear en_))
                                      have GB27 := Aside0.mk gb27
                                      have GG27 := Aside0.mk HG27
                                      clear gb27 gl27 HG27
                                      (first | simp only [add_plain] at hx498_0 | skip)
                                      obtain ⟨hx27_0, hf27_0⟩ := Kd.R_celln false HO_6.out (x12_4 : Int) p27 q27
                                      replace p27 := eq_true p27
                                      replace q27 := eq_true q27
                                      have HP29 := Kd.R_putg HO_6.out (x12_4 : Int) false
                                      go_wp2_with (first | ((with_reducible refine gate_store (t := 4) (p := 80) rfl ?_); (try (rw [drewN_self wr]; generalize hq_ : World.drewN wr _ = wr; have n0_ := Aside0.mk (Kd.R_at hq_ HO_6.out); have n1_ := Aside0.mk (below_at hq_ HB.out); clear hq_ HO_6 HB; have HO_6 := n0_; have HB := n1_; clear n0_ n1_; (try (obtain ⟨hx27_0, hf27_0⟩ := Kd.R_celln false HO_6.out (x12_4 : Int) (of_eq_true p27) (of_eq_true q27))); (try (have HP29 := Kd.R_putg HO_6.out (x12_4 : Int) false)))); refine store_event (t := 4) (p := 80) (v := ?vo_w30) (w1 := (wr.setCell ⟨go27, (x12_4 : Int).toNat, none⟩ (.bool false))) ?hg ?ho ?hn ?hr ?_; (case ho => rfl); (case hg => rfl); (case hn => rfl); (case hr => first | (go_simp; done) | (go_simp; rfl)); intro w30 hw; have hg : wr.grownBy w30 (some go27) := (by rw [hw]; exact HP29.2); have hp_ : Kd.R Kd.bool 4 w30 w.heap.size (fun _ => True) (.slice (some ⟨go27, 0, none⟩) x6_4.length co28) y501 := (by rw [hw, Ny501.out]; exact HP29.1); clear HP29; have n0_ := Aside0.mk (hp_); have n1_ := Aside0.mk ((by rw [hw]; exact below_set (HB.out) GB27.out : Below w.heap.size w w30)); clear HO_6; clear HB; have HO_6 := n0_; have HB := n1_; clear n0_ n1_; clear hg hw hp_))
                                      repeat (go_quiet (first | ((with_reducible refine gate_store (t := 4) (p := 80) rfl ?_); (try (rw [drewN_self wr]; generalize hq_ : World.drewN wr _ = wr; have n0_ := Aside0.mk (Kd.R_at hq_ HO_6.out); have n1_ := Aside0.mk (below_at hq_ HB.out); clear hq_ HO_6 HB; have HO_6 := n0_; have HB := n1_; clear n0_ n1_; (try (obtain ⟨hx27_0, hf27_0⟩ := Kd.R_celln false HO_6.out (x12_4 : Int) (of_eq_true p27) (of_eq_true q27))); (try (have HP29 := Kd.R_putg HO_6.out (x12_4 : Int) false)))); refine store_event (t := 4) (p := 80) (v := ?vo_w30) (w1 := (wr.setCell ⟨go27, (x12_4 : Int).toNat, none⟩ (.bool false))) ?hg ?ho ?hn ?hr ?_; (case ho => rfl); (case hg => rfl); (case hn => rfl); (case hr => first | (go_simp; done) | (go_simp; rfl)); intro w30 hw; have hg : wr.grownBy w30 (some go27) := (by rw [hw]; exact HP29.2); have hp_ : Kd.R Kd.bool 4 w30 w.heap.size (fun _ => True) (.slice (some ⟨go27, 0, none⟩) x6_4.length co28) y501 := (by rw [hw, Ny501.out]; exact HP29.1); clear HP29; have n0_ := Aside0.mk (hp_); have n1_ := Aside0.mk ((by rw [hw]; exact below_set (HB.out) GB27.out : Below w.heap.size w w30)); clear HO_6; clear HB; have HO_6 := n0_; have HB := n1_; clear n0_ n1_; clear hg hw hp_)); try go_wp2_with (first | ((with_reducible refine gate_store (t := 4) (p := 80) rfl ?_); (try (rw [drewN_self wr]; generalize hq_ : World.drewN wr _ = wr; have n0_ := Aside0.mk (Kd.R_at hq_ HO_6.out); have n1_ := Aside0.mk (below_at hq_ HB.out); clear hq_ HO_6 HB; have HO_6 := n0_; have HB := n1_; clear n0_ n1_; (try (obtain ⟨hx27_0, hf27_0⟩ := Kd.R_celln false HO_6.out (x12_4 : Int) (of_eq_true p27) (of_eq_true q27))); (try (have HP29 := Kd.R_putg HO_6.out (x12_4 : Int) false)))); refine store_event (t := 4) (p := 80) (v := ?vo_w30) (w1 := (wr.setCell ⟨go27, (x12_4 : Int).toNat, none⟩ (.bool false))) ?hg ?ho ?hn ?hr ?_; (case ho => rfl); (case hg => rfl); (case hn => rfl); (case hr => first | (go_simp; done) | (go_simp; rfl)); intro w30 hw; have hg : wr.grownBy w30 (some go27) := (by rw [hw]; exact HP29.2); have hp_ : Kd.R Kd.bool 4 w30 w.heap.size (fun _ => True) (.slice (some ⟨go27, 0, none⟩) x6_4.length co28) y501 := (by rw [hw, Ny501.out]; exact HP29.1); clear HP29; have n0_ := Aside0.mk (hp_); have n1_ := Aside0.mk ((by rw [hw]; exact below_set (HB.out) GB27.out : Below w.heap.size w w30)); clear HO_6; clear HB; have HO_6 := n0_; have HB := n1_; clear n0_ n1_; clear hg hw hp_)))
                                      go_roundg k4
                                      case measure => have := HK1.out; have := HK2.out; have := HK3.out; have := HK4.out; omega
                                      case rel => exact ⟨(y501), (true), (wrap64 (x12_4 + 1)), (by first | rfl | (simp; done) | (simp [*]; done)), (by first | rfl | (simp; done) | (simp [*]; done)), H', ⟨by have := HK1.out; have := HK2.out; have := HK3.out; have := HK4.out; omega⟩, ⟨Kd.pR HO_6.out⟩, ⟨pB HB.out⟩⟩
                                    · rw [if_neg c26] at H
                                      have c26b0 : decide ((wrap64 (((rd_T37 l0 x12_4).f0) * x9_3)) ≤ (wrap64 (x8_3 * ((rd_T37 l0 x12_4).f1)))) = false := decide_eq_false c26
                                      clear c26
                                      have H' := Aside0.mk H
                                      clear H
                                      obtain ⟨Ao31, co31, eo31⟩ := Kd.R_slice HO_6.out
                                      subst eo31
                                      have p498 : 0 ≤ (x12_4 : Int) := od
                                      have q498 : x12_4 < (x6_4.length : Int) := od
                                      obtain ⟨ad498, e498, hx498_0⟩ := Kd.at_bool (Kd.R_reads' HO_6.out).2.2 x12_4 p498 q498
                                      (try rw [← Nbq24.out] at hx498_0)
                                      cases e498
                                      replace p498 := eq_true p498
                                      replace q498 := eq_true q498
                                      have p499 : 0 ≤ (x12_4 : Int) := od
                                      have q499 : x12_4 < (l0.length : Int) := od
                                      obtain ⟨ad499, e499, hx499_0, hx499_1⟩ := at_T37 HR0.out x12_4 p499 q499
                                      cases e499
                                      replace hx499_0 := (HB.out.cell (World.block_lt_of_cell? w _ hx499_0)).trans hx499_0
                                      replace hx499_1 := (HB.out.cell (World.block_lt_of_cell? w _ hx499_1)).trans hx499_1
                                      replace p499 := eq_true p499
                                      replace q499 := eq_true q499
                                      have p500 : 0 ≤ (x12_4 : Int) := od
                                      have q500 : x12_4 < (l0.length : Int) := od
                                      obtain ⟨ad500, e500, hx500_0, hx500_1⟩ := at_T37 HR0.out x12_4 p500 q500
                                      obtain rfl : ad499 = ad500 := (by injection e500)
                                      replace hx500_0 := (HB.out.cell (World.block_lt_of_cell? w _ hx500_0)).trans hx500_0
                                      replace hx500_1 := (HB.out.cell (World.block_lt_of_cell? w _ hx500_1)).trans hx500_1
                                      replace p500 := eq_true p500
                                      replace q500 := eq_true q500
                                      go_wp2
                                      repeat (go_quiet (fail); try go_wp2)
                                      go_roundg k4
                                      case measure => have := HK1.out; have := HK2.out; have := HK3.out; have := HK4.out; omega
                                      case rel => exact ⟨(x6_4), (x10_4), (wrap64 (x12_4 + 1)), (by first | rfl | (simp; done) | (simp [*]; done)), (by first | rfl | (simp; done) | (simp [*]; done)), H', ⟨by have := HK1.out; have := HK2.out; have := HK3.out; have := HK4.out; omega⟩, ⟨Kd.pR HO_6.out⟩, ⟨pB HB.out⟩⟩
                                  · replace c25 := Bool.eq_false_iff.mpr c25
                                    subst c25
                                    have H1 : (spigotref36_level.l3 k4 l0 a1 x6_4 x8_3 x9_3 x10_4 (wrap64 (x12_4 + 1))) = some (r1, r2) := by rw [if_neg (show ¬ (false = true) by decide)] at H; exact H
                                    clear H
                                    have H := H1
                                    clear H1
                                    have H' := Aside0.mk H
                                    clear H
                                    obtain ⟨Ao32, co32, eo32⟩ := Kd.R_slice HO_6.out
                                    subst eo32
                                    have p498 : 0 ≤ (x12_4 : Int) := od
                                    have q498 : x12_4 < (x6_4.length : Int) := od
                                    obtain ⟨ad498, e498, hx498_0⟩ := Kd.at_bool (Kd.R_reads' HO_6.out).2.2 x12_4 p498 q498
                                    (try rw [← Nbq24.out] at hx498_0)
                                    cases e498
                                    replace p498 := eq_true p498
                                    replace q498 := eq_true q498
                                    go_wp2
                                    repeat (go_quiet (fail); try go_wp2)
                                    go_roundg k4
                                    case measure => have := HK1.out; have := HK2.out; have := HK3.out; have := HK4.out; omega
                                    case rel => exact ⟨(x6_4), (x10_4), (wrap64 (x12_4 + 1)), (by first | rfl | (simp; done) | (simp [*]; done)), (by first | rfl | (simp; done) | (simp [*]; done)), H', ⟨by have := HK1.out; have := HK2.out; have := HK3.out; have := HK4.out; omega⟩, ⟨Kd.pR HO_6.out⟩, ⟨pB HB.out⟩⟩
                                · rw [if_neg c23] at H
                                  exact absurd H (by simp)
                              · rw [if_neg c22] at H
                                exact absurd H (by simp)
                            · rw [if_neg c21] at H
                              have c21b0 : decide (x12_4 < (l0.length : Int)) = false := decide_eq_false c21
                              clear c21
                              have H' := Aside0.mk H
                              clear H
                              go_wp2
                              repeat (go_quiet (fail); try go_wp2)
                              go_roundg k4
                              case measure => have := HK1.out; have := HK2.out; have := HK3.out; have := HK4.out; omega
                              case rel => exact ⟨(x6_4), (x8_3), (x9_3), (x10_4), (by first | rfl | (simp; done) | (simp [*]; done)), (by first | rfl | (simp; done) | (simp [*]; done)), (by first | rfl | (simp; done) | (simp [*]; done)), H', ⟨by have := HK1.out; have := HK2.out; have := HK3.out; have := HK4.out; omega⟩, ⟨Kd.pR HO_6.out⟩, ⟨pB HB.out⟩⟩
                · replace c13 := Bool.eq_false_iff.mpr c13
                  subst c13
                  have H1 : (some (x8_2, x9_2)) = some (r1, r2) := by rw [if_neg (show ¬ (false = true) by decide)] at H; exact H
                  clear H
                  have H := H1
                  clear H1
                  simp only [Option.some.injEq, Prod.mk.injEq] at H
                  obtain ⟨rfl, rfl⟩ := H
                  go_wp2
                  repeat (go_quiet (fail); try go_wp2)
                  go_ret2
                  exact ⟨by first | rfl | (simp [errW_none, errW_some] <;> rfl) | (simp [*, errW_none, errW_some] <;> rfl), pB HB.out⟩
    · rw [if_neg c4] at H
      exact absurd H (by simp)
  · rw [if_neg c3] at H
    exact absurd H (by simp)

end Go.Proofs.Yteeceppbnkkfpaa.PShare
