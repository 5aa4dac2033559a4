-- printed by a program of this session (a turned copy of the kit's print); Lean checks it
import Derived.Test.YtiimflniadggaaaPLrux0
namespace Go.Proofs.Ytiimflniadggaaa.PLru
open Go.RowKit Go.Proofs.YtiimflniadggaaaW.PrintWords Go.Proofs.YtiimflniadggaaaW.PrintLast Go.Proofs.YtiimflniadggaaaW.PrintMore
attribute [local go_sem] max2_int min2_int max_two min_two max_three min_three max_four min_four   -- for this text's walks alone
set_option linter.unusedVariables false
set_option linter.unusedSimpArgs false

/-! ### spigotref15_Made: function 30 -/
mutual
def spigotref15_Made.l0 : Nat → Int → List Int → Int → List Int → List Int → Int → Int → Option (List Int × List Int × Int × Int)
  | 0, _, _, _, _, _, _, _ => none
  | k + 1, x0, x1, x6, x141000, x141001, x141002, x141003 => if x6 < x0 then ((some (([(-1)] : List Int) : List Int)).bind fun y141 => (if x141000.length + y141.length < 17592186044416 then ((some (([(-1)] : List Int) : List Int)).bind fun y147 => (if x141001.length + y147.length < 17592186044416 then (spigotref15_Made.l0 k x0 x1 (wrap64 (x6 + 1)) (x141000 ++ y141) (x141001 ++ y147) x141002 x141003) else (none))) else (none))) else (spigotref15_Made.l1 k x1 0 x141000 x141001 x141002 x141003)
def spigotref15_Made.l1 : Nat → List Int → Int → List Int → List Int → Int → Int → Option (List Int × List Int × Int × Int)
  | 0, _, _, _, _, _, _ => none
  | k + 1, x1, x7, x141000, x141001, x141002, x141003 => if x7 < (x1.length : Int) then (if x7 = 0 then (if 0 ≤ x7 then (spigotref15_Made.l1 k x1 (wrap64 (x7 + 1)) x141000 x141001 (rd x1 x7) (rd x1 x7)) else (none)) else (if 0 ≤ x7 then (if 0 ≤ (wrap64 (x7 - 1)) then (if (wrap64 (x7 - 1)) < (x1.length : Int) then (if 0 ≤ (rd x1 x7) then (if (rd x1 x7) < (x141000.length : Int) then (if 0 ≤ (rd x1 (wrap64 (x7 - 1))) then (if (rd x1 (wrap64 (x7 - 1))) < (x141001.length : Int) then (spigotref15_Made.l1 k x1 (wrap64 (x7 + 1)) (x141000.set ((rd x1 x7) : Int).toNat (rd x1 (wrap64 (x7 - 1)))) (x141001.set ((rd x1 (wrap64 (x7 - 1))) : Int).toNat (rd x1 x7)) x141002 (rd x1 x7)) else (none)) else (none)) else (none)) else (none)) else (none)) else (none)) else (none))) else (some (x141000, x141001, x141002, x141003))
end
def spigotref15_Made.f (k : Nat) (a0 : Int) (l1 : List Int) : Option (List Int × List Int × Int × Int) := spigotref15_Made.l0 k a0 l1 0 ([] : List Int) ([] : List Int) (-1) (-1)
theorem spigotref15_Made.mono_l : ∀ k, (∀ y0 y1 y2 y3 y4 y5 y6, LeO (spigotref15_Made.l0 k y0 y1 y2 y3 y4 y5 y6) (spigotref15_Made.l0 (k + 1) y0 y1 y2 y3 y4 y5 y6)) ∧ (∀ y0 y1 y2 y3 y4 y5, LeO (spigotref15_Made.l1 k y0 y1 y2 y3 y4 y5) (spigotref15_Made.l1 (k + 1) y0 y1 y2 y3 y4 y5))
  | 0 => ⟨fun _ _ _ _ _ _ _ r h => by simp [spigotref15_Made.l0] at h, fun _ _ _ _ _ _ r h => by simp [spigotref15_Made.l1] at h⟩
  | k + 1 => by
    obtain ⟨ih0, ih1⟩ := spigotref15_Made.mono_l k
    refine ⟨?_, ?_⟩
    · intro y0 y1 y2 y3 y4 y5 y6
      unfold spigotref15_Made.l0
      repeat' first
      | (with_reducible exact ih0 _ _ _ _ _ _ _)
      | (with_reducible exact ih1 _ _ _ _ _ _)
      | (with_reducible exact LeO.refl _)
      | (with_reducible exact LeO.none _)
      | (with_reducible refine LeO.ite ?_ ?_)
      | (with_reducible refine LeO.bind ?_ (fun _ => ?_))
      | exact ih0 _ _ _ _ _ _ _
      | exact ih1 _ _ _ _ _ _
      | exact LeO.none _
      | refine LeO.ite ?_ ?_
      | refine LeO.bind ?_ (fun _ => ?_)
    · intro y0 y1 y2 y3 y4 y5
      unfold spigotref15_Made.l1
      repeat' first
      | (with_reducible exact ih0 _ _ _ _ _ _ _)
      | (with_reducible exact ih1 _ _ _ _ _ _)
      | (with_reducible exact LeO.refl _)
      | (with_reducible exact LeO.none _)
      | (with_reducible refine LeO.ite ?_ ?_)
      | (with_reducible refine LeO.bind ?_ (fun _ => ?_))
      | exact ih0 _ _ _ _ _ _ _
      | exact ih1 _ _ _ _ _ _
      | exact LeO.none _
      | refine LeO.ite ?_ ?_
      | refine LeO.bind ?_ (fun _ => ?_)
theorem spigotref15_Made.mono : ∀ a0 a1 k, LeO (spigotref15_Made.f k a0 a1) (spigotref15_Made.f (k + 1) a0 a1) := by
  intro a0 a1 k
  obtain ⟨ih0, ih1⟩ := spigotref15_Made.mono_l k
  unfold spigotref15_Made.f
  repeat' first
      | (with_reducible exact ih0 _ _ _ _ _ _ _)
      | (with_reducible exact ih1 _ _ _ _ _ _)
      | (with_reducible exact LeO.refl _)
      | (with_reducible exact LeO.none _)
      | (with_reducible refine LeO.ite ?_ ?_)
      | (with_reducible refine LeO.bind ?_ (fun _ => ?_))
      | exact ih0 _ _ _ _ _ _ _
      | exact ih1 _ _ _ _ _ _
      | exact LeO.none _
      | refine LeO.ite ?_ ?_
      | refine LeO.bind ?_ (fun _ => ?_)
def spigotref15_Made.T5 : Bool × List (List Nat × List Nat) := (true, [([], []), ([0], [0]), ([], []), ([1, 2], [1, 2]), ([], []), ([4], [4]), ([], []), ([5, 6, 3], [5, 6]), ([0, 1, 2, 3, 4, 5], []), ([8, 3, 7, 0, 1, 2, 3, 4, 5], [3, 8]), ([0, 1, 2, 3, 4, 5, 6, 7, 8, 9], []), ([10, 7, 9, 0, 1, 2, 3, 4, 5, 6, 7, 8, 9], [7, 10])])
def spigotref15_Made.B5 : List Nat := [0, 1, 0, 7, 0, 16, 0, 127, 63, 511, 1023, 2047]
theorem spigotref15_Made.tab5 : rtab .any (opsOf Try.f30 5) = spigotref15_Made.T5 := by kernel_rfl
theorem spigotref15_Made.bits5 : waitsOk spigotref15_Made.T5.2 spigotref15_Made.B5 = true := by kernel_rfl
def spigotref15_Made.T11 : Bool × List (List Nat × List Nat) := (true, [([], []), ([0], [0]), ([], []), ([], []), ([2, 3], [2, 3]), ([4], [4]), ([], []), ([], []), ([7], [7]), ([6, 8], [6, 8]), ([9], [9]), ([1, 5, 0, 1, 2, 3, 4, 5, 6, 7, 8, 9, 10], [1, 5]), ([11, 10, 0, 1, 2, 3, 4, 5, 6, 7, 8, 9, 10], [10, 11])])
def spigotref15_Made.B11 : List Nat := [0, 1, 0, 0, 12, 28, 0, 0, 128, 448, 960, 2047, 4095]
theorem spigotref15_Made.tab11 : rtab .any (opsOf Try.f30 11) = spigotref15_Made.T11 := by kernel_rfl
theorem spigotref15_Made.bits11 : waitsOk spigotref15_Made.T11.2 spigotref15_Made.B11 = true := by kernel_rfl
def spigotref15_Made.T12 : Bool × List (List Nat × List Nat) := (true, [([], []), ([0], [0]), ([], []), ([], []), ([3], [3]), ([2, 4], [2, 4]), ([5], [5]), ([], []), ([], []), ([7, 8], [7, 8]), ([9], [9]), ([1, 6, 0, 1, 2, 3, 4, 5, 6, 7, 8, 9, 10], [1, 6]), ([11, 10, 0, 1, 2, 3, 4, 5, 6, 7, 8, 9, 10], [10, 11])])
def spigotref15_Made.B12 : List Nat := [0, 1, 0, 0, 8, 28, 60, 0, 0, 384, 896, 2047, 4095]
theorem spigotref15_Made.tab12 : rtab .any (opsOf Try.f30 12) = spigotref15_Made.T12 := by kernel_rfl
theorem spigotref15_Made.bits12 : waitsOk spigotref15_Made.T12.2 spigotref15_Made.B12 = true := by kernel_rfl
set_option maxHeartbeats 8000000 in
set_option maxRecDepth 100000 in
theorem spigotref15_Made.calls (k : Nat) (a0 : Int) (A1 : Option Addr) (c1 : Nat) (l1 : List Int) (r1 : List Int) (r2 : List Int) (r3 : Int) (r4 : Int) (w : World) (hr1 : Kd.C (Kd.int .i64) w A1 l1.length l1) (hc1 : l1.length ≤ c1) (h : spigotref15_Made.f k a0 l1 = some (r1, r2, r3, r4)) :
    Calls Try.prog 30 #[.int .i64 a0, .slice A1 l1.length c1] w fun e w' => ∃ v0_ v1_ : Value, e = .returned (.agg #[v0_, v1_, .int .i64 r3, .int .i64 r4]) ∧ Kd.R (Kd.int .i64) 3 w' w.heap.size (fun k_ => some k_ ≠ (v1_ : Value).ownBlock) v0_ r1 ∧ Kd.R (Kd.int .i64) 3 w' w.heap.size (fun k_ => some k_ ≠ (v0_ : Value).ownBlock) v1_ r2 ∧ Below w.heap.size w w' := by
  have hu24 := Try.underlying24
  have HR1 := Aside0.mk hr1
  have HC1 := Aside0.mk hc1
  clear hr1 hc1
  have HB := Aside0.mk (Below.refl w.heap.size w)
  have H : (spigotref15_Made.l0 k a0 l1 0 ([] : List Int) ([] : List Int) (-1) (-1)) = some (r1, r2, r3, r4) := h
  clear h
  have H' := Aside0.mk H
  clear H
  go_enter Try.func30, Try.ntmps30
  go_wp2_with (first | ((with_reducible refine gate_dst (N := 4) rfl ?_); refine boxE (N := 4) (cs := #[.slice none 0 0, .slice none 0 0, .int .i64 0, .int .i64 0]) (t := 24) ?_; intro gb139 hg w3 hbox hb; have n0_ := Aside0.mk (below_step (pB HB.out) hb); have n1_ := Aside0.mk (hbox); have n3_ := Aside0.mk (pL HB.out hg); clear HB; have HB := n0_; have BK139 := n1_; have GE139 := n3_; clear n0_ n1_ n3_; clear hb hbox hg) | ((with_reducible refine gate_dst (N := 5) rfl ?_); refine boxE (N := 5) (cs := #[.slice none 0 0, .slice none 0 0, .int .i64 0, .int .i64 0]) (t := 24) ?_; intro gb140 hg w4 hbox hb; have n0_ := Aside0.mk (blk_below (pK BK139.out) hb); have n1_ := Aside0.mk (below_step (pB HB.out) hb); have n2_ := Aside0.mk (hbox); have n3_ := Aside0.mk (pL HB.out hg); have n4_ := Aside0.mk (pL HB.out hg); have n5_ := Aside0.mk (pNl BK139.out hg); have n6_ := Aside0.mk (pNg BK139.out hg); clear BK139; clear HB; have BK139 := n0_; have HB := n1_; have BK140 := n2_; have GW140 := n3_; have GE140 := n4_; have NB139_140 := n5_; have NB140_139 := n6_; clear n0_ n1_ n2_ n3_ n4_ n5_ n6_; clear hb hbox hg; have hnb5 := NB140_139.out; have hnc5 := NB139_140.out; obtain ⟨hcz6_0, hcz6_1, hcz6_2, hcz6_3, hfz6_0, hfz6_1, hfz6_2, hfz6_3⟩ := bk4 BK140.out))
  go_loopg [6] k (fun kq v6 w' => ∃ (x6_1 : Int) (x141000_1 : List Int) (x141001_1 : List Int) (u141000 : Value) (u141001 : Value), v6 = .int .i64 x6_1 ∧ Aside0 (spigotref15_Made.l0 kq a0 l1 x6_1 x141000_1 x141001_1 (-1) (-1) = some (r1, r2, r3, r4)) ∧ Aside0 (kq ≤ k) ∧ Aside0 (Kd.R (Kd.int .i64) 3 w' w.heap.size (fun k_ => some k_ ≠ (u141001 : Value).ownBlock) u141000 x141000_1) ∧ Aside0 (Kd.R (Kd.int .i64) 3 w' w.heap.size (fun k_ => some k_ ≠ (u141000 : Value).ownBlock) u141001 x141001_1) ∧ Aside0 (w'.heap[gb139]? = some (.cells #[(.slice none 0 0), (.slice none 0 0), .int .i64 0, .int .i64 0] 24 (0, 0))) ∧ Aside0 (w'.heap[gb140]? = some (.cells #[u141000, u141001, .int .i64 (-1), .int .i64 (-1)] 24 (0, 0))) ∧ Aside0 (Below w.heap.size w w'))
  case atStart => exact ⟨(0), (([] : List Int)), (([] : List Int)), (.slice none 0 0), (.slice none 0 0), (by first | rfl | (simp; done) | (simp [*]; done)), H', ⟨Nat.le_refl _⟩, ⟨by first | exact Kd.R_nil _ _ _ _ _ | exact Kd.N_nil _ _ _ _ _ | exact Kd.V_nil _ _ _ _ _ | exact Kd.Q_nil _ _ _ _ _ | exact Kd.S_nil _ _ _ _ _⟩, ⟨by first | exact Kd.R_nil _ _ _ _ _ | exact Kd.N_nil _ _ _ _ _ | exact Kd.V_nil _ _ _ _ _ | exact Kd.Q_nil _ _ _ _ _ | exact Kd.S_nil _ _ _ _ _⟩, ⟨by (with_reducible repeat (first | refine blk_drewN ?_ _ | refine blk_drew ?_ | refine blk_alloc ?_ _)); refine blk_far ?_ NB139_140.out _; (with_reducible repeat (first | refine blk_drewN ?_ _ | refine blk_drew ?_ | refine blk_alloc ?_ _)); refine blk_far ?_ NB139_140.out _; (with_reducible repeat (first | refine blk_drewN ?_ _ | refine blk_drew ?_ | refine blk_alloc ?_ _)); refine blk_far ?_ NB139_140.out _; (with_reducible repeat (first | refine blk_drewN ?_ _ | refine blk_drew ?_ | refine blk_alloc ?_ _)); refine blk_far ?_ NB139_140.out _; (with_reducible repeat (first | refine blk_drewN ?_ _ | refine blk_drew ?_ | refine blk_alloc ?_ _)); exact BK139.out⟩, ⟨by (with_reducible repeat (first | refine blk_drewN ?_ _ | refine blk_drew ?_ | refine blk_alloc ?_ _)); refine blk_put (cs := #[.slice none 0 0, .slice none 0 0, .int .i64 (-1), .int .i64 0]) ?_ 3 _ rfl; (with_reducible repeat (first | refine blk_drewN ?_ _ | refine blk_drew ?_ | refine blk_alloc ?_ _)); refine blk_put (cs := #[.slice none 0 0, .slice none 0 0, .int .i64 0, .int .i64 0]) ?_ 2 _ rfl; (with_reducible repeat (first | refine blk_drewN ?_ _ | refine blk_drew ?_ | refine blk_alloc ?_ _)); refine blk_put (cs := #[.slice none 0 0, .slice none 0 0, .int .i64 0, .int .i64 0]) ?_ 1 _ rfl; (with_reducible repeat (first | refine blk_drewN ?_ _ | refine blk_drew ?_ | refine blk_alloc ?_ _)); refine blk_put (cs := #[.slice none 0 0, .slice none 0 0, .int .i64 0, .int .i64 0]) ?_ 0 _ rfl; (with_reducible repeat (first | refine blk_drewN ?_ _ | refine blk_drew ?_ | refine blk_alloc ?_ _)); exact BK140.out⟩, ⟨pB HB.out⟩⟩
  case round =>
    clear H'
    try clear c1
    try clear p2
    try clear c3
    try clear c5
    try clear hcz6_0
    try clear hcz6_1
    try clear hcz6_2
    try clear hcz6_3
    try clear hfz6_0
    try clear hfz6_1
    try clear hfz6_2
    try clear hfz6_3
    obtain ⟨x6_1, x141000_1, x141001_1, u141000, u141001, rfl, HA, HK1, HO_141000, HO_141001, BK139, BK140, HB⟩ := hrel
    cases gk with
    | zero => exact absurd HA.out (by simp [spigotref15_Made.l0])
    | succ k1 =>
      have H := HA.out
      clear HA
      simp only [spigotref15_Made.l0] at H
      by_cases c7 : x6_1 < a0
      · rw [if_pos c7] at H
        have c7b0 : decide (x6_1 < a0) = true := decide_eq_true c7
        clear c7
        obtain ⟨y141, hy141⟩ : ∃ y_ : List Int, y_ = (([(-1)] : List Int)) := ⟨_, rfl⟩
        replace H : (if x141000_1.length + y141.length < 17592186044416 then ((some (([(-1)] : List Int) : List Int)).bind fun y147 => (if x141001_1.length + y147.length < 17592186044416 then (spigotref15_Made.l0 k1 a0 l1 (wrap64 (x6_1 + 1)) (x141000_1 ++ y141) (x141001_1 ++ y147) (-1) (-1)) else (none))) else (none)) = some (r1, r2, r3, r4) := by first | (rw [hy141]; with_reducible exact H) | (have H2_ := (Option.bind_some _ _).symm.trans H; rw [hy141]; with_reducible exact H2_) | (have H2_ := (Option.bind_some _ _).symm.trans H; with_reducible exact H2_) | with_reducible exact H | (rw [hy141]; exact H) | exact H
        have Ny141 := Aside0.mk hy141
        (try clear hy141)
        by_cases c8 : x141000_1.length + y141.length < 17592186044416
        · rw [if_pos c8] at H
          have LMc8 := Aside0.mk c8
          clear c8
          obtain ⟨y144, hy144⟩ : ∃ y_ : List Int, y_ = (x141000_1 ++ y141) := ⟨_, rfl⟩
          replace H : ((some (([(-1)] : List Int) : List Int)).bind fun y147 => (if x141001_1.length + y147.length < 17592186044416 then (spigotref15_Made.l0 k1 a0 l1 (wrap64 (x6_1 + 1)) y144 (x141001_1 ++ y147) (-1) (-1)) else (none))) = some (r1, r2, r3, r4) := by first | (rw [hy144]; with_reducible exact H) | (have H2_ := (Option.bind_some _ _).symm.trans H; rw [hy144]; with_reducible exact H2_) | (have H2_ := (Option.bind_some _ _).symm.trans H; with_reducible exact H2_) | with_reducible exact H | (rw [hy144]; exact H) | exact H
          have Ny144 := Aside0.mk hy144
          (try clear hy144)
          obtain ⟨y147, hy147⟩ : ∃ y_ : List Int, y_ = (([(-1)] : List Int)) := ⟨_, rfl⟩
          replace H : (if x141001_1.length + y147.length < 17592186044416 then (spigotref15_Made.l0 k1 a0 l1 (wrap64 (x6_1 + 1)) y144 (x141001_1 ++ y147) (-1) (-1)) else (none)) = some (r1, r2, r3, r4) := by first | (rw [hy147]; with_reducible exact H) | (have H2_ := (Option.bind_some _ _).symm.trans H; rw [hy147]; with_reducible exact H2_) | (have H2_ := (Option.bind_some _ _).symm.trans H; with_reducible exact H2_) | with_reducible exact H | (rw [hy147]; exact H) | exact H
          have Ny147 := Aside0.mk hy147
          (try clear hy147)
          by_cases c9 : x141001_1.length + y147.length < 17592186044416
          · rw [if_pos c9] at H
            have LMc9 := Aside0.mk c9
            clear c9
            obtain ⟨y150, hy150⟩ : ∃ y_ : List Int, y_ = (x141001_1 ++ y147) := ⟨_, rfl⟩
            replace H : (spigotref15_Made.l0 k1 a0 l1 (wrap64 (x6_1 + 1)) y144 y150 (-1) (-1)) = some (r1, r2, r3, r4) := by first | (rw [hy150]; with_reducible exact H) | (have H2_ := (Option.bind_some _ _).symm.trans H; rw [hy150]; with_reducible exact H2_) | (have H2_ := (Option.bind_some _ _).symm.trans H; with_reducible exact H2_) | with_reducible exact H | (rw [hy150]; exact H) | exact H
            have Ny150 := Aside0.mk hy150
            (try clear hy150)
            have H' := Aside0.mk H
            clear H
            obtain ⟨Ao10, co10, eo10⟩ := Kd.R_slice HO_141000.out
            subst eo10
            obtain ⟨Ao11, co11, eo11⟩ := Kd.R_slice HO_141001.out
            subst eo11
            try go_wp2
            have n0_ := Aside0.mk (Kd.R_drew HO_141000.out)
            have n1_ := Aside0.mk (Kd.R_drew HO_141001.out)
            have n2_ := Aside0.mk (blk_drew BK139.out)
            have n3_ := Aside0.mk (blk_drew BK140.out)
            have n4_ := Aside0.mk (below_drew1 HB.out)
            clear HO_141000
            clear HO_141001
            clear BK139
            clear BK140
            clear HB
            have HO_141000 := n0_
            have HO_141001 := n1_
            have BK139 := n2_
            have BK140 := n3_
            have HB := n4_
            clear n0_ n1_ n2_ n3_ n4_
            refine start_ (n := 12) (S := fun w' => w'.cell? ⟨gb140, 0, none⟩ = some (.slice Ao10 x141000_1.length co10) ∧ w'.cell? ⟨gb140, 1, none⟩ = some (.slice Ao11 x141001_1.length co11) ∧ w'.cell? ⟨gb140, 2, none⟩ = some (.int .i64 (-1)) ∧ w'.cell? ⟨gb140, 3, none⟩ = some (.int .i64 (-1))) (ds := [9, 11]) #[false, false, false, false, false, false, false, false, false, false, false, false] (by kernel_rfl) rfl rfl ⟨(blk_cell BK140.out 0).trans rfl, (blk_cell BK140.out 1).trans rfl, (blk_cell BK140.out 2).trans rfl, (blk_cell BK140.out 3).trans rfl⟩ (fun hHeld => ?_); refine with_tabW spigotref15_Made.tab5 spigotref15_Made.bits5 (fun HT_ HW_ => ?_)
            generalize wr.drew = w12 at HO_141000 HO_141001 BK139 BK140 HB hHeld ⊢
            refine pure_ (i := 0) (N := some 14) (v := ?_) (a' := ?_) #[true, false, false, false, false, false, false, false, false, false, false, false] rfl rfl (any_of HT_.out (by kernel_rfl)) (fun _ _ _ h => h) (Or.inl ⟨by rfl, ?_⟩) ?_ ?_
            rotate_left
            · intro w'
              go_simp
              with_reducible rfl
            rotate_left
            · simp only [Act.put, List.setIfInBounds_toArray, List.set_cons_zero, List.set_cons_succ, i64_w, i32_w]
              rfl
            refine pure_ (i := 4) (N := some 18) (v := ?_) (a' := ?_) #[true, false, false, false, true, false, false, false, false, false, false, false] rfl rfl (any_of HT_.out (by kernel_rfl)) (fun _ _ _ h => h) (Or.inl ⟨by rfl, ?_⟩) ?_ ?_
            rotate_left
            · intro w'
              go_simp
              with_reducible rfl
            rotate_left
            · simp only [Act.put, List.setIfInBounds_toArray, List.set_cons_zero, List.set_cons_succ, i64_w, i32_w]
              rfl
            refine take_ (i := 1) (N := some 15) (v := ?_) (a' := ?_) #[true, true, false, false, true, false, false, false, false, false, false, false] rfl rfl (take_ofW HT_.out HW_.out (by kernel_rfl)) (fun _ _ _ h => h) (Or.inl ⟨by rfl, ?_⟩) hHeld ?_ ?_
            rotate_left
            · rintro w' ⟨s0, s1, s2, s3⟩
              go_simp
              with_reducible rfl
            rotate_left
            · simp only [Act.put, List.setIfInBounds_toArray, List.set_cons_zero, List.set_cons_succ, i64_w, i32_w]
              rfl
            refine take_ (i := 5) (N := some 19) (v := ?_) (a' := ?_) #[true, true, false, false, true, true, false, false, false, false, false, false] rfl rfl (take_ofW HT_.out HW_.out (by kernel_rfl)) (fun _ _ _ h => h) (Or.inl ⟨by rfl, ?_⟩) hHeld ?_ ?_
            rotate_left
            · rintro w' ⟨s0, s1, s2, s3⟩
              go_simp
              with_reducible rfl
            rotate_left
            · simp only [Act.put, List.setIfInBounds_toArray, List.set_cons_zero, List.set_cons_succ, i64_w, i32_w]
              rfl
            refine join_ (σ := Value × Value × Value) 4 #[true, true, true, true, true, true, true, false, true, false, false, false] (fun s_ => [(16, s_.1), (17, s_.2.1), (20, s_.2.2), (22, .pointer (some ⟨gb140, 0, none⟩))]) (fun s_ w' => (w'.cell? ⟨gb140, 0, none⟩ = some (.slice Ao10 x141000_1.length co10) ∧ w'.cell? ⟨gb140, 1, none⟩ = some (.slice Ao11 x141001_1.length co11) ∧ w'.cell? ⟨gb140, 2, none⟩ = some (.int .i64 (-1)) ∧ w'.cell? ⟨gb140, 3, none⟩ = some (.int .i64 (-1))) ∧ (Kd.R (Kd.int .i64) 3 w' w.heap.size (fun k_ => some k_ ≠ (s_.2.1 : Value).ownBlock ∧ some k_ ≠ (s_.2.2 : Value).ownBlock ∧ some k_ ≠ (.slice Ao11 x141001_1.length co11 : Value).ownBlock) s_.1 y141) ∧ (Kd.R (Kd.int .i64) 3 w' w.heap.size (fun k_ => some k_ ≠ (s_.1 : Value).ownBlock ∧ some k_ ≠ (s_.2.2 : Value).ownBlock ∧ some k_ ≠ (.slice Ao11 x141001_1.length co11 : Value).ownBlock) s_.2.1 y144) ∧ (Kd.R (Kd.int .i64) 3 w' w.heap.size (fun k_ => some k_ ≠ (s_.1 : Value).ownBlock ∧ some k_ ≠ (s_.2.1 : Value).ownBlock ∧ some k_ ≠ (.slice Ao11 x141001_1.length co11 : Value).ownBlock) s_.2.2 y147) ∧ (Kd.R (Kd.int .i64) 3 w' w.heap.size (fun k_ => some k_ ≠ (s_.1 : Value).ownBlock ∧ some k_ ≠ (s_.2.1 : Value).ownBlock ∧ some k_ ≠ (s_.2.2 : Value).ownBlock) (.slice Ao11 x141001_1.length co11) x141001_1) ∧ (w'.heap[gb139]? = some (.cells #[.slice none 0 0, .slice none 0 0, .int .i64 0, .int .i64 0] 24 (0, 0))) ∧ (w'.heap[gb140]? = some (.cells #[.slice Ao10 x141000_1.length co10, .slice Ao11 x141001_1.length co11, .int .i64 (-1), .int .i64 (-1)] 24 (0, 0))) ∧ (Below w.heap.size w w')) ?_ ?_
            rotate_left
            · intro hCont
              refine two_ (i := 2) (j := 6) (Ni := some 16) (Nj := some 20) #[true, true, true, false, true, true, false, false, false, false, false, false] #[true, true, false, false, true, true, true, false, false, false, false, false] rfl rfl rfl rfl (two_of HT_.out (by kernel_rfl)) (by decide) (by decide) (fun K hK => ?_) (fun K hK => ?_)
              · skip
                refine Kd.R_lit_step (Kd.int .i64) _ 3 ?hg (N := 16) ?hd (xs := ([(-1)] : List Int)) (inner := [.int .i64 (-1)]) (ok := fun _ => True) (okp := fun _ => True) ?hr ?hp (fun _ hk => hk) trivial (Below.refl _ _) (Nat.le_refl _) (by simp) ?_; (case hd => rfl); (case hg => rfl); (case hr => first | (go_simp; done) | (go_simp; rfl)); (case hp => exact (Reps.one (show Kd.M (Kd.int .i64) _ _ _ (-1) [.int .i64 (-1)] from rfl) (Reps.none _ _)))
                intro v142 w13 ho14 hb hg_ hnew_
                clear hg_ hnew_
                (first | rw [← Ny141.out] at ho14 | (simp only [Int.reduceToNat] at ho14; rw [← Ny141.out] at ho14))
                have n0_ := Aside0.mk (Kd.R_elder' (Kd.pR HO_141000.out) (Kd.R_base ho14) hb)
                have n1_ := Aside0.mk (Kd.R_elder' (Kd.pR HO_141001.out) (Kd.R_base ho14) hb)
                have n2_ := Aside0.mk (Kd.R_lower (Kd.R_new' (Kd.R_new' ho14 (Kd.R_lt (Kd.pR HO_141000.out))) (Kd.R_lt (Kd.pR HO_141001.out))) (below_size (pB HB.out)))
                have n3_ := Aside0.mk (blk_below (pK BK139.out) hb)
                have n4_ := Aside0.mk (blk_below (pK BK140.out) hb)
                have n5_ := Aside0.mk (below_step (pB HB.out) hb)
                clear HO_141000
                clear HO_141001
                clear BK139
                clear BK140
                clear HB
                have HO_141000 := n0_
                have HO_141001 := n1_
                have HO143 := n2_
                have BK139 := n3_
                have BK140 := n4_
                have HB := n5_
                clear n0_ n1_ n2_ n3_ n4_ n5_
                clear hb ho14
                obtain ⟨Ao16, co16, eo16⟩ := Kd.R_slice HO143.out
                (first | subst eo16 | (injection eo16 with f1_ f2_ f3_; have f4_ := f1_.symm; have f5_ := f3_.symm; clear f1_ f2_ f3_; subst f4_; subst f5_))
                refine hK.out _ _ ⟨(blk_cell BK140.out 0).trans rfl, (blk_cell BK140.out 1).trans rfl, (blk_cell BK140.out 2).trans rfl, (blk_cell BK140.out 3).trans rfl⟩ (fun hHeld => ?_)
                clear hK K
                refine norm_ (a' := ?_) ?_ ?_
                rotate_left
                · show Act.put _ (some 16) _ = _
                  simp only [Act.put, List.setIfInBounds_toArray, List.set_cons_zero, List.set_cons_succ, i64_w, i32_w]
                  rfl
                refine two_ (i := 3) (j := 6) (Ni := some 17) (Nj := some 20) #[true, true, true, true, true, true, false, false, false, false, false, false] #[true, true, true, false, true, true, true, false, false, false, false, false] rfl rfl rfl rfl (two_of HT_.out (by kernel_rfl)) (by decide) (by decide) (fun K hK => ?_) (fun K hK => ?_)
                · skip
                  refine Kd.R_append_rows_step (Kd.int .i64) (w0 := w) w.heap.size (by rfl) (.tmp 15) (.tmp 16) 22 3 (.int .i64 0) 8 rfl Try.underlying22 info3 rfl (by decide) (by omega) (.slice Ao10 x141000_1.length co10) x141000_1 y141 _ _ _ (fun k_ => some k_ ≠ (.slice Ao11 x141001_1.length co11 : Value).ownBlock ∧ some k_ ≠ (.slice Ao16 y141.length co16 : Value).ownBlock) (fun _ => False) rfl rfl ?aO ?aR (fun _ _ h => h) (fun _ h => h.elim) ?aF ?aB ?aS ?aL ?_
                  (case aR => exact Kd.pC ((Kd.R_reads' HO143.out).2.2))
                  (case aB => exact (pB HB.out))
                  (case aF => exact (fun k_ hk => ⟨Kd.fresh' (Kd.R_lt (Kd.pR HO_141001.out)) k_ hk, Kd.fresh' (Kd.R_lt (Kd.pR HO143.out)) k_ hk⟩))
                  (case aO => exact (Kd.pR HO_141000.out))
                  (case aS => exact (below_size (pB HB.out)))
                  (case aL => have := LMc8.out; omega)
                  intro v145 w15 ho hb hg hat
                  rw [← Ny144.out] at ho
                  have n0_ := Aside0.mk (Kd.R_after (ok := (fun k_ => some k_ ≠ (.slice Ao16 y141.length co16 : Value).ownBlock)) (Kd.pR (Kd.R_mono HO_141001.out (fun _ hk => ⟨hk.2, hk.1⟩))) hg hat)
                  have n1_ := Aside0.mk (blk_grown (pK BK139.out) hg (Kd.R_ne HO_141000.out BK139.out (by decide)))
                  have n2_ := Aside0.mk (blk_grown (pK BK140.out) hg (Kd.R_ne HO_141000.out BK140.out (by decide)))
                  have n3_ := Aside0.mk (Kd.R_after (ok := (fun k_ => some k_ ≠ (.slice Ao11 x141001_1.length co11 : Value).ownBlock)) (Kd.pR (Kd.R_mono HO143.out (fun _ hk => ⟨hk.2, hk.1.2⟩))) hg hat)
                  have n4_ := Aside0.mk (hb)
                  have n5_ := Aside0.mk (ho)
                  clear HO_141001
                  clear BK139
                  clear BK140
                  clear HO143
                  clear HB
                  clear HO_141000
                  have HO_141001 := n0_
                  have BK139 := n1_
                  have BK140 := n2_
                  have HO143 := n3_
                  have HB := n4_
                  have HO146 := n5_
                  clear n0_ n1_ n2_ n3_ n4_ n5_
                  clear ho hb hg hat
                  refine hK.out _ _ ⟨(blk_cell BK140.out 0).trans rfl, (blk_cell BK140.out 1).trans rfl, (blk_cell BK140.out 2).trans rfl, (blk_cell BK140.out 3).trans rfl⟩ (fun hHeld => ?_)
                  clear hK K
                  refine norm_ (a' := ?_) ?_ ?_
                  rotate_left
                  · show Act.put _ (some 17) _ = _
                    simp only [Act.put, List.setIfInBounds_toArray, List.set_cons_zero, List.set_cons_succ, i64_w, i32_w]
                    rfl
                  refine pure_ (i := 8) (N := some 22) (v := ?_) (a' := ?_) #[true, true, true, true, true, true, false, false, true, false, false, false] rfl rfl (any_of HT_.out (by kernel_rfl)) (fun _ _ _ h => h) (Or.inl ⟨by rfl, ?_⟩) ?_ ?_
                  rotate_left
                  · intro w'
                    go_simp
                    with_reducible rfl
                  rotate_left
                  · simp only [Act.put, List.setIfInBounds_toArray, List.set_cons_zero, List.set_cons_succ, i64_w, i32_w]
                    rfl
                  refine one_ (i := 6) (N := some 20) #[true, true, true, true, true, true, true, false, true, false, false, false] rfl rfl (one_of HT_.out (by kernel_rfl)) (by decide) (fun K hK => ?_)
                  refine Kd.R_lit_step (Kd.int .i64) _ 3 ?hg (N := 20) ?hd (xs := ([(-1)] : List Int)) (inner := [.int .i64 (-1)]) (ok := fun _ => True) (okp := fun _ => True) ?hr ?hp (fun _ hk => hk) trivial (Below.refl _ _) (Nat.le_refl _) (by simp) ?_; (case hd => rfl); (case hg => rfl); (case hr => first | (go_simp; done) | (go_simp; rfl)); (case hp => exact (Reps.one (show Kd.M (Kd.int .i64) _ _ _ (-1) [.int .i64 (-1)] from rfl) (Reps.none _ _)))
                  intro v148 w17 ho18 hb hg_ hnew_
                  clear hg_ hnew_
                  (first | rw [← Ny147.out] at ho18 | (simp only [Int.reduceToNat] at ho18; rw [← Ny147.out] at ho18))
                  have n0_ := Aside0.mk (Kd.R_elder' (Kd.pR HO_141001.out) (Kd.R_base ho18) hb)
                  have n1_ := Aside0.mk (Kd.R_elder' (Kd.pR HO143.out) (Kd.R_base ho18) hb)
                  have n2_ := Aside0.mk (Kd.R_elder' (Kd.pR HO146.out) (Kd.R_base ho18) hb)
                  have n3_ := Aside0.mk (Kd.R_lower (Kd.R_new' (Kd.R_new' (Kd.R_new' ho18 (Kd.R_lt (Kd.pR HO_141001.out))) (Kd.R_lt (Kd.pR HO143.out))) (Kd.R_lt (Kd.pR HO146.out))) (below_size (pB HB.out)))
                  have n4_ := Aside0.mk (blk_below (pK BK139.out) hb)
                  have n5_ := Aside0.mk (blk_below (pK BK140.out) hb)
                  have n6_ := Aside0.mk (below_step (pB HB.out) hb)
                  clear HO_141001
                  clear HO143
                  clear HO146
                  clear BK139
                  clear BK140
                  clear HB
                  have HO_141001 := n0_
                  have HO143 := n1_
                  have HO146 := n2_
                  have HO149 := n3_
                  have BK139 := n4_
                  have BK140 := n5_
                  have HB := n6_
                  clear n0_ n1_ n2_ n3_ n4_ n5_ n6_
                  clear hb ho18
                  refine hK.out _ _ ⟨(blk_cell BK140.out 0).trans rfl, (blk_cell BK140.out 1).trans rfl, (blk_cell BK140.out 2).trans rfl, (blk_cell BK140.out 3).trans rfl⟩ (fun hHeld => ?_)
                  clear hK K
                  refine norm_ (a' := ?_) ?_ ?_
                  rotate_left
                  · show Act.put _ (some 20) _ = _
                    simp only [Act.put, List.setIfInBounds_toArray, List.set_cons_zero, List.set_cons_succ, i64_w, i32_w]
                    rfl
                  exact norm_ (by simp only [putAll, Act.put, List.setIfInBounds_toArray, List.set_cons_zero, List.set_cons_succ]) (hCont (.slice Ao16 y141.length co16, v145, v148) _ ⟨hHeld, (Kd.pR (Kd.R_mono HO143.out (fun _ hk => ⟨hk.1.2, ⟨hk.2, hk.1.1⟩⟩))), (Kd.pR (Kd.R_mono HO146.out (fun _ hk => ⟨hk.1.2, ⟨hk.2, hk.1.1⟩⟩))), (Kd.pR (Kd.R_mono HO149.out (fun _ hk => ⟨hk.1.2, ⟨hk.2, hk.1.1.2⟩⟩))), (Kd.pR (Kd.R_mono HO_141001.out (fun _ hk => ⟨hk.1.1, ⟨hk.1.2, hk.2⟩⟩))), (pK BK139.out), (pK BK140.out), (pB HB.out)⟩)
                · skip
                  refine Kd.R_lit_step (Kd.int .i64) _ 3 ?hg (N := 20) ?hd (xs := ([(-1)] : List Int)) (inner := [.int .i64 (-1)]) (ok := fun _ => True) (okp := fun _ => True) ?hr ?hp (fun _ hk => hk) trivial (Below.refl _ _) (Nat.le_refl _) (by simp) ?_; (case hd => rfl); (case hg => rfl); (case hr => first | (go_simp; done) | (go_simp; rfl)); (case hp => exact (Reps.one (show Kd.M (Kd.int .i64) _ _ _ (-1) [.int .i64 (-1)] from rfl) (Reps.none _ _)))
                  intro v148 w15 ho16 hb hg_ hnew_
                  clear hg_ hnew_
                  (first | rw [← Ny147.out] at ho16 | (simp only [Int.reduceToNat] at ho16; rw [← Ny147.out] at ho16))
                  have n0_ := Aside0.mk (Kd.R_elder' (Kd.pR HO_141000.out) (Kd.R_base ho16) hb)
                  have n1_ := Aside0.mk (Kd.R_elder' (Kd.pR HO_141001.out) (Kd.R_base ho16) hb)
                  have n2_ := Aside0.mk (Kd.R_elder' (Kd.pR HO143.out) (Kd.R_base ho16) hb)
                  have n3_ := Aside0.mk (Kd.R_lower (Kd.R_new' (Kd.R_new' (Kd.R_new' ho16 (Kd.R_lt (Kd.pR HO_141000.out))) (Kd.R_lt (Kd.pR HO_141001.out))) (Kd.R_lt (Kd.pR HO143.out))) (below_size (pB HB.out)))
                  have n4_ := Aside0.mk (blk_below (pK BK139.out) hb)
                  have n5_ := Aside0.mk (blk_below (pK BK140.out) hb)
                  have n6_ := Aside0.mk (below_step (pB HB.out) hb)
                  clear HO_141000
                  clear HO_141001
                  clear HO143
                  clear BK139
                  clear BK140
                  clear HB
                  have HO_141000 := n0_
                  have HO_141001 := n1_
                  have HO143 := n2_
                  have HO149 := n3_
                  have BK139 := n4_
                  have BK140 := n5_
                  have HB := n6_
                  clear n0_ n1_ n2_ n3_ n4_ n5_ n6_
                  clear hb ho16
                  obtain ⟨Ao18, co18, eo18⟩ := Kd.R_slice HO143.out
                  (first | subst eo18 | (injection eo18 with f1_ f2_ f3_; have f4_ := f1_.symm; have f5_ := f3_.symm; clear f1_ f2_ f3_; subst f4_; subst f5_))
                  refine hK.out _ _ ⟨(blk_cell BK140.out 0).trans rfl, (blk_cell BK140.out 1).trans rfl, (blk_cell BK140.out 2).trans rfl, (blk_cell BK140.out 3).trans rfl⟩ (fun hHeld => ?_)
                  clear hK K
                  refine norm_ (a' := ?_) ?_ ?_
                  rotate_left
                  · show Act.put _ (some 20) _ = _
                    simp only [Act.put, List.setIfInBounds_toArray, List.set_cons_zero, List.set_cons_succ, i64_w, i32_w]
                    rfl
                  refine one_ (i := 3) (N := some 17) #[true, true, true, true, true, true, true, false, false, false, false, false] rfl rfl (one_of HT_.out (by kernel_rfl)) (by decide) (fun K hK => ?_)
                  refine Kd.R_append_rows_step (Kd.int .i64) (w0 := w) w.heap.size (by rfl) (.tmp 15) (.tmp 16) 22 3 (.int .i64 0) 8 rfl Try.underlying22 info3 rfl (by decide) (by omega) (.slice Ao10 x141000_1.length co10) x141000_1 y141 _ _ _ (fun k_ => some k_ ≠ (.slice Ao11 x141001_1.length co11 : Value).ownBlock ∧ some k_ ≠ (.slice Ao18 y141.length co18 : Value).ownBlock ∧ some k_ ≠ (v148 : Value).ownBlock) (fun _ => False) rfl rfl ?aO ?aR (fun _ _ h => h) (fun _ h => h.elim) ?aF ?aB ?aS ?aL ?_
                  (case aR => exact Kd.pC ((Kd.R_reads' HO143.out).2.2))
                  (case aB => exact (pB HB.out))
                  (case aF => exact (fun k_ hk => ⟨Kd.fresh' (Kd.R_lt (Kd.pR HO_141001.out)) k_ hk, Kd.fresh' (Kd.R_lt (Kd.pR HO143.out)) k_ hk, Kd.fresh' (Kd.R_lt (Kd.pR HO149.out)) k_ hk⟩))
                  (case aO => exact (Kd.pR (Kd.R_mono HO_141000.out (fun _ hk => ⟨hk.1.1, ⟨hk.1.2, hk.2⟩⟩))))
                  (case aS => exact (below_size (pB HB.out)))
                  (case aL => have := LMc8.out; omega)
                  intro v145 w17 ho hb hg hat
                  rw [← Ny144.out] at ho
                  have n0_ := Aside0.mk (Kd.R_after (ok := (fun k_ => some k_ ≠ (.slice Ao18 y141.length co18 : Value).ownBlock ∧ some k_ ≠ (v148 : Value).ownBlock)) (Kd.pR (Kd.R_mono HO_141001.out (fun _ hk => ⟨⟨hk.1.2, hk.2⟩, hk.1.1⟩))) hg hat)
                  have n1_ := Aside0.mk (blk_grown (pK BK139.out) hg (Kd.R_ne HO_141000.out BK139.out (by decide)))
                  have n2_ := Aside0.mk (blk_grown (pK BK140.out) hg (Kd.R_ne HO_141000.out BK140.out (by decide)))
                  have n3_ := Aside0.mk (Kd.R_after (ok := (fun k_ => some k_ ≠ (.slice Ao11 x141001_1.length co11 : Value).ownBlock ∧ some k_ ≠ (v148 : Value).ownBlock)) (Kd.pR (Kd.R_mono HO143.out (fun _ hk => ⟨⟨hk.1.2, hk.2⟩, hk.1.1.2⟩))) hg hat)
                  have n4_ := Aside0.mk (Kd.R_after (ok := (fun k_ => some k_ ≠ (.slice Ao11 x141001_1.length co11 : Value).ownBlock ∧ some k_ ≠ (.slice Ao18 y141.length co18 : Value).ownBlock)) (Kd.pR (Kd.R_mono HO149.out (fun _ hk => ⟨⟨hk.1.2, hk.2⟩, hk.1.1.2⟩))) hg hat)
                  have n5_ := Aside0.mk (hb)
                  have n6_ := Aside0.mk (ho)
                  clear HO_141001
                  clear BK139
                  clear BK140
                  clear HO143
                  clear HO149
                  clear HB
                  clear HO_141000
                  have HO_141001 := n0_
                  have BK139 := n1_
                  have BK140 := n2_
                  have HO143 := n3_
                  have HO149 := n4_
                  have HB := n5_
                  have HO146 := n6_
                  clear n0_ n1_ n2_ n3_ n4_ n5_ n6_
                  clear ho hb hg hat
                  refine hK.out _ _ ⟨(blk_cell BK140.out 0).trans rfl, (blk_cell BK140.out 1).trans rfl, (blk_cell BK140.out 2).trans rfl, (blk_cell BK140.out 3).trans rfl⟩ (fun hHeld => ?_)
                  clear hK K
                  refine norm_ (a' := ?_) ?_ ?_
                  rotate_left
                  · show Act.put _ (some 17) _ = _
                    simp only [Act.put, List.setIfInBounds_toArray, List.set_cons_zero, List.set_cons_succ, i64_w, i32_w]
                    rfl
                  refine pure_ (i := 8) (N := some 22) (v := ?_) (a' := ?_) #[true, true, true, true, true, true, true, false, true, false, false, false] rfl rfl (any_of HT_.out (by kernel_rfl)) (fun _ _ _ h => h) (Or.inl ⟨by rfl, ?_⟩) ?_ ?_
                  rotate_left
                  · intro w'
                    go_simp
                    with_reducible rfl
                  rotate_left
                  · simp only [Act.put, List.setIfInBounds_toArray, List.set_cons_zero, List.set_cons_succ, i64_w, i32_w]
                    rfl
                  exact norm_ (by simp only [putAll, Act.put, List.setIfInBounds_toArray, List.set_cons_zero, List.set_cons_succ]) (hCont (.slice Ao18 y141.length co18, v145, v148) _ ⟨hHeld, (Kd.pR (Kd.R_mono HO143.out (fun _ hk => ⟨hk.2, ⟨hk.1.2, hk.1.1⟩⟩))), (Kd.pR (Kd.R_mono HO146.out (fun _ hk => ⟨hk.2.1, ⟨hk.2.2, hk.1⟩⟩))), (Kd.pR (Kd.R_mono HO149.out (fun _ hk => ⟨hk.1.2, ⟨hk.2, hk.1.1⟩⟩))), (Kd.pR (Kd.R_mono HO_141001.out (fun _ hk => ⟨hk.1.1, ⟨hk.2, hk.1.2⟩⟩))), (pK BK139.out), (pK BK140.out), (pB HB.out)⟩)
              · skip
                refine Kd.R_lit_step (Kd.int .i64) _ 3 ?hg (N := 20) ?hd (xs := ([(-1)] : List Int)) (inner := [.int .i64 (-1)]) (ok := fun _ => True) (okp := fun _ => True) ?hr ?hp (fun _ hk => hk) trivial (Below.refl _ _) (Nat.le_refl _) (by simp) ?_; (case hd => rfl); (case hg => rfl); (case hr => first | (go_simp; done) | (go_simp; rfl)); (case hp => exact (Reps.one (show Kd.M (Kd.int .i64) _ _ _ (-1) [.int .i64 (-1)] from rfl) (Reps.none _ _)))
                intro v148 w13 ho14 hb hg_ hnew_
                clear hg_ hnew_
                (first | rw [← Ny147.out] at ho14 | (simp only [Int.reduceToNat] at ho14; rw [← Ny147.out] at ho14))
                have n0_ := Aside0.mk (Kd.R_elder' (Kd.pR HO_141000.out) (Kd.R_base ho14) hb)
                have n1_ := Aside0.mk (Kd.R_elder' (Kd.pR HO_141001.out) (Kd.R_base ho14) hb)
                have n2_ := Aside0.mk (Kd.R_lower (Kd.R_new' (Kd.R_new' ho14 (Kd.R_lt (Kd.pR HO_141000.out))) (Kd.R_lt (Kd.pR HO_141001.out))) (below_size (pB HB.out)))
                have n3_ := Aside0.mk (blk_below (pK BK139.out) hb)
                have n4_ := Aside0.mk (blk_below (pK BK140.out) hb)
                have n5_ := Aside0.mk (below_step (pB HB.out) hb)
                clear HO_141000
                clear HO_141001
                clear BK139
                clear BK140
                clear HB
                have HO_141000 := n0_
                have HO_141001 := n1_
                have HO149 := n2_
                have BK139 := n3_
                have BK140 := n4_
                have HB := n5_
                clear n0_ n1_ n2_ n3_ n4_ n5_
                clear hb ho14
                refine hK.out _ _ ⟨(blk_cell BK140.out 0).trans rfl, (blk_cell BK140.out 1).trans rfl, (blk_cell BK140.out 2).trans rfl, (blk_cell BK140.out 3).trans rfl⟩ (fun hHeld => ?_)
                clear hK K
                refine norm_ (a' := ?_) ?_ ?_
                rotate_left
                · show Act.put _ (some 20) _ = _
                  simp only [Act.put, List.setIfInBounds_toArray, List.set_cons_zero, List.set_cons_succ, i64_w, i32_w]
                  rfl
                refine one_ (i := 2) (N := some 16) #[true, true, true, false, true, true, true, false, false, false, false, false] rfl rfl (one_of HT_.out (by kernel_rfl)) (by decide) (fun K hK => ?_)
                refine Kd.R_lit_step (Kd.int .i64) _ 3 ?hg (N := 16) ?hd (xs := ([(-1)] : List Int)) (inner := [.int .i64 (-1)]) (ok := fun _ => True) (okp := fun _ => True) ?hr ?hp (fun _ hk => hk) trivial (Below.refl _ _) (Nat.le_refl _) (by simp) ?_; (case hd => rfl); (case hg => rfl); (case hr => first | (go_simp; done) | (go_simp; rfl)); (case hp => exact (Reps.one (show Kd.M (Kd.int .i64) _ _ _ (-1) [.int .i64 (-1)] from rfl) (Reps.none _ _)))
                intro v142 w15 ho16 hb hg_ hnew_
                clear hg_ hnew_
                (first | rw [← Ny141.out] at ho16 | (simp only [Int.reduceToNat] at ho16; rw [← Ny141.out] at ho16))
                have n0_ := Aside0.mk (Kd.R_elder' (Kd.pR HO_141000.out) (Kd.R_base ho16) hb)
                have n1_ := Aside0.mk (Kd.R_elder' (Kd.pR HO_141001.out) (Kd.R_base ho16) hb)
                have n2_ := Aside0.mk (Kd.R_elder' (Kd.pR HO149.out) (Kd.R_base ho16) hb)
                have n3_ := Aside0.mk (Kd.R_lower (Kd.R_new' (Kd.R_new' (Kd.R_new' ho16 (Kd.R_lt (Kd.pR HO_141000.out))) (Kd.R_lt (Kd.pR HO_141001.out))) (Kd.R_lt (Kd.pR HO149.out))) (below_size (pB HB.out)))
                have n4_ := Aside0.mk (blk_below (pK BK139.out) hb)
                have n5_ := Aside0.mk (blk_below (pK BK140.out) hb)
                have n6_ := Aside0.mk (below_step (pB HB.out) hb)
                clear HO_141000
                clear HO_141001
                clear HO149
                clear BK139
                clear BK140
                clear HB
                have HO_141000 := n0_
                have HO_141001 := n1_
                have HO149 := n2_
                have HO143 := n3_
                have BK139 := n4_
                have BK140 := n5_
                have HB := n6_
                clear n0_ n1_ n2_ n3_ n4_ n5_ n6_
                clear hb ho16
                obtain ⟨Ao18, co18, eo18⟩ := Kd.R_slice HO143.out
                (first | subst eo18 | (injection eo18 with f1_ f2_ f3_; have f4_ := f1_.symm; have f5_ := f3_.symm; clear f1_ f2_ f3_; subst f4_; subst f5_))
                refine hK.out _ _ ⟨(blk_cell BK140.out 0).trans rfl, (blk_cell BK140.out 1).trans rfl, (blk_cell BK140.out 2).trans rfl, (blk_cell BK140.out 3).trans rfl⟩ (fun hHeld => ?_)
                clear hK K
                refine norm_ (a' := ?_) ?_ ?_
                rotate_left
                · show Act.put _ (some 16) _ = _
                  simp only [Act.put, List.setIfInBounds_toArray, List.set_cons_zero, List.set_cons_succ, i64_w, i32_w]
                  rfl
                refine one_ (i := 3) (N := some 17) #[true, true, true, true, true, true, true, false, false, false, false, false] rfl rfl (one_of HT_.out (by kernel_rfl)) (by decide) (fun K hK => ?_)
                refine Kd.R_append_rows_step (Kd.int .i64) (w0 := w) w.heap.size (by rfl) (.tmp 15) (.tmp 16) 22 3 (.int .i64 0) 8 rfl Try.underlying22 info3 rfl (by decide) (by omega) (.slice Ao10 x141000_1.length co10) x141000_1 y141 _ _ _ (fun k_ => some k_ ≠ (.slice Ao11 x141001_1.length co11 : Value).ownBlock ∧ some k_ ≠ (v148 : Value).ownBlock ∧ some k_ ≠ (.slice Ao18 y141.length co18 : Value).ownBlock) (fun _ => False) rfl rfl ?aO ?aR (fun _ _ h => h) (fun _ h => h.elim) ?aF ?aB ?aS ?aL ?_
                (case aR => exact Kd.pC ((Kd.R_reads' HO143.out).2.2))
                (case aB => exact (pB HB.out))
                (case aF => exact (fun k_ hk => ⟨Kd.fresh' (Kd.R_lt (Kd.pR HO_141001.out)) k_ hk, Kd.fresh' (Kd.R_lt (Kd.pR HO149.out)) k_ hk, Kd.fresh' (Kd.R_lt (Kd.pR HO143.out)) k_ hk⟩))
                (case aO => exact (Kd.pR (Kd.R_mono HO_141000.out (fun _ hk => ⟨hk.1.1, ⟨hk.1.2, hk.2⟩⟩))))
                (case aS => exact (below_size (pB HB.out)))
                (case aL => have := LMc8.out; omega)
                intro v145 w17 ho hb hg hat
                rw [← Ny144.out] at ho
                have n0_ := Aside0.mk (Kd.R_after (ok := (fun k_ => some k_ ≠ (v148 : Value).ownBlock ∧ some k_ ≠ (.slice Ao18 y141.length co18 : Value).ownBlock)) (Kd.pR (Kd.R_mono HO_141001.out (fun _ hk => ⟨⟨hk.1.2, hk.2⟩, hk.1.1⟩))) hg hat)
                have n1_ := Aside0.mk (blk_grown (pK BK139.out) hg (Kd.R_ne HO_141000.out BK139.out (by decide)))
                have n2_ := Aside0.mk (blk_grown (pK BK140.out) hg (Kd.R_ne HO_141000.out BK140.out (by decide)))
                have n3_ := Aside0.mk (Kd.R_after (ok := (fun k_ => some k_ ≠ (.slice Ao11 x141001_1.length co11 : Value).ownBlock ∧ some k_ ≠ (.slice Ao18 y141.length co18 : Value).ownBlock)) (Kd.pR (Kd.R_mono HO149.out (fun _ hk => ⟨⟨hk.1.2, hk.2⟩, hk.1.1.2⟩))) hg hat)
                have n4_ := Aside0.mk (Kd.R_after (ok := (fun k_ => some k_ ≠ (.slice Ao11 x141001_1.length co11 : Value).ownBlock ∧ some k_ ≠ (v148 : Value).ownBlock)) (Kd.pR (Kd.R_mono HO143.out (fun _ hk => ⟨⟨hk.1.2, hk.2⟩, hk.1.1.2⟩))) hg hat)
                have n5_ := Aside0.mk (hb)
                have n6_ := Aside0.mk (ho)
                clear HO_141001
                clear BK139
                clear BK140
                clear HO149
                clear HO143
                clear HB
                clear HO_141000
                have HO_141001 := n0_
                have BK139 := n1_
                have BK140 := n2_
                have HO149 := n3_
                have HO143 := n4_
                have HB := n5_
                have HO146 := n6_
                clear n0_ n1_ n2_ n3_ n4_ n5_ n6_
                clear ho hb hg hat
                refine hK.out _ _ ⟨(blk_cell BK140.out 0).trans rfl, (blk_cell BK140.out 1).trans rfl, (blk_cell BK140.out 2).trans rfl, (blk_cell BK140.out 3).trans rfl⟩ (fun hHeld => ?_)
                clear hK K
                refine norm_ (a' := ?_) ?_ ?_
                rotate_left
                · show Act.put _ (some 17) _ = _
                  simp only [Act.put, List.setIfInBounds_toArray, List.set_cons_zero, List.set_cons_succ, i64_w, i32_w]
                  rfl
                refine pure_ (i := 8) (N := some 22) (v := ?_) (a' := ?_) #[true, true, true, true, true, true, true, false, true, false, false, false] rfl rfl (any_of HT_.out (by kernel_rfl)) (fun _ _ _ h => h) (Or.inl ⟨by rfl, ?_⟩) ?_ ?_
                rotate_left
                · intro w'
                  go_simp
                  with_reducible rfl
                rotate_left
                · simp only [Act.put, List.setIfInBounds_toArray, List.set_cons_zero, List.set_cons_succ, i64_w, i32_w]
                  rfl
                exact norm_ (by simp only [putAll, Act.put, List.setIfInBounds_toArray, List.set_cons_zero, List.set_cons_succ]) (hCont (.slice Ao18 y141.length co18, v145, v148) _ ⟨hHeld, (Kd.pR (Kd.R_mono HO143.out (fun _ hk => ⟨hk.2, ⟨hk.1.2, hk.1.1⟩⟩))), (Kd.pR (Kd.R_mono HO146.out (fun _ hk => ⟨hk.2.2, ⟨hk.2.1, hk.1⟩⟩))), (Kd.pR (Kd.R_mono HO149.out (fun _ hk => ⟨hk.1.2, ⟨hk.2, hk.1.1⟩⟩))), (Kd.pR (Kd.R_mono HO_141001.out (fun _ hk => ⟨hk.1.2, ⟨hk.2, hk.1.1⟩⟩))), (pK BK139.out), (pK BK140.out), (pB HB.out)⟩)
            rintro ⟨v142, v145, v148⟩ w19 ⟨hS_, h0_, h1_, h2_, h3_, h4_, h5_, h6_⟩
            have n0_ : Aside0 (Kd.R (Kd.int .i64) 3 w19 w.heap.size (fun k_ => some k_ ≠ (v145 : Value).ownBlock ∧ some k_ ≠ (v148 : Value).ownBlock ∧ some k_ ≠ (.slice Ao11 x141001_1.length co11 : Value).ownBlock) v142 y141) := ⟨h0_⟩
            have n1_ : Aside0 (Kd.R (Kd.int .i64) 3 w19 w.heap.size (fun k_ => some k_ ≠ (v142 : Value).ownBlock ∧ some k_ ≠ (v148 : Value).ownBlock ∧ some k_ ≠ (.slice Ao11 x141001_1.length co11 : Value).ownBlock) v145 y144) := ⟨h1_⟩
            have n2_ : Aside0 (Kd.R (Kd.int .i64) 3 w19 w.heap.size (fun k_ => some k_ ≠ (v142 : Value).ownBlock ∧ some k_ ≠ (v145 : Value).ownBlock ∧ some k_ ≠ (.slice Ao11 x141001_1.length co11 : Value).ownBlock) v148 y147) := ⟨h2_⟩
            have n3_ : Aside0 (Kd.R (Kd.int .i64) 3 w19 w.heap.size (fun k_ => some k_ ≠ (v142 : Value).ownBlock ∧ some k_ ≠ (v145 : Value).ownBlock ∧ some k_ ≠ (v148 : Value).ownBlock) (.slice Ao11 x141001_1.length co11) x141001_1) := ⟨h3_⟩
            have n4_ : Aside0 (w19.heap[gb139]? = some (.cells #[.slice none 0 0, .slice none 0 0, .int .i64 0, .int .i64 0] 24 (0, 0))) := ⟨h4_⟩
            have n5_ : Aside0 (w19.heap[gb140]? = some (.cells #[.slice Ao10 x141000_1.length co10, .slice Ao11 x141001_1.length co11, .int .i64 (-1), .int .i64 (-1)] 24 (0, 0))) := ⟨h5_⟩
            have n6_ : Aside0 (Below w.heap.size w w19) := ⟨h6_⟩
            clear HO_141000
            clear HO_141001
            clear BK139
            clear BK140
            clear HB
            clear h0_ h1_ h2_ h3_ h4_ h5_ h6_
            have HO143 := n0_
            have HO146 := n1_
            have HO149 := n2_
            have HO_141001 := n3_
            have BK139 := n4_
            have BK140 := n5_
            have HB := n6_
            clear n0_ n1_ n2_ n3_ n4_ n5_ n6_
            have hHeld : w19.cell? ⟨gb140, 0, none⟩ = some (.slice Ao10 x141000_1.length co10) ∧ w19.cell? ⟨gb140, 1, none⟩ = some (.slice Ao11 x141001_1.length co11) ∧ w19.cell? ⟨gb140, 2, none⟩ = some (.int .i64 (-1)) ∧ w19.cell? ⟨gb140, 3, none⟩ = some (.int .i64 (-1)) := hS_
            obtain ⟨Ao21, co21, eo21⟩ := Kd.R_slice HO149.out
            (first | subst eo21 | (injection eo21 with f1_ f2_ f3_; have f4_ := f1_.symm; have f5_ := f3_.symm; clear f1_ f2_ f3_; subst f4_; subst f5_))
            refine norm_ (a' := ?_) ?_ ?_
            rotate_left
            · simp only [putAll, Act.put, List.setIfInBounds_toArray, List.set_cons_zero, List.set_cons_succ]
              rfl
            refine one_ (i := 7) (N := some 21) #[true, true, true, true, true, true, true, true, true, false, false, false] rfl rfl (one_of HT_.out (by kernel_rfl)) (by decide) (fun K hK => ?_)
            refine Kd.R_append_rows_step (Kd.int .i64) (w0 := w) w.heap.size (by rfl) (.tmp 19) (.tmp 20) 22 3 (.int .i64 0) 8 rfl Try.underlying22 info3 rfl (by decide) (by omega) (.slice Ao11 x141001_1.length co11) x141001_1 y147 _ _ _ (fun k_ => some k_ ≠ (v142 : Value).ownBlock ∧ some k_ ≠ (v145 : Value).ownBlock ∧ some k_ ≠ (.slice Ao21 y147.length co21 : Value).ownBlock) (fun _ => False) rfl rfl ?aO ?aR (fun _ _ h => h) (fun _ h => h.elim) ?aF ?aB ?aS ?aL ?_
            (case aR => exact Kd.pC ((Kd.R_reads' HO149.out).2.2))
            (case aB => exact (pB HB.out))
            (case aF => exact (fun k_ hk => ⟨Kd.fresh' (Kd.R_lt (Kd.pR HO143.out)) k_ hk, Kd.fresh' (Kd.R_lt (Kd.pR HO146.out)) k_ hk, Kd.fresh' (Kd.R_lt (Kd.pR HO149.out)) k_ hk⟩))
            (case aO => exact (Kd.pR HO_141001.out))
            (case aS => exact (below_size (pB HB.out)))
            (case aL => have := LMc9.out; omega)
            intro v151 w20 ho hb hg hat
            rw [← Ny150.out] at ho
            have n0_ := Aside0.mk (blk_grown (pK BK139.out) hg (Kd.R_ne HO_141001.out BK139.out (by decide)))
            have n1_ := Aside0.mk (blk_grown (pK BK140.out) hg (Kd.R_ne HO_141001.out BK140.out (by decide)))
            have n3_ := Aside0.mk (Kd.R_after (ok := (fun k_ => some k_ ≠ (v142 : Value).ownBlock ∧ some k_ ≠ (.slice Ao21 y147.length co21 : Value).ownBlock)) (Kd.pR (Kd.R_mono HO146.out (fun _ hk => ⟨⟨hk.1, hk.2.1⟩, hk.2.2⟩))) hg hat)
            have n5_ := Aside0.mk (hb)
            have n6_ := Aside0.mk (ho)
            clear BK139
            clear BK140
            (try clear HO143)
            clear HO146
            (try clear HO149)
            clear HB
            clear HO_141001
            have BK139 := n0_
            have BK140 := n1_
            have HO146 := n3_
            have HB := n5_
            have HO152 := n6_
            clear n0_ n1_ n3_ n5_ n6_
            clear ho hb hg hat
            obtain ⟨Ao22, co22, eo22⟩ := Kd.R_slice HO146.out
            (first | subst eo22 | (injection eo22 with f1_ f2_ f3_; have f4_ := f1_.symm; have f5_ := f3_.symm; clear f1_ f2_ f3_; subst f4_; subst f5_))
            obtain ⟨Ao24, co24, eo24⟩ := Kd.R_slice HO152.out
            (first | subst eo24 | (injection eo24 with f1_ f2_ f3_; have f4_ := f1_.symm; have f5_ := f3_.symm; clear f1_ f2_ f3_; subst f4_; subst f5_))
            refine hK.out _ _ ⟨(blk_cell BK140.out 0).trans rfl, (blk_cell BK140.out 1).trans rfl, (blk_cell BK140.out 2).trans rfl, (blk_cell BK140.out 3).trans rfl⟩ (fun hHeld => ?_)
            clear hK K
            refine norm_ (a' := ?_) ?_ ?_
            rotate_left
            · show Act.put _ (some 21) _ = _
              simp only [Act.put, List.setIfInBounds_toArray, List.set_cons_zero, List.set_cons_succ, i64_w, i32_w]
              rfl
            refine last_ (i := 9) (N := none) #[true, true, true, true, true, true, true, true, true, true, false, false] rfl rfl (one_of HT_.out (by kernel_rfl)) (by decide) (fun K hK => ?_)
            have hs23 : w20.cell? ⟨gb140, 0, none⟩ = some (.slice Ao10 x141000_1.length co10) := (blk_cell BK140.out 0).trans rfl
            have hfs23 := blk_frozen BK140.out 0
            have hns23_0 := NB139_140.out
            have hms23_0 := NB140_139.out
            refine skip_ (w1 := ?_) (by rfl) rfl ?_ ?_
            rotate_left
            · go_simp
              rfl
            refine hK.out _ _ ?_
            clear hK K
            refine pure_ (i := 10) (N := some 23) (v := ?_) (a' := ?_) #[true, true, true, true, true, true, true, true, true, true, true, false] rfl rfl (any_of HT_.out (by kernel_rfl)) (fun _ _ _ h => h) (Or.inl ⟨by rfl, ?_⟩) ?_ ?_
            rotate_left
            · intro w'
              go_simp
              with_reducible rfl
            rotate_left
            · simp only [Act.put, List.setIfInBounds_toArray, List.set_cons_zero, List.set_cons_succ, i64_w, i32_w]
              rfl
            refine last_ (i := 11) (N := none) #[true, true, true, true, true, true, true, true, true, true, true, true] rfl rfl (one_of HT_.out (by kernel_rfl)) (by decide) (fun K hK => ?_)
            have hs25 : w20.cell? ⟨gb140, 1, none⟩ = some (.slice Ao11 x141001_1.length co11) := (blk_cell BK140.out 1).trans rfl
            have hfs25 := blk_frozen BK140.out 1
            have hns25_0 := NB139_140.out
            have hms25_0 := NB140_139.out
            refine skip_ (w1 := ?_) (by rfl) rfl ?_ ?_
            rotate_left
            · go_simp
              rfl
            refine hK.out _ _ ?_
            clear hK K
            refine done_ (done_of HT_.out (by kernel_rfl)) ?_
            try go_wp2
            go_roundg k1
            case measure => have := HK1.out; omega
            case rel => exact ⟨(wrap64 (x6_1 + 1)), (y144), (y150), (.slice Ao22 y144.length co22), (.slice Ao24 y150.length co24), (by first | rfl | (simp; done) | (simp [*]; done)), H', ⟨by have := HK1.out; omega⟩, ⟨Kd.pR (Kd.R_mono (Kd.R_far (p := ⟨gb140, 1, none⟩) (Kd.R_far (p := ⟨gb140, 0, none⟩) (Kd.R_types HO146.out BK140.out (by decide)) (fun _ hk => hk.2) (.slice Ao22 y144.length co22)) (fun _ hk => hk.2) (.slice Ao24 y150.length co24)) (fun _ hk => hk.1.2))⟩, ⟨Kd.pR (Kd.R_mono (Kd.R_far (p := ⟨gb140, 1, none⟩) (Kd.R_far (p := ⟨gb140, 0, none⟩) (Kd.R_types HO152.out BK140.out (by decide)) (fun _ hk => hk.2) (.slice Ao22 y144.length co22)) (fun _ hk => hk.2) (.slice Ao24 y150.length co24)) (fun _ hk => hk.1.2.1))⟩, ⟨by (with_reducible repeat (first | refine blk_drewN ?_ _ | refine blk_drew ?_ | refine blk_alloc ?_ _)); refine blk_far ?_ NB139_140.out _; (with_reducible repeat (first | refine blk_drewN ?_ _ | refine blk_drew ?_ | refine blk_alloc ?_ _)); refine blk_far ?_ NB139_140.out _; (with_reducible repeat (first | refine blk_drewN ?_ _ | refine blk_drew ?_ | refine blk_alloc ?_ _)); exact BK139.out⟩, ⟨by (with_reducible repeat (first | refine blk_drewN ?_ _ | refine blk_drew ?_ | refine blk_alloc ?_ _)); refine blk_put (cs := #[.slice Ao22 y144.length co22, .slice Ao11 x141001_1.length co11, .int .i64 (-1), .int .i64 (-1)]) ?_ 1 _ rfl; (with_reducible repeat (first | refine blk_drewN ?_ _ | refine blk_drew ?_ | refine blk_alloc ?_ _)); refine blk_put (cs := #[.slice Ao10 x141000_1.length co10, .slice Ao11 x141001_1.length co11, .int .i64 (-1), .int .i64 (-1)]) ?_ 0 _ rfl; (with_reducible repeat (first | refine blk_drewN ?_ _ | refine blk_drew ?_ | refine blk_alloc ?_ _)); exact BK140.out⟩, ⟨pB HB.out⟩⟩
          · rw [if_neg c9] at H
            exact absurd H (by simp)
        · rw [if_neg c8] at H
          exact absurd H (by simp)
      · rw [if_neg c7] at H
        have c7b0 : decide (x6_1 < a0) = false := decide_eq_false c7
        clear c7
        have H' := Aside0.mk H
        clear H
        go_wp2
        go_loopg [7] k1 (fun kq v7 w' => ∃ (x7_2 : Int) (x141000_2 : List Int) (x141001_2 : List Int) (x141002_2 : Int) (x141003_2 : Int) (u141000 : Value) (u141001 : Value), v7 = .int .i64 x7_2 ∧ Aside0 (spigotref15_Made.l1 kq l1 x7_2 x141000_2 x141001_2 x141002_2 x141003_2 = some (r1, r2, r3, r4)) ∧ Aside0 (kq ≤ k1) ∧ Aside0 (Kd.R (Kd.int .i64) 3 w' w.heap.size (fun k_ => some k_ ≠ (u141001 : Value).ownBlock) u141000 x141000_2) ∧ Aside0 (Kd.R (Kd.int .i64) 3 w' w.heap.size (fun k_ => some k_ ≠ (u141000 : Value).ownBlock) u141001 x141001_2) ∧ Aside0 (w'.heap[gb139]? = some (.cells #[(.slice none 0 0), (.slice none 0 0), .int .i64 0, .int .i64 0] 24 (0, 0))) ∧ Aside0 (w'.heap[gb140]? = some (.cells #[u141000, u141001, .int .i64 x141002_2, .int .i64 x141003_2] 24 (0, 0))) ∧ Aside0 (Below w.heap.size w w'))
        case atStart => exact ⟨(0), (x141000_1), (x141001_1), ((-1)), ((-1)), (u141000), (u141001), (by first | rfl | (simp; done) | (simp [*]; done)), H', ⟨Nat.le_refl _⟩, ⟨Kd.pR HO_141000.out⟩, ⟨Kd.pR HO_141001.out⟩, ⟨pK BK139.out⟩, ⟨pK BK140.out⟩, ⟨pB HB.out⟩⟩
        case round =>
          clear H'
          try clear c1
          try clear p2
          try clear c3
          try clear c5
          try clear p6
          try clear c7
          try clear c7b0
          try clear c8
          try clear c9
          try clear hcz6_0
          try clear hcz6_1
          try clear hcz6_2
          try clear hcz6_3
          try clear hfz6_0
          try clear hfz6_1
          try clear hfz6_2
          try clear hfz6_3
          try clear p2
          obtain ⟨x7_2, x141000_2, x141001_2, x141002_2, x141003_2, u141000, u141001, rfl, HA, HK2, HO_141000, HO_141001, BK139, BK140, HB⟩ := hrel
          cases gk with
          | zero => exact absurd HA.out (by simp [spigotref15_Made.l1])
          | succ k2 =>
            have H := HA.out
            (try clear HA)
            simp only [spigotref15_Made.l1] at H
            by_cases c26 : x7_2 < (l1.length : Int)
            · rw [if_pos c26] at H
              have c26b0 : decide (x7_2 < (l1.length : Int)) = true := decide_eq_true c26
              clear c26
              by_cases c27 : x7_2 = 0
              · rw [if_pos c27] at H
                have c27b0 : (x7_2 == 0) = true := beq_iff_eq.mpr c27
                have c27b1 : (x7_2 != 0) = false := bne_eq_false_iff_eq.mpr c27
                clear c27
                by_cases c28 : 0 ≤ x7_2
                · rw [if_pos c28] at H
                  have c28b0 : decide (0 ≤ x7_2) = true := decide_eq_true c28
                  clear c28
                  have H' := Aside0.mk H
                  clear H
                  have p153 : 0 ≤ (x7_2 : Int) := od
                  have q153 : x7_2 < (l1.length : Int) := od
                  obtain ⟨ad153, e153, hx153_0⟩ := Kd.at_int HR1.out x7_2 p153 q153
                  cases e153
                  replace hx153_0 := (HB.out.cell (World.block_lt_of_cell? w _ hx153_0)).trans hx153_0
                  replace p153 := eq_true p153
                  replace q153 := eq_true q153
                  have hnb29 := NB140_139.out
                  have hnc29 := NB139_140.out
                  obtain ⟨hcz30_0, hcz30_1, hcz30_2, hcz30_3, hfz30_0, hfz30_1, hfz30_2, hfz30_3⟩ := bk4 BK140.out
                  have p154 : 0 ≤ (x7_2 : Int) := od
                  have q154 : x7_2 < (l1.length : Int) := od
                  obtain ⟨ad154, e154, hx154_0⟩ := Kd.at_int HR1.out x7_2 p154 q154
                  obtain rfl : ad153 = ad154 := (by injection e154)
                  have hn154_0 : ad153.block ≠ gb140 := Nat.ne_of_lt (Nat.lt_of_lt_of_le (by have := World.block_lt_of_cell? _ _ hx154_0; first | rwa [add_block] at this | exact this) GW140.out)
                  replace hx154_0 := (HB.out.cell (World.block_lt_of_cell? w _ hx154_0)).trans hx154_0
                  replace hx154_0 := (cell_far (p := ⟨gb140, 2, none⟩) (by first | (rw [add_block]; exact hn154_0) | (show (Addr.add _ _).block ≠ _; rw [add_block]; exact hn154_0) | exact hn154_0) (.int .i64 (rd l1 x7_2))).trans hx154_0
                  (try clear hn154_0)
                  replace p154 := eq_true p154
                  replace q154 := eq_true q154
                  go_wp2
                  go_roundg k2
                  case measure => have := HK1.out; have := HK2.out; omega
                  case rel => exact ⟨(wrap64 (x7_2 + 1)), (x141000_2), (x141001_2), (rd l1 x7_2), (rd l1 x7_2), (u141000), (u141001), (by first | rfl | (simp; done) | (simp [*]; done)), H', ⟨by have := HK1.out; have := HK2.out; omega⟩, ⟨Kd.pR (Kd.R_mono (Kd.R_far (p := ⟨gb140, 3, none⟩) (Kd.R_far (p := ⟨gb140, 2, none⟩) (Kd.R_types HO_141000.out BK140.out (by decide)) (fun _ hk => hk.2) (.int .i64 (rd l1 x7_2))) (fun _ hk => hk.2) (.int .i64 (rd l1 x7_2))) (fun _ hk => hk.1))⟩, ⟨Kd.pR (Kd.R_mono (Kd.R_far (p := ⟨gb140, 3, none⟩) (Kd.R_far (p := ⟨gb140, 2, none⟩) (Kd.R_types HO_141001.out BK140.out (by decide)) (fun _ hk => hk.2) (.int .i64 (rd l1 x7_2))) (fun _ hk => hk.2) (.int .i64 (rd l1 x7_2))) (fun _ hk => hk.1))⟩, ⟨by (with_reducible repeat (first | refine blk_drewN ?_ _ | refine blk_drew ?_ | refine blk_alloc ?_ _)); refine blk_far ?_ NB139_140.out _; (with_reducible repeat (first | refine blk_drewN ?_ _ | refine blk_drew ?_ | refine blk_alloc ?_ _)); refine blk_far ?_ NB139_140.out _; (with_reducible repeat (first | refine blk_drewN ?_ _ | refine blk_drew ?_ | refine blk_alloc ?_ _)); exact BK139.out⟩, ⟨by (with_reducible repeat (first | refine blk_drewN ?_ _ | refine blk_drew ?_ | refine blk_alloc ?_ _)); refine blk_put (cs := #[u141000, u141001, .int .i64 (rd l1 x7_2), .int .i64 x141003_2]) ?_ 3 _ rfl; (with_reducible repeat (first | refine blk_drewN ?_ _ | refine blk_drew ?_ | refine blk_alloc ?_ _)); refine blk_put (cs := #[u141000, u141001, .int .i64 x141002_2, .int .i64 x141003_2]) ?_ 2 _ rfl; (with_reducible repeat (first | refine blk_drewN ?_ _ | refine blk_drew ?_ | refine blk_alloc ?_ _)); exact BK140.out⟩, ⟨pB HB.out⟩⟩
                · rw [if_neg c28] at H
                  exact absurd H (by simp)
              · rw [if_neg c27] at H
                have c27b0 : (x7_2 == 0) = false := beq_eq_false_iff_ne.mpr c27
                have c27b1 : (x7_2 != 0) = true := bne_iff_ne.mpr c27
                by_cases c31 : 0 ≤ x7_2
                · rw [if_pos c31] at H
                  have c31b0 : decide (0 ≤ x7_2) = true := decide_eq_true c31
                  clear c31
                  obtain ⟨ji32, hji32⟩ : ∃ j_ : Int, (wrap64 (x7_2 - 1)) = j_ := ⟨_, rfl⟩
                  replace H : (if 0 ≤ (ji32) then (if (ji32) < (l1.length : Int) then (if 0 ≤ (rd l1 x7_2) then (if (rd l1 x7_2) < (x141000_2.length : Int) then (if 0 ≤ (rd l1 (ji32)) then (if (rd l1 (ji32)) < (x141001_2.length : Int) then (spigotref15_Made.l1 k2 l1 (wrap64 (x7_2 + 1)) (x141000_2.set ((rd l1 x7_2) : Int).toNat (rd l1 (ji32))) (x141001_2.set ((rd l1 (ji32)) : Int).toNat (rd l1 x7_2)) x141002_2 (rd l1 x7_2)) else (none)) else (none)) else (none)) else (none)) else (none)) else (none)) = some (r1, r2, r3, r4) := by first | (rw [hji32] at H; exact H) | (simp only [hji32] at H ⊢; exact H)
                  have hji32w : (IntKind.i64.wrap (x7_2 - 1)) = ji32 := (i64_w _).trans hji32
                  by_cases c33 : 0 ≤ (ji32)
                  · rw [if_pos c33] at H
                    have c33b0 : decide (0 ≤ (ji32)) = true := decide_eq_true c33
                    clear c33
                    by_cases c34 : (ji32) < (l1.length : Int)
                    · rw [if_pos c34] at H
                      have c34b0 : decide ((ji32) < (l1.length : Int)) = true := decide_eq_true c34
                      clear c34
                      by_cases c35 : 0 ≤ (rd l1 x7_2)
                      · rw [if_pos c35] at H
                        have c35b0 : decide (0 ≤ (rd l1 x7_2)) = true := decide_eq_true c35
                        clear c35
                        by_cases c36 : (rd l1 x7_2) < (x141000_2.length : Int)
                        · rw [if_pos c36] at H
                          have c36b0 : decide ((rd l1 x7_2) < (x141000_2.length : Int)) = true := decide_eq_true c36
                          clear c36
                          obtain ⟨y157, hy157⟩ : ∃ y_ : List Int, y_ = (x141000_2.set ((rd l1 x7_2) : Int).toNat (rd l1 (ji32))) := ⟨_, rfl⟩
                          replace H : (if 0 ≤ (rd l1 (ji32)) then (if (rd l1 (ji32)) < (x141001_2.length : Int) then (spigotref15_Made.l1 k2 l1 (wrap64 (x7_2 + 1)) y157 (x141001_2.set ((rd l1 (ji32)) : Int).toNat (rd l1 x7_2)) x141002_2 (rd l1 x7_2)) else (none)) else (none)) = some (r1, r2, r3, r4) := by first | (rw [hy157]; with_reducible exact H) | (have H2_ := (Option.bind_some _ _).symm.trans H; rw [hy157]; with_reducible exact H2_) | (have H2_ := (Option.bind_some _ _).symm.trans H; with_reducible exact H2_) | with_reducible exact H | (rw [hy157]; exact H) | exact H
                          have Ny157 := Aside0.mk hy157
                          (try clear hy157)
                          by_cases c38 : 0 ≤ (rd l1 (ji32))
                          · rw [if_pos c38] at H
                            have c38b0 : decide (0 ≤ (rd l1 (ji32))) = true := decide_eq_true c38
                            clear c38
                            by_cases c39 : (rd l1 (ji32)) < (x141001_2.length : Int)
                            · rw [if_pos c39] at H
                              have c39b0 : decide ((rd l1 (ji32)) < (x141001_2.length : Int)) = true := decide_eq_true c39
                              clear c39
                              obtain ⟨y160, hy160⟩ : ∃ y_ : List Int, y_ = (x141001_2.set ((rd l1 (ji32)) : Int).toNat (rd l1 x7_2)) := ⟨_, rfl⟩
                              replace H : (spigotref15_Made.l1 k2 l1 (wrap64 (x7_2 + 1)) y157 y160 x141002_2 (rd l1 x7_2)) = some (r1, r2, r3, r4) := by first | (rw [hy160]; with_reducible exact H) | (have H2_ := (Option.bind_some _ _).symm.trans H; rw [hy160]; with_reducible exact H2_) | (have H2_ := (Option.bind_some _ _).symm.trans H; with_reducible exact H2_) | with_reducible exact H | (rw [hy160]; exact H) | exact H
                              have Ny160 := Aside0.mk hy160
                              (try clear hy160)
                              have H' := Aside0.mk H
                              clear H
                              try go_wp2
                              have n0_ := Aside0.mk (Kd.R_drew HO_141000.out)
                              have n1_ := Aside0.mk (Kd.R_drew HO_141001.out)
                              have n2_ := Aside0.mk (blk_drew BK139.out)
                              have n3_ := Aside0.mk (blk_drew BK140.out)
                              have n4_ := Aside0.mk (below_drew1 HB.out)
                              clear HO_141000
                              clear HO_141001
                              clear BK139
                              clear BK140
                              clear HB
                              have HO_141000 := n0_
                              have HO_141001 := n1_
                              have BK139 := n2_
                              have BK140 := n3_
                              have HB := n4_
                              clear n0_ n1_ n2_ n3_ n4_
                              have p155 : 0 ≤ (x7_2 : Int) := od
                              have q155 : x7_2 < (l1.length : Int) := od
                              obtain ⟨ad155, e155, hx155_0⟩ := Kd.at_int HR1.out x7_2 p155 q155
                              have hw155_0 := hx155_0
                              cases e155
                              replace hx155_0 := (HB.out.cell (World.block_lt_of_cell? w _ hx155_0)).trans hx155_0
                              replace p155 := eq_true p155
                              replace q155 := eq_true q155
                              have p156 : 0 ≤ ((ji32) : Int) := od
                              have q156 : (ji32) < (l1.length : Int) := od
                              obtain ⟨ad156, e156, hx156_0⟩ := Kd.at_int HR1.out (ji32) p156 q156
                              have hw156_0 := hx156_0
                              obtain rfl : ad155 = ad156 := (by injection e156)
                              replace hx156_0 := (HB.out.cell (World.block_lt_of_cell? w _ hx156_0)).trans hx156_0
                              replace p156 := eq_true p156
                              replace q156 := eq_true q156
                              have p37 : 0 ≤ ((rd l1 x7_2) : Int) := od
                              have q37 : ((rd l1 x7_2) : Int) < ((x141000_2.length : Int) : Int) := od
                              obtain ⟨go37, co37, eo37, gb37, gl37, cl37, HG37⟩ := Kd.R_form HO_141000.out (by omega)
                              (first | cases eo37 | (injection eo37 with ea_ en_ ec_; (first | subst ea_ | (injection ea_ with ea_; subst ea_)); subst ec_; clear en_))
                              have GB37 := Aside0.mk gb37
                              have GG37 := Aside0.mk HG37
                              clear gb37 gl37 HG37
                              obtain ⟨hx37_0, hf37_0⟩ := Kd.R_celln 0 HO_141000.out ((rd l1 x7_2) : Int) p37 q37
                              replace p37 := eq_true p37
                              replace q37 := eq_true q37
                              have HP42 := Kd.R_putn HO_141000.out ((rd l1 x7_2) : Int) (rd l1 (ji32))
                              rw [← Ny157.out] at HP42
                              have HQ42 := Aside0.mk HP42
                              (try clear HP42)
                              refine start_ (n := 13) (S := fun w' => w'.cell? ⟨gb140, 0, none⟩ = some (.slice (some ⟨go37, 0, none⟩) x141000_2.length co37) ∧ w'.cell? ⟨gb140, 1, none⟩ = some (u141001) ∧ w'.cell? ⟨gb140, 2, none⟩ = some (.int .i64 x141002_2) ∧ w'.cell? ⟨gb140, 3, none⟩ = some (.int .i64 x141003_2) ∧ w'.cell? (ad155.add (x7_2).toNat) = some (.int .i64 (rd l1 x7_2)) ∧ w'.cell? (ad155.add ((ji32)).toNat) = some (.int .i64 (rd l1 (ji32)))) (ds := [12]) #[false, false, false, false, false, false, false, false, false, false, false, false, false] (by kernel_rfl) rfl rfl ⟨(blk_cell BK140.out 0).trans rfl, (blk_cell BK140.out 1).trans rfl, (blk_cell BK140.out 2).trans rfl, (blk_cell BK140.out 3).trans rfl, ((HB.out.cell (World.block_lt_of_cell? w _ hw155_0)).trans hw155_0), ((HB.out.cell (World.block_lt_of_cell? w _ hw156_0)).trans hw156_0)⟩ (fun hHeld => ?_); refine with_tabW spigotref15_Made.tab11 spigotref15_Made.bits11 (fun HT_ HW_ => ?_)
                              generalize wr.drew = w41 at HO_141000 HO_141001 BK139 BK140 HB GG37 HQ42 hf37_0 hx155_0 hx156_0 hx37_0 hHeld ⊢
                              refine pure_ (i := 0) (N := some 37) (v := ?_) (a' := ?_) #[true, false, false, false, false, false, false, false, false, false, false, false, false] rfl rfl (any_of HT_.out (by kernel_rfl)) (fun _ _ _ h => h) (Or.inl ⟨by rfl, ?_⟩) ?_ ?_
                              rotate_left
                              · intro w'
                                go_simp
                                with_reducible rfl
                              rotate_left
                              · simp only [Act.put, List.setIfInBounds_toArray, List.set_cons_zero, List.set_cons_succ, i64_w, i32_w]
                                rfl
                              refine pure_ (i := 2) (N := some 39) (v := ?_) (a' := ?_) #[true, false, true, false, false, false, false, false, false, false, false, false, false] rfl rfl (any_of HT_.out (by kernel_rfl)) (fun _ _ _ h => h) (Or.inl ⟨by rfl, ?_⟩) ?_ ?_
                              rotate_left
                              · intro w'
                                go_simp
                                with_reducible rfl
                              rotate_left
                              · simp only [Act.put, List.setIfInBounds_toArray, List.set_cons_zero, List.set_cons_succ, i64_w, i32_w]
                                rfl
                              refine pure_ (i := 3) (N := some 40) (v := ?_) (a' := ?_) #[true, false, true, true, false, false, false, false, false, false, false, false, false] rfl rfl (any_of HT_.out (by kernel_rfl)) (fun _ _ _ h => h) (Or.inl ⟨by rfl, ?_⟩) ?_ ?_
                              rotate_left
                              · intro w'
                                go_simp
                                with_reducible rfl
                              rotate_left
                              · simp only [Act.put, List.setIfInBounds_toArray, List.set_cons_zero, List.set_cons_succ, i64_w, i32_w]
                                rfl
                              refine pure_ (i := 4) (N := some 41) (v := ?_) (a' := ?_) #[true, false, true, true, true, false, false, false, false, false, false, false, false] rfl rfl (any_of HT_.out (by kernel_rfl)) (fun _ _ _ h => h) (Or.inl ⟨by rfl, ?_⟩) ?_ ?_
                              rotate_left
                              · intro w'
                                go_simp
                                with_reducible rfl
                              rotate_left
                              · simp only [Act.put, List.setIfInBounds_toArray, List.set_cons_zero, List.set_cons_succ, i64_w, i32_w]
                                rfl
                              refine pure_ (i := 6) (N := some 43) (v := ?_) (a' := ?_) #[true, false, true, true, true, false, true, false, false, false, false, false, false] rfl rfl (any_of HT_.out (by kernel_rfl)) (fun _ _ _ h => h) (Or.inl ⟨by rfl, ?_⟩) ?_ ?_
                              rotate_left
                              · intro w'
                                go_simp
                                with_reducible rfl
                              rotate_left
                              · simp only [Act.put, List.setIfInBounds_toArray, List.set_cons_zero, List.set_cons_succ, i64_w, i32_w]
                                rfl
                              refine pure_ (i := 7) (N := some 44) (v := ?_) (a' := ?_) #[true, false, true, true, true, false, true, true, false, false, false, false, false] rfl rfl (any_of HT_.out (by kernel_rfl)) (fun _ _ _ h => h) (Or.inl ⟨by rfl, ?_⟩) ?_ ?_
                              rotate_left
                              · intro w'
                                go_simp
                                with_reducible rfl
                              rotate_left
                              · simp only [Act.put, List.setIfInBounds_toArray, List.set_cons_zero, List.set_cons_succ, i64_w, i32_w]
                                rfl
                              refine pure_ (i := 8) (N := some 45) (v := ?_) (a' := ?_) #[true, false, true, true, true, false, true, true, true, false, false, false, false] rfl rfl (any_of HT_.out (by kernel_rfl)) (fun _ _ _ h => h) (Or.inl ⟨by rfl, ?_⟩) ?_ ?_
                              rotate_left
                              · intro w'
                                go_simp
                                with_reducible rfl
                              rotate_left
                              · simp only [Act.put, List.setIfInBounds_toArray, List.set_cons_zero, List.set_cons_succ, i64_w, i32_w]
                                rfl
                              refine pure_ (i := 9) (N := some 46) (v := ?_) (a' := ?_) #[true, false, true, true, true, false, true, true, true, true, false, false, false] rfl rfl (any_of HT_.out (by kernel_rfl)) (fun _ _ _ h => h) (Or.inl ⟨by rfl, ?_⟩) ?_ ?_
                              rotate_left
                              · intro w'
                                go_simp
                                with_reducible rfl
                              rotate_left
                              · simp only [Act.put, List.setIfInBounds_toArray, List.set_cons_zero, List.set_cons_succ, i64_w, i32_w]
                                rfl
                              refine take_ (i := 1) (N := some 38) (v := ?_) (a' := ?_) #[true, true, true, true, true, false, true, true, true, true, false, false, false] rfl rfl (take_ofW HT_.out HW_.out (by kernel_rfl)) (fun _ _ _ h => h) (Or.inl ⟨by rfl, ?_⟩) hHeld ?_ ?_
                              rotate_left
                              · rintro w' ⟨s0, s1, s2, s3, s4, s5⟩
                                go_simp
                                with_reducible rfl
                              rotate_left
                              · simp only [Act.put, List.setIfInBounds_toArray, List.set_cons_zero, List.set_cons_succ, i64_w, i32_w]
                                rfl
                              refine take_ (i := 5) (N := some 42) (v := ?_) (a' := ?_) #[true, true, true, true, true, true, true, true, true, true, false, false, false] rfl rfl (take_ofW HT_.out HW_.out (by kernel_rfl)) (fun _ _ _ h => h) (Or.inl ⟨by rfl, ?_⟩) hHeld ?_ ?_
                              rotate_left
                              · rintro w' ⟨s0, s1, s2, s3, s4, s5⟩
                                go_simp
                                with_reducible rfl
                              rotate_left
                              · simp only [Act.put, List.setIfInBounds_toArray, List.set_cons_zero, List.set_cons_succ, i64_w, i32_w]
                                rfl
                              refine take_ (i := 10) (N := some 47) (v := ?_) (a' := ?_) #[true, true, true, true, true, true, true, true, true, true, true, false, false] rfl rfl (take_ofW HT_.out HW_.out (by kernel_rfl)) (fun _ _ _ h => h) (Or.inl ⟨by rfl, ?_⟩) hHeld ?_ ?_
                              rotate_left
                              · rintro w' ⟨s0, s1, s2, s3, s4, s5⟩
                                go_simp
                                with_reducible rfl
                              rotate_left
                              · simp only [Act.put, List.setIfInBounds_toArray, List.set_cons_zero, List.set_cons_succ, i64_w, i32_w]
                                rfl
                              refine pure_ (i := 11) (N := some 48) (v := ?_) (a' := ?_) #[true, true, true, true, true, true, true, true, true, true, true, true, false] rfl rfl (any_of HT_.out (by kernel_rfl)) (fun _ _ _ h => h) (Or.inl ⟨by rfl, ?_⟩) ?_ ?_
                              rotate_left
                              · intro w'
                                go_simp
                                with_reducible rfl
                              rotate_left
                              · simp only [Act.put, List.setIfInBounds_toArray, List.set_cons_zero, List.set_cons_succ, i64_w, i32_w]
                                rfl
                              refine last_ (i := 12) (N := none) #[true, true, true, true, true, true, true, true, true, true, true, true, true] rfl rfl (one_of HT_.out (by kernel_rfl)) (by decide) (fun K hK => ?_)
                              refine skip_ (w1 := ?_) (by rfl) rfl ?_ ?_
                              rotate_left
                              · go_simp
                                rfl
                              refine hK.out _ _ ?_
                              clear hK K
                              refine done_ (done_of HT_.out (by kernel_rfl)) ?_
                              have n0_ : Aside0 (Kd.R (Kd.int .i64) 3 (w41.setCell ⟨go37, ((rd l1 x7_2) : Int).toNat, none⟩ (.int .i64 (rd l1 (ji32)))) w.heap.size (fun k_ => some k_ ≠ (u141001 : Value).ownBlock) (.slice (some ⟨go37, 0, none⟩) x141000_2.length co37) y157) := ⟨Kd.pR HQ42.out⟩
                              have n1_ : Aside0 (Kd.R (Kd.int .i64) 3 (w41.setCell ⟨go37, ((rd l1 x7_2) : Int).toNat, none⟩ (.int .i64 (rd l1 (ji32)))) w.heap.size (fun k_ => some k_ ≠ (.slice (some ⟨go37, 0, none⟩) x141000_2.length co37 : Value).ownBlock) u141001 x141001_2) := ⟨Kd.pR (Kd.R_mono (Kd.R_far (p := ⟨go37, ((rd l1 x7_2) : Int).toNat, none⟩) (Kd.R_mono HO_141001.out (fun k_ hk => (⟨hk, fun e_ => hk (by rw [e_]; rfl)⟩ : _ ∧ k_ ≠ go37))) (fun _ hk => hk.2) (.int .i64 (rd l1 (ji32)))) (fun _ hk => hk.1))⟩
                              have n2_ : Aside0 ((w41.setCell ⟨go37, ((rd l1 x7_2) : Int).toNat, none⟩ (.int .i64 (rd l1 (ji32)))).heap[gb139]? = some (.cells #[.slice none 0 0, .slice none 0 0, .int .i64 0, .int .i64 0] 24 (0, 0))) := ⟨by (with_reducible repeat (first | refine blk_drewN ?_ _ | refine blk_drew ?_ | refine blk_alloc ?_ _)); refine blk_far ?_ (by have h_ := Kd.R_ne HO_141000.out BK139.out (by decide); intro e_; exact h_ (by rw [e_]; rfl)) _; (with_reducible repeat (first | refine blk_drewN ?_ _ | refine blk_drew ?_ | refine blk_alloc ?_ _)); exact BK139.out⟩
                              have n3_ : Aside0 ((w41.setCell ⟨go37, ((rd l1 x7_2) : Int).toNat, none⟩ (.int .i64 (rd l1 (ji32)))).heap[gb140]? = some (.cells #[.slice (some ⟨go37, 0, none⟩) x141000_2.length co37, u141001, .int .i64 x141002_2, .int .i64 x141003_2] 24 (0, 0))) := ⟨by (with_reducible repeat (first | refine blk_drewN ?_ _ | refine blk_drew ?_ | refine blk_alloc ?_ _)); refine blk_far ?_ (by have h_ := Kd.R_ne HO_141000.out BK140.out (by decide); intro e_; exact h_ (by rw [e_]; rfl)) _; (with_reducible repeat (first | refine blk_drewN ?_ _ | refine blk_drew ?_ | refine blk_alloc ?_ _)); exact BK140.out⟩
                              have n4_ : Aside0 (Below w.heap.size w (w41.setCell ⟨go37, ((rd l1 x7_2) : Int).toNat, none⟩ (.int .i64 (rd l1 (ji32))))) := ⟨by repeat (first | (with_reducible first | exact HB.out | apply below_alloc | apply pw_below_drewN | apply below_drew1 | refine below_set ?_ GB37.out | refine below_set ?_ GE139.out | refine below_set ?_ GE140.out) | exact HB.out)⟩
                              (try clear HO_141000)
                              (try clear HO_141001)
                              (try clear BK139)
                              (try clear BK140)
                              (try clear HB)
                              generalize (w41.setCell ⟨go37, ((rd l1 x7_2) : Int).toNat, none⟩ (.int .i64 (rd l1 (ji32)))) = w43 at n0_ n1_ n2_ n3_ n4_ ⊢
                              have HO_141000 := n0_
                              have HO_141001 := n1_
                              have BK139 := n2_
                              have BK140 := n3_
                              have HB := n4_
                              clear n0_ n1_ n2_ n3_ n4_
                              try go_wp2
                              have n0_ := Aside0.mk (Kd.R_drew HO_141000.out)
                              have n1_ := Aside0.mk (Kd.R_drew HO_141001.out)
                              have n2_ := Aside0.mk (blk_drew BK139.out)
                              have n3_ := Aside0.mk (blk_drew BK140.out)
                              have n4_ := Aside0.mk (below_drew1 HB.out)
                              clear HO_141000
                              clear HO_141001
                              clear BK139
                              clear BK140
                              clear HB
                              have HO_141000 := n0_
                              have HO_141001 := n1_
                              have BK139 := n2_
                              have BK140 := n3_
                              have HB := n4_
                              clear n0_ n1_ n2_ n3_ n4_
                              have p158 : 0 ≤ ((ji32) : Int) := od
                              have q158 : (ji32) < (l1.length : Int) := od
                              obtain ⟨ad158, e158, hx158_0⟩ := Kd.at_int HR1.out (ji32) p158 q158
                              have hw158_0 := hx158_0
                              obtain rfl : ad155 = ad158 := (by injection e158)
                              replace hx158_0 := (HB.out.cell (World.block_lt_of_cell? w _ hx158_0)).trans hx158_0
                              replace p158 := eq_true p158
                              replace q158 := eq_true q158
                              have p159 : 0 ≤ (x7_2 : Int) := od
                              have q159 : x7_2 < (l1.length : Int) := od
                              obtain ⟨ad159, e159, hx159_0⟩ := Kd.at_int HR1.out x7_2 p159 q159
                              have hw159_0 := hx159_0
                              obtain rfl : ad155 = ad159 := (by injection e159)
                              replace hx159_0 := (HB.out.cell (World.block_lt_of_cell? w _ hx159_0)).trans hx159_0
                              replace p159 := eq_true p159
                              replace q159 := eq_true q159
                              have p40 : 0 ≤ ((rd l1 (ji32)) : Int) := od
                              have q40 : ((rd l1 (ji32)) : Int) < ((x141001_2.length : Int) : Int) := od
                              obtain ⟨go40, co40, eo40, gb40, gl40, cl40, HG40⟩ := Kd.R_form HO_141001.out (by omega)
                              (first | cases eo40 | (injection eo40 with ea_ en_ ec_; (first | subst ea_ | (injection ea_ with ea_; subst ea_)); subst ec_; clear en_))
                              have GB40 := Aside0.mk gb40
                              have GG40 := Aside0.mk HG40
                              clear gb40 gl40 HG40
                              obtain ⟨hx40_0, hf40_0⟩ := Kd.R_celln 0 HO_141001.out ((rd l1 (ji32)) : Int) p40 q40
                              replace p40 := eq_true p40
                              replace q40 := eq_true q40
                              have HP45 := Kd.R_putn HO_141001.out ((rd l1 (ji32)) : Int) (rd l1 x7_2)
                              rw [← Ny160.out] at HP45
                              have HQ45 := Aside0.mk HP45
                              (try clear HP45)
                              refine start_ (n := 13) (S := fun w' => w'.cell? ⟨gb140, 0, none⟩ = some (.slice (some ⟨go37, 0, none⟩) x141000_2.length co37) ∧ w'.cell? ⟨gb140, 1, none⟩ = some (.slice (some ⟨go40, 0, none⟩) x141001_2.length co40) ∧ w'.cell? ⟨gb140, 2, none⟩ = some (.int .i64 x141002_2) ∧ w'.cell? ⟨gb140, 3, none⟩ = some (.int .i64 x141003_2) ∧ w'.cell? (ad155.add ((ji32)).toNat) = some (.int .i64 (rd l1 (ji32))) ∧ w'.cell? (ad155.add (x7_2).toNat) = some (.int .i64 (rd l1 x7_2))) (ds := [12]) #[false, false, false, false, false, false, false, false, false, false, false, false, false] (by kernel_rfl) rfl rfl ⟨(blk_cell BK140.out 0).trans rfl, (blk_cell BK140.out 1).trans rfl, (blk_cell BK140.out 2).trans rfl, (blk_cell BK140.out 3).trans rfl, ((HB.out.cell (World.block_lt_of_cell? w _ hw158_0)).trans hw158_0), ((HB.out.cell (World.block_lt_of_cell? w _ hw159_0)).trans hw159_0)⟩ (fun hHeld => ?_); refine with_tabW spigotref15_Made.tab12 spigotref15_Made.bits12 (fun HT_ HW_ => ?_)
                              generalize w43.drew = w44 at HO_141000 HO_141001 BK139 BK140 HB GG40 HQ45 hf40_0 hx158_0 hx159_0 hx40_0 hHeld ⊢
                              refine pure_ (i := 0) (N := some 49) (v := ?_) (a' := ?_) #[true, false, false, false, false, false, false, false, false, false, false, false, false] rfl rfl (any_of HT_.out (by kernel_rfl)) (fun _ _ _ h => h) (Or.inl ⟨by rfl, ?_⟩) ?_ ?_
                              rotate_left
                              · intro w'
                                go_simp
                                with_reducible rfl
                              rotate_left
                              · simp only [Act.put, List.setIfInBounds_toArray, List.set_cons_zero, List.set_cons_succ, i64_w, i32_w]
                                rfl
                              refine pure_ (i := 2) (N := some 51) (v := ?_) (a' := ?_) #[true, false, true, false, false, false, false, false, false, false, false, false, false] rfl rfl (any_of HT_.out (by kernel_rfl)) (fun _ _ _ h => h) (Or.inl ⟨by rfl, ?_⟩) ?_ ?_
                              rotate_left
                              · intro w'
                                go_simp
                                with_reducible rfl
                              rotate_left
                              · simp only [Act.put, List.setIfInBounds_toArray, List.set_cons_zero, List.set_cons_succ, i64_w, i32_w]
                                rfl
                              refine pure_ (i := 3) (N := some 52) (v := ?_) (a' := ?_) #[true, false, true, true, false, false, false, false, false, false, false, false, false] rfl rfl (any_of HT_.out (by kernel_rfl)) (fun _ _ _ h => h) (Or.inl ⟨by rfl, ?_⟩) ?_ ?_
                              rotate_left
                              · intro w'
                                go_simp
                                with_reducible rfl
                              rotate_left
                              · simp only [Act.put, List.setIfInBounds_toArray, List.set_cons_zero, List.set_cons_succ, i64_w, i32_w]
                                rfl
                              refine pure_ (i := 4) (N := some 53) (v := ?_) (a' := ?_) #[true, false, true, true, true, false, false, false, false, false, false, false, false] rfl rfl (any_of HT_.out (by kernel_rfl)) (fun _ _ _ h => h) (Or.inl ⟨by rfl, ?_⟩) ?_ ?_
                              rotate_left
                              · intro w'
                                go_simp
                                with_reducible rfl
                              rotate_left
                              · simp only [Act.put, List.setIfInBounds_toArray, List.set_cons_zero, List.set_cons_succ, i64_w, i32_w]
                                rfl
                              refine pure_ (i := 5) (N := some 54) (v := ?_) (a' := ?_) #[true, false, true, true, true, true, false, false, false, false, false, false, false] rfl rfl (any_of HT_.out (by kernel_rfl)) (fun _ _ _ h => h) (Or.inl ⟨by rfl, ?_⟩) ?_ ?_
                              rotate_left
                              · intro w'
                                go_simp
                                with_reducible rfl
                              rotate_left
                              · simp only [Act.put, List.setIfInBounds_toArray, List.set_cons_zero, List.set_cons_succ, i64_w, i32_w]
                                rfl
                              refine pure_ (i := 7) (N := some 56) (v := ?_) (a' := ?_) #[true, false, true, true, true, true, false, true, false, false, false, false, false] rfl rfl (any_of HT_.out (by kernel_rfl)) (fun _ _ _ h => h) (Or.inl ⟨by rfl, ?_⟩) ?_ ?_
                              rotate_left
                              · intro w'
                                go_simp
                                with_reducible rfl
                              rotate_left
                              · simp only [Act.put, List.setIfInBounds_toArray, List.set_cons_zero, List.set_cons_succ, i64_w, i32_w]
                                rfl
                              refine pure_ (i := 8) (N := some 57) (v := ?_) (a' := ?_) #[true, false, true, true, true, true, false, true, true, false, false, false, false] rfl rfl (any_of HT_.out (by kernel_rfl)) (fun _ _ _ h => h) (Or.inl ⟨by rfl, ?_⟩) ?_ ?_
                              rotate_left
                              · intro w'
                                go_simp
                                with_reducible rfl
                              rotate_left
                              · simp only [Act.put, List.setIfInBounds_toArray, List.set_cons_zero, List.set_cons_succ, i64_w, i32_w]
                                rfl
                              refine pure_ (i := 9) (N := some 58) (v := ?_) (a' := ?_) #[true, false, true, true, true, true, false, true, true, true, false, false, false] rfl rfl (any_of HT_.out (by kernel_rfl)) (fun _ _ _ h => h) (Or.inl ⟨by rfl, ?_⟩) ?_ ?_
                              rotate_left
                              · intro w'
                                go_simp
                                with_reducible rfl
                              rotate_left
                              · simp only [Act.put, List.setIfInBounds_toArray, List.set_cons_zero, List.set_cons_succ, i64_w, i32_w]
                                rfl
                              refine take_ (i := 1) (N := some 50) (v := ?_) (a' := ?_) #[true, true, true, true, true, true, false, true, true, true, false, false, false] rfl rfl (take_ofW HT_.out HW_.out (by kernel_rfl)) (fun _ _ _ h => h) (Or.inl ⟨by rfl, ?_⟩) hHeld ?_ ?_
                              rotate_left
                              · rintro w' ⟨s0, s1, s2, s3, s4, s5⟩
                                go_simp
                                with_reducible rfl
                              rotate_left
                              · simp only [Act.put, List.setIfInBounds_toArray, List.set_cons_zero, List.set_cons_succ, i64_w, i32_w]
                                rfl
                              refine take_ (i := 6) (N := some 55) (v := ?_) (a' := ?_) #[true, true, true, true, true, true, true, true, true, true, false, false, false] rfl rfl (take_ofW HT_.out HW_.out (by kernel_rfl)) (fun _ _ _ h => h) (Or.inl ⟨by rfl, ?_⟩) hHeld ?_ ?_
                              rotate_left
                              · rintro w' ⟨s0, s1, s2, s3, s4, s5⟩
                                go_simp
                                with_reducible rfl
                              rotate_left
                              · simp only [Act.put, List.setIfInBounds_toArray, List.set_cons_zero, List.set_cons_succ, i64_w, i32_w]
                                rfl
                              refine take_ (i := 10) (N := some 59) (v := ?_) (a' := ?_) #[true, true, true, true, true, true, true, true, true, true, true, false, false] rfl rfl (take_ofW HT_.out HW_.out (by kernel_rfl)) (fun _ _ _ h => h) (Or.inl ⟨by rfl, ?_⟩) hHeld ?_ ?_
                              rotate_left
                              · rintro w' ⟨s0, s1, s2, s3, s4, s5⟩
                                go_simp
                                with_reducible rfl
                              rotate_left
                              · simp only [Act.put, List.setIfInBounds_toArray, List.set_cons_zero, List.set_cons_succ, i64_w, i32_w]
                                rfl
                              refine pure_ (i := 11) (N := some 60) (v := ?_) (a' := ?_) #[true, true, true, true, true, true, true, true, true, true, true, true, false] rfl rfl (any_of HT_.out (by kernel_rfl)) (fun _ _ _ h => h) (Or.inl ⟨by rfl, ?_⟩) ?_ ?_
                              rotate_left
                              · intro w'
                                go_simp
                                with_reducible rfl
                              rotate_left
                              · simp only [Act.put, List.setIfInBounds_toArray, List.set_cons_zero, List.set_cons_succ, i64_w, i32_w]
                                rfl
                              refine last_ (i := 12) (N := none) #[true, true, true, true, true, true, true, true, true, true, true, true, true] rfl rfl (one_of HT_.out (by kernel_rfl)) (by decide) (fun K hK => ?_)
                              refine skip_ (w1 := ?_) (by rfl) rfl ?_ ?_
                              rotate_left
                              · go_simp
                                rfl
                              refine hK.out _ _ ?_
                              clear hK K
                              refine done_ (done_of HT_.out (by kernel_rfl)) ?_
                              have n0_ : Aside0 (Kd.R (Kd.int .i64) 3 (w44.setCell ⟨go40, ((rd l1 (ji32)) : Int).toNat, none⟩ (.int .i64 (rd l1 x7_2))) w.heap.size (fun k_ => some k_ ≠ (.slice (some ⟨go40, 0, none⟩) x141001_2.length co40 : Value).ownBlock) (.slice (some ⟨go37, 0, none⟩) x141000_2.length co37) y157) := ⟨Kd.pR (Kd.R_mono (Kd.R_far (p := ⟨go40, ((rd l1 (ji32)) : Int).toNat, none⟩) (Kd.R_mono HO_141000.out (fun k_ hk => (⟨hk, fun e_ => hk (by rw [e_]; rfl)⟩ : _ ∧ k_ ≠ go40))) (fun _ hk => hk.2) (.int .i64 (rd l1 x7_2))) (fun _ hk => hk.1))⟩
                              have n1_ : Aside0 (Kd.R (Kd.int .i64) 3 (w44.setCell ⟨go40, ((rd l1 (ji32)) : Int).toNat, none⟩ (.int .i64 (rd l1 x7_2))) w.heap.size (fun k_ => some k_ ≠ (.slice (some ⟨go37, 0, none⟩) x141000_2.length co37 : Value).ownBlock) (.slice (some ⟨go40, 0, none⟩) x141001_2.length co40) y160) := ⟨Kd.pR HQ45.out⟩
                              have n2_ : Aside0 ((w44.setCell ⟨go40, ((rd l1 (ji32)) : Int).toNat, none⟩ (.int .i64 (rd l1 x7_2))).heap[gb139]? = some (.cells #[.slice none 0 0, .slice none 0 0, .int .i64 0, .int .i64 0] 24 (0, 0))) := ⟨by (with_reducible repeat (first | refine blk_drewN ?_ _ | refine blk_drew ?_ | refine blk_alloc ?_ _)); refine blk_far ?_ (by have h_ := Kd.R_ne HO_141001.out BK139.out (by decide); intro e_; exact h_ (by rw [e_]; rfl)) _; (with_reducible repeat (first | refine blk_drewN ?_ _ | refine blk_drew ?_ | refine blk_alloc ?_ _)); exact BK139.out⟩
                              have n3_ : Aside0 ((w44.setCell ⟨go40, ((rd l1 (ji32)) : Int).toNat, none⟩ (.int .i64 (rd l1 x7_2))).heap[gb140]? = some (.cells #[.slice (some ⟨go37, 0, none⟩) x141000_2.length co37, .slice (some ⟨go40, 0, none⟩) x141001_2.length co40, .int .i64 x141002_2, .int .i64 x141003_2] 24 (0, 0))) := ⟨by (with_reducible repeat (first | refine blk_drewN ?_ _ | refine blk_drew ?_ | refine blk_alloc ?_ _)); refine blk_far ?_ (by have h_ := Kd.R_ne HO_141001.out BK140.out (by decide); intro e_; exact h_ (by rw [e_]; rfl)) _; (with_reducible repeat (first | refine blk_drewN ?_ _ | refine blk_drew ?_ | refine blk_alloc ?_ _)); exact BK140.out⟩
                              have n4_ : Aside0 (Below w.heap.size w (w44.setCell ⟨go40, ((rd l1 (ji32)) : Int).toNat, none⟩ (.int .i64 (rd l1 x7_2)))) := ⟨by repeat (first | (with_reducible first | exact HB.out | apply below_alloc | apply pw_below_drewN | apply below_drew1 | refine below_set ?_ GB40.out | refine below_set ?_ GE139.out | refine below_set ?_ GE140.out) | exact HB.out)⟩
                              (try clear HO_141000)
                              (try clear HO_141001)
                              (try clear BK139)
                              (try clear BK140)
                              (try clear HB)
                              generalize (w44.setCell ⟨go40, ((rd l1 (ji32)) : Int).toNat, none⟩ (.int .i64 (rd l1 x7_2))) = w46 at n0_ n1_ n2_ n3_ n4_ ⊢
                              have HO_141000 := n0_
                              have HO_141001 := n1_
                              have BK139 := n2_
                              have BK140 := n3_
                              have HB := n4_
                              clear n0_ n1_ n2_ n3_ n4_
                              have p161 : 0 ≤ (x7_2 : Int) := od
                              have q161 : x7_2 < (l1.length : Int) := od
                              obtain ⟨ad161, e161, hx161_0⟩ := Kd.at_int HR1.out x7_2 p161 q161
                              obtain rfl : ad155 = ad161 := (by injection e161)
                              replace hx161_0 := (HB.out.cell (World.block_lt_of_cell? w _ hx161_0)).trans hx161_0
                              replace p161 := eq_true p161
                              replace q161 := eq_true q161
                              have hnb47 := NB140_139.out
                              have hnc47 := NB139_140.out
                              obtain ⟨hcz48_0, hcz48_1, hcz48_2, hcz48_3, hfz48_0, hfz48_1, hfz48_2, hfz48_3⟩ := bk4 BK140.out
                              try go_wp2
                              go_roundg k2
                              case measure => have := HK1.out; have := HK2.out; omega
                              case rel => exact ⟨(wrap64 (x7_2 + 1)), (y157), (y160), (x141002_2), (rd l1 x7_2), (.slice (some ⟨go37, 0, none⟩) x141000_2.length co37), (.slice (some ⟨go40, 0, none⟩) x141001_2.length co40), (by first | rfl | (simp; done) | (simp [*]; done)), H', ⟨by have := HK1.out; have := HK2.out; omega⟩, ⟨Kd.pR (Kd.R_mono (Kd.R_far (p := ⟨gb140, 3, none⟩) (Kd.R_types HO_141000.out BK140.out (by decide)) (fun _ hk => hk.2) (.int .i64 (rd l1 x7_2))) (fun _ hk => hk.1))⟩, ⟨Kd.pR (Kd.R_mono (Kd.R_far (p := ⟨gb140, 3, none⟩) (Kd.R_types HO_141001.out BK140.out (by decide)) (fun _ hk => hk.2) (.int .i64 (rd l1 x7_2))) (fun _ hk => hk.1))⟩, ⟨by (with_reducible repeat (first | refine blk_drewN ?_ _ | refine blk_drew ?_ | refine blk_alloc ?_ _)); refine blk_far ?_ NB139_140.out _; (with_reducible repeat (first | refine blk_drewN ?_ _ | refine blk_drew ?_ | refine blk_alloc ?_ _)); exact BK139.out⟩, ⟨by (with_reducible repeat (first | refine blk_drewN ?_ _ | refine blk_drew ?_ | refine blk_alloc ?_ _)); refine blk_put (cs := #[.slice (some ⟨go37, 0, none⟩) x141000_2.length co37, .slice (some ⟨go40, 0, none⟩) x141001_2.length co40, .int .i64 x141002_2, .int .i64 x141003_2]) ?_ 3 _ rfl; (with_reducible repeat (first | refine blk_drewN ?_ _ | refine blk_drew ?_ | refine blk_alloc ?_ _)); exact BK140.out⟩, ⟨pB HB.out⟩⟩
                            · rw [if_neg c39] at H
                              exact absurd H (by simp)
                          · rw [if_neg c38] at H
                            exact absurd H (by simp)
                        · rw [if_neg c36] at H
                          exact absurd H (by simp)
                      · rw [if_neg c35] at H
                        exact absurd H (by simp)
                    · rw [if_neg c34] at H
                      exact absurd H (by simp)
                  · rw [if_neg c33] at H
                    exact absurd H (by simp)
                · rw [if_neg c31] at H
                  exact absurd H (by simp)
            · rw [if_neg c26] at H
              have c26b0 : decide (x7_2 < (l1.length : Int)) = false := decide_eq_false c26
              clear c26
              simp only [Option.some.injEq, Prod.mk.injEq] at H
              obtain ⟨rfl, rfl, rfl, rfl⟩ := H
              have hnb49 := NB140_139.out
              have hnc49 := NB139_140.out
              obtain ⟨hcz50_0, hcz50_1, hcz50_2, hcz50_3, hfz50_0, hfz50_1, hfz50_2, hfz50_3⟩ := bk4 BK140.out
              obtain ⟨Ao51, co51, eo51⟩ := Kd.R_slice HO_141000.out
              subst eo51
              obtain ⟨hcz52_0, hcz52_1, hcz52_2, hcz52_3, hfz52_0, hfz52_1, hfz52_2, hfz52_3⟩ := bk4 BK139.out
              obtain ⟨Ao53, co53, eo53⟩ := Kd.R_slice HO_141001.out
              subst eo53
              go_wp2
              refine bodyPost_ret (results_cell_row rfl _ _ gb139 24 #[.slice Ao51 x141000_2.length co51, .slice Ao53 x141001_2.length co53, .int .i64 x141002_2, .int .i64 x141003_2] (0, 0) _ rfl (by (with_reducible repeat (first | refine blk_drewN ?_ _ | refine blk_drew ?_ | refine blk_alloc ?_ _)); refine blk_put (cs := #[.slice Ao51 x141000_2.length co51, .slice Ao53 x141001_2.length co53, .int .i64 x141002_2, .int .i64 0]) ?_ 3 _ rfl; (with_reducible repeat (first | refine blk_drewN ?_ _ | refine blk_drew ?_ | refine blk_alloc ?_ _)); refine blk_put (cs := #[.slice Ao51 x141000_2.length co51, .slice Ao53 x141001_2.length co53, .int .i64 0, .int .i64 0]) ?_ 2 _ rfl; (with_reducible repeat (first | refine blk_drewN ?_ _ | refine blk_drew ?_ | refine blk_alloc ?_ _)); refine blk_put (cs := #[.slice Ao51 x141000_2.length co51, .slice none 0 0, .int .i64 0, .int .i64 0]) ?_ 1 _ rfl; (with_reducible repeat (first | refine blk_drewN ?_ _ | refine blk_drew ?_ | refine blk_alloc ?_ _)); refine blk_put (cs := #[.slice none 0 0, .slice none 0 0, .int .i64 0, .int .i64 0]) ?_ 0 _ rfl; (with_reducible repeat (first | refine blk_drewN ?_ _ | refine blk_drew ?_ | refine blk_alloc ?_ _)); exact BK139.out) Try.underlying24 rfl (by kernel_rfl)) rfl ?_
              exact ⟨_, _, by first | rfl | (simp [errW_none, errW_some] <;> rfl) | (simp [*, errW_none, errW_some] <;> rfl), Kd.pR (Kd.R_mono (Kd.R_far (p := ⟨gb139, 3, none⟩) (Kd.R_far (p := ⟨gb139, 2, none⟩) (Kd.R_far (p := ⟨gb139, 1, none⟩) (Kd.R_far (p := ⟨gb139, 0, none⟩) (Kd.R_types HO_141000.out BK139.out (by decide)) (fun _ hk => hk.2) (.slice Ao51 x141000_2.length co51)) (fun _ hk => hk.2) (.slice Ao53 x141001_2.length co53)) (fun _ hk => hk.2) (.int .i64 x141002_2)) (fun _ hk => hk.2) (.int .i64 x141003_2)) (fun _ hk => hk.1)), Kd.pR (Kd.R_mono (Kd.R_far (p := ⟨gb139, 3, none⟩) (Kd.R_far (p := ⟨gb139, 2, none⟩) (Kd.R_far (p := ⟨gb139, 1, none⟩) (Kd.R_far (p := ⟨gb139, 0, none⟩) (Kd.R_types HO_141001.out BK139.out (by decide)) (fun _ hk => hk.2) (.slice Ao51 x141000_2.length co51)) (fun _ hk => hk.2) (.slice Ao53 x141001_2.length co53)) (fun _ hk => hk.2) (.int .i64 x141002_2)) (fun _ hk => hk.2) (.int .i64 x141003_2)) (fun _ hk => hk.1)), pB HB.out⟩

end Go.Proofs.Ytiimflniadggaaa.PLru
