-- printed by a program of this session (a turned copy of the kit's print); Lean checks it
import Derived.Test.YtlgfopdindklnaaPArenax0
namespace Go.Proofs.Ytlgfopdindklnaa.PArena
open Go.RowKit Go.Proofs.YtlgfopdindklnaaW.PrintWords Go.Proofs.YtlgfopdindklnaaW.PrintLast Go.Proofs.YtlgfopdindklnaaW.PrintMore
attribute [local go_sem] max2_int min2_int max_two min_two max_three min_three max_four min_four   -- for this text's walks alone
set_option linter.unusedVariables false
set_option linter.unusedSimpArgs false

/-! ### spigotref13_New: function 30 -/
mutual
def spigotref13_New.j0 : Nat → Int → Bool → Option (List Int × List Bool × Int × Int)
  | 0, _, _ => none
  | k + 1, x0, x11 => if x11 = true then (some (([] : List Int), ([] : List Bool), 0, 2)) else (spigotref13_New.l0 k x0 0 ([] : List Int) ([] : List Bool) 0)
def spigotref13_New.l0 : Nat → Int → Int → List Int → List Bool → Int → Option (List Int × List Bool × Int × Int)
  | 0, _, _, _, _, _ => none
  | k + 1, x0, x5, x364000, x364001, x364002 => if x5 < x0 then (if (wrap64 (x5 + 1)) < x0 then (if x364000.length < 17592186044416 then (if x364001.length < 140737488355328 then (spigotref13_New.l0 k x0 (wrap64 (x5 + 1)) (x364000 ++ [wrap64 (x5 + 1)]) (x364001 ++ [false]) x364002) else (none)) else (none)) else (if x364000.length < 17592186044416 then (if x364001.length < 140737488355328 then (spigotref13_New.l0 k x0 (wrap64 (x5 + 1)) (x364000 ++ [(-1)]) (x364001 ++ [false]) x364002) else (none)) else (none))) else (some (x364000, x364001, x364002, 0))
end
def spigotref13_New.f (k : Nat) (a0 : Int) : Option (List Int × List Bool × Int × Int) := if a0 < 1 then (spigotref13_New.j0 k a0 true) else (spigotref13_New.j0 k a0 (decide (a0 > 16)))
theorem spigotref13_New.mono_l : ∀ k, (∀ y0 y1, LeO (spigotref13_New.j0 k y0 y1) (spigotref13_New.j0 (k + 1) y0 y1)) ∧ (∀ y0 y1 y2 y3 y4, LeO (spigotref13_New.l0 k y0 y1 y2 y3 y4) (spigotref13_New.l0 (k + 1) y0 y1 y2 y3 y4))
  | 0 => ⟨fun _ _ r h => by simp [spigotref13_New.j0] at h, fun _ _ _ _ _ r h => by simp [spigotref13_New.l0] at h⟩
  | k + 1 => by
    obtain ⟨ih0, ih1⟩ := spigotref13_New.mono_l k
    refine ⟨?_, ?_⟩
    · intro y0 y1
      unfold spigotref13_New.j0
      repeat' first
      | (with_reducible exact ih0 _ _)
      | (with_reducible exact ih1 _ _ _ _ _)
      | (with_reducible exact LeO.refl _)
      | (with_reducible exact LeO.none _)
      | (with_reducible refine LeO.ite ?_ ?_)
      | (with_reducible refine LeO.bind ?_ (fun _ => ?_))
      | exact ih0 _ _
      | exact ih1 _ _ _ _ _
      | exact LeO.none _
      | refine LeO.ite ?_ ?_
      | refine LeO.bind ?_ (fun _ => ?_)
    · intro y0 y1 y2 y3 y4
      unfold spigotref13_New.l0
      repeat' first
      | (with_reducible exact ih0 _ _)
      | (with_reducible exact ih1 _ _ _ _ _)
      | (with_reducible exact LeO.refl _)
      | (with_reducible exact LeO.none _)
      | (with_reducible refine LeO.ite ?_ ?_)
      | (with_reducible refine LeO.bind ?_ (fun _ => ?_))
      | exact ih0 _ _
      | exact ih1 _ _ _ _ _
      | exact LeO.none _
      | refine LeO.ite ?_ ?_
      | refine LeO.bind ?_ (fun _ => ?_)
theorem spigotref13_New.mono : ∀ a0 k, LeO (spigotref13_New.f k a0) (spigotref13_New.f (k + 1) a0) := by
  intro a0 k
  obtain ⟨ih0, ih1⟩ := spigotref13_New.mono_l k
  unfold spigotref13_New.f
  repeat' first
      | (with_reducible exact ih0 _ _)
      | (with_reducible exact ih1 _ _ _ _ _)
      | (with_reducible exact LeO.refl _)
      | (with_reducible exact LeO.none _)
      | (with_reducible refine LeO.ite ?_ ?_)
      | (with_reducible refine LeO.bind ?_ (fun _ => ?_))
      | exact ih0 _ _
      | exact ih1 _ _ _ _ _
      | exact LeO.none _
      | refine LeO.ite ?_ ?_
      | refine LeO.bind ?_ (fun _ => ?_)
set_option maxHeartbeats 8000000 in
set_option maxRecDepth 100000 in
theorem spigotref13_New.calls (k : Nat) (a0 : Int) (r1 : List Int) (r2 : List Bool) (r3 : Int) (r4 : Int) (w : World) (h : spigotref13_New.f k a0 = some (r1, r2, r3, r4)) :
    Calls Try.prog 30 #[.int .i64 a0] w fun e w' => ∃ v0_ v1_ : Value, e = .returned (.tuple #[.agg #[v0_, v1_, .int .i64 r3], .int .i64 r4]) ∧ Kd.R (Kd.int .i64) 3 w' w.heap.size (fun _ => True) v0_ r1 ∧ Kd.R Kd.bool 4 w' w.heap.size (fun _ => True) v1_ r2 ∧ Below w.heap.size w w' := by
  have hu36 := Try.underlying36
  have HB := Aside0.mk (Below.refl w.heap.size w)
  have H : (if a0 < 1 then (spigotref13_New.j0 k a0 true) else (spigotref13_New.j0 k a0 (decide (a0 > 16)))) = some (r1, r2, r3, r4) := h
  (try clear h)
  have HC2 := Aside0.mk H
  clear H
  go_enter Try.func30, Try.ntmps30
  go_upto_region 1 with (first | ((with_reducible refine gate_dst (N := 2) rfl ?_); refine boxE (N := 2) (cs := #[.slice none 0 0, .slice none 0 0, .int .i64 0]) (t := 36) ?_; intro gb362 hg w3 hbox hb; have n0_ := Aside0.mk (below_step (pB HB.out) hb); have n1_ := Aside0.mk (hbox); have n3_ := Aside0.mk (pL HB.out hg); clear HB; have HB := n0_; have BK362 := n1_; have GE362 := n3_; clear n0_ n1_ n3_; clear hb hbox hg))
  (try simp only [Act.put, List.setIfInBounds_toArray, List.set_cons_zero, List.set_cons_succ])
  go_cut [11] (fun v11 wc => ∃ (kq : Nat) (x11_1 : Bool), v11 = .bool x11_1 ∧ Aside0 (spigotref13_New.j0 kq a0 x11_1 = some (r1, r2, r3, r4)) ∧ Aside0 (kq ≤ k) ∧ Aside0 (wc.heap[gb362]? = some (.cells #[(.slice none 0 0), (.slice none 0 0), .int .i64 0] 36 (0, 0))) ∧ Aside0 (Below w.heap.size w wc))
  case first =>
    have H := HC2.out
    (try clear HC2)
    by_cases c4 : a0 < 1
    · rw [if_pos c4] at H
      have c4b0 : decide (a0 < 1) = true := decide_eq_true c4
      clear c4
      (first | rw [c4b0] | (simp only [i64_w, i32_w]; rw [c4b0]) | skip)
      have H' := Aside0.mk H
      clear H
      go_wp2
      go_meet
      case rel => exact ⟨_, (true), (by first | rfl | (simp; done) | (simp [*]; done)), H', ⟨by first | omega | exact Nat.le_refl _⟩, ⟨pK BK362.out⟩, ⟨pB HB.out⟩⟩
    · rw [if_neg c4] at H
      have c4b0 : decide (a0 < 1) = false := decide_eq_false c4
      clear c4
      (first | rw [c4b0] | (simp only [i64_w, i32_w]; rw [c4b0]) | skip)
      have H' := Aside0.mk H
      clear H
      go_wp2
      go_meet
      case rel => exact ⟨_, (decide (a0 > 16)), (by first | rfl | (simp; done) | (simp [*]; done)), H', ⟨by first | omega | exact Nat.le_refl _⟩, ⟨pK BK362.out⟩, ⟨pB HB.out⟩⟩
  case rest =>
    (try clear HC2)
    try clear p2
    try clear c3
    try clear c4
    try clear c4b0
    obtain ⟨kq, x11_1, rfl, HA, HJ1, BK362, HB⟩ := hcut
    cases kq with
    | zero => exact absurd HA.out (by simp [spigotref13_New.j0])
    | succ kj1 =>
      have H := HA.out
      clear HA
      simp only [spigotref13_New.j0] at H
      by_cases c5 : x11_1 = true
      · subst c5
        have H1 : (some (([] : List Int), ([] : List Bool), 0, 2)) = some (r1, r2, r3, r4) := by rw [if_pos rfl] at H; exact H
        clear H
        have H := H1
        clear H1
        simp only [Option.some.injEq, Prod.mk.injEq] at H
        obtain ⟨rfl, rfl, rfl, rfl⟩ := H
        obtain ⟨hcz6_0, hcz6_1, hcz6_2, hfz6_0, hfz6_1, hfz6_2⟩ := bk3 BK362.out
        go_wp2
        refine bodyPost_ret (results_ct rfl _ _ gb362 36 #[.slice none 0 0, .slice none 0 0, .int .i64 0] (0, 0) _ rfl (by (with_reducible repeat (first | refine blk_drewN ?_ _ | refine blk_drew ?_ | refine blk_alloc ?_ _)); refine blk_put (cs := #[.slice none 0 0, .slice none 0 0, .int .i64 0]) ?_ 2 _ rfl; (with_reducible repeat (first | refine blk_drewN ?_ _ | refine blk_drew ?_ | refine blk_alloc ?_ _)); refine blk_put (cs := #[.slice none 0 0, .slice none 0 0, .int .i64 0]) ?_ 1 _ rfl; (with_reducible repeat (first | refine blk_drewN ?_ _ | refine blk_drew ?_ | refine blk_alloc ?_ _)); refine blk_put (cs := #[.slice none 0 0, .slice none 0 0, .int .i64 0]) ?_ 0 _ rfl; (with_reducible repeat (first | refine blk_drewN ?_ _ | refine blk_drew ?_ | refine blk_alloc ?_ _)); exact BK362.out) Try.underlying36 rfl (by kernel_rfl)) rfl ?_
        exact ⟨_, _, by first | rfl | (simp [errW_none, errW_some] <;> rfl) | (simp [*, errW_none, errW_some] <;> rfl), by first | exact Kd.R_nil _ _ _ _ _ | exact Kd.N_nil _ _ _ _ _ | exact Kd.V_nil _ _ _ _ _ | exact Kd.Q_nil _ _ _ _ _ | exact Kd.S_nil _ _ _ _ _, by first | exact Kd.R_nil _ _ _ _ _ | exact Kd.N_nil _ _ _ _ _ | exact Kd.V_nil _ _ _ _ _ | exact Kd.Q_nil _ _ _ _ _ | exact Kd.S_nil _ _ _ _ _, pB HB.out⟩
      · replace c5 := Bool.eq_false_iff.mpr c5
        subst c5
        have H1 : (spigotref13_New.l0 kj1 a0 0 ([] : List Int) ([] : List Bool) 0) = some (r1, r2, r3, r4) := by rw [if_neg (show ¬ (false = true) by decide)] at H; exact H
        clear H
        have H := H1
        (try clear H1)
        have H' := Aside0.mk H
        clear H
        go_wp2_with (first | ((with_reducible refine gate_dst (N := 4) rfl ?_); refine boxE (N := 4) (cs := #[.slice none 0 0, .slice none 0 0, .int .i64 0]) (t := 36) ?_; intro gb363 hg w7 hbox hb; have n0_ := Aside0.mk (blk_below (pK BK362.out) hb); have n1_ := Aside0.mk (below_step (pB HB.out) hb); have n2_ := Aside0.mk (hbox); have n4_ := Aside0.mk (pL HB.out hg); have n5_ := Aside0.mk (pNl BK362.out hg); have n6_ := Aside0.mk (pNg BK362.out hg); clear BK362; clear HB; have BK362 := n0_; have HB := n1_; have BK363 := n2_; have GE363 := n4_; have NB362_363 := n5_; have NB363_362 := n6_; clear n0_ n1_ n2_ n4_ n5_ n6_; clear hb hbox hg))
        go_loopg [5] kj1 (fun kq v5 w' => ∃ (x5_2 : Int) (x364000_2 : List Int) (x364001_2 : List Bool) (u364000 : Value) (u364001 : Value), v5 = .int .i64 x5_2 ∧ Aside0 (spigotref13_New.l0 kq a0 x5_2 x364000_2 x364001_2 0 = some (r1, r2, r3, r4)) ∧ Aside0 (kq ≤ kj1) ∧ Aside0 (Kd.R (Kd.int .i64) 3 w' w.heap.size (fun _ => True) u364000 x364000_2) ∧ Aside0 (Kd.R Kd.bool 4 w' w.heap.size (fun _ => True) u364001 x364001_2) ∧ Aside0 (w'.heap[gb362]? = some (.cells #[(.slice none 0 0), (.slice none 0 0), .int .i64 0] 36 (0, 0))) ∧ Aside0 (w'.heap[gb363]? = some (.cells #[u364000, u364001, .int .i64 0] 36 (0, 0))) ∧ Aside0 (Below w.heap.size w w'))
        case atStart => exact ⟨(0), (([] : List Int)), (([] : List Bool)), (.slice none 0 0), (.slice none 0 0), (by first | rfl | (simp; done) | (simp [*]; done)), H', ⟨Nat.le_refl _⟩, ⟨by first | exact Kd.R_nil _ _ _ _ _ | exact Kd.N_nil _ _ _ _ _ | exact Kd.V_nil _ _ _ _ _ | exact Kd.Q_nil _ _ _ _ _ | exact Kd.S_nil _ _ _ _ _⟩, ⟨by first | exact Kd.R_nil _ _ _ _ _ | exact Kd.N_nil _ _ _ _ _ | exact Kd.V_nil _ _ _ _ _ | exact Kd.Q_nil _ _ _ _ _ | exact Kd.S_nil _ _ _ _ _⟩, ⟨pK BK362.out⟩, ⟨pK BK363.out⟩, ⟨pB HB.out⟩⟩
        case round =>
          clear H'
          try clear p2
          try clear c3
          try clear c4
          try clear c4b0
          try clear c5
          try clear hcz6_0
          try clear hcz6_1
          try clear hcz6_2
          try clear hfz6_0
          try clear hfz6_1
          try clear hfz6_2
          try clear p2
          obtain ⟨x5_2, x364000_2, x364001_2, u364000, u364001, rfl, HA, HK2, HO_364000, HO_364001, BK362, BK363, HB⟩ := hrel
          cases gk with
          | zero => exact absurd HA.out (by simp [spigotref13_New.l0])
          | succ k2 =>
            have H := HA.out
            (try clear HA)
            simp only [spigotref13_New.l0] at H
            by_cases c8 : x5_2 < a0
            · rw [if_pos c8] at H
              have c8b0 : decide (x5_2 < a0) = true := decide_eq_true c8
              clear c8
              by_cases c9 : (wrap64 (x5_2 + 1)) < a0
              · rw [if_pos c9] at H
                have c9b0 : decide ((wrap64 (x5_2 + 1)) < a0) = true := decide_eq_true c9
                clear c9
                by_cases c10 : x364000_2.length < 17592186044416
                · rw [if_pos c10] at H
                  have LMc10 := Aside0.mk c10
                  clear c10
                  obtain ⟨y364, hy364⟩ : ∃ y_ : List Int, y_ = (x364000_2 ++ [wrap64 (x5_2 + 1)]) := ⟨_, rfl⟩
                  replace H : (if x364001_2.length < 140737488355328 then (spigotref13_New.l0 k2 a0 (wrap64 (x5_2 + 1)) y364 (x364001_2 ++ [false]) 0) else (none)) = some (r1, r2, r3, r4) := by first | (rw [hy364]; with_reducible exact H) | (have H2_ := (Option.bind_some _ _).symm.trans H; rw [hy364]; with_reducible exact H2_) | (have H2_ := (Option.bind_some _ _).symm.trans H; with_reducible exact H2_) | with_reducible exact H | (rw [hy364]; exact H) | exact H
                  have Ny364 := Aside0.mk hy364
                  (try clear hy364)
                  by_cases c11 : x364001_2.length < 140737488355328
                  · rw [if_pos c11] at H
                    have LMc11 := Aside0.mk c11
                    clear c11
                    obtain ⟨y367, hy367⟩ : ∃ y_ : List Bool, y_ = (x364001_2 ++ [false]) := ⟨_, rfl⟩
                    replace H : (spigotref13_New.l0 k2 a0 (wrap64 (x5_2 + 1)) y364 y367 0) = some (r1, r2, r3, r4) := by first | (rw [hy367]; with_reducible exact H) | (have H2_ := (Option.bind_some _ _).symm.trans H; rw [hy367]; with_reducible exact H2_) | (have H2_ := (Option.bind_some _ _).symm.trans H; with_reducible exact H2_) | with_reducible exact H | (rw [hy367]; exact H) | exact H
                    have Ny367 := Aside0.mk hy367
                    (try clear hy367)
                    have H' := Aside0.mk H
                    clear H
                    have hnb12 := NB363_362.out
                    have hnc12 := NB362_363.out
                    obtain ⟨hcz13_0, hcz13_1, hcz13_2, hfz13_0, hfz13_1, hfz13_2⟩ := bk3 BK363.out
                    go_wp2_with (first | ((with_reducible refine gate_builtin (b := .append) (xs := #[.tmp 23, .tmp 26]) rfl ?_); at_builtin; refine Kd.R_append (Kd.int .i64) (w0 := w) w.heap.size rfl (.tmp 23) (.tmp 26) 33 3 (.int .i64 0) 8 rfl Try.underlying33 info3 rfl (by decide) (by omega) u364000 x364000_2 (wrap64 (x5_2 + 1)) [.int .i64 (wrap64 (x5_2 + 1))] (fun _ => True) (fun _ => False) rfl rfl ?aP (fun _ hk => hk.elim) ?aF ?aO ?aB ?aS ?aL ?_; (case aP => exact rfl); (case aB => exact (pB HB.out)); (case aF => exact (fun _ _ => trivial)); (case aO => exact (Kd.pR HO_364000.out)); (case aS => exact (below_size (pB HB.out))); (case aL => have := LMc10.out; omega); intro v365 w14 ho hb hg hat; rw [← Ny364.out] at ho; have n0_ := Aside0.mk (Kd.R_over' (Kd.pR HO_364001.out) (Kd.R_typed (Kd.pR HO_364000.out)) (by decide) hg); have n1_ := Aside0.mk (blk_grown (pK BK362.out) hg (Kd.R_ne HO_364000.out BK362.out (by decide))); have n2_ := Aside0.mk (blk_grown (pK BK363.out) hg (Kd.R_ne HO_364000.out BK363.out (by decide))); have n3_ := Aside0.mk (hb); have n4_ := Aside0.mk (ho); clear HO_364001; clear BK362; clear BK363; clear HB; clear HO_364000; have HO_364001 := n0_; have BK362 := n1_; have BK363 := n2_; have HB := n3_; have HO366 := n4_; clear n0_ n1_ n2_ n3_ n4_; clear ho hb hg hat; obtain ⟨Ao15, co15, eo15⟩ := Kd.R_slice HO366.out; subst eo15; obtain ⟨hcz16_0, hcz16_1, hcz16_2, hfz16_0, hfz16_1, hfz16_2⟩ := bk3 BK363.out) | ((with_reducible refine gate_builtin (b := .append) (xs := #[.tmp 35, .tmp 36]) rfl ?_); at_builtin; refine Kd.R_append Kd.bool (w0 := w) w.heap.size rfl (.tmp 35) (.tmp 36) 34 4 (.bool false) 1 rfl Try.underlying34 info4 rfl (by decide) (by omega) u364001 x364001_2 false [.bool false] (fun _ => True) (fun _ => False) rfl (by first | (go_simp; done) | (go_simp; rfl)) ?aP (fun _ hk => hk.elim) ?aF ?aO ?aB ?aS ?aL ?_; (case aP => exact rfl); (case aB => exact (pB HB.out)); (case aF => exact (fun _ _ => trivial)); (case aO => exact (Kd.pR (Kd.R_mono (Kd.R_far (p := ⟨gb363, 0, none⟩) (Kd.R_types HO_364001.out BK363.out (by decide)) (fun _ hk => hk.2) (.slice Ao15 y364.length co15)) (fun _ hk => trivial)))); (case aS => exact (below_size (pB HB.out))); (case aL => have := LMc11.out; omega); intro v368 w17 ho hb hg hat; rw [← Ny367.out] at ho; have n0_ := Aside0.mk (blk_grown (g := gb362) (o := .cells #[.slice none 0 0, .slice none 0 0, .int .i64 0] 36 (0, 0)) (by (with_reducible repeat (first | refine blk_drewN ?_ _ | refine blk_drew ?_ | refine blk_alloc ?_ _)); refine blk_far ?_ NB362_363.out _; (with_reducible repeat (first | refine blk_drewN ?_ _ | refine blk_drew ?_ | refine blk_alloc ?_ _)); exact BK362.out) hg (Kd.R_ne HO_364001.out BK362.out (by decide))); have n1_ := Aside0.mk (blk_grown (g := gb363) (o := .cells #[.slice Ao15 y364.length co15, u364001, .int .i64 0] 36 (0, 0)) (by (with_reducible repeat (first | refine blk_drewN ?_ _ | refine blk_drew ?_ | refine blk_alloc ?_ _)); refine blk_put (cs := #[u364000, u364001, .int .i64 0]) ?_ 0 _ rfl; (with_reducible repeat (first | refine blk_drewN ?_ _ | refine blk_drew ?_ | refine blk_alloc ?_ _)); exact BK363.out) hg (Kd.R_ne HO_364001.out BK363.out (by decide))); have n2_ := Aside0.mk (Kd.R_over' (Kd.pR ((Kd.R_mono (Kd.R_far (p := ⟨gb363, 0, none⟩) (Kd.R_types HO366.out BK363.out (by decide)) (fun _ hk => hk.2) (.slice Ao15 y364.length co15)) (fun _ h_ => h_.1)))) (Kd.R_typed (Kd.pR ((Kd.R_mono (Kd.R_far (p := ⟨gb363, 0, none⟩) (Kd.R_types HO_364001.out BK363.out (by decide)) (fun _ hk => hk.2) (.slice Ao15 y364.length co15)) (fun _ h_ => h_.1))))) (by decide) hg); have n3_ := Aside0.mk (hb); have n4_ := Aside0.mk (ho); clear BK362; clear BK363; clear HO366; clear HB; clear HO_364001; have BK362 := n0_; have BK363 := n1_; have HO366 := n2_; have HB := n3_; have HO369 := n4_; clear n0_ n1_ n2_ n3_ n4_; clear ho hb hg hat; obtain ⟨Ao18, co18, eo18⟩ := Kd.R_slice HO369.out; subst eo18; obtain ⟨hcz19_0, hcz19_1, hcz19_2, hfz19_0, hfz19_1, hfz19_2⟩ := bk3 BK363.out))
                    go_roundg k2
                    case measure => have := HJ1.out; have := HK2.out; omega
                    case rel => exact ⟨(wrap64 (x5_2 + 1)), (y364), (y367), (.slice Ao15 y364.length co15), (.slice Ao18 y367.length co18), (by first | rfl | (simp; done) | (simp [*]; done)), H', ⟨by have := HJ1.out; have := HK2.out; omega⟩, ⟨Kd.pR (Kd.R_mono (Kd.R_far (p := ⟨gb363, 1, none⟩) (Kd.R_types HO366.out BK363.out (by decide)) (fun _ hk => hk.2) (.slice Ao18 y367.length co18)) (fun _ hk => trivial))⟩, ⟨Kd.pR (Kd.R_mono (Kd.R_far (p := ⟨gb363, 1, none⟩) (Kd.R_types HO369.out BK363.out (by decide)) (fun _ hk => hk.2) (.slice Ao18 y367.length co18)) (fun _ hk => trivial))⟩, ⟨by (with_reducible repeat (first | refine blk_drewN ?_ _ | refine blk_drew ?_ | refine blk_alloc ?_ _)); refine blk_far ?_ NB362_363.out _; (with_reducible repeat (first | refine blk_drewN ?_ _ | refine blk_drew ?_ | refine blk_alloc ?_ _)); exact BK362.out⟩, ⟨by (with_reducible repeat (first | refine blk_drewN ?_ _ | refine blk_drew ?_ | refine blk_alloc ?_ _)); refine blk_put (cs := #[.slice Ao15 y364.length co15, u364001, .int .i64 0]) ?_ 1 _ rfl; (with_reducible repeat (first | refine blk_drewN ?_ _ | refine blk_drew ?_ | refine blk_alloc ?_ _)); exact BK363.out⟩, ⟨pB HB.out⟩⟩
                  · rw [if_neg c11] at H
                    exact absurd H (by simp)
                · rw [if_neg c10] at H
                  exact absurd H (by simp)
              · rw [if_neg c9] at H
                have c9b0 : decide ((wrap64 (x5_2 + 1)) < a0) = false := decide_eq_false c9
                (try clear c9)
                by_cases c20 : x364000_2.length < 17592186044416
                · rw [if_pos c20] at H
                  have LMc20 := Aside0.mk c20
                  clear c20
                  obtain ⟨y370, hy370⟩ : ∃ y_ : List Int, y_ = (x364000_2 ++ [(-1)]) := ⟨_, rfl⟩
                  replace H : (if x364001_2.length < 140737488355328 then (spigotref13_New.l0 k2 a0 (wrap64 (x5_2 + 1)) y370 (x364001_2 ++ [false]) 0) else (none)) = some (r1, r2, r3, r4) := by first | (rw [hy370]; with_reducible exact H) | (have H2_ := (Option.bind_some _ _).symm.trans H; rw [hy370]; with_reducible exact H2_) | (have H2_ := (Option.bind_some _ _).symm.trans H; with_reducible exact H2_) | with_reducible exact H | (rw [hy370]; exact H) | exact H
                  have Ny370 := Aside0.mk hy370
                  (try clear hy370)
                  by_cases c21 : x364001_2.length < 140737488355328
                  · rw [if_pos c21] at H
                    have LMc21 := Aside0.mk c21
                    clear c21
                    obtain ⟨y373, hy373⟩ : ∃ y_ : List Bool, y_ = (x364001_2 ++ [false]) := ⟨_, rfl⟩
                    replace H : (spigotref13_New.l0 k2 a0 (wrap64 (x5_2 + 1)) y370 y373 0) = some (r1, r2, r3, r4) := by first | (rw [hy373]; with_reducible exact H) | (have H2_ := (Option.bind_some _ _).symm.trans H; rw [hy373]; with_reducible exact H2_) | (have H2_ := (Option.bind_some _ _).symm.trans H; with_reducible exact H2_) | with_reducible exact H | (rw [hy373]; exact H) | exact H
                    have Ny373 := Aside0.mk hy373
                    (try clear hy373)
                    have H' := Aside0.mk H
                    clear H
                    have hnb22 := NB363_362.out
                    have hnc22 := NB362_363.out
                    obtain ⟨hcz23_0, hcz23_1, hcz23_2, hfz23_0, hfz23_1, hfz23_2⟩ := bk3 BK363.out
                    go_wp2_with (first | ((with_reducible refine gate_builtin (b := .append) (xs := #[.tmp 30, .tmp 31]) rfl ?_); at_builtin; refine Kd.R_append (Kd.int .i64) (w0 := w) w.heap.size rfl (.tmp 30) (.tmp 31) 33 3 (.int .i64 0) 8 rfl Try.underlying33 info3 rfl (by decide) (by omega) u364000 x364000_2 (-1) [.int .i64 (-1)] (fun _ => True) (fun _ => False) rfl rfl ?aP (fun _ hk => hk.elim) ?aF ?aO ?aB ?aS ?aL ?_; (case aP => exact rfl); (case aB => exact (pB HB.out)); (case aF => exact (fun _ _ => trivial)); (case aO => exact (Kd.pR HO_364000.out)); (case aS => exact (below_size (pB HB.out))); (case aL => have := LMc20.out; omega); intro v371 w24 ho hb hg hat; rw [← Ny370.out] at ho; have n0_ := Aside0.mk (Kd.R_over' (Kd.pR HO_364001.out) (Kd.R_typed (Kd.pR HO_364000.out)) (by decide) hg); have n1_ := Aside0.mk (blk_grown (pK BK362.out) hg (Kd.R_ne HO_364000.out BK362.out (by decide))); have n2_ := Aside0.mk (blk_grown (pK BK363.out) hg (Kd.R_ne HO_364000.out BK363.out (by decide))); have n3_ := Aside0.mk (hb); have n4_ := Aside0.mk (ho); clear HO_364001; clear BK362; clear BK363; clear HB; clear HO_364000; have HO_364001 := n0_; have BK362 := n1_; have BK363 := n2_; have HB := n3_; have HO372 := n4_; clear n0_ n1_ n2_ n3_ n4_; clear ho hb hg hat; obtain ⟨Ao25, co25, eo25⟩ := Kd.R_slice HO372.out; subst eo25; obtain ⟨hcz26_0, hcz26_1, hcz26_2, hfz26_0, hfz26_1, hfz26_2⟩ := bk3 BK363.out) | ((with_reducible refine gate_builtin (b := .append) (xs := #[.tmp 35, .tmp 36]) rfl ?_); at_builtin; refine Kd.R_append Kd.bool (w0 := w) w.heap.size rfl (.tmp 35) (.tmp 36) 34 4 (.bool false) 1 rfl Try.underlying34 info4 rfl (by decide) (by omega) u364001 x364001_2 false [.bool false] (fun _ => True) (fun _ => False) rfl (by first | (go_simp; done) | (go_simp; rfl)) ?aP (fun _ hk => hk.elim) ?aF ?aO ?aB ?aS ?aL ?_; (case aP => exact rfl); (case aB => exact (pB HB.out)); (case aF => exact (fun _ _ => trivial)); (case aO => exact (Kd.pR (Kd.R_mono (Kd.R_far (p := ⟨gb363, 0, none⟩) (Kd.R_types HO_364001.out BK363.out (by decide)) (fun _ hk => hk.2) (.slice Ao25 y370.length co25)) (fun _ hk => trivial)))); (case aS => exact (below_size (pB HB.out))); (case aL => have := LMc21.out; omega); intro v374 w27 ho hb hg hat; rw [← Ny373.out] at ho; have n0_ := Aside0.mk (blk_grown (g := gb362) (o := .cells #[.slice none 0 0, .slice none 0 0, .int .i64 0] 36 (0, 0)) (by (with_reducible repeat (first | refine blk_drewN ?_ _ | refine blk_drew ?_ | refine blk_alloc ?_ _)); refine blk_far ?_ NB362_363.out _; (with_reducible repeat (first | refine blk_drewN ?_ _ | refine blk_drew ?_ | refine blk_alloc ?_ _)); exact BK362.out) hg (Kd.R_ne HO_364001.out BK362.out (by decide))); have n1_ := Aside0.mk (blk_grown (g := gb363) (o := .cells #[.slice Ao25 y370.length co25, u364001, .int .i64 0] 36 (0, 0)) (by (with_reducible repeat (first | refine blk_drewN ?_ _ | refine blk_drew ?_ | refine blk_alloc ?_ _)); refine blk_put (cs := #[u364000, u364001, .int .i64 0]) ?_ 0 _ rfl; (with_reducible repeat (first | refine blk_drewN ?_ _ | refine blk_drew ?_ | refine blk_alloc ?_ _)); exact BK363.out) hg (Kd.R_ne HO_364001.out BK363.out (by decide))); have n2_ := Aside0.mk (Kd.R_over' (Kd.pR ((Kd.R_mono (Kd.R_far (p := ⟨gb363, 0, none⟩) (Kd.R_types HO372.out BK363.out (by decide)) (fun _ hk => hk.2) (.slice Ao25 y370.length co25)) (fun _ h_ => h_.1)))) (Kd.R_typed (Kd.pR ((Kd.R_mono (Kd.R_far (p := ⟨gb363, 0, none⟩) (Kd.R_types HO_364001.out BK363.out (by decide)) (fun _ hk => hk.2) (.slice Ao25 y370.length co25)) (fun _ h_ => h_.1))))) (by decide) hg); have n3_ := Aside0.mk (hb); have n4_ := Aside0.mk (ho); clear BK362; clear BK363; clear HO372; clear HB; clear HO_364001; have BK362 := n0_; have BK363 := n1_; have HO372 := n2_; have HB := n3_; have HO375 := n4_; clear n0_ n1_ n2_ n3_ n4_; clear ho hb hg hat; obtain ⟨Ao28, co28, eo28⟩ := Kd.R_slice HO375.out; subst eo28; obtain ⟨hcz29_0, hcz29_1, hcz29_2, hfz29_0, hfz29_1, hfz29_2⟩ := bk3 BK363.out))
                    go_roundg k2
                    case measure => have := HJ1.out; have := HK2.out; omega
                    case rel => exact ⟨(wrap64 (x5_2 + 1)), (y370), (y373), (.slice Ao25 y370.length co25), (.slice Ao28 y373.length co28), (by first | rfl | (simp; done) | (simp [*]; done)), H', ⟨by have := HJ1.out; have := HK2.out; omega⟩, ⟨Kd.pR (Kd.R_mono (Kd.R_far (p := ⟨gb363, 1, none⟩) (Kd.R_types HO372.out BK363.out (by decide)) (fun _ hk => hk.2) (.slice Ao28 y373.length co28)) (fun _ hk => trivial))⟩, ⟨Kd.pR (Kd.R_mono (Kd.R_far (p := ⟨gb363, 1, none⟩) (Kd.R_types HO375.out BK363.out (by decide)) (fun _ hk => hk.2) (.slice Ao28 y373.length co28)) (fun _ hk => trivial))⟩, ⟨by (with_reducible repeat (first | refine blk_drewN ?_ _ | refine blk_drew ?_ | refine blk_alloc ?_ _)); refine blk_far ?_ NB362_363.out _; (with_reducible repeat (first | refine blk_drewN ?_ _ | refine blk_drew ?_ | refine blk_alloc ?_ _)); exact BK362.out⟩, ⟨by (with_reducible repeat (first | refine blk_drewN ?_ _ | refine blk_drew ?_ | refine blk_alloc ?_ _)); refine blk_put (cs := #[.slice Ao25 y370.length co25, u364001, .int .i64 0]) ?_ 1 _ rfl; (with_reducible repeat (first | refine blk_drewN ?_ _ | refine blk_drew ?_ | refine blk_alloc ?_ _)); exact BK363.out⟩, ⟨pB HB.out⟩⟩
                  · rw [if_neg c21] at H
                    exact absurd H (by simp)
                · rw [if_neg c20] at H
                  exact absurd H (by simp)
            · rw [if_neg c8] at H
              have c8b0 : decide (x5_2 < a0) = false := decide_eq_false c8
              clear c8
              simp only [Option.some.injEq, Prod.mk.injEq] at H
              obtain ⟨rfl, rfl, rfl, rfl⟩ := H
              have hnb30 := NB363_362.out
              have hnc30 := NB362_363.out
              obtain ⟨hcz31_0, hcz31_1, hcz31_2, hfz31_0, hfz31_1, hfz31_2⟩ := bk3 BK363.out
              obtain ⟨Ao32, co32, eo32⟩ := Kd.R_slice HO_364000.out
              subst eo32
              obtain ⟨hcz33_0, hcz33_1, hcz33_2, hfz33_0, hfz33_1, hfz33_2⟩ := bk3 BK362.out
              obtain ⟨Ao34, co34, eo34⟩ := Kd.R_slice HO_364001.out
              subst eo34
              go_wp2
              refine bodyPost_ret (results_ct rfl _ _ gb362 36 #[.slice Ao32 x364000_2.length co32, .slice Ao34 x364001_2.length co34, .int .i64 0] (0, 0) _ rfl (by (with_reducible repeat (first | refine blk_drewN ?_ _ | refine blk_drew ?_ | refine blk_alloc ?_ _)); refine blk_put (cs := #[.slice Ao32 x364000_2.length co32, .slice Ao34 x364001_2.length co34, .int .i64 0]) ?_ 2 _ rfl; (with_reducible repeat (first | refine blk_drewN ?_ _ | refine blk_drew ?_ | refine blk_alloc ?_ _)); refine blk_put (cs := #[.slice Ao32 x364000_2.length co32, .slice none 0 0, .int .i64 0]) ?_ 1 _ rfl; (with_reducible repeat (first | refine blk_drewN ?_ _ | refine blk_drew ?_ | refine blk_alloc ?_ _)); refine blk_put (cs := #[.slice none 0 0, .slice none 0 0, .int .i64 0]) ?_ 0 _ rfl; (with_reducible repeat (first | refine blk_drewN ?_ _ | refine blk_drew ?_ | refine blk_alloc ?_ _)); exact BK362.out) Try.underlying36 rfl (by kernel_rfl)) rfl ?_
              exact ⟨_, _, by first | rfl | (simp [errW_none, errW_some] <;> rfl) | (simp [*, errW_none, errW_some] <;> rfl), Kd.pR (Kd.R_mono (Kd.R_far (p := ⟨gb362, 2, none⟩) (Kd.R_far (p := ⟨gb362, 1, none⟩) (Kd.R_far (p := ⟨gb362, 0, none⟩) (Kd.R_types HO_364000.out BK362.out (by decide)) (fun _ hk => hk.2) (.slice Ao32 x364000_2.length co32)) (fun _ hk => hk.2) (.slice Ao34 x364001_2.length co34)) (fun _ hk => hk.2) (.int .i64 0)) (fun _ hk => trivial)), Kd.pR (Kd.R_mono (Kd.R_far (p := ⟨gb362, 2, none⟩) (Kd.R_far (p := ⟨gb362, 1, none⟩) (Kd.R_far (p := ⟨gb362, 0, none⟩) (Kd.R_types HO_364001.out BK362.out (by decide)) (fun _ hk => hk.2) (.slice Ao32 x364000_2.length co32)) (fun _ hk => hk.2) (.slice Ao34 x364001_2.length co34)) (fun _ hk => hk.2) (.int .i64 0)) (fun _ hk => trivial)), pB HB.out⟩

end Go.Proofs.Ytlgfopdindklnaa.PArena
