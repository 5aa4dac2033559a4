-- printed by a program of this session (a turned copy of the kit's print); Lean checks it
import Derived.Test.YtlgfopdindklnaaPArenax0
import Derived.Test.YtlgfopdindklnaaPArenax4
import Derived.Test.YtlgfopdindklnaaPArenax7
import Derived.Test.YtlgfopdindklnaaPArenax8
namespace Go.Proofs.Ytlgfopdindklnaa.PArena
open Go.RowKit Go.Proofs.YtlgfopdindklnaaW.PrintWords Go.Proofs.YtlgfopdindklnaaW.PrintLast Go.Proofs.YtlgfopdindklnaaW.PrintMore
attribute [local go_sem] max2_int min2_int max_two min_two max_three min_three max_four min_four   -- for this text's walks alone
set_option linter.unusedVariables false
set_option linter.unusedSimpArgs false

/-! ### spigotlaw13_ArenaOrder: function 5 -/
def spigotlaw13_ArenaOrder.l0 : Nat → Int → Bool → Int → Int → List Int → List Bool → Int → Option (Bool)
  | 0, _, _, _, _, _, _, _ => none
  | k + 1, x0, x3, x5, x6, x328000, x328001, x328002 => if x6 < x0 then ((arena_Take.f k x328000 x328001 x328002).bind fun bt328 => (if bt328.2.2.2.2 = 0 then (if bt328.2.2.2.1 = x6 then (spigotlaw13_ArenaOrder.l0 k x0 x3 x5 (wrap64 (x6 + 1)) bt328.1 bt328.2.1 bt328.2.2.1) else (some false)) else (some false))) else ((arena_Take.f k x328000 x328001 x328002).bind fun bt338 => (if x3 = true then (if x5 = 0 then (some (bt338.2.2.2.2 == 18)) else (some false)) else (some false)))
def spigotlaw13_ArenaOrder.f (k : Nat) (a0 : Int) : Option (Bool) := (spigotlaw13_alive.f k).bind fun t318 => (if t318 = true then (if a0 < 1 then (some t318) else (if a0 > 16 then (some t318) else ((arena_New.f k a0).bind fun bt319 => (spigotlaw13_ArenaOrder.l0 k a0 t318 bt319.2.2.2 0 bt319.1 bt319.2.1 bt319.2.2.1)))) else (none))
theorem spigotlaw13_ArenaOrder.mono_l : ∀ k, (∀ y0 y1 y2 y3 y4 y5 y6, LeO (spigotlaw13_ArenaOrder.l0 k y0 y1 y2 y3 y4 y5 y6) (spigotlaw13_ArenaOrder.l0 (k + 1) y0 y1 y2 y3 y4 y5 y6))
  | 0 => fun _ _ _ _ _ _ _ r h => by simp [spigotlaw13_ArenaOrder.l0] at h
  | k + 1 => by
    have ih0 := spigotlaw13_ArenaOrder.mono_l k
    · intro y0 y1 y2 y3 y4 y5 y6
      unfold spigotlaw13_ArenaOrder.l0
      repeat' first
      | (with_reducible exact ih0 _ _ _ _ _ _ _)
      | (with_reducible exact arena_New.mono _ _)
      | (with_reducible exact arena_Take.mono _ _ _ _)
      | (with_reducible exact spigotlaw13_alive.mono _)
      | (with_reducible exact LeO.refl _)
      | (with_reducible exact LeO.none _)
      | (with_reducible refine LeO.ite ?_ ?_)
      | (with_reducible refine LeO.bind ?_ (fun _ => ?_))
      | exact ih0 _ _ _ _ _ _ _
      | exact arena_New.mono _ _
      | exact arena_Take.mono _ _ _ _
      | exact spigotlaw13_alive.mono _
      | exact LeO.none _
      | refine LeO.ite ?_ ?_
      | refine LeO.bind ?_ (fun _ => ?_)
theorem spigotlaw13_ArenaOrder.mono : ∀ a0 k, LeO (spigotlaw13_ArenaOrder.f k a0) (spigotlaw13_ArenaOrder.f (k + 1) a0) := by
  intro a0 k
  have ih0 := spigotlaw13_ArenaOrder.mono_l k
  unfold spigotlaw13_ArenaOrder.f
  repeat' first
      | (with_reducible exact ih0 _ _ _ _ _ _ _)
      | (with_reducible exact arena_New.mono _ _)
      | (with_reducible exact arena_Take.mono _ _ _ _)
      | (with_reducible exact spigotlaw13_alive.mono _)
      | (with_reducible exact LeO.refl _)
      | (with_reducible exact LeO.none _)
      | (with_reducible refine LeO.ite ?_ ?_)
      | (with_reducible refine LeO.bind ?_ (fun _ => ?_))
      | exact ih0 _ _ _ _ _ _ _
      | exact arena_New.mono _ _
      | exact arena_Take.mono _ _ _ _
      | exact spigotlaw13_alive.mono _
      | exact LeO.none _
      | refine LeO.ite ?_ ?_
      | refine LeO.bind ?_ (fun _ => ?_)
set_option maxHeartbeats 8000000 in
set_option maxRecDepth 100000 in
theorem spigotlaw13_ArenaOrder.calls (k : Nat) (a0 : Int) (w : World) (h : spigotlaw13_ArenaOrder.f k a0 = some true) :
    Calls Try.prog 5 #[.int .i64 a0] w fun e w' => e = .returned (.bool true) ∧ Below w.heap.size w w' := by
  have hu36 := Try.underlying36
  have HB := Aside0.mk (Below.refl w.heap.size w)
  have H : ((spigotlaw13_alive.f k).bind fun t318 => (if t318 = true then (if a0 < 1 then (some t318) else (if a0 > 16 then (some t318) else ((arena_New.f k a0).bind fun bt319 => (spigotlaw13_ArenaOrder.l0 k a0 t318 bt319.2.2.2 0 bt319.1 bt319.2.1 bt319.2.2.1)))) else (none))) = some true := h
  clear h
  replace H := Option.bind_eq_some_iff.mp H
  obtain ⟨t318, A20, H⟩ := H
  replace H : (if t318 = true then (if a0 < 1 then (some t318) else (if a0 > 16 then (some t318) else ((arena_New.f k a0).bind fun bt319 => (spigotlaw13_ArenaOrder.l0 k a0 t318 bt319.2.2.2 0 bt319.1 bt319.2.1 bt319.2.2.1)))) else (none)) = some true := H
  have A2 := Aside0.mk A20
  clear A20
  by_cases c3 : t318 = true
  · subst c3
    have H1 : (if a0 < 1 then (some true) else (if a0 > 16 then (some true) else ((arena_New.f k a0).bind fun bt319 => (spigotlaw13_ArenaOrder.l0 k a0 true bt319.2.2.2 0 bt319.1 bt319.2.1 bt319.2.2.1)))) = some true := by rw [if_pos rfl] at H; exact H
    clear H
    have H := H1
    clear H1
    by_cases c4 : a0 < 1
    · rw [if_pos c4] at H
      have c4b0 : decide (a0 < 1) = true := decide_eq_true c4
      clear c4
      clear H
      go_enter Try.func5, Try.ntmps5
      go_wp2_with (first | ((with_reducible refine gate_callee (f := 22) rfl ?_); refine goesL_ (some 13) rfl rfl Try.func22 (by kernel_rfl) rfl #[] rfl (by (try simp only [List.map_toArray, List.map_cons, List.map_nil]); first | done | rfl | (simp only [List.length_drop, List.length_take]; rfl)) ?_; (with_reducible refine (spigotlaw13_alive.calls k   _ A2.out).mono ?_); rintro e w5 ⟨rfl, hb⟩; refine ⟨_, rfl, ?_⟩; have n0_ := Aside0.mk (below_step (by repeat (first | (with_reducible first | exact HB.out | apply below_alloc | apply pw_below_drewN | apply below_drew1) | exact HB.out)) hb); clear HB; have HB := n0_; clear n0_; (try clear hb); (try clear hb2); (try clear hk); (try clear hi)))
      go_ret
      exact ⟨by first | rfl | (simp [errW_none, errW_some] <;> rfl) | (simp [*, errW_none, errW_some] <;> rfl), by repeat (first | (with_reducible first | exact HB.out | apply below_alloc | apply pw_below_drewN | apply below_drew1) | exact HB.out)⟩
    · rw [if_neg c4] at H
      have c4b0 : decide (a0 < 1) = false := decide_eq_false c4
      clear c4
      by_cases c6 : a0 > 16
      · rw [if_pos c6] at H
        have c6b0 : decide (16 < a0) = true := decide_eq_true c6
        clear c6
        clear H
        go_enter Try.func5, Try.ntmps5
        go_wp2_with (first | ((with_reducible refine gate_callee (f := 22) rfl ?_); refine goesL_ (some 13) rfl rfl Try.func22 (by kernel_rfl) rfl #[] rfl (by (try simp only [List.map_toArray, List.map_cons, List.map_nil]); first | done | rfl | (simp only [List.length_drop, List.length_take]; rfl)) ?_; (with_reducible refine (spigotlaw13_alive.calls k   _ A2.out).mono ?_); rintro e w7 ⟨rfl, hb⟩; refine ⟨_, rfl, ?_⟩; have n0_ := Aside0.mk (below_step (by repeat (first | (with_reducible first | exact HB.out | apply below_alloc | apply pw_below_drewN | apply below_drew1) | exact HB.out)) hb); clear HB; have HB := n0_; clear n0_; (try clear hb); (try clear hb2); (try clear hk); (try clear hi)))
        go_ret
        exact ⟨by first | rfl | (simp [errW_none, errW_some] <;> rfl) | (simp [*, errW_none, errW_some] <;> rfl), by repeat (first | (with_reducible first | exact HB.out | apply below_alloc | apply pw_below_drewN | apply below_drew1) | exact HB.out)⟩
      · rw [if_neg c6] at H
        have c6b0 : decide (16 < a0) = false := decide_eq_false c6
        clear c6
        replace H := Option.bind_eq_some_iff.mp H
        obtain ⟨⟨t319, t322, t325, t326⟩, A80, H⟩ := H
        replace H : (spigotlaw13_ArenaOrder.l0 k a0 true t326 0 t319 t322 t325) = some true := H
        have A8 := Aside0.mk A80
        clear A80
        have H' := Aside0.mk H
        clear H
        go_enter Try.func5, Try.ntmps5
        go_wp2_with (first | ((with_reducible refine gate_callee (f := 22) rfl ?_); refine goesL_ (some 13) rfl rfl Try.func22 (by kernel_rfl) rfl #[] rfl (by (try simp only [List.map_toArray, List.map_cons, List.map_nil]); first | done | rfl | (simp only [List.length_drop, List.length_take]; rfl)) ?_; (with_reducible refine (spigotlaw13_alive.calls k   _ A2.out).mono ?_); rintro e w9 ⟨rfl, hb⟩; refine ⟨_, rfl, ?_⟩; have n0_ := Aside0.mk (below_step (by repeat (first | (with_reducible first | exact HB.out | apply below_alloc | apply pw_below_drewN | apply below_drew1) | exact HB.out)) hb); clear HB; have HB := n0_; clear n0_; (try clear hb); (try clear hb2); (try clear hk); (try clear hi)) | ((with_reducible refine gate_callee (f := 28) rfl ?_); refine goesL_ (some 27) rfl rfl Try.func28 (by kernel_rfl) rfl #[.int .i64 a0] rfl (by (try simp only [List.map_toArray, List.map_cons, List.map_nil]); first | done | rfl | (simp only [List.length_drop, List.length_take]; rfl)) ?_; (with_reducible refine (arena_New.calls k a0 t319 t322 t325 t326 _ A8.out).mono ?_); rintro e w10 ⟨v320, v323, rfl, ho0, ho1, hb⟩; refine ⟨_, rfl, ?_⟩; have n0_ := Aside0.mk (Kd.R_lower ho0 (below_size (by repeat (first | (with_reducible first | exact HB.out | apply below_alloc | apply pw_below_drewN | apply below_drew1) | exact HB.out)))); have n1_ := Aside0.mk (Kd.R_lower ho1 (below_size (by repeat (first | (with_reducible first | exact HB.out | apply below_alloc | apply pw_below_drewN | apply below_drew1) | exact HB.out)))); have n2_ := Aside0.mk (below_step (by repeat (first | (with_reducible first | exact HB.out | apply below_alloc | apply pw_below_drewN | apply below_drew1) | exact HB.out)) hb); clear HB; have HO321 := n0_; have HO324 := n1_; have HB := n2_; clear n0_ n1_ n2_; (try clear hb); (try clear hb2); (try clear hk); (try clear hi); (try clear ho0); (try clear ho1)) | ((with_reducible refine gate_dst (N := 4) rfl ?_); refine box_event ?hg (N := 4) ?hd (cs := #[.slice none 0 0, .slice none 0 0, .int .i64 0]) (t := 36) ?hr ?_; (case hd => rfl); (case hg => rfl); (case hr => first | (go_simp; done) | (go_simp; rfl)); intro gb327 hg w11 hbox hb; have n0_ := Aside0.mk (Kd.R_below (by (with_reducible repeat (first | apply Kd.R_alloc | apply Kd.R_drewN | apply Kd.R_drew)); exact HO321.out) hb); have n1_ := Aside0.mk (Kd.R_below (by (with_reducible repeat (first | apply Kd.R_alloc | apply Kd.R_drewN | apply Kd.R_drew)); exact HO324.out) hb); have n2_ := Aside0.mk (below_step (by repeat (first | (with_reducible first | exact HB.out | apply below_alloc | apply pw_below_drewN | apply below_drew1) | exact HB.out)) hb); have n3_ := Aside0.mk (hbox); have n4_ := Aside0.mk ((by rw [hg]; exact (below_size (by repeat (first | (with_reducible first | exact HB.out | apply below_alloc | apply pw_below_drewN | apply below_drew1) | exact HB.out))) : w.heap.size ≤ gb327)); have n5_ := Aside0.mk ((by rw [hg]; exact (below_size (by repeat (first | (with_reducible first | exact HB.out | apply below_alloc | apply pw_below_drewN | apply below_drew1) | exact HB.out))) : w.heap.size ≤ gb327)); clear HO321; clear HO324; clear HB; have HO321 := n0_; have HO324 := n1_; have HB := n2_; have BK327 := n3_; have GW327 := n4_; have GE327 := n5_; clear n0_ n1_ n2_ n3_ n4_ n5_; clear hb hbox hg; obtain ⟨Ao12, co12, eo12⟩ := Kd.R_slice HO321.out; subst eo12; have hcz13_0 : w11.cell? ⟨gb327, 0, none⟩ = some (.slice none 0 0) := (blk_cell BK327.out 0).trans rfl; have hcz13_1 : w11.cell? ⟨gb327, 1, none⟩ = some (.slice none 0 0) := (blk_cell BK327.out 1).trans rfl; have hcz13_2 : w11.cell? ⟨gb327, 2, none⟩ = some (.int .i64 0) := (blk_cell BK327.out 2).trans rfl; have hfz13_0 := blk_frozen BK327.out 0; have hfz13_1 := blk_frozen BK327.out 1; have hfz13_2 := blk_frozen BK327.out 2; obtain ⟨Ao14, co14, eo14⟩ := Kd.R_slice HO324.out; subst eo14))
        go_loopg [6] k (fun kq v6 w' => ∃ (x6_1 : Int) (x328000_1 : List Int) (x328001_1 : List Bool) (x328002_1 : Int) (u328000 : Value) (u328001 : Value), v6 = .int .i64 x6_1 ∧ Aside0 (spigotlaw13_ArenaOrder.l0 kq a0 true t326 x6_1 x328000_1 x328001_1 x328002_1 = some true) ∧ Aside0 (kq ≤ k) ∧ Aside0 (Kd.R (Kd.int .i64) 3 w' w.heap.size (fun _ => True) u328000 x328000_1) ∧ Aside0 (Kd.R Kd.bool 4 w' w.heap.size (fun _ => True) u328001 x328001_1) ∧ Aside0 (w'.heap[gb327]? = some (.cells #[u328000, u328001, .int .i64 x328002_1] 36 (0, 0))) ∧ Aside0 (Below w.heap.size w w'))
        case atStart => exact ⟨(0), (t319), (t322), (t325), (.slice Ao12 t319.length co12), (.slice Ao14 t322.length co14), (by first | rfl | (simp; done) | (simp [*]; done)), H', ⟨Nat.le_refl _⟩, ⟨by (with_reducible repeat (first | apply Kd.R_alloc | apply Kd.R_drewN | apply Kd.R_drew)); exact Kd.R_mono (Kd.R_far (p := ⟨gb327, 2, none⟩) (Kd.R_far (p := ⟨gb327, 1, none⟩) (Kd.R_far (p := ⟨gb327, 0, none⟩) (Kd.R_types HO321.out BK327.out (by decide)) (fun _ hk => hk.2) (.slice Ao12 t319.length co12)) (fun _ hk => hk.2) (.slice Ao14 t322.length co14)) (fun _ hk => hk.2) (.int .i64 t325)) (fun _ hk => trivial)⟩, ⟨by (with_reducible repeat (first | apply Kd.R_alloc | apply Kd.R_drewN | apply Kd.R_drew)); exact Kd.R_mono (Kd.R_far (p := ⟨gb327, 2, none⟩) (Kd.R_far (p := ⟨gb327, 1, none⟩) (Kd.R_far (p := ⟨gb327, 0, none⟩) (Kd.R_types HO324.out BK327.out (by decide)) (fun _ hk => hk.2) (.slice Ao12 t319.length co12)) (fun _ hk => hk.2) (.slice Ao14 t322.length co14)) (fun _ hk => hk.2) (.int .i64 t325)) (fun _ hk => trivial)⟩, ⟨by (with_reducible repeat (first | refine blk_drewN ?_ _ | refine blk_drew ?_ | refine blk_alloc ?_ _)); refine blk_put (cs := #[.slice Ao12 t319.length co12, .slice Ao14 t322.length co14, .int .i64 0]) ?_ 2 _ rfl; (with_reducible repeat (first | refine blk_drewN ?_ _ | refine blk_drew ?_ | refine blk_alloc ?_ _)); refine blk_put (cs := #[.slice Ao12 t319.length co12, .slice none 0 0, .int .i64 0]) ?_ 1 _ rfl; (with_reducible repeat (first | refine blk_drewN ?_ _ | refine blk_drew ?_ | refine blk_alloc ?_ _)); refine blk_put (cs := #[.slice none 0 0, .slice none 0 0, .int .i64 0]) ?_ 0 _ rfl; (with_reducible repeat (first | refine blk_drewN ?_ _ | refine blk_drew ?_ | refine blk_alloc ?_ _)); exact BK327.out⟩, ⟨by repeat (first | (with_reducible first | exact HB.out | apply below_alloc | apply pw_below_drewN | apply below_drew1 | refine below_set ?_ GE327.out) | exact HB.out)⟩⟩
        case round =>
          clear H'
          try clear c2
          try clear p2
          try clear c3
          try clear c4
          try clear c4b0
          try clear c5
          try clear c6
          try clear c6b0
          try clear hcz13_0
          try clear hcz13_1
          try clear hcz13_2
          try clear hfz13_0
          try clear hfz13_1
          try clear hfz13_2
          obtain ⟨x6_1, x328000_1, x328001_1, x328002_1, u328000, u328001, rfl, HA, HK1, HO_328000, HO_328001, BK327, HB⟩ := hrel
          cases gk with
          | zero => exact absurd HA.out (by simp [spigotlaw13_ArenaOrder.l0])
          | succ k1 =>
            have H := HA.out
            clear HA
            simp only [spigotlaw13_ArenaOrder.l0] at H
            by_cases c15 : x6_1 < a0
            · rw [if_pos c15] at H
              have c15b0 : decide (x6_1 < a0) = true := decide_eq_true c15
              clear c15
              replace H := Option.bind_eq_some_iff.mp H
              obtain ⟨⟨t328, t331, t334, t335, t336⟩, A160, H⟩ := H
              replace H : (if t336 = 0 then (if t335 = x6_1 then (spigotlaw13_ArenaOrder.l0 k1 a0 true t326 (wrap64 (x6_1 + 1)) t328 t331 t334) else (some false)) else (some false)) = some true := H
              have A16 := Aside0.mk A160
              clear A160
              by_cases c17 : t336 = 0
              · rw [if_pos c17] at H
                have c17b0 : (t336 == 0) = true := beq_iff_eq.mpr c17
                have c17b1 : (t336 != 0) = false := bne_eq_false_iff_eq.mpr c17
                clear c17
                by_cases c18 : t335 = x6_1
                · rw [if_pos c18] at H
                  have c18b0 : (t335 == x6_1) = true := beq_iff_eq.mpr c18
                  have c18b1 : (t335 != x6_1) = false := bne_eq_false_iff_eq.mpr c18
                  clear c18
                  have H' := Aside0.mk H
                  clear H
                  have hcz19_0 : wr.cell? ⟨gb327, 0, none⟩ = some (u328000) := (blk_cell BK327.out 0).trans rfl
                  have hcz19_1 : wr.cell? ⟨gb327, 1, none⟩ = some (u328001) := (blk_cell BK327.out 1).trans rfl
                  have hcz19_2 : wr.cell? ⟨gb327, 2, none⟩ = some (.int .i64 x328002_1) := (blk_cell BK327.out 2).trans rfl
                  have hfz19_0 := blk_frozen BK327.out 0
                  have hfz19_1 := blk_frozen BK327.out 1
                  have hfz19_2 := blk_frozen BK327.out 2
                  obtain ⟨Ao20, co20, eo20⟩ := Kd.R_slice HO_328000.out
                  subst eo20
                  obtain ⟨Ao21, co21, eo21⟩ := Kd.R_slice HO_328001.out
                  subst eo21
                  go_wp2_with (first | ((with_reducible refine gate_callee (f := 25) rfl ?_); refine goesL_ (some 37) rfl rfl Try.func25 (by kernel_rfl) rfl #[.agg #[.slice Ao20 x328000_1.length co20, .slice Ao21 x328001_1.length co21, .int .i64 x328002_1]] rfl (by (try simp only [List.map_toArray, List.map_cons, List.map_nil]); first | done | rfl | (simp only [List.length_drop, List.length_take]; rfl)) ?_; (with_reducible refine (arena_Take.calls k1 _ _ x328000_1 _ _ x328001_1 x328002_1 t328 t331 t334 t335 t336 _ ?side1 ?side2 ?side3 ?side4 A16.out).mono ?_); (case side1 => repeat (first | exact (Kd.R_reads' HO_328000.out).2.2 | (with_reducible refine Kd.C_alloc ?_ _) | (with_reducible refine Kd.C_drewN ?_ _) | (with_reducible refine Kd.C_drew ?_))); (case side2 => exact (Kd.R_reads' HO_328000.out).2.1); (case side3 => repeat (first | exact (Kd.R_reads' HO_328001.out).2.2 | (with_reducible refine Kd.C_alloc ?_ _) | (with_reducible refine Kd.C_drewN ?_ _) | (with_reducible refine Kd.C_drew ?_))); (case side4 => exact (Kd.R_reads' HO_328001.out).2.1); rintro e w22 ⟨v329, v332, rfl, ho0, ho1, hb⟩; refine ⟨_, rfl, ?_⟩; have n0_ := Aside0.mk (Kd.R_elder' (by (with_reducible repeat (first | apply Kd.R_alloc | apply Kd.R_drewN | apply Kd.R_drew)); exact HO_328000.out) (Kd.R_base ho0) hb); have n1_ := Aside0.mk (Kd.R_elder' (by (with_reducible repeat (first | apply Kd.R_alloc | apply Kd.R_drewN | apply Kd.R_drew)); exact HO_328001.out) (Kd.R_base ho1) hb); have n2_ := Aside0.mk (Kd.R_lower (Kd.R_new' ho0 (Kd.R_lt (by (with_reducible repeat (first | apply Kd.R_alloc | apply Kd.R_drewN | apply Kd.R_drew)); exact HO_328000.out))) (below_size (by repeat (first | (with_reducible first | exact HB.out | apply below_alloc | apply pw_below_drewN | apply below_drew1 | refine below_set ?_ GE327.out) | exact HB.out)))); have n3_ := Aside0.mk (Kd.R_lower (Kd.R_new' ho1 (Kd.R_lt (by (with_reducible repeat (first | apply Kd.R_alloc | apply Kd.R_drewN | apply Kd.R_drew)); exact HO_328001.out))) (below_size (by repeat (first | (with_reducible first | exact HB.out | apply below_alloc | apply pw_below_drewN | apply below_drew1 | refine below_set ?_ GE327.out) | exact HB.out)))); have n4_ := Aside0.mk (blk_below (g := gb327) (o := .cells #[.slice Ao20 x328000_1.length co20, .slice Ao21 x328001_1.length co21, .int .i64 x328002_1] 36 (0, 0)) (by (with_reducible repeat (first | refine blk_drewN ?_ _ | refine blk_drew ?_ | refine blk_alloc ?_ _)); exact BK327.out) hb); have n5_ := Aside0.mk (below_step (by repeat (first | (with_reducible first | exact HB.out | apply below_alloc | apply pw_below_drewN | apply below_drew1 | refine below_set ?_ GE327.out) | exact HB.out)) hb); clear HO_328000; clear HO_328001; clear BK327; clear HB; have HO_328000 := n0_; have HO_328001 := n1_; have HO330 := n2_; have HO333 := n3_; have BK327 := n4_; have HB := n5_; clear n0_ n1_ n2_ n3_ n4_ n5_; (try clear hb); (try clear hb2); (try clear hk); (try clear hi); (try clear ho0); (try clear ho1)) | ((with_reducible refine gate_dst (N := 7) rfl ?_); refine box_event ?hg (N := 7) ?hd (cs := #[.slice none 0 0, .slice none 0 0, .int .i64 0]) (t := 36) ?hr ?_; (case hd => rfl); (case hg => rfl); (case hr => first | (go_simp; done) | (go_simp; rfl)); intro gb337 hg w23 hbox hb; have n0_ := Aside0.mk (Kd.R_below (by (with_reducible repeat (first | apply Kd.R_alloc | apply Kd.R_drewN | apply Kd.R_drew)); exact HO_328000.out) hb); have n1_ := Aside0.mk (Kd.R_below (by (with_reducible repeat (first | apply Kd.R_alloc | apply Kd.R_drewN | apply Kd.R_drew)); exact HO_328001.out) hb); have n2_ := Aside0.mk (Kd.R_below (by (with_reducible repeat (first | apply Kd.R_alloc | apply Kd.R_drewN | apply Kd.R_drew)); exact HO330.out) hb); have n3_ := Aside0.mk (Kd.R_below (by (with_reducible repeat (first | apply Kd.R_alloc | apply Kd.R_drewN | apply Kd.R_drew)); exact HO333.out) hb); have n4_ := Aside0.mk (blk_below (g := gb327) (o := .cells #[.slice Ao20 x328000_1.length co20, .slice Ao21 x328001_1.length co21, .int .i64 x328002_1] 36 (0, 0)) (by (with_reducible repeat (first | refine blk_drewN ?_ _ | refine blk_drew ?_ | refine blk_alloc ?_ _)); exact BK327.out) hb); have n5_ := Aside0.mk (below_step (by repeat (first | (with_reducible first | exact HB.out | apply below_alloc | apply pw_below_drewN | apply below_drew1 | refine below_set ?_ GE327.out) | exact HB.out)) hb); have n6_ := Aside0.mk (hbox); have n7_ := Aside0.mk ((by rw [hg]; exact (below_size (by repeat (first | (with_reducible first | exact HB.out | apply below_alloc | apply pw_below_drewN | apply below_drew1 | refine below_set ?_ GE327.out) | exact HB.out))) : w.heap.size ≤ gb337)); have n8_ := Aside0.mk ((by rw [hg]; exact (below_size (by repeat (first | (with_reducible first | exact HB.out | apply below_alloc | apply pw_below_drewN | apply below_drew1 | refine below_set ?_ GE327.out) | exact HB.out))) : w.heap.size ≤ gb337)); have n9_ := Aside0.mk ((by rw [hg]; exact Nat.ne_of_lt (blk_lt (g := gb327) (o := .cells #[.slice Ao20 x328000_1.length co20, .slice Ao21 x328001_1.length co21, .int .i64 x328002_1] 36 (0, 0)) (by (with_reducible repeat (first | refine blk_drewN ?_ _ | refine blk_drew ?_ | refine blk_alloc ?_ _)); exact BK327.out)) : gb327 ≠ gb337)); have n10_ := Aside0.mk ((by rw [hg]; exact Nat.ne_of_gt (blk_lt (g := gb327) (o := .cells #[.slice Ao20 x328000_1.length co20, .slice Ao21 x328001_1.length co21, .int .i64 x328002_1] 36 (0, 0)) (by (with_reducible repeat (first | refine blk_drewN ?_ _ | refine blk_drew ?_ | refine blk_alloc ?_ _)); exact BK327.out)) : gb337 ≠ gb327)); clear HO_328000; clear HO_328001; clear HO330; clear HO333; clear BK327; clear HB; have HO_328000 := n0_; have HO_328001 := n1_; have HO330 := n2_; have HO333 := n3_; have BK327 := n4_; have HB := n5_; have BK337 := n6_; have GW337 := n7_; have GE337 := n8_; have NB327_337 := n9_; have NB337_327 := n10_; clear n0_ n1_ n2_ n3_ n4_ n5_ n6_ n7_ n8_ n9_ n10_; clear hb hbox hg; obtain ⟨Ao24, co24, eo24⟩ := Kd.R_slice HO330.out; subst eo24; have hnb25 := NB337_327.out; have hnc25 := NB327_337.out; have hcz26_0 : w23.cell? ⟨gb337, 0, none⟩ = some (.slice none 0 0) := (blk_cell BK337.out 0).trans rfl; have hcz26_1 : w23.cell? ⟨gb337, 1, none⟩ = some (.slice none 0 0) := (blk_cell BK337.out 1).trans rfl; have hcz26_2 : w23.cell? ⟨gb337, 2, none⟩ = some (.int .i64 0) := (blk_cell BK337.out 2).trans rfl; have hfz26_0 := blk_frozen BK337.out 0; have hfz26_1 := blk_frozen BK337.out 1; have hfz26_2 := blk_frozen BK337.out 2; obtain ⟨Ao27, co27, eo27⟩ := Kd.R_slice HO333.out; subst eo27; have hcz28_0 : w23.cell? ⟨gb327, 0, none⟩ = some (.slice Ao20 x328000_1.length co20) := (blk_cell BK327.out 0).trans rfl; have hcz28_1 : w23.cell? ⟨gb327, 1, none⟩ = some (.slice Ao21 x328001_1.length co21) := (blk_cell BK327.out 1).trans rfl; have hcz28_2 : w23.cell? ⟨gb327, 2, none⟩ = some (.int .i64 x328002_1) := (blk_cell BK327.out 2).trans rfl; have hfz28_0 := blk_frozen BK327.out 0; have hfz28_1 := blk_frozen BK327.out 1; have hfz28_2 := blk_frozen BK327.out 2))
                  go_roundg k1
                  case measure => have := HK1.out; omega
                  case rel => exact ⟨(wrap64 (x6_1 + 1)), (t328), (t331), (t334), (.slice Ao24 t328.length co24), (.slice Ao27 t331.length co27), (by first | rfl | (simp; done) | (simp [*]; done)), H', ⟨by have := HK1.out; omega⟩, ⟨by (with_reducible repeat (first | apply Kd.R_alloc | apply Kd.R_drewN | apply Kd.R_drew)); exact Kd.R_mono (Kd.R_far (p := ⟨gb327, 2, none⟩) (Kd.R_far (p := ⟨gb327, 1, none⟩) (Kd.R_far (p := ⟨gb327, 0, none⟩) (Kd.R_far (p := ⟨gb337, 2, none⟩) (Kd.R_far (p := ⟨gb337, 1, none⟩) (Kd.R_far (p := ⟨gb337, 0, none⟩) (Kd.R_types (Kd.R_types HO330.out BK337.out (by decide)) BK327.out (by decide)) (fun _ hk => hk.1.2) (.slice Ao24 t328.length co24)) (fun _ hk => hk.1.2) (.slice Ao27 t331.length co27)) (fun _ hk => hk.1.2) (.int .i64 t334)) (fun _ hk => hk.2) (.slice Ao24 t328.length co24)) (fun _ hk => hk.2) (.slice Ao27 t331.length co27)) (fun _ hk => hk.2) (.int .i64 t334)) (fun _ hk => trivial)⟩, ⟨by (with_reducible repeat (first | apply Kd.R_alloc | apply Kd.R_drewN | apply Kd.R_drew)); exact Kd.R_mono (Kd.R_far (p := ⟨gb327, 2, none⟩) (Kd.R_far (p := ⟨gb327, 1, none⟩) (Kd.R_far (p := ⟨gb327, 0, none⟩) (Kd.R_far (p := ⟨gb337, 2, none⟩) (Kd.R_far (p := ⟨gb337, 1, none⟩) (Kd.R_far (p := ⟨gb337, 0, none⟩) (Kd.R_types (Kd.R_types HO333.out BK337.out (by decide)) BK327.out (by decide)) (fun _ hk => hk.1.2) (.slice Ao24 t328.length co24)) (fun _ hk => hk.1.2) (.slice Ao27 t331.length co27)) (fun _ hk => hk.1.2) (.int .i64 t334)) (fun _ hk => hk.2) (.slice Ao24 t328.length co24)) (fun _ hk => hk.2) (.slice Ao27 t331.length co27)) (fun _ hk => hk.2) (.int .i64 t334)) (fun _ hk => trivial)⟩, ⟨by (with_reducible repeat (first | refine blk_drewN ?_ _ | refine blk_drew ?_ | refine blk_alloc ?_ _)); refine blk_put (cs := #[.slice Ao24 t328.length co24, .slice Ao27 t331.length co27, .int .i64 x328002_1]) ?_ 2 _ rfl; (with_reducible repeat (first | refine blk_drewN ?_ _ | refine blk_drew ?_ | refine blk_alloc ?_ _)); refine blk_put (cs := #[.slice Ao24 t328.length co24, .slice Ao21 x328001_1.length co21, .int .i64 x328002_1]) ?_ 1 _ rfl; (with_reducible repeat (first | refine blk_drewN ?_ _ | refine blk_drew ?_ | refine blk_alloc ?_ _)); refine blk_put (cs := #[.slice Ao20 x328000_1.length co20, .slice Ao21 x328001_1.length co21, .int .i64 x328002_1]) ?_ 0 _ rfl; (with_reducible repeat (first | refine blk_drewN ?_ _ | refine blk_drew ?_ | refine blk_alloc ?_ _)); refine blk_far ?_ NB327_337.out _; (with_reducible repeat (first | refine blk_drewN ?_ _ | refine blk_drew ?_ | refine blk_alloc ?_ _)); refine blk_far ?_ NB327_337.out _; (with_reducible repeat (first | refine blk_drewN ?_ _ | refine blk_drew ?_ | refine blk_alloc ?_ _)); refine blk_far ?_ NB327_337.out _; (with_reducible repeat (first | refine blk_drewN ?_ _ | refine blk_drew ?_ | refine blk_alloc ?_ _)); exact BK327.out⟩, ⟨by repeat (first | (with_reducible first | exact HB.out | apply below_alloc | apply pw_below_drewN | apply below_drew1 | refine below_set ?_ GE327.out | refine below_set ?_ GE337.out) | exact HB.out)⟩⟩
                · rw [if_neg c18] at H
                  have c18b0 : (t335 == x6_1) = false := beq_eq_false_iff_ne.mpr c18
                  have c18b1 : (t335 != x6_1) = true := bne_iff_ne.mpr c18
                  exact absurd H (by simp)
              · rw [if_neg c17] at H
                have c17b0 : (t336 == 0) = false := beq_eq_false_iff_ne.mpr c17
                have c17b1 : (t336 != 0) = true := bne_iff_ne.mpr c17
                exact absurd H (by simp)
            · rw [if_neg c15] at H
              have c15b0 : decide (x6_1 < a0) = false := decide_eq_false c15
              clear c15
              replace H := Option.bind_eq_some_iff.mp H
              obtain ⟨⟨t338, t341, t344, t345, t346⟩, A290, H⟩ := H
              replace H : (if true = true then (if t326 = 0 then (some (t346 == 18)) else (some false)) else (some false)) = some true := H
              have A29 := Aside0.mk A290
              clear A290
              replace H : (if t326 = 0 then (some (t346 == 18)) else (some false)) = some true := by rw [if_pos rfl] at H; exact H
              by_cases c30 : t326 = 0
              · rw [if_pos c30] at H
                have c30b0 : (t326 == 0) = true := beq_iff_eq.mpr c30
                have c30b1 : (t326 != 0) = false := bne_eq_false_iff_eq.mpr c30
                clear c30
                have HRT := Aside0.mk (Option.some.inj H)
                clear H
                have hcz31_0 : wr.cell? ⟨gb327, 0, none⟩ = some (u328000) := (blk_cell BK327.out 0).trans rfl
                have hcz31_1 : wr.cell? ⟨gb327, 1, none⟩ = some (u328001) := (blk_cell BK327.out 1).trans rfl
                have hcz31_2 : wr.cell? ⟨gb327, 2, none⟩ = some (.int .i64 x328002_1) := (blk_cell BK327.out 2).trans rfl
                have hfz31_0 := blk_frozen BK327.out 0
                have hfz31_1 := blk_frozen BK327.out 1
                have hfz31_2 := blk_frozen BK327.out 2
                obtain ⟨Ao32, co32, eo32⟩ := Kd.R_slice HO_328000.out
                subst eo32
                obtain ⟨Ao33, co33, eo33⟩ := Kd.R_slice HO_328001.out
                subst eo33
                go_wp2_with (first | ((with_reducible refine gate_callee (f := 25) rfl ?_); refine goesL_ (some 51) rfl rfl Try.func25 (by kernel_rfl) rfl #[.agg #[.slice Ao32 x328000_1.length co32, .slice Ao33 x328001_1.length co33, .int .i64 x328002_1]] rfl (by (try simp only [List.map_toArray, List.map_cons, List.map_nil]); first | done | rfl | (simp only [List.length_drop, List.length_take]; rfl)) ?_; (with_reducible refine (arena_Take.calls k1 _ _ x328000_1 _ _ x328001_1 x328002_1 t338 t341 t344 t345 t346 _ ?side1 ?side2 ?side3 ?side4 A29.out).mono ?_); (case side1 => repeat (first | exact (Kd.R_reads' HO_328000.out).2.2 | (with_reducible refine Kd.C_alloc ?_ _) | (with_reducible refine Kd.C_drewN ?_ _) | (with_reducible refine Kd.C_drew ?_))); (case side2 => exact (Kd.R_reads' HO_328000.out).2.1); (case side3 => repeat (first | exact (Kd.R_reads' HO_328001.out).2.2 | (with_reducible refine Kd.C_alloc ?_ _) | (with_reducible refine Kd.C_drewN ?_ _) | (with_reducible refine Kd.C_drew ?_))); (case side4 => exact (Kd.R_reads' HO_328001.out).2.1); rintro e w34 ⟨v339, v342, rfl, ho0, ho1, hb⟩; refine ⟨_, rfl, ?_⟩; have n0_ := Aside0.mk (Kd.R_elder' (by (with_reducible repeat (first | apply Kd.R_alloc | apply Kd.R_drewN | apply Kd.R_drew)); exact HO_328000.out) (Kd.R_base ho0) hb); have n1_ := Aside0.mk (Kd.R_elder' (by (with_reducible repeat (first | apply Kd.R_alloc | apply Kd.R_drewN | apply Kd.R_drew)); exact HO_328001.out) (Kd.R_base ho1) hb); have n2_ := Aside0.mk (Kd.R_lower (Kd.R_new' ho0 (Kd.R_lt (by (with_reducible repeat (first | apply Kd.R_alloc | apply Kd.R_drewN | apply Kd.R_drew)); exact HO_328000.out))) (below_size (by repeat (first | (with_reducible first | exact HB.out | apply below_alloc | apply pw_below_drewN | apply below_drew1 | refine below_set ?_ GE327.out) | exact HB.out)))); have n3_ := Aside0.mk (Kd.R_lower (Kd.R_new' ho1 (Kd.R_lt (by (with_reducible repeat (first | apply Kd.R_alloc | apply Kd.R_drewN | apply Kd.R_drew)); exact HO_328001.out))) (below_size (by repeat (first | (with_reducible first | exact HB.out | apply below_alloc | apply pw_below_drewN | apply below_drew1 | refine below_set ?_ GE327.out) | exact HB.out)))); have n4_ := Aside0.mk (blk_below (g := gb327) (o := .cells #[.slice Ao32 x328000_1.length co32, .slice Ao33 x328001_1.length co33, .int .i64 x328002_1] 36 (0, 0)) (by (with_reducible repeat (first | refine blk_drewN ?_ _ | refine blk_drew ?_ | refine blk_alloc ?_ _)); exact BK327.out) hb); have n5_ := Aside0.mk (below_step (by repeat (first | (with_reducible first | exact HB.out | apply below_alloc | apply pw_below_drewN | apply below_drew1 | refine below_set ?_ GE327.out) | exact HB.out)) hb); clear HO_328000; clear HO_328001; clear BK327; clear HB; have HO_328000 := n0_; have HO_328001 := n1_; have HO340 := n2_; have HO343 := n3_; have BK327 := n4_; have HB := n5_; clear n0_ n1_ n2_ n3_ n4_ n5_; (try clear hb); (try clear hb2); (try clear hk); (try clear hi); (try clear ho0); (try clear ho1)) | ((with_reducible refine gate_dst (N := 10) rfl ?_); refine box_event ?hg (N := 10) ?hd (cs := #[.slice none 0 0, .slice none 0 0, .int .i64 0]) (t := 36) ?hr ?_; (case hd => rfl); (case hg => rfl); (case hr => first | (go_simp; done) | (go_simp; rfl)); intro gb347 hg w35 hbox hb; have n0_ := Aside0.mk (Kd.R_below (by (with_reducible repeat (first | apply Kd.R_alloc | apply Kd.R_drewN | apply Kd.R_drew)); exact HO_328000.out) hb); have n1_ := Aside0.mk (Kd.R_below (by (with_reducible repeat (first | apply Kd.R_alloc | apply Kd.R_drewN | apply Kd.R_drew)); exact HO_328001.out) hb); have n2_ := Aside0.mk (Kd.R_below (by (with_reducible repeat (first | apply Kd.R_alloc | apply Kd.R_drewN | apply Kd.R_drew)); exact HO340.out) hb); have n3_ := Aside0.mk (Kd.R_below (by (with_reducible repeat (first | apply Kd.R_alloc | apply Kd.R_drewN | apply Kd.R_drew)); exact HO343.out) hb); have n4_ := Aside0.mk (blk_below (g := gb327) (o := .cells #[.slice Ao32 x328000_1.length co32, .slice Ao33 x328001_1.length co33, .int .i64 x328002_1] 36 (0, 0)) (by (with_reducible repeat (first | refine blk_drewN ?_ _ | refine blk_drew ?_ | refine blk_alloc ?_ _)); exact BK327.out) hb); have n5_ := Aside0.mk (below_step (by repeat (first | (with_reducible first | exact HB.out | apply below_alloc | apply pw_below_drewN | apply below_drew1 | refine below_set ?_ GE327.out) | exact HB.out)) hb); have n6_ := Aside0.mk (hbox); have n7_ := Aside0.mk ((by rw [hg]; exact (below_size (by repeat (first | (with_reducible first | exact HB.out | apply below_alloc | apply pw_below_drewN | apply below_drew1 | refine below_set ?_ GE327.out) | exact HB.out))) : w.heap.size ≤ gb347)); have n8_ := Aside0.mk ((by rw [hg]; exact (below_size (by repeat (first | (with_reducible first | exact HB.out | apply below_alloc | apply pw_below_drewN | apply below_drew1 | refine below_set ?_ GE327.out) | exact HB.out))) : w.heap.size ≤ gb347)); have n9_ := Aside0.mk ((by rw [hg]; exact Nat.ne_of_lt (blk_lt (g := gb327) (o := .cells #[.slice Ao32 x328000_1.length co32, .slice Ao33 x328001_1.length co33, .int .i64 x328002_1] 36 (0, 0)) (by (with_reducible repeat (first | refine blk_drewN ?_ _ | refine blk_drew ?_ | refine blk_alloc ?_ _)); exact BK327.out)) : gb327 ≠ gb347)); have n10_ := Aside0.mk ((by rw [hg]; exact Nat.ne_of_gt (blk_lt (g := gb327) (o := .cells #[.slice Ao32 x328000_1.length co32, .slice Ao33 x328001_1.length co33, .int .i64 x328002_1] 36 (0, 0)) (by (with_reducible repeat (first | refine blk_drewN ?_ _ | refine blk_drew ?_ | refine blk_alloc ?_ _)); exact BK327.out)) : gb347 ≠ gb327)); clear HO_328000; clear HO_328001; clear HO340; clear HO343; clear BK327; clear HB; have HO_328000 := n0_; have HO_328001 := n1_; have HO340 := n2_; have HO343 := n3_; have BK327 := n4_; have HB := n5_; have BK347 := n6_; have GW347 := n7_; have GE347 := n8_; have NB327_347 := n9_; have NB347_327 := n10_; clear n0_ n1_ n2_ n3_ n4_ n5_ n6_ n7_ n8_ n9_ n10_; clear hb hbox hg; obtain ⟨Ao36, co36, eo36⟩ := Kd.R_slice HO340.out; subst eo36; have hnb37 := NB347_327.out; have hnc37 := NB327_347.out; have hcz38_0 : w35.cell? ⟨gb347, 0, none⟩ = some (.slice none 0 0) := (blk_cell BK347.out 0).trans rfl; have hcz38_1 : w35.cell? ⟨gb347, 1, none⟩ = some (.slice none 0 0) := (blk_cell BK347.out 1).trans rfl; have hcz38_2 : w35.cell? ⟨gb347, 2, none⟩ = some (.int .i64 0) := (blk_cell BK347.out 2).trans rfl; have hfz38_0 := blk_frozen BK347.out 0; have hfz38_1 := blk_frozen BK347.out 1; have hfz38_2 := blk_frozen BK347.out 2; obtain ⟨Ao39, co39, eo39⟩ := Kd.R_slice HO343.out; subst eo39))
                go_ret
                exact ⟨by first | rfl | (simp [errW_none, errW_some] <;> rfl) | (simp [*, errW_none, errW_some] <;> rfl) | (rw [HRT.out] <;> rfl) | (simp [HRT.out]; done) | (have h_ := HRT.out; simp [*] at h_ ⊢ <;> first | done | assumption | omega) | (have h_ := HRT.out; simp [*] at h_; done), by repeat (first | (with_reducible first | exact HB.out | apply below_alloc | apply pw_below_drewN | apply below_drew1 | refine below_set ?_ GE327.out | refine below_set ?_ GE347.out) | exact HB.out)⟩
              · rw [if_neg c30] at H
                have c30b0 : (t326 == 0) = false := beq_eq_false_iff_ne.mpr c30
                have c30b1 : (t326 != 0) = true := bne_iff_ne.mpr c30
                exact absurd H (by simp)
  · replace c3 := Bool.eq_false_iff.mpr c3
    subst c3
    have H1 : (none) = some true := by rw [if_neg (show ¬ (false = true) by decide)] at H; exact H
    clear H
    have H := H1
    clear H1
    exact absurd H (by simp)

/-- THE ONE PURE STATEMENT of spigotlaw13_ArenaOrder. -/
def spigotlaw13_ArenaOrder.Pure : Prop := ∀ (a0 : Int), ((Lit.int .i64 a0).wf = true) → ∃ k, spigotlaw13_ArenaOrder.f k a0 = some true

end Go.Proofs.Ytlgfopdindklnaa.PArena
