-- printed by a program of this session (a turned copy of the kit's print); Lean checks it
import Derived.Test.YtlgfopdindklnaaPProbex0
import Derived.Test.YtlgfopdindklnaaPProbex1
import Derived.Test.YtlgfopdindklnaaPProbex2
namespace Go.Proofs.Ytlgfopdindklnaa.PProbe
open Go.RowKit Go.Proofs.YtlgfopdindklnaaW.PrintWords Go.Proofs.YtlgfopdindklnaaW.PrintLast Go.Proofs.YtlgfopdindklnaaW.PrintMore
attribute [local go_sem] max2_int min2_int max_two min_two max_three min_three max_four min_four   -- for this text's walks alone
set_option linter.unusedVariables false
set_option linter.unusedSimpArgs false

attribute [local go_sem high] eqA71
/-! ### probe_Check: function 20 -/
mutual
def probe_Check.l0 : Nat → List (S71) → Int → List (S71) → Int → Int → Option (Int)
  | 0, _, _, _, _, _ => none
  | k + 1, x0, x3, x13, x14, x15 => if x15 < x14 then (if 0 ≤ x15 then (if x15 < (x13.length : Int) then (if (rd_T71 x13 x15).f2 = true then (probe_Check.l0 k x0 (wrap64 (x3 + 1)) x13 x14 (wrap64 (x15 + 1))) else (probe_Check.l0 k x0 x3 x13 x14 (wrap64 (x15 + 1)))) else (none)) else (none)) else (if x3 > 12 then (some 8) else (probe_Check.l1 k x0 0))
def probe_Check.l1 : Nat → List (S71) → Int → Option (Int)
  | 0, _, _ => none
  | k + 1, x0, x26 => if x26 < 16 then (if 0 ≤ x26 then (if x26 < (x0.length : Int) then (if ((rd_T71 x0 x26).f2 = true) then (if (rd_T71 x0 x26).f2 = true then (if ((rd_T71 x0 x26).f1) < 0 then (probe_Check.j2 k x0 x26 x26 true ((rd_T71 x0 x26).f0) ((rd_T71 x0 x26).f1) ((rd_T71 x0 x26).f2)) else (probe_Check.j2 k x0 x26 x26 (decide (((rd_T71 x0 x26).f1) ≥ 16)) ((rd_T71 x0 x26).f0) ((rd_T71 x0 x26).f1) ((rd_T71 x0 x26).f2))) else (probe_Check.j2 k x0 x26 x26 false ((rd_T71 x0 x26).f0) ((rd_T71 x0 x26).f1) ((rd_T71 x0 x26).f2))) else (if (!(((rd_T71 x0 x26).f0) == 0) || (!(((rd_T71 x0 x26).f1) == 0) || (((rd_T71 x0 x26).f2)))) = true then (probe_Check.j2 k x0 x26 x26 true ((rd_T71 x0 x26).f0) ((rd_T71 x0 x26).f1) ((rd_T71 x0 x26).f2)) else (if (rd_T71 x0 x26).f2 = true then (if ((rd_T71 x0 x26).f1) < 0 then (probe_Check.j2 k x0 x26 x26 true ((rd_T71 x0 x26).f0) ((rd_T71 x0 x26).f1) ((rd_T71 x0 x26).f2)) else (probe_Check.j2 k x0 x26 x26 (decide (((rd_T71 x0 x26).f1) ≥ 16)) ((rd_T71 x0 x26).f0) ((rd_T71 x0 x26).f1) ((rd_T71 x0 x26).f2))) else (probe_Check.j2 k x0 x26 x26 false ((rd_T71 x0 x26).f0) ((rd_T71 x0 x26).f1) ((rd_T71 x0 x26).f2))))) else (none)) else (none)) else (some 0)
def probe_Check.j2 : Nat → List (S71) → Int → Int → Bool → Int → Int → Bool → Option (Int)
  | 0, _, _, _, _, _, _, _ => none
  | k + 1, x0, x6, x26, x54, x109000, x109001, x109002 => if x54 = true then (some 8) else ((probe_look.f k x0 x109000).bind fun bt109 => (if x109002 = true then (if bt109.1 = x6 then (probe_Check.l1 k x0 (wrap64 (x26 + 1))) else (some 8)) else (probe_Check.l1 k x0 (wrap64 (x26 + 1)))))
end
def probe_Check.f (k : Nat) (l0 : List (S71)) : Option (Int) := if (l0.length : Int) = 16 then (probe_Check.l0 k l0 0 l0 (l0.length : Int) 0) else (some 8)
theorem probe_Check.mono_l : ∀ k, (∀ y0 y1 y2 y3 y4, LeO (probe_Check.l0 k y0 y1 y2 y3 y4) (probe_Check.l0 (k + 1) y0 y1 y2 y3 y4)) ∧ (∀ y0 y1, LeO (probe_Check.l1 k y0 y1) (probe_Check.l1 (k + 1) y0 y1)) ∧ (∀ y0 y1 y2 y3 y4 y5 y6, LeO (probe_Check.j2 k y0 y1 y2 y3 y4 y5 y6) (probe_Check.j2 (k + 1) y0 y1 y2 y3 y4 y5 y6))
  | 0 => ⟨fun _ _ _ _ _ r h => by simp [probe_Check.l0] at h, fun _ _ r h => by simp [probe_Check.l1] at h, fun _ _ _ _ _ _ _ r h => by simp [probe_Check.j2] at h⟩
  | k + 1 => by
    obtain ⟨ih0, ih1, ih2⟩ := probe_Check.mono_l k
    refine ⟨?_, ?_, ?_⟩
    · intro y0 y1 y2 y3 y4
      unfold probe_Check.l0
      repeat' first
      | (with_reducible exact ih0 _ _ _ _ _)
      | (with_reducible exact ih1 _ _)
      | (with_reducible exact ih2 _ _ _ _ _ _ _)
      | (with_reducible exact probe_look.mono _ _ _)
      | (with_reducible exact LeO.refl _)
      | (with_reducible exact LeO.none _)
      | (with_reducible refine LeO.ite ?_ ?_)
      | (with_reducible refine LeO.bind ?_ (fun _ => ?_))
      | exact ih0 _ _ _ _ _
      | exact ih1 _ _
      | exact ih2 _ _ _ _ _ _ _
      | exact probe_look.mono _ _ _
      | exact LeO.none _
      | refine LeO.ite ?_ ?_
      | refine LeO.bind ?_ (fun _ => ?_)
    · intro y0 y1
      unfold probe_Check.l1
      repeat' first
      | (with_reducible exact ih0 _ _ _ _ _)
      | (with_reducible exact ih1 _ _)
      | (with_reducible exact ih2 _ _ _ _ _ _ _)
      | (with_reducible exact probe_look.mono _ _ _)
      | (with_reducible exact LeO.refl _)
      | (with_reducible exact LeO.none _)
      | (with_reducible refine LeO.ite ?_ ?_)
      | (with_reducible refine LeO.bind ?_ (fun _ => ?_))
      | exact ih0 _ _ _ _ _
      | exact ih1 _ _
      | exact ih2 _ _ _ _ _ _ _
      | exact probe_look.mono _ _ _
      | exact LeO.none _
      | refine LeO.ite ?_ ?_
      | refine LeO.bind ?_ (fun _ => ?_)
    · intro y0 y1 y2 y3 y4 y5 y6
      unfold probe_Check.j2
      repeat' first
      | (with_reducible exact ih0 _ _ _ _ _)
      | (with_reducible exact ih1 _ _)
      | (with_reducible exact ih2 _ _ _ _ _ _ _)
      | (with_reducible exact probe_look.mono _ _ _)
      | (with_reducible exact LeO.refl _)
      | (with_reducible exact LeO.none _)
      | (with_reducible refine LeO.ite ?_ ?_)
      | (with_reducible refine LeO.bind ?_ (fun _ => ?_))
      | exact ih0 _ _ _ _ _
      | exact ih1 _ _
      | exact ih2 _ _ _ _ _ _ _
      | exact probe_look.mono _ _ _
      | exact LeO.none _
      | refine LeO.ite ?_ ?_
      | refine LeO.bind ?_ (fun _ => ?_)
theorem probe_Check.mono : ∀ a0 k, LeO (probe_Check.f k a0) (probe_Check.f (k + 1) a0) := by
  intro a0 k
  obtain ⟨ih0, ih1, ih2⟩ := probe_Check.mono_l k
  unfold probe_Check.f
  repeat' first
      | (with_reducible exact ih0 _ _ _ _ _)
      | (with_reducible exact ih1 _ _)
      | (with_reducible exact ih2 _ _ _ _ _ _ _)
      | (with_reducible exact probe_look.mono _ _ _)
      | (with_reducible exact LeO.refl _)
      | (with_reducible exact LeO.none _)
      | (with_reducible refine LeO.ite ?_ ?_)
      | (with_reducible refine LeO.bind ?_ (fun _ => ?_))
      | exact ih0 _ _ _ _ _
      | exact ih1 _ _
      | exact ih2 _ _ _ _ _ _ _
      | exact probe_look.mono _ _ _
      | exact LeO.none _
      | refine LeO.ite ?_ ?_
      | refine LeO.bind ?_ (fun _ => ?_)
set_option maxHeartbeats 8000000 in
set_option maxRecDepth 100000 in
theorem probe_Check.calls (k : Nat) (A0 : Option Addr) (c0 : Nat) (l0 : List (S71)) (r : Int) (w : World) (hr0 : Kd.C k71 w A0 l0.length l0) (hc0 : l0.length ≤ c0) (h : probe_Check.f k l0 = some r) :
    Calls Try.prog 20 #[.slice A0 l0.length c0] w fun e w' => e = .returned (.int .i64 r) ∧ Below w.heap.size w w' := by
  have hu71 := Try.underlying71
  have HR0 := Aside0.mk hr0
  have HC0 := Aside0.mk hc0
  clear hr0 hc0
  have HB := Aside0.mk (Below.refl w.heap.size w)
  have H : (if (l0.length : Int) = 16 then (probe_Check.l0 k l0 0 l0 (l0.length : Int) 0) else (some 8)) = some r := h
  (try clear h)
  by_cases c2 : (l0.length : Int) = 16
  · rw [if_pos c2] at H
    have c2b0 : ((l0.length : Int) == 16) = true := beq_iff_eq.mpr c2
    have c2b1 : ((l0.length : Int) != 16) = false := bne_eq_false_iff_eq.mpr c2
    clear c2
    have H' := Aside0.mk H
    clear H
    go_enter Try.func20, Try.ntmps20
    go_wp2
    go_loopg [3, 15] k (fun kq v3 v15 w' => ∃ (x3_1 : Int) (x15_1 : Int), v3 = .int .i64 x3_1 ∧ v15 = .int .i64 x15_1 ∧ Aside0 (probe_Check.l0 kq l0 x3_1 l0 (l0.length : Int) x15_1 = some r) ∧ Aside0 (kq ≤ k) ∧ Aside0 (Below w.heap.size w w'))
    case atStart => exact ⟨(0), (0), (by first | rfl | (simp; done) | (simp [*]; done)), (by first | rfl | (simp; done) | (simp [*]; done)), H', ⟨Nat.le_refl _⟩, ⟨pB HB.out⟩⟩
    case round =>
      clear H'
      try clear c2
      try clear c2b0
      try clear c2b1
      try clear p2
      obtain ⟨x3_1, x15_1, rfl, rfl, HA, HK1, HB⟩ := hrel
      cases gk with
      | zero => exact absurd HA.out (by simp [probe_Check.l0])
      | succ k1 =>
        have H := HA.out
        clear HA
        simp only [probe_Check.l0] at H
        by_cases c3 : x15_1 < (l0.length : Int)
        · rw [if_pos c3] at H
          have c3b0 : decide (x15_1 < (l0.length : Int)) = true := decide_eq_true c3
          clear c3
          by_cases c4 : 0 ≤ x15_1
          · rw [if_pos c4] at H
            have c4b0 : decide (0 ≤ x15_1) = true := decide_eq_true c4
            clear c4
            by_cases c5 : x15_1 < (l0.length : Int)
            · rw [if_pos c5] at H
              have c5b0 : decide (x15_1 < (l0.length : Int)) = true := decide_eq_true c5
              clear c5
              obtain ⟨bq6, hbq6⟩ : ∃ b_ : Bool, b_ = ((rd_T71 l0 x15_1).f2) := ⟨_, rfl⟩
              replace H : (if bq6 = true then (probe_Check.l0 k1 l0 (wrap64 (x3_1 + 1)) l0 (l0.length : Int) (wrap64 (x15_1 + 1))) else (probe_Check.l0 k1 l0 x3_1 l0 (l0.length : Int) (wrap64 (x15_1 + 1)))) = some r := by rw [← hbq6] at H; exact H
              have Nbq6 := Aside0.mk hbq6
              (try clear hbq6)
              by_cases c7 : bq6 = true
              · subst c7
                have H1 : (probe_Check.l0 k1 l0 (wrap64 (x3_1 + 1)) l0 (l0.length : Int) (wrap64 (x15_1 + 1))) = some r := by rw [if_pos rfl] at H; exact H
                clear H
                have H := H1
                clear H1
                have H' := Aside0.mk H
                clear H
                have p105 : 0 ≤ (x15_1 : Int) := od
                have q105 : x15_1 < (l0.length : Int) := od
                obtain ⟨ad105, e105, hx105_0, hx105_1, hx105_2⟩ := at_T71 HR0.out x15_1 p105 q105
                (try rw [← Nbq6.out] at hx105_2)
                cases e105
                replace hx105_0 := (HB.out.cell (World.block_lt_of_cell? w _ hx105_0)).trans hx105_0
                replace hx105_1 := (HB.out.cell (World.block_lt_of_cell? w _ hx105_1)).trans hx105_1
                replace hx105_2 := (HB.out.cell (World.block_lt_of_cell? w _ hx105_2)).trans hx105_2
                replace p105 := eq_true p105
                replace q105 := eq_true q105
                go_wp2_with (first | ((with_reducible refine gate_dst (N := 5) rfl ?_); refine boxE (N := 5) (cs := #[.int .u32 0, .int .i64 0, .bool false]) (t := 71) ?_; intro gb106 hg w8 hbox hb; have n0_ := Aside0.mk (below_step (pB HB.out) hb); have n1_ := Aside0.mk (hbox); have n3_ := Aside0.mk (pL HB.out hg); clear HB; have HB := n0_; have BK106 := n1_; have GE106 := n3_; clear n0_ n1_ n3_; clear hb hbox hg; obtain ⟨hcz9_0, hcz9_1, hcz9_2, hfz9_0, hfz9_1, hfz9_2⟩ := bk3 BK106.out))
                go_roundg k1
                case measure => have := HK1.out; omega
                case rel => exact ⟨(wrap64 (x3_1 + 1)), (wrap64 (x15_1 + 1)), (by first | rfl | (simp; done) | (simp [*]; done)), (by first | rfl | (simp; done) | (simp [*]; done)), (by first | exact H' | (have Nq := Nbq6.out; rw [← Nq]; exact H')), ⟨by have := HK1.out; omega⟩, ⟨pB HB.out⟩⟩
              · replace c7 := Bool.eq_false_iff.mpr c7
                subst c7
                have H1 : (probe_Check.l0 k1 l0 x3_1 l0 (l0.length : Int) (wrap64 (x15_1 + 1))) = some r := by rw [if_neg (show ¬ (false = true) by decide)] at H; exact H
                clear H
                have H := H1
                clear H1
                have H' := Aside0.mk H
                clear H
                have p105 : 0 ≤ (x15_1 : Int) := od
                have q105 : x15_1 < (l0.length : Int) := od
                obtain ⟨ad105, e105, hx105_0, hx105_1, hx105_2⟩ := at_T71 HR0.out x15_1 p105 q105
                (try rw [← Nbq6.out] at hx105_2)
                cases e105
                replace hx105_0 := (HB.out.cell (World.block_lt_of_cell? w _ hx105_0)).trans hx105_0
                replace hx105_1 := (HB.out.cell (World.block_lt_of_cell? w _ hx105_1)).trans hx105_1
                replace hx105_2 := (HB.out.cell (World.block_lt_of_cell? w _ hx105_2)).trans hx105_2
                replace p105 := eq_true p105
                replace q105 := eq_true q105
                go_wp2_with (first | ((with_reducible refine gate_dst (N := 5) rfl ?_); refine boxE (N := 5) (cs := #[.int .u32 0, .int .i64 0, .bool false]) (t := 71) ?_; intro gb106 hg w10 hbox hb; have n0_ := Aside0.mk (below_step (pB HB.out) hb); have n1_ := Aside0.mk (hbox); have n3_ := Aside0.mk (pL HB.out hg); clear HB; have HB := n0_; have BK106 := n1_; have GE106 := n3_; clear n0_ n1_ n3_; clear hb hbox hg; obtain ⟨hcz11_0, hcz11_1, hcz11_2, hfz11_0, hfz11_1, hfz11_2⟩ := bk3 BK106.out))
                go_roundg k1
                case measure => have := HK1.out; omega
                case rel => exact ⟨(x3_1), (wrap64 (x15_1 + 1)), (by first | rfl | (simp; done) | (simp [*]; done)), (by first | rfl | (simp; done) | (simp [*]; done)), (by first | exact H' | (have Nq := Nbq6.out; rw [← Nq]; exact H')), ⟨by have := HK1.out; omega⟩, ⟨pB HB.out⟩⟩
            · rw [if_neg c5] at H
              exact absurd H (by simp)
          · rw [if_neg c4] at H
            exact absurd H (by simp)
        · rw [if_neg c3] at H
          have c3b0 : decide (x15_1 < (l0.length : Int)) = false := decide_eq_false c3
          clear c3
          by_cases c12 : x3_1 > 12
          · rw [if_pos c12] at H
            have c12b0 : decide (12 < x3_1) = true := decide_eq_true c12
            clear c12
            obtain rfl := Option.some.inj H
            go_wp2
            go_ret
            exact ⟨by first | rfl | (simp [errW_none, errW_some] <;> rfl) | (simp [*, errW_none, errW_some] <;> rfl), pB HB.out⟩
          · rw [if_neg c12] at H
            have c12b0 : decide (12 < x3_1) = false := decide_eq_false c12
            clear c12
            have H' := Aside0.mk H
            clear H
            go_wp2
            go_loopg [26] k1 (fun kq v26 w' => ∃ (x26_2 : Int), v26 = .int .i64 x26_2 ∧ Aside0 (probe_Check.l1 kq l0 x26_2 = some r) ∧ Aside0 (kq ≤ k1) ∧ Aside0 (Below w.heap.size w w'))
            case atStart => exact ⟨(0), (by first | rfl | (simp; done) | (simp [*]; done)), H', ⟨Nat.le_refl _⟩, ⟨pB HB.out⟩⟩
            case round =>
              clear H'
              try clear c1
              try clear p1
              try clear q1
              try clear hx1
              try clear c2
              try clear c2b0
              try clear c2b1
              try clear p2
              try clear c3
              try clear c3b0
              try clear c4
              try clear c4b0
              try clear c5
              try clear c5b0
              try clear p6
              try clear q6
              try clear c7
              try clear p10
              try clear q10
              try clear hx10
              try clear c12
              try clear c12b0
              try clear hcz11_0
              try clear hcz11_1
              try clear hcz11_2
              try clear hcz9_0
              try clear hcz9_1
              try clear hcz9_2
              try clear hfz11_0
              try clear hfz11_1
              try clear hfz11_2
              try clear hfz9_0
              try clear hfz9_1
              try clear hfz9_2
              try clear hx105_0
              try clear hx105_1
              try clear hx105_2
              try clear p105
              try clear p2
              try clear q105
              obtain ⟨x26_2, rfl, HA, HK2, HB⟩ := hrel
              cases gk with
              | zero => exact absurd HA.out (by simp [probe_Check.l1])
              | succ k2 =>
                have H := HA.out
                clear HA
                simp only [probe_Check.l1] at H
                by_cases c13 : x26_2 < 16
                · rw [if_pos c13] at H
                  have c13b0 : decide (x26_2 < 16) = true := decide_eq_true c13
                  clear c13
                  by_cases c14 : 0 ≤ x26_2
                  · rw [if_pos c14] at H
                    have c14b0 : decide (0 ≤ x26_2) = true := decide_eq_true c14
                    clear c14
                    by_cases c15 : x26_2 < (l0.length : Int)
                    · rw [if_pos c15] at H
                      have c15b0 : decide (x26_2 < (l0.length : Int)) = true := decide_eq_true c15
                      clear c15
                      have HC16 := Aside0.mk H
                      clear H
                      have p107 : 0 ≤ (x26_2 : Int) := od
                      have q107 : x26_2 < (l0.length : Int) := od
                      obtain ⟨ad107, e107, hx107_0, hx107_1, hx107_2⟩ := at_T71 HR0.out x26_2 p107 q107
                      cases e107
                      replace hx107_0 := (HB.out.cell (World.block_lt_of_cell? w _ hx107_0)).trans hx107_0
                      replace hx107_1 := (HB.out.cell (World.block_lt_of_cell? w _ hx107_1)).trans hx107_1
                      replace hx107_2 := (HB.out.cell (World.block_lt_of_cell? w _ hx107_2)).trans hx107_2
                      replace p107 := eq_true p107
                      replace q107 := eq_true q107
                      go_upto_region 16 with (first | ((with_reducible refine gate_dst (N := 7) rfl ?_); refine boxE (N := 7) (cs := #[.int .u32 0, .int .i64 0, .bool false]) (t := 71) ?_; intro gb108 hg w17 hbox hb; have n0_ := Aside0.mk (below_step (pB HB.out) hb); have n1_ := Aside0.mk (hbox); have n3_ := Aside0.mk (pL HB.out hg); clear HB; have HB := n0_; have BK108 := n1_; have GE108 := n3_; clear n0_ n1_ n3_; clear hb hbox hg; obtain ⟨hcz18_0, hcz18_1, hcz18_2, hfz18_0, hfz18_1, hfz18_2⟩ := bk3 BK108.out))
                      (try simp only [Act.put, List.setIfInBounds_toArray, List.set_cons_zero, List.set_cons_succ])
                      go_cut [54] (fun v54 wc => ∃ (kq : Nat) (x54_15 : Bool), v54 = .bool x54_15 ∧ Aside0 (probe_Check.j2 kq l0 x26_2 x26_2 x54_15 ((rd_T71 l0 x26_2).f0) ((rd_T71 l0 x26_2).f1) ((rd_T71 l0 x26_2).f2) = some r) ∧ Aside0 (kq ≤ k2) ∧ Aside0 (wc.heap[gb108]? = some (.cells #[.int .u32 ((rd_T71 l0 x26_2).f0), .int .i64 ((rd_T71 l0 x26_2).f1), .bool ((rd_T71 l0 x26_2).f2)] 71 (0, 0))) ∧ Aside0 (Below w.heap.size w wc))
                      case first =>
                        have H := HC16.out
                        clear HC16
                        obtain ⟨bq19, hbq19⟩ : ∃ b_ : Bool, b_ = ((rd_T71 l0 x26_2).f2) := ⟨_, rfl⟩
                        replace H : (if (bq19 = true) then (if bq19 = true then (if ((rd_T71 l0 x26_2).f1) < 0 then (probe_Check.j2 k2 l0 x26_2 x26_2 true ((rd_T71 l0 x26_2).f0) ((rd_T71 l0 x26_2).f1) bq19) else (probe_Check.j2 k2 l0 x26_2 x26_2 (decide (((rd_T71 l0 x26_2).f1) ≥ 16)) ((rd_T71 l0 x26_2).f0) ((rd_T71 l0 x26_2).f1) bq19)) else (probe_Check.j2 k2 l0 x26_2 x26_2 false ((rd_T71 l0 x26_2).f0) ((rd_T71 l0 x26_2).f1) bq19)) else (if (!(((rd_T71 l0 x26_2).f0) == 0) || (!(((rd_T71 l0 x26_2).f1) == 0) || ((bq19)))) = true then (probe_Check.j2 k2 l0 x26_2 x26_2 true ((rd_T71 l0 x26_2).f0) ((rd_T71 l0 x26_2).f1) bq19) else (if bq19 = true then (if ((rd_T71 l0 x26_2).f1) < 0 then (probe_Check.j2 k2 l0 x26_2 x26_2 true ((rd_T71 l0 x26_2).f0) ((rd_T71 l0 x26_2).f1) bq19) else (probe_Check.j2 k2 l0 x26_2 x26_2 (decide (((rd_T71 l0 x26_2).f1) ≥ 16)) ((rd_T71 l0 x26_2).f0) ((rd_T71 l0 x26_2).f1) bq19)) else (probe_Check.j2 k2 l0 x26_2 x26_2 false ((rd_T71 l0 x26_2).f0) ((rd_T71 l0 x26_2).f1) bq19)))) = some r := by rw [← hbq19] at H; exact H
                        have Nbq19 := Aside0.mk hbq19
                        clear hbq19
                        (try rw [← Nbq19.out])
                        by_cases c20 : (bq19 = true)
                        · subst c20
                          have H1 : (if true = true then (if ((rd_T71 l0 x26_2).f1) < 0 then (probe_Check.j2 k2 l0 x26_2 x26_2 true ((rd_T71 l0 x26_2).f0) ((rd_T71 l0 x26_2).f1) true) else (probe_Check.j2 k2 l0 x26_2 x26_2 (decide (((rd_T71 l0 x26_2).f1) ≥ 16)) ((rd_T71 l0 x26_2).f0) ((rd_T71 l0 x26_2).f1) true)) else (probe_Check.j2 k2 l0 x26_2 x26_2 false ((rd_T71 l0 x26_2).f0) ((rd_T71 l0 x26_2).f1) true)) = some r := by rw [if_pos rfl] at H; exact H
                          clear H
                          have H := H1
                          clear H1
                          replace H : (if ((rd_T71 l0 x26_2).f1) < 0 then (probe_Check.j2 k2 l0 x26_2 x26_2 true ((rd_T71 l0 x26_2).f0) ((rd_T71 l0 x26_2).f1) true) else (probe_Check.j2 k2 l0 x26_2 x26_2 (decide (((rd_T71 l0 x26_2).f1) ≥ 16)) ((rd_T71 l0 x26_2).f0) ((rd_T71 l0 x26_2).f1) true)) = some r := by rw [if_pos rfl] at H; exact H
                          by_cases c21 : ((rd_T71 l0 x26_2).f1) < 0
                          · rw [if_pos c21] at H
                            have c21b0 : decide (((rd_T71 l0 x26_2).f1) < 0) = true := decide_eq_true c21
                            clear c21
                            have H' := Aside0.mk H
                            clear H
                            obtain ⟨hcz22_0, hcz22_1, hcz22_2, hfz22_0, hfz22_1, hfz22_2⟩ := bk3 BK108.out
                            go_wp2
                            go_meet
                            case rel => exact ⟨_, (true), (by first | rfl | (simp; done) | (simp [*]; done)), (by first | exact H' | (have Nq := Nbq19.out; rw [← Nq]; exact H')), ⟨by have := HK1.out; have := HK2.out; first | omega | exact Nat.le_refl _⟩, ⟨by (with_reducible repeat (first | refine blk_drewN ?_ _ | refine blk_drew ?_ | refine blk_alloc ?_ _)); refine blk_put (cs := #[.int .u32 ((rd_T71 l0 x26_2).f0), .int .i64 ((rd_T71 l0 x26_2).f1), .bool false]) ?_ 2 _ (by first | rfl | (simp [*]; done) | (simp [*]; exact Nbq19.out.symm)); (with_reducible repeat (first | refine blk_drewN ?_ _ | refine blk_drew ?_ | refine blk_alloc ?_ _)); refine blk_put (cs := #[.int .u32 ((rd_T71 l0 x26_2).f0), .int .i64 0, .bool false]) ?_ 1 _ (by first | rfl | (simp [*]; done) | (simp [*]; exact Nbq19.out.symm)); (with_reducible repeat (first | refine blk_drewN ?_ _ | refine blk_drew ?_ | refine blk_alloc ?_ _)); refine blk_put (cs := #[.int .u32 0, .int .i64 0, .bool false]) ?_ 0 _ (by first | rfl | (simp [*]; done) | (simp [*]; exact Nbq19.out.symm)); (with_reducible repeat (first | refine blk_drewN ?_ _ | refine blk_drew ?_ | refine blk_alloc ?_ _)); exact BK108.out⟩, ⟨pB HB.out⟩⟩
                          · rw [if_neg c21] at H
                            have c21b0 : decide (((rd_T71 l0 x26_2).f1) < 0) = false := decide_eq_false c21
                            clear c21
                            have H' := Aside0.mk H
                            clear H
                            obtain ⟨hcz23_0, hcz23_1, hcz23_2, hfz23_0, hfz23_1, hfz23_2⟩ := bk3 BK108.out
                            go_wp2
                            go_meet
                            case rel => exact ⟨_, (decide (((rd_T71 l0 x26_2).f1) ≥ 16)), (by first | rfl | (simp; done) | (simp [*]; done)), (by first | exact H' | (have Nq := Nbq19.out; rw [← Nq]; exact H')), ⟨by have := HK1.out; have := HK2.out; first | omega | exact Nat.le_refl _⟩, ⟨by (with_reducible repeat (first | refine blk_drewN ?_ _ | refine blk_drew ?_ | refine blk_alloc ?_ _)); refine blk_put (cs := #[.int .u32 ((rd_T71 l0 x26_2).f0), .int .i64 ((rd_T71 l0 x26_2).f1), .bool false]) ?_ 2 _ (by first | rfl | (simp [*]; done) | (simp [*]; exact Nbq19.out.symm)); (with_reducible repeat (first | refine blk_drewN ?_ _ | refine blk_drew ?_ | refine blk_alloc ?_ _)); refine blk_put (cs := #[.int .u32 ((rd_T71 l0 x26_2).f0), .int .i64 0, .bool false]) ?_ 1 _ (by first | rfl | (simp [*]; done) | (simp [*]; exact Nbq19.out.symm)); (with_reducible repeat (first | refine blk_drewN ?_ _ | refine blk_drew ?_ | refine blk_alloc ?_ _)); refine blk_put (cs := #[.int .u32 0, .int .i64 0, .bool false]) ?_ 0 _ (by first | rfl | (simp [*]; done) | (simp [*]; exact Nbq19.out.symm)); (with_reducible repeat (first | refine blk_drewN ?_ _ | refine blk_drew ?_ | refine blk_alloc ?_ _)); exact BK108.out⟩, ⟨pB HB.out⟩⟩
                        · replace c20 := Bool.eq_false_iff.mpr c20
                          subst c20
                          have H1 : (if (!(((rd_T71 l0 x26_2).f0) == 0) || (!(((rd_T71 l0 x26_2).f1) == 0) || ((false)))) = true then (probe_Check.j2 k2 l0 x26_2 x26_2 true ((rd_T71 l0 x26_2).f0) ((rd_T71 l0 x26_2).f1) false) else (if false = true then (if ((rd_T71 l0 x26_2).f1) < 0 then (probe_Check.j2 k2 l0 x26_2 x26_2 true ((rd_T71 l0 x26_2).f0) ((rd_T71 l0 x26_2).f1) false) else (probe_Check.j2 k2 l0 x26_2 x26_2 (decide (((rd_T71 l0 x26_2).f1) ≥ 16)) ((rd_T71 l0 x26_2).f0) ((rd_T71 l0 x26_2).f1) false)) else (probe_Check.j2 k2 l0 x26_2 x26_2 false ((rd_T71 l0 x26_2).f0) ((rd_T71 l0 x26_2).f1) false))) = some r := by rw [if_neg (show ¬ (false = true) by decide)] at H; exact H
                          clear H
                          have H := H1
                          clear H1
                          by_cases c24 : (!(((rd_T71 l0 x26_2).f0) == 0) || (!(((rd_T71 l0 x26_2).f1) == 0) || ((false)))) = true
                          · rw [if_pos c24] at H
                            have c24b0 : (!(((rd_T71 l0 x26_2).f0) == 0) || (!(((rd_T71 l0 x26_2).f1) == 0) || ((false)))) = true := c24
                            have c24b0n : ¬ ((rd_T71 l0 x26_2).f0 = 0 ∧ (rd_T71 l0 x26_2).f1 = 0) := fun hz => by simp [hz.1, hz.2] at c24b0
                            clear c24
                            have H' := Aside0.mk H
                            clear H
                            obtain ⟨hcz25_0, hcz25_1, hcz25_2, hfz25_0, hfz25_1, hfz25_2⟩ := bk3 BK108.out
                            go_wp2
                            go_meet
                            case rel => exact ⟨_, (true), (by first | rfl | (simp; done) | (simp [*]; done)), (by first | exact H' | (have Nq := Nbq19.out; rw [← Nq]; exact H')), ⟨by have := HK1.out; have := HK2.out; first | omega | exact Nat.le_refl _⟩, ⟨by (with_reducible repeat (first | refine blk_drewN ?_ _ | refine blk_drew ?_ | refine blk_alloc ?_ _)); refine blk_put (cs := #[.int .u32 ((rd_T71 l0 x26_2).f0), .int .i64 ((rd_T71 l0 x26_2).f1), .bool false]) ?_ 2 _ (by first | rfl | (simp [*]; done) | (simp [*]; exact Nbq19.out.symm)); (with_reducible repeat (first | refine blk_drewN ?_ _ | refine blk_drew ?_ | refine blk_alloc ?_ _)); refine blk_put (cs := #[.int .u32 ((rd_T71 l0 x26_2).f0), .int .i64 0, .bool false]) ?_ 1 _ (by first | rfl | (simp [*]; done) | (simp [*]; exact Nbq19.out.symm)); (with_reducible repeat (first | refine blk_drewN ?_ _ | refine blk_drew ?_ | refine blk_alloc ?_ _)); refine blk_put (cs := #[.int .u32 0, .int .i64 0, .bool false]) ?_ 0 _ (by first | rfl | (simp [*]; done) | (simp [*]; exact Nbq19.out.symm)); (with_reducible repeat (first | refine blk_drewN ?_ _ | refine blk_drew ?_ | refine blk_alloc ?_ _)); exact BK108.out⟩, ⟨pB HB.out⟩⟩
                          · rw [if_neg c24] at H
                            have c24b0 : (!(((rd_T71 l0 x26_2).f0) == 0) || (!(((rd_T71 l0 x26_2).f1) == 0) || ((false)))) = false := by simpa using c24
                            have c24b0n : ((rd_T71 l0 x26_2).f0 = 0 ∧ (rd_T71 l0 x26_2).f1 = 0) := by simpa using c24b0
                            clear c24
                            replace H : (probe_Check.j2 k2 l0 x26_2 x26_2 false ((rd_T71 l0 x26_2).f0) ((rd_T71 l0 x26_2).f1) false) = some r := by rw [if_neg (show ¬ (false = true) by decide)] at H; exact H
                            have H' := Aside0.mk H
                            clear H
                            obtain ⟨hcz26_0, hcz26_1, hcz26_2, hfz26_0, hfz26_1, hfz26_2⟩ := bk3 BK108.out
                            go_wp2
                            go_meet
                            case rel => exact ⟨_, (false), (by first | rfl | (simp; done) | (simp [*]; done)), (by first | exact H' | (have Nq := Nbq19.out; rw [← Nq]; exact H')), ⟨by have := HK1.out; have := HK2.out; first | omega | exact Nat.le_refl _⟩, ⟨by (with_reducible repeat (first | refine blk_drewN ?_ _ | refine blk_drew ?_ | refine blk_alloc ?_ _)); refine blk_put (cs := #[.int .u32 ((rd_T71 l0 x26_2).f0), .int .i64 ((rd_T71 l0 x26_2).f1), .bool false]) ?_ 2 _ (by first | rfl | (simp [*]; done) | (simp [*]; exact Nbq19.out.symm)); (with_reducible repeat (first | refine blk_drewN ?_ _ | refine blk_drew ?_ | refine blk_alloc ?_ _)); refine blk_put (cs := #[.int .u32 ((rd_T71 l0 x26_2).f0), .int .i64 0, .bool false]) ?_ 1 _ (by first | rfl | (simp [*]; done) | (simp [*]; exact Nbq19.out.symm)); (with_reducible repeat (first | refine blk_drewN ?_ _ | refine blk_drew ?_ | refine blk_alloc ?_ _)); refine blk_put (cs := #[.int .u32 0, .int .i64 0, .bool false]) ?_ 0 _ (by first | rfl | (simp [*]; done) | (simp [*]; exact Nbq19.out.symm)); (with_reducible repeat (first | refine blk_drewN ?_ _ | refine blk_drew ?_ | refine blk_alloc ?_ _)); exact BK108.out⟩, ⟨pB HB.out⟩⟩
                      case rest =>
                        clear HC16
                        try clear c1
                        try clear p1
                        try clear q1
                        try clear hx1
                        try clear c2
                        try clear c2b0
                        try clear c2b1
                        try clear p2
                        try clear c3
                        try clear c3b0
                        try clear c4
                        try clear c4b0
                        try clear c5
                        try clear c5b0
                        try clear p6
                        try clear q6
                        try clear c7
                        try clear p10
                        try clear q10
                        try clear hx10
                        try clear c12
                        try clear c12b0
                        try clear c13
                        try clear c13b0
                        try clear c14
                        try clear c14b0
                        try clear c15
                        try clear c15b0
                        try clear q19
                        try clear c20
                        try clear c21
                        try clear c21b0
                        try clear c24
                        try clear c24b0
                        try clear hcz11_0
                        try clear hcz11_1
                        try clear hcz11_2
                        try clear hcz18_0
                        try clear hcz18_1
                        try clear hcz18_2
                        try clear hcz22_0
                        try clear hcz22_1
                        try clear hcz22_2
                        try clear hcz23_0
                        try clear hcz23_1
                        try clear hcz23_2
                        try clear hcz25_0
                        try clear hcz25_1
                        try clear hcz25_2
                        try clear hcz26_0
                        try clear hcz26_1
                        try clear hcz26_2
                        try clear hcz9_0
                        try clear hcz9_1
                        try clear hcz9_2
                        try clear hfz11_0
                        try clear hfz11_1
                        try clear hfz11_2
                        try clear hfz18_0
                        try clear hfz18_1
                        try clear hfz18_2
                        try clear hfz22_0
                        try clear hfz22_1
                        try clear hfz22_2
                        try clear hfz23_0
                        try clear hfz23_1
                        try clear hfz23_2
                        try clear hfz25_0
                        try clear hfz25_1
                        try clear hfz25_2
                        try clear hfz26_0
                        try clear hfz26_1
                        try clear hfz26_2
                        try clear hfz9_0
                        try clear hfz9_1
                        try clear hfz9_2
                        try clear hx105_0
                        try clear hx105_1
                        try clear hx105_2
                        try clear hx107_0
                        try clear hx107_1
                        try clear hx107_2
                        try clear p1
                        try clear p10
                        try clear p105
                        try clear p107
                        try clear p2
                        try clear p6
                        try clear q1
                        try clear q10
                        try clear q105
                        try clear q107
                        try clear q6
                        obtain ⟨kq, x54_15, rfl, HA, HJ15, BK108, HB⟩ := hcut
                        cases kq with
                        | zero => exact absurd HA.out (by simp [probe_Check.j2])
                        | succ kj15 =>
                          have H := HA.out
                          clear HA
                          simp only [probe_Check.j2] at H
                          by_cases c27 : x54_15 = true
                          · subst c27
                            have H1 : (some 8) = some r := by rw [if_pos rfl] at H; exact H
                            clear H
                            have H := H1
                            clear H1
                            obtain rfl := Option.some.inj H
                            go_wp2
                            go_ret
                            exact ⟨by first | rfl | (simp [errW_none, errW_some] <;> rfl) | (simp [*, errW_none, errW_some] <;> rfl), pB HB.out⟩
                          · replace c27 := Bool.eq_false_iff.mpr c27
                            subst c27
                            have H1 : ((probe_look.f kj15 l0 ((rd_T71 l0 x26_2).f0)).bind fun bt109 => (if ((rd_T71 l0 x26_2).f2) = true then (if bt109.1 = x26_2 then (probe_Check.l1 kj15 l0 (wrap64 (x26_2 + 1))) else (some 8)) else (probe_Check.l1 kj15 l0 (wrap64 (x26_2 + 1))))) = some r := by rw [if_neg (show ¬ (false = true) by decide)] at H; exact H
                            clear H
                            have H := H1
                            clear H1
                            replace H := Option.bind_eq_some_iff.mp H
                            obtain ⟨⟨t109, t110⟩, A280, H⟩ := H
                            replace H : (if ((rd_T71 l0 x26_2).f2) = true then (if t109 = x26_2 then (probe_Check.l1 kj15 l0 (wrap64 (x26_2 + 1))) else (some 8)) else (probe_Check.l1 kj15 l0 (wrap64 (x26_2 + 1)))) = some r := H
                            have A28 := Aside0.mk A280
                            clear A280
                            by_cases c29 : ((rd_T71 l0 x26_2).f2) = true
                            · rw [if_pos c29] at H
                              have c29b0 : ((rd_T71 l0 x26_2).f2) = true := c29
                              clear c29
                              by_cases c30 : t109 = x26_2
                              · rw [if_pos c30] at H
                                have c30b0 : (t109 == x26_2) = true := beq_iff_eq.mpr c30
                                have c30b1 : (t109 != x26_2) = false := bne_eq_false_iff_eq.mpr c30
                                clear c30
                                have H' := Aside0.mk H
                                clear H
                                obtain ⟨hcz31_0, hcz31_1, hcz31_2, hfz31_0, hfz31_1, hfz31_2⟩ := bk3 BK108.out
                                go_wp2_with (first | ((with_reducible refine gate_callee (f := 46) rfl ?_); refine goesE (some 59) rfl rfl Try.func46 (by kernel_rfl) rfl #[.slice (some ad107) l0.length c0, .int .u32 ((rd_T71 l0 x26_2).f0)] rfl ?_; (with_reducible refine (probe_look.calls kj15 _ _ l0 ((rd_T71 l0 x26_2).f0) t109 t110 _ ?side1 ?side2 A28.out).mono ?_); (case side1 => exact Kd.pC ((Kd.C_below HR0.out HB.out))); (case side2 => exact HC0.out); rintro e w' ⟨rfl, ⟨nd, rfl⟩⟩; refine ⟨_, rfl, ?_⟩))
                                go_roundg kj15
                                case measure => have := HK1.out; have := HK2.out; have := HJ15.out; omega
                                case rel => exact ⟨(wrap64 (x26_2 + 1)), (by first | rfl | (simp; done) | (simp [*]; done)), (by first | exact H' | (have Nq := Nbq19.out; rw [← Nq]; exact H')), ⟨by have := HK1.out; have := HK2.out; have := HJ15.out; omega⟩, ⟨pB HB.out⟩⟩
                              · rw [if_neg c30] at H
                                have c30b0 : (t109 == x26_2) = false := beq_eq_false_iff_ne.mpr c30
                                have c30b1 : (t109 != x26_2) = true := bne_iff_ne.mpr c30
                                obtain rfl := Option.some.inj H
                                obtain ⟨hcz32_0, hcz32_1, hcz32_2, hfz32_0, hfz32_1, hfz32_2⟩ := bk3 BK108.out
                                go_wp2_with (first | ((with_reducible refine gate_callee (f := 46) rfl ?_); refine goesE (some 59) rfl rfl Try.func46 (by kernel_rfl) rfl #[.slice (some ad107) l0.length c0, .int .u32 ((rd_T71 l0 x26_2).f0)] rfl ?_; (with_reducible refine (probe_look.calls kj15 _ _ l0 ((rd_T71 l0 x26_2).f0) t109 t110 _ ?side1 ?side2 A28.out).mono ?_); (case side1 => exact Kd.pC ((Kd.C_below HR0.out HB.out))); (case side2 => exact HC0.out); rintro e w' ⟨rfl, ⟨nd, rfl⟩⟩; refine ⟨_, rfl, ?_⟩))
                                go_ret
                                exact ⟨by first | rfl | (simp [errW_none, errW_some] <;> rfl) | (simp [*, errW_none, errW_some] <;> rfl), pB HB.out⟩
                            · rw [if_neg c29] at H
                              have c29b0 : ((rd_T71 l0 x26_2).f2) = false := by simpa using c29
                              clear c29
                              have H' := Aside0.mk H
                              clear H
                              obtain ⟨hcz33_0, hcz33_1, hcz33_2, hfz33_0, hfz33_1, hfz33_2⟩ := bk3 BK108.out
                              go_wp2_with (first | ((with_reducible refine gate_callee (f := 46) rfl ?_); refine goesE (some 59) rfl rfl Try.func46 (by kernel_rfl) rfl #[.slice (some ad107) l0.length c0, .int .u32 ((rd_T71 l0 x26_2).f0)] rfl ?_; (with_reducible refine (probe_look.calls kj15 _ _ l0 ((rd_T71 l0 x26_2).f0) t109 t110 _ ?side1 ?side2 A28.out).mono ?_); (case side1 => exact Kd.pC ((Kd.C_below HR0.out HB.out))); (case side2 => exact HC0.out); rintro e w' ⟨rfl, ⟨nd, rfl⟩⟩; refine ⟨_, rfl, ?_⟩))
                              go_roundg kj15
                              case measure => have := HK1.out; have := HK2.out; have := HJ15.out; omega
                              case rel => exact ⟨(wrap64 (x26_2 + 1)), (by first | rfl | (simp; done) | (simp [*]; done)), (by first | exact H' | (have Nq := Nbq19.out; rw [← Nq]; exact H')), ⟨by have := HK1.out; have := HK2.out; have := HJ15.out; omega⟩, ⟨pB HB.out⟩⟩
                    · rw [if_neg c15] at H
                      exact absurd H (by simp)
                  · rw [if_neg c14] at H
                    exact absurd H (by simp)
                · rw [if_neg c13] at H
                  have c13b0 : decide (x26_2 < 16) = false := decide_eq_false c13
                  clear c13
                  obtain rfl := Option.some.inj H
                  go_wp2
                  go_ret
                  exact ⟨by first | rfl | (simp [errW_none, errW_some] <;> rfl) | (simp [*, errW_none, errW_some] <;> rfl), pB HB.out⟩
  · rw [if_neg c2] at H
    have c2b0 : ((l0.length : Int) == 16) = false := beq_eq_false_iff_ne.mpr c2
    have c2b1 : ((l0.length : Int) != 16) = true := bne_iff_ne.mpr c2
    obtain rfl := Option.some.inj H
    go_enter Try.func20, Try.ntmps20
    go_wp2
    go_ret
    exact ⟨by first | rfl | (simp [errW_none, errW_some] <;> rfl) | (simp [*, errW_none, errW_some] <;> rfl), pB HB.out⟩

end Go.Proofs.Ytlgfopdindklnaa.PProbe
