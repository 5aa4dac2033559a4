-- printed by a program of this session (a turned copy of the kit's print); Lean checks it
import Derived.Test.YtlgfopdindklnaaPArenax0
import Derived.Test.YtlgfopdindklnaaPArenax1
namespace Go.Proofs.Ytlgfopdindklnaa.PArena
open Go.RowKit Go.Proofs.YtlgfopdindklnaaW.PrintWords Go.Proofs.YtlgfopdindklnaaW.PrintLast Go.Proofs.YtlgfopdindklnaaW.PrintMore
attribute [local go_sem] max2_int min2_int max_two min_two max_three min_three max_four min_four   -- for this text's walks alone
set_option linter.unusedVariables false
set_option linter.unusedSimpArgs false

/-! ### arena_Check: function 35 -/
mutual
def arena_Check.j0 : Nat → Int → Bool → List Int → List Bool → Int → Option (Int)
  | 0, _, _, _, _, _ => none
  | k + 1, x3, x23, x108000, x108001, x108002 => if x23 = true then (some 8) else ((slices_Clone_bool_bool.f x108001).bind fun t108 => (arena_Check.l0 k x3 t108 x108002 x108000 x108001 x108002))
def arena_Check.l0 : Nat → Int → List Bool → Int → List Int → List Bool → Int → Option (Int)
  | 0, _, _, _, _, _, _ => none
  | k + 1, x3, x4, x5, x108000, x108001, x108002 => if x5 = (-1) then (arena_Check.l1 k x4 x108001 (x108001.length : Int) 0 x108000 x108001 x108002) else (if x5 < 0 then (some 8) else (if x5 ≥ x3 then (some 8) else (if 0 ≤ x5 then (if x5 < (x4.length : Int) then (if rdOf false x4 x5 = true then (some 8) else (if x5 < (x108000.length : Int) then (arena_Check.l0 k x3 (x4.set (x5 : Int).toNat true) (rd x108000 x5) x108000 x108001 x108002) else (none))) else (none)) else (none))))
def arena_Check.l1 : Nat → List Bool → List Bool → Int → Int → List Int → List Bool → Int → Option (Int)
  | 0, _, _, _, _, _, _, _ => none
  | k + 1, x4, x53, x54, x55, x108000, x108001, x108002 => if x55 < x54 then (if 0 ≤ x55 then (if x55 < (x53.length : Int) then (if x55 < (x4.length : Int) then (if rdOf false x4 x55 = true then (if rdOf false x53 x55 = true then (if x55 < (x108000.length : Int) then (if (rd x108000 x55) = (-1) then (arena_Check.l1 k x4 x53 x54 (wrap64 (x55 + 1)) x108000 x108001 x108002) else (some 8)) else (none)) else (arena_Check.l1 k x4 x53 x54 (wrap64 (x55 + 1)) x108000 x108001 x108002)) else (some 8)) else (none)) else (none)) else (none)) else (some 0)
end
def arena_Check.f (k : Nat) (l0_0 : List Int) (l0_1 : List Bool) (a0_2 : Int) : Option (Int) := if (l0_0.length : Int) < 1 then (arena_Check.j0 k (l0_0.length : Int) true l0_0 l0_1 a0_2) else (if (l0_0.length : Int) > 16 then (arena_Check.j0 k (l0_0.length : Int) true l0_0 l0_1 a0_2) else (arena_Check.j0 k (l0_0.length : Int) ((l0_1.length : Int) != (l0_0.length : Int)) l0_0 l0_1 a0_2))
theorem arena_Check.mono_l : ∀ k, (∀ y0 y1 y2 y3 y4, LeO (arena_Check.j0 k y0 y1 y2 y3 y4) (arena_Check.j0 (k + 1) y0 y1 y2 y3 y4)) ∧ (∀ y0 y1 y2 y3 y4 y5, LeO (arena_Check.l0 k y0 y1 y2 y3 y4 y5) (arena_Check.l0 (k + 1) y0 y1 y2 y3 y4 y5)) ∧ (∀ y0 y1 y2 y3 y4 y5 y6, LeO (arena_Check.l1 k y0 y1 y2 y3 y4 y5 y6) (arena_Check.l1 (k + 1) y0 y1 y2 y3 y4 y5 y6))
  | 0 => ⟨fun _ _ _ _ _ r h => by simp [arena_Check.j0] at h, fun _ _ _ _ _ _ r h => by simp [arena_Check.l0] at h, fun _ _ _ _ _ _ _ r h => by simp [arena_Check.l1] at h⟩
  | k + 1 => by
    obtain ⟨ih0, ih1, ih2⟩ := arena_Check.mono_l k
    refine ⟨?_, ?_, ?_⟩
    · intro y0 y1 y2 y3 y4
      unfold arena_Check.j0
      repeat' first
      | (with_reducible exact ih0 _ _ _ _ _)
      | (with_reducible exact ih1 _ _ _ _ _ _)
      | (with_reducible exact ih2 _ _ _ _ _ _ _)
      | (with_reducible exact LeO.refl _)
      | (with_reducible exact LeO.none _)
      | (with_reducible refine LeO.ite ?_ ?_)
      | (with_reducible refine LeO.bind ?_ (fun _ => ?_))
      | exact ih0 _ _ _ _ _
      | exact ih1 _ _ _ _ _ _
      | exact ih2 _ _ _ _ _ _ _
      | exact LeO.none _
      | refine LeO.ite ?_ ?_
      | refine LeO.bind ?_ (fun _ => ?_)
    · intro y0 y1 y2 y3 y4 y5
      unfold arena_Check.l0
      repeat' first
      | (with_reducible exact ih0 _ _ _ _ _)
      | (with_reducible exact ih1 _ _ _ _ _ _)
      | (with_reducible exact ih2 _ _ _ _ _ _ _)
      | (with_reducible exact LeO.refl _)
      | (with_reducible exact LeO.none _)
      | (with_reducible refine LeO.ite ?_ ?_)
      | (with_reducible refine LeO.bind ?_ (fun _ => ?_))
      | exact ih0 _ _ _ _ _
      | exact ih1 _ _ _ _ _ _
      | exact ih2 _ _ _ _ _ _ _
      | exact LeO.none _
      | refine LeO.ite ?_ ?_
      | refine LeO.bind ?_ (fun _ => ?_)
    · intro y0 y1 y2 y3 y4 y5 y6
      unfold arena_Check.l1
      repeat' first
      | (with_reducible exact ih0 _ _ _ _ _)
      | (with_reducible exact ih1 _ _ _ _ _ _)
      | (with_reducible exact ih2 _ _ _ _ _ _ _)
      | (with_reducible exact LeO.refl _)
      | (with_reducible exact LeO.none _)
      | (with_reducible refine LeO.ite ?_ ?_)
      | (with_reducible refine LeO.bind ?_ (fun _ => ?_))
      | exact ih0 _ _ _ _ _
      | exact ih1 _ _ _ _ _ _
      | exact ih2 _ _ _ _ _ _ _
      | exact LeO.none _
      | refine LeO.ite ?_ ?_
      | refine LeO.bind ?_ (fun _ => ?_)
theorem arena_Check.mono : ∀ a0 a1 a2 k, LeO (arena_Check.f k a0 a1 a2) (arena_Check.f (k + 1) a0 a1 a2) := by
  intro a0 a1 a2 k
  obtain ⟨ih0, ih1, ih2⟩ := arena_Check.mono_l k
  unfold arena_Check.f
  repeat' first
      | (with_reducible exact ih0 _ _ _ _ _)
      | (with_reducible exact ih1 _ _ _ _ _ _)
      | (with_reducible exact ih2 _ _ _ _ _ _ _)
      | (with_reducible exact LeO.refl _)
      | (with_reducible exact LeO.none _)
      | (with_reducible refine LeO.ite ?_ ?_)
      | (with_reducible refine LeO.bind ?_ (fun _ => ?_))
      | exact ih0 _ _ _ _ _
      | exact ih1 _ _ _ _ _ _
      | exact ih2 _ _ _ _ _ _ _
      | exact LeO.none _
      | refine LeO.ite ?_ ?_
      | refine LeO.bind ?_ (fun _ => ?_)
set_option maxHeartbeats 8000000 in
set_option maxRecDepth 100000 in
theorem arena_Check.calls (k : Nat) (A0_0 : Option Addr) (c0_0 : Nat) (l0_0 : List Int) (A0_1 : Option Addr) (c0_1 : Nat) (l0_1 : List Bool) (a0_2 : Int) (r : Int) (w : World) (hr0_0 : Kd.C (Kd.int .i64) w A0_0 l0_0.length l0_0) (hc0_0 : l0_0.length ≤ c0_0) (hr0_1 : Kd.C Kd.bool w A0_1 l0_1.length l0_1) (hc0_1 : l0_1.length ≤ c0_1) (h : arena_Check.f k l0_0 l0_1 a0_2 = some r) :
    Calls Try.prog 35 #[.agg #[.slice A0_0 l0_0.length c0_0, .slice A0_1 l0_1.length c0_1, .int .i64 a0_2]] w fun e w' => e = .returned (.int .i64 r) ∧ Below w.heap.size w w' := by
  have hu36 := Try.underlying36
  have HR0_0 := Aside0.mk hr0_0
  have HC0_0 := Aside0.mk hc0_0
  clear hr0_0 hc0_0
  have HR0_1 := Aside0.mk hr0_1
  have HC0_1 := Aside0.mk hc0_1
  clear hr0_1 hc0_1
  have HB := Aside0.mk (Below.refl w.heap.size w)
  have H : (if (l0_0.length : Int) < 1 then (arena_Check.j0 k (l0_0.length : Int) true l0_0 l0_1 a0_2) else (if (l0_0.length : Int) > 16 then (arena_Check.j0 k (l0_0.length : Int) true l0_0 l0_1 a0_2) else (arena_Check.j0 k (l0_0.length : Int) ((l0_1.length : Int) != (l0_0.length : Int)) l0_0 l0_1 a0_2))) = some r := h
  (try clear h)
  have HC2 := Aside0.mk H
  clear H
  go_enter Try.func35, Try.ntmps35
  go_upto_region 2 with (first | ((with_reducible refine gate_dst (N := 1) rfl ?_); (try (refine gate_guard (by rfl) ?_; dsimp only)); refine boxE (N := 1) (cs := #[.slice A0_0 l0_0.length c0_0, .slice A0_1 l0_1.length c0_1, .int .i64 a0_2]) (t := 36) ?_; intro gb107 hg w3 hbox hb; have n0_ := Aside0.mk (below_step (pB HB.out) hb); have n1_ := Aside0.mk (hbox); have n3_ := Aside0.mk (pL HB.out hg); clear HB; have HB := n0_; have BK107 := n1_; have GE107 := n3_; clear n0_ n1_ n3_; clear hb hbox hg; obtain ⟨hcz4_0, hcz4_1, hcz4_2, hfz4_0, hfz4_1, hfz4_2⟩ := bk3 BK107.out))
  (try simp only [Act.put, List.setIfInBounds_toArray, List.set_cons_zero, List.set_cons_succ])
  go_cut [23] (fun v23 wc => ∃ (kq : Nat) (x23_1 : Bool), v23 = .bool x23_1 ∧ Aside0 (arena_Check.j0 kq (l0_0.length : Int) x23_1 l0_0 l0_1 a0_2 = some r) ∧ Aside0 (kq ≤ k) ∧ Aside0 (wc.heap[gb107]? = some (.cells #[(.slice A0_0 l0_0.length c0_0), (.slice A0_1 l0_1.length c0_1), .int .i64 a0_2] 36 (0, 0))) ∧ Aside0 (Below w.heap.size w wc))
  case first =>
    have H := HC2.out
    (try clear HC2)
    by_cases c5 : (l0_0.length : Int) < 1
    · rw [if_pos c5] at H
      have c5b0 : decide ((l0_0.length : Int) < 1) = true := decide_eq_true c5
      have c5b1 : decide (l0_0.length < 1) = true := decide_eq_true (by omega)
      clear c5
      (first | rw [c5b0] | (simp only [i64_w, i32_w]; rw [c5b0]) | skip)
      have H' := Aside0.mk H
      clear H
      go_wp2
      go_meet
      case rel => exact ⟨_, (true), (by first | rfl | (simp; done) | (simp [*]; done)), H', ⟨by first | omega | exact Nat.le_refl _⟩, ⟨pK BK107.out⟩, ⟨pB HB.out⟩⟩
    · rw [if_neg c5] at H
      have c5b0 : decide ((l0_0.length : Int) < 1) = false := decide_eq_false c5
      have c5b1 : decide (l0_0.length < 1) = false := decide_eq_false (by omega)
      clear c5
      (first | rw [c5b0] | (simp only [i64_w, i32_w]; rw [c5b0]) | skip)
      by_cases c6 : (l0_0.length : Int) > 16
      · rw [if_pos c6] at H
        have c6b0 : decide (16 < (l0_0.length : Int)) = true := decide_eq_true c6
        have c6b1 : decide (16 < l0_0.length) = true := decide_eq_true (by omega)
        clear c6
        have H' := Aside0.mk H
        clear H
        go_wp2
        go_meet
        case rel => exact ⟨_, (true), (by first | rfl | (simp; done) | (simp [*]; done)), H', ⟨by first | omega | exact Nat.le_refl _⟩, ⟨pK BK107.out⟩, ⟨pB HB.out⟩⟩
      · rw [if_neg c6] at H
        have c6b0 : decide (16 < (l0_0.length : Int)) = false := decide_eq_false c6
        have c6b1 : decide (16 < l0_0.length) = false := decide_eq_false (by omega)
        clear c6
        have H' := Aside0.mk H
        clear H
        obtain ⟨hcz7_0, hcz7_1, hcz7_2, hfz7_0, hfz7_1, hfz7_2⟩ := bk3 BK107.out
        go_wp2
        go_meet
        case rel => exact ⟨_, (((l0_1.length : Int) != (l0_0.length : Int))), (by first | rfl | (simp; done) | (simp [*]; done)), H', ⟨by first | omega | exact Nat.le_refl _⟩, ⟨pK BK107.out⟩, ⟨pB HB.out⟩⟩
  case rest =>
    (try clear HC2)
    try clear p2
    try clear c3
    try clear c5
    try clear c5b0
    try clear c5b1
    try clear c6
    try clear c6b0
    try clear c6b1
    try clear hcz4_0
    try clear hcz4_1
    try clear hcz4_2
    try clear hcz7_0
    try clear hcz7_1
    try clear hcz7_2
    try clear hfz4_0
    try clear hfz4_1
    try clear hfz4_2
    try clear hfz7_0
    try clear hfz7_1
    try clear hfz7_2
    obtain ⟨kq, x23_1, rfl, HA, HJ1, BK107, HB⟩ := hcut
    cases kq with
    | zero => exact absurd HA.out (by simp [arena_Check.j0])
    | succ kj1 =>
      have H := HA.out
      clear HA
      simp only [arena_Check.j0] at H
      by_cases c8 : x23_1 = true
      · subst c8
        have H1 : (some 8) = some r := by rw [if_pos rfl] at H; exact H
        clear H
        have H := H1
        clear H1
        obtain rfl := Option.some.inj H
        go_wp2
        go_ret
        exact ⟨by first | rfl | (simp [errW_none, errW_some] <;> rfl) | (simp [*, errW_none, errW_some] <;> rfl), pB HB.out⟩
      · replace c8 := Bool.eq_false_iff.mpr c8
        subst c8
        have H1 : ((slices_Clone_bool_bool.f l0_1).bind fun t108 => (arena_Check.l0 kj1 (l0_0.length : Int) t108 a0_2 l0_0 l0_1 a0_2)) = some r := by rw [if_neg (show ¬ (false = true) by decide)] at H; exact H
        clear H
        have H := H1
        clear H1
        replace H := Option.bind_eq_some_iff.mp H
        obtain ⟨t108, A90, H⟩ := H
        replace H : (arena_Check.l0 kj1 (l0_0.length : Int) t108 a0_2 l0_0 l0_1 a0_2) = some r := H
        have A9 := Aside0.mk A90
        (try clear A90)
        have H' := Aside0.mk H
        clear H
        obtain ⟨hcz10_0, hcz10_1, hcz10_2, hfz10_0, hfz10_1, hfz10_2⟩ := bk3 BK107.out
        go_wp2_with (first | ((with_reducible refine gate_callee (f := 50) rfl ?_); refine goesE (some 26) rfl rfl Try.func50 (by kernel_rfl) rfl #[.slice A0_1 l0_1.length c0_1] rfl ?_; (with_reducible refine (slices_Clone_bool_bool.calls _ _ l0_1 t108 _ ?side1 ?side2 A9.out).mono ?_); (case side1 => exact Kd.pC ((Kd.C_below HR0_1.out HB.out))); (case side2 => exact HC0_1.out); rintro e w11 ⟨v109, rfl, ho0, hb⟩; refine ⟨_, rfl, ?_⟩; have n0_ := Aside0.mk (Kd.R_lower ho0 (below_size (pB HB.out))); have n1_ := Aside0.mk (blk_below (pK BK107.out) hb); have n2_ := Aside0.mk (below_step (pB HB.out) hb); clear BK107; clear HB; have HO110 := n0_; have BK107 := n1_; have HB := n2_; clear n0_ n1_ n2_; (try clear hb); (try clear hb2); (try clear hk); (try clear hi); (try clear ho0); obtain ⟨hcz12_0, hcz12_1, hcz12_2, hfz12_0, hfz12_1, hfz12_2⟩ := bk3 BK107.out))
        go_loopg [5] kj1 (fun kq v5 w' => ∃ (x4_2 : List Bool) (x5_2 : Int), v5 = .int .i64 x5_2 ∧ Aside0 (arena_Check.l0 kq (l0_0.length : Int) x4_2 x5_2 l0_0 l0_1 a0_2 = some r) ∧ Aside0 (kq ≤ kj1) ∧ Aside0 (Kd.R Kd.bool 4 w' w.heap.size (fun _ => True) v109 x4_2) ∧ Aside0 (w'.heap[gb107]? = some (.cells #[(.slice A0_0 l0_0.length c0_0), (.slice A0_1 l0_1.length c0_1), .int .i64 a0_2] 36 (0, 0))) ∧ Aside0 (Below w.heap.size w w'))
        case atStart => exact ⟨(t108), (a0_2), (by first | rfl | (simp; done) | (simp [*]; done)), H', ⟨Nat.le_refl _⟩, ⟨Kd.pR HO110.out⟩, ⟨pK BK107.out⟩, ⟨pB HB.out⟩⟩
        case round =>
          clear H'
          try clear p2
          try clear c3
          try clear c5
          try clear c5b0
          try clear c5b1
          try clear c6
          try clear c6b0
          try clear c6b1
          try clear c8
          try clear hcz10_0
          try clear hcz10_1
          try clear hcz10_2
          try clear hcz12_0
          try clear hcz12_1
          try clear hcz12_2
          try clear hcz4_0
          try clear hcz4_1
          try clear hcz4_2
          try clear hcz7_0
          try clear hcz7_1
          try clear hcz7_2
          try clear hfz10_0
          try clear hfz10_1
          try clear hfz10_2
          try clear hfz12_0
          try clear hfz12_1
          try clear hfz12_2
          try clear hfz4_0
          try clear hfz4_1
          try clear hfz4_2
          try clear hfz7_0
          try clear hfz7_1
          try clear hfz7_2
          try clear p2
          obtain ⟨x4_2, x5_2, rfl, HA, HK2, HO_4, BK107, HB⟩ := hrel
          cases gk with
          | zero => exact absurd HA.out (by simp [arena_Check.l0])
          | succ k2 =>
            have H := HA.out
            clear HA
            simp only [arena_Check.l0] at H
            by_cases c13 : x5_2 = (-1)
            · rw [if_pos c13] at H
              have c13b0 : (x5_2 == (-1)) = true := beq_iff_eq.mpr c13
              have c13b1 : (x5_2 != (-1)) = false := bne_eq_false_iff_eq.mpr c13
              clear c13
              have H' := Aside0.mk H
              clear H
              obtain ⟨hcz14_0, hcz14_1, hcz14_2, hfz14_0, hfz14_1, hfz14_2⟩ := bk3 BK107.out
              go_wp2
              go_loopg [55] k2 (fun kq v55 w' => ∃ (x55_3 : Int), v55 = .int .i64 x55_3 ∧ Aside0 (arena_Check.l1 kq x4_2 l0_1 (l0_1.length : Int) x55_3 l0_0 l0_1 a0_2 = some r) ∧ Aside0 (kq ≤ k2) ∧ Aside0 (Kd.R Kd.bool 4 w' w.heap.size (fun _ => True) v109 x4_2) ∧ Aside0 (w'.heap[gb107]? = some (.cells #[(.slice A0_0 l0_0.length c0_0), (.slice A0_1 l0_1.length c0_1), .int .i64 a0_2] 36 (0, 0))) ∧ Aside0 (Below w.heap.size w w'))
              case atStart => exact ⟨(0), (by first | rfl | (simp; done) | (simp [*]; done)), H', ⟨Nat.le_refl _⟩, ⟨Kd.pR HO_4.out⟩, ⟨pK BK107.out⟩, ⟨pB HB.out⟩⟩
              case round =>
                clear H'
                try clear c1
                try clear p2
                try clear c3
                try clear c5
                try clear c5b0
                try clear c5b1
                try clear c6
                try clear c6b0
                try clear c6b1
                try clear c8
                try clear c13
                try clear c13b0
                try clear c13b1
                try clear hcz10_0
                try clear hcz10_1
                try clear hcz10_2
                try clear hcz12_0
                try clear hcz12_1
                try clear hcz12_2
                try clear hcz14_0
                try clear hcz14_1
                try clear hcz14_2
                try clear hcz4_0
                try clear hcz4_1
                try clear hcz4_2
                try clear hcz7_0
                try clear hcz7_1
                try clear hcz7_2
                try clear hfz10_0
                try clear hfz10_1
                try clear hfz10_2
                try clear hfz12_0
                try clear hfz12_1
                try clear hfz12_2
                try clear hfz14_0
                try clear hfz14_1
                try clear hfz14_2
                try clear hfz4_0
                try clear hfz4_1
                try clear hfz4_2
                try clear hfz7_0
                try clear hfz7_1
                try clear hfz7_2
                try clear p2
                obtain ⟨x55_3, rfl, HA, HK3, HO_4, BK107, HB⟩ := hrel
                cases gk with
                | zero => exact absurd HA.out (by simp [arena_Check.l1])
                | succ k3 =>
                  have H := HA.out
                  (try clear HA)
                  simp only [arena_Check.l1] at H
                  by_cases c15 : x55_3 < (l0_1.length : Int)
                  · rw [if_pos c15] at H
                    have c15b0 : decide (x55_3 < (l0_1.length : Int)) = true := decide_eq_true c15
                    clear c15
                    by_cases c16 : 0 ≤ x55_3
                    · rw [if_pos c16] at H
                      have c16b0 : decide (0 ≤ x55_3) = true := decide_eq_true c16
                      clear c16
                      by_cases c17 : x55_3 < (l0_1.length : Int)
                      · rw [if_pos c17] at H
                        have c17b0 : decide (x55_3 < (l0_1.length : Int)) = true := decide_eq_true c17
                        clear c17
                        by_cases c18 : x55_3 < (x4_2.length : Int)
                        · rw [if_pos c18] at H
                          have c18b0 : decide (x55_3 < (x4_2.length : Int)) = true := decide_eq_true c18
                          clear c18
                          obtain ⟨bq19, hbq19⟩ : ∃ b_ : Bool, b_ = (rdOf false x4_2 x55_3) := ⟨_, rfl⟩
                          replace H : (if bq19 = true then (if rdOf false l0_1 x55_3 = true then (if x55_3 < (l0_0.length : Int) then (if (rd l0_0 x55_3) = (-1) then (arena_Check.l1 k3 x4_2 l0_1 (l0_1.length : Int) (wrap64 (x55_3 + 1)) l0_0 l0_1 a0_2) else (some 8)) else (none)) else (arena_Check.l1 k3 x4_2 l0_1 (l0_1.length : Int) (wrap64 (x55_3 + 1)) l0_0 l0_1 a0_2)) else (some 8)) = some r := by rw [← hbq19] at H; exact H
                          have Nbq19 := Aside0.mk hbq19
                          (try clear hbq19)
                          by_cases c20 : bq19 = true
                          · subst c20
                            have H1 : (if rdOf false l0_1 x55_3 = true then (if x55_3 < (l0_0.length : Int) then (if (rd l0_0 x55_3) = (-1) then (arena_Check.l1 k3 x4_2 l0_1 (l0_1.length : Int) (wrap64 (x55_3 + 1)) l0_0 l0_1 a0_2) else (some 8)) else (none)) else (arena_Check.l1 k3 x4_2 l0_1 (l0_1.length : Int) (wrap64 (x55_3 + 1)) l0_0 l0_1 a0_2)) = some r := by rw [if_pos rfl] at H; exact H
                            clear H
                            have H := H1
                            clear H1
                            obtain ⟨bq21, hbq21⟩ : ∃ b_ : Bool, b_ = (rdOf false l0_1 x55_3) := ⟨_, rfl⟩
                            replace H : (if bq21 = true then (if x55_3 < (l0_0.length : Int) then (if (rd l0_0 x55_3) = (-1) then (arena_Check.l1 k3 x4_2 l0_1 (l0_1.length : Int) (wrap64 (x55_3 + 1)) l0_0 l0_1 a0_2) else (some 8)) else (none)) else (arena_Check.l1 k3 x4_2 l0_1 (l0_1.length : Int) (wrap64 (x55_3 + 1)) l0_0 l0_1 a0_2)) = some r := by rw [← hbq21] at H; exact H
                            have Nbq21 := Aside0.mk hbq21
                            (try clear hbq21)
                            by_cases c22 : bq21 = true
                            · subst c22
                              have H1 : (if x55_3 < (l0_0.length : Int) then (if (rd l0_0 x55_3) = (-1) then (arena_Check.l1 k3 x4_2 l0_1 (l0_1.length : Int) (wrap64 (x55_3 + 1)) l0_0 l0_1 a0_2) else (some 8)) else (none)) = some r := by rw [if_pos rfl] at H; exact H
                              clear H
                              have H := H1
                              clear H1
                              by_cases c23 : x55_3 < (l0_0.length : Int)
                              · rw [if_pos c23] at H
                                have c23b0 : decide (x55_3 < (l0_0.length : Int)) = true := decide_eq_true c23
                                clear c23
                                by_cases c24 : (rd l0_0 x55_3) = (-1)
                                · rw [if_pos c24] at H
                                  have c24b0 : ((rd l0_0 x55_3) == (-1)) = true := beq_iff_eq.mpr c24
                                  have c24b1 : ((rd l0_0 x55_3) != (-1)) = false := bne_eq_false_iff_eq.mpr c24
                                  clear c24
                                  have H' := Aside0.mk H
                                  clear H
                                  have p114 : 0 ≤ (x55_3 : Int) := od
                                  have q114 : x55_3 < (l0_1.length : Int) := od
                                  obtain ⟨ad114, e114, hx114_0⟩ := Kd.at_bool HR0_1.out x55_3 p114 q114
                                  (try rw [← Nbq19.out] at hx114_0)
                                  (try rw [← Nbq21.out] at hx114_0)
                                  cases e114
                                  replace hx114_0 := (HB.out.cell (World.block_lt_of_cell? w _ hx114_0)).trans hx114_0
                                  replace p114 := eq_true p114
                                  replace q114 := eq_true q114
                                  obtain ⟨Ao25, co25, eo25⟩ := Kd.R_slice HO_4.out
                                  subst eo25
                                  have p115 : 0 ≤ (x55_3 : Int) := od
                                  have q115 : x55_3 < (x4_2.length : Int) := od
                                  obtain ⟨ad115, e115, hx115_0⟩ := Kd.at_bool (Kd.R_reads' HO_4.out).2.2 x55_3 p115 q115
                                  (try rw [← Nbq19.out] at hx115_0)
                                  (try rw [← Nbq21.out] at hx115_0)
                                  cases e115
                                  replace p115 := eq_true p115
                                  replace q115 := eq_true q115
                                  obtain ⟨hcz26_0, hcz26_1, hcz26_2, hfz26_0, hfz26_1, hfz26_2⟩ := bk3 BK107.out
                                  have p116 : 0 ≤ (x55_3 : Int) := od
                                  have q116 : x55_3 < (l0_0.length : Int) := od
                                  obtain ⟨ad116, e116, hx116_0⟩ := Kd.at_int HR0_0.out x55_3 p116 q116
                                  cases e116
                                  replace hx116_0 := (HB.out.cell (World.block_lt_of_cell? w _ hx116_0)).trans hx116_0
                                  replace p116 := eq_true p116
                                  replace q116 := eq_true q116
                                  go_wp2
                                  go_roundg k3
                                  case measure => have := HJ1.out; have := HK2.out; have := HK3.out; omega
                                  case rel => exact ⟨(wrap64 (x55_3 + 1)), (by first | rfl | (simp; done) | (simp [*]; done)), H', ⟨by have := HJ1.out; have := HK2.out; have := HK3.out; omega⟩, ⟨Kd.pR HO_4.out⟩, ⟨pK BK107.out⟩, ⟨pB HB.out⟩⟩
                                · rw [if_neg c24] at H
                                  have c24b0 : ((rd l0_0 x55_3) == (-1)) = false := beq_eq_false_iff_ne.mpr c24
                                  have c24b1 : ((rd l0_0 x55_3) != (-1)) = true := bne_iff_ne.mpr c24
                                  obtain rfl := Option.some.inj H
                                  have p114 : 0 ≤ (x55_3 : Int) := od
                                  have q114 : x55_3 < (l0_1.length : Int) := od
                                  obtain ⟨ad114, e114, hx114_0⟩ := Kd.at_bool HR0_1.out x55_3 p114 q114
                                  (try rw [← Nbq19.out] at hx114_0)
                                  (try rw [← Nbq21.out] at hx114_0)
                                  cases e114
                                  replace hx114_0 := (HB.out.cell (World.block_lt_of_cell? w _ hx114_0)).trans hx114_0
                                  replace p114 := eq_true p114
                                  replace q114 := eq_true q114
                                  obtain ⟨Ao27, co27, eo27⟩ := Kd.R_slice HO_4.out
                                  subst eo27
                                  have p115 : 0 ≤ (x55_3 : Int) := od
                                  have q115 : x55_3 < (x4_2.length : Int) := od
                                  obtain ⟨ad115, e115, hx115_0⟩ := Kd.at_bool (Kd.R_reads' HO_4.out).2.2 x55_3 p115 q115
                                  (try rw [← Nbq19.out] at hx115_0)
                                  (try rw [← Nbq21.out] at hx115_0)
                                  cases e115
                                  replace p115 := eq_true p115
                                  replace q115 := eq_true q115
                                  obtain ⟨hcz28_0, hcz28_1, hcz28_2, hfz28_0, hfz28_1, hfz28_2⟩ := bk3 BK107.out
                                  have p116 : 0 ≤ (x55_3 : Int) := od
                                  have q116 : x55_3 < (l0_0.length : Int) := od
                                  obtain ⟨ad116, e116, hx116_0⟩ := Kd.at_int HR0_0.out x55_3 p116 q116
                                  cases e116
                                  replace hx116_0 := (HB.out.cell (World.block_lt_of_cell? w _ hx116_0)).trans hx116_0
                                  replace p116 := eq_true p116
                                  replace q116 := eq_true q116
                                  go_wp2
                                  go_ret
                                  exact ⟨by first | rfl | (simp [errW_none, errW_some] <;> rfl) | (simp [*, errW_none, errW_some] <;> rfl), pB HB.out⟩
                              · rw [if_neg c23] at H
                                exact absurd H (by simp)
                            · replace c22 := Bool.eq_false_iff.mpr c22
                              subst c22
                              have H1 : (arena_Check.l1 k3 x4_2 l0_1 (l0_1.length : Int) (wrap64 (x55_3 + 1)) l0_0 l0_1 a0_2) = some r := by rw [if_neg (show ¬ (false = true) by decide)] at H; exact H
                              clear H
                              have H := H1
                              clear H1
                              have H' := Aside0.mk H
                              clear H
                              have p114 : 0 ≤ (x55_3 : Int) := od
                              have q114 : x55_3 < (l0_1.length : Int) := od
                              obtain ⟨ad114, e114, hx114_0⟩ := Kd.at_bool HR0_1.out x55_3 p114 q114
                              (try rw [← Nbq19.out] at hx114_0)
                              (try rw [← Nbq21.out] at hx114_0)
                              cases e114
                              replace hx114_0 := (HB.out.cell (World.block_lt_of_cell? w _ hx114_0)).trans hx114_0
                              replace p114 := eq_true p114
                              replace q114 := eq_true q114
                              obtain ⟨Ao29, co29, eo29⟩ := Kd.R_slice HO_4.out
                              subst eo29
                              have p115 : 0 ≤ (x55_3 : Int) := od
                              have q115 : x55_3 < (x4_2.length : Int) := od
                              obtain ⟨ad115, e115, hx115_0⟩ := Kd.at_bool (Kd.R_reads' HO_4.out).2.2 x55_3 p115 q115
                              (try rw [← Nbq19.out] at hx115_0)
                              (try rw [← Nbq21.out] at hx115_0)
                              cases e115
                              replace p115 := eq_true p115
                              replace q115 := eq_true q115
                              go_wp2
                              go_roundg k3
                              case measure => have := HJ1.out; have := HK2.out; have := HK3.out; omega
                              case rel => exact ⟨(wrap64 (x55_3 + 1)), (by first | rfl | (simp; done) | (simp [*]; done)), H', ⟨by have := HJ1.out; have := HK2.out; have := HK3.out; omega⟩, ⟨Kd.pR HO_4.out⟩, ⟨pK BK107.out⟩, ⟨pB HB.out⟩⟩
                          · replace c20 := Bool.eq_false_iff.mpr c20
                            subst c20
                            have H1 : (some 8) = some r := by rw [if_neg (show ¬ (false = true) by decide)] at H; exact H
                            clear H
                            have H := H1
                            clear H1
                            obtain rfl := Option.some.inj H
                            have p114 : 0 ≤ (x55_3 : Int) := od
                            have q114 : x55_3 < (l0_1.length : Int) := od
                            obtain ⟨ad114, e114, hx114_0⟩ := Kd.at_bool HR0_1.out x55_3 p114 q114
                            (try rw [← Nbq19.out] at hx114_0)
                            cases e114
                            replace hx114_0 := (HB.out.cell (World.block_lt_of_cell? w _ hx114_0)).trans hx114_0
                            replace p114 := eq_true p114
                            replace q114 := eq_true q114
                            obtain ⟨Ao30, co30, eo30⟩ := Kd.R_slice HO_4.out
                            subst eo30
                            have p115 : 0 ≤ (x55_3 : Int) := od
                            have q115 : x55_3 < (x4_2.length : Int) := od
                            obtain ⟨ad115, e115, hx115_0⟩ := Kd.at_bool (Kd.R_reads' HO_4.out).2.2 x55_3 p115 q115
                            (try rw [← Nbq19.out] at hx115_0)
                            cases e115
                            replace p115 := eq_true p115
                            replace q115 := eq_true q115
                            go_wp2
                            go_ret
                            exact ⟨by first | rfl | (simp [errW_none, errW_some] <;> rfl) | (simp [*, errW_none, errW_some] <;> rfl), pB HB.out⟩
                        · rw [if_neg c18] at H
                          exact absurd H (by simp)
                      · rw [if_neg c17] at H
                        exact absurd H (by simp)
                    · rw [if_neg c16] at H
                      exact absurd H (by simp)
                  · rw [if_neg c15] at H
                    have c15b0 : decide (x55_3 < (l0_1.length : Int)) = false := decide_eq_false c15
                    (try clear c15)
                    obtain rfl := Option.some.inj H
                    go_wp2
                    go_ret
                    exact ⟨by first | rfl | (simp [errW_none, errW_some] <;> rfl) | (simp [*, errW_none, errW_some] <;> rfl), pB HB.out⟩
            · rw [if_neg c13] at H
              have c13b0 : (x5_2 == (-1)) = false := beq_eq_false_iff_ne.mpr c13
              have c13b1 : (x5_2 != (-1)) = true := bne_iff_ne.mpr c13
              by_cases c31 : x5_2 < 0
              · rw [if_pos c31] at H
                have c31b0 : decide (x5_2 < 0) = true := decide_eq_true c31
                clear c31
                obtain rfl := Option.some.inj H
                go_wp2
                go_ret
                exact ⟨by first | rfl | (simp [errW_none, errW_some] <;> rfl) | (simp [*, errW_none, errW_some] <;> rfl), pB HB.out⟩
              · rw [if_neg c31] at H
                have c31b0 : decide (x5_2 < 0) = false := decide_eq_false c31
                (try clear c31)
                by_cases c32 : x5_2 ≥ (l0_0.length : Int)
                · rw [if_pos c32] at H
                  have c32b0 : decide ((l0_0.length : Int) ≤ x5_2) = true := decide_eq_true c32
                  clear c32
                  obtain rfl := Option.some.inj H
                  go_wp2
                  go_ret
                  exact ⟨by first | rfl | (simp [errW_none, errW_some] <;> rfl) | (simp [*, errW_none, errW_some] <;> rfl), pB HB.out⟩
                · rw [if_neg c32] at H
                  have c32b0 : decide ((l0_0.length : Int) ≤ x5_2) = false := decide_eq_false c32
                  (try clear c32)
                  by_cases c33 : 0 ≤ x5_2
                  · rw [if_pos c33] at H
                    have c33b0 : decide (0 ≤ x5_2) = true := decide_eq_true c33
                    clear c33
                    by_cases c34 : x5_2 < (x4_2.length : Int)
                    · rw [if_pos c34] at H
                      have c34b0 : decide (x5_2 < (x4_2.length : Int)) = true := decide_eq_true c34
                      clear c34
                      obtain ⟨bq35, hbq35⟩ : ∃ b_ : Bool, b_ = (rdOf false x4_2 x5_2) := ⟨_, rfl⟩
                      replace H : (if bq35 = true then (some 8) else (if x5_2 < (l0_0.length : Int) then (arena_Check.l0 k2 (l0_0.length : Int) (x4_2.set (x5_2 : Int).toNat true) (rd l0_0 x5_2) l0_0 l0_1 a0_2) else (none))) = some r := by rw [← hbq35] at H; exact H
                      have Nbq35 := Aside0.mk hbq35
                      (try clear hbq35)
                      by_cases c36 : bq35 = true
                      · subst c36
                        have H1 : (some 8) = some r := by rw [if_pos rfl] at H; exact H
                        clear H
                        have H := H1
                        clear H1
                        obtain rfl := Option.some.inj H
                        obtain ⟨Ao37, co37, eo37⟩ := Kd.R_slice HO_4.out
                        subst eo37
                        have p111 : 0 ≤ (x5_2 : Int) := od
                        have q111 : x5_2 < (x4_2.length : Int) := od
                        obtain ⟨ad111, e111, hx111_0⟩ := Kd.at_bool (Kd.R_reads' HO_4.out).2.2 x5_2 p111 q111
                        (try rw [← Nbq35.out] at hx111_0)
                        cases e111
                        replace p111 := eq_true p111
                        replace q111 := eq_true q111
                        go_wp2
                        go_ret
                        exact ⟨by first | rfl | (simp [errW_none, errW_some] <;> rfl) | (simp [*, errW_none, errW_some] <;> rfl), pB HB.out⟩
                      · replace c36 := Bool.eq_false_iff.mpr c36
                        subst c36
                        have H1 : (if x5_2 < (l0_0.length : Int) then (arena_Check.l0 k2 (l0_0.length : Int) (x4_2.set (x5_2 : Int).toNat true) (rd l0_0 x5_2) l0_0 l0_1 a0_2) else (none)) = some r := by rw [if_neg (show ¬ (false = true) by decide)] at H; exact H
                        clear H
                        have H := H1
                        (try clear H1)
                        obtain ⟨y112, hy112⟩ : ∃ y_ : List Bool, y_ = (x4_2.set (x5_2 : Int).toNat true) := ⟨_, rfl⟩
                        replace H : (if x5_2 < (l0_0.length : Int) then (arena_Check.l0 k2 (l0_0.length : Int) y112 (rd l0_0 x5_2) l0_0 l0_1 a0_2) else (none)) = some r := by first | (rw [hy112]; with_reducible exact H) | (have H2_ := (Option.bind_some _ _).symm.trans H; rw [hy112]; with_reducible exact H2_) | (have H2_ := (Option.bind_some _ _).symm.trans H; with_reducible exact H2_) | with_reducible exact H | (rw [hy112]; exact H) | exact H
                        have Ny112 := Aside0.mk hy112
                        (try clear hy112)
                        by_cases c39 : x5_2 < (l0_0.length : Int)
                        · rw [if_pos c39] at H
                          have c39b0 : decide (x5_2 < (l0_0.length : Int)) = true := decide_eq_true c39
                          clear c39
                          have H' := Aside0.mk H
                          clear H
                          obtain ⟨Ao40, co40, eo40⟩ := Kd.R_slice HO_4.out
                          subst eo40
                          have p111 : 0 ≤ (x5_2 : Int) := od
                          have q111 : x5_2 < (x4_2.length : Int) := od
                          obtain ⟨ad111, e111, hx111_0⟩ := Kd.at_bool (Kd.R_reads' HO_4.out).2.2 x5_2 p111 q111
                          (try rw [← Nbq35.out] at hx111_0)
                          cases e111
                          replace p111 := eq_true p111
                          replace q111 := eq_true q111
                          have p38 : 0 ≤ (x5_2 : Int) := od
                          have q38 : (x5_2 : Int) < ((x4_2.length : Int) : Int) := od
                          obtain ⟨go38, co38, eo38, gb38, gl38, cl38, HG38⟩ := Kd.R_form HO_4.out (by omega)
                          (first | cases eo38 | (injection eo38 with ea_ en_ ec_; (first | subst ea_ | (injection ea_ with ea_; subst ea_)); subst ec_; clear en_))
                          have GB38 := Aside0.mk gb38
                          have GG38 := Aside0.mk HG38
                          clear gb38 gl38 HG38
                          (first | simp only [add_plain] at hx111_0 | skip)
                          obtain ⟨hx38_0, hf38_0⟩ := Kd.R_celln false HO_4.out (x5_2 : Int) p38 q38
                          replace p38 := eq_true p38
                          replace q38 := eq_true q38
                          have HP41 := Kd.R_putg HO_4.out (x5_2 : Int) true
                          go_wp2_with (first | ((with_reducible refine gate_store (t := 4) (p := 51) rfl ?_); refine store_event (t := 4) (p := 51) (v := ?vo_w42) (w1 := (wr.setCell ⟨go38, (x5_2 : Int).toNat, none⟩ (.bool true))) ?hg ?ho ?hn ?hr ?_; (case ho => rfl); (case hg => rfl); (case hn => rfl); (case hr => first | (go_simp; done) | (go_simp; rfl)); intro w42 hw; have hg : wr.grownBy w42 (some go38) := (by rw [hw]; exact HP41.2); have hp_ : Kd.R Kd.bool 4 w42 w.heap.size (fun _ => True) (.slice (some ⟨go38, 0, none⟩) x4_2.length co40) y112 := (by rw [hw, Ny112.out]; exact HP41.1); (try clear HP41); have n0_ := Aside0.mk (hp_); have n1_ := Aside0.mk (blk_grown (pK BK107.out) hg (Kd.R_ne HO_4.out BK107.out (by decide))); have n2_ := Aside0.mk ((by rw [hw]; exact below_set (HB.out) GB38.out : Below w.heap.size w w42)); clear HO_4; clear BK107; clear HB; have HO_4 := n0_; have BK107 := n1_; have HB := n2_; clear n0_ n1_ n2_; clear hg hw hp_; obtain ⟨hcz43_0, hcz43_1, hcz43_2, hfz43_0, hfz43_1, hfz43_2⟩ := bk3 BK107.out; have p113 : 0 ≤ (x5_2 : Int) := od; have q113 : x5_2 < (l0_0.length : Int) := od; obtain ⟨ad113, e113, hx113_0⟩ := Kd.at_int HR0_0.out x5_2 p113 q113; cases e113; replace hx113_0 := (HB.out.cell (World.block_lt_of_cell? w _ hx113_0)).trans hx113_0; replace p113 := eq_true p113; replace q113 := eq_true q113))
                          go_roundg k2
                          case measure => have := HJ1.out; have := HK2.out; omega
                          case rel => exact ⟨(y112), (rd l0_0 x5_2), (by first | rfl | (simp; done) | (simp [*]; done)), H', ⟨by have := HJ1.out; have := HK2.out; omega⟩, ⟨Kd.pR HO_4.out⟩, ⟨pK BK107.out⟩, ⟨pB HB.out⟩⟩
                        · rw [if_neg c39] at H
                          exact absurd H (by simp)
                    · rw [if_neg c34] at H
                      exact absurd H (by simp)
                  · rw [if_neg c33] at H
                    exact absurd H (by simp)

end Go.Proofs.Ytlgfopdindklnaa.PArena
