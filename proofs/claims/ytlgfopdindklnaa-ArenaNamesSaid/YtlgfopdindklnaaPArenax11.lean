-- printed by a program of this session (a turned copy of the kit's print); Lean checks it
import Derived.Test.YtlgfopdindklnaaPArenax0
import Derived.Test.YtlgfopdindklnaaPArenax9
import Derived.Test.YtlgfopdindklnaaPArenax10
namespace Go.Proofs.Ytlgfopdindklnaa.PArena
open Go.RowKit Go.Proofs.YtlgfopdindklnaaW.PrintWords Go.Proofs.YtlgfopdindklnaaW.PrintLast Go.Proofs.YtlgfopdindklnaaW.PrintMore
attribute [local go_sem] max2_int min2_int max_two min_two max_three min_three max_four min_four   -- for this text's walks alone
set_option linter.unusedVariables false
set_option linter.unusedSimpArgs false

/-! ### spigotref13_Check: function 24 -/
mutual
def spigotref13_Check.j0 : Nat → Bool → List Int → List Bool → Int → Option (Int)
  | 0, _, _, _, _ => none
  | k + 1, x24, x245000, x245001, x245002 => if x24 = true then (some 8) else ((spigotref13_Free.f k x245000 x245001 x245002).bind fun bt245 => (if bt245.2 = true then (spigotref13_Check.l0 k bt245.1 0 x245000 x245001 x245002) else (some 8)))
def spigotref13_Check.l0 : Nat → List Int → Int → List Int → List Bool → Int → Option (Int)
  | 0, _, _, _, _, _ => none
  | k + 1, x3, x5, x245000, x245001, x245002 => if x5 < (x245001.length : Int) then (if 0 ≤ x5 then ((spigotref13_In.f k x3 x5).bind fun t250 => (if ((rdOf false x245001 x5) == t250) = true then (some 8) else (if rdOf false x245001 x5 = true then (if x5 < (x245000.length : Int) then (if (rd x245000 x5) = (-1) then (spigotref13_Check.l0 k x3 (wrap64 (x5 + 1)) x245000 x245001 x245002) else (some 8)) else (none)) else (spigotref13_Check.l0 k x3 (wrap64 (x5 + 1)) x245000 x245001 x245002)))) else (none)) else (some 0)
end
def spigotref13_Check.f (k : Nat) (l0_0 : List Int) (l0_1 : List Bool) (a0_2 : Int) : Option (Int) := if (l0_0.length : Int) < 1 then (spigotref13_Check.j0 k true l0_0 l0_1 a0_2) else (if (l0_0.length : Int) > 16 then (spigotref13_Check.j0 k true l0_0 l0_1 a0_2) else (spigotref13_Check.j0 k ((l0_1.length : Int) != (l0_0.length : Int)) l0_0 l0_1 a0_2))
theorem spigotref13_Check.mono_l : ∀ k, (∀ y0 y1 y2 y3, LeO (spigotref13_Check.j0 k y0 y1 y2 y3) (spigotref13_Check.j0 (k + 1) y0 y1 y2 y3)) ∧ (∀ y0 y1 y2 y3 y4, LeO (spigotref13_Check.l0 k y0 y1 y2 y3 y4) (spigotref13_Check.l0 (k + 1) y0 y1 y2 y3 y4))
  | 0 => ⟨fun _ _ _ _ r h => by simp [spigotref13_Check.j0] at h, fun _ _ _ _ _ r h => by simp [spigotref13_Check.l0] at h⟩
  | k + 1 => by
    obtain ⟨ih0, ih1⟩ := spigotref13_Check.mono_l k
    refine ⟨?_, ?_⟩
    · intro y0 y1 y2 y3
      unfold spigotref13_Check.j0
      repeat' first
      | (with_reducible exact ih0 _ _ _ _)
      | (with_reducible exact ih1 _ _ _ _ _)
      | (with_reducible exact spigotref13_Free.mono _ _ _ _)
      | (with_reducible exact spigotref13_In.mono _ _ _)
      | (with_reducible exact LeO.refl _)
      | (with_reducible exact LeO.none _)
      | (with_reducible refine LeO.ite ?_ ?_)
      | (with_reducible refine LeO.bind ?_ (fun _ => ?_))
      | exact ih0 _ _ _ _
      | exact ih1 _ _ _ _ _
      | exact spigotref13_Free.mono _ _ _ _
      | exact spigotref13_In.mono _ _ _
      | exact LeO.none _
      | refine LeO.ite ?_ ?_
      | refine LeO.bind ?_ (fun _ => ?_)
    · intro y0 y1 y2 y3 y4
      unfold spigotref13_Check.l0
      repeat' first
      | (with_reducible exact ih0 _ _ _ _)
      | (with_reducible exact ih1 _ _ _ _ _)
      | (with_reducible exact spigotref13_Free.mono _ _ _ _)
      | (with_reducible exact spigotref13_In.mono _ _ _)
      | (with_reducible exact LeO.refl _)
      | (with_reducible exact LeO.none _)
      | (with_reducible refine LeO.ite ?_ ?_)
      | (with_reducible refine LeO.bind ?_ (fun _ => ?_))
      | exact ih0 _ _ _ _
      | exact ih1 _ _ _ _ _
      | exact spigotref13_Free.mono _ _ _ _
      | exact spigotref13_In.mono _ _ _
      | exact LeO.none _
      | refine LeO.ite ?_ ?_
      | refine LeO.bind ?_ (fun _ => ?_)
theorem spigotref13_Check.mono : ∀ a0 a1 a2 k, LeO (spigotref13_Check.f k a0 a1 a2) (spigotref13_Check.f (k + 1) a0 a1 a2) := by
  intro a0 a1 a2 k
  obtain ⟨ih0, ih1⟩ := spigotref13_Check.mono_l k
  unfold spigotref13_Check.f
  repeat' first
      | (with_reducible exact ih0 _ _ _ _)
      | (with_reducible exact ih1 _ _ _ _ _)
      | (with_reducible exact spigotref13_Free.mono _ _ _ _)
      | (with_reducible exact spigotref13_In.mono _ _ _)
      | (with_reducible exact LeO.refl _)
      | (with_reducible exact LeO.none _)
      | (with_reducible refine LeO.ite ?_ ?_)
      | (with_reducible refine LeO.bind ?_ (fun _ => ?_))
      | exact ih0 _ _ _ _
      | exact ih1 _ _ _ _ _
      | exact spigotref13_Free.mono _ _ _ _
      | exact spigotref13_In.mono _ _ _
      | exact LeO.none _
      | refine LeO.ite ?_ ?_
      | refine LeO.bind ?_ (fun _ => ?_)
set_option maxHeartbeats 8000000 in
set_option maxRecDepth 100000 in
theorem spigotref13_Check.calls (k : Nat) (A0_0 : Option Addr) (c0_0 : Nat) (l0_0 : List Int) (A0_1 : Option Addr) (c0_1 : Nat) (l0_1 : List Bool) (a0_2 : Int) (r : Int) (w : World) (hr0_0 : Kd.C (Kd.int .i64) w A0_0 l0_0.length l0_0) (hc0_0 : l0_0.length ≤ c0_0) (hr0_1 : Kd.C Kd.bool w A0_1 l0_1.length l0_1) (hc0_1 : l0_1.length ≤ c0_1) (h : spigotref13_Check.f k l0_0 l0_1 a0_2 = some r) :
    Calls Try.prog 24 #[.agg #[.slice A0_0 l0_0.length c0_0, .slice A0_1 l0_1.length c0_1, .int .i64 a0_2]] w fun e w' => e = .returned (.int .i64 r) ∧ Below w.heap.size w w' := by
  have hu36 := Try.underlying36
  have HR0_0 := Aside0.mk hr0_0
  have HC0_0 := Aside0.mk hc0_0
  clear hr0_0 hc0_0
  have HR0_1 := Aside0.mk hr0_1
  have HC0_1 := Aside0.mk hc0_1
  clear hr0_1 hc0_1
  have HB := Aside0.mk (Below.refl w.heap.size w)
  have H : (if (l0_0.length : Int) < 1 then (spigotref13_Check.j0 k true l0_0 l0_1 a0_2) else (if (l0_0.length : Int) > 16 then (spigotref13_Check.j0 k true l0_0 l0_1 a0_2) else (spigotref13_Check.j0 k ((l0_1.length : Int) != (l0_0.length : Int)) l0_0 l0_1 a0_2))) = some r := h
  (try clear h)
  have HC2 := Aside0.mk H
  clear H
  go_enter Try.func24, Try.ntmps24
  go_upto_region 1 with (first | ((with_reducible refine gate_dst (N := 1) rfl ?_); (try (refine gate_guard (by rfl) ?_; dsimp only)); refine boxE (N := 1) (cs := #[.slice A0_0 l0_0.length c0_0, .slice A0_1 l0_1.length c0_1, .int .i64 a0_2]) (t := 36) ?_; intro gb244 hg w3 hbox hb; have n0_ := Aside0.mk (below_step (pB HB.out) hb); have n1_ := Aside0.mk (hbox); have n2_ := Aside0.mk (pL HB.out hg); have n3_ := Aside0.mk (pL HB.out hg); clear HB; have HB := n0_; have BK244 := n1_; have GW244 := n2_; have GE244 := n3_; clear n0_ n1_ n2_ n3_; clear hb hbox hg))
  repeat (go_quiet (first | ((with_reducible refine gate_dst (N := 1) rfl ?_); (try (refine gate_guard (by rfl) ?_; dsimp only)); refine boxE (N := 1) (cs := #[.slice A0_0 l0_0.length c0_0, .slice A0_1 l0_1.length c0_1, .int .i64 a0_2]) (t := 36) ?_; intro gb244 hg w3 hbox hb; have n0_ := Aside0.mk (below_step (pB HB.out) hb); have n1_ := Aside0.mk (hbox); have n2_ := Aside0.mk (pL HB.out hg); have n3_ := Aside0.mk (pL HB.out hg); clear HB; have HB := n0_; have BK244 := n1_; have GW244 := n2_; have GE244 := n3_; clear n0_ n1_ n2_ n3_; clear hb hbox hg)); go_upto_region 1 with (first | ((with_reducible refine gate_dst (N := 1) rfl ?_); (try (refine gate_guard (by rfl) ?_; dsimp only)); refine boxE (N := 1) (cs := #[.slice A0_0 l0_0.length c0_0, .slice A0_1 l0_1.length c0_1, .int .i64 a0_2]) (t := 36) ?_; intro gb244 hg w3 hbox hb; have n0_ := Aside0.mk (below_step (pB HB.out) hb); have n1_ := Aside0.mk (hbox); have n2_ := Aside0.mk (pL HB.out hg); have n3_ := Aside0.mk (pL HB.out hg); clear HB; have HB := n0_; have BK244 := n1_; have GW244 := n2_; have GE244 := n3_; clear n0_ n1_ n2_ n3_; clear hb hbox hg)))
  (try simp only [Act.put, List.setIfInBounds_toArray, List.set_cons_zero, List.set_cons_succ])
  go_cut [24] (fun v24 wc => ∃ (kq : Nat) (x24_1 : Bool), v24 = .bool x24_1 ∧ Aside0 (spigotref13_Check.j0 kq x24_1 l0_0 l0_1 a0_2 = some r) ∧ Aside0 (kq ≤ k) ∧ Aside0 (wc.heap[gb244]? = some (.cells #[(.slice A0_0 l0_0.length c0_0), (.slice A0_1 l0_1.length c0_1), .int .i64 a0_2] 36 (0, 0))) ∧ Aside0 (Below w.heap.size w wc))
  case first =>
    have H := HC2.out
    (try clear HC2)
    by_cases c4 : (l0_0.length : Int) < 1
    · rw [if_pos c4] at H
      have c4b0 : decide ((l0_0.length : Int) < 1) = true := decide_eq_true c4
      have c4b1 : decide (l0_0.length < 1) = true := decide_eq_true (by omega)
      clear c4
      (first | rw [c4b0] | (simp only [i64_w, i32_w]; rw [c4b0]) | skip)
      have H' := Aside0.mk H
      clear H
      obtain ⟨hcz5_0, hcz5_1, hcz5_2, hfz5_0, hfz5_1, hfz5_2⟩ := bk3 BK244.out
      go_wp2
      repeat (go_quiet (fail); try go_wp2)
      go_meet
      case rel => exact ⟨_, (true), (by first | rfl | (simp; done) | (simp [*]; done)), H', ⟨by first | omega | exact Nat.le_refl _⟩, ⟨pK BK244.out⟩, ⟨pB HB.out⟩⟩
    · rw [if_neg c4] at H
      have c4b0 : decide ((l0_0.length : Int) < 1) = false := decide_eq_false c4
      have c4b1 : decide (l0_0.length < 1) = false := decide_eq_false (by omega)
      clear c4
      (first | rw [c4b0] | (simp only [i64_w, i32_w]; rw [c4b0]) | skip)
      by_cases c6 : (l0_0.length : Int) > 16
      · rw [if_pos c6] at H
        have c6b0 : decide (16 < (l0_0.length : Int)) = true := decide_eq_true c6
        have c6b1 : decide (16 < l0_0.length) = true := decide_eq_true (by omega)
        clear c6
        have H' := Aside0.mk H
        clear H
        obtain ⟨hcz7_0, hcz7_1, hcz7_2, hfz7_0, hfz7_1, hfz7_2⟩ := bk3 BK244.out
        go_wp2
        repeat (go_quiet (fail); try go_wp2)
        go_meet
        case rel => exact ⟨_, (true), (by first | rfl | (simp; done) | (simp [*]; done)), H', ⟨by first | omega | exact Nat.le_refl _⟩, ⟨pK BK244.out⟩, ⟨pB HB.out⟩⟩
      · rw [if_neg c6] at H
        have c6b0 : decide (16 < (l0_0.length : Int)) = false := decide_eq_false c6
        have c6b1 : decide (16 < l0_0.length) = false := decide_eq_false (by omega)
        clear c6
        have H' := Aside0.mk H
        clear H
        obtain ⟨hcz8_0, hcz8_1, hcz8_2, hfz8_0, hfz8_1, hfz8_2⟩ := bk3 BK244.out
        go_wp2
        repeat (go_quiet (fail); try go_wp2)
        go_meet
        case rel => exact ⟨_, (((l0_1.length : Int) != (l0_0.length : Int))), (by first | rfl | (simp; done) | (simp [*]; done)), H', ⟨by first | omega | exact Nat.le_refl _⟩, ⟨pK BK244.out⟩, ⟨pB HB.out⟩⟩
  case rest =>
    (try clear HC2)
    try clear c2
    try clear p2
    try clear c4
    try clear c4b0
    try clear c4b1
    try clear c6
    try clear c6b0
    try clear c6b1
    try clear hcz5_0
    try clear hcz5_1
    try clear hcz5_2
    try clear hcz7_0
    try clear hcz7_1
    try clear hcz7_2
    try clear hcz8_0
    try clear hcz8_1
    try clear hcz8_2
    try clear hfz5_0
    try clear hfz5_1
    try clear hfz5_2
    try clear hfz7_0
    try clear hfz7_1
    try clear hfz7_2
    try clear hfz8_0
    try clear hfz8_1
    try clear hfz8_2
    obtain ⟨kq, x24_1, rfl, HA, HJ1, BK244, HB⟩ := hcut
    cases kq with
    | zero => exact absurd HA.out (by simp [spigotref13_Check.j0])
    | succ kj1 =>
      have H := HA.out
      clear HA
      simp only [spigotref13_Check.j0] at H
      by_cases c9 : x24_1 = true
      · subst c9
        have H1 : (some 8) = some r := by rw [if_pos rfl] at H; exact H
        clear H
        have H := H1
        clear H1
        obtain rfl := Option.some.inj H
        go_wp2
        repeat (go_quiet (fail); try go_wp2)
        go_ret
        exact ⟨by first | rfl | (simp [errW_none, errW_some] <;> rfl) | (simp [*, errW_none, errW_some] <;> rfl), pB HB.out⟩
      · replace c9 := Bool.eq_false_iff.mpr c9
        subst c9
        have H1 : ((spigotref13_Free.f kj1 l0_0 l0_1 a0_2).bind fun bt245 => (if bt245.2 = true then (spigotref13_Check.l0 kj1 bt245.1 0 l0_0 l0_1 a0_2) else (some 8))) = some r := by rw [if_neg (show ¬ (false = true) by decide)] at H; exact H
        clear H
        have H := H1
        clear H1
        replace H := Option.bind_eq_some_iff.mp H
        obtain ⟨⟨t245, t248⟩, A100, H⟩ := H
        replace H : (if t248 = true then (spigotref13_Check.l0 kj1 t245 0 l0_0 l0_1 a0_2) else (some 8)) = some r := H
        have A10 := Aside0.mk A100
        (try clear A100)
        by_cases c11 : t248 = true
        · subst c11
          have H1 : (spigotref13_Check.l0 kj1 t245 0 l0_0 l0_1 a0_2) = some r := by rw [if_pos rfl] at H; exact H
          clear H
          have H := H1
          clear H1
          have H' := Aside0.mk H
          clear H
          obtain ⟨hcz12_0, hcz12_1, hcz12_2, hfz12_0, hfz12_1, hfz12_2⟩ := bk3 BK244.out
          go_wp2_with (first | (go_at_call 47; (with_reducible refine (spigotref13_Free.calls kj1 _ _ l0_0 _ _ l0_1 a0_2 t245 true _ ?side1 ?side2 ?side3 ?side4 A10.out).mono ?_); (case side1 => exact Kd.pC ((Kd.C_below HR0_0.out HB.out))); (case side2 => exact HC0_0.out); (case side3 => exact Kd.pC ((Kd.C_below HR0_1.out HB.out))); (case side4 => exact HC0_1.out); rintro e w13 ⟨v246, rfl, ho0, hb⟩; have n0_ := Aside0.mk (Kd.R_lower ho0 (below_size (pB HB.out))); have n1_ := Aside0.mk (blk_below (pK BK244.out) hb); have n2_ := Aside0.mk (below_step (pB HB.out) hb); clear BK244; clear HB; have HO247 := n0_; have BK244 := n1_; have HB := n2_; clear n0_ n1_ n2_; (try clear hb); (try clear hb2); (try clear hk); (try clear hi); (try clear ho0)))
          repeat (go_quiet (first | (go_at_call 47; (with_reducible refine (spigotref13_Free.calls kj1 _ _ l0_0 _ _ l0_1 a0_2 t245 true _ ?side1 ?side2 ?side3 ?side4 A10.out).mono ?_); (case side1 => exact Kd.pC ((Kd.C_below HR0_0.out HB.out))); (case side2 => exact HC0_0.out); (case side3 => exact Kd.pC ((Kd.C_below HR0_1.out HB.out))); (case side4 => exact HC0_1.out); rintro e w13 ⟨v246, rfl, ho0, hb⟩; have n0_ := Aside0.mk (Kd.R_lower ho0 (below_size (pB HB.out))); have n1_ := Aside0.mk (blk_below (pK BK244.out) hb); have n2_ := Aside0.mk (below_step (pB HB.out) hb); clear BK244; clear HB; have HO247 := n0_; have BK244 := n1_; have HB := n2_; clear n0_ n1_ n2_; (try clear hb); (try clear hb2); (try clear hk); (try clear hi); (try clear ho0))); try go_wp2_with (first | (go_at_call 47; (with_reducible refine (spigotref13_Free.calls kj1 _ _ l0_0 _ _ l0_1 a0_2 t245 true _ ?side1 ?side2 ?side3 ?side4 A10.out).mono ?_); (case side1 => exact Kd.pC ((Kd.C_below HR0_0.out HB.out))); (case side2 => exact HC0_0.out); (case side3 => exact Kd.pC ((Kd.C_below HR0_1.out HB.out))); (case side4 => exact HC0_1.out); rintro e w13 ⟨v246, rfl, ho0, hb⟩; have n0_ := Aside0.mk (Kd.R_lower ho0 (below_size (pB HB.out))); have n1_ := Aside0.mk (blk_below (pK BK244.out) hb); have n2_ := Aside0.mk (below_step (pB HB.out) hb); clear BK244; clear HB; have HO247 := n0_; have BK244 := n1_; have HB := n2_; clear n0_ n1_ n2_; (try clear hb); (try clear hb2); (try clear hk); (try clear hi); (try clear ho0))))
          go_loopg [5] kj1 (fun kq v5 w' => ∃ (x5_2 : Int), v5 = .int .i64 x5_2 ∧ Aside0 (spigotref13_Check.l0 kq t245 x5_2 l0_0 l0_1 a0_2 = some r) ∧ Aside0 (kq ≤ kj1) ∧ Aside0 (Kd.R (Kd.int .i64) 3 w' w.heap.size (fun _ => True) v246 t245) ∧ Aside0 (w'.heap[gb244]? = some (.cells #[(.slice A0_0 l0_0.length c0_0), (.slice A0_1 l0_1.length c0_1), .int .i64 a0_2] 36 (0, 0))) ∧ Aside0 (Below w.heap.size w w'))
          case atStart => exact ⟨(0), (by first | rfl | (simp; done) | (simp [*]; done)), H', ⟨Nat.le_refl _⟩, ⟨Kd.pR HO247.out⟩, ⟨pK BK244.out⟩, ⟨pB HB.out⟩⟩
          case round =>
            clear H'
            try clear c1
            try clear c2
            try clear p2
            try clear c4
            try clear c4b0
            try clear c4b1
            try clear c6
            try clear c6b0
            try clear c6b1
            try clear c9
            try clear c11
            try clear hcz12_0
            try clear hcz12_1
            try clear hcz12_2
            try clear hcz5_0
            try clear hcz5_1
            try clear hcz5_2
            try clear hcz7_0
            try clear hcz7_1
            try clear hcz7_2
            try clear hcz8_0
            try clear hcz8_1
            try clear hcz8_2
            try clear hfz12_0
            try clear hfz12_1
            try clear hfz12_2
            try clear hfz5_0
            try clear hfz5_1
            try clear hfz5_2
            try clear hfz7_0
            try clear hfz7_1
            try clear hfz7_2
            try clear hfz8_0
            try clear hfz8_1
            try clear hfz8_2
            try clear p2
            obtain ⟨x5_2, rfl, HA, HK2, HO_3, BK244, HB⟩ := hrel
            cases gk with
            | zero => exact absurd HA.out (by simp [spigotref13_Check.l0])
            | succ k2 =>
              have H := HA.out
              (try clear HA)
              simp only [spigotref13_Check.l0] at H
              by_cases c14 : x5_2 < (l0_1.length : Int)
              · rw [if_pos c14] at H
                have c14b0 : decide (x5_2 < (l0_1.length : Int)) = true := decide_eq_true c14
                clear c14
                by_cases c15 : 0 ≤ x5_2
                · rw [if_pos c15] at H
                  have c15b0 : decide (0 ≤ x5_2) = true := decide_eq_true c15
                  clear c15
                  replace H := Option.bind_eq_some_iff.mp H
                  obtain ⟨t250, A160, H⟩ := H
                  replace H : (if ((rdOf false l0_1 x5_2) == t250) = true then (some 8) else (if rdOf false l0_1 x5_2 = true then (if x5_2 < (l0_0.length : Int) then (if (rd l0_0 x5_2) = (-1) then (spigotref13_Check.l0 k2 t245 (wrap64 (x5_2 + 1)) l0_0 l0_1 a0_2) else (some 8)) else (none)) else (spigotref13_Check.l0 k2 t245 (wrap64 (x5_2 + 1)) l0_0 l0_1 a0_2))) = some r := H
                  have A16 := Aside0.mk A160
                  (try clear A160)
                  by_cases c17 : ((rdOf false l0_1 x5_2) == t250) = true
                  · rw [if_pos c17] at H
                    have c17b0 : ((rdOf false l0_1 x5_2) == t250) = true := c17
                    (try (have c17b1 : decide ((rdOf false l0_1 x5_2) = t250) = true := by simpa using c17))
                    (try (have c17b2 : ((rdOf false l0_1 x5_2) == t250) = true := by simpa using c17))
                    clear c17
                    obtain rfl := Option.some.inj H
                    obtain ⟨hcz18_0, hcz18_1, hcz18_2, hfz18_0, hfz18_1, hfz18_2⟩ := bk3 BK244.out
                    have p249 : 0 ≤ (x5_2 : Int) := od
                    have q249 : x5_2 < (l0_1.length : Int) := od
                    obtain ⟨ad249, e249, hx249_0⟩ := Kd.at_bool HR0_1.out x5_2 p249 q249
                    cases e249
                    replace hx249_0 := (HB.out.cell (World.block_lt_of_cell? w _ hx249_0)).trans hx249_0
                    replace p249 := eq_true p249
                    replace q249 := eq_true q249
                    obtain ⟨Ao19, co19, eo19⟩ := Kd.R_slice HO_3.out
                    subst eo19
                    go_wp2_with (first | (go_at_call 48; (with_reducible refine (spigotref13_In.calls k2 _ _ t245 x5_2 t250 _ ?side1 ?side2 A16.out).mono ?_); (case side1 => exact Kd.pC ((Kd.R_reads' HO_3.out).2.2)); (case side2 => exact (Kd.R_reads' HO_3.out).2.1); rintro e w' ⟨rfl, ⟨nd, rfl⟩⟩; (try first | exact ⟨rfl, _, World.drewN_drewN _ _ _⟩ | exact ⟨rfl, _, Eq.trans (World.drewN_drewN _ _ _) (congrArg (World.drewN _) (Nat.add_assoc _ _ _))⟩)))
                    repeat (go_quiet (first | (go_at_call 48; (with_reducible refine (spigotref13_In.calls k2 _ _ t245 x5_2 t250 _ ?side1 ?side2 A16.out).mono ?_); (case side1 => exact Kd.pC ((Kd.R_reads' HO_3.out).2.2)); (case side2 => exact (Kd.R_reads' HO_3.out).2.1); rintro e w' ⟨rfl, ⟨nd, rfl⟩⟩; (try first | exact ⟨rfl, _, World.drewN_drewN _ _ _⟩ | exact ⟨rfl, _, Eq.trans (World.drewN_drewN _ _ _) (congrArg (World.drewN _) (Nat.add_assoc _ _ _))⟩))); try go_wp2_with (first | (go_at_call 48; (with_reducible refine (spigotref13_In.calls k2 _ _ t245 x5_2 t250 _ ?side1 ?side2 A16.out).mono ?_); (case side1 => exact Kd.pC ((Kd.R_reads' HO_3.out).2.2)); (case side2 => exact (Kd.R_reads' HO_3.out).2.1); rintro e w' ⟨rfl, ⟨nd, rfl⟩⟩; (try first | exact ⟨rfl, _, World.drewN_drewN _ _ _⟩ | exact ⟨rfl, _, Eq.trans (World.drewN_drewN _ _ _) (congrArg (World.drewN _) (Nat.add_assoc _ _ _))⟩))))
                    go_ret
                    exact ⟨by first | rfl | (simp [errW_none, errW_some] <;> rfl) | (simp [*, errW_none, errW_some] <;> rfl), pB HB.out⟩
                  · rw [if_neg c17] at H
                    have c17b0 : ((rdOf false l0_1 x5_2) == t250) = false := by simpa using c17
                    (try (have c17b1 : decide ((rdOf false l0_1 x5_2) = t250) = false := by simpa using c17))
                    (try (have c17b2 : ((rdOf false l0_1 x5_2) == t250) = false := by simpa using c17))
                    (try (have c17b3 : ¬ ((rdOf false l0_1 x5_2) = t250) := by simpa using c17))
                    (try clear c17)
                    obtain ⟨bq20, hbq20⟩ : ∃ b_ : Bool, b_ = (rdOf false l0_1 x5_2) := ⟨_, rfl⟩
                    replace H : (if bq20 = true then (if x5_2 < (l0_0.length : Int) then (if (rd l0_0 x5_2) = (-1) then (spigotref13_Check.l0 k2 t245 (wrap64 (x5_2 + 1)) l0_0 l0_1 a0_2) else (some 8)) else (none)) else (spigotref13_Check.l0 k2 t245 (wrap64 (x5_2 + 1)) l0_0 l0_1 a0_2)) = some r := by rw [← hbq20] at H; exact H
                    (try rw [← hbq20] at c17b0)
                    (try rw [← hbq20] at c17b1)
                    (try rw [← hbq20] at c17b2)
                    (try rw [← hbq20] at c17b3)
                    have Nbq20 := Aside0.mk hbq20
                    (try clear hbq20)
                    by_cases c21 : bq20 = true
                    · subst c21
                      (try simp at c17b0)
                      (try simp at c17b1)
                      (try simp at c17b2)
                      (try simp at c17b3)
                      have H1 : (if x5_2 < (l0_0.length : Int) then (if (rd l0_0 x5_2) = (-1) then (spigotref13_Check.l0 k2 t245 (wrap64 (x5_2 + 1)) l0_0 l0_1 a0_2) else (some 8)) else (none)) = some r := by rw [if_pos rfl] at H; exact H
                      clear H
                      have H := H1
                      clear H1
                      by_cases c22 : x5_2 < (l0_0.length : Int)
                      · rw [if_pos c22] at H
                        have c22b0 : decide (x5_2 < (l0_0.length : Int)) = true := decide_eq_true c22
                        clear c22
                        by_cases c23 : (rd l0_0 x5_2) = (-1)
                        · rw [if_pos c23] at H
                          have c23b0 : ((rd l0_0 x5_2) == (-1)) = true := beq_iff_eq.mpr c23
                          have c23b1 : ((rd l0_0 x5_2) != (-1)) = false := bne_eq_false_iff_eq.mpr c23
                          clear c23
                          have H' := Aside0.mk H
                          clear H
                          obtain ⟨hcz24_0, hcz24_1, hcz24_2, hfz24_0, hfz24_1, hfz24_2⟩ := bk3 BK244.out
                          have p249 : 0 ≤ (x5_2 : Int) := od
                          have q249 : x5_2 < (l0_1.length : Int) := od
                          obtain ⟨ad249, e249, hx249_0⟩ := Kd.at_bool HR0_1.out x5_2 p249 q249
                          (try rw [← Nbq20.out] at hx249_0)
                          cases e249
                          replace hx249_0 := (HB.out.cell (World.block_lt_of_cell? w _ hx249_0)).trans hx249_0
                          replace p249 := eq_true p249
                          replace q249 := eq_true q249
                          obtain ⟨Ao25, co25, eo25⟩ := Kd.R_slice HO_3.out
                          subst eo25
                          go_wp2_with (first | (go_at_call 48; (with_reducible refine (spigotref13_In.calls k2 _ _ t245 x5_2 t250 _ ?side1 ?side2 A16.out).mono ?_); (case side1 => exact Kd.pC ((Kd.R_reads' HO_3.out).2.2)); (case side2 => exact (Kd.R_reads' HO_3.out).2.1); rintro e w' ⟨rfl, ⟨nd, rfl⟩⟩; (try first | exact ⟨rfl, _, World.drewN_drewN _ _ _⟩ | exact ⟨rfl, _, Eq.trans (World.drewN_drewN _ _ _) (congrArg (World.drewN _) (Nat.add_assoc _ _ _))⟩); have p251 : 0 ≤ (x5_2 : Int) := od; have q251 : x5_2 < (l0_1.length : Int) := od; obtain ⟨ad251, e251, hx251_0⟩ := Kd.at_bool HR0_1.out x5_2 p251 q251; (try rw [← Nbq20.out] at hx251_0); obtain rfl : ad249 = ad251 := (by injection e251); replace hx251_0 := (HB.out.cell (World.block_lt_of_cell? w _ hx251_0)).trans hx251_0; replace p251 := eq_true p251; replace q251 := eq_true q251; have p252 : 0 ≤ (x5_2 : Int) := od; have q252 : x5_2 < (l0_0.length : Int) := od; obtain ⟨ad252, e252, hx252_0⟩ := Kd.at_int HR0_0.out x5_2 p252 q252; cases e252; replace hx252_0 := (HB.out.cell (World.block_lt_of_cell? w _ hx252_0)).trans hx252_0; replace p252 := eq_true p252; replace q252 := eq_true q252))
                          repeat (go_quiet (first | (go_at_call 48; (with_reducible refine (spigotref13_In.calls k2 _ _ t245 x5_2 t250 _ ?side1 ?side2 A16.out).mono ?_); (case side1 => exact Kd.pC ((Kd.R_reads' HO_3.out).2.2)); (case side2 => exact (Kd.R_reads' HO_3.out).2.1); rintro e w' ⟨rfl, ⟨nd, rfl⟩⟩; (try first | exact ⟨rfl, _, World.drewN_drewN _ _ _⟩ | exact ⟨rfl, _, Eq.trans (World.drewN_drewN _ _ _) (congrArg (World.drewN _) (Nat.add_assoc _ _ _))⟩); have p251 : 0 ≤ (x5_2 : Int) := od; have q251 : x5_2 < (l0_1.length : Int) := od; obtain ⟨ad251, e251, hx251_0⟩ := Kd.at_bool HR0_1.out x5_2 p251 q251; (try rw [← Nbq20.out] at hx251_0); obtain rfl : ad249 = ad251 := (by injection e251); replace hx251_0 := (HB.out.cell (World.block_lt_of_cell? w _ hx251_0)).trans hx251_0; replace p251 := eq_true p251; replace q251 := eq_true q251; have p252 : 0 ≤ (x5_2 : Int) := od; have q252 : x5_2 < (l0_0.length : Int) := od; obtain ⟨ad252, e252, hx252_0⟩ := Kd.at_int HR0_0.out x5_2 p252 q252; cases e252; replace hx252_0 := (HB.out.cell (World.block_lt_of_cell? w _ hx252_0)).trans hx252_0; replace p252 := eq_true p252; replace q252 := eq_true q252)); try go_wp2_with (first | (go_at_call 48; (with_reducible refine (spigotref13_In.calls k2 _ _ t245 x5_2 t250 _ ?side1 ?side2 A16.out).mono ?_); (case side1 => exact Kd.pC ((Kd.R_reads' HO_3.out).2.2)); (case side2 => exact (Kd.R_reads' HO_3.out).2.1); rintro e w' ⟨rfl, ⟨nd, rfl⟩⟩; (try first | exact ⟨rfl, _, World.drewN_drewN _ _ _⟩ | exact ⟨rfl, _, Eq.trans (World.drewN_drewN _ _ _) (congrArg (World.drewN _) (Nat.add_assoc _ _ _))⟩); have p251 : 0 ≤ (x5_2 : Int) := od; have q251 : x5_2 < (l0_1.length : Int) := od; obtain ⟨ad251, e251, hx251_0⟩ := Kd.at_bool HR0_1.out x5_2 p251 q251; (try rw [← Nbq20.out] at hx251_0); obtain rfl : ad249 = ad251 := (by injection e251); replace hx251_0 := (HB.out.cell (World.block_lt_of_cell? w _ hx251_0)).trans hx251_0; replace p251 := eq_true p251; replace q251 := eq_true q251; have p252 : 0 ≤ (x5_2 : Int) := od; have q252 : x5_2 < (l0_0.length : Int) := od; obtain ⟨ad252, e252, hx252_0⟩ := Kd.at_int HR0_0.out x5_2 p252 q252; cases e252; replace hx252_0 := (HB.out.cell (World.block_lt_of_cell? w _ hx252_0)).trans hx252_0; replace p252 := eq_true p252; replace q252 := eq_true q252)))
                          go_roundg k2
                          case measure => have := HJ1.out; have := HK2.out; omega
                          case rel => exact ⟨(wrap64 (x5_2 + 1)), (by first | rfl | (simp; done) | (simp [*]; done)), H', ⟨by have := HJ1.out; have := HK2.out; omega⟩, ⟨Kd.pR HO_3.out⟩, ⟨pK BK244.out⟩, ⟨pB HB.out⟩⟩
                        · rw [if_neg c23] at H
                          have c23b0 : ((rd l0_0 x5_2) == (-1)) = false := beq_eq_false_iff_ne.mpr c23
                          have c23b1 : ((rd l0_0 x5_2) != (-1)) = true := bne_iff_ne.mpr c23
                          obtain rfl := Option.some.inj H
                          obtain ⟨hcz26_0, hcz26_1, hcz26_2, hfz26_0, hfz26_1, hfz26_2⟩ := bk3 BK244.out
                          have p249 : 0 ≤ (x5_2 : Int) := od
                          have q249 : x5_2 < (l0_1.length : Int) := od
                          obtain ⟨ad249, e249, hx249_0⟩ := Kd.at_bool HR0_1.out x5_2 p249 q249
                          (try rw [← Nbq20.out] at hx249_0)
                          cases e249
                          replace hx249_0 := (HB.out.cell (World.block_lt_of_cell? w _ hx249_0)).trans hx249_0
                          replace p249 := eq_true p249
                          replace q249 := eq_true q249
                          obtain ⟨Ao27, co27, eo27⟩ := Kd.R_slice HO_3.out
                          subst eo27
                          go_wp2_with (first | (go_at_call 48; (with_reducible refine (spigotref13_In.calls k2 _ _ t245 x5_2 t250 _ ?side1 ?side2 A16.out).mono ?_); (case side1 => exact Kd.pC ((Kd.R_reads' HO_3.out).2.2)); (case side2 => exact (Kd.R_reads' HO_3.out).2.1); rintro e w' ⟨rfl, ⟨nd, rfl⟩⟩; (try first | exact ⟨rfl, _, World.drewN_drewN _ _ _⟩ | exact ⟨rfl, _, Eq.trans (World.drewN_drewN _ _ _) (congrArg (World.drewN _) (Nat.add_assoc _ _ _))⟩); have p251 : 0 ≤ (x5_2 : Int) := od; have q251 : x5_2 < (l0_1.length : Int) := od; obtain ⟨ad251, e251, hx251_0⟩ := Kd.at_bool HR0_1.out x5_2 p251 q251; (try rw [← Nbq20.out] at hx251_0); obtain rfl : ad249 = ad251 := (by injection e251); replace hx251_0 := (HB.out.cell (World.block_lt_of_cell? w _ hx251_0)).trans hx251_0; replace p251 := eq_true p251; replace q251 := eq_true q251; have p252 : 0 ≤ (x5_2 : Int) := od; have q252 : x5_2 < (l0_0.length : Int) := od; obtain ⟨ad252, e252, hx252_0⟩ := Kd.at_int HR0_0.out x5_2 p252 q252; cases e252; replace hx252_0 := (HB.out.cell (World.block_lt_of_cell? w _ hx252_0)).trans hx252_0; replace p252 := eq_true p252; replace q252 := eq_true q252))
                          repeat (go_quiet (first | (go_at_call 48; (with_reducible refine (spigotref13_In.calls k2 _ _ t245 x5_2 t250 _ ?side1 ?side2 A16.out).mono ?_); (case side1 => exact Kd.pC ((Kd.R_reads' HO_3.out).2.2)); (case side2 => exact (Kd.R_reads' HO_3.out).2.1); rintro e w' ⟨rfl, ⟨nd, rfl⟩⟩; (try first | exact ⟨rfl, _, World.drewN_drewN _ _ _⟩ | exact ⟨rfl, _, Eq.trans (World.drewN_drewN _ _ _) (congrArg (World.drewN _) (Nat.add_assoc _ _ _))⟩); have p251 : 0 ≤ (x5_2 : Int) := od; have q251 : x5_2 < (l0_1.length : Int) := od; obtain ⟨ad251, e251, hx251_0⟩ := Kd.at_bool HR0_1.out x5_2 p251 q251; (try rw [← Nbq20.out] at hx251_0); obtain rfl : ad249 = ad251 := (by injection e251); replace hx251_0 := (HB.out.cell (World.block_lt_of_cell? w _ hx251_0)).trans hx251_0; replace p251 := eq_true p251; replace q251 := eq_true q251; have p252 : 0 ≤ (x5_2 : Int) := od; have q252 : x5_2 < (l0_0.length : Int) := od; obtain ⟨ad252, e252, hx252_0⟩ := Kd.at_int HR0_0.out x5_2 p252 q252; cases e252; replace hx252_0 := (HB.out.cell (World.block_lt_of_cell? w _ hx252_0)).trans hx252_0; replace p252 := eq_true p252; replace q252 := eq_true q252)); try go_wp2_with (first | (go_at_call 48; (with_reducible refine (spigotref13_In.calls k2 _ _ t245 x5_2 t250 _ ?side1 ?side2 A16.out).mono ?_); (case side1 => exact Kd.pC ((Kd.R_reads' HO_3.out).2.2)); (case side2 => exact (Kd.R_reads' HO_3.out).2.1); rintro e w' ⟨rfl, ⟨nd, rfl⟩⟩; (try first | exact ⟨rfl, _, World.drewN_drewN _ _ _⟩ | exact ⟨rfl, _, Eq.trans (World.drewN_drewN _ _ _) (congrArg (World.drewN _) (Nat.add_assoc _ _ _))⟩); have p251 : 0 ≤ (x5_2 : Int) := od; have q251 : x5_2 < (l0_1.length : Int) := od; obtain ⟨ad251, e251, hx251_0⟩ := Kd.at_bool HR0_1.out x5_2 p251 q251; (try rw [← Nbq20.out] at hx251_0); obtain rfl : ad249 = ad251 := (by injection e251); replace hx251_0 := (HB.out.cell (World.block_lt_of_cell? w _ hx251_0)).trans hx251_0; replace p251 := eq_true p251; replace q251 := eq_true q251; have p252 : 0 ≤ (x5_2 : Int) := od; have q252 : x5_2 < (l0_0.length : Int) := od; obtain ⟨ad252, e252, hx252_0⟩ := Kd.at_int HR0_0.out x5_2 p252 q252; cases e252; replace hx252_0 := (HB.out.cell (World.block_lt_of_cell? w _ hx252_0)).trans hx252_0; replace p252 := eq_true p252; replace q252 := eq_true q252)))
                          go_ret
                          exact ⟨by first | rfl | (simp [errW_none, errW_some] <;> rfl) | (simp [*, errW_none, errW_some] <;> rfl), pB HB.out⟩
                      · rw [if_neg c22] at H
                        exact absurd H (by simp)
                    · replace c21 := Bool.eq_false_iff.mpr c21
                      subst c21
                      (try simp at c17b0)
                      (try simp at c17b1)
                      (try simp at c17b2)
                      (try simp at c17b3)
                      have H1 : (spigotref13_Check.l0 k2 t245 (wrap64 (x5_2 + 1)) l0_0 l0_1 a0_2) = some r := by rw [if_neg (show ¬ (false = true) by decide)] at H; exact H
                      clear H
                      have H := H1
                      clear H1
                      have H' := Aside0.mk H
                      clear H
                      obtain ⟨hcz28_0, hcz28_1, hcz28_2, hfz28_0, hfz28_1, hfz28_2⟩ := bk3 BK244.out
                      have p249 : 0 ≤ (x5_2 : Int) := od
                      have q249 : x5_2 < (l0_1.length : Int) := od
                      obtain ⟨ad249, e249, hx249_0⟩ := Kd.at_bool HR0_1.out x5_2 p249 q249
                      (try rw [← Nbq20.out] at hx249_0)
                      cases e249
                      replace hx249_0 := (HB.out.cell (World.block_lt_of_cell? w _ hx249_0)).trans hx249_0
                      replace p249 := eq_true p249
                      replace q249 := eq_true q249
                      obtain ⟨Ao29, co29, eo29⟩ := Kd.R_slice HO_3.out
                      subst eo29
                      go_wp2_with (first | (go_at_call 48; (with_reducible refine (spigotref13_In.calls k2 _ _ t245 x5_2 t250 _ ?side1 ?side2 A16.out).mono ?_); (case side1 => exact Kd.pC ((Kd.R_reads' HO_3.out).2.2)); (case side2 => exact (Kd.R_reads' HO_3.out).2.1); rintro e w' ⟨rfl, ⟨nd, rfl⟩⟩; (try first | exact ⟨rfl, _, World.drewN_drewN _ _ _⟩ | exact ⟨rfl, _, Eq.trans (World.drewN_drewN _ _ _) (congrArg (World.drewN _) (Nat.add_assoc _ _ _))⟩); have p251 : 0 ≤ (x5_2 : Int) := od; have q251 : x5_2 < (l0_1.length : Int) := od; obtain ⟨ad251, e251, hx251_0⟩ := Kd.at_bool HR0_1.out x5_2 p251 q251; (try rw [← Nbq20.out] at hx251_0); obtain rfl : ad249 = ad251 := (by injection e251); replace hx251_0 := (HB.out.cell (World.block_lt_of_cell? w _ hx251_0)).trans hx251_0; replace p251 := eq_true p251; replace q251 := eq_true q251))
                      repeat (go_quiet (first | (go_at_call 48; (with_reducible refine (spigotref13_In.calls k2 _ _ t245 x5_2 t250 _ ?side1 ?side2 A16.out).mono ?_); (case side1 => exact Kd.pC ((Kd.R_reads' HO_3.out).2.2)); (case side2 => exact (Kd.R_reads' HO_3.out).2.1); rintro e w' ⟨rfl, ⟨nd, rfl⟩⟩; (try first | exact ⟨rfl, _, World.drewN_drewN _ _ _⟩ | exact ⟨rfl, _, Eq.trans (World.drewN_drewN _ _ _) (congrArg (World.drewN _) (Nat.add_assoc _ _ _))⟩); have p251 : 0 ≤ (x5_2 : Int) := od; have q251 : x5_2 < (l0_1.length : Int) := od; obtain ⟨ad251, e251, hx251_0⟩ := Kd.at_bool HR0_1.out x5_2 p251 q251; (try rw [← Nbq20.out] at hx251_0); obtain rfl : ad249 = ad251 := (by injection e251); replace hx251_0 := (HB.out.cell (World.block_lt_of_cell? w _ hx251_0)).trans hx251_0; replace p251 := eq_true p251; replace q251 := eq_true q251)); try go_wp2_with (first | (go_at_call 48; (with_reducible refine (spigotref13_In.calls k2 _ _ t245 x5_2 t250 _ ?side1 ?side2 A16.out).mono ?_); (case side1 => exact Kd.pC ((Kd.R_reads' HO_3.out).2.2)); (case side2 => exact (Kd.R_reads' HO_3.out).2.1); rintro e w' ⟨rfl, ⟨nd, rfl⟩⟩; (try first | exact ⟨rfl, _, World.drewN_drewN _ _ _⟩ | exact ⟨rfl, _, Eq.trans (World.drewN_drewN _ _ _) (congrArg (World.drewN _) (Nat.add_assoc _ _ _))⟩); have p251 : 0 ≤ (x5_2 : Int) := od; have q251 : x5_2 < (l0_1.length : Int) := od; obtain ⟨ad251, e251, hx251_0⟩ := Kd.at_bool HR0_1.out x5_2 p251 q251; (try rw [← Nbq20.out] at hx251_0); obtain rfl : ad249 = ad251 := (by injection e251); replace hx251_0 := (HB.out.cell (World.block_lt_of_cell? w _ hx251_0)).trans hx251_0; replace p251 := eq_true p251; replace q251 := eq_true q251)))
                      go_roundg k2
                      case measure => have := HJ1.out; have := HK2.out; omega
                      case rel => exact ⟨(wrap64 (x5_2 + 1)), (by first | rfl | (simp; done) | (simp [*]; done)), H', ⟨by have := HJ1.out; have := HK2.out; omega⟩, ⟨Kd.pR HO_3.out⟩, ⟨pK BK244.out⟩, ⟨pB HB.out⟩⟩
                · rw [if_neg c15] at H
                  exact absurd H (by simp)
              · rw [if_neg c14] at H
                have c14b0 : decide (x5_2 < (l0_1.length : Int)) = false := decide_eq_false c14
                (try clear c14)
                obtain rfl := Option.some.inj H
                obtain ⟨hcz30_0, hcz30_1, hcz30_2, hfz30_0, hfz30_1, hfz30_2⟩ := bk3 BK244.out
                go_wp2
                repeat (go_quiet (fail); try go_wp2)
                go_ret
                exact ⟨by first | rfl | (simp [errW_none, errW_some] <;> rfl) | (simp [*, errW_none, errW_some] <;> rfl), pB HB.out⟩
        · replace c11 := Bool.eq_false_iff.mpr c11
          subst c11
          have H1 : (some 8) = some r := by rw [if_neg (show ¬ (false = true) by decide)] at H; exact H
          clear H
          have H := H1
          (try clear H1)
          obtain rfl := Option.some.inj H
          obtain ⟨hcz31_0, hcz31_1, hcz31_2, hfz31_0, hfz31_1, hfz31_2⟩ := bk3 BK244.out
          go_wp2_with (first | (go_at_call 47; (with_reducible refine (spigotref13_Free.calls kj1 _ _ l0_0 _ _ l0_1 a0_2 t245 false _ ?side1 ?side2 ?side3 ?side4 A10.out).mono ?_); (case side1 => exact Kd.pC ((Kd.C_below HR0_0.out HB.out))); (case side2 => exact HC0_0.out); (case side3 => exact Kd.pC ((Kd.C_below HR0_1.out HB.out))); (case side4 => exact HC0_1.out); rintro e w32 ⟨v246, rfl, ho0, hb⟩; have n0_ := Aside0.mk (Kd.R_lower ho0 (below_size (pB HB.out))); have n1_ := Aside0.mk (blk_below (pK BK244.out) hb); have n2_ := Aside0.mk (below_step (pB HB.out) hb); clear BK244; clear HB; have HO247 := n0_; have BK244 := n1_; have HB := n2_; clear n0_ n1_ n2_; (try clear hb); (try clear hb2); (try clear hk); (try clear hi); (try clear ho0)))
          repeat (go_quiet (first | (go_at_call 47; (with_reducible refine (spigotref13_Free.calls kj1 _ _ l0_0 _ _ l0_1 a0_2 t245 false _ ?side1 ?side2 ?side3 ?side4 A10.out).mono ?_); (case side1 => exact Kd.pC ((Kd.C_below HR0_0.out HB.out))); (case side2 => exact HC0_0.out); (case side3 => exact Kd.pC ((Kd.C_below HR0_1.out HB.out))); (case side4 => exact HC0_1.out); rintro e w32 ⟨v246, rfl, ho0, hb⟩; have n0_ := Aside0.mk (Kd.R_lower ho0 (below_size (pB HB.out))); have n1_ := Aside0.mk (blk_below (pK BK244.out) hb); have n2_ := Aside0.mk (below_step (pB HB.out) hb); clear BK244; clear HB; have HO247 := n0_; have BK244 := n1_; have HB := n2_; clear n0_ n1_ n2_; (try clear hb); (try clear hb2); (try clear hk); (try clear hi); (try clear ho0))); try go_wp2_with (first | (go_at_call 47; (with_reducible refine (spigotref13_Free.calls kj1 _ _ l0_0 _ _ l0_1 a0_2 t245 false _ ?side1 ?side2 ?side3 ?side4 A10.out).mono ?_); (case side1 => exact Kd.pC ((Kd.C_below HR0_0.out HB.out))); (case side2 => exact HC0_0.out); (case side3 => exact Kd.pC ((Kd.C_below HR0_1.out HB.out))); (case side4 => exact HC0_1.out); rintro e w32 ⟨v246, rfl, ho0, hb⟩; have n0_ := Aside0.mk (Kd.R_lower ho0 (below_size (pB HB.out))); have n1_ := Aside0.mk (blk_below (pK BK244.out) hb); have n2_ := Aside0.mk (below_step (pB HB.out) hb); clear BK244; clear HB; have HO247 := n0_; have BK244 := n1_; have HB := n2_; clear n0_ n1_ n2_; (try clear hb); (try clear hb2); (try clear hk); (try clear hi); (try clear ho0))))
          go_ret
          exact ⟨by first | rfl | (simp [errW_none, errW_some] <;> rfl) | (simp [*, errW_none, errW_some] <;> rfl), pB HB.out⟩

end Go.Proofs.Ytlgfopdindklnaa.PArena
