-- printed by a program of this session (a turned copy of the kit's print); Lean checks it
import Derived.Test.YtiimflniadggaaaPLrux0
namespace Go.Proofs.Ytiimflniadggaaa.PLru
open Go.RowKit Go.Proofs.YtiimflniadggaaaW.PrintWords Go.Proofs.YtiimflniadggaaaW.PrintLast Go.Proofs.YtiimflniadggaaaW.PrintMore
attribute [local go_sem] max2_int min2_int max_two min_two max_three min_three max_four min_four   -- for this text's walks alone
set_option linter.unusedVariables false
set_option linter.unusedSimpArgs false

/-! ### lru_Check: function 21 -/
mutual
def lru_Check.j0 : Nat → Int → Bool → List Int → List Int → Int → Int → Option (Int)
  | 0, _, _, _, _, _, _ => none
  | k + 1, x3, x24, x172000, x172001, x172002, x172003 => if x24 = true then (some 8) else (if 0 ≤ x3 then (if (x3 : Int).toNat ≤ 281474976710656 then (lru_Check.l0 k x3 (List.replicate (x3 : Int).toNat false) (-1) x172002 x172000 x172001 x172002 x172003) else (none)) else (none))
def lru_Check.l0 : Nat → Int → List Bool → Int → Int → List Int → List Int → Int → Int → Option (Int)
  | 0, _, _, _, _, _, _, _, _ => none
  | k + 1, x3, x4, x5, x6, x172000, x172001, x172002, x172003 => if x6 = (-1) then (lru_Check.l1 k x5 x4 (x4.length : Int) 0 x172000 x172001 x172002 x172003) else (if x6 < 0 then (some 8) else (if x6 ≥ x3 then (some 8) else (if 0 ≤ x6 then (if x6 < (x4.length : Int) then (if rdOf false x4 x6 = true then (some 8) else (if x6 < (x172000.length : Int) then (if (rd x172000 x6) = x5 then (if x6 < (x172001.length : Int) then (lru_Check.l0 k x3 (x4.set (x6 : Int).toNat true) x6 (rd x172001 x6) x172000 x172001 x172002 x172003) else (none)) else (some 8)) else (none))) else (none)) else (none))))
def lru_Check.l1 : Nat → Int → List Bool → Int → Int → List Int → List Int → Int → Int → Option (Int)
  | 0, _, _, _, _, _, _, _, _ => none
  | k + 1, x5, x62, x63, x64, x172000, x172001, x172002, x172003 => if x64 < x63 then (if 0 ≤ x64 then (if x64 < (x62.length : Int) then (if rdOf false x62 x64 = true then (lru_Check.l1 k x5 x62 x63 (wrap64 (x64 + 1)) x172000 x172001 x172002 x172003) else (if x64 < (x172000.length : Int) then (if (rd x172000 x64) = (-1) then (if x64 < (x172001.length : Int) then (if (rd x172001 x64) = (-1) then (lru_Check.l1 k x5 x62 x63 (wrap64 (x64 + 1)) x172000 x172001 x172002 x172003) else (some 8)) else (none)) else (some 8)) else (none))) else (none)) else (none)) else (if x172003 = x5 then (some 0) else (some 8))
end
def lru_Check.f (k : Nat) (l0_0 : List Int) (l0_1 : List Int) (a0_2 : Int) (a0_3 : Int) : Option (Int) := if (l0_0.length : Int) < 1 then (lru_Check.j0 k (l0_0.length : Int) true l0_0 l0_1 a0_2 a0_3) else (if (l0_0.length : Int) > 16 then (lru_Check.j0 k (l0_0.length : Int) true l0_0 l0_1 a0_2 a0_3) else (lru_Check.j0 k (l0_0.length : Int) ((l0_1.length : Int) != (l0_0.length : Int)) l0_0 l0_1 a0_2 a0_3))
theorem lru_Check.mono_l : ∀ k, (∀ y0 y1 y2 y3 y4 y5, LeO (lru_Check.j0 k y0 y1 y2 y3 y4 y5) (lru_Check.j0 (k + 1) y0 y1 y2 y3 y4 y5)) ∧ (∀ y0 y1 y2 y3 y4 y5 y6 y7, LeO (lru_Check.l0 k y0 y1 y2 y3 y4 y5 y6 y7) (lru_Check.l0 (k + 1) y0 y1 y2 y3 y4 y5 y6 y7)) ∧ (∀ y0 y1 y2 y3 y4 y5 y6 y7, LeO (lru_Check.l1 k y0 y1 y2 y3 y4 y5 y6 y7) (lru_Check.l1 (k + 1) y0 y1 y2 y3 y4 y5 y6 y7))
  | 0 => ⟨fun _ _ _ _ _ _ r h => by simp [lru_Check.j0] at h, fun _ _ _ _ _ _ _ _ r h => by simp [lru_Check.l0] at h, fun _ _ _ _ _ _ _ _ r h => by simp [lru_Check.l1] at h⟩
  | k + 1 => by
    obtain ⟨ih0, ih1, ih2⟩ := lru_Check.mono_l k
    refine ⟨?_, ?_, ?_⟩
    · intro y0 y1 y2 y3 y4 y5
      unfold lru_Check.j0
      repeat' first
      | (with_reducible exact ih0 _ _ _ _ _ _)
      | (with_reducible exact ih1 _ _ _ _ _ _ _ _)
      | (with_reducible exact ih2 _ _ _ _ _ _ _ _)
      | (with_reducible exact LeO.refl _)
      | (with_reducible exact LeO.none _)
      | (with_reducible refine LeO.ite ?_ ?_)
      | (with_reducible refine LeO.bind ?_ (fun _ => ?_))
      | exact ih0 _ _ _ _ _ _
      | exact ih1 _ _ _ _ _ _ _ _
      | exact ih2 _ _ _ _ _ _ _ _
      | exact LeO.none _
      | refine LeO.ite ?_ ?_
      | refine LeO.bind ?_ (fun _ => ?_)
    · intro y0 y1 y2 y3 y4 y5 y6 y7
      unfold lru_Check.l0
      repeat' first
      | (with_reducible exact ih0 _ _ _ _ _ _)
      | (with_reducible exact ih1 _ _ _ _ _ _ _ _)
      | (with_reducible exact ih2 _ _ _ _ _ _ _ _)
      | (with_reducible exact LeO.refl _)
      | (with_reducible exact LeO.none _)
      | (with_reducible refine LeO.ite ?_ ?_)
      | (with_reducible refine LeO.bind ?_ (fun _ => ?_))
      | exact ih0 _ _ _ _ _ _
      | exact ih1 _ _ _ _ _ _ _ _
      | exact ih2 _ _ _ _ _ _ _ _
      | exact LeO.none _
      | refine LeO.ite ?_ ?_
      | refine LeO.bind ?_ (fun _ => ?_)
    · intro y0 y1 y2 y3 y4 y5 y6 y7
      unfold lru_Check.l1
      repeat' first
      | (with_reducible exact ih0 _ _ _ _ _ _)
      | (with_reducible exact ih1 _ _ _ _ _ _ _ _)
      | (with_reducible exact ih2 _ _ _ _ _ _ _ _)
      | (with_reducible exact LeO.refl _)
      | (with_reducible exact LeO.none _)
      | (with_reducible refine LeO.ite ?_ ?_)
      | (with_reducible refine LeO.bind ?_ (fun _ => ?_))
      | exact ih0 _ _ _ _ _ _
      | exact ih1 _ _ _ _ _ _ _ _
      | exact ih2 _ _ _ _ _ _ _ _
      | exact LeO.none _
      | refine LeO.ite ?_ ?_
      | refine LeO.bind ?_ (fun _ => ?_)
theorem lru_Check.mono : ∀ a0 a1 a2 a3 k, LeO (lru_Check.f k a0 a1 a2 a3) (lru_Check.f (k + 1) a0 a1 a2 a3) := by
  intro a0 a1 a2 a3 k
  obtain ⟨ih0, ih1, ih2⟩ := lru_Check.mono_l k
  unfold lru_Check.f
  repeat' first
      | (with_reducible exact ih0 _ _ _ _ _ _)
      | (with_reducible exact ih1 _ _ _ _ _ _ _ _)
      | (with_reducible exact ih2 _ _ _ _ _ _ _ _)
      | (with_reducible exact LeO.refl _)
      | (with_reducible exact LeO.none _)
      | (with_reducible refine LeO.ite ?_ ?_)
      | (with_reducible refine LeO.bind ?_ (fun _ => ?_))
      | exact ih0 _ _ _ _ _ _
      | exact ih1 _ _ _ _ _ _ _ _
      | exact ih2 _ _ _ _ _ _ _ _
      | exact LeO.none _
      | refine LeO.ite ?_ ?_
      | refine LeO.bind ?_ (fun _ => ?_)
set_option maxHeartbeats 8000000 in
set_option maxRecDepth 100000 in
theorem lru_Check.calls (k : Nat) (A0_0 : Option Addr) (c0_0 : Nat) (l0_0 : List Int) (A0_1 : Option Addr) (c0_1 : Nat) (l0_1 : List Int) (a0_2 : Int) (a0_3 : Int) (r : Int) (w : World) (hr0_0 : Kd.C (Kd.int .i64) w A0_0 l0_0.length l0_0) (hc0_0 : l0_0.length ≤ c0_0) (hr0_1 : Kd.C (Kd.int .i64) w A0_1 l0_1.length l0_1) (hc0_1 : l0_1.length ≤ c0_1) (h : lru_Check.f k l0_0 l0_1 a0_2 a0_3 = some r) :
    Calls Try.prog 21 #[.agg #[.slice A0_0 l0_0.length c0_0, .slice A0_1 l0_1.length c0_1, .int .i64 a0_2, .int .i64 a0_3]] w fun e w' => e = .returned (.int .i64 r) ∧ Below w.heap.size w w' := by
  have hu24 := Try.underlying24
  have HR0_0 := Aside0.mk hr0_0
  have HC0_0 := Aside0.mk hc0_0
  clear hr0_0 hc0_0
  have HR0_1 := Aside0.mk hr0_1
  have HC0_1 := Aside0.mk hc0_1
  clear hr0_1 hc0_1
  have HB := Aside0.mk (Below.refl w.heap.size w)
  have H : (if (l0_0.length : Int) < 1 then (lru_Check.j0 k (l0_0.length : Int) true l0_0 l0_1 a0_2 a0_3) else (if (l0_0.length : Int) > 16 then (lru_Check.j0 k (l0_0.length : Int) true l0_0 l0_1 a0_2 a0_3) else (lru_Check.j0 k (l0_0.length : Int) ((l0_1.length : Int) != (l0_0.length : Int)) l0_0 l0_1 a0_2 a0_3))) = some r := h
  (try clear h)
  have HC2 := Aside0.mk H
  clear H
  go_enter Try.func21, Try.ntmps21
  go_upto_region 2 with (first | ((with_reducible refine gate_dst (N := 1) rfl ?_); (try (refine gate_guard (by rfl) ?_; dsimp only)); refine boxE (N := 1) (cs := #[.slice A0_0 l0_0.length c0_0, .slice A0_1 l0_1.length c0_1, .int .i64 a0_2, .int .i64 a0_3]) (t := 24) ?_; intro gb171 hg w3 hbox hb; have n0_ := Aside0.mk (below_step (pB HB.out) hb); have n1_ := Aside0.mk (hbox); have n3_ := Aside0.mk (pL HB.out hg); clear HB; have HB := n0_; have BK171 := n1_; have GE171 := n3_; clear n0_ n1_ n3_; clear hb hbox hg; obtain ⟨hcz4_0, hcz4_1, hcz4_2, hcz4_3, hfz4_0, hfz4_1, hfz4_2, hfz4_3⟩ := bk4 BK171.out))
  (try simp only [Act.put, List.setIfInBounds_toArray, List.set_cons_zero, List.set_cons_succ])
  go_cut [24] (fun v24 wc => ∃ (kq : Nat) (x24_1 : Bool), v24 = .bool x24_1 ∧ Aside0 (lru_Check.j0 kq (l0_0.length : Int) x24_1 l0_0 l0_1 a0_2 a0_3 = some r) ∧ Aside0 (kq ≤ k) ∧ Aside0 (wc.heap[gb171]? = some (.cells #[(.slice A0_0 l0_0.length c0_0), (.slice A0_1 l0_1.length c0_1), .int .i64 a0_2, .int .i64 a0_3] 24 (0, 0))) ∧ Aside0 (Below w.heap.size w wc))
  case first =>
    have H := HC2.out
    (try clear HC2)
    by_cases c5 : (l0_0.length : Int) < 1
    · rw [if_pos c5] at H
      have c5b0 : decide ((l0_0.length : Int) < 1) = true := decide_eq_true c5
      have c5b1 : decide (l0_0.length < 1) = true := decide_eq_true (by omega)
      clear c5
      (first | rw [c5b0] | (simp only [i64_w, i32_w]; rw [c5b0]) | skip)
      have H' := Aside0.mk H
      clear H
      go_wp2
      go_meet
      case rel => exact ⟨_, (true), (by first | rfl | (simp; done) | (simp [*]; done)), H', ⟨by first | omega | exact Nat.le_refl _⟩, ⟨pK BK171.out⟩, ⟨pB HB.out⟩⟩
    · rw [if_neg c5] at H
      have c5b0 : decide ((l0_0.length : Int) < 1) = false := decide_eq_false c5
      have c5b1 : decide (l0_0.length < 1) = false := decide_eq_false (by omega)
      clear c5
      (first | rw [c5b0] | (simp only [i64_w, i32_w]; rw [c5b0]) | skip)
      by_cases c6 : (l0_0.length : Int) > 16
      · rw [if_pos c6] at H
        have c6b0 : decide (16 < (l0_0.length : Int)) = true := decide_eq_true c6
        have c6b1 : decide (16 < l0_0.length) = true := decide_eq_true (by omega)
        clear c6
        have H' := Aside0.mk H
        clear H
        go_wp2
        go_meet
        case rel => exact ⟨_, (true), (by first | rfl | (simp; done) | (simp [*]; done)), H', ⟨by first | omega | exact Nat.le_refl _⟩, ⟨pK BK171.out⟩, ⟨pB HB.out⟩⟩
      · rw [if_neg c6] at H
        have c6b0 : decide (16 < (l0_0.length : Int)) = false := decide_eq_false c6
        have c6b1 : decide (16 < l0_0.length) = false := decide_eq_false (by omega)
        clear c6
        have H' := Aside0.mk H
        clear H
        obtain ⟨hcz7_0, hcz7_1, hcz7_2, hcz7_3, hfz7_0, hfz7_1, hfz7_2, hfz7_3⟩ := bk4 BK171.out
        go_wp2
        go_meet
        case rel => exact ⟨_, (((l0_1.length : Int) != (l0_0.length : Int))), (by first | rfl | (simp; done) | (simp [*]; done)), H', ⟨by first | omega | exact Nat.le_refl _⟩, ⟨pK BK171.out⟩, ⟨pB HB.out⟩⟩
  case rest =>
    (try clear HC2)
    try clear c2
    try clear p2
    try clear c5
    try clear c5b0
    try clear c5b1
    try clear c6
    try clear c6b0
    try clear c6b1
    try clear hcz4_0
    try clear hcz4_1
    try clear hcz4_2
    try clear hcz4_3
    try clear hcz7_0
    try clear hcz7_1
    try clear hcz7_2
    try clear hcz7_3
    try clear hfz4_0
    try clear hfz4_1
    try clear hfz4_2
    try clear hfz4_3
    try clear hfz7_0
    try clear hfz7_1
    try clear hfz7_2
    try clear hfz7_3
    obtain ⟨kq, x24_1, rfl, HA, HJ1, BK171, HB⟩ := hcut
    cases kq with
    | zero => exact absurd HA.out (by simp [lru_Check.j0])
    | succ kj1 =>
      have H := HA.out
      clear HA
      simp only [lru_Check.j0] at H
      by_cases c8 : x24_1 = true
      · subst c8
        have H1 : (some 8) = some r := by rw [if_pos rfl] at H; exact H
        clear H
        have H := H1
        clear H1
        obtain rfl := Option.some.inj H
        go_wp2
        go_ret
        exact ⟨by first | rfl | (simp [errW_none, errW_some] <;> rfl) | (simp [*, errW_none, errW_some] <;> rfl), pB HB.out⟩
      · replace c8 := Bool.eq_false_iff.mpr c8
        subst c8
        have H1 : (if 0 ≤ (l0_0.length : Int) then (if ((l0_0.length : Int) : Int).toNat ≤ 281474976710656 then (lru_Check.l0 kj1 (l0_0.length : Int) (List.replicate ((l0_0.length : Int) : Int).toNat false) (-1) a0_2 l0_0 l0_1 a0_2 a0_3) else (none)) else (none)) = some r := by rw [if_neg (show ¬ (false = true) by decide)] at H; exact H
        clear H
        have H := H1
        clear H1
        by_cases c9 : 0 ≤ (l0_0.length : Int)
        · rw [if_pos c9] at H
          have c9b0 := eq_true c9
          have c9b1 : decide (0 ≤ (l0_0.length : Int)) = true := decide_eq_true c9
          clear c9
          by_cases c10 : ((l0_0.length : Int) : Int).toNat ≤ 281474976710656
          · rw [if_pos c10] at H
            have c10b0 := eq_true c10
            have c10b1 : decide (((l0_0.length : Int) : Int).toNat ≤ 281474976710656) = true := decide_eq_true c10
            clear c10
            obtain ⟨y172, hy172⟩ : ∃ y_ : List Bool, y_ = (List.replicate ((l0_0.length : Int) : Int).toNat false) := ⟨_, rfl⟩
            replace H : (lru_Check.l0 kj1 (l0_0.length : Int) y172 (-1) a0_2 l0_0 l0_1 a0_2 a0_3) = some r := by first | (rw [hy172]; with_reducible exact H) | (have H2_ := (Option.bind_some _ _).symm.trans H; rw [hy172]; with_reducible exact H2_) | (have H2_ := (Option.bind_some _ _).symm.trans H; with_reducible exact H2_) | with_reducible exact H | (rw [hy172]; exact H) | exact H
            have Ny172 := Aside0.mk hy172
            (try clear hy172)
            have H' := Aside0.mk H
            clear H
            go_wp2_with (first | ((with_reducible refine gate_dst (N := 26) rfl ?_); (try (refine gate_guard (by rfl) ?_; dsimp only)); refine Kd.R_make Kd.bool _ 4 rfl (N := 26) rfl 61 _ _ rfl (l0_0.length : Int) rfl rfl Try.underlying61 (.bool false) 1 info4 rfl (by decide) (by omega) false (ok := fun _ => True) (okp := fun _ => True) rfl (fun _ hk => hk) trivial od (Nat.le_trans (Nat.mul_le_mul_right _ (od : (l0_0.length : Int).toNat ≤ 281474976710656)) (by omega)) (Below.refl _ _) (Nat.le_refl _) ?_; intro v173 w11 ho12 hb hg_ hnew_; clear hg_ hnew_; (first | rw [← Ny172.out] at ho12 | (simp only [Int.reduceToNat] at ho12; rw [← Ny172.out] at ho12)); have n0_ := Aside0.mk (Kd.R_lower ho12 (below_size (pB HB.out))); have n1_ := Aside0.mk (blk_below (pK BK171.out) hb); have n2_ := Aside0.mk (below_step (pB HB.out) hb); clear BK171; clear HB; have HO174 := n0_; have BK171 := n1_; have HB := n2_; clear n0_ n1_ n2_; clear hb ho12; obtain ⟨hcz13_0, hcz13_1, hcz13_2, hcz13_3, hfz13_0, hfz13_1, hfz13_2, hfz13_3⟩ := bk4 BK171.out))
            go_loopg [5, 6] kj1 (fun kq v5 v6 w' => ∃ (x4_2 : List Bool) (x5_2 : Int) (x6_2 : Int), v5 = .int .i64 x5_2 ∧ v6 = .int .i64 x6_2 ∧ Aside0 (lru_Check.l0 kq (l0_0.length : Int) x4_2 x5_2 x6_2 l0_0 l0_1 a0_2 a0_3 = some r) ∧ Aside0 (kq ≤ kj1) ∧ Aside0 (Kd.R Kd.bool 4 w' w.heap.size (fun _ => True) v173 x4_2) ∧ Aside0 (w'.heap[gb171]? = some (.cells #[(.slice A0_0 l0_0.length c0_0), (.slice A0_1 l0_1.length c0_1), .int .i64 a0_2, .int .i64 a0_3] 24 (0, 0))) ∧ Aside0 (Below w.heap.size w w'))
            case atStart => exact ⟨(y172), ((-1)), (a0_2), (by first | rfl | (simp; done) | (simp [*]; done)), (by first | rfl | (simp; done) | (simp [*]; done)), H', ⟨Nat.le_refl _⟩, ⟨Kd.pR HO174.out⟩, ⟨pK BK171.out⟩, ⟨pB HB.out⟩⟩
            case round =>
              clear H'
              try clear c1
              try clear c2
              try clear p2
              try clear c5
              try clear c5b0
              try clear c5b1
              try clear c6
              try clear c6b0
              try clear c6b1
              try clear c8
              try clear c9
              try clear c9b0
              try clear c9b1
              try clear c10
              try clear c10b0
              try clear c10b1
              try clear hcz13_0
              try clear hcz13_1
              try clear hcz13_2
              try clear hcz13_3
              try clear hcz4_0
              try clear hcz4_1
              try clear hcz4_2
              try clear hcz4_3
              try clear hcz7_0
              try clear hcz7_1
              try clear hcz7_2
              try clear hcz7_3
              try clear hfz13_0
              try clear hfz13_1
              try clear hfz13_2
              try clear hfz13_3
              try clear hfz4_0
              try clear hfz4_1
              try clear hfz4_2
              try clear hfz4_3
              try clear hfz7_0
              try clear hfz7_1
              try clear hfz7_2
              try clear hfz7_3
              try clear p2
              obtain ⟨x4_2, x5_2, x6_2, rfl, rfl, HA, HK2, HO_4, BK171, HB⟩ := hrel
              cases gk with
              | zero => exact absurd HA.out (by simp [lru_Check.l0])
              | succ k2 =>
                have H := HA.out
                clear HA
                simp only [lru_Check.l0] at H
                by_cases c14 : x6_2 = (-1)
                · rw [if_pos c14] at H
                  have c14b0 : (x6_2 == (-1)) = true := beq_iff_eq.mpr c14
                  have c14b1 : (x6_2 != (-1)) = false := bne_eq_false_iff_eq.mpr c14
                  clear c14
                  have H' := Aside0.mk H
                  clear H
                  obtain ⟨Ao15, co15, eo15⟩ := Kd.R_slice HO_4.out
                  subst eo15
                  go_wp2
                  go_loopg [64] k2 (fun kq v64 w' => ∃ (x64_3 : Int), v64 = .int .i64 x64_3 ∧ Aside0 (lru_Check.l1 kq x5_2 x4_2 (x4_2.length : Int) x64_3 l0_0 l0_1 a0_2 a0_3 = some r) ∧ Aside0 (kq ≤ k2) ∧ Aside0 (Kd.R Kd.bool 4 w' w.heap.size (fun _ => True) (.slice Ao15 x4_2.length co15) x4_2) ∧ Aside0 (w'.heap[gb171]? = some (.cells #[(.slice A0_0 l0_0.length c0_0), (.slice A0_1 l0_1.length c0_1), .int .i64 a0_2, .int .i64 a0_3] 24 (0, 0))) ∧ Aside0 (Below w.heap.size w w'))
                  case atStart => exact ⟨(0), (by first | rfl | (simp; done) | (simp [*]; done)), H', ⟨Nat.le_refl _⟩, ⟨Kd.pR HO_4.out⟩, ⟨pK BK171.out⟩, ⟨pB HB.out⟩⟩
                  case round =>
                    clear H'
                    try clear c1
                    try clear c2
                    try clear p2
                    try clear c5
                    try clear c5b0
                    try clear c5b1
                    try clear c6
                    try clear c6b0
                    try clear c6b1
                    try clear c8
                    try clear c9
                    try clear c9b0
                    try clear c9b1
                    try clear c10
                    try clear c10b0
                    try clear c10b1
                    try clear c14
                    try clear c14b0
                    try clear c14b1
                    try clear hcz13_0
                    try clear hcz13_1
                    try clear hcz13_2
                    try clear hcz13_3
                    try clear hcz4_0
                    try clear hcz4_1
                    try clear hcz4_2
                    try clear hcz4_3
                    try clear hcz7_0
                    try clear hcz7_1
                    try clear hcz7_2
                    try clear hcz7_3
                    try clear hfz13_0
                    try clear hfz13_1
                    try clear hfz13_2
                    try clear hfz13_3
                    try clear hfz4_0
                    try clear hfz4_1
                    try clear hfz4_2
                    try clear hfz4_3
                    try clear hfz7_0
                    try clear hfz7_1
                    try clear hfz7_2
                    try clear hfz7_3
                    try clear p2
                    obtain ⟨x64_3, rfl, HA, HK3, HO_62, BK171, HB⟩ := hrel
                    cases gk with
                    | zero => exact absurd HA.out (by simp [lru_Check.l1])
                    | succ k3 =>
                      have H := HA.out
                      (try clear HA)
                      simp only [lru_Check.l1] at H
                      by_cases c16 : x64_3 < (x4_2.length : Int)
                      · rw [if_pos c16] at H
                        have c16b0 : decide (x64_3 < (x4_2.length : Int)) = true := decide_eq_true c16
                        clear c16
                        by_cases c17 : 0 ≤ x64_3
                        · rw [if_pos c17] at H
                          have c17b0 : decide (0 ≤ x64_3) = true := decide_eq_true c17
                          clear c17
                          by_cases c18 : x64_3 < (x4_2.length : Int)
                          · rw [if_pos c18] at H
                            have c18b0 : decide (x64_3 < (x4_2.length : Int)) = true := decide_eq_true c18
                            clear c18
                            obtain ⟨bq19, hbq19⟩ : ∃ b_ : Bool, b_ = (rdOf false x4_2 x64_3) := ⟨_, rfl⟩
                            replace H : (if bq19 = true then (lru_Check.l1 k3 x5_2 x4_2 (x4_2.length : Int) (wrap64 (x64_3 + 1)) l0_0 l0_1 a0_2 a0_3) else (if x64_3 < (l0_0.length : Int) then (if (rd l0_0 x64_3) = (-1) then (if x64_3 < (l0_1.length : Int) then (if (rd l0_1 x64_3) = (-1) then (lru_Check.l1 k3 x5_2 x4_2 (x4_2.length : Int) (wrap64 (x64_3 + 1)) l0_0 l0_1 a0_2 a0_3) else (some 8)) else (none)) else (some 8)) else (none))) = some r := by rw [← hbq19] at H; exact H
                            have Nbq19 := Aside0.mk hbq19
                            (try clear hbq19)
                            by_cases c20 : bq19 = true
                            · subst c20
                              have H1 : (lru_Check.l1 k3 x5_2 x4_2 (x4_2.length : Int) (wrap64 (x64_3 + 1)) l0_0 l0_1 a0_2 a0_3) = some r := by rw [if_pos rfl] at H; exact H
                              clear H
                              have H := H1
                              clear H1
                              have H' := Aside0.mk H
                              clear H
                              have p179 : 0 ≤ (x64_3 : Int) := od
                              have q179 : x64_3 < (x4_2.length : Int) := od
                              obtain ⟨ad179, e179, hx179_0⟩ := Kd.at_bool (Kd.R_reads' HO_62.out).2.2 x64_3 p179 q179
                              (try rw [← Nbq19.out] at hx179_0)
                              cases e179
                              replace p179 := eq_true p179
                              replace q179 := eq_true q179
                              go_wp2
                              go_roundg k3
                              case measure => have := HJ1.out; have := HK2.out; have := HK3.out; omega
                              case rel => exact ⟨(wrap64 (x64_3 + 1)), (by first | rfl | (simp; done) | (simp [*]; done)), H', ⟨by have := HJ1.out; have := HK2.out; have := HK3.out; omega⟩, ⟨Kd.pR HO_62.out⟩, ⟨pK BK171.out⟩, ⟨pB HB.out⟩⟩
                            · replace c20 := Bool.eq_false_iff.mpr c20
                              subst c20
                              have H1 : (if x64_3 < (l0_0.length : Int) then (if (rd l0_0 x64_3) = (-1) then (if x64_3 < (l0_1.length : Int) then (if (rd l0_1 x64_3) = (-1) then (lru_Check.l1 k3 x5_2 x4_2 (x4_2.length : Int) (wrap64 (x64_3 + 1)) l0_0 l0_1 a0_2 a0_3) else (some 8)) else (none)) else (some 8)) else (none)) = some r := by rw [if_neg (show ¬ (false = true) by decide)] at H; exact H
                              clear H
                              have H := H1
                              clear H1
                              by_cases c21 : x64_3 < (l0_0.length : Int)
                              · rw [if_pos c21] at H
                                have c21b0 : decide (x64_3 < (l0_0.length : Int)) = true := decide_eq_true c21
                                clear c21
                                by_cases c22 : (rd l0_0 x64_3) = (-1)
                                · rw [if_pos c22] at H
                                  have c22b0 : ((rd l0_0 x64_3) == (-1)) = true := beq_iff_eq.mpr c22
                                  have c22b1 : ((rd l0_0 x64_3) != (-1)) = false := bne_eq_false_iff_eq.mpr c22
                                  clear c22
                                  by_cases c23 : x64_3 < (l0_1.length : Int)
                                  · rw [if_pos c23] at H
                                    have c23b0 : decide (x64_3 < (l0_1.length : Int)) = true := decide_eq_true c23
                                    clear c23
                                    by_cases c24 : (rd l0_1 x64_3) = (-1)
                                    · rw [if_pos c24] at H
                                      have c24b0 : ((rd l0_1 x64_3) == (-1)) = true := beq_iff_eq.mpr c24
                                      have c24b1 : ((rd l0_1 x64_3) != (-1)) = false := bne_eq_false_iff_eq.mpr c24
                                      clear c24
                                      have H' := Aside0.mk H
                                      clear H
                                      have p179 : 0 ≤ (x64_3 : Int) := od
                                      have q179 : x64_3 < (x4_2.length : Int) := od
                                      obtain ⟨ad179, e179, hx179_0⟩ := Kd.at_bool (Kd.R_reads' HO_62.out).2.2 x64_3 p179 q179
                                      (try rw [← Nbq19.out] at hx179_0)
                                      cases e179
                                      replace p179 := eq_true p179
                                      replace q179 := eq_true q179
                                      obtain ⟨hcz25_0, hcz25_1, hcz25_2, hcz25_3, hfz25_0, hfz25_1, hfz25_2, hfz25_3⟩ := bk4 BK171.out
                                      have p180 : 0 ≤ (x64_3 : Int) := od
                                      have q180 : x64_3 < (l0_0.length : Int) := od
                                      obtain ⟨ad180, e180, hx180_0⟩ := Kd.at_int HR0_0.out x64_3 p180 q180
                                      cases e180
                                      replace hx180_0 := (HB.out.cell (World.block_lt_of_cell? w _ hx180_0)).trans hx180_0
                                      replace p180 := eq_true p180
                                      replace q180 := eq_true q180
                                      have p181 : 0 ≤ (x64_3 : Int) := od
                                      have q181 : x64_3 < (l0_1.length : Int) := od
                                      obtain ⟨ad181, e181, hx181_0⟩ := Kd.at_int HR0_1.out x64_3 p181 q181
                                      cases e181
                                      replace hx181_0 := (HB.out.cell (World.block_lt_of_cell? w _ hx181_0)).trans hx181_0
                                      replace p181 := eq_true p181
                                      replace q181 := eq_true q181
                                      go_wp2
                                      go_roundg k3
                                      case measure => have := HJ1.out; have := HK2.out; have := HK3.out; omega
                                      case rel => exact ⟨(wrap64 (x64_3 + 1)), (by first | rfl | (simp; done) | (simp [*]; done)), H', ⟨by have := HJ1.out; have := HK2.out; have := HK3.out; omega⟩, ⟨Kd.pR HO_62.out⟩, ⟨pK BK171.out⟩, ⟨pB HB.out⟩⟩
                                    · rw [if_neg c24] at H
                                      have c24b0 : ((rd l0_1 x64_3) == (-1)) = false := beq_eq_false_iff_ne.mpr c24
                                      have c24b1 : ((rd l0_1 x64_3) != (-1)) = true := bne_iff_ne.mpr c24
                                      obtain rfl := Option.some.inj H
                                      have p179 : 0 ≤ (x64_3 : Int) := od
                                      have q179 : x64_3 < (x4_2.length : Int) := od
                                      obtain ⟨ad179, e179, hx179_0⟩ := Kd.at_bool (Kd.R_reads' HO_62.out).2.2 x64_3 p179 q179
                                      (try rw [← Nbq19.out] at hx179_0)
                                      cases e179
                                      replace p179 := eq_true p179
                                      replace q179 := eq_true q179
                                      obtain ⟨hcz26_0, hcz26_1, hcz26_2, hcz26_3, hfz26_0, hfz26_1, hfz26_2, hfz26_3⟩ := bk4 BK171.out
                                      have p180 : 0 ≤ (x64_3 : Int) := od
                                      have q180 : x64_3 < (l0_0.length : Int) := od
                                      obtain ⟨ad180, e180, hx180_0⟩ := Kd.at_int HR0_0.out x64_3 p180 q180
                                      cases e180
                                      replace hx180_0 := (HB.out.cell (World.block_lt_of_cell? w _ hx180_0)).trans hx180_0
                                      replace p180 := eq_true p180
                                      replace q180 := eq_true q180
                                      have p181 : 0 ≤ (x64_3 : Int) := od
                                      have q181 : x64_3 < (l0_1.length : Int) := od
                                      obtain ⟨ad181, e181, hx181_0⟩ := Kd.at_int HR0_1.out x64_3 p181 q181
                                      cases e181
                                      replace hx181_0 := (HB.out.cell (World.block_lt_of_cell? w _ hx181_0)).trans hx181_0
                                      replace p181 := eq_true p181
                                      replace q181 := eq_true q181
                                      go_wp2
                                      go_ret
                                      exact ⟨by first | rfl | (simp [errW_none, errW_some] <;> rfl) | (simp [*, errW_none, errW_some] <;> rfl), pB HB.out⟩
                                  · rw [if_neg c23] at H
                                    exact absurd H (by simp)
                                · rw [if_neg c22] at H
                                  have c22b0 : ((rd l0_0 x64_3) == (-1)) = false := beq_eq_false_iff_ne.mpr c22
                                  have c22b1 : ((rd l0_0 x64_3) != (-1)) = true := bne_iff_ne.mpr c22
                                  obtain rfl := Option.some.inj H
                                  have p179 : 0 ≤ (x64_3 : Int) := od
                                  have q179 : x64_3 < (x4_2.length : Int) := od
                                  obtain ⟨ad179, e179, hx179_0⟩ := Kd.at_bool (Kd.R_reads' HO_62.out).2.2 x64_3 p179 q179
                                  (try rw [← Nbq19.out] at hx179_0)
                                  cases e179
                                  replace p179 := eq_true p179
                                  replace q179 := eq_true q179
                                  obtain ⟨hcz27_0, hcz27_1, hcz27_2, hcz27_3, hfz27_0, hfz27_1, hfz27_2, hfz27_3⟩ := bk4 BK171.out
                                  have p180 : 0 ≤ (x64_3 : Int) := od
                                  have q180 : x64_3 < (l0_0.length : Int) := od
                                  obtain ⟨ad180, e180, hx180_0⟩ := Kd.at_int HR0_0.out x64_3 p180 q180
                                  cases e180
                                  replace hx180_0 := (HB.out.cell (World.block_lt_of_cell? w _ hx180_0)).trans hx180_0
                                  replace p180 := eq_true p180
                                  replace q180 := eq_true q180
                                  go_wp2
                                  go_ret
                                  exact ⟨by first | rfl | (simp [errW_none, errW_some] <;> rfl) | (simp [*, errW_none, errW_some] <;> rfl), pB HB.out⟩
                              · rw [if_neg c21] at H
                                exact absurd H (by simp)
                          · rw [if_neg c18] at H
                            exact absurd H (by simp)
                        · rw [if_neg c17] at H
                          exact absurd H (by simp)
                      · rw [if_neg c16] at H
                        have c16b0 : decide (x64_3 < (x4_2.length : Int)) = false := decide_eq_false c16
                        (try clear c16)
                        by_cases c28 : a0_3 = x5_2
                        · rw [if_pos c28] at H
                          have c28b0 : (a0_3 == x5_2) = true := beq_iff_eq.mpr c28
                          have c28b1 : (a0_3 != x5_2) = false := bne_eq_false_iff_eq.mpr c28
                          clear c28
                          obtain rfl := Option.some.inj H
                          obtain ⟨hcz29_0, hcz29_1, hcz29_2, hcz29_3, hfz29_0, hfz29_1, hfz29_2, hfz29_3⟩ := bk4 BK171.out
                          go_wp2
                          go_ret
                          exact ⟨by first | rfl | (simp [errW_none, errW_some] <;> rfl) | (simp [*, errW_none, errW_some] <;> rfl), pB HB.out⟩
                        · rw [if_neg c28] at H
                          have c28b0 : (a0_3 == x5_2) = false := beq_eq_false_iff_ne.mpr c28
                          have c28b1 : (a0_3 != x5_2) = true := bne_iff_ne.mpr c28
                          obtain rfl := Option.some.inj H
                          obtain ⟨hcz30_0, hcz30_1, hcz30_2, hcz30_3, hfz30_0, hfz30_1, hfz30_2, hfz30_3⟩ := bk4 BK171.out
                          go_wp2
                          go_ret
                          exact ⟨by first | rfl | (simp [errW_none, errW_some] <;> rfl) | (simp [*, errW_none, errW_some] <;> rfl), pB HB.out⟩
                · rw [if_neg c14] at H
                  have c14b0 : (x6_2 == (-1)) = false := beq_eq_false_iff_ne.mpr c14
                  have c14b1 : (x6_2 != (-1)) = true := bne_iff_ne.mpr c14
                  by_cases c31 : x6_2 < 0
                  · rw [if_pos c31] at H
                    have c31b0 : decide (x6_2 < 0) = true := decide_eq_true c31
                    clear c31
                    obtain rfl := Option.some.inj H
                    go_wp2
                    go_ret
                    exact ⟨by first | rfl | (simp [errW_none, errW_some] <;> rfl) | (simp [*, errW_none, errW_some] <;> rfl), pB HB.out⟩
                  · rw [if_neg c31] at H
                    have c31b0 : decide (x6_2 < 0) = false := decide_eq_false c31
                    (try clear c31)
                    by_cases c32 : x6_2 ≥ (l0_0.length : Int)
                    · rw [if_pos c32] at H
                      have c32b0 : decide ((l0_0.length : Int) ≤ x6_2) = true := decide_eq_true c32
                      clear c32
                      obtain rfl := Option.some.inj H
                      go_wp2
                      go_ret
                      exact ⟨by first | rfl | (simp [errW_none, errW_some] <;> rfl) | (simp [*, errW_none, errW_some] <;> rfl), pB HB.out⟩
                    · rw [if_neg c32] at H
                      have c32b0 : decide ((l0_0.length : Int) ≤ x6_2) = false := decide_eq_false c32
                      (try clear c32)
                      by_cases c33 : 0 ≤ x6_2
                      · rw [if_pos c33] at H
                        have c33b0 : decide (0 ≤ x6_2) = true := decide_eq_true c33
                        clear c33
                        by_cases c34 : x6_2 < (x4_2.length : Int)
                        · rw [if_pos c34] at H
                          have c34b0 : decide (x6_2 < (x4_2.length : Int)) = true := decide_eq_true c34
                          clear c34
                          obtain ⟨bq35, hbq35⟩ : ∃ b_ : Bool, b_ = (rdOf false x4_2 x6_2) := ⟨_, rfl⟩
                          replace H : (if bq35 = true then (some 8) else (if x6_2 < (l0_0.length : Int) then (if (rd l0_0 x6_2) = x5_2 then (if x6_2 < (l0_1.length : Int) then (lru_Check.l0 k2 (l0_0.length : Int) (x4_2.set (x6_2 : Int).toNat true) x6_2 (rd l0_1 x6_2) l0_0 l0_1 a0_2 a0_3) else (none)) else (some 8)) else (none))) = some r := by rw [← hbq35] at H; exact H
                          have Nbq35 := Aside0.mk hbq35
                          (try clear hbq35)
                          by_cases c36 : bq35 = true
                          · subst c36
                            have H1 : (some 8) = some r := by rw [if_pos rfl] at H; exact H
                            clear H
                            have H := H1
                            clear H1
                            obtain rfl := Option.some.inj H
                            obtain ⟨Ao37, co37, eo37⟩ := Kd.R_slice HO_4.out
                            subst eo37
                            have p175 : 0 ≤ (x6_2 : Int) := od
                            have q175 : x6_2 < (x4_2.length : Int) := od
                            obtain ⟨ad175, e175, hx175_0⟩ := Kd.at_bool (Kd.R_reads' HO_4.out).2.2 x6_2 p175 q175
                            (try rw [← Nbq35.out] at hx175_0)
                            cases e175
                            replace p175 := eq_true p175
                            replace q175 := eq_true q175
                            go_wp2
                            go_ret
                            exact ⟨by first | rfl | (simp [errW_none, errW_some] <;> rfl) | (simp [*, errW_none, errW_some] <;> rfl), pB HB.out⟩
                          · replace c36 := Bool.eq_false_iff.mpr c36
                            subst c36
                            have H1 : (if x6_2 < (l0_0.length : Int) then (if (rd l0_0 x6_2) = x5_2 then (if x6_2 < (l0_1.length : Int) then (lru_Check.l0 k2 (l0_0.length : Int) (x4_2.set (x6_2 : Int).toNat true) x6_2 (rd l0_1 x6_2) l0_0 l0_1 a0_2 a0_3) else (none)) else (some 8)) else (none)) = some r := by rw [if_neg (show ¬ (false = true) by decide)] at H; exact H
                            clear H
                            have H := H1
                            (try clear H1)
                            by_cases c38 : x6_2 < (l0_0.length : Int)
                            · rw [if_pos c38] at H
                              have c38b0 : decide (x6_2 < (l0_0.length : Int)) = true := decide_eq_true c38
                              clear c38
                              by_cases c39 : (rd l0_0 x6_2) = x5_2
                              · rw [if_pos c39] at H
                                have c39b0 : ((rd l0_0 x6_2) == x5_2) = true := beq_iff_eq.mpr c39
                                have c39b1 : ((rd l0_0 x6_2) != x5_2) = false := bne_eq_false_iff_eq.mpr c39
                                clear c39
                                obtain ⟨y177, hy177⟩ : ∃ y_ : List Bool, y_ = (x4_2.set (x6_2 : Int).toNat true) := ⟨_, rfl⟩
                                replace H : (if x6_2 < (l0_1.length : Int) then (lru_Check.l0 k2 (l0_0.length : Int) y177 x6_2 (rd l0_1 x6_2) l0_0 l0_1 a0_2 a0_3) else (none)) = some r := by first | (rw [hy177]; with_reducible exact H) | (have H2_ := (Option.bind_some _ _).symm.trans H; rw [hy177]; with_reducible exact H2_) | (have H2_ := (Option.bind_some _ _).symm.trans H; with_reducible exact H2_) | with_reducible exact H | (rw [hy177]; exact H) | exact H
                                have Ny177 := Aside0.mk hy177
                                (try clear hy177)
                                by_cases c41 : x6_2 < (l0_1.length : Int)
                                · rw [if_pos c41] at H
                                  have c41b0 : decide (x6_2 < (l0_1.length : Int)) = true := decide_eq_true c41
                                  clear c41
                                  have H' := Aside0.mk H
                                  clear H
                                  obtain ⟨Ao42, co42, eo42⟩ := Kd.R_slice HO_4.out
                                  subst eo42
                                  have p175 : 0 ≤ (x6_2 : Int) := od
                                  have q175 : x6_2 < (x4_2.length : Int) := od
                                  obtain ⟨ad175, e175, hx175_0⟩ := Kd.at_bool (Kd.R_reads' HO_4.out).2.2 x6_2 p175 q175
                                  (try rw [← Nbq35.out] at hx175_0)
                                  cases e175
                                  replace p175 := eq_true p175
                                  replace q175 := eq_true q175
                                  obtain ⟨hcz43_0, hcz43_1, hcz43_2, hcz43_3, hfz43_0, hfz43_1, hfz43_2, hfz43_3⟩ := bk4 BK171.out
                                  have p176 : 0 ≤ (x6_2 : Int) := od
                                  have q176 : x6_2 < (l0_0.length : Int) := od
                                  obtain ⟨ad176, e176, hx176_0⟩ := Kd.at_int HR0_0.out x6_2 p176 q176
                                  cases e176
                                  replace hx176_0 := (HB.out.cell (World.block_lt_of_cell? w _ hx176_0)).trans hx176_0
                                  replace p176 := eq_true p176
                                  replace q176 := eq_true q176
                                  have p40 : 0 ≤ (x6_2 : Int) := od
                                  have q40 : (x6_2 : Int) < ((x4_2.length : Int) : Int) := od
                                  obtain ⟨go40, co40, eo40, gb40, gl40, cl40, HG40⟩ := Kd.R_form HO_4.out (by omega)
                                  (first | cases eo40 | (injection eo40 with ea_ en_ ec_; (first | subst ea_ | (injection ea_ with ea_; subst ea_)); subst ec_; clear en_))
                                  have GB40 := Aside0.mk gb40
                                  have GG40 := Aside0.mk HG40
                                  clear gb40 gl40 HG40
                                  (first | simp only [add_plain] at hx175_0 | skip)
                                  obtain ⟨hx40_0, hf40_0⟩ := Kd.R_celln false HO_4.out (x6_2 : Int) p40 q40
                                  replace p40 := eq_true p40
                                  replace q40 := eq_true q40
                                  have HP44 := Kd.R_putg HO_4.out (x6_2 : Int) true
                                  go_wp2_with (first | ((with_reducible refine gate_store (t := 4) (p := 61) rfl ?_); refine store_event (t := 4) (p := 61) (v := ?vo_w45) (w1 := (wr.setCell ⟨go40, (x6_2 : Int).toNat, none⟩ (.bool true))) ?hg ?ho ?hn ?hr ?_; (case ho => rfl); (case hg => rfl); (case hn => rfl); (case hr => first | (go_simp; done) | (go_simp; rfl)); intro w45 hw; have hg : wr.grownBy w45 (some go40) := (by rw [hw]; exact HP44.2); have hp_ : Kd.R Kd.bool 4 w45 w.heap.size (fun _ => True) (.slice (some ⟨go40, 0, none⟩) x4_2.length co42) y177 := (by rw [hw, Ny177.out]; exact HP44.1); (try clear HP44); have n0_ := Aside0.mk (hp_); have n1_ := Aside0.mk (blk_grown (pK BK171.out) hg (Kd.R_ne HO_4.out BK171.out (by decide))); have n2_ := Aside0.mk ((by rw [hw]; exact below_set (HB.out) GB40.out : Below w.heap.size w w45)); clear HO_4; clear BK171; clear HB; have HO_4 := n0_; have BK171 := n1_; have HB := n2_; clear n0_ n1_ n2_; clear hg hw hp_; obtain ⟨hcz46_0, hcz46_1, hcz46_2, hcz46_3, hfz46_0, hfz46_1, hfz46_2, hfz46_3⟩ := bk4 BK171.out; have p178 : 0 ≤ (x6_2 : Int) := od; have q178 : x6_2 < (l0_1.length : Int) := od; obtain ⟨ad178, e178, hx178_0⟩ := Kd.at_int HR0_1.out x6_2 p178 q178; cases e178; replace hx178_0 := (HB.out.cell (World.block_lt_of_cell? w _ hx178_0)).trans hx178_0; replace p178 := eq_true p178; replace q178 := eq_true q178))
                                  go_roundg k2
                                  case measure => have := HJ1.out; have := HK2.out; omega
                                  case rel => exact ⟨(y177), (x6_2), (rd l0_1 x6_2), (by first | rfl | (simp; done) | (simp [*]; done)), (by first | rfl | (simp; done) | (simp [*]; done)), H', ⟨by have := HJ1.out; have := HK2.out; omega⟩, ⟨Kd.pR HO_4.out⟩, ⟨pK BK171.out⟩, ⟨pB HB.out⟩⟩
                                · rw [if_neg c41] at H
                                  exact absurd H (by simp)
                              · rw [if_neg c39] at H
                                have c39b0 : ((rd l0_0 x6_2) == x5_2) = false := beq_eq_false_iff_ne.mpr c39
                                have c39b1 : ((rd l0_0 x6_2) != x5_2) = true := bne_iff_ne.mpr c39
                                obtain rfl := Option.some.inj H
                                obtain ⟨Ao47, co47, eo47⟩ := Kd.R_slice HO_4.out
                                subst eo47
                                have p175 : 0 ≤ (x6_2 : Int) := od
                                have q175 : x6_2 < (x4_2.length : Int) := od
                                obtain ⟨ad175, e175, hx175_0⟩ := Kd.at_bool (Kd.R_reads' HO_4.out).2.2 x6_2 p175 q175
                                (try rw [← Nbq35.out] at hx175_0)
                                cases e175
                                replace p175 := eq_true p175
                                replace q175 := eq_true q175
                                obtain ⟨hcz48_0, hcz48_1, hcz48_2, hcz48_3, hfz48_0, hfz48_1, hfz48_2, hfz48_3⟩ := bk4 BK171.out
                                have p176 : 0 ≤ (x6_2 : Int) := od
                                have q176 : x6_2 < (l0_0.length : Int) := od
                                obtain ⟨ad176, e176, hx176_0⟩ := Kd.at_int HR0_0.out x6_2 p176 q176
                                cases e176
                                replace hx176_0 := (HB.out.cell (World.block_lt_of_cell? w _ hx176_0)).trans hx176_0
                                replace p176 := eq_true p176
                                replace q176 := eq_true q176
                                go_wp2
                                go_ret
                                exact ⟨by first | rfl | (simp [errW_none, errW_some] <;> rfl) | (simp [*, errW_none, errW_some] <;> rfl), pB HB.out⟩
                            · rw [if_neg c38] at H
                              exact absurd H (by simp)
                        · rw [if_neg c34] at H
                          exact absurd H (by simp)
                      · rw [if_neg c33] at H
                        exact absurd H (by simp)
          · rw [if_neg c10] at H
            exact absurd H (by simp)
        · rw [if_neg c9] at H
          exact absurd H (by simp)

end Go.Proofs.Ytiimflniadggaaa.PLru
