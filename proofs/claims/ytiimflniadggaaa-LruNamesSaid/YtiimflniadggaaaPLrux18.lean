-- printed by a program of this session (a turned copy of the kit's print); Lean checks it
import Derived.Test.YtiimflniadggaaaPLrux0
import Derived.Test.YtiimflniadggaaaPLrux8
import Derived.Test.YtiimflniadggaaaPLrux9
import Derived.Test.YtiimflniadggaaaPLrux10
namespace Go.Proofs.Ytiimflniadggaaa.PLru
open Go.RowKit Go.Proofs.YtiimflniadggaaaW.PrintWords Go.Proofs.YtiimflniadggaaaW.PrintLast Go.Proofs.YtiimflniadggaaaW.PrintMore
attribute [local go_sem] max2_int min2_int max_two min_two max_three min_three max_four min_four   -- for this text's walks alone
set_option linter.unusedVariables false
set_option linter.unusedSimpArgs false

/-! ### lru_Remove: function 14 -/
def lru_Remove.f (k : Nat) (l0_0 : List Int) (l0_1 : List Int) (a0_2 : Int) (a0_3 : Int) (a1 : Int) : Option (List Int × List Int × Int × Int × Int) := (lru_check.f k l0_0 l0_1 a0_2 a0_3 a1).bind fun t286 => (if t286 = 0 then ((lru_in.f l0_0 l0_1 a0_2 a0_3 a1).bind fun t287 => (if t287 = true then ((lru_twin.f l0_0 l0_1 a0_2 a0_3).bind fun bt288 => (if 0 ≤ a1 then (if a1 < (bt288.1.length : Int) then (if a1 < (bt288.2.1.length : Int) then (if (rd bt288.1 a1) = (-1) then (if (rd bt288.2.1 a1) = (-1) then (some ((bt288.1.set (a1 : Int).toNat (-1)), (bt288.2.1.set (a1 : Int).toNat (-1)), rd bt288.2.1 a1, rd bt288.1 a1, 0)) else (if 0 ≤ (rd bt288.2.1 a1) then (if (rd bt288.2.1 a1) < (bt288.1.length : Int) then (some (((bt288.1.set ((rd bt288.2.1 a1) : Int).toNat (rd bt288.1 a1)).set (a1 : Int).toNat (-1)), (bt288.2.1.set (a1 : Int).toNat (-1)), rd bt288.2.1 a1, bt288.2.2.2, 0)) else (none)) else (none))) else (if 0 ≤ (rd bt288.1 a1) then (if (rd bt288.1 a1) < (bt288.2.1.length : Int) then ((some (bt288.2.1.set ((rd bt288.1 a1) : Int).toNat (rd bt288.2.1 a1) : List Int)).bind fun y304 => (if (rd bt288.2.1 a1) = (-1) then (some ((bt288.1.set (a1 : Int).toNat (-1)), (y304.set (a1 : Int).toNat (-1)), bt288.2.2.1, rd bt288.1 a1, 0)) else (if 0 ≤ (rd bt288.2.1 a1) then (if (rd bt288.2.1 a1) < (bt288.1.length : Int) then (some (((bt288.1.set ((rd bt288.2.1 a1) : Int).toNat (rd bt288.1 a1)).set (a1 : Int).toNat (-1)), (y304.set (a1 : Int).toNat (-1)), bt288.2.2.1, bt288.2.2.2, 0)) else (none)) else (none)))) else (none)) else (none))) else (none)) else (none)) else (none))) else (some (([] : List Int), ([] : List Int), 0, 0, 6)))) else (some (([] : List Int), ([] : List Int), 0, 0, t286)))
theorem lru_Remove.mono : ∀ a0 a1 a2 a3 a4 k, LeO (lru_Remove.f k a0 a1 a2 a3 a4) (lru_Remove.f (k + 1) a0 a1 a2 a3 a4) := by
  intro a0 a1 a2 a3 a4 k
  unfold lru_Remove.f
  repeat' first
      | (with_reducible exact lru_check.mono _ _ _ _ _ _)
      | (with_reducible exact LeO.refl _)
      | (with_reducible exact LeO.none _)
      | (with_reducible refine LeO.ite ?_ ?_)
      | (with_reducible refine LeO.bind ?_ (fun _ => ?_))
      | exact lru_check.mono _ _ _ _ _ _
      | exact LeO.none _
      | refine LeO.ite ?_ ?_
      | refine LeO.bind ?_ (fun _ => ?_)
def lru_Remove.T34000 : Bool × List (List Nat × List Nat) := (true, [([], []), ([0], [0]), ([1], [1]), ([2], [2]), ([], []), ([3, 4], [3, 4]), ([5], [5]), ([], []), ([7], [7]), ([8], [8]), ([9], [9]), ([], []), ([10, 11], [10, 11]), ([12], [12]), ([6, 0, 1, 2, 3, 4, 5, 6], [6]), ([13, 14, 0, 1, 2, 3, 4, 5, 6, 7, 8, 9, 10, 11, 12, 13, 14], [13])])
def lru_Remove.B34000 : List Nat := [0, 1, 3, 7, 0, 31, 63, 0, 128, 384, 896, 0, 3968, 8064, 127, 32767]
theorem lru_Remove.tab34000 : rtab .any (opsOf Try.f34 0) = lru_Remove.T34000 := by kernel_rfl
theorem lru_Remove.bits34000 : waitsOk lru_Remove.T34000.2 lru_Remove.B34000 = true := by kernel_rfl
def lru_Remove.T34007 : Bool × List (List Nat × List Nat) := (true, [([], []), ([0], [0]), ([1], [1]), ([2], [2]), ([], []), ([], []), ([5], [5]), ([6], [6]), ([7], [7]), ([], []), ([3, 4, 0, 1, 2, 3, 4, 8], [3, 4]), ([10, 0, 1, 2, 3, 4, 8], [10]), ([8, 9, 0, 1, 2, 3, 4, 5, 6, 7, 8, 9, 10, 11], [8, 9]), ([12, 11, 0, 1, 2, 3, 4, 5, 6, 7, 8, 9, 10, 11], [12])])
def lru_Remove.B34007 : List Nat := [0, 1, 3, 7, 0, 0, 32, 96, 224, 0, 511, 1535, 4095, 8191]
theorem lru_Remove.tab34007 : rtab .any (opsOf Try.f34 7) = lru_Remove.T34007 := by kernel_rfl
theorem lru_Remove.bits34007 : waitsOk lru_Remove.T34007.2 lru_Remove.B34007 = true := by kernel_rfl
set_option maxHeartbeats 8000000 in
set_option maxRecDepth 100000 in
theorem lru_Remove.calls (k : Nat) (A0_0 : Option Addr) (c0_0 : Nat) (l0_0 : List Int) (A0_1 : Option Addr) (c0_1 : Nat) (l0_1 : List Int) (a0_2 : Int) (a0_3 : Int) (a1 : Int) (r1 : List Int) (r2 : List Int) (r3 : Int) (r4 : Int) (r5 : Int) (w : World) (hr0_0 : Kd.C (Kd.int .i64) w A0_0 l0_0.length l0_0) (hc0_0 : l0_0.length ≤ c0_0) (hr0_1 : Kd.C (Kd.int .i64) w A0_1 l0_1.length l0_1) (hc0_1 : l0_1.length ≤ c0_1) (h : lru_Remove.f k l0_0 l0_1 a0_2 a0_3 a1 = some (r1, r2, r3, r4, r5)) :
    Calls Try.prog 14 #[.agg #[.slice A0_0 l0_0.length c0_0, .slice A0_1 l0_1.length c0_1, .int .i64 a0_2, .int .i64 a0_3], .int .i64 a1] w fun e w' => ∃ v0_ v1_ : Value, e = .returned (.tuple #[.agg #[v0_, v1_, .int .i64 r3, .int .i64 r4], .int .i64 r5]) ∧ Kd.R (Kd.int .i64) 3 w' w.heap.size (fun k_ => some k_ ≠ (v1_ : Value).ownBlock) v0_ r1 ∧ Kd.R (Kd.int .i64) 3 w' w.heap.size (fun k_ => some k_ ≠ (v0_ : Value).ownBlock) v1_ r2 ∧ Below w.heap.size w w' := by
  have hu24 := Try.underlying24
  have HR0_0 := Aside0.mk hr0_0
  have HC0_0 := Aside0.mk hc0_0
  clear hr0_0 hc0_0
  have HR0_1 := Aside0.mk hr0_1
  have HC0_1 := Aside0.mk hc0_1
  clear hr0_1 hc0_1
  have HB := Aside0.mk (Below.refl w.heap.size w)
  have H : ((lru_check.f k l0_0 l0_1 a0_2 a0_3 a1).bind fun t286 => (if t286 = 0 then ((lru_in.f l0_0 l0_1 a0_2 a0_3 a1).bind fun t287 => (if t287 = true then ((lru_twin.f l0_0 l0_1 a0_2 a0_3).bind fun bt288 => (if 0 ≤ a1 then (if a1 < (bt288.1.length : Int) then (if a1 < (bt288.2.1.length : Int) then (if (rd bt288.1 a1) = (-1) then (if (rd bt288.2.1 a1) = (-1) then (some ((bt288.1.set (a1 : Int).toNat (-1)), (bt288.2.1.set (a1 : Int).toNat (-1)), rd bt288.2.1 a1, rd bt288.1 a1, 0)) else (if 0 ≤ (rd bt288.2.1 a1) then (if (rd bt288.2.1 a1) < (bt288.1.length : Int) then (some (((bt288.1.set ((rd bt288.2.1 a1) : Int).toNat (rd bt288.1 a1)).set (a1 : Int).toNat (-1)), (bt288.2.1.set (a1 : Int).toNat (-1)), rd bt288.2.1 a1, bt288.2.2.2, 0)) else (none)) else (none))) else (if 0 ≤ (rd bt288.1 a1) then (if (rd bt288.1 a1) < (bt288.2.1.length : Int) then ((some (bt288.2.1.set ((rd bt288.1 a1) : Int).toNat (rd bt288.2.1 a1) : List Int)).bind fun y304 => (if (rd bt288.2.1 a1) = (-1) then (some ((bt288.1.set (a1 : Int).toNat (-1)), (y304.set (a1 : Int).toNat (-1)), bt288.2.2.1, rd bt288.1 a1, 0)) else (if 0 ≤ (rd bt288.2.1 a1) then (if (rd bt288.2.1 a1) < (bt288.1.length : Int) then (some (((bt288.1.set ((rd bt288.2.1 a1) : Int).toNat (rd bt288.1 a1)).set (a1 : Int).toNat (-1)), (y304.set (a1 : Int).toNat (-1)), bt288.2.2.1, bt288.2.2.2, 0)) else (none)) else (none)))) else (none)) else (none))) else (none)) else (none)) else (none))) else (some (([] : List Int), ([] : List Int), 0, 0, 6)))) else (some (([] : List Int), ([] : List Int), 0, 0, t286)))) = some (r1, r2, r3, r4, r5) := h
  clear h
  replace H := Option.bind_eq_some_iff.mp H
  obtain ⟨t286, A30, H⟩ := H
  replace H : (if t286 = 0 then ((lru_in.f l0_0 l0_1 a0_2 a0_3 a1).bind fun t287 => (if t287 = true then ((lru_twin.f l0_0 l0_1 a0_2 a0_3).bind fun bt288 => (if 0 ≤ a1 then (if a1 < (bt288.1.length : Int) then (if a1 < (bt288.2.1.length : Int) then (if (rd bt288.1 a1) = (-1) then (if (rd bt288.2.1 a1) = (-1) then (some ((bt288.1.set (a1 : Int).toNat (-1)), (bt288.2.1.set (a1 : Int).toNat (-1)), rd bt288.2.1 a1, rd bt288.1 a1, 0)) else (if 0 ≤ (rd bt288.2.1 a1) then (if (rd bt288.2.1 a1) < (bt288.1.length : Int) then (some (((bt288.1.set ((rd bt288.2.1 a1) : Int).toNat (rd bt288.1 a1)).set (a1 : Int).toNat (-1)), (bt288.2.1.set (a1 : Int).toNat (-1)), rd bt288.2.1 a1, bt288.2.2.2, 0)) else (none)) else (none))) else (if 0 ≤ (rd bt288.1 a1) then (if (rd bt288.1 a1) < (bt288.2.1.length : Int) then ((some (bt288.2.1.set ((rd bt288.1 a1) : Int).toNat (rd bt288.2.1 a1) : List Int)).bind fun y304 => (if (rd bt288.2.1 a1) = (-1) then (some ((bt288.1.set (a1 : Int).toNat (-1)), (y304.set (a1 : Int).toNat (-1)), bt288.2.2.1, rd bt288.1 a1, 0)) else (if 0 ≤ (rd bt288.2.1 a1) then (if (rd bt288.2.1 a1) < (bt288.1.length : Int) then (some (((bt288.1.set ((rd bt288.2.1 a1) : Int).toNat (rd bt288.1 a1)).set (a1 : Int).toNat (-1)), (y304.set (a1 : Int).toNat (-1)), bt288.2.2.1, bt288.2.2.2, 0)) else (none)) else (none)))) else (none)) else (none))) else (none)) else (none)) else (none))) else (some (([] : List Int), ([] : List Int), 0, 0, 6)))) else (some (([] : List Int), ([] : List Int), 0, 0, t286))) = some (r1, r2, r3, r4, r5) := H
  have A3 := Aside0.mk A30
  (try clear A30)
  by_cases c4 : t286 = 0
  · rw [if_pos c4] at H
    have c4b0 : (t286 == 0) = true := beq_iff_eq.mpr c4
    have c4b1 : (t286 != 0) = false := bne_eq_false_iff_eq.mpr c4
    clear c4
    replace H := Option.bind_eq_some_iff.mp H
    obtain ⟨t287, A50, H⟩ := H
    replace H : (if t287 = true then ((lru_twin.f l0_0 l0_1 a0_2 a0_3).bind fun bt288 => (if 0 ≤ a1 then (if a1 < (bt288.1.length : Int) then (if a1 < (bt288.2.1.length : Int) then (if (rd bt288.1 a1) = (-1) then (if (rd bt288.2.1 a1) = (-1) then (some ((bt288.1.set (a1 : Int).toNat (-1)), (bt288.2.1.set (a1 : Int).toNat (-1)), rd bt288.2.1 a1, rd bt288.1 a1, 0)) else (if 0 ≤ (rd bt288.2.1 a1) then (if (rd bt288.2.1 a1) < (bt288.1.length : Int) then (some (((bt288.1.set ((rd bt288.2.1 a1) : Int).toNat (rd bt288.1 a1)).set (a1 : Int).toNat (-1)), (bt288.2.1.set (a1 : Int).toNat (-1)), rd bt288.2.1 a1, bt288.2.2.2, 0)) else (none)) else (none))) else (if 0 ≤ (rd bt288.1 a1) then (if (rd bt288.1 a1) < (bt288.2.1.length : Int) then ((some (bt288.2.1.set ((rd bt288.1 a1) : Int).toNat (rd bt288.2.1 a1) : List Int)).bind fun y304 => (if (rd bt288.2.1 a1) = (-1) then (some ((bt288.1.set (a1 : Int).toNat (-1)), (y304.set (a1 : Int).toNat (-1)), bt288.2.2.1, rd bt288.1 a1, 0)) else (if 0 ≤ (rd bt288.2.1 a1) then (if (rd bt288.2.1 a1) < (bt288.1.length : Int) then (some (((bt288.1.set ((rd bt288.2.1 a1) : Int).toNat (rd bt288.1 a1)).set (a1 : Int).toNat (-1)), (y304.set (a1 : Int).toNat (-1)), bt288.2.2.1, bt288.2.2.2, 0)) else (none)) else (none)))) else (none)) else (none))) else (none)) else (none)) else (none))) else (some (([] : List Int), ([] : List Int), 0, 0, 6))) = some (r1, r2, r3, r4, r5) := H
    have A5 := Aside0.mk A50
    (try clear A50)
    by_cases c6 : t287 = true
    · subst c6
      have H1 : ((lru_twin.f l0_0 l0_1 a0_2 a0_3).bind fun bt288 => (if 0 ≤ a1 then (if a1 < (bt288.1.length : Int) then (if a1 < (bt288.2.1.length : Int) then (if (rd bt288.1 a1) = (-1) then (if (rd bt288.2.1 a1) = (-1) then (some ((bt288.1.set (a1 : Int).toNat (-1)), (bt288.2.1.set (a1 : Int).toNat (-1)), rd bt288.2.1 a1, rd bt288.1 a1, 0)) else (if 0 ≤ (rd bt288.2.1 a1) then (if (rd bt288.2.1 a1) < (bt288.1.length : Int) then (some (((bt288.1.set ((rd bt288.2.1 a1) : Int).toNat (rd bt288.1 a1)).set (a1 : Int).toNat (-1)), (bt288.2.1.set (a1 : Int).toNat (-1)), rd bt288.2.1 a1, bt288.2.2.2, 0)) else (none)) else (none))) else (if 0 ≤ (rd bt288.1 a1) then (if (rd bt288.1 a1) < (bt288.2.1.length : Int) then ((some (bt288.2.1.set ((rd bt288.1 a1) : Int).toNat (rd bt288.2.1 a1) : List Int)).bind fun y304 => (if (rd bt288.2.1 a1) = (-1) then (some ((bt288.1.set (a1 : Int).toNat (-1)), (y304.set (a1 : Int).toNat (-1)), bt288.2.2.1, rd bt288.1 a1, 0)) else (if 0 ≤ (rd bt288.2.1 a1) then (if (rd bt288.2.1 a1) < (bt288.1.length : Int) then (some (((bt288.1.set ((rd bt288.2.1 a1) : Int).toNat (rd bt288.1 a1)).set (a1 : Int).toNat (-1)), (y304.set (a1 : Int).toNat (-1)), bt288.2.2.1, bt288.2.2.2, 0)) else (none)) else (none)))) else (none)) else (none))) else (none)) else (none)) else (none))) = some (r1, r2, r3, r4, r5) := by rw [if_pos rfl] at H; exact H
      clear H
      have H := H1
      clear H1
      replace H := Option.bind_eq_some_iff.mp H
      obtain ⟨⟨t288, t291, t294, t295⟩, A70, H⟩ := H
      replace H : (if 0 ≤ a1 then (if a1 < (t288.length : Int) then (if a1 < (t291.length : Int) then (if (rd t288 a1) = (-1) then (if (rd t291 a1) = (-1) then (some ((t288.set (a1 : Int).toNat (-1)), (t291.set (a1 : Int).toNat (-1)), rd t291 a1, rd t288 a1, 0)) else (if 0 ≤ (rd t291 a1) then (if (rd t291 a1) < (t288.length : Int) then (some (((t288.set ((rd t291 a1) : Int).toNat (rd t288 a1)).set (a1 : Int).toNat (-1)), (t291.set (a1 : Int).toNat (-1)), rd t291 a1, t295, 0)) else (none)) else (none))) else (if 0 ≤ (rd t288 a1) then (if (rd t288 a1) < (t291.length : Int) then ((some (t291.set ((rd t288 a1) : Int).toNat (rd t291 a1) : List Int)).bind fun y304 => (if (rd t291 a1) = (-1) then (some ((t288.set (a1 : Int).toNat (-1)), (y304.set (a1 : Int).toNat (-1)), t294, rd t288 a1, 0)) else (if 0 ≤ (rd t291 a1) then (if (rd t291 a1) < (t288.length : Int) then (some (((t288.set ((rd t291 a1) : Int).toNat (rd t288 a1)).set (a1 : Int).toNat (-1)), (y304.set (a1 : Int).toNat (-1)), t294, t295, 0)) else (none)) else (none)))) else (none)) else (none))) else (none)) else (none)) else (none)) = some (r1, r2, r3, r4, r5) := H
      have A7 := Aside0.mk A70
      (try clear A70)
      by_cases c8 : 0 ≤ a1
      · rw [if_pos c8] at H
        have c8b0 : decide (0 ≤ a1) = true := decide_eq_true c8
        clear c8
        by_cases c9 : a1 < (t288.length : Int)
        · rw [if_pos c9] at H
          have c9b0 : decide (a1 < (t288.length : Int)) = true := decide_eq_true c9
          clear c9
          by_cases c10 : a1 < (t291.length : Int)
          · rw [if_pos c10] at H
            have c10b0 : decide (a1 < (t291.length : Int)) = true := decide_eq_true c10
            clear c10
            by_cases c11 : (rd t288 a1) = (-1)
            · rw [if_pos c11] at H
              have c11b0 : ((rd t288 a1) == (-1)) = true := beq_iff_eq.mpr c11
              have c11b1 : ((rd t288 a1) != (-1)) = false := bne_eq_false_iff_eq.mpr c11
              clear c11
              by_cases c12 : (rd t291 a1) = (-1)
              · rw [if_pos c12] at H
                have c12b0 : ((rd t291 a1) == (-1)) = true := beq_iff_eq.mpr c12
                have c12b1 : ((rd t291 a1) != (-1)) = false := bne_eq_false_iff_eq.mpr c12
                clear c12
                obtain ⟨y299, hy299⟩ : ∃ y_ : List Int, y_ = (t288.set (a1 : Int).toNat (-1)) := ⟨_, rfl⟩
                replace H : (some (y299, (t291.set (a1 : Int).toNat (-1)), rd t291 a1, rd t288 a1, 0)) = some (r1, r2, r3, r4, r5) := by first | (rw [hy299]; with_reducible exact H) | (have H2_ := (Option.bind_some _ _).symm.trans H; rw [hy299]; with_reducible exact H2_) | (have H2_ := (Option.bind_some _ _).symm.trans H; with_reducible exact H2_) | with_reducible exact H | (rw [hy299]; exact H) | exact H
                have Ny299 := Aside0.mk hy299
                (try clear hy299)
                obtain ⟨y300, hy300⟩ : ∃ y_ : List Int, y_ = (t291.set (a1 : Int).toNat (-1)) := ⟨_, rfl⟩
                replace H : (some (y299, y300, rd t291 a1, rd t288 a1, 0)) = some (r1, r2, r3, r4, r5) := by first | (rw [hy300]; with_reducible exact H) | (have H2_ := (Option.bind_some _ _).symm.trans H; rw [hy300]; with_reducible exact H2_) | (have H2_ := (Option.bind_some _ _).symm.trans H; with_reducible exact H2_) | with_reducible exact H | (rw [hy300]; exact H) | exact H
                have Ny300 := Aside0.mk hy300
                (try clear hy300)
                simp only [Option.some.injEq, Prod.mk.injEq] at H
                obtain ⟨rfl, rfl, rfl, rfl, rfl⟩ := H
                go_enter Try.func14, Try.ntmps14
                try go_wp2_with (first | ((with_reducible refine gate_dst (N := 2) rfl ?_); refine boxE (N := 2) (cs := #[.slice A0_0 l0_0.length c0_0, .slice A0_1 l0_1.length c0_1, .int .i64 a0_2, .int .i64 a0_3]) (t := 24) ?_; intro gb284 hg w15 hbox hb; have n0_ := Aside0.mk (below_step (pB HB.out) hb); have n1_ := Aside0.mk (hbox); have n3_ := Aside0.mk (pL HB.out hg); clear HB; have HB := n0_; have BK284 := n1_; have GE284 := n3_; clear n0_ n1_ n3_; clear hb hbox hg) | ((with_reducible refine gate_dst (N := 4) rfl ?_); refine boxE (N := 4) (cs := #[.slice none 0 0, .slice none 0 0, .int .i64 0, .int .i64 0]) (t := 24) ?_; intro gb285 hg w16 hbox hb; have n0_ := Aside0.mk (blk_below (pK BK284.out) hb); have n1_ := Aside0.mk (below_step (pB HB.out) hb); have n2_ := Aside0.mk (hbox); have n4_ := Aside0.mk (pL HB.out hg); have n5_ := Aside0.mk (pNl BK284.out hg); have n6_ := Aside0.mk (pNg BK284.out hg); clear BK284; clear HB; have BK284 := n0_; have HB := n1_; have BK285 := n2_; have GE285 := n4_; have NB284_285 := n5_; have NB285_284 := n6_; clear n0_ n1_ n2_ n4_ n5_ n6_; clear hb hbox hg; have hnb17 := NB284_285.out; have hnc17 := NB285_284.out; obtain ⟨hcz18_0, hcz18_1, hcz18_2, hcz18_3, hfz18_0, hfz18_1, hfz18_2, hfz18_3⟩ := bk4 BK284.out) | ((with_reducible refine gate_callee (f := 31) rfl ?_); refine goesE (some 10) rfl rfl Try.func31 (by kernel_rfl) rfl #[.agg #[.slice A0_0 l0_0.length c0_0, .slice A0_1 l0_1.length c0_1, .int .i64 a0_2, .int .i64 a0_3], .int .i64 a1] rfl ?_; (with_reducible refine (lru_check.calls k _ _ l0_0 _ _ l0_1 a0_2 a0_3 a1 t286 _ ?side1 ?side2 ?side3 ?side4 A3.out).mono ?_); (case side1 => exact Kd.pC ((Kd.C_below HR0_0.out HB.out))); (case side2 => exact HC0_0.out); (case side3 => exact Kd.pC ((Kd.C_below HR0_1.out HB.out))); (case side4 => exact HC0_1.out); rintro e w19 ⟨rfl, hb⟩; refine ⟨_, rfl, ?_⟩; have n0_ := Aside0.mk (blk_below (pK BK284.out) hb); have n1_ := Aside0.mk (blk_below (pK BK285.out) hb); have n2_ := Aside0.mk (below_step (pB HB.out) hb); clear BK284; clear BK285; clear HB; have BK284 := n0_; have BK285 := n1_; have HB := n2_; clear n0_ n1_ n2_; (try clear hb); (try clear hb2); (try clear hk); (try clear hi); obtain ⟨hcz20_0, hcz20_1, hcz20_2, hcz20_3, hfz20_0, hfz20_1, hfz20_2, hfz20_3⟩ := bk4 BK284.out) | ((with_reducible refine gate_callee (f := 33) rfl ?_); refine goesE (some 17) rfl rfl Try.func33 (by kernel_rfl) rfl #[.agg #[.slice A0_0 l0_0.length c0_0, .slice A0_1 l0_1.length c0_1, .int .i64 a0_2, .int .i64 a0_3], .int .i64 a1] rfl ?_; (with_reducible refine (lru_in.calls _ _ l0_0 _ _ l0_1 a0_2 a0_3 a1 true _ ?side1 ?side2 ?side3 ?side4 A5.out).mono ?_); (case side1 => exact Kd.pC ((Kd.C_below HR0_0.out HB.out))); (case side2 => exact HC0_0.out); (case side3 => exact Kd.pC ((Kd.C_below HR0_1.out HB.out))); (case side4 => exact HC0_1.out); rintro e w21 ⟨rfl, hb⟩; refine ⟨_, rfl, ?_⟩; have n0_ := Aside0.mk (blk_below (pK BK284.out) hb); have n1_ := Aside0.mk (blk_below (pK BK285.out) hb); have n2_ := Aside0.mk (below_step (pB HB.out) hb); clear BK284; clear BK285; clear HB; have BK284 := n0_; have BK285 := n1_; have HB := n2_; clear n0_ n1_ n2_; (try clear hb); (try clear hb2); (try clear hk); (try clear hi); obtain ⟨hcz22_0, hcz22_1, hcz22_2, hcz22_3, hfz22_0, hfz22_1, hfz22_2, hfz22_3⟩ := bk4 BK284.out) | ((with_reducible refine gate_callee (f := 32) rfl ?_); refine goesE (some 21) rfl rfl Try.func32 (by kernel_rfl) rfl #[.agg #[.slice A0_0 l0_0.length c0_0, .slice A0_1 l0_1.length c0_1, .int .i64 a0_2, .int .i64 a0_3]] rfl ?_; (with_reducible refine (lru_twin.calls _ _ l0_0 _ _ l0_1 a0_2 a0_3 t288 t291 t294 t295 _ ?side1 ?side2 ?side3 ?side4 A7.out).mono ?_); (case side1 => exact Kd.pC ((Kd.C_below HR0_0.out HB.out))); (case side2 => exact HC0_0.out); (case side3 => exact Kd.pC ((Kd.C_below HR0_1.out HB.out))); (case side4 => exact HC0_1.out); rintro e w23 ⟨v289, v292, rfl, ho0, ho1, hb⟩; refine ⟨_, rfl, ?_⟩; have n0_ := Aside0.mk (Kd.R_lower ho0 (below_size (pB HB.out))); have n1_ := Aside0.mk (Kd.R_lower ho1 (below_size (pB HB.out))); have n2_ := Aside0.mk (blk_below (pK BK284.out) hb); have n3_ := Aside0.mk (blk_below (pK BK285.out) hb); have n4_ := Aside0.mk (below_step (pB HB.out) hb); clear BK284; clear BK285; clear HB; have HO290 := n0_; have HO293 := n1_; have BK284 := n2_; have BK285 := n3_; have HB := n4_; clear n0_ n1_ n2_ n3_ n4_; (try clear hb); (try clear hb2); (try clear hk); (try clear hi); (try clear ho0); (try clear ho1)) | ((with_reducible refine gate_dst (N := 7) rfl ?_); refine boxE (N := 7) (cs := #[.slice none 0 0, .slice none 0 0, .int .i64 0, .int .i64 0]) (t := 24) ?_; intro gb296 hg w24 hbox hb; have n0_ := Aside0.mk (Kd.R_below (Kd.pR HO290.out) hb); have n1_ := Aside0.mk (Kd.R_below (Kd.pR HO293.out) hb); have n2_ := Aside0.mk (blk_below (pK BK284.out) hb); have n3_ := Aside0.mk (blk_below (pK BK285.out) hb); have n4_ := Aside0.mk (below_step (pB HB.out) hb); have n5_ := Aside0.mk (hbox); have n7_ := Aside0.mk (pL HB.out hg); have n8_ := Aside0.mk (pNl BK284.out hg); have n9_ := Aside0.mk (pNg BK284.out hg); have n10_ := Aside0.mk (pNl BK285.out hg); have n11_ := Aside0.mk (pNg BK285.out hg); clear HO290; clear HO293; clear BK284; clear BK285; clear HB; have HO290 := n0_; have HO293 := n1_; have BK284 := n2_; have BK285 := n3_; have HB := n4_; have BK296 := n5_; have GE296 := n7_; have NB284_296 := n8_; have NB296_284 := n9_; have NB285_296 := n10_; have NB296_285 := n11_; clear n0_ n1_ n2_ n3_ n4_ n5_ n7_ n8_ n9_ n10_ n11_; clear hb hbox hg; obtain ⟨Ao25, co25, eo25⟩ := Kd.R_slice HO290.out; subst eo25; have hnb26 := NB296_284.out; have hnc26 := NB284_296.out; have hnb27 := NB296_285.out; have hnc27 := NB285_296.out; obtain ⟨hcz28_0, hcz28_1, hcz28_2, hcz28_3, hfz28_0, hfz28_1, hfz28_2, hfz28_3⟩ := bk4 BK296.out; obtain ⟨Ao29, co29, eo29⟩ := Kd.R_slice HO293.out; subst eo29) | ((with_reducible refine gate_callee (f := 34) rfl ?_); refine goesL_ (some 23) rfl rfl Try.func34 (by kernel_rfl) rfl #[.pointer (some ⟨gb296, 0, none⟩), .int .i64 a1] rfl (by (try simp only [List.map_toArray, List.map_cons, List.map_nil]); first | done | rfl) ?_; go_enter Try.func34, Try.ntmps34))
                have n0_ : Aside0 (Kd.R (Kd.int .i64) 3 ((((w24.setCell ⟨gb296, 0, none⟩ (.slice Ao25 t288.length co25)).setCell ⟨gb296, 1, none⟩ (.slice Ao29 t291.length co29)).setCell ⟨gb296, 2, none⟩ (.int .i64 t294)).setCell ⟨gb296, 3, none⟩ (.int .i64 t295)) w.heap.size (fun k_ => some k_ ≠ (.slice Ao29 t291.length co29 : Value).ownBlock) (.slice Ao25 t288.length co25) t288) := ⟨Kd.pR (Kd.R_mono (Kd.R_far (p := ⟨gb296, 3, none⟩) (Kd.R_far (p := ⟨gb296, 2, none⟩) (Kd.R_far (p := ⟨gb296, 1, none⟩) (Kd.R_far (p := ⟨gb296, 0, none⟩) (Kd.R_types HO290.out BK296.out (by decide)) (fun _ hk => hk.2) (.slice Ao25 t288.length co25)) (fun _ hk => hk.2) (.slice Ao29 t291.length co29)) (fun _ hk => hk.2) (.int .i64 t294)) (fun _ hk => hk.2) (.int .i64 t295)) (fun _ hk => hk.1))⟩
                have n1_ : Aside0 (Kd.R (Kd.int .i64) 3 ((((w24.setCell ⟨gb296, 0, none⟩ (.slice Ao25 t288.length co25)).setCell ⟨gb296, 1, none⟩ (.slice Ao29 t291.length co29)).setCell ⟨gb296, 2, none⟩ (.int .i64 t294)).setCell ⟨gb296, 3, none⟩ (.int .i64 t295)) w.heap.size (fun k_ => some k_ ≠ (.slice Ao25 t288.length co25 : Value).ownBlock) (.slice Ao29 t291.length co29) t291) := ⟨Kd.pR (Kd.R_mono (Kd.R_far (p := ⟨gb296, 3, none⟩) (Kd.R_far (p := ⟨gb296, 2, none⟩) (Kd.R_far (p := ⟨gb296, 1, none⟩) (Kd.R_far (p := ⟨gb296, 0, none⟩) (Kd.R_types HO293.out BK296.out (by decide)) (fun _ hk => hk.2) (.slice Ao25 t288.length co25)) (fun _ hk => hk.2) (.slice Ao29 t291.length co29)) (fun _ hk => hk.2) (.int .i64 t294)) (fun _ hk => hk.2) (.int .i64 t295)) (fun _ hk => hk.1))⟩
                have n2_ : Aside0 (((((w24.setCell ⟨gb296, 0, none⟩ (.slice Ao25 t288.length co25)).setCell ⟨gb296, 1, none⟩ (.slice Ao29 t291.length co29)).setCell ⟨gb296, 2, none⟩ (.int .i64 t294)).setCell ⟨gb296, 3, none⟩ (.int .i64 t295)).heap[gb284]? = some (.cells #[.slice A0_0 l0_0.length c0_0, .slice A0_1 l0_1.length c0_1, .int .i64 a0_2, .int .i64 a0_3] 24 (0, 0))) := ⟨by (with_reducible repeat (first | refine blk_drewN ?_ _ | refine blk_drew ?_ | refine blk_alloc ?_ _)); refine blk_far ?_ NB284_296.out _; (with_reducible repeat (first | refine blk_drewN ?_ _ | refine blk_drew ?_ | refine blk_alloc ?_ _)); refine blk_far ?_ NB284_296.out _; (with_reducible repeat (first | refine blk_drewN ?_ _ | refine blk_drew ?_ | refine blk_alloc ?_ _)); refine blk_far ?_ NB284_296.out _; (with_reducible repeat (first | refine blk_drewN ?_ _ | refine blk_drew ?_ | refine blk_alloc ?_ _)); refine blk_far ?_ NB284_296.out _; (with_reducible repeat (first | refine blk_drewN ?_ _ | refine blk_drew ?_ | refine blk_alloc ?_ _)); exact BK284.out⟩
                have n3_ : Aside0 (((((w24.setCell ⟨gb296, 0, none⟩ (.slice Ao25 t288.length co25)).setCell ⟨gb296, 1, none⟩ (.slice Ao29 t291.length co29)).setCell ⟨gb296, 2, none⟩ (.int .i64 t294)).setCell ⟨gb296, 3, none⟩ (.int .i64 t295)).heap[gb285]? = some (.cells #[.slice none 0 0, .slice none 0 0, .int .i64 0, .int .i64 0] 24 (0, 0))) := ⟨by (with_reducible repeat (first | refine blk_drewN ?_ _ | refine blk_drew ?_ | refine blk_alloc ?_ _)); refine blk_far ?_ NB285_296.out _; (with_reducible repeat (first | refine blk_drewN ?_ _ | refine blk_drew ?_ | refine blk_alloc ?_ _)); refine blk_far ?_ NB285_296.out _; (with_reducible repeat (first | refine blk_drewN ?_ _ | refine blk_drew ?_ | refine blk_alloc ?_ _)); refine blk_far ?_ NB285_296.out _; (with_reducible repeat (first | refine blk_drewN ?_ _ | refine blk_drew ?_ | refine blk_alloc ?_ _)); refine blk_far ?_ NB285_296.out _; (with_reducible repeat (first | refine blk_drewN ?_ _ | refine blk_drew ?_ | refine blk_alloc ?_ _)); exact BK285.out⟩
                have n4_ : Aside0 (((((w24.setCell ⟨gb296, 0, none⟩ (.slice Ao25 t288.length co25)).setCell ⟨gb296, 1, none⟩ (.slice Ao29 t291.length co29)).setCell ⟨gb296, 2, none⟩ (.int .i64 t294)).setCell ⟨gb296, 3, none⟩ (.int .i64 t295)).heap[gb296]? = some (.cells #[.slice Ao25 t288.length co25, .slice Ao29 t291.length co29, .int .i64 t294, .int .i64 t295] 24 (0, 0))) := ⟨by (with_reducible repeat (first | refine blk_drewN ?_ _ | refine blk_drew ?_ | refine blk_alloc ?_ _)); refine blk_put (cs := #[.slice Ao25 t288.length co25, .slice Ao29 t291.length co29, .int .i64 t294, .int .i64 0]) ?_ 3 _ rfl; (with_reducible repeat (first | refine blk_drewN ?_ _ | refine blk_drew ?_ | refine blk_alloc ?_ _)); refine blk_put (cs := #[.slice Ao25 t288.length co25, .slice Ao29 t291.length co29, .int .i64 0, .int .i64 0]) ?_ 2 _ rfl; (with_reducible repeat (first | refine blk_drewN ?_ _ | refine blk_drew ?_ | refine blk_alloc ?_ _)); refine blk_put (cs := #[.slice Ao25 t288.length co25, .slice none 0 0, .int .i64 0, .int .i64 0]) ?_ 1 _ rfl; (with_reducible repeat (first | refine blk_drewN ?_ _ | refine blk_drew ?_ | refine blk_alloc ?_ _)); refine blk_put (cs := #[.slice none 0 0, .slice none 0 0, .int .i64 0, .int .i64 0]) ?_ 0 _ rfl; (with_reducible repeat (first | refine blk_drewN ?_ _ | refine blk_drew ?_ | refine blk_alloc ?_ _)); exact BK296.out⟩
                have n5_ : Aside0 (Below w.heap.size w ((((w24.setCell ⟨gb296, 0, none⟩ (.slice Ao25 t288.length co25)).setCell ⟨gb296, 1, none⟩ (.slice Ao29 t291.length co29)).setCell ⟨gb296, 2, none⟩ (.int .i64 t294)).setCell ⟨gb296, 3, none⟩ (.int .i64 t295))) := ⟨pB HB.out⟩
                (try clear HO290)
                (try clear HO293)
                (try clear BK284)
                (try clear BK285)
                (try clear BK296)
                (try clear HB)
                generalize ((((w24.setCell ⟨gb296, 0, none⟩ (.slice Ao25 t288.length co25)).setCell ⟨gb296, 1, none⟩ (.slice Ao29 t291.length co29)).setCell ⟨gb296, 2, none⟩ (.int .i64 t294)).setCell ⟨gb296, 3, none⟩ (.int .i64 t295)) = w30 at n0_ n1_ n2_ n3_ n4_ n5_ ⊢
                have HO290 := n0_
                have HO293 := n1_
                have BK284 := n2_
                have BK285 := n3_
                have BK296 := n4_
                have HB := n5_
                clear n0_ n1_ n2_ n3_ n4_ n5_
                have n0_ := Aside0.mk (Kd.R_drew HO290.out)
                have n1_ := Aside0.mk (Kd.R_drew HO293.out)
                have n2_ := Aside0.mk (blk_drew BK284.out)
                have n3_ := Aside0.mk (blk_drew BK285.out)
                have n4_ := Aside0.mk (blk_drew BK296.out)
                have n5_ := Aside0.mk (below_drew1 HB.out)
                clear HO290
                clear HO293
                clear BK284
                clear BK285
                clear BK296
                clear HB
                have HO290 := n0_
                have HO293 := n1_
                have BK284 := n2_
                have BK285 := n3_
                have BK296 := n4_
                have HB := n5_
                clear n0_ n1_ n2_ n3_ n4_ n5_
                have p297 : 0 ≤ (a1 : Int) := od
                have q297 : a1 < (t288.length : Int) := od
                obtain ⟨ad297, e297, hx297_0⟩ := Kd.at_int (Kd.R_reads' HO290.out).2.2 a1 p297 q297
                cases e297
                replace p297 := eq_true p297
                replace q297 := eq_true q297
                have p298 : 0 ≤ (a1 : Int) := od
                have q298 : a1 < (t291.length : Int) := od
                obtain ⟨ad298, e298, hx298_0⟩ := Kd.at_int (Kd.R_reads' HO293.out).2.2 a1 p298 q298
                cases e298
                replace p298 := eq_true p298
                replace q298 := eq_true q298
                refine start_ (n := 16) (S := fun w' => w'.cell? ⟨gb296, 0, none⟩ = some (.slice (some ad297) t288.length co25) ∧ w'.cell? ⟨gb296, 1, none⟩ = some (.slice (some ad298) t291.length co29) ∧ w'.cell? ⟨gb296, 2, none⟩ = some (.int .i64 t294) ∧ w'.cell? ⟨gb296, 3, none⟩ = some (.int .i64 t295) ∧ w'.cell? (ad297.add (a1).toNat) = some (.int .i64 (rd t288 a1)) ∧ w'.cell? (ad298.add (a1).toNat) = some (.int .i64 (rd t291 a1))) (ds := []) #[false, false, false, false, false, false, false, false, false, false, false, false, false, false, false, false] (by kernel_rfl) rfl rfl ⟨(blk_cell BK296.out 0).trans rfl, (blk_cell BK296.out 1).trans rfl, (blk_cell BK296.out 2).trans rfl, (blk_cell BK296.out 3).trans rfl, hx297_0, hx298_0⟩ (fun hHeld => ?_); refine with_tabW lru_Remove.tab34000 lru_Remove.bits34000 (fun HT_ HW_ => ?_)
                generalize w30.drew = w31 at HO290 HO293 BK284 BK285 BK296 HB hx297_0 hx298_0 hHeld ⊢
                refine pure_ (i := 0) (N := some 6) (v := ?_) (a' := ?_) #[true, false, false, false, false, false, false, false, false, false, false, false, false, false, false, false] rfl rfl (any_of HT_.out (by kernel_rfl)) (fun _ _ _ h => h) (Or.inl ⟨by rfl, ?_⟩) ?_ ?_
                rotate_left
                · intro w'
                  go_simp
                  with_reducible rfl
                rotate_left
                · simp only [Act.put, List.setIfInBounds_toArray, List.set_cons_zero, List.set_cons_succ, i64_w, i32_w]
                  rfl
                refine pure_ (i := 1) (N := some 7) (v := ?_) (a' := ?_) #[true, true, false, false, false, false, false, false, false, false, false, false, false, false, false, false] rfl rfl (any_of HT_.out (by kernel_rfl)) (fun _ _ _ h => h) (Or.inl ⟨by rfl, ?_⟩) ?_ ?_
                rotate_left
                · intro w'
                  go_simp
                  with_reducible rfl
                rotate_left
                · simp only [Act.put, List.setIfInBounds_toArray, List.set_cons_zero, List.set_cons_succ, i64_w, i32_w]
                  rfl
                refine pure_ (i := 2) (N := some 8) (v := ?_) (a' := ?_) #[true, true, true, false, false, false, false, false, false, false, false, false, false, false, false, false] rfl rfl (any_of HT_.out (by kernel_rfl)) (fun _ _ _ h => h) (Or.inl ⟨by rfl, ?_⟩) ?_ ?_
                rotate_left
                · intro w'
                  go_simp
                  with_reducible rfl
                rotate_left
                · simp only [Act.put, List.setIfInBounds_toArray, List.set_cons_zero, List.set_cons_succ, i64_w, i32_w]
                  rfl
                refine pure_ (i := 4) (N := some 10) (v := ?_) (a' := ?_) #[true, true, true, false, true, false, false, false, false, false, false, false, false, false, false, false] rfl rfl (any_of HT_.out (by kernel_rfl)) (fun _ _ _ h => h) (Or.inl ⟨by rfl, ?_⟩) ?_ ?_
                rotate_left
                · intro w'
                  go_simp
                  with_reducible rfl
                rotate_left
                · simp only [Act.put, List.setIfInBounds_toArray, List.set_cons_zero, List.set_cons_succ, i64_w, i32_w]
                  rfl
                refine pure_ (i := 7) (N := some 13) (v := ?_) (a' := ?_) #[true, true, true, false, true, false, false, true, false, false, false, false, false, false, false, false] rfl rfl (any_of HT_.out (by kernel_rfl)) (fun _ _ _ h => h) (Or.inl ⟨by rfl, ?_⟩) ?_ ?_
                rotate_left
                · intro w'
                  go_simp
                  with_reducible rfl
                rotate_left
                · simp only [Act.put, List.setIfInBounds_toArray, List.set_cons_zero, List.set_cons_succ, i64_w, i32_w]
                  rfl
                refine pure_ (i := 8) (N := some 14) (v := ?_) (a' := ?_) #[true, true, true, false, true, false, false, true, true, false, false, false, false, false, false, false] rfl rfl (any_of HT_.out (by kernel_rfl)) (fun _ _ _ h => h) (Or.inl ⟨by rfl, ?_⟩) ?_ ?_
                rotate_left
                · intro w'
                  go_simp
                  with_reducible rfl
                rotate_left
                · simp only [Act.put, List.setIfInBounds_toArray, List.set_cons_zero, List.set_cons_succ, i64_w, i32_w]
                  rfl
                refine pure_ (i := 9) (N := some 15) (v := ?_) (a' := ?_) #[true, true, true, false, true, false, false, true, true, true, false, false, false, false, false, false] rfl rfl (any_of HT_.out (by kernel_rfl)) (fun _ _ _ h => h) (Or.inl ⟨by rfl, ?_⟩) ?_ ?_
                rotate_left
                · intro w'
                  go_simp
                  with_reducible rfl
                rotate_left
                · simp only [Act.put, List.setIfInBounds_toArray, List.set_cons_zero, List.set_cons_succ, i64_w, i32_w]
                  rfl
                refine pure_ (i := 11) (N := some 17) (v := ?_) (a' := ?_) #[true, true, true, false, true, false, false, true, true, true, false, true, false, false, false, false] rfl rfl (any_of HT_.out (by kernel_rfl)) (fun _ _ _ h => h) (Or.inl ⟨by rfl, ?_⟩) ?_ ?_
                rotate_left
                · intro w'
                  go_simp
                  with_reducible rfl
                rotate_left
                · simp only [Act.put, List.setIfInBounds_toArray, List.set_cons_zero, List.set_cons_succ, i64_w, i32_w]
                  rfl
                refine take_ (i := 3) (N := some 9) (v := ?_) (a' := ?_) #[true, true, true, true, true, false, false, true, true, true, false, true, false, false, false, false] rfl rfl (take_ofW HT_.out HW_.out (by kernel_rfl)) (fun _ _ _ h => h) (Or.inl ⟨by rfl, ?_⟩) hHeld ?_ ?_
                rotate_left
                · rintro w' ⟨s0, s1, s2, s3, s4, s5⟩
                  go_simp
                  with_reducible rfl
                rotate_left
                · simp only [Act.put, List.setIfInBounds_toArray, List.set_cons_zero, List.set_cons_succ, i64_w, i32_w]
                  rfl
                refine pure_ (i := 5) (N := some 11) (v := ?_) (a' := ?_) #[true, true, true, true, true, true, false, true, true, true, false, true, false, false, false, false] rfl rfl (any_of HT_.out (by kernel_rfl)) (fun _ _ _ h => h) (Or.inl ⟨by rfl, ?_⟩) ?_ ?_
                rotate_left
                · intro w'
                  go_simp
                  with_reducible rfl
                rotate_left
                · simp only [Act.put, List.setIfInBounds_toArray, List.set_cons_zero, List.set_cons_succ, i64_w, i32_w]
                  rfl
                refine take_ (i := 6) (N := some 12) (v := ?_) (a' := ?_) #[true, true, true, true, true, true, true, true, true, true, false, true, false, false, false, false] rfl rfl (take_ofW HT_.out HW_.out (by kernel_rfl)) (fun _ _ _ h => h) (Or.inl ⟨by rfl, ?_⟩) hHeld ?_ ?_
                rotate_left
                · rintro w' ⟨s0, s1, s2, s3, s4, s5⟩
                  go_simp
                  with_reducible rfl
                rotate_left
                · simp only [Act.put, List.setIfInBounds_toArray, List.set_cons_zero, List.set_cons_succ, i64_w, i32_w]
                  rfl
                refine pure_ (i := 14) (N := some 4) (v := ?_) (a' := ?_) #[true, true, true, true, true, true, true, true, true, true, false, true, false, false, true, false] rfl rfl (any_of HT_.out (by kernel_rfl)) (fun _ _ _ h => h) (Or.inl ⟨by rfl, ?_⟩) ?_ ?_
                rotate_left
                · intro w'
                  go_simp
                  with_reducible rfl
                rotate_left
                · simp only [Act.put, List.setIfInBounds_toArray, List.set_cons_zero, List.set_cons_succ, i64_w, i32_w]
                  rfl
                refine take_ (i := 10) (N := some 16) (v := ?_) (a' := ?_) #[true, true, true, true, true, true, true, true, true, true, true, true, false, false, true, false] rfl rfl (take_ofW HT_.out HW_.out (by kernel_rfl)) (fun _ _ _ h => h) (Or.inl ⟨by rfl, ?_⟩) hHeld ?_ ?_
                rotate_left
                · rintro w' ⟨s0, s1, s2, s3, s4, s5⟩
                  go_simp
                  with_reducible rfl
                rotate_left
                · simp only [Act.put, List.setIfInBounds_toArray, List.set_cons_zero, List.set_cons_succ, i64_w, i32_w]
                  rfl
                refine pure_ (i := 12) (N := some 18) (v := ?_) (a' := ?_) #[true, true, true, true, true, true, true, true, true, true, true, true, true, false, true, false] rfl rfl (any_of HT_.out (by kernel_rfl)) (fun _ _ _ h => h) (Or.inl ⟨by rfl, ?_⟩) ?_ ?_
                rotate_left
                · intro w'
                  go_simp
                  with_reducible rfl
                rotate_left
                · simp only [Act.put, List.setIfInBounds_toArray, List.set_cons_zero, List.set_cons_succ, i64_w, i32_w]
                  rfl
                refine take_ (i := 13) (N := some 19) (v := ?_) (a' := ?_) #[true, true, true, true, true, true, true, true, true, true, true, true, true, true, true, false] rfl rfl (take_ofW HT_.out HW_.out (by kernel_rfl)) (fun _ _ _ h => h) (Or.inl ⟨by rfl, ?_⟩) hHeld ?_ ?_
                rotate_left
                · rintro w' ⟨s0, s1, s2, s3, s4, s5⟩
                  go_simp
                  with_reducible rfl
                rotate_left
                · simp only [Act.put, List.setIfInBounds_toArray, List.set_cons_zero, List.set_cons_succ, i64_w, i32_w]
                  rfl
                refine pure_ (i := 15) (N := some 5) (v := ?_) (a' := ?_) #[true, true, true, true, true, true, true, true, true, true, true, true, true, true, true, true] rfl rfl (any_of HT_.out (by kernel_rfl)) (fun _ _ _ h => h) (Or.inl ⟨by rfl, ?_⟩) ?_ ?_
                rotate_left
                · intro w'
                  go_simp
                  with_reducible rfl
                rotate_left
                · simp only [Act.put, List.setIfInBounds_toArray, List.set_cons_zero, List.set_cons_succ, i64_w, i32_w]
                  rfl
                refine done_ (done_of HT_.out (by kernel_rfl)) ?_
                obtain ⟨hcz32_0, hcz32_1, hcz32_2, hcz32_3, hfz32_0, hfz32_1, hfz32_2, hfz32_3⟩ := bk4 BK296.out
                try go_wp2
                have n0_ : Aside0 (Kd.R (Kd.int .i64) 3 ((w31.setCell ⟨gb296, 2, none⟩ (.int .i64 (rd t291 a1))).setCell ⟨gb296, 3, none⟩ (.int .i64 (rd t288 a1))) w.heap.size (fun k_ => some k_ ≠ (.slice (some ad298) t291.length co29 : Value).ownBlock) (.slice (some ad297) t288.length co25) t288) := ⟨Kd.pR (Kd.R_mono (Kd.R_far (p := ⟨gb296, 3, none⟩) (Kd.R_far (p := ⟨gb296, 2, none⟩) (Kd.R_types HO290.out BK296.out (by decide)) (fun _ hk => hk.2) (.int .i64 (rd t291 a1))) (fun _ hk => hk.2) (.int .i64 (rd t288 a1))) (fun _ hk => hk.1))⟩
                have n1_ : Aside0 (Kd.R (Kd.int .i64) 3 ((w31.setCell ⟨gb296, 2, none⟩ (.int .i64 (rd t291 a1))).setCell ⟨gb296, 3, none⟩ (.int .i64 (rd t288 a1))) w.heap.size (fun k_ => some k_ ≠ (.slice (some ad297) t288.length co25 : Value).ownBlock) (.slice (some ad298) t291.length co29) t291) := ⟨Kd.pR (Kd.R_mono (Kd.R_far (p := ⟨gb296, 3, none⟩) (Kd.R_far (p := ⟨gb296, 2, none⟩) (Kd.R_types HO293.out BK296.out (by decide)) (fun _ hk => hk.2) (.int .i64 (rd t291 a1))) (fun _ hk => hk.2) (.int .i64 (rd t288 a1))) (fun _ hk => hk.1))⟩
                have n2_ : Aside0 (((w31.setCell ⟨gb296, 2, none⟩ (.int .i64 (rd t291 a1))).setCell ⟨gb296, 3, none⟩ (.int .i64 (rd t288 a1))).heap[gb284]? = some (.cells #[.slice A0_0 l0_0.length c0_0, .slice A0_1 l0_1.length c0_1, .int .i64 a0_2, .int .i64 a0_3] 24 (0, 0))) := ⟨by (with_reducible repeat (first | refine blk_drewN ?_ _ | refine blk_drew ?_ | refine blk_alloc ?_ _)); refine blk_far ?_ NB284_296.out _; (with_reducible repeat (first | refine blk_drewN ?_ _ | refine blk_drew ?_ | refine blk_alloc ?_ _)); refine blk_far ?_ NB284_296.out _; (with_reducible repeat (first | refine blk_drewN ?_ _ | refine blk_drew ?_ | refine blk_alloc ?_ _)); exact BK284.out⟩
                have n3_ : Aside0 (((w31.setCell ⟨gb296, 2, none⟩ (.int .i64 (rd t291 a1))).setCell ⟨gb296, 3, none⟩ (.int .i64 (rd t288 a1))).heap[gb285]? = some (.cells #[.slice none 0 0, .slice none 0 0, .int .i64 0, .int .i64 0] 24 (0, 0))) := ⟨by (with_reducible repeat (first | refine blk_drewN ?_ _ | refine blk_drew ?_ | refine blk_alloc ?_ _)); refine blk_far ?_ NB285_296.out _; (with_reducible repeat (first | refine blk_drewN ?_ _ | refine blk_drew ?_ | refine blk_alloc ?_ _)); refine blk_far ?_ NB285_296.out _; (with_reducible repeat (first | refine blk_drewN ?_ _ | refine blk_drew ?_ | refine blk_alloc ?_ _)); exact BK285.out⟩
                have n4_ : Aside0 (((w31.setCell ⟨gb296, 2, none⟩ (.int .i64 (rd t291 a1))).setCell ⟨gb296, 3, none⟩ (.int .i64 (rd t288 a1))).heap[gb296]? = some (.cells #[.slice (some ad297) t288.length co25, .slice (some ad298) t291.length co29, .int .i64 (rd t291 a1), .int .i64 (rd t288 a1)] 24 (0, 0))) := ⟨by (with_reducible repeat (first | refine blk_drewN ?_ _ | refine blk_drew ?_ | refine blk_alloc ?_ _)); refine blk_put (cs := #[.slice (some ad297) t288.length co25, .slice (some ad298) t291.length co29, .int .i64 (rd t291 a1), .int .i64 t295]) ?_ 3 _ rfl; (with_reducible repeat (first | refine blk_drewN ?_ _ | refine blk_drew ?_ | refine blk_alloc ?_ _)); refine blk_put (cs := #[.slice (some ad297) t288.length co25, .slice (some ad298) t291.length co29, .int .i64 t294, .int .i64 t295]) ?_ 2 _ rfl; (with_reducible repeat (first | refine blk_drewN ?_ _ | refine blk_drew ?_ | refine blk_alloc ?_ _)); exact BK296.out⟩
                have n5_ : Aside0 (Below w.heap.size w ((w31.setCell ⟨gb296, 2, none⟩ (.int .i64 (rd t291 a1))).setCell ⟨gb296, 3, none⟩ (.int .i64 (rd t288 a1)))) := ⟨pB HB.out⟩
                (try clear HO290)
                (try clear HO293)
                (try clear BK284)
                (try clear BK285)
                (try clear BK296)
                (try clear HB)
                generalize ((w31.setCell ⟨gb296, 2, none⟩ (.int .i64 (rd t291 a1))).setCell ⟨gb296, 3, none⟩ (.int .i64 (rd t288 a1))) = w33 at n0_ n1_ n2_ n3_ n4_ n5_ ⊢
                have HO290 := n0_
                have HO293 := n1_
                have BK284 := n2_
                have BK285 := n3_
                have BK296 := n4_
                have HB := n5_
                clear n0_ n1_ n2_ n3_ n4_ n5_
                have n0_ := Aside0.mk (Kd.R_drew HO290.out)
                have n1_ := Aside0.mk (Kd.R_drew HO293.out)
                have n2_ := Aside0.mk (blk_drew BK284.out)
                have n3_ := Aside0.mk (blk_drew BK285.out)
                have n4_ := Aside0.mk (blk_drew BK296.out)
                have n5_ := Aside0.mk (below_drew1 HB.out)
                clear HO290
                clear HO293
                clear BK284
                clear BK285
                clear BK296
                clear HB
                have HO290 := n0_
                have HO293 := n1_
                have BK284 := n2_
                have BK285 := n3_
                have BK296 := n4_
                have HB := n5_
                clear n0_ n1_ n2_ n3_ n4_ n5_
                have p13 : 0 ≤ (a1 : Int) := od
                have q13 : (a1 : Int) < ((t288.length : Int) : Int) := od
                obtain ⟨go13, co13, eo13, gb13, gl13, cl13, HG13⟩ := Kd.R_form HO290.out (by omega)
                (first | cases eo13 | (injection eo13 with ea_ en_ ec_; (first | subst ea_ | (injection ea_ with ea_; subst ea_)); subst ec_; clear en_))
                have GB13 := Aside0.mk gb13
                have GG13 := Aside0.mk HG13
                clear gb13 gl13 HG13
                (first | simp only [add_plain] at hx297_0 | skip)
                obtain ⟨hx13_0, hf13_0⟩ := Kd.R_celln 0 HO290.out (a1 : Int) p13 q13
                replace p13 := eq_true p13
                replace q13 := eq_true q13
                have HP35 := Kd.R_putn HO290.out (a1 : Int) (-1)
                rw [← Ny299.out] at HP35
                have HQ35 := Aside0.mk HP35
                (try clear HP35)
                have p14 : 0 ≤ (a1 : Int) := od
                have q14 : (a1 : Int) < ((t291.length : Int) : Int) := od
                obtain ⟨go14, co14, eo14, gb14, gl14, cl14, HG14⟩ := Kd.R_form HO293.out (by omega)
                (first | cases eo14 | (injection eo14 with ea_ en_ ec_; (first | subst ea_ | (injection ea_ with ea_; subst ea_)); subst ec_; clear en_))
                have GB14 := Aside0.mk gb14
                have GG14 := Aside0.mk HG14
                clear gb14 gl14 HG14
                (first | simp only [add_plain] at hx298_0 | skip)
                obtain ⟨hx14_0, hf14_0⟩ := Kd.R_celln 0 (Kd.R_far (p := ⟨go13, (a1 : Int).toNat, none⟩) (Kd.R_mono HO293.out (fun k_ hk => (⟨hk, fun e_ => hk (by rw [e_]; rfl)⟩ : _ ∧ k_ ≠ go13))) (fun _ hk => hk.2) (.int .i64 (-1))) (a1 : Int) p14 q14
                replace p14 := eq_true p14
                replace q14 := eq_true q14
                have HP36 := Kd.R_putn (Kd.R_far (p := ⟨go13, (a1 : Int).toNat, none⟩) (Kd.R_mono HO293.out (fun k_ hk => (⟨hk, fun e_ => hk (by rw [e_]; rfl)⟩ : _ ∧ k_ ≠ go13))) (fun _ hk => hk.2) (.int .i64 (-1))) (a1 : Int) (-1)
                rw [← Ny300.out] at HP36
                have HQ36 := Aside0.mk HP36
                (try clear HP36)
                refine start_ (n := 14) (S := fun w' => w'.cell? ⟨gb296, 0, none⟩ = some (.slice (some ⟨go13, 0, none⟩) t288.length co25) ∧ w'.cell? ⟨gb296, 1, none⟩ = some (.slice (some ⟨go14, 0, none⟩) t291.length co29) ∧ w'.cell? ⟨gb296, 2, none⟩ = some (.int .i64 (rd t291 a1)) ∧ w'.cell? ⟨gb296, 3, none⟩ = some (.int .i64 (rd t288 a1))) (ds := [11, 13]) #[false, false, false, false, false, false, false, false, false, false, false, false, false, false] (by kernel_rfl) rfl rfl ⟨(blk_cell BK296.out 0).trans rfl, (blk_cell BK296.out 1).trans rfl, (blk_cell BK296.out 2).trans rfl, (blk_cell BK296.out 3).trans rfl⟩ (fun hHeld => ?_); refine with_tabW lru_Remove.tab34007 lru_Remove.bits34007 (fun HT_ HW_ => ?_)
                generalize w33.drew = w34 at HO290 HO293 BK284 BK285 BK296 HB GG13 GG14 HQ35 HQ36 hf13_0 hf14_0 hx13_0 hx14_0 hx297_0 hx298_0 hHeld ⊢
                refine pure_ (i := 0) (N := some 46) (v := ?_) (a' := ?_) #[true, false, false, false, false, false, false, false, false, false, false, false, false, false] rfl rfl (any_of HT_.out (by kernel_rfl)) (fun _ _ _ h => h) (Or.inl ⟨by rfl, ?_⟩) ?_ ?_
                rotate_left
                · intro w'
                  go_simp
                  with_reducible rfl
                rotate_left
                · simp only [Act.put, List.setIfInBounds_toArray, List.set_cons_zero, List.set_cons_succ, i64_w, i32_w]
                  rfl
                refine pure_ (i := 1) (N := some 47) (v := ?_) (a' := ?_) #[true, true, false, false, false, false, false, false, false, false, false, false, false, false] rfl rfl (any_of HT_.out (by kernel_rfl)) (fun _ _ _ h => h) (Or.inl ⟨by rfl, ?_⟩) ?_ ?_
                rotate_left
                · intro w'
                  go_simp
                  with_reducible rfl
                rotate_left
                · simp only [Act.put, List.setIfInBounds_toArray, List.set_cons_zero, List.set_cons_succ, i64_w, i32_w]
                  rfl
                refine pure_ (i := 2) (N := some 48) (v := ?_) (a' := ?_) #[true, true, true, false, false, false, false, false, false, false, false, false, false, false] rfl rfl (any_of HT_.out (by kernel_rfl)) (fun _ _ _ h => h) (Or.inl ⟨by rfl, ?_⟩) ?_ ?_
                rotate_left
                · intro w'
                  go_simp
                  with_reducible rfl
                rotate_left
                · simp only [Act.put, List.setIfInBounds_toArray, List.set_cons_zero, List.set_cons_succ, i64_w, i32_w]
                  rfl
                refine pure_ (i := 4) (N := some 50) (v := ?_) (a' := ?_) #[true, true, true, false, true, false, false, false, false, false, false, false, false, false] rfl rfl (any_of HT_.out (by kernel_rfl)) (fun _ _ _ h => h) (Or.inl ⟨by rfl, ?_⟩) ?_ ?_
                rotate_left
                · intro w'
                  go_simp
                  with_reducible rfl
                rotate_left
                · simp only [Act.put, List.setIfInBounds_toArray, List.set_cons_zero, List.set_cons_succ, i64_w, i32_w]
                  rfl
                refine pure_ (i := 5) (N := some 51) (v := ?_) (a' := ?_) #[true, true, true, false, true, true, false, false, false, false, false, false, false, false] rfl rfl (any_of HT_.out (by kernel_rfl)) (fun _ _ _ h => h) (Or.inl ⟨by rfl, ?_⟩) ?_ ?_
                rotate_left
                · intro w'
                  go_simp
                  with_reducible rfl
                rotate_left
                · simp only [Act.put, List.setIfInBounds_toArray, List.set_cons_zero, List.set_cons_succ, i64_w, i32_w]
                  rfl
                refine pure_ (i := 6) (N := some 52) (v := ?_) (a' := ?_) #[true, true, true, false, true, true, true, false, false, false, false, false, false, false] rfl rfl (any_of HT_.out (by kernel_rfl)) (fun _ _ _ h => h) (Or.inl ⟨by rfl, ?_⟩) ?_ ?_
                rotate_left
                · intro w'
                  go_simp
                  with_reducible rfl
                rotate_left
                · simp only [Act.put, List.setIfInBounds_toArray, List.set_cons_zero, List.set_cons_succ, i64_w, i32_w]
                  rfl
                refine pure_ (i := 7) (N := some 53) (v := ?_) (a' := ?_) #[true, true, true, false, true, true, true, true, false, false, false, false, false, false] rfl rfl (any_of HT_.out (by kernel_rfl)) (fun _ _ _ h => h) (Or.inl ⟨by rfl, ?_⟩) ?_ ?_
                rotate_left
                · intro w'
                  go_simp
                  with_reducible rfl
                rotate_left
                · simp only [Act.put, List.setIfInBounds_toArray, List.set_cons_zero, List.set_cons_succ, i64_w, i32_w]
                  rfl
                refine pure_ (i := 9) (N := some 55) (v := ?_) (a' := ?_) #[true, true, true, false, true, true, true, true, false, true, false, false, false, false] rfl rfl (any_of HT_.out (by kernel_rfl)) (fun _ _ _ h => h) (Or.inl ⟨by rfl, ?_⟩) ?_ ?_
                rotate_left
                · intro w'
                  go_simp
                  with_reducible rfl
                rotate_left
                · simp only [Act.put, List.setIfInBounds_toArray, List.set_cons_zero, List.set_cons_succ, i64_w, i32_w]
                  rfl
                refine take_ (i := 3) (N := some 49) (v := ?_) (a' := ?_) #[true, true, true, true, true, true, true, true, false, true, false, false, false, false] rfl rfl (take_ofW HT_.out HW_.out (by kernel_rfl)) (fun _ _ _ h => h) (Or.inl ⟨by rfl, ?_⟩) hHeld ?_ ?_
                rotate_left
                · rintro w' ⟨s0, s1, s2, s3⟩
                  go_simp
                  with_reducible rfl
                rotate_left
                · simp only [Act.put, List.setIfInBounds_toArray, List.set_cons_zero, List.set_cons_succ, i64_w, i32_w]
                  rfl
                refine take_ (i := 8) (N := some 54) (v := ?_) (a' := ?_) #[true, true, true, true, true, true, true, true, true, true, false, false, false, false] rfl rfl (take_ofW HT_.out HW_.out (by kernel_rfl)) (fun _ _ _ h => h) (Or.inl ⟨by rfl, ?_⟩) hHeld ?_ ?_
                rotate_left
                · rintro w' ⟨s0, s1, s2, s3⟩
                  go_simp
                  with_reducible rfl
                rotate_left
                · simp only [Act.put, List.setIfInBounds_toArray, List.set_cons_zero, List.set_cons_succ, i64_w, i32_w]
                  rfl
                refine pure_ (i := 10) (N := some 56) (v := ?_) (a' := ?_) #[true, true, true, true, true, true, true, true, true, true, true, false, false, false] rfl rfl (any_of HT_.out (by kernel_rfl)) (fun _ _ _ h => h) (Or.inl ⟨by rfl, ?_⟩) ?_ ?_
                rotate_left
                · intro w'
                  go_simp
                  with_reducible rfl
                rotate_left
                · simp only [Act.put, List.setIfInBounds_toArray, List.set_cons_zero, List.set_cons_succ, i64_w, i32_w]
                  rfl
                refine last_ (i := 11) (N := none) #[true, true, true, true, true, true, true, true, true, true, true, true, false, false] rfl rfl (one_of HT_.out (by kernel_rfl)) (by decide) (fun K hK => ?_)
                refine skip_ (w1 := ?_) (by rfl) rfl ?_ ?_
                rotate_left
                · go_simp
                  rfl
                refine hK.out _ _ ?_
                clear hK K
                refine pure_ (i := 12) (N := some 57) (v := ?_) (a' := ?_) #[true, true, true, true, true, true, true, true, true, true, true, true, true, false] rfl rfl (any_of HT_.out (by kernel_rfl)) (fun _ _ _ h => h) (Or.inl ⟨by rfl, ?_⟩) ?_ ?_
                rotate_left
                · intro w'
                  go_simp
                  with_reducible rfl
                rotate_left
                · simp only [Act.put, List.setIfInBounds_toArray, List.set_cons_zero, List.set_cons_succ, i64_w, i32_w]
                  rfl
                refine last_ (i := 13) (N := none) #[true, true, true, true, true, true, true, true, true, true, true, true, true, true] rfl rfl (one_of HT_.out (by kernel_rfl)) (by decide) (fun K hK => ?_)
                refine skip_ (w1 := ?_) (by rfl) rfl ?_ ?_
                rotate_left
                · go_simp
                  rfl
                refine hK.out _ _ ?_
                clear hK K
                refine done_ (done_of HT_.out (by kernel_rfl)) ?_
                have n0_ : Aside0 (Kd.R (Kd.int .i64) 3 ((w34.setCell ⟨go13, (a1 : Int).toNat, none⟩ (.int .i64 (-1))).setCell ⟨go14, (a1 : Int).toNat, none⟩ (.int .i64 (-1))) w.heap.size (fun k_ => some k_ ≠ (.slice (some ⟨go14, 0, none⟩) t291.length co29 : Value).ownBlock) (.slice (some ⟨go13, 0, none⟩) t288.length co25) y299) := ⟨Kd.pR (Kd.R_mono (Kd.R_far (p := ⟨go14, (a1 : Int).toNat, none⟩) (Kd.R_mono HQ35.out (fun k_ hk => (⟨hk, fun e_ => hk (by rw [e_]; rfl)⟩ : _ ∧ k_ ≠ go14))) (fun _ hk => hk.2) (.int .i64 (-1))) (fun _ hk => hk.1))⟩
                have n1_ : Aside0 (Kd.R (Kd.int .i64) 3 ((w34.setCell ⟨go13, (a1 : Int).toNat, none⟩ (.int .i64 (-1))).setCell ⟨go14, (a1 : Int).toNat, none⟩ (.int .i64 (-1))) w.heap.size (fun k_ => some k_ ≠ (.slice (some ⟨go13, 0, none⟩) t288.length co25 : Value).ownBlock) (.slice (some ⟨go14, 0, none⟩) t291.length co29) y300) := ⟨Kd.pR (Kd.R_mono HQ36.out (fun _ hk => hk.1))⟩
                have n3_ : Aside0 (((w34.setCell ⟨go13, (a1 : Int).toNat, none⟩ (.int .i64 (-1))).setCell ⟨go14, (a1 : Int).toNat, none⟩ (.int .i64 (-1))).heap[gb285]? = some (.cells #[.slice none 0 0, .slice none 0 0, .int .i64 0, .int .i64 0] 24 (0, 0))) := ⟨by (with_reducible repeat (first | refine blk_drewN ?_ _ | refine blk_drew ?_ | refine blk_alloc ?_ _)); refine blk_far ?_ (by have h_ := Kd.R_ne HO293.out BK285.out (by decide); intro e_; exact h_ (by rw [e_]; rfl)) _; (with_reducible repeat (first | refine blk_drewN ?_ _ | refine blk_drew ?_ | refine blk_alloc ?_ _)); refine blk_far ?_ (by have h_ := Kd.R_ne HO290.out BK285.out (by decide); intro e_; exact h_ (by rw [e_]; rfl)) _; (with_reducible repeat (first | refine blk_drewN ?_ _ | refine blk_drew ?_ | refine blk_alloc ?_ _)); exact BK285.out⟩
                have n4_ : Aside0 (((w34.setCell ⟨go13, (a1 : Int).toNat, none⟩ (.int .i64 (-1))).setCell ⟨go14, (a1 : Int).toNat, none⟩ (.int .i64 (-1))).heap[gb296]? = some (.cells #[.slice (some ⟨go13, 0, none⟩) t288.length co25, .slice (some ⟨go14, 0, none⟩) t291.length co29, .int .i64 (rd t291 a1), .int .i64 (rd t288 a1)] 24 (0, 0))) := ⟨by (with_reducible repeat (first | refine blk_drewN ?_ _ | refine blk_drew ?_ | refine blk_alloc ?_ _)); refine blk_far ?_ (by have h_ := Kd.R_ne HO293.out BK296.out (by decide); intro e_; exact h_ (by rw [e_]; rfl)) _; (with_reducible repeat (first | refine blk_drewN ?_ _ | refine blk_drew ?_ | refine blk_alloc ?_ _)); refine blk_far ?_ (by have h_ := Kd.R_ne HO290.out BK296.out (by decide); intro e_; exact h_ (by rw [e_]; rfl)) _; (with_reducible repeat (first | refine blk_drewN ?_ _ | refine blk_drew ?_ | refine blk_alloc ?_ _)); exact BK296.out⟩
                have n5_ : Aside0 (Below w.heap.size w ((w34.setCell ⟨go13, (a1 : Int).toNat, none⟩ (.int .i64 (-1))).setCell ⟨go14, (a1 : Int).toNat, none⟩ (.int .i64 (-1)))) := ⟨by repeat (first | (with_reducible first | exact HB.out | apply below_alloc | apply pw_below_drewN | apply below_drew1 | refine below_set ?_ GB13.out | refine below_set ?_ GB14.out | refine below_set ?_ GE284.out | refine below_set ?_ GE285.out | refine below_set ?_ GE296.out) | exact HB.out)⟩
                (try clear HO290)
                (try clear HO293)
                (try clear BK284)
                (try clear BK285)
                (try clear BK296)
                (try clear HB)
                generalize ((w34.setCell ⟨go13, (a1 : Int).toNat, none⟩ (.int .i64 (-1))).setCell ⟨go14, (a1 : Int).toNat, none⟩ (.int .i64 (-1))) = w37 at n0_ n1_ n3_ n4_ n5_ ⊢
                have HO290 := n0_
                have HO293 := n1_
                have BK285 := n3_
                have BK296 := n4_
                have HB := n5_
                clear n0_ n1_ n3_ n4_ n5_
                try go_wp2_with (first | ((try simp only [Exit.inBlock, Exit.then]); refine bodyPost_end (results_none rfl _ _ _) rfl ?_; refine ⟨_, rfl, ?_⟩; obtain ⟨hcz38_0, hcz38_1, hcz38_2, hcz38_3, hfz38_0, hfz38_1, hfz38_2, hfz38_3⟩ := bk4 BK296.out; obtain ⟨hcz39_0, hcz39_1, hcz39_2, hcz39_3, hfz39_0, hfz39_1, hfz39_2, hfz39_3⟩ := bk4 BK285.out))
                refine bodyPost_ret (results_ct rfl _ _ gb285 24 #[.slice (some ⟨go13, 0, none⟩) t288.length co25, .slice (some ⟨go14, 0, none⟩) t291.length co29, .int .i64 (rd t291 a1), .int .i64 (rd t288 a1)] (0, 0) _ rfl (by (with_reducible repeat (first | refine blk_drewN ?_ _ | refine blk_drew ?_ | refine blk_alloc ?_ _)); refine blk_put (cs := #[.slice (some ⟨go13, 0, none⟩) t288.length co25, .slice (some ⟨go14, 0, none⟩) t291.length co29, .int .i64 (rd t291 a1), .int .i64 0]) ?_ 3 _ rfl; (with_reducible repeat (first | refine blk_drewN ?_ _ | refine blk_drew ?_ | refine blk_alloc ?_ _)); refine blk_put (cs := #[.slice (some ⟨go13, 0, none⟩) t288.length co25, .slice (some ⟨go14, 0, none⟩) t291.length co29, .int .i64 0, .int .i64 0]) ?_ 2 _ rfl; (with_reducible repeat (first | refine blk_drewN ?_ _ | refine blk_drew ?_ | refine blk_alloc ?_ _)); refine blk_put (cs := #[.slice (some ⟨go13, 0, none⟩) t288.length co25, .slice none 0 0, .int .i64 0, .int .i64 0]) ?_ 1 _ rfl; (with_reducible repeat (first | refine blk_drewN ?_ _ | refine blk_drew ?_ | refine blk_alloc ?_ _)); refine blk_put (cs := #[.slice none 0 0, .slice none 0 0, .int .i64 0, .int .i64 0]) ?_ 0 _ rfl; (with_reducible repeat (first | refine blk_drewN ?_ _ | refine blk_drew ?_ | refine blk_alloc ?_ _)); exact BK285.out) Try.underlying24 rfl (by kernel_rfl)) rfl ?_
                exact ⟨_, _, by first | rfl | (simp [errW_none, errW_some] <;> rfl) | (simp [*, errW_none, errW_some] <;> rfl), Kd.pR (Kd.R_mono (Kd.R_far (p := ⟨gb285, 3, none⟩) (Kd.R_far (p := ⟨gb285, 2, none⟩) (Kd.R_far (p := ⟨gb285, 1, none⟩) (Kd.R_far (p := ⟨gb285, 0, none⟩) (Kd.R_types HO290.out BK285.out (by decide)) (fun _ hk => hk.2) (.slice (some ⟨go13, 0, none⟩) t288.length co25)) (fun _ hk => hk.2) (.slice (some ⟨go14, 0, none⟩) t291.length co29)) (fun _ hk => hk.2) (.int .i64 (rd t291 a1))) (fun _ hk => hk.2) (.int .i64 (rd t288 a1))) (fun _ hk => hk.1)), Kd.pR (Kd.R_mono (Kd.R_far (p := ⟨gb285, 3, none⟩) (Kd.R_far (p := ⟨gb285, 2, none⟩) (Kd.R_far (p := ⟨gb285, 1, none⟩) (Kd.R_far (p := ⟨gb285, 0, none⟩) (Kd.R_types HO293.out BK285.out (by decide)) (fun _ hk => hk.2) (.slice (some ⟨go13, 0, none⟩) t288.length co25)) (fun _ hk => hk.2) (.slice (some ⟨go14, 0, none⟩) t291.length co29)) (fun _ hk => hk.2) (.int .i64 (rd t291 a1))) (fun _ hk => hk.2) (.int .i64 (rd t288 a1))) (fun _ hk => hk.1)), pB HB.out⟩
              · rw [if_neg c12] at H
                have c12b0 : ((rd t291 a1) == (-1)) = false := beq_eq_false_iff_ne.mpr c12
                have c12b1 : ((rd t291 a1) != (-1)) = true := bne_iff_ne.mpr c12
                by_cases c40 : 0 ≤ (rd t291 a1)
                · rw [if_pos c40] at H
                  have c40b0 : decide (0 ≤ (rd t291 a1)) = true := decide_eq_true c40
                  clear c40
                  by_cases c41 : (rd t291 a1) < (t288.length : Int)
                  · rw [if_pos c41] at H
                    have c41b0 : decide ((rd t291 a1) < (t288.length : Int)) = true := decide_eq_true c41
                    clear c41
                    obtain ⟨y301, hy301⟩ : ∃ y_ : List Int, y_ = (t288.set ((rd t291 a1) : Int).toNat (rd t288 a1)) := ⟨_, rfl⟩
                    replace H : (some ((y301.set (a1 : Int).toNat (-1)), (t291.set (a1 : Int).toNat (-1)), rd t291 a1, t295, 0)) = some (r1, r2, r3, r4, r5) := by first | (rw [hy301]; with_reducible exact H) | (have H2_ := (Option.bind_some _ _).symm.trans H; rw [hy301]; with_reducible exact H2_) | (have H2_ := (Option.bind_some _ _).symm.trans H; with_reducible exact H2_) | with_reducible exact H | (rw [hy301]; exact H) | exact H
                    have Ny301 := Aside0.mk hy301
                    (try clear hy301)
                    obtain ⟨y302, hy302⟩ : ∃ y_ : List Int, y_ = (y301.set (a1 : Int).toNat (-1)) := ⟨_, rfl⟩
                    replace H : (some (y302, (t291.set (a1 : Int).toNat (-1)), rd t291 a1, t295, 0)) = some (r1, r2, r3, r4, r5) := by first | (rw [hy302]; with_reducible exact H) | (have H2_ := (Option.bind_some _ _).symm.trans H; rw [hy302]; with_reducible exact H2_) | (have H2_ := (Option.bind_some _ _).symm.trans H; with_reducible exact H2_) | with_reducible exact H | (rw [hy302]; exact H) | exact H
                    have Ny302 := Aside0.mk hy302
                    (try clear hy302)
                    obtain ⟨y303, hy303⟩ : ∃ y_ : List Int, y_ = (t291.set (a1 : Int).toNat (-1)) := ⟨_, rfl⟩
                    replace H : (some (y302, y303, rd t291 a1, t295, 0)) = some (r1, r2, r3, r4, r5) := by first | (rw [hy303]; with_reducible exact H) | (have H2_ := (Option.bind_some _ _).symm.trans H; rw [hy303]; with_reducible exact H2_) | (have H2_ := (Option.bind_some _ _).symm.trans H; with_reducible exact H2_) | with_reducible exact H | (rw [hy303]; exact H) | exact H
                    have Ny303 := Aside0.mk hy303
                    (try clear hy303)
                    simp only [Option.some.injEq, Prod.mk.injEq] at H
                    obtain ⟨rfl, rfl, rfl, rfl, rfl⟩ := H
                    go_enter Try.func14, Try.ntmps14
                    try go_wp2_with (first | ((with_reducible refine gate_dst (N := 2) rfl ?_); refine boxE (N := 2) (cs := #[.slice A0_0 l0_0.length c0_0, .slice A0_1 l0_1.length c0_1, .int .i64 a0_2, .int .i64 a0_3]) (t := 24) ?_; intro gb284 hg w45 hbox hb; have n0_ := Aside0.mk (below_step (pB HB.out) hb); have n1_ := Aside0.mk (hbox); have n3_ := Aside0.mk (pL HB.out hg); clear HB; have HB := n0_; have BK284 := n1_; have GE284 := n3_; clear n0_ n1_ n3_; clear hb hbox hg) | ((with_reducible refine gate_dst (N := 4) rfl ?_); refine boxE (N := 4) (cs := #[.slice none 0 0, .slice none 0 0, .int .i64 0, .int .i64 0]) (t := 24) ?_; intro gb285 hg w46 hbox hb; have n0_ := Aside0.mk (blk_below (pK BK284.out) hb); have n1_ := Aside0.mk (below_step (pB HB.out) hb); have n2_ := Aside0.mk (hbox); have n4_ := Aside0.mk (pL HB.out hg); have n5_ := Aside0.mk (pNl BK284.out hg); have n6_ := Aside0.mk (pNg BK284.out hg); clear BK284; clear HB; have BK284 := n0_; have HB := n1_; have BK285 := n2_; have GE285 := n4_; have NB284_285 := n5_; have NB285_284 := n6_; clear n0_ n1_ n2_ n4_ n5_ n6_; clear hb hbox hg; have hnb47 := NB284_285.out; have hnc47 := NB285_284.out; obtain ⟨hcz48_0, hcz48_1, hcz48_2, hcz48_3, hfz48_0, hfz48_1, hfz48_2, hfz48_3⟩ := bk4 BK284.out) | ((with_reducible refine gate_callee (f := 31) rfl ?_); refine goesE (some 10) rfl rfl Try.func31 (by kernel_rfl) rfl #[.agg #[.slice A0_0 l0_0.length c0_0, .slice A0_1 l0_1.length c0_1, .int .i64 a0_2, .int .i64 a0_3], .int .i64 a1] rfl ?_; (with_reducible refine (lru_check.calls k _ _ l0_0 _ _ l0_1 a0_2 a0_3 a1 t286 _ ?side1 ?side2 ?side3 ?side4 A3.out).mono ?_); (case side1 => exact Kd.pC ((Kd.C_below HR0_0.out HB.out))); (case side2 => exact HC0_0.out); (case side3 => exact Kd.pC ((Kd.C_below HR0_1.out HB.out))); (case side4 => exact HC0_1.out); rintro e w49 ⟨rfl, hb⟩; refine ⟨_, rfl, ?_⟩; have n0_ := Aside0.mk (blk_below (pK BK284.out) hb); have n1_ := Aside0.mk (blk_below (pK BK285.out) hb); have n2_ := Aside0.mk (below_step (pB HB.out) hb); clear BK284; clear BK285; clear HB; have BK284 := n0_; have BK285 := n1_; have HB := n2_; clear n0_ n1_ n2_; (try clear hb); (try clear hb2); (try clear hk); (try clear hi); obtain ⟨hcz50_0, hcz50_1, hcz50_2, hcz50_3, hfz50_0, hfz50_1, hfz50_2, hfz50_3⟩ := bk4 BK284.out) | ((with_reducible refine gate_callee (f := 33) rfl ?_); refine goesE (some 17) rfl rfl Try.func33 (by kernel_rfl) rfl #[.agg #[.slice A0_0 l0_0.length c0_0, .slice A0_1 l0_1.length c0_1, .int .i64 a0_2, .int .i64 a0_3], .int .i64 a1] rfl ?_; (with_reducible refine (lru_in.calls _ _ l0_0 _ _ l0_1 a0_2 a0_3 a1 true _ ?side1 ?side2 ?side3 ?side4 A5.out).mono ?_); (case side1 => exact Kd.pC ((Kd.C_below HR0_0.out HB.out))); (case side2 => exact HC0_0.out); (case side3 => exact Kd.pC ((Kd.C_below HR0_1.out HB.out))); (case side4 => exact HC0_1.out); rintro e w51 ⟨rfl, hb⟩; refine ⟨_, rfl, ?_⟩; have n0_ := Aside0.mk (blk_below (pK BK284.out) hb); have n1_ := Aside0.mk (blk_below (pK BK285.out) hb); have n2_ := Aside0.mk (below_step (pB HB.out) hb); clear BK284; clear BK285; clear HB; have BK284 := n0_; have BK285 := n1_; have HB := n2_; clear n0_ n1_ n2_; (try clear hb); (try clear hb2); (try clear hk); (try clear hi); obtain ⟨hcz52_0, hcz52_1, hcz52_2, hcz52_3, hfz52_0, hfz52_1, hfz52_2, hfz52_3⟩ := bk4 BK284.out) | ((with_reducible refine gate_callee (f := 32) rfl ?_); refine goesE (some 21) rfl rfl Try.func32 (by kernel_rfl) rfl #[.agg #[.slice A0_0 l0_0.length c0_0, .slice A0_1 l0_1.length c0_1, .int .i64 a0_2, .int .i64 a0_3]] rfl ?_; (with_reducible refine (lru_twin.calls _ _ l0_0 _ _ l0_1 a0_2 a0_3 t288 t291 t294 t295 _ ?side1 ?side2 ?side3 ?side4 A7.out).mono ?_); (case side1 => exact Kd.pC ((Kd.C_below HR0_0.out HB.out))); (case side2 => exact HC0_0.out); (case side3 => exact Kd.pC ((Kd.C_below HR0_1.out HB.out))); (case side4 => exact HC0_1.out); rintro e w53 ⟨v289, v292, rfl, ho0, ho1, hb⟩; refine ⟨_, rfl, ?_⟩; have n0_ := Aside0.mk (Kd.R_lower ho0 (below_size (pB HB.out))); have n1_ := Aside0.mk (Kd.R_lower ho1 (below_size (pB HB.out))); have n2_ := Aside0.mk (blk_below (pK BK284.out) hb); have n3_ := Aside0.mk (blk_below (pK BK285.out) hb); have n4_ := Aside0.mk (below_step (pB HB.out) hb); clear BK284; clear BK285; clear HB; have HO290 := n0_; have HO293 := n1_; have BK284 := n2_; have BK285 := n3_; have HB := n4_; clear n0_ n1_ n2_ n3_ n4_; (try clear hb); (try clear hb2); (try clear hk); (try clear hi); (try clear ho0); (try clear ho1)) | ((with_reducible refine gate_dst (N := 7) rfl ?_); refine boxE (N := 7) (cs := #[.slice none 0 0, .slice none 0 0, .int .i64 0, .int .i64 0]) (t := 24) ?_; intro gb296 hg w54 hbox hb; have n0_ := Aside0.mk (Kd.R_below (Kd.pR HO290.out) hb); have n1_ := Aside0.mk (Kd.R_below (Kd.pR HO293.out) hb); have n2_ := Aside0.mk (blk_below (pK BK284.out) hb); have n3_ := Aside0.mk (blk_below (pK BK285.out) hb); have n4_ := Aside0.mk (below_step (pB HB.out) hb); have n5_ := Aside0.mk (hbox); have n7_ := Aside0.mk (pL HB.out hg); have n8_ := Aside0.mk (pNl BK284.out hg); have n9_ := Aside0.mk (pNg BK284.out hg); have n10_ := Aside0.mk (pNl BK285.out hg); have n11_ := Aside0.mk (pNg BK285.out hg); clear HO290; clear HO293; clear BK284; clear BK285; clear HB; have HO290 := n0_; have HO293 := n1_; have BK284 := n2_; have BK285 := n3_; have HB := n4_; have BK296 := n5_; have GE296 := n7_; have NB284_296 := n8_; have NB296_284 := n9_; have NB285_296 := n10_; have NB296_285 := n11_; clear n0_ n1_ n2_ n3_ n4_ n5_ n7_ n8_ n9_ n10_ n11_; clear hb hbox hg; obtain ⟨Ao55, co55, eo55⟩ := Kd.R_slice HO290.out; subst eo55; have hnb56 := NB296_284.out; have hnc56 := NB284_296.out; have hnb57 := NB296_285.out; have hnc57 := NB285_296.out; obtain ⟨hcz58_0, hcz58_1, hcz58_2, hcz58_3, hfz58_0, hfz58_1, hfz58_2, hfz58_3⟩ := bk4 BK296.out; obtain ⟨Ao59, co59, eo59⟩ := Kd.R_slice HO293.out; subst eo59) | ((with_reducible refine gate_callee (f := 34) rfl ?_); refine goesL_ (some 23) rfl rfl Try.func34 (by kernel_rfl) rfl #[.pointer (some ⟨gb296, 0, none⟩), .int .i64 a1] rfl (by (try simp only [List.map_toArray, List.map_cons, List.map_nil]); first | done | rfl) ?_; go_enter Try.func34, Try.ntmps34))
                    have n0_ : Aside0 (Kd.R (Kd.int .i64) 3 ((((w54.setCell ⟨gb296, 0, none⟩ (.slice Ao55 t288.length co55)).setCell ⟨gb296, 1, none⟩ (.slice Ao59 t291.length co59)).setCell ⟨gb296, 2, none⟩ (.int .i64 t294)).setCell ⟨gb296, 3, none⟩ (.int .i64 t295)) w.heap.size (fun k_ => some k_ ≠ (.slice Ao59 t291.length co59 : Value).ownBlock) (.slice Ao55 t288.length co55) t288) := ⟨Kd.pR (Kd.R_mono (Kd.R_far (p := ⟨gb296, 3, none⟩) (Kd.R_far (p := ⟨gb296, 2, none⟩) (Kd.R_far (p := ⟨gb296, 1, none⟩) (Kd.R_far (p := ⟨gb296, 0, none⟩) (Kd.R_types HO290.out BK296.out (by decide)) (fun _ hk => hk.2) (.slice Ao55 t288.length co55)) (fun _ hk => hk.2) (.slice Ao59 t291.length co59)) (fun _ hk => hk.2) (.int .i64 t294)) (fun _ hk => hk.2) (.int .i64 t295)) (fun _ hk => hk.1))⟩
                    have n1_ : Aside0 (Kd.R (Kd.int .i64) 3 ((((w54.setCell ⟨gb296, 0, none⟩ (.slice Ao55 t288.length co55)).setCell ⟨gb296, 1, none⟩ (.slice Ao59 t291.length co59)).setCell ⟨gb296, 2, none⟩ (.int .i64 t294)).setCell ⟨gb296, 3, none⟩ (.int .i64 t295)) w.heap.size (fun k_ => some k_ ≠ (.slice Ao55 t288.length co55 : Value).ownBlock) (.slice Ao59 t291.length co59) t291) := ⟨Kd.pR (Kd.R_mono (Kd.R_far (p := ⟨gb296, 3, none⟩) (Kd.R_far (p := ⟨gb296, 2, none⟩) (Kd.R_far (p := ⟨gb296, 1, none⟩) (Kd.R_far (p := ⟨gb296, 0, none⟩) (Kd.R_types HO293.out BK296.out (by decide)) (fun _ hk => hk.2) (.slice Ao55 t288.length co55)) (fun _ hk => hk.2) (.slice Ao59 t291.length co59)) (fun _ hk => hk.2) (.int .i64 t294)) (fun _ hk => hk.2) (.int .i64 t295)) (fun _ hk => hk.1))⟩
                    have n2_ : Aside0 (((((w54.setCell ⟨gb296, 0, none⟩ (.slice Ao55 t288.length co55)).setCell ⟨gb296, 1, none⟩ (.slice Ao59 t291.length co59)).setCell ⟨gb296, 2, none⟩ (.int .i64 t294)).setCell ⟨gb296, 3, none⟩ (.int .i64 t295)).heap[gb284]? = some (.cells #[.slice A0_0 l0_0.length c0_0, .slice A0_1 l0_1.length c0_1, .int .i64 a0_2, .int .i64 a0_3] 24 (0, 0))) := ⟨by (with_reducible repeat (first | refine blk_drewN ?_ _ | refine blk_drew ?_ | refine blk_alloc ?_ _)); refine blk_far ?_ NB284_296.out _; (with_reducible repeat (first | refine blk_drewN ?_ _ | refine blk_drew ?_ | refine blk_alloc ?_ _)); refine blk_far ?_ NB284_296.out _; (with_reducible repeat (first | refine blk_drewN ?_ _ | refine blk_drew ?_ | refine blk_alloc ?_ _)); refine blk_far ?_ NB284_296.out _; (with_reducible repeat (first | refine blk_drewN ?_ _ | refine blk_drew ?_ | refine blk_alloc ?_ _)); refine blk_far ?_ NB284_296.out _; (with_reducible repeat (first | refine blk_drewN ?_ _ | refine blk_drew ?_ | refine blk_alloc ?_ _)); exact BK284.out⟩
                    have n3_ : Aside0 (((((w54.setCell ⟨gb296, 0, none⟩ (.slice Ao55 t288.length co55)).setCell ⟨gb296, 1, none⟩ (.slice Ao59 t291.length co59)).setCell ⟨gb296, 2, none⟩ (.int .i64 t294)).setCell ⟨gb296, 3, none⟩ (.int .i64 t295)).heap[gb285]? = some (.cells #[.slice none 0 0, .slice none 0 0, .int .i64 0, .int .i64 0] 24 (0, 0))) := ⟨by (with_reducible repeat (first | refine blk_drewN ?_ _ | refine blk_drew ?_ | refine blk_alloc ?_ _)); refine blk_far ?_ NB285_296.out _; (with_reducible repeat (first | refine blk_drewN ?_ _ | refine blk_drew ?_ | refine blk_alloc ?_ _)); refine blk_far ?_ NB285_296.out _; (with_reducible repeat (first | refine blk_drewN ?_ _ | refine blk_drew ?_ | refine blk_alloc ?_ _)); refine blk_far ?_ NB285_296.out _; (with_reducible repeat (first | refine blk_drewN ?_ _ | refine blk_drew ?_ | refine blk_alloc ?_ _)); refine blk_far ?_ NB285_296.out _; (with_reducible repeat (first | refine blk_drewN ?_ _ | refine blk_drew ?_ | refine blk_alloc ?_ _)); exact BK285.out⟩
                    have n4_ : Aside0 (((((w54.setCell ⟨gb296, 0, none⟩ (.slice Ao55 t288.length co55)).setCell ⟨gb296, 1, none⟩ (.slice Ao59 t291.length co59)).setCell ⟨gb296, 2, none⟩ (.int .i64 t294)).setCell ⟨gb296, 3, none⟩ (.int .i64 t295)).heap[gb296]? = some (.cells #[.slice Ao55 t288.length co55, .slice Ao59 t291.length co59, .int .i64 t294, .int .i64 t295] 24 (0, 0))) := ⟨by (with_reducible repeat (first | refine blk_drewN ?_ _ | refine blk_drew ?_ | refine blk_alloc ?_ _)); refine blk_put (cs := #[.slice Ao55 t288.length co55, .slice Ao59 t291.length co59, .int .i64 t294, .int .i64 0]) ?_ 3 _ rfl; (with_reducible repeat (first | refine blk_drewN ?_ _ | refine blk_drew ?_ | refine blk_alloc ?_ _)); refine blk_put (cs := #[.slice Ao55 t288.length co55, .slice Ao59 t291.length co59, .int .i64 0, .int .i64 0]) ?_ 2 _ rfl; (with_reducible repeat (first | refine blk_drewN ?_ _ | refine blk_drew ?_ | refine blk_alloc ?_ _)); refine blk_put (cs := #[.slice Ao55 t288.length co55, .slice none 0 0, .int .i64 0, .int .i64 0]) ?_ 1 _ rfl; (with_reducible repeat (first | refine blk_drewN ?_ _ | refine blk_drew ?_ | refine blk_alloc ?_ _)); refine blk_put (cs := #[.slice none 0 0, .slice none 0 0, .int .i64 0, .int .i64 0]) ?_ 0 _ rfl; (with_reducible repeat (first | refine blk_drewN ?_ _ | refine blk_drew ?_ | refine blk_alloc ?_ _)); exact BK296.out⟩
                    have n5_ : Aside0 (Below w.heap.size w ((((w54.setCell ⟨gb296, 0, none⟩ (.slice Ao55 t288.length co55)).setCell ⟨gb296, 1, none⟩ (.slice Ao59 t291.length co59)).setCell ⟨gb296, 2, none⟩ (.int .i64 t294)).setCell ⟨gb296, 3, none⟩ (.int .i64 t295))) := ⟨pB HB.out⟩
                    (try clear HO290)
                    (try clear HO293)
                    (try clear BK284)
                    (try clear BK285)
                    (try clear BK296)
                    (try clear HB)
                    generalize ((((w54.setCell ⟨gb296, 0, none⟩ (.slice Ao55 t288.length co55)).setCell ⟨gb296, 1, none⟩ (.slice Ao59 t291.length co59)).setCell ⟨gb296, 2, none⟩ (.int .i64 t294)).setCell ⟨gb296, 3, none⟩ (.int .i64 t295)) = w60 at n0_ n1_ n2_ n3_ n4_ n5_ ⊢
                    have HO290 := n0_
                    have HO293 := n1_
                    have BK284 := n2_
                    have BK285 := n3_
                    have BK296 := n4_
                    have HB := n5_
                    clear n0_ n1_ n2_ n3_ n4_ n5_
                    have n0_ := Aside0.mk (Kd.R_drew HO290.out)
                    have n1_ := Aside0.mk (Kd.R_drew HO293.out)
                    have n2_ := Aside0.mk (blk_drew BK284.out)
                    have n3_ := Aside0.mk (blk_drew BK285.out)
                    have n4_ := Aside0.mk (blk_drew BK296.out)
                    have n5_ := Aside0.mk (below_drew1 HB.out)
                    clear HO290
                    clear HO293
                    clear BK284
                    clear BK285
                    clear BK296
                    clear HB
                    have HO290 := n0_
                    have HO293 := n1_
                    have BK284 := n2_
                    have BK285 := n3_
                    have BK296 := n4_
                    have HB := n5_
                    clear n0_ n1_ n2_ n3_ n4_ n5_
                    have p297 : 0 ≤ (a1 : Int) := od
                    have q297 : a1 < (t288.length : Int) := od
                    obtain ⟨ad297, e297, hx297_0⟩ := Kd.at_int (Kd.R_reads' HO290.out).2.2 a1 p297 q297
                    cases e297
                    replace p297 := eq_true p297
                    replace q297 := eq_true q297
                    have p298 : 0 ≤ (a1 : Int) := od
                    have q298 : a1 < (t291.length : Int) := od
                    obtain ⟨ad298, e298, hx298_0⟩ := Kd.at_int (Kd.R_reads' HO293.out).2.2 a1 p298 q298
                    cases e298
                    replace p298 := eq_true p298
                    replace q298 := eq_true q298
                    refine start_ (n := 16) (S := fun w' => w'.cell? ⟨gb296, 0, none⟩ = some (.slice (some ad297) t288.length co55) ∧ w'.cell? ⟨gb296, 1, none⟩ = some (.slice (some ad298) t291.length co59) ∧ w'.cell? ⟨gb296, 2, none⟩ = some (.int .i64 t294) ∧ w'.cell? ⟨gb296, 3, none⟩ = some (.int .i64 t295) ∧ w'.cell? (ad297.add (a1).toNat) = some (.int .i64 (rd t288 a1)) ∧ w'.cell? (ad298.add (a1).toNat) = some (.int .i64 (rd t291 a1))) (ds := []) #[false, false, false, false, false, false, false, false, false, false, false, false, false, false, false, false] (by kernel_rfl) rfl rfl ⟨(blk_cell BK296.out 0).trans rfl, (blk_cell BK296.out 1).trans rfl, (blk_cell BK296.out 2).trans rfl, (blk_cell BK296.out 3).trans rfl, hx297_0, hx298_0⟩ (fun hHeld => ?_); refine with_tabW lru_Remove.tab34000 lru_Remove.bits34000 (fun HT_ HW_ => ?_)
                    generalize w60.drew = w61 at HO290 HO293 BK284 BK285 BK296 HB hx297_0 hx298_0 hHeld ⊢
                    refine pure_ (i := 0) (N := some 6) (v := ?_) (a' := ?_) #[true, false, false, false, false, false, false, false, false, false, false, false, false, false, false, false] rfl rfl (any_of HT_.out (by kernel_rfl)) (fun _ _ _ h => h) (Or.inl ⟨by rfl, ?_⟩) ?_ ?_
                    rotate_left
                    · intro w'
                      go_simp
                      with_reducible rfl
                    rotate_left
                    · simp only [Act.put, List.setIfInBounds_toArray, List.set_cons_zero, List.set_cons_succ, i64_w, i32_w]
                      rfl
                    refine pure_ (i := 1) (N := some 7) (v := ?_) (a' := ?_) #[true, true, false, false, false, false, false, false, false, false, false, false, false, false, false, false] rfl rfl (any_of HT_.out (by kernel_rfl)) (fun _ _ _ h => h) (Or.inl ⟨by rfl, ?_⟩) ?_ ?_
                    rotate_left
                    · intro w'
                      go_simp
                      with_reducible rfl
                    rotate_left
                    · simp only [Act.put, List.setIfInBounds_toArray, List.set_cons_zero, List.set_cons_succ, i64_w, i32_w]
                      rfl
                    refine pure_ (i := 2) (N := some 8) (v := ?_) (a' := ?_) #[true, true, true, false, false, false, false, false, false, false, false, false, false, false, false, false] rfl rfl (any_of HT_.out (by kernel_rfl)) (fun _ _ _ h => h) (Or.inl ⟨by rfl, ?_⟩) ?_ ?_
                    rotate_left
                    · intro w'
                      go_simp
                      with_reducible rfl
                    rotate_left
                    · simp only [Act.put, List.setIfInBounds_toArray, List.set_cons_zero, List.set_cons_succ, i64_w, i32_w]
                      rfl
                    refine pure_ (i := 4) (N := some 10) (v := ?_) (a' := ?_) #[true, true, true, false, true, false, false, false, false, false, false, false, false, false, false, false] rfl rfl (any_of HT_.out (by kernel_rfl)) (fun _ _ _ h => h) (Or.inl ⟨by rfl, ?_⟩) ?_ ?_
                    rotate_left
                    · intro w'
                      go_simp
                      with_reducible rfl
                    rotate_left
                    · simp only [Act.put, List.setIfInBounds_toArray, List.set_cons_zero, List.set_cons_succ, i64_w, i32_w]
                      rfl
                    refine pure_ (i := 7) (N := some 13) (v := ?_) (a' := ?_) #[true, true, true, false, true, false, false, true, false, false, false, false, false, false, false, false] rfl rfl (any_of HT_.out (by kernel_rfl)) (fun _ _ _ h => h) (Or.inl ⟨by rfl, ?_⟩) ?_ ?_
                    rotate_left
                    · intro w'
                      go_simp
                      with_reducible rfl
                    rotate_left
                    · simp only [Act.put, List.setIfInBounds_toArray, List.set_cons_zero, List.set_cons_succ, i64_w, i32_w]
                      rfl
                    refine pure_ (i := 8) (N := some 14) (v := ?_) (a' := ?_) #[true, true, true, false, true, false, false, true, true, false, false, false, false, false, false, false] rfl rfl (any_of HT_.out (by kernel_rfl)) (fun _ _ _ h => h) (Or.inl ⟨by rfl, ?_⟩) ?_ ?_
                    rotate_left
                    · intro w'
                      go_simp
                      with_reducible rfl
                    rotate_left
                    · simp only [Act.put, List.setIfInBounds_toArray, List.set_cons_zero, List.set_cons_succ, i64_w, i32_w]
                      rfl
                    refine pure_ (i := 9) (N := some 15) (v := ?_) (a' := ?_) #[true, true, true, false, true, false, false, true, true, true, false, false, false, false, false, false] rfl rfl (any_of HT_.out (by kernel_rfl)) (fun _ _ _ h => h) (Or.inl ⟨by rfl, ?_⟩) ?_ ?_
                    rotate_left
                    · intro w'
                      go_simp
                      with_reducible rfl
                    rotate_left
                    · simp only [Act.put, List.setIfInBounds_toArray, List.set_cons_zero, List.set_cons_succ, i64_w, i32_w]
                      rfl
                    refine pure_ (i := 11) (N := some 17) (v := ?_) (a' := ?_) #[true, true, true, false, true, false, false, true, true, true, false, true, false, false, false, false] rfl rfl (any_of HT_.out (by kernel_rfl)) (fun _ _ _ h => h) (Or.inl ⟨by rfl, ?_⟩) ?_ ?_
                    rotate_left
                    · intro w'
                      go_simp
                      with_reducible rfl
                    rotate_left
                    · simp only [Act.put, List.setIfInBounds_toArray, List.set_cons_zero, List.set_cons_succ, i64_w, i32_w]
                      rfl
                    refine take_ (i := 3) (N := some 9) (v := ?_) (a' := ?_) #[true, true, true, true, true, false, false, true, true, true, false, true, false, false, false, false] rfl rfl (take_ofW HT_.out HW_.out (by kernel_rfl)) (fun _ _ _ h => h) (Or.inl ⟨by rfl, ?_⟩) hHeld ?_ ?_
                    rotate_left
                    · rintro w' ⟨s0, s1, s2, s3, s4, s5⟩
                      go_simp
                      with_reducible rfl
                    rotate_left
                    · simp only [Act.put, List.setIfInBounds_toArray, List.set_cons_zero, List.set_cons_succ, i64_w, i32_w]
                      rfl
                    refine pure_ (i := 5) (N := some 11) (v := ?_) (a' := ?_) #[true, true, true, true, true, true, false, true, true, true, false, true, false, false, false, false] rfl rfl (any_of HT_.out (by kernel_rfl)) (fun _ _ _ h => h) (Or.inl ⟨by rfl, ?_⟩) ?_ ?_
                    rotate_left
                    · intro w'
                      go_simp
                      with_reducible rfl
                    rotate_left
                    · simp only [Act.put, List.setIfInBounds_toArray, List.set_cons_zero, List.set_cons_succ, i64_w, i32_w]
                      rfl
                    refine take_ (i := 6) (N := some 12) (v := ?_) (a' := ?_) #[true, true, true, true, true, true, true, true, true, true, false, true, false, false, false, false] rfl rfl (take_ofW HT_.out HW_.out (by kernel_rfl)) (fun _ _ _ h => h) (Or.inl ⟨by rfl, ?_⟩) hHeld ?_ ?_
                    rotate_left
                    · rintro w' ⟨s0, s1, s2, s3, s4, s5⟩
                      go_simp
                      with_reducible rfl
                    rotate_left
                    · simp only [Act.put, List.setIfInBounds_toArray, List.set_cons_zero, List.set_cons_succ, i64_w, i32_w]
                      rfl
                    refine pure_ (i := 14) (N := some 4) (v := ?_) (a' := ?_) #[true, true, true, true, true, true, true, true, true, true, false, true, false, false, true, false] rfl rfl (any_of HT_.out (by kernel_rfl)) (fun _ _ _ h => h) (Or.inl ⟨by rfl, ?_⟩) ?_ ?_
                    rotate_left
                    · intro w'
                      go_simp
                      with_reducible rfl
                    rotate_left
                    · simp only [Act.put, List.setIfInBounds_toArray, List.set_cons_zero, List.set_cons_succ, i64_w, i32_w]
                      rfl
                    refine take_ (i := 10) (N := some 16) (v := ?_) (a' := ?_) #[true, true, true, true, true, true, true, true, true, true, true, true, false, false, true, false] rfl rfl (take_ofW HT_.out HW_.out (by kernel_rfl)) (fun _ _ _ h => h) (Or.inl ⟨by rfl, ?_⟩) hHeld ?_ ?_
                    rotate_left
                    · rintro w' ⟨s0, s1, s2, s3, s4, s5⟩
                      go_simp
                      with_reducible rfl
                    rotate_left
                    · simp only [Act.put, List.setIfInBounds_toArray, List.set_cons_zero, List.set_cons_succ, i64_w, i32_w]
                      rfl
                    refine pure_ (i := 12) (N := some 18) (v := ?_) (a' := ?_) #[true, true, true, true, true, true, true, true, true, true, true, true, true, false, true, false] rfl rfl (any_of HT_.out (by kernel_rfl)) (fun _ _ _ h => h) (Or.inl ⟨by rfl, ?_⟩) ?_ ?_
                    rotate_left
                    · intro w'
                      go_simp
                      with_reducible rfl
                    rotate_left
                    · simp only [Act.put, List.setIfInBounds_toArray, List.set_cons_zero, List.set_cons_succ, i64_w, i32_w]
                      rfl
                    refine take_ (i := 13) (N := some 19) (v := ?_) (a' := ?_) #[true, true, true, true, true, true, true, true, true, true, true, true, true, true, true, false] rfl rfl (take_ofW HT_.out HW_.out (by kernel_rfl)) (fun _ _ _ h => h) (Or.inl ⟨by rfl, ?_⟩) hHeld ?_ ?_
                    rotate_left
                    · rintro w' ⟨s0, s1, s2, s3, s4, s5⟩
                      go_simp
                      with_reducible rfl
                    rotate_left
                    · simp only [Act.put, List.setIfInBounds_toArray, List.set_cons_zero, List.set_cons_succ, i64_w, i32_w]
                      rfl
                    refine pure_ (i := 15) (N := some 5) (v := ?_) (a' := ?_) #[true, true, true, true, true, true, true, true, true, true, true, true, true, true, true, true] rfl rfl (any_of HT_.out (by kernel_rfl)) (fun _ _ _ h => h) (Or.inl ⟨by rfl, ?_⟩) ?_ ?_
                    rotate_left
                    · intro w'
                      go_simp
                      with_reducible rfl
                    rotate_left
                    · simp only [Act.put, List.setIfInBounds_toArray, List.set_cons_zero, List.set_cons_succ, i64_w, i32_w]
                      rfl
                    refine done_ (done_of HT_.out (by kernel_rfl)) ?_
                    obtain ⟨hcz62_0, hcz62_1, hcz62_2, hcz62_3, hfz62_0, hfz62_1, hfz62_2, hfz62_3⟩ := bk4 BK296.out
                    try go_wp2_with (first | ((with_reducible refine gate_store (t := 3) (p := 25) rfl ?_); refine store_event (t := 3) (p := 25) (v := ?vo_w63) (w1 := (w61.setCell ⟨gb296, 2, none⟩ (.int .i64 (rd t291 a1)))) ?hg ?ho ?hn ?hr ?_; (case ho => rfl); (case hg => rfl); (case hn => rfl); (case hr => first | (go_simp; done) | (go_simp; rfl)); intro w63 hw; have n0_ : Aside0 (Kd.R (Kd.int .i64) 3 w63 w.heap.size (fun k_ => some k_ ≠ (.slice (some ad298) t291.length co59 : Value).ownBlock) (.slice (some ad297) t288.length co55) t288) := ⟨(by rw [hw]; exact (Kd.pR (Kd.R_mono (Kd.R_far (p := ⟨gb296, 2, none⟩) (Kd.R_types HO290.out BK296.out (by decide)) (fun _ hk => hk.2) (.int .i64 (rd t291 a1))) (fun _ hk => hk.1))))⟩; have n1_ : Aside0 (Kd.R (Kd.int .i64) 3 w63 w.heap.size (fun k_ => some k_ ≠ (.slice (some ad297) t288.length co55 : Value).ownBlock) (.slice (some ad298) t291.length co59) t291) := ⟨(by rw [hw]; exact (Kd.pR (Kd.R_mono (Kd.R_far (p := ⟨gb296, 2, none⟩) (Kd.R_types HO293.out BK296.out (by decide)) (fun _ hk => hk.2) (.int .i64 (rd t291 a1))) (fun _ hk => hk.1))))⟩; have n2_ : Aside0 (w63.heap[gb284]? = some (.cells #[.slice A0_0 l0_0.length c0_0, .slice A0_1 l0_1.length c0_1, .int .i64 a0_2, .int .i64 a0_3] 24 (0, 0))) := ⟨(by rw [hw]; exact (by (with_reducible repeat (first | refine blk_drewN ?_ _ | refine blk_drew ?_ | refine blk_alloc ?_ _)); refine blk_far ?_ NB284_296.out _; (with_reducible repeat (first | refine blk_drewN ?_ _ | refine blk_drew ?_ | refine blk_alloc ?_ _)); exact BK284.out))⟩; have n3_ : Aside0 (w63.heap[gb285]? = some (.cells #[.slice none 0 0, .slice none 0 0, .int .i64 0, .int .i64 0] 24 (0, 0))) := ⟨(by rw [hw]; exact (by (with_reducible repeat (first | refine blk_drewN ?_ _ | refine blk_drew ?_ | refine blk_alloc ?_ _)); refine blk_far ?_ NB285_296.out _; (with_reducible repeat (first | refine blk_drewN ?_ _ | refine blk_drew ?_ | refine blk_alloc ?_ _)); exact BK285.out))⟩; have n4_ : Aside0 (w63.heap[gb296]? = some (.cells #[.slice (some ad297) t288.length co55, .slice (some ad298) t291.length co59, .int .i64 (rd t291 a1), .int .i64 t295] 24 (0, 0))) := ⟨(by rw [hw]; exact (by (with_reducible repeat (first | refine blk_drewN ?_ _ | refine blk_drew ?_ | refine blk_alloc ?_ _)); refine blk_put (cs := #[.slice (some ad297) t288.length co55, .slice (some ad298) t291.length co59, .int .i64 t294, .int .i64 t295]) ?_ 2 _ rfl; (with_reducible repeat (first | refine blk_drewN ?_ _ | refine blk_drew ?_ | refine blk_alloc ?_ _)); exact BK296.out))⟩; have n5_ : Aside0 (Below w.heap.size w w63) := ⟨(by rw [hw]; exact (pB HB.out))⟩; clear hw; clear HO290; clear HO293; clear BK284; clear BK285; clear BK296; clear HB; have HO290 := n0_; have HO293 := n1_; have BK284 := n2_; have BK285 := n3_; have BK296 := n4_; have HB := n5_; clear n0_ n1_ n2_ n3_ n4_ n5_; obtain ⟨hcz64_0, hcz64_1, hcz64_2, hcz64_3, hfz64_0, hfz64_1, hfz64_2, hfz64_3⟩ := bk4 BK296.out; have p42 : 0 ≤ ((rd t291 a1) : Int) := od; have q42 : ((rd t291 a1) : Int) < ((t288.length : Int) : Int) := od; obtain ⟨go42, co42, eo42, gb42, gl42, cl42, HG42⟩ := Kd.R_form HO290.out (by omega); (first | cases eo42 | (injection eo42 with ea_ en_ ec_; (first | subst ea_ | (injection ea_ with ea_; subst ea_)); subst ec_; clear en_)); have GB42 := Aside0.mk gb42; have GG42 := Aside0.mk HG42; clear gb42 gl42 HG42; (first | simp only [add_plain] at hx297_0 | skip); obtain ⟨hx42_0, hf42_0⟩ := Kd.R_celln 0 HO290.out ((rd t291 a1) : Int) p42 q42; replace p42 := eq_true p42; replace q42 := eq_true q42; obtain ⟨hy65_, hz65_⟩ := Kd.R_celln 0 HO290.out ((rd t291 a1) : Int) od od; have HP65 := Kd.R_putg HO290.out ((rd t291 a1) : Int) (rd t288 a1)) | ((with_reducible refine gate_store (t := 3) (p := 45) rfl ?_); refine store_event (t := 3) (p := 45) (v := ?vo_w66) (w1 := (w63.setCell ⟨go42, ((rd t291 a1) : Int).toNat, none⟩ (.int .i64 (rd t288 a1)))) ?hg ?ho ?hn ?hr ?_; (case ho => rfl); (case hg => rfl); (case hn => rfl); (case hr => first | (go_simp; done) | (go_simp; rfl)); intro w66 hw; have hg : w63.grownBy w66 (some go42) := (by rw [hw]; exact HP65.2); have hp_ : Kd.R (Kd.int .i64) 3 w66 w.heap.size (fun k_ => some k_ ≠ (.slice (some ad298) t291.length co59 : Value).ownBlock) (.slice (some ⟨go42, 0, none⟩) t288.length co55) y301 := (by rw [hw, Ny301.out]; exact HP65.1); (try clear HP65); have n0_ := Aside0.mk (blk_grown (pK BK284.out) hg (Kd.R_ne HO290.out BK284.out (by decide))); have n1_ := Aside0.mk (blk_grown (pK BK285.out) hg (Kd.R_ne HO290.out BK285.out (by decide))); have n2_ := Aside0.mk (hp_); have n3_ := Aside0.mk (Kd.R_after (v := (.slice (some ⟨go42, 0, none⟩) t288.length co55)) (v1 := (.slice (some ⟨go42, 0, none⟩) t288.length co55)) (ok := (fun _ => True)) (Kd.pR (Kd.R_mono HO293.out (fun _ hk => ⟨trivial, hk⟩))) hg (.inl rfl)); have n4_ := Aside0.mk (blk_grown (pK BK296.out) hg (Kd.R_ne HO290.out BK296.out (by decide))); have n5_ := Aside0.mk ((by rw [hw]; exact below_set (HB.out) GB42.out : Below w.heap.size w w66)); clear BK284; clear BK285; clear HO290; clear HO293; clear BK296; clear HB; have BK284 := n0_; have BK285 := n1_; have HO290 := n2_; have HO293 := n3_; have BK296 := n4_; have HB := n5_; clear n0_ n1_ n2_ n3_ n4_ n5_; clear hg hw hp_))
                    have n0_ := Aside0.mk (Kd.R_drew HO290.out)
                    have n1_ := Aside0.mk (Kd.R_drew HO293.out)
                    have n2_ := Aside0.mk (blk_drew BK284.out)
                    have n3_ := Aside0.mk (blk_drew BK285.out)
                    have n4_ := Aside0.mk (blk_drew BK296.out)
                    have n5_ := Aside0.mk (below_drew1 HB.out)
                    clear HO290
                    clear HO293
                    clear BK284
                    clear BK285
                    clear BK296
                    clear HB
                    have HO290 := n0_
                    have HO293 := n1_
                    have BK284 := n2_
                    have BK285 := n3_
                    have BK296 := n4_
                    have HB := n5_
                    clear n0_ n1_ n2_ n3_ n4_ n5_
                    have p43 : 0 ≤ (a1 : Int) := od
                    have q43 : (a1 : Int) < ((t288.length : Int) : Int) := od
                    obtain ⟨hx43_0, hf43_0⟩ := Kd.R_celln 0 HO290.out (a1 : Int) p43 q43
                    replace p43 := eq_true p43
                    replace q43 := eq_true q43
                    have HP68 := Kd.R_putn HO290.out (a1 : Int) (-1)
                    rw [← Ny302.out] at HP68
                    have HQ68 := Aside0.mk HP68
                    (try clear HP68)
                    have p44 : 0 ≤ (a1 : Int) := od
                    have q44 : (a1 : Int) < ((t291.length : Int) : Int) := od
                    obtain ⟨go44, co44, eo44, gb44, gl44, cl44, HG44⟩ := Kd.R_form HO293.out (by omega)
                    (first | cases eo44 | (injection eo44 with ea_ en_ ec_; (first | subst ea_ | (injection ea_ with ea_; subst ea_)); subst ec_; clear en_))
                    have GB44 := Aside0.mk gb44
                    have GG44 := Aside0.mk HG44
                    clear gb44 gl44 HG44
                    (first | simp only [add_plain] at hx298_0 | skip)
                    obtain ⟨hx44_0, hf44_0⟩ := Kd.R_celln 0 (Kd.R_far (p := ⟨go42, (a1 : Int).toNat, none⟩) (Kd.R_mono HO293.out (fun k_ hk => (⟨hk, fun e_ => hk.2 (by rw [e_]; rfl)⟩ : _ ∧ k_ ≠ go42))) (fun _ hk => hk.2) (.int .i64 (-1))) (a1 : Int) p44 q44
                    replace p44 := eq_true p44
                    replace q44 := eq_true q44
                    have HP69 := Kd.R_putn (Kd.R_far (p := ⟨go42, (a1 : Int).toNat, none⟩) (Kd.R_mono HO293.out (fun k_ hk => (⟨hk, fun e_ => hk.2 (by rw [e_]; rfl)⟩ : _ ∧ k_ ≠ go42))) (fun _ hk => hk.2) (.int .i64 (-1))) (a1 : Int) (-1)
                    rw [← Ny303.out] at HP69
                    have HQ69 := Aside0.mk HP69
                    (try clear HP69)
                    refine start_ (n := 14) (S := fun w' => w'.cell? ⟨gb296, 0, none⟩ = some (.slice (some ⟨go42, 0, none⟩) t288.length co55) ∧ w'.cell? ⟨gb296, 1, none⟩ = some (.slice (some ⟨go44, 0, none⟩) t291.length co59) ∧ w'.cell? ⟨gb296, 2, none⟩ = some (.int .i64 (rd t291 a1)) ∧ w'.cell? ⟨gb296, 3, none⟩ = some (.int .i64 t295)) (ds := [11, 13]) #[false, false, false, false, false, false, false, false, false, false, false, false, false, false] (by kernel_rfl) rfl rfl ⟨(blk_cell BK296.out 0).trans rfl, (blk_cell BK296.out 1).trans rfl, (blk_cell BK296.out 2).trans rfl, (blk_cell BK296.out 3).trans rfl⟩ (fun hHeld => ?_); refine with_tabW lru_Remove.tab34007 lru_Remove.bits34007 (fun HT_ HW_ => ?_)
                    generalize w66.drew = w67 at HO290 HO293 BK284 BK285 BK296 HB GG44 HQ68 HQ69 hf43_0 hf44_0 hx298_0 hx43_0 hx44_0 hHeld ⊢
                    refine pure_ (i := 0) (N := some 46) (v := ?_) (a' := ?_) #[true, false, false, false, false, false, false, false, false, false, false, false, false, false] rfl rfl (any_of HT_.out (by kernel_rfl)) (fun _ _ _ h => h) (Or.inl ⟨by rfl, ?_⟩) ?_ ?_
                    rotate_left
                    · intro w'
                      go_simp
                      with_reducible rfl
                    rotate_left
                    · simp only [Act.put, List.setIfInBounds_toArray, List.set_cons_zero, List.set_cons_succ, i64_w, i32_w]
                      rfl
                    refine pure_ (i := 1) (N := some 47) (v := ?_) (a' := ?_) #[true, true, false, false, false, false, false, false, false, false, false, false, false, false] rfl rfl (any_of HT_.out (by kernel_rfl)) (fun _ _ _ h => h) (Or.inl ⟨by rfl, ?_⟩) ?_ ?_
                    rotate_left
                    · intro w'
                      go_simp
                      with_reducible rfl
                    rotate_left
                    · simp only [Act.put, List.setIfInBounds_toArray, List.set_cons_zero, List.set_cons_succ, i64_w, i32_w]
                      rfl
                    refine pure_ (i := 2) (N := some 48) (v := ?_) (a' := ?_) #[true, true, true, false, false, false, false, false, false, false, false, false, false, false] rfl rfl (any_of HT_.out (by kernel_rfl)) (fun _ _ _ h => h) (Or.inl ⟨by rfl, ?_⟩) ?_ ?_
                    rotate_left
                    · intro w'
                      go_simp
                      with_reducible rfl
                    rotate_left
                    · simp only [Act.put, List.setIfInBounds_toArray, List.set_cons_zero, List.set_cons_succ, i64_w, i32_w]
                      rfl
                    refine pure_ (i := 4) (N := some 50) (v := ?_) (a' := ?_) #[true, true, true, false, true, false, false, false, false, false, false, false, false, false] rfl rfl (any_of HT_.out (by kernel_rfl)) (fun _ _ _ h => h) (Or.inl ⟨by rfl, ?_⟩) ?_ ?_
                    rotate_left
                    · intro w'
                      go_simp
                      with_reducible rfl
                    rotate_left
                    · simp only [Act.put, List.setIfInBounds_toArray, List.set_cons_zero, List.set_cons_succ, i64_w, i32_w]
                      rfl
                    refine pure_ (i := 5) (N := some 51) (v := ?_) (a' := ?_) #[true, true, true, false, true, true, false, false, false, false, false, false, false, false] rfl rfl (any_of HT_.out (by kernel_rfl)) (fun _ _ _ h => h) (Or.inl ⟨by rfl, ?_⟩) ?_ ?_
                    rotate_left
                    · intro w'
                      go_simp
                      with_reducible rfl
                    rotate_left
                    · simp only [Act.put, List.setIfInBounds_toArray, List.set_cons_zero, List.set_cons_succ, i64_w, i32_w]
                      rfl
                    refine pure_ (i := 6) (N := some 52) (v := ?_) (a' := ?_) #[true, true, true, false, true, true, true, false, false, false, false, false, false, false] rfl rfl (any_of HT_.out (by kernel_rfl)) (fun _ _ _ h => h) (Or.inl ⟨by rfl, ?_⟩) ?_ ?_
                    rotate_left
                    · intro w'
                      go_simp
                      with_reducible rfl
                    rotate_left
                    · simp only [Act.put, List.setIfInBounds_toArray, List.set_cons_zero, List.set_cons_succ, i64_w, i32_w]
                      rfl
                    refine pure_ (i := 7) (N := some 53) (v := ?_) (a' := ?_) #[true, true, true, false, true, true, true, true, false, false, false, false, false, false] rfl rfl (any_of HT_.out (by kernel_rfl)) (fun _ _ _ h => h) (Or.inl ⟨by rfl, ?_⟩) ?_ ?_
                    rotate_left
                    · intro w'
                      go_simp
                      with_reducible rfl
                    rotate_left
                    · simp only [Act.put, List.setIfInBounds_toArray, List.set_cons_zero, List.set_cons_succ, i64_w, i32_w]
                      rfl
                    refine pure_ (i := 9) (N := some 55) (v := ?_) (a' := ?_) #[true, true, true, false, true, true, true, true, false, true, false, false, false, false] rfl rfl (any_of HT_.out (by kernel_rfl)) (fun _ _ _ h => h) (Or.inl ⟨by rfl, ?_⟩) ?_ ?_
                    rotate_left
                    · intro w'
                      go_simp
                      with_reducible rfl
                    rotate_left
                    · simp only [Act.put, List.setIfInBounds_toArray, List.set_cons_zero, List.set_cons_succ, i64_w, i32_w]
                      rfl
                    refine take_ (i := 3) (N := some 49) (v := ?_) (a' := ?_) #[true, true, true, true, true, true, true, true, false, true, false, false, false, false] rfl rfl (take_ofW HT_.out HW_.out (by kernel_rfl)) (fun _ _ _ h => h) (Or.inl ⟨by rfl, ?_⟩) hHeld ?_ ?_
                    rotate_left
                    · rintro w' ⟨s0, s1, s2, s3⟩
                      go_simp
                      with_reducible rfl
                    rotate_left
                    · simp only [Act.put, List.setIfInBounds_toArray, List.set_cons_zero, List.set_cons_succ, i64_w, i32_w]
                      rfl
                    refine take_ (i := 8) (N := some 54) (v := ?_) (a' := ?_) #[true, true, true, true, true, true, true, true, true, true, false, false, false, false] rfl rfl (take_ofW HT_.out HW_.out (by kernel_rfl)) (fun _ _ _ h => h) (Or.inl ⟨by rfl, ?_⟩) hHeld ?_ ?_
                    rotate_left
                    · rintro w' ⟨s0, s1, s2, s3⟩
                      go_simp
                      with_reducible rfl
                    rotate_left
                    · simp only [Act.put, List.setIfInBounds_toArray, List.set_cons_zero, List.set_cons_succ, i64_w, i32_w]
                      rfl
                    refine pure_ (i := 10) (N := some 56) (v := ?_) (a' := ?_) #[true, true, true, true, true, true, true, true, true, true, true, false, false, false] rfl rfl (any_of HT_.out (by kernel_rfl)) (fun _ _ _ h => h) (Or.inl ⟨by rfl, ?_⟩) ?_ ?_
                    rotate_left
                    · intro w'
                      go_simp
                      with_reducible rfl
                    rotate_left
                    · simp only [Act.put, List.setIfInBounds_toArray, List.set_cons_zero, List.set_cons_succ, i64_w, i32_w]
                      rfl
                    refine last_ (i := 11) (N := none) #[true, true, true, true, true, true, true, true, true, true, true, true, false, false] rfl rfl (one_of HT_.out (by kernel_rfl)) (by decide) (fun K hK => ?_)
                    refine skip_ (w1 := ?_) (by rfl) rfl ?_ ?_
                    rotate_left
                    · go_simp
                      rfl
                    refine hK.out _ _ ?_
                    clear hK K
                    refine pure_ (i := 12) (N := some 57) (v := ?_) (a' := ?_) #[true, true, true, true, true, true, true, true, true, true, true, true, true, false] rfl rfl (any_of HT_.out (by kernel_rfl)) (fun _ _ _ h => h) (Or.inl ⟨by rfl, ?_⟩) ?_ ?_
                    rotate_left
                    · intro w'
                      go_simp
                      with_reducible rfl
                    rotate_left
                    · simp only [Act.put, List.setIfInBounds_toArray, List.set_cons_zero, List.set_cons_succ, i64_w, i32_w]
                      rfl
                    refine last_ (i := 13) (N := none) #[true, true, true, true, true, true, true, true, true, true, true, true, true, true] rfl rfl (one_of HT_.out (by kernel_rfl)) (by decide) (fun K hK => ?_)
                    refine skip_ (w1 := ?_) (by rfl) rfl ?_ ?_
                    rotate_left
                    · go_simp
                      rfl
                    refine hK.out _ _ ?_
                    clear hK K
                    refine done_ (done_of HT_.out (by kernel_rfl)) ?_
                    have n0_ : Aside0 (Kd.R (Kd.int .i64) 3 ((w67.setCell ⟨go42, (a1 : Int).toNat, none⟩ (.int .i64 (-1))).setCell ⟨go44, (a1 : Int).toNat, none⟩ (.int .i64 (-1))) w.heap.size (fun k_ => some k_ ≠ (.slice (some ⟨go44, 0, none⟩) t291.length co59 : Value).ownBlock) (.slice (some ⟨go42, 0, none⟩) t288.length co55) y302) := ⟨Kd.pR (Kd.R_mono (Kd.R_far (p := ⟨go44, (a1 : Int).toNat, none⟩) (Kd.R_mono HQ68.out (fun k_ hk => (⟨hk, fun e_ => hk (by rw [e_]; rfl)⟩ : _ ∧ k_ ≠ go44))) (fun _ hk => hk.2) (.int .i64 (-1))) (fun _ hk => hk.1))⟩
                    have n1_ : Aside0 (Kd.R (Kd.int .i64) 3 ((w67.setCell ⟨go42, (a1 : Int).toNat, none⟩ (.int .i64 (-1))).setCell ⟨go44, (a1 : Int).toNat, none⟩ (.int .i64 (-1))) w.heap.size (fun k_ => some k_ ≠ (.slice (some ⟨go42, 0, none⟩) t288.length co55 : Value).ownBlock) (.slice (some ⟨go44, 0, none⟩) t291.length co59) y303) := ⟨Kd.pR (Kd.R_mono HQ69.out (fun _ hk => hk.1.2))⟩
                    have n3_ : Aside0 (((w67.setCell ⟨go42, (a1 : Int).toNat, none⟩ (.int .i64 (-1))).setCell ⟨go44, (a1 : Int).toNat, none⟩ (.int .i64 (-1))).heap[gb285]? = some (.cells #[.slice none 0 0, .slice none 0 0, .int .i64 0, .int .i64 0] 24 (0, 0))) := ⟨by (with_reducible repeat (first | refine blk_drewN ?_ _ | refine blk_drew ?_ | refine blk_alloc ?_ _)); refine blk_far ?_ (by have h_ := Kd.R_ne HO293.out BK285.out (by decide); intro e_; exact h_ (by rw [e_]; rfl)) _; (with_reducible repeat (first | refine blk_drewN ?_ _ | refine blk_drew ?_ | refine blk_alloc ?_ _)); refine blk_far ?_ (by have h_ := Kd.R_ne HO290.out BK285.out (by decide); intro e_; exact h_ (by rw [e_]; rfl)) _; (with_reducible repeat (first | refine blk_drewN ?_ _ | refine blk_drew ?_ | refine blk_alloc ?_ _)); exact BK285.out⟩
                    have n4_ : Aside0 (((w67.setCell ⟨go42, (a1 : Int).toNat, none⟩ (.int .i64 (-1))).setCell ⟨go44, (a1 : Int).toNat, none⟩ (.int .i64 (-1))).heap[gb296]? = some (.cells #[.slice (some ⟨go42, 0, none⟩) t288.length co55, .slice (some ⟨go44, 0, none⟩) t291.length co59, .int .i64 (rd t291 a1), .int .i64 t295] 24 (0, 0))) := ⟨by (with_reducible repeat (first | refine blk_drewN ?_ _ | refine blk_drew ?_ | refine blk_alloc ?_ _)); refine blk_far ?_ (by have h_ := Kd.R_ne HO293.out BK296.out (by decide); intro e_; exact h_ (by rw [e_]; rfl)) _; (with_reducible repeat (first | refine blk_drewN ?_ _ | refine blk_drew ?_ | refine blk_alloc ?_ _)); refine blk_far ?_ (by have h_ := Kd.R_ne HO290.out BK296.out (by decide); intro e_; exact h_ (by rw [e_]; rfl)) _; (with_reducible repeat (first | refine blk_drewN ?_ _ | refine blk_drew ?_ | refine blk_alloc ?_ _)); exact BK296.out⟩
                    have n5_ : Aside0 (Below w.heap.size w ((w67.setCell ⟨go42, (a1 : Int).toNat, none⟩ (.int .i64 (-1))).setCell ⟨go44, (a1 : Int).toNat, none⟩ (.int .i64 (-1)))) := ⟨by repeat (first | (with_reducible first | exact HB.out | apply below_alloc | apply pw_below_drewN | apply below_drew1 | refine below_set ?_ GB42.out | refine below_set ?_ GB44.out | refine below_set ?_ GE284.out | refine below_set ?_ GE285.out | refine below_set ?_ GE296.out) | exact HB.out)⟩
                    (try clear HO290)
                    (try clear HO293)
                    (try clear BK284)
                    (try clear BK285)
                    (try clear BK296)
                    (try clear HB)
                    generalize ((w67.setCell ⟨go42, (a1 : Int).toNat, none⟩ (.int .i64 (-1))).setCell ⟨go44, (a1 : Int).toNat, none⟩ (.int .i64 (-1))) = w70 at n0_ n1_ n3_ n4_ n5_ ⊢
                    have HO290 := n0_
                    have HO293 := n1_
                    have BK285 := n3_
                    have BK296 := n4_
                    have HB := n5_
                    clear n0_ n1_ n3_ n4_ n5_
                    try go_wp2_with (first | ((try simp only [Exit.inBlock, Exit.then]); refine bodyPost_end (results_none rfl _ _ _) rfl ?_; refine ⟨_, rfl, ?_⟩; obtain ⟨hcz71_0, hcz71_1, hcz71_2, hcz71_3, hfz71_0, hfz71_1, hfz71_2, hfz71_3⟩ := bk4 BK296.out; obtain ⟨hcz72_0, hcz72_1, hcz72_2, hcz72_3, hfz72_0, hfz72_1, hfz72_2, hfz72_3⟩ := bk4 BK285.out))
                    refine bodyPost_ret (results_ct rfl _ _ gb285 24 #[.slice (some ⟨go42, 0, none⟩) t288.length co55, .slice (some ⟨go44, 0, none⟩) t291.length co59, .int .i64 (rd t291 a1), .int .i64 t295] (0, 0) _ rfl (by (with_reducible repeat (first | refine blk_drewN ?_ _ | refine blk_drew ?_ | refine blk_alloc ?_ _)); refine blk_put (cs := #[.slice (some ⟨go42, 0, none⟩) t288.length co55, .slice (some ⟨go44, 0, none⟩) t291.length co59, .int .i64 (rd t291 a1), .int .i64 0]) ?_ 3 _ rfl; (with_reducible repeat (first | refine blk_drewN ?_ _ | refine blk_drew ?_ | refine blk_alloc ?_ _)); refine blk_put (cs := #[.slice (some ⟨go42, 0, none⟩) t288.length co55, .slice (some ⟨go44, 0, none⟩) t291.length co59, .int .i64 0, .int .i64 0]) ?_ 2 _ rfl; (with_reducible repeat (first | refine blk_drewN ?_ _ | refine blk_drew ?_ | refine blk_alloc ?_ _)); refine blk_put (cs := #[.slice (some ⟨go42, 0, none⟩) t288.length co55, .slice none 0 0, .int .i64 0, .int .i64 0]) ?_ 1 _ rfl; (with_reducible repeat (first | refine blk_drewN ?_ _ | refine blk_drew ?_ | refine blk_alloc ?_ _)); refine blk_put (cs := #[.slice none 0 0, .slice none 0 0, .int .i64 0, .int .i64 0]) ?_ 0 _ rfl; (with_reducible repeat (first | refine blk_drewN ?_ _ | refine blk_drew ?_ | refine blk_alloc ?_ _)); exact BK285.out) Try.underlying24 rfl (by kernel_rfl)) rfl ?_
                    exact ⟨_, _, by first | rfl | (simp [errW_none, errW_some] <;> rfl) | (simp [*, errW_none, errW_some] <;> rfl), Kd.pR (Kd.R_mono (Kd.R_far (p := ⟨gb285, 3, none⟩) (Kd.R_far (p := ⟨gb285, 2, none⟩) (Kd.R_far (p := ⟨gb285, 1, none⟩) (Kd.R_far (p := ⟨gb285, 0, none⟩) (Kd.R_types HO290.out BK285.out (by decide)) (fun _ hk => hk.2) (.slice (some ⟨go42, 0, none⟩) t288.length co55)) (fun _ hk => hk.2) (.slice (some ⟨go44, 0, none⟩) t291.length co59)) (fun _ hk => hk.2) (.int .i64 (rd t291 a1))) (fun _ hk => hk.2) (.int .i64 t295)) (fun _ hk => hk.1)), Kd.pR (Kd.R_mono (Kd.R_far (p := ⟨gb285, 3, none⟩) (Kd.R_far (p := ⟨gb285, 2, none⟩) (Kd.R_far (p := ⟨gb285, 1, none⟩) (Kd.R_far (p := ⟨gb285, 0, none⟩) (Kd.R_types HO293.out BK285.out (by decide)) (fun _ hk => hk.2) (.slice (some ⟨go42, 0, none⟩) t288.length co55)) (fun _ hk => hk.2) (.slice (some ⟨go44, 0, none⟩) t291.length co59)) (fun _ hk => hk.2) (.int .i64 (rd t291 a1))) (fun _ hk => hk.2) (.int .i64 t295)) (fun _ hk => hk.1)), pB HB.out⟩
                  · rw [if_neg c41] at H
                    exact absurd H (by simp)
                · rw [if_neg c40] at H
                  exact absurd H (by simp)
            · rw [if_neg c11] at H
              have c11b0 : ((rd t288 a1) == (-1)) = false := beq_eq_false_iff_ne.mpr c11
              have c11b1 : ((rd t288 a1) != (-1)) = true := bne_iff_ne.mpr c11
              by_cases c73 : 0 ≤ (rd t288 a1)
              · rw [if_pos c73] at H
                have c73b0 : decide (0 ≤ (rd t288 a1)) = true := decide_eq_true c73
                clear c73
                by_cases c74 : (rd t288 a1) < (t291.length : Int)
                · rw [if_pos c74] at H
                  have c74b0 : decide ((rd t288 a1) < (t291.length : Int)) = true := decide_eq_true c74
                  clear c74
                  obtain ⟨y304, hy304⟩ : ∃ y_ : List Int, y_ = (t291.set ((rd t288 a1) : Int).toNat (rd t291 a1)) := ⟨_, rfl⟩
                  replace H : (if (rd t291 a1) = (-1) then (some ((t288.set (a1 : Int).toNat (-1)), (y304.set (a1 : Int).toNat (-1)), t294, rd t288 a1, 0)) else (if 0 ≤ (rd t291 a1) then (if (rd t291 a1) < (t288.length : Int) then (some (((t288.set ((rd t291 a1) : Int).toNat (rd t288 a1)).set (a1 : Int).toNat (-1)), (y304.set (a1 : Int).toNat (-1)), t294, t295, 0)) else (none)) else (none))) = some (r1, r2, r3, r4, r5) := by first | (rw [hy304]; with_reducible exact H) | (have H2_ := (Option.bind_some _ _).symm.trans H; rw [hy304]; with_reducible exact H2_) | (have H2_ := (Option.bind_some _ _).symm.trans H; with_reducible exact H2_) | with_reducible exact H | (rw [hy304]; exact H) | exact H
                  have Ny304 := Aside0.mk hy304
                  (try clear hy304)
                  by_cases c76 : (rd t291 a1) = (-1)
                  · rw [if_pos c76] at H
                    have c76b0 : ((rd t291 a1) == (-1)) = true := beq_iff_eq.mpr c76
                    have c76b1 : ((rd t291 a1) != (-1)) = false := bne_eq_false_iff_eq.mpr c76
                    clear c76
                    obtain ⟨y305, hy305⟩ : ∃ y_ : List Int, y_ = (t288.set (a1 : Int).toNat (-1)) := ⟨_, rfl⟩
                    replace H : (some (y305, (y304.set (a1 : Int).toNat (-1)), t294, rd t288 a1, 0)) = some (r1, r2, r3, r4, r5) := by first | (rw [hy305]; with_reducible exact H) | (have H2_ := (Option.bind_some _ _).symm.trans H; rw [hy305]; with_reducible exact H2_) | (have H2_ := (Option.bind_some _ _).symm.trans H; with_reducible exact H2_) | with_reducible exact H | (rw [hy305]; exact H) | exact H
                    have Ny305 := Aside0.mk hy305
                    (try clear hy305)
                    obtain ⟨y306, hy306⟩ : ∃ y_ : List Int, y_ = (y304.set (a1 : Int).toNat (-1)) := ⟨_, rfl⟩
                    replace H : (some (y305, y306, t294, rd t288 a1, 0)) = some (r1, r2, r3, r4, r5) := by first | (rw [hy306]; with_reducible exact H) | (have H2_ := (Option.bind_some _ _).symm.trans H; rw [hy306]; with_reducible exact H2_) | (have H2_ := (Option.bind_some _ _).symm.trans H; with_reducible exact H2_) | with_reducible exact H | (rw [hy306]; exact H) | exact H
                    have Ny306 := Aside0.mk hy306
                    (try clear hy306)
                    simp only [Option.some.injEq, Prod.mk.injEq] at H
                    obtain ⟨rfl, rfl, rfl, rfl, rfl⟩ := H
                    go_enter Try.func14, Try.ntmps14
                    try go_wp2_with (first | ((with_reducible refine gate_dst (N := 2) rfl ?_); refine boxE (N := 2) (cs := #[.slice A0_0 l0_0.length c0_0, .slice A0_1 l0_1.length c0_1, .int .i64 a0_2, .int .i64 a0_3]) (t := 24) ?_; intro gb284 hg w79 hbox hb; have n0_ := Aside0.mk (below_step (pB HB.out) hb); have n1_ := Aside0.mk (hbox); have n3_ := Aside0.mk (pL HB.out hg); clear HB; have HB := n0_; have BK284 := n1_; have GE284 := n3_; clear n0_ n1_ n3_; clear hb hbox hg) | ((with_reducible refine gate_dst (N := 4) rfl ?_); refine boxE (N := 4) (cs := #[.slice none 0 0, .slice none 0 0, .int .i64 0, .int .i64 0]) (t := 24) ?_; intro gb285 hg w80 hbox hb; have n0_ := Aside0.mk (blk_below (pK BK284.out) hb); have n1_ := Aside0.mk (below_step (pB HB.out) hb); have n2_ := Aside0.mk (hbox); have n4_ := Aside0.mk (pL HB.out hg); have n5_ := Aside0.mk (pNl BK284.out hg); have n6_ := Aside0.mk (pNg BK284.out hg); clear BK284; clear HB; have BK284 := n0_; have HB := n1_; have BK285 := n2_; have GE285 := n4_; have NB284_285 := n5_; have NB285_284 := n6_; clear n0_ n1_ n2_ n4_ n5_ n6_; clear hb hbox hg; have hnb81 := NB284_285.out; have hnc81 := NB285_284.out; obtain ⟨hcz82_0, hcz82_1, hcz82_2, hcz82_3, hfz82_0, hfz82_1, hfz82_2, hfz82_3⟩ := bk4 BK284.out) | ((with_reducible refine gate_callee (f := 31) rfl ?_); refine goesE (some 10) rfl rfl Try.func31 (by kernel_rfl) rfl #[.agg #[.slice A0_0 l0_0.length c0_0, .slice A0_1 l0_1.length c0_1, .int .i64 a0_2, .int .i64 a0_3], .int .i64 a1] rfl ?_; (with_reducible refine (lru_check.calls k _ _ l0_0 _ _ l0_1 a0_2 a0_3 a1 t286 _ ?side1 ?side2 ?side3 ?side4 A3.out).mono ?_); (case side1 => exact Kd.pC ((Kd.C_below HR0_0.out HB.out))); (case side2 => exact HC0_0.out); (case side3 => exact Kd.pC ((Kd.C_below HR0_1.out HB.out))); (case side4 => exact HC0_1.out); rintro e w83 ⟨rfl, hb⟩; refine ⟨_, rfl, ?_⟩; have n0_ := Aside0.mk (blk_below (pK BK284.out) hb); have n1_ := Aside0.mk (blk_below (pK BK285.out) hb); have n2_ := Aside0.mk (below_step (pB HB.out) hb); clear BK284; clear BK285; clear HB; have BK284 := n0_; have BK285 := n1_; have HB := n2_; clear n0_ n1_ n2_; (try clear hb); (try clear hb2); (try clear hk); (try clear hi); obtain ⟨hcz84_0, hcz84_1, hcz84_2, hcz84_3, hfz84_0, hfz84_1, hfz84_2, hfz84_3⟩ := bk4 BK284.out) | ((with_reducible refine gate_callee (f := 33) rfl ?_); refine goesE (some 17) rfl rfl Try.func33 (by kernel_rfl) rfl #[.agg #[.slice A0_0 l0_0.length c0_0, .slice A0_1 l0_1.length c0_1, .int .i64 a0_2, .int .i64 a0_3], .int .i64 a1] rfl ?_; (with_reducible refine (lru_in.calls _ _ l0_0 _ _ l0_1 a0_2 a0_3 a1 true _ ?side1 ?side2 ?side3 ?side4 A5.out).mono ?_); (case side1 => exact Kd.pC ((Kd.C_below HR0_0.out HB.out))); (case side2 => exact HC0_0.out); (case side3 => exact Kd.pC ((Kd.C_below HR0_1.out HB.out))); (case side4 => exact HC0_1.out); rintro e w85 ⟨rfl, hb⟩; refine ⟨_, rfl, ?_⟩; have n0_ := Aside0.mk (blk_below (pK BK284.out) hb); have n1_ := Aside0.mk (blk_below (pK BK285.out) hb); have n2_ := Aside0.mk (below_step (pB HB.out) hb); clear BK284; clear BK285; clear HB; have BK284 := n0_; have BK285 := n1_; have HB := n2_; clear n0_ n1_ n2_; (try clear hb); (try clear hb2); (try clear hk); (try clear hi); obtain ⟨hcz86_0, hcz86_1, hcz86_2, hcz86_3, hfz86_0, hfz86_1, hfz86_2, hfz86_3⟩ := bk4 BK284.out) | ((with_reducible refine gate_callee (f := 32) rfl ?_); refine goesE (some 21) rfl rfl Try.func32 (by kernel_rfl) rfl #[.agg #[.slice A0_0 l0_0.length c0_0, .slice A0_1 l0_1.length c0_1, .int .i64 a0_2, .int .i64 a0_3]] rfl ?_; (with_reducible refine (lru_twin.calls _ _ l0_0 _ _ l0_1 a0_2 a0_3 t288 t291 t294 t295 _ ?side1 ?side2 ?side3 ?side4 A7.out).mono ?_); (case side1 => exact Kd.pC ((Kd.C_below HR0_0.out HB.out))); (case side2 => exact HC0_0.out); (case side3 => exact Kd.pC ((Kd.C_below HR0_1.out HB.out))); (case side4 => exact HC0_1.out); rintro e w87 ⟨v289, v292, rfl, ho0, ho1, hb⟩; refine ⟨_, rfl, ?_⟩; have n0_ := Aside0.mk (Kd.R_lower ho0 (below_size (pB HB.out))); have n1_ := Aside0.mk (Kd.R_lower ho1 (below_size (pB HB.out))); have n2_ := Aside0.mk (blk_below (pK BK284.out) hb); have n3_ := Aside0.mk (blk_below (pK BK285.out) hb); have n4_ := Aside0.mk (below_step (pB HB.out) hb); clear BK284; clear BK285; clear HB; have HO290 := n0_; have HO293 := n1_; have BK284 := n2_; have BK285 := n3_; have HB := n4_; clear n0_ n1_ n2_ n3_ n4_; (try clear hb); (try clear hb2); (try clear hk); (try clear hi); (try clear ho0); (try clear ho1)) | ((with_reducible refine gate_dst (N := 7) rfl ?_); refine boxE (N := 7) (cs := #[.slice none 0 0, .slice none 0 0, .int .i64 0, .int .i64 0]) (t := 24) ?_; intro gb296 hg w88 hbox hb; have n0_ := Aside0.mk (Kd.R_below (Kd.pR HO290.out) hb); have n1_ := Aside0.mk (Kd.R_below (Kd.pR HO293.out) hb); have n2_ := Aside0.mk (blk_below (pK BK284.out) hb); have n3_ := Aside0.mk (blk_below (pK BK285.out) hb); have n4_ := Aside0.mk (below_step (pB HB.out) hb); have n5_ := Aside0.mk (hbox); have n7_ := Aside0.mk (pL HB.out hg); have n8_ := Aside0.mk (pNl BK284.out hg); have n9_ := Aside0.mk (pNg BK284.out hg); have n10_ := Aside0.mk (pNl BK285.out hg); have n11_ := Aside0.mk (pNg BK285.out hg); clear HO290; clear HO293; clear BK284; clear BK285; clear HB; have HO290 := n0_; have HO293 := n1_; have BK284 := n2_; have BK285 := n3_; have HB := n4_; have BK296 := n5_; have GE296 := n7_; have NB284_296 := n8_; have NB296_284 := n9_; have NB285_296 := n10_; have NB296_285 := n11_; clear n0_ n1_ n2_ n3_ n4_ n5_ n7_ n8_ n9_ n10_ n11_; clear hb hbox hg; obtain ⟨Ao89, co89, eo89⟩ := Kd.R_slice HO290.out; subst eo89; have hnb90 := NB296_284.out; have hnc90 := NB284_296.out; have hnb91 := NB296_285.out; have hnc91 := NB285_296.out; obtain ⟨hcz92_0, hcz92_1, hcz92_2, hcz92_3, hfz92_0, hfz92_1, hfz92_2, hfz92_3⟩ := bk4 BK296.out; obtain ⟨Ao93, co93, eo93⟩ := Kd.R_slice HO293.out; subst eo93) | ((with_reducible refine gate_callee (f := 34) rfl ?_); refine goesL_ (some 23) rfl rfl Try.func34 (by kernel_rfl) rfl #[.pointer (some ⟨gb296, 0, none⟩), .int .i64 a1] rfl (by (try simp only [List.map_toArray, List.map_cons, List.map_nil]); first | done | rfl) ?_; go_enter Try.func34, Try.ntmps34))
                    have n0_ : Aside0 (Kd.R (Kd.int .i64) 3 ((((w88.setCell ⟨gb296, 0, none⟩ (.slice Ao89 t288.length co89)).setCell ⟨gb296, 1, none⟩ (.slice Ao93 t291.length co93)).setCell ⟨gb296, 2, none⟩ (.int .i64 t294)).setCell ⟨gb296, 3, none⟩ (.int .i64 t295)) w.heap.size (fun k_ => some k_ ≠ (.slice Ao93 t291.length co93 : Value).ownBlock) (.slice Ao89 t288.length co89) t288) := ⟨Kd.pR (Kd.R_mono (Kd.R_far (p := ⟨gb296, 3, none⟩) (Kd.R_far (p := ⟨gb296, 2, none⟩) (Kd.R_far (p := ⟨gb296, 1, none⟩) (Kd.R_far (p := ⟨gb296, 0, none⟩) (Kd.R_types HO290.out BK296.out (by decide)) (fun _ hk => hk.2) (.slice Ao89 t288.length co89)) (fun _ hk => hk.2) (.slice Ao93 t291.length co93)) (fun _ hk => hk.2) (.int .i64 t294)) (fun _ hk => hk.2) (.int .i64 t295)) (fun _ hk => hk.1))⟩
                    have n1_ : Aside0 (Kd.R (Kd.int .i64) 3 ((((w88.setCell ⟨gb296, 0, none⟩ (.slice Ao89 t288.length co89)).setCell ⟨gb296, 1, none⟩ (.slice Ao93 t291.length co93)).setCell ⟨gb296, 2, none⟩ (.int .i64 t294)).setCell ⟨gb296, 3, none⟩ (.int .i64 t295)) w.heap.size (fun k_ => some k_ ≠ (.slice Ao89 t288.length co89 : Value).ownBlock) (.slice Ao93 t291.length co93) t291) := ⟨Kd.pR (Kd.R_mono (Kd.R_far (p := ⟨gb296, 3, none⟩) (Kd.R_far (p := ⟨gb296, 2, none⟩) (Kd.R_far (p := ⟨gb296, 1, none⟩) (Kd.R_far (p := ⟨gb296, 0, none⟩) (Kd.R_types HO293.out BK296.out (by decide)) (fun _ hk => hk.2) (.slice Ao89 t288.length co89)) (fun _ hk => hk.2) (.slice Ao93 t291.length co93)) (fun _ hk => hk.2) (.int .i64 t294)) (fun _ hk => hk.2) (.int .i64 t295)) (fun _ hk => hk.1))⟩
                    have n2_ : Aside0 (((((w88.setCell ⟨gb296, 0, none⟩ (.slice Ao89 t288.length co89)).setCell ⟨gb296, 1, none⟩ (.slice Ao93 t291.length co93)).setCell ⟨gb296, 2, none⟩ (.int .i64 t294)).setCell ⟨gb296, 3, none⟩ (.int .i64 t295)).heap[gb284]? = some (.cells #[.slice A0_0 l0_0.length c0_0, .slice A0_1 l0_1.length c0_1, .int .i64 a0_2, .int .i64 a0_3] 24 (0, 0))) := ⟨by (with_reducible repeat (first | refine blk_drewN ?_ _ | refine blk_drew ?_ | refine blk_alloc ?_ _)); refine blk_far ?_ NB284_296.out _; (with_reducible repeat (first | refine blk_drewN ?_ _ | refine blk_drew ?_ | refine blk_alloc ?_ _)); refine blk_far ?_ NB284_296.out _; (with_reducible repeat (first | refine blk_drewN ?_ _ | refine blk_drew ?_ | refine blk_alloc ?_ _)); refine blk_far ?_ NB284_296.out _; (with_reducible repeat (first | refine blk_drewN ?_ _ | refine blk_drew ?_ | refine blk_alloc ?_ _)); refine blk_far ?_ NB284_296.out _; (with_reducible repeat (first | refine blk_drewN ?_ _ | refine blk_drew ?_ | refine blk_alloc ?_ _)); exact BK284.out⟩
                    have n3_ : Aside0 (((((w88.setCell ⟨gb296, 0, none⟩ (.slice Ao89 t288.length co89)).setCell ⟨gb296, 1, none⟩ (.slice Ao93 t291.length co93)).setCell ⟨gb296, 2, none⟩ (.int .i64 t294)).setCell ⟨gb296, 3, none⟩ (.int .i64 t295)).heap[gb285]? = some (.cells #[.slice none 0 0, .slice none 0 0, .int .i64 0, .int .i64 0] 24 (0, 0))) := ⟨by (with_reducible repeat (first | refine blk_drewN ?_ _ | refine blk_drew ?_ | refine blk_alloc ?_ _)); refine blk_far ?_ NB285_296.out _; (with_reducible repeat (first | refine blk_drewN ?_ _ | refine blk_drew ?_ | refine blk_alloc ?_ _)); refine blk_far ?_ NB285_296.out _; (with_reducible repeat (first | refine blk_drewN ?_ _ | refine blk_drew ?_ | refine blk_alloc ?_ _)); refine blk_far ?_ NB285_296.out _; (with_reducible repeat (first | refine blk_drewN ?_ _ | refine blk_drew ?_ | refine blk_alloc ?_ _)); refine blk_far ?_ NB285_296.out _; (with_reducible repeat (first | refine blk_drewN ?_ _ | refine blk_drew ?_ | refine blk_alloc ?_ _)); exact BK285.out⟩
                    have n4_ : Aside0 (((((w88.setCell ⟨gb296, 0, none⟩ (.slice Ao89 t288.length co89)).setCell ⟨gb296, 1, none⟩ (.slice Ao93 t291.length co93)).setCell ⟨gb296, 2, none⟩ (.int .i64 t294)).setCell ⟨gb296, 3, none⟩ (.int .i64 t295)).heap[gb296]? = some (.cells #[.slice Ao89 t288.length co89, .slice Ao93 t291.length co93, .int .i64 t294, .int .i64 t295] 24 (0, 0))) := ⟨by (with_reducible repeat (first | refine blk_drewN ?_ _ | refine blk_drew ?_ | refine blk_alloc ?_ _)); refine blk_put (cs := #[.slice Ao89 t288.length co89, .slice Ao93 t291.length co93, .int .i64 t294, .int .i64 0]) ?_ 3 _ rfl; (with_reducible repeat (first | refine blk_drewN ?_ _ | refine blk_drew ?_ | refine blk_alloc ?_ _)); refine blk_put (cs := #[.slice Ao89 t288.length co89, .slice Ao93 t291.length co93, .int .i64 0, .int .i64 0]) ?_ 2 _ rfl; (with_reducible repeat (first | refine blk_drewN ?_ _ | refine blk_drew ?_ | refine blk_alloc ?_ _)); refine blk_put (cs := #[.slice Ao89 t288.length co89, .slice none 0 0, .int .i64 0, .int .i64 0]) ?_ 1 _ rfl; (with_reducible repeat (first | refine blk_drewN ?_ _ | refine blk_drew ?_ | refine blk_alloc ?_ _)); refine blk_put (cs := #[.slice none 0 0, .slice none 0 0, .int .i64 0, .int .i64 0]) ?_ 0 _ rfl; (with_reducible repeat (first | refine blk_drewN ?_ _ | refine blk_drew ?_ | refine blk_alloc ?_ _)); exact BK296.out⟩
                    have n5_ : Aside0 (Below w.heap.size w ((((w88.setCell ⟨gb296, 0, none⟩ (.slice Ao89 t288.length co89)).setCell ⟨gb296, 1, none⟩ (.slice Ao93 t291.length co93)).setCell ⟨gb296, 2, none⟩ (.int .i64 t294)).setCell ⟨gb296, 3, none⟩ (.int .i64 t295))) := ⟨pB HB.out⟩
                    (try clear HO290)
                    (try clear HO293)
                    (try clear BK284)
                    (try clear BK285)
                    (try clear BK296)
                    (try clear HB)
                    generalize ((((w88.setCell ⟨gb296, 0, none⟩ (.slice Ao89 t288.length co89)).setCell ⟨gb296, 1, none⟩ (.slice Ao93 t291.length co93)).setCell ⟨gb296, 2, none⟩ (.int .i64 t294)).setCell ⟨gb296, 3, none⟩ (.int .i64 t295)) = w94 at n0_ n1_ n2_ n3_ n4_ n5_ ⊢
                    have HO290 := n0_
                    have HO293 := n1_
                    have BK284 := n2_
                    have BK285 := n3_
                    have BK296 := n4_
                    have HB := n5_
                    clear n0_ n1_ n2_ n3_ n4_ n5_
                    have n0_ := Aside0.mk (Kd.R_drew HO290.out)
                    have n1_ := Aside0.mk (Kd.R_drew HO293.out)
                    have n2_ := Aside0.mk (blk_drew BK284.out)
                    have n3_ := Aside0.mk (blk_drew BK285.out)
                    have n4_ := Aside0.mk (blk_drew BK296.out)
                    have n5_ := Aside0.mk (below_drew1 HB.out)
                    clear HO290
                    clear HO293
                    clear BK284
                    clear BK285
                    clear BK296
                    clear HB
                    have HO290 := n0_
                    have HO293 := n1_
                    have BK284 := n2_
                    have BK285 := n3_
                    have BK296 := n4_
                    have HB := n5_
                    clear n0_ n1_ n2_ n3_ n4_ n5_
                    have p297 : 0 ≤ (a1 : Int) := od
                    have q297 : a1 < (t288.length : Int) := od
                    obtain ⟨ad297, e297, hx297_0⟩ := Kd.at_int (Kd.R_reads' HO290.out).2.2 a1 p297 q297
                    cases e297
                    replace p297 := eq_true p297
                    replace q297 := eq_true q297
                    have p298 : 0 ≤ (a1 : Int) := od
                    have q298 : a1 < (t291.length : Int) := od
                    obtain ⟨ad298, e298, hx298_0⟩ := Kd.at_int (Kd.R_reads' HO293.out).2.2 a1 p298 q298
                    cases e298
                    replace p298 := eq_true p298
                    replace q298 := eq_true q298
                    refine start_ (n := 16) (S := fun w' => w'.cell? ⟨gb296, 0, none⟩ = some (.slice (some ad297) t288.length co89) ∧ w'.cell? ⟨gb296, 1, none⟩ = some (.slice (some ad298) t291.length co93) ∧ w'.cell? ⟨gb296, 2, none⟩ = some (.int .i64 t294) ∧ w'.cell? ⟨gb296, 3, none⟩ = some (.int .i64 t295) ∧ w'.cell? (ad297.add (a1).toNat) = some (.int .i64 (rd t288 a1)) ∧ w'.cell? (ad298.add (a1).toNat) = some (.int .i64 (rd t291 a1))) (ds := []) #[false, false, false, false, false, false, false, false, false, false, false, false, false, false, false, false] (by kernel_rfl) rfl rfl ⟨(blk_cell BK296.out 0).trans rfl, (blk_cell BK296.out 1).trans rfl, (blk_cell BK296.out 2).trans rfl, (blk_cell BK296.out 3).trans rfl, hx297_0, hx298_0⟩ (fun hHeld => ?_); refine with_tabW lru_Remove.tab34000 lru_Remove.bits34000 (fun HT_ HW_ => ?_)
                    generalize w94.drew = w95 at HO290 HO293 BK284 BK285 BK296 HB hx297_0 hx298_0 hHeld ⊢
                    refine pure_ (i := 0) (N := some 6) (v := ?_) (a' := ?_) #[true, false, false, false, false, false, false, false, false, false, false, false, false, false, false, false] rfl rfl (any_of HT_.out (by kernel_rfl)) (fun _ _ _ h => h) (Or.inl ⟨by rfl, ?_⟩) ?_ ?_
                    rotate_left
                    · intro w'
                      go_simp
                      with_reducible rfl
                    rotate_left
                    · simp only [Act.put, List.setIfInBounds_toArray, List.set_cons_zero, List.set_cons_succ, i64_w, i32_w]
                      rfl
                    refine pure_ (i := 1) (N := some 7) (v := ?_) (a' := ?_) #[true, true, false, false, false, false, false, false, false, false, false, false, false, false, false, false] rfl rfl (any_of HT_.out (by kernel_rfl)) (fun _ _ _ h => h) (Or.inl ⟨by rfl, ?_⟩) ?_ ?_
                    rotate_left
                    · intro w'
                      go_simp
                      with_reducible rfl
                    rotate_left
                    · simp only [Act.put, List.setIfInBounds_toArray, List.set_cons_zero, List.set_cons_succ, i64_w, i32_w]
                      rfl
                    refine pure_ (i := 2) (N := some 8) (v := ?_) (a' := ?_) #[true, true, true, false, false, false, false, false, false, false, false, false, false, false, false, false] rfl rfl (any_of HT_.out (by kernel_rfl)) (fun _ _ _ h => h) (Or.inl ⟨by rfl, ?_⟩) ?_ ?_
                    rotate_left
                    · intro w'
                      go_simp
                      with_reducible rfl
                    rotate_left
                    · simp only [Act.put, List.setIfInBounds_toArray, List.set_cons_zero, List.set_cons_succ, i64_w, i32_w]
                      rfl
                    refine pure_ (i := 4) (N := some 10) (v := ?_) (a' := ?_) #[true, true, true, false, true, false, false, false, false, false, false, false, false, false, false, false] rfl rfl (any_of HT_.out (by kernel_rfl)) (fun _ _ _ h => h) (Or.inl ⟨by rfl, ?_⟩) ?_ ?_
                    rotate_left
                    · intro w'
                      go_simp
                      with_reducible rfl
                    rotate_left
                    · simp only [Act.put, List.setIfInBounds_toArray, List.set_cons_zero, List.set_cons_succ, i64_w, i32_w]
                      rfl
                    refine pure_ (i := 7) (N := some 13) (v := ?_) (a' := ?_) #[true, true, true, false, true, false, false, true, false, false, false, false, false, false, false, false] rfl rfl (any_of HT_.out (by kernel_rfl)) (fun _ _ _ h => h) (Or.inl ⟨by rfl, ?_⟩) ?_ ?_
                    rotate_left
                    · intro w'
                      go_simp
                      with_reducible rfl
                    rotate_left
                    · simp only [Act.put, List.setIfInBounds_toArray, List.set_cons_zero, List.set_cons_succ, i64_w, i32_w]
                      rfl
                    refine pure_ (i := 8) (N := some 14) (v := ?_) (a' := ?_) #[true, true, true, false, true, false, false, true, true, false, false, false, false, false, false, false] rfl rfl (any_of HT_.out (by kernel_rfl)) (fun _ _ _ h => h) (Or.inl ⟨by rfl, ?_⟩) ?_ ?_
                    rotate_left
                    · intro w'
                      go_simp
                      with_reducible rfl
                    rotate_left
                    · simp only [Act.put, List.setIfInBounds_toArray, List.set_cons_zero, List.set_cons_succ, i64_w, i32_w]
                      rfl
                    refine pure_ (i := 9) (N := some 15) (v := ?_) (a' := ?_) #[true, true, true, false, true, false, false, true, true, true, false, false, false, false, false, false] rfl rfl (any_of HT_.out (by kernel_rfl)) (fun _ _ _ h => h) (Or.inl ⟨by rfl, ?_⟩) ?_ ?_
                    rotate_left
                    · intro w'
                      go_simp
                      with_reducible rfl
                    rotate_left
                    · simp only [Act.put, List.setIfInBounds_toArray, List.set_cons_zero, List.set_cons_succ, i64_w, i32_w]
                      rfl
                    refine pure_ (i := 11) (N := some 17) (v := ?_) (a' := ?_) #[true, true, true, false, true, false, false, true, true, true, false, true, false, false, false, false] rfl rfl (any_of HT_.out (by kernel_rfl)) (fun _ _ _ h => h) (Or.inl ⟨by rfl, ?_⟩) ?_ ?_
                    rotate_left
                    · intro w'
                      go_simp
                      with_reducible rfl
                    rotate_left
                    · simp only [Act.put, List.setIfInBounds_toArray, List.set_cons_zero, List.set_cons_succ, i64_w, i32_w]
                      rfl
                    refine take_ (i := 3) (N := some 9) (v := ?_) (a' := ?_) #[true, true, true, true, true, false, false, true, true, true, false, true, false, false, false, false] rfl rfl (take_ofW HT_.out HW_.out (by kernel_rfl)) (fun _ _ _ h => h) (Or.inl ⟨by rfl, ?_⟩) hHeld ?_ ?_
                    rotate_left
                    · rintro w' ⟨s0, s1, s2, s3, s4, s5⟩
                      go_simp
                      with_reducible rfl
                    rotate_left
                    · simp only [Act.put, List.setIfInBounds_toArray, List.set_cons_zero, List.set_cons_succ, i64_w, i32_w]
                      rfl
                    refine pure_ (i := 5) (N := some 11) (v := ?_) (a' := ?_) #[true, true, true, true, true, true, false, true, true, true, false, true, false, false, false, false] rfl rfl (any_of HT_.out (by kernel_rfl)) (fun _ _ _ h => h) (Or.inl ⟨by rfl, ?_⟩) ?_ ?_
                    rotate_left
                    · intro w'
                      go_simp
                      with_reducible rfl
                    rotate_left
                    · simp only [Act.put, List.setIfInBounds_toArray, List.set_cons_zero, List.set_cons_succ, i64_w, i32_w]
                      rfl
                    refine take_ (i := 6) (N := some 12) (v := ?_) (a' := ?_) #[true, true, true, true, true, true, true, true, true, true, false, true, false, false, false, false] rfl rfl (take_ofW HT_.out HW_.out (by kernel_rfl)) (fun _ _ _ h => h) (Or.inl ⟨by rfl, ?_⟩) hHeld ?_ ?_
                    rotate_left
                    · rintro w' ⟨s0, s1, s2, s3, s4, s5⟩
                      go_simp
                      with_reducible rfl
                    rotate_left
                    · simp only [Act.put, List.setIfInBounds_toArray, List.set_cons_zero, List.set_cons_succ, i64_w, i32_w]
                      rfl
                    refine pure_ (i := 14) (N := some 4) (v := ?_) (a' := ?_) #[true, true, true, true, true, true, true, true, true, true, false, true, false, false, true, false] rfl rfl (any_of HT_.out (by kernel_rfl)) (fun _ _ _ h => h) (Or.inl ⟨by rfl, ?_⟩) ?_ ?_
                    rotate_left
                    · intro w'
                      go_simp
                      with_reducible rfl
                    rotate_left
                    · simp only [Act.put, List.setIfInBounds_toArray, List.set_cons_zero, List.set_cons_succ, i64_w, i32_w]
                      rfl
                    refine take_ (i := 10) (N := some 16) (v := ?_) (a' := ?_) #[true, true, true, true, true, true, true, true, true, true, true, true, false, false, true, false] rfl rfl (take_ofW HT_.out HW_.out (by kernel_rfl)) (fun _ _ _ h => h) (Or.inl ⟨by rfl, ?_⟩) hHeld ?_ ?_
                    rotate_left
                    · rintro w' ⟨s0, s1, s2, s3, s4, s5⟩
                      go_simp
                      with_reducible rfl
                    rotate_left
                    · simp only [Act.put, List.setIfInBounds_toArray, List.set_cons_zero, List.set_cons_succ, i64_w, i32_w]
                      rfl
                    refine pure_ (i := 12) (N := some 18) (v := ?_) (a' := ?_) #[true, true, true, true, true, true, true, true, true, true, true, true, true, false, true, false] rfl rfl (any_of HT_.out (by kernel_rfl)) (fun _ _ _ h => h) (Or.inl ⟨by rfl, ?_⟩) ?_ ?_
                    rotate_left
                    · intro w'
                      go_simp
                      with_reducible rfl
                    rotate_left
                    · simp only [Act.put, List.setIfInBounds_toArray, List.set_cons_zero, List.set_cons_succ, i64_w, i32_w]
                      rfl
                    refine take_ (i := 13) (N := some 19) (v := ?_) (a' := ?_) #[true, true, true, true, true, true, true, true, true, true, true, true, true, true, true, false] rfl rfl (take_ofW HT_.out HW_.out (by kernel_rfl)) (fun _ _ _ h => h) (Or.inl ⟨by rfl, ?_⟩) hHeld ?_ ?_
                    rotate_left
                    · rintro w' ⟨s0, s1, s2, s3, s4, s5⟩
                      go_simp
                      with_reducible rfl
                    rotate_left
                    · simp only [Act.put, List.setIfInBounds_toArray, List.set_cons_zero, List.set_cons_succ, i64_w, i32_w]
                      rfl
                    refine pure_ (i := 15) (N := some 5) (v := ?_) (a' := ?_) #[true, true, true, true, true, true, true, true, true, true, true, true, true, true, true, true] rfl rfl (any_of HT_.out (by kernel_rfl)) (fun _ _ _ h => h) (Or.inl ⟨by rfl, ?_⟩) ?_ ?_
                    rotate_left
                    · intro w'
                      go_simp
                      with_reducible rfl
                    rotate_left
                    · simp only [Act.put, List.setIfInBounds_toArray, List.set_cons_zero, List.set_cons_succ, i64_w, i32_w]
                      rfl
                    refine done_ (done_of HT_.out (by kernel_rfl)) ?_
                    obtain ⟨hcz96_0, hcz96_1, hcz96_2, hcz96_3, hfz96_0, hfz96_1, hfz96_2, hfz96_3⟩ := bk4 BK296.out
                    have p75 : 0 ≤ ((rd t288 a1) : Int) := od
                    have q75 : ((rd t288 a1) : Int) < ((t291.length : Int) : Int) := od
                    obtain ⟨go75, co75, eo75, gb75, gl75, cl75, HG75⟩ := Kd.R_form HO293.out (by omega)
                    (first | cases eo75 | (injection eo75 with ea_ en_ ec_; (first | subst ea_ | (injection ea_ with ea_; subst ea_)); subst ec_; clear en_))
                    have GB75 := Aside0.mk gb75
                    have GG75 := Aside0.mk HG75
                    clear gb75 gl75 HG75
                    (first | simp only [add_plain] at hx298_0 | skip)
                    obtain ⟨hx75_0, hf75_0⟩ := Kd.R_celln 0 HO293.out ((rd t288 a1) : Int) p75 q75
                    replace p75 := eq_true p75
                    replace q75 := eq_true q75
                    obtain ⟨hy97_, hz97_⟩ := Kd.R_celln 0 HO293.out ((rd t288 a1) : Int) od od
                    have HP97 := Kd.R_putg HO293.out ((rd t288 a1) : Int) (rd t291 a1)
                    try go_wp2_with (first | ((with_reducible refine gate_store (t := 3) (p := 32) rfl ?_); refine store_event (t := 3) (p := 32) (v := ?vo_w98) (w1 := (w95.setCell ⟨go75, ((rd t288 a1) : Int).toNat, none⟩ (.int .i64 (rd t291 a1)))) ?hg ?ho ?hn ?hr ?_; (case ho => rfl); (case hg => rfl); (case hn => rfl); (case hr => first | (go_simp; done) | (go_simp; rfl)); intro w98 hw; have hg : w95.grownBy w98 (some go75) := (by rw [hw]; exact HP97.2); have hp_ : Kd.R (Kd.int .i64) 3 w98 w.heap.size (fun k_ => some k_ ≠ (.slice (some ad297) t288.length co89 : Value).ownBlock) (.slice (some ⟨go75, 0, none⟩) t291.length co93) y304 := (by rw [hw, Ny304.out]; exact HP97.1); (try clear HP97); have n0_ := Aside0.mk (blk_grown (pK BK284.out) hg (Kd.R_ne HO293.out BK284.out (by decide))); have n1_ := Aside0.mk (blk_grown (pK BK285.out) hg (Kd.R_ne HO293.out BK285.out (by decide))); have n2_ := Aside0.mk (Kd.R_after (v := (.slice (some ⟨go75, 0, none⟩) t291.length co93)) (v1 := (.slice (some ⟨go75, 0, none⟩) t291.length co93)) (ok := (fun _ => True)) (Kd.pR (Kd.R_mono HO290.out (fun _ hk => ⟨trivial, hk⟩))) hg (.inl rfl)); have n3_ := Aside0.mk (hp_); have n4_ := Aside0.mk (blk_grown (pK BK296.out) hg (Kd.R_ne HO293.out BK296.out (by decide))); have n5_ := Aside0.mk ((by rw [hw]; exact below_set (HB.out) GB75.out : Below w.heap.size w w98)); clear BK284; clear BK285; clear HO290; clear HO293; clear BK296; clear HB; have BK284 := n0_; have BK285 := n1_; have HO290 := n2_; have HO293 := n3_; have BK296 := n4_; have HB := n5_; clear n0_ n1_ n2_ n3_ n4_ n5_; clear hg hw hp_; obtain ⟨hcz99_0, hcz99_1, hcz99_2, hcz99_3, hfz99_0, hfz99_1, hfz99_2, hfz99_3⟩ := bk4 BK296.out))
                    have n0_ : Aside0 (Kd.R (Kd.int .i64) 3 (w98.setCell ⟨gb296, 3, none⟩ (.int .i64 (rd t288 a1))) w.heap.size (fun k_ => some k_ ≠ (.slice (some ⟨go75, 0, none⟩) t291.length co93 : Value).ownBlock) (.slice (some ad297) t288.length co89) t288) := ⟨Kd.pR (Kd.R_mono (Kd.R_far (p := ⟨gb296, 3, none⟩) (Kd.R_types HO290.out BK296.out (by decide)) (fun _ hk => hk.2) (.int .i64 (rd t288 a1))) (fun _ hk => hk.1.2))⟩
                    have n1_ : Aside0 (Kd.R (Kd.int .i64) 3 (w98.setCell ⟨gb296, 3, none⟩ (.int .i64 (rd t288 a1))) w.heap.size (fun k_ => some k_ ≠ (.slice (some ad297) t288.length co89 : Value).ownBlock) (.slice (some ⟨go75, 0, none⟩) t291.length co93) y304) := ⟨Kd.pR (Kd.R_mono (Kd.R_far (p := ⟨gb296, 3, none⟩) (Kd.R_types HO293.out BK296.out (by decide)) (fun _ hk => hk.2) (.int .i64 (rd t288 a1))) (fun _ hk => hk.1))⟩
                    have n2_ : Aside0 ((w98.setCell ⟨gb296, 3, none⟩ (.int .i64 (rd t288 a1))).heap[gb284]? = some (.cells #[.slice A0_0 l0_0.length c0_0, .slice A0_1 l0_1.length c0_1, .int .i64 a0_2, .int .i64 a0_3] 24 (0, 0))) := ⟨by (with_reducible repeat (first | refine blk_drewN ?_ _ | refine blk_drew ?_ | refine blk_alloc ?_ _)); refine blk_far ?_ NB284_296.out _; (with_reducible repeat (first | refine blk_drewN ?_ _ | refine blk_drew ?_ | refine blk_alloc ?_ _)); exact BK284.out⟩
                    have n3_ : Aside0 ((w98.setCell ⟨gb296, 3, none⟩ (.int .i64 (rd t288 a1))).heap[gb285]? = some (.cells #[.slice none 0 0, .slice none 0 0, .int .i64 0, .int .i64 0] 24 (0, 0))) := ⟨by (with_reducible repeat (first | refine blk_drewN ?_ _ | refine blk_drew ?_ | refine blk_alloc ?_ _)); refine blk_far ?_ NB285_296.out _; (with_reducible repeat (first | refine blk_drewN ?_ _ | refine blk_drew ?_ | refine blk_alloc ?_ _)); exact BK285.out⟩
                    have n4_ : Aside0 ((w98.setCell ⟨gb296, 3, none⟩ (.int .i64 (rd t288 a1))).heap[gb296]? = some (.cells #[.slice (some ad297) t288.length co89, .slice (some ⟨go75, 0, none⟩) t291.length co93, .int .i64 t294, .int .i64 (rd t288 a1)] 24 (0, 0))) := ⟨by (with_reducible repeat (first | refine blk_drewN ?_ _ | refine blk_drew ?_ | refine blk_alloc ?_ _)); refine blk_put (cs := #[.slice (some ad297) t288.length co89, .slice (some ⟨go75, 0, none⟩) t291.length co93, .int .i64 t294, .int .i64 t295]) ?_ 3 _ rfl; (with_reducible repeat (first | refine blk_drewN ?_ _ | refine blk_drew ?_ | refine blk_alloc ?_ _)); exact BK296.out⟩
                    have n5_ : Aside0 (Below w.heap.size w (w98.setCell ⟨gb296, 3, none⟩ (.int .i64 (rd t288 a1)))) := ⟨pB HB.out⟩
                    (try clear HO290)
                    (try clear HO293)
                    (try clear BK284)
                    (try clear BK285)
                    (try clear BK296)
                    (try clear HB)
                    generalize (w98.setCell ⟨gb296, 3, none⟩ (.int .i64 (rd t288 a1))) = w100 at n0_ n1_ n2_ n3_ n4_ n5_ ⊢
                    have HO290 := n0_
                    have HO293 := n1_
                    have BK284 := n2_
                    have BK285 := n3_
                    have BK296 := n4_
                    have HB := n5_
                    clear n0_ n1_ n2_ n3_ n4_ n5_
                    have n0_ := Aside0.mk (Kd.R_drew HO290.out)
                    have n1_ := Aside0.mk (Kd.R_drew HO293.out)
                    have n2_ := Aside0.mk (blk_drew BK284.out)
                    have n3_ := Aside0.mk (blk_drew BK285.out)
                    have n4_ := Aside0.mk (blk_drew BK296.out)
                    have n5_ := Aside0.mk (below_drew1 HB.out)
                    clear HO290
                    clear HO293
                    clear BK284
                    clear BK285
                    clear BK296
                    clear HB
                    have HO290 := n0_
                    have HO293 := n1_
                    have BK284 := n2_
                    have BK285 := n3_
                    have BK296 := n4_
                    have HB := n5_
                    clear n0_ n1_ n2_ n3_ n4_ n5_
                    have p77 : 0 ≤ (a1 : Int) := od
                    have q77 : (a1 : Int) < ((t288.length : Int) : Int) := od
                    obtain ⟨go77, co77, eo77, gb77, gl77, cl77, HG77⟩ := Kd.R_form HO290.out (by omega)
                    (first | cases eo77 | (injection eo77 with ea_ en_ ec_; (first | subst ea_ | (injection ea_ with ea_; subst ea_)); subst ec_; clear en_))
                    have GB77 := Aside0.mk gb77
                    have GG77 := Aside0.mk HG77
                    clear gb77 gl77 HG77
                    (first | simp only [add_plain] at hx297_0 | skip)
                    obtain ⟨hx77_0, hf77_0⟩ := Kd.R_celln 0 HO290.out (a1 : Int) p77 q77
                    replace p77 := eq_true p77
                    replace q77 := eq_true q77
                    have HP102 := Kd.R_putn HO290.out (a1 : Int) (-1)
                    rw [← Ny305.out] at HP102
                    have HQ102 := Aside0.mk HP102
                    (try clear HP102)
                    have p78 : 0 ≤ (a1 : Int) := od
                    have q78 : (a1 : Int) < ((t291.length : Int) : Int) := od
                    obtain ⟨hx78_0, hf78_0⟩ := Kd.R_celln 0 (Kd.R_far (p := ⟨go77, (a1 : Int).toNat, none⟩) (Kd.R_mono HO293.out (fun k_ hk => (⟨hk, fun e_ => hk (by rw [e_]; rfl)⟩ : _ ∧ k_ ≠ go77))) (fun _ hk => hk.2) (.int .i64 (-1))) (a1 : Int) p78 q78
                    replace p78 := eq_true p78
                    replace q78 := eq_true q78
                    have HP103 := Kd.R_putn (Kd.R_far (p := ⟨go77, (a1 : Int).toNat, none⟩) (Kd.R_mono HO293.out (fun k_ hk => (⟨hk, fun e_ => hk (by rw [e_]; rfl)⟩ : _ ∧ k_ ≠ go77))) (fun _ hk => hk.2) (.int .i64 (-1))) (a1 : Int) (-1)
                    rw [← Ny306.out] at HP103
                    have HQ103 := Aside0.mk HP103
                    (try clear HP103)
                    refine start_ (n := 14) (S := fun w' => w'.cell? ⟨gb296, 0, none⟩ = some (.slice (some ⟨go77, 0, none⟩) t288.length co89) ∧ w'.cell? ⟨gb296, 1, none⟩ = some (.slice (some ⟨go75, 0, none⟩) t291.length co93) ∧ w'.cell? ⟨gb296, 2, none⟩ = some (.int .i64 t294) ∧ w'.cell? ⟨gb296, 3, none⟩ = some (.int .i64 (rd t288 a1))) (ds := [11, 13]) #[false, false, false, false, false, false, false, false, false, false, false, false, false, false] (by kernel_rfl) rfl rfl ⟨(blk_cell BK296.out 0).trans rfl, (blk_cell BK296.out 1).trans rfl, (blk_cell BK296.out 2).trans rfl, (blk_cell BK296.out 3).trans rfl⟩ (fun hHeld => ?_); refine with_tabW lru_Remove.tab34007 lru_Remove.bits34007 (fun HT_ HW_ => ?_)
                    generalize w100.drew = w101 at HO290 HO293 BK284 BK285 BK296 HB GG77 HQ102 HQ103 hf77_0 hf78_0 hx297_0 hx77_0 hx78_0 hHeld ⊢
                    refine pure_ (i := 0) (N := some 46) (v := ?_) (a' := ?_) #[true, false, false, false, false, false, false, false, false, false, false, false, false, false] rfl rfl (any_of HT_.out (by kernel_rfl)) (fun _ _ _ h => h) (Or.inl ⟨by rfl, ?_⟩) ?_ ?_
                    rotate_left
                    · intro w'
                      go_simp
                      with_reducible rfl
                    rotate_left
                    · simp only [Act.put, List.setIfInBounds_toArray, List.set_cons_zero, List.set_cons_succ, i64_w, i32_w]
                      rfl
                    refine pure_ (i := 1) (N := some 47) (v := ?_) (a' := ?_) #[true, true, false, false, false, false, false, false, false, false, false, false, false, false] rfl rfl (any_of HT_.out (by kernel_rfl)) (fun _ _ _ h => h) (Or.inl ⟨by rfl, ?_⟩) ?_ ?_
                    rotate_left
                    · intro w'
                      go_simp
                      with_reducible rfl
                    rotate_left
                    · simp only [Act.put, List.setIfInBounds_toArray, List.set_cons_zero, List.set_cons_succ, i64_w, i32_w]
                      rfl
                    refine pure_ (i := 2) (N := some 48) (v := ?_) (a' := ?_) #[true, true, true, false, false, false, false, false, false, false, false, false, false, false] rfl rfl (any_of HT_.out (by kernel_rfl)) (fun _ _ _ h => h) (Or.inl ⟨by rfl, ?_⟩) ?_ ?_
                    rotate_left
                    · intro w'
                      go_simp
                      with_reducible rfl
                    rotate_left
                    · simp only [Act.put, List.setIfInBounds_toArray, List.set_cons_zero, List.set_cons_succ, i64_w, i32_w]
                      rfl
                    refine pure_ (i := 4) (N := some 50) (v := ?_) (a' := ?_) #[true, true, true, false, true, false, false, false, false, false, false, false, false, false] rfl rfl (any_of HT_.out (by kernel_rfl)) (fun _ _ _ h => h) (Or.inl ⟨by rfl, ?_⟩) ?_ ?_
                    rotate_left
                    · intro w'
                      go_simp
                      with_reducible rfl
                    rotate_left
                    · simp only [Act.put, List.setIfInBounds_toArray, List.set_cons_zero, List.set_cons_succ, i64_w, i32_w]
                      rfl
                    refine pure_ (i := 5) (N := some 51) (v := ?_) (a' := ?_) #[true, true, true, false, true, true, false, false, false, false, false, false, false, false] rfl rfl (any_of HT_.out (by kernel_rfl)) (fun _ _ _ h => h) (Or.inl ⟨by rfl, ?_⟩) ?_ ?_
                    rotate_left
                    · intro w'
                      go_simp
                      with_reducible rfl
                    rotate_left
                    · simp only [Act.put, List.setIfInBounds_toArray, List.set_cons_zero, List.set_cons_succ, i64_w, i32_w]
                      rfl
                    refine pure_ (i := 6) (N := some 52) (v := ?_) (a' := ?_) #[true, true, true, false, true, true, true, false, false, false, false, false, false, false] rfl rfl (any_of HT_.out (by kernel_rfl)) (fun _ _ _ h => h) (Or.inl ⟨by rfl, ?_⟩) ?_ ?_
                    rotate_left
                    · intro w'
                      go_simp
                      with_reducible rfl
                    rotate_left
                    · simp only [Act.put, List.setIfInBounds_toArray, List.set_cons_zero, List.set_cons_succ, i64_w, i32_w]
                      rfl
                    refine pure_ (i := 7) (N := some 53) (v := ?_) (a' := ?_) #[true, true, true, false, true, true, true, true, false, false, false, false, false, false] rfl rfl (any_of HT_.out (by kernel_rfl)) (fun _ _ _ h => h) (Or.inl ⟨by rfl, ?_⟩) ?_ ?_
                    rotate_left
                    · intro w'
                      go_simp
                      with_reducible rfl
                    rotate_left
                    · simp only [Act.put, List.setIfInBounds_toArray, List.set_cons_zero, List.set_cons_succ, i64_w, i32_w]
                      rfl
                    refine pure_ (i := 9) (N := some 55) (v := ?_) (a' := ?_) #[true, true, true, false, true, true, true, true, false, true, false, false, false, false] rfl rfl (any_of HT_.out (by kernel_rfl)) (fun _ _ _ h => h) (Or.inl ⟨by rfl, ?_⟩) ?_ ?_
                    rotate_left
                    · intro w'
                      go_simp
                      with_reducible rfl
                    rotate_left
                    · simp only [Act.put, List.setIfInBounds_toArray, List.set_cons_zero, List.set_cons_succ, i64_w, i32_w]
                      rfl
                    refine take_ (i := 3) (N := some 49) (v := ?_) (a' := ?_) #[true, true, true, true, true, true, true, true, false, true, false, false, false, false] rfl rfl (take_ofW HT_.out HW_.out (by kernel_rfl)) (fun _ _ _ h => h) (Or.inl ⟨by rfl, ?_⟩) hHeld ?_ ?_
                    rotate_left
                    · rintro w' ⟨s0, s1, s2, s3⟩
                      go_simp
                      with_reducible rfl
                    rotate_left
                    · simp only [Act.put, List.setIfInBounds_toArray, List.set_cons_zero, List.set_cons_succ, i64_w, i32_w]
                      rfl
                    refine take_ (i := 8) (N := some 54) (v := ?_) (a' := ?_) #[true, true, true, true, true, true, true, true, true, true, false, false, false, false] rfl rfl (take_ofW HT_.out HW_.out (by kernel_rfl)) (fun _ _ _ h => h) (Or.inl ⟨by rfl, ?_⟩) hHeld ?_ ?_
                    rotate_left
                    · rintro w' ⟨s0, s1, s2, s3⟩
                      go_simp
                      with_reducible rfl
                    rotate_left
                    · simp only [Act.put, List.setIfInBounds_toArray, List.set_cons_zero, List.set_cons_succ, i64_w, i32_w]
                      rfl
                    refine pure_ (i := 10) (N := some 56) (v := ?_) (a' := ?_) #[true, true, true, true, true, true, true, true, true, true, true, false, false, false] rfl rfl (any_of HT_.out (by kernel_rfl)) (fun _ _ _ h => h) (Or.inl ⟨by rfl, ?_⟩) ?_ ?_
                    rotate_left
                    · intro w'
                      go_simp
                      with_reducible rfl
                    rotate_left
                    · simp only [Act.put, List.setIfInBounds_toArray, List.set_cons_zero, List.set_cons_succ, i64_w, i32_w]
                      rfl
                    refine last_ (i := 11) (N := none) #[true, true, true, true, true, true, true, true, true, true, true, true, false, false] rfl rfl (one_of HT_.out (by kernel_rfl)) (by decide) (fun K hK => ?_)
                    refine skip_ (w1 := ?_) (by rfl) rfl ?_ ?_
                    rotate_left
                    · go_simp
                      rfl
                    refine hK.out _ _ ?_
                    clear hK K
                    refine pure_ (i := 12) (N := some 57) (v := ?_) (a' := ?_) #[true, true, true, true, true, true, true, true, true, true, true, true, true, false] rfl rfl (any_of HT_.out (by kernel_rfl)) (fun _ _ _ h => h) (Or.inl ⟨by rfl, ?_⟩) ?_ ?_
                    rotate_left
                    · intro w'
                      go_simp
                      with_reducible rfl
                    rotate_left
                    · simp only [Act.put, List.setIfInBounds_toArray, List.set_cons_zero, List.set_cons_succ, i64_w, i32_w]
                      rfl
                    refine last_ (i := 13) (N := none) #[true, true, true, true, true, true, true, true, true, true, true, true, true, true] rfl rfl (one_of HT_.out (by kernel_rfl)) (by decide) (fun K hK => ?_)
                    refine skip_ (w1 := ?_) (by rfl) rfl ?_ ?_
                    rotate_left
                    · go_simp
                      rfl
                    refine hK.out _ _ ?_
                    clear hK K
                    refine done_ (done_of HT_.out (by kernel_rfl)) ?_
                    have n0_ : Aside0 (Kd.R (Kd.int .i64) 3 ((w101.setCell ⟨go77, (a1 : Int).toNat, none⟩ (.int .i64 (-1))).setCell ⟨go75, (a1 : Int).toNat, none⟩ (.int .i64 (-1))) w.heap.size (fun k_ => some k_ ≠ (.slice (some ⟨go75, 0, none⟩) t291.length co93 : Value).ownBlock) (.slice (some ⟨go77, 0, none⟩) t288.length co89) y305) := ⟨Kd.pR (Kd.R_mono (Kd.R_far (p := ⟨go75, (a1 : Int).toNat, none⟩) (Kd.R_mono HQ102.out (fun k_ hk => (⟨hk, fun e_ => hk (by rw [e_]; rfl)⟩ : _ ∧ k_ ≠ go75))) (fun _ hk => hk.2) (.int .i64 (-1))) (fun _ hk => hk.1))⟩
                    have n1_ : Aside0 (Kd.R (Kd.int .i64) 3 ((w101.setCell ⟨go77, (a1 : Int).toNat, none⟩ (.int .i64 (-1))).setCell ⟨go75, (a1 : Int).toNat, none⟩ (.int .i64 (-1))) w.heap.size (fun k_ => some k_ ≠ (.slice (some ⟨go77, 0, none⟩) t288.length co89 : Value).ownBlock) (.slice (some ⟨go75, 0, none⟩) t291.length co93) y306) := ⟨Kd.pR (Kd.R_mono HQ103.out (fun _ hk => hk.1))⟩
                    have n3_ : Aside0 (((w101.setCell ⟨go77, (a1 : Int).toNat, none⟩ (.int .i64 (-1))).setCell ⟨go75, (a1 : Int).toNat, none⟩ (.int .i64 (-1))).heap[gb285]? = some (.cells #[.slice none 0 0, .slice none 0 0, .int .i64 0, .int .i64 0] 24 (0, 0))) := ⟨by (with_reducible repeat (first | refine blk_drewN ?_ _ | refine blk_drew ?_ | refine blk_alloc ?_ _)); refine blk_far ?_ (by have h_ := Kd.R_ne HO293.out BK285.out (by decide); intro e_; exact h_ (by rw [e_]; rfl)) _; (with_reducible repeat (first | refine blk_drewN ?_ _ | refine blk_drew ?_ | refine blk_alloc ?_ _)); refine blk_far ?_ (by have h_ := Kd.R_ne HO290.out BK285.out (by decide); intro e_; exact h_ (by rw [e_]; rfl)) _; (with_reducible repeat (first | refine blk_drewN ?_ _ | refine blk_drew ?_ | refine blk_alloc ?_ _)); exact BK285.out⟩
                    have n4_ : Aside0 (((w101.setCell ⟨go77, (a1 : Int).toNat, none⟩ (.int .i64 (-1))).setCell ⟨go75, (a1 : Int).toNat, none⟩ (.int .i64 (-1))).heap[gb296]? = some (.cells #[.slice (some ⟨go77, 0, none⟩) t288.length co89, .slice (some ⟨go75, 0, none⟩) t291.length co93, .int .i64 t294, .int .i64 (rd t288 a1)] 24 (0, 0))) := ⟨by (with_reducible repeat (first | refine blk_drewN ?_ _ | refine blk_drew ?_ | refine blk_alloc ?_ _)); refine blk_far ?_ (by have h_ := Kd.R_ne HO293.out BK296.out (by decide); intro e_; exact h_ (by rw [e_]; rfl)) _; (with_reducible repeat (first | refine blk_drewN ?_ _ | refine blk_drew ?_ | refine blk_alloc ?_ _)); refine blk_far ?_ (by have h_ := Kd.R_ne HO290.out BK296.out (by decide); intro e_; exact h_ (by rw [e_]; rfl)) _; (with_reducible repeat (first | refine blk_drewN ?_ _ | refine blk_drew ?_ | refine blk_alloc ?_ _)); exact BK296.out⟩
                    have n5_ : Aside0 (Below w.heap.size w ((w101.setCell ⟨go77, (a1 : Int).toNat, none⟩ (.int .i64 (-1))).setCell ⟨go75, (a1 : Int).toNat, none⟩ (.int .i64 (-1)))) := ⟨by repeat (first | (with_reducible first | exact HB.out | apply below_alloc | apply pw_below_drewN | apply below_drew1 | refine below_set ?_ GB77.out | refine below_set ?_ GB75.out | refine below_set ?_ GE284.out | refine below_set ?_ GE285.out | refine below_set ?_ GE296.out) | exact HB.out)⟩
                    (try clear HO290)
                    (try clear HO293)
                    (try clear BK284)
                    (try clear BK285)
                    (try clear BK296)
                    (try clear HB)
                    generalize ((w101.setCell ⟨go77, (a1 : Int).toNat, none⟩ (.int .i64 (-1))).setCell ⟨go75, (a1 : Int).toNat, none⟩ (.int .i64 (-1))) = w104 at n0_ n1_ n3_ n4_ n5_ ⊢
                    have HO290 := n0_
                    have HO293 := n1_
                    have BK285 := n3_
                    have BK296 := n4_
                    have HB := n5_
                    clear n0_ n1_ n3_ n4_ n5_
                    try go_wp2_with (first | ((try simp only [Exit.inBlock, Exit.then]); refine bodyPost_end (results_none rfl _ _ _) rfl ?_; refine ⟨_, rfl, ?_⟩; obtain ⟨hcz105_0, hcz105_1, hcz105_2, hcz105_3, hfz105_0, hfz105_1, hfz105_2, hfz105_3⟩ := bk4 BK296.out; obtain ⟨hcz106_0, hcz106_1, hcz106_2, hcz106_3, hfz106_0, hfz106_1, hfz106_2, hfz106_3⟩ := bk4 BK285.out))
                    refine bodyPost_ret (results_ct rfl _ _ gb285 24 #[.slice (some ⟨go77, 0, none⟩) t288.length co89, .slice (some ⟨go75, 0, none⟩) t291.length co93, .int .i64 t294, .int .i64 (rd t288 a1)] (0, 0) _ rfl (by (with_reducible repeat (first | refine blk_drewN ?_ _ | refine blk_drew ?_ | refine blk_alloc ?_ _)); refine blk_put (cs := #[.slice (some ⟨go77, 0, none⟩) t288.length co89, .slice (some ⟨go75, 0, none⟩) t291.length co93, .int .i64 t294, .int .i64 0]) ?_ 3 _ rfl; (with_reducible repeat (first | refine blk_drewN ?_ _ | refine blk_drew ?_ | refine blk_alloc ?_ _)); refine blk_put (cs := #[.slice (some ⟨go77, 0, none⟩) t288.length co89, .slice (some ⟨go75, 0, none⟩) t291.length co93, .int .i64 0, .int .i64 0]) ?_ 2 _ rfl; (with_reducible repeat (first | refine blk_drewN ?_ _ | refine blk_drew ?_ | refine blk_alloc ?_ _)); refine blk_put (cs := #[.slice (some ⟨go77, 0, none⟩) t288.length co89, .slice none 0 0, .int .i64 0, .int .i64 0]) ?_ 1 _ rfl; (with_reducible repeat (first | refine blk_drewN ?_ _ | refine blk_drew ?_ | refine blk_alloc ?_ _)); refine blk_put (cs := #[.slice none 0 0, .slice none 0 0, .int .i64 0, .int .i64 0]) ?_ 0 _ rfl; (with_reducible repeat (first | refine blk_drewN ?_ _ | refine blk_drew ?_ | refine blk_alloc ?_ _)); exact BK285.out) Try.underlying24 rfl (by kernel_rfl)) rfl ?_
                    exact ⟨_, _, by first | rfl | (simp [errW_none, errW_some] <;> rfl) | (simp [*, errW_none, errW_some] <;> rfl), Kd.pR (Kd.R_mono (Kd.R_far (p := ⟨gb285, 3, none⟩) (Kd.R_far (p := ⟨gb285, 2, none⟩) (Kd.R_far (p := ⟨gb285, 1, none⟩) (Kd.R_far (p := ⟨gb285, 0, none⟩) (Kd.R_types HO290.out BK285.out (by decide)) (fun _ hk => hk.2) (.slice (some ⟨go77, 0, none⟩) t288.length co89)) (fun _ hk => hk.2) (.slice (some ⟨go75, 0, none⟩) t291.length co93)) (fun _ hk => hk.2) (.int .i64 t294)) (fun _ hk => hk.2) (.int .i64 (rd t288 a1))) (fun _ hk => hk.1)), Kd.pR (Kd.R_mono (Kd.R_far (p := ⟨gb285, 3, none⟩) (Kd.R_far (p := ⟨gb285, 2, none⟩) (Kd.R_far (p := ⟨gb285, 1, none⟩) (Kd.R_far (p := ⟨gb285, 0, none⟩) (Kd.R_types HO293.out BK285.out (by decide)) (fun _ hk => hk.2) (.slice (some ⟨go77, 0, none⟩) t288.length co89)) (fun _ hk => hk.2) (.slice (some ⟨go75, 0, none⟩) t291.length co93)) (fun _ hk => hk.2) (.int .i64 t294)) (fun _ hk => hk.2) (.int .i64 (rd t288 a1))) (fun _ hk => hk.1)), pB HB.out⟩
                  · rw [if_neg c76] at H
                    have c76b0 : ((rd t291 a1) == (-1)) = false := beq_eq_false_iff_ne.mpr c76
                    have c76b1 : ((rd t291 a1) != (-1)) = true := bne_iff_ne.mpr c76
                    by_cases c107 : 0 ≤ (rd t291 a1)
                    · rw [if_pos c107] at H
                      have c107b0 : decide (0 ≤ (rd t291 a1)) = true := decide_eq_true c107
                      clear c107
                      by_cases c108 : (rd t291 a1) < (t288.length : Int)
                      · rw [if_pos c108] at H
                        have c108b0 : decide ((rd t291 a1) < (t288.length : Int)) = true := decide_eq_true c108
                        clear c108
                        obtain ⟨y307, hy307⟩ : ∃ y_ : List Int, y_ = (t288.set ((rd t291 a1) : Int).toNat (rd t288 a1)) := ⟨_, rfl⟩
                        replace H : (some ((y307.set (a1 : Int).toNat (-1)), (y304.set (a1 : Int).toNat (-1)), t294, t295, 0)) = some (r1, r2, r3, r4, r5) := by first | (rw [hy307]; with_reducible exact H) | (have H2_ := (Option.bind_some _ _).symm.trans H; rw [hy307]; with_reducible exact H2_) | (have H2_ := (Option.bind_some _ _).symm.trans H; with_reducible exact H2_) | with_reducible exact H | (rw [hy307]; exact H) | exact H
                        have Ny307 := Aside0.mk hy307
                        (try clear hy307)
                        obtain ⟨y308, hy308⟩ : ∃ y_ : List Int, y_ = (y307.set (a1 : Int).toNat (-1)) := ⟨_, rfl⟩
                        replace H : (some (y308, (y304.set (a1 : Int).toNat (-1)), t294, t295, 0)) = some (r1, r2, r3, r4, r5) := by first | (rw [hy308]; with_reducible exact H) | (have H2_ := (Option.bind_some _ _).symm.trans H; rw [hy308]; with_reducible exact H2_) | (have H2_ := (Option.bind_some _ _).symm.trans H; with_reducible exact H2_) | with_reducible exact H | (rw [hy308]; exact H) | exact H
                        have Ny308 := Aside0.mk hy308
                        (try clear hy308)
                        obtain ⟨y309, hy309⟩ : ∃ y_ : List Int, y_ = (y304.set (a1 : Int).toNat (-1)) := ⟨_, rfl⟩
                        replace H : (some (y308, y309, t294, t295, 0)) = some (r1, r2, r3, r4, r5) := by first | (rw [hy309]; with_reducible exact H) | (have H2_ := (Option.bind_some _ _).symm.trans H; rw [hy309]; with_reducible exact H2_) | (have H2_ := (Option.bind_some _ _).symm.trans H; with_reducible exact H2_) | with_reducible exact H | (rw [hy309]; exact H) | exact H
                        have Ny309 := Aside0.mk hy309
                        (try clear hy309)
                        simp only [Option.some.injEq, Prod.mk.injEq] at H
                        obtain ⟨rfl, rfl, rfl, rfl, rfl⟩ := H
                        go_enter Try.func14, Try.ntmps14
                        try go_wp2_with (first | ((with_reducible refine gate_dst (N := 2) rfl ?_); refine boxE (N := 2) (cs := #[.slice A0_0 l0_0.length c0_0, .slice A0_1 l0_1.length c0_1, .int .i64 a0_2, .int .i64 a0_3]) (t := 24) ?_; intro gb284 hg w112 hbox hb; have n0_ := Aside0.mk (below_step (pB HB.out) hb); have n1_ := Aside0.mk (hbox); have n3_ := Aside0.mk (pL HB.out hg); clear HB; have HB := n0_; have BK284 := n1_; have GE284 := n3_; clear n0_ n1_ n3_; clear hb hbox hg) | ((with_reducible refine gate_dst (N := 4) rfl ?_); refine boxE (N := 4) (cs := #[.slice none 0 0, .slice none 0 0, .int .i64 0, .int .i64 0]) (t := 24) ?_; intro gb285 hg w113 hbox hb; have n0_ := Aside0.mk (blk_below (pK BK284.out) hb); have n1_ := Aside0.mk (below_step (pB HB.out) hb); have n2_ := Aside0.mk (hbox); have n4_ := Aside0.mk (pL HB.out hg); have n5_ := Aside0.mk (pNl BK284.out hg); have n6_ := Aside0.mk (pNg BK284.out hg); clear BK284; clear HB; have BK284 := n0_; have HB := n1_; have BK285 := n2_; have GE285 := n4_; have NB284_285 := n5_; have NB285_284 := n6_; clear n0_ n1_ n2_ n4_ n5_ n6_; clear hb hbox hg; have hnb114 := NB284_285.out; have hnc114 := NB285_284.out; obtain ⟨hcz115_0, hcz115_1, hcz115_2, hcz115_3, hfz115_0, hfz115_1, hfz115_2, hfz115_3⟩ := bk4 BK284.out) | ((with_reducible refine gate_callee (f := 31) rfl ?_); refine goesE (some 10) rfl rfl Try.func31 (by kernel_rfl) rfl #[.agg #[.slice A0_0 l0_0.length c0_0, .slice A0_1 l0_1.length c0_1, .int .i64 a0_2, .int .i64 a0_3], .int .i64 a1] rfl ?_; (with_reducible refine (lru_check.calls k _ _ l0_0 _ _ l0_1 a0_2 a0_3 a1 t286 _ ?side1 ?side2 ?side3 ?side4 A3.out).mono ?_); (case side1 => exact Kd.pC ((Kd.C_below HR0_0.out HB.out))); (case side2 => exact HC0_0.out); (case side3 => exact Kd.pC ((Kd.C_below HR0_1.out HB.out))); (case side4 => exact HC0_1.out); rintro e w116 ⟨rfl, hb⟩; refine ⟨_, rfl, ?_⟩; have n0_ := Aside0.mk (blk_below (pK BK284.out) hb); have n1_ := Aside0.mk (blk_below (pK BK285.out) hb); have n2_ := Aside0.mk (below_step (pB HB.out) hb); clear BK284; clear BK285; clear HB; have BK284 := n0_; have BK285 := n1_; have HB := n2_; clear n0_ n1_ n2_; (try clear hb); (try clear hb2); (try clear hk); (try clear hi); obtain ⟨hcz117_0, hcz117_1, hcz117_2, hcz117_3, hfz117_0, hfz117_1, hfz117_2, hfz117_3⟩ := bk4 BK284.out) | ((with_reducible refine gate_callee (f := 33) rfl ?_); refine goesE (some 17) rfl rfl Try.func33 (by kernel_rfl) rfl #[.agg #[.slice A0_0 l0_0.length c0_0, .slice A0_1 l0_1.length c0_1, .int .i64 a0_2, .int .i64 a0_3], .int .i64 a1] rfl ?_; (with_reducible refine (lru_in.calls _ _ l0_0 _ _ l0_1 a0_2 a0_3 a1 true _ ?side1 ?side2 ?side3 ?side4 A5.out).mono ?_); (case side1 => exact Kd.pC ((Kd.C_below HR0_0.out HB.out))); (case side2 => exact HC0_0.out); (case side3 => exact Kd.pC ((Kd.C_below HR0_1.out HB.out))); (case side4 => exact HC0_1.out); rintro e w118 ⟨rfl, hb⟩; refine ⟨_, rfl, ?_⟩; have n0_ := Aside0.mk (blk_below (pK BK284.out) hb); have n1_ := Aside0.mk (blk_below (pK BK285.out) hb); have n2_ := Aside0.mk (below_step (pB HB.out) hb); clear BK284; clear BK285; clear HB; have BK284 := n0_; have BK285 := n1_; have HB := n2_; clear n0_ n1_ n2_; (try clear hb); (try clear hb2); (try clear hk); (try clear hi); obtain ⟨hcz119_0, hcz119_1, hcz119_2, hcz119_3, hfz119_0, hfz119_1, hfz119_2, hfz119_3⟩ := bk4 BK284.out) | ((with_reducible refine gate_callee (f := 32) rfl ?_); refine goesE (some 21) rfl rfl Try.func32 (by kernel_rfl) rfl #[.agg #[.slice A0_0 l0_0.length c0_0, .slice A0_1 l0_1.length c0_1, .int .i64 a0_2, .int .i64 a0_3]] rfl ?_; (with_reducible refine (lru_twin.calls _ _ l0_0 _ _ l0_1 a0_2 a0_3 t288 t291 t294 t295 _ ?side1 ?side2 ?side3 ?side4 A7.out).mono ?_); (case side1 => exact Kd.pC ((Kd.C_below HR0_0.out HB.out))); (case side2 => exact HC0_0.out); (case side3 => exact Kd.pC ((Kd.C_below HR0_1.out HB.out))); (case side4 => exact HC0_1.out); rintro e w120 ⟨v289, v292, rfl, ho0, ho1, hb⟩; refine ⟨_, rfl, ?_⟩; have n0_ := Aside0.mk (Kd.R_lower ho0 (below_size (pB HB.out))); have n1_ := Aside0.mk (Kd.R_lower ho1 (below_size (pB HB.out))); have n2_ := Aside0.mk (blk_below (pK BK284.out) hb); have n3_ := Aside0.mk (blk_below (pK BK285.out) hb); have n4_ := Aside0.mk (below_step (pB HB.out) hb); clear BK284; clear BK285; clear HB; have HO290 := n0_; have HO293 := n1_; have BK284 := n2_; have BK285 := n3_; have HB := n4_; clear n0_ n1_ n2_ n3_ n4_; (try clear hb); (try clear hb2); (try clear hk); (try clear hi); (try clear ho0); (try clear ho1)) | ((with_reducible refine gate_dst (N := 7) rfl ?_); refine boxE (N := 7) (cs := #[.slice none 0 0, .slice none 0 0, .int .i64 0, .int .i64 0]) (t := 24) ?_; intro gb296 hg w121 hbox hb; have n0_ := Aside0.mk (Kd.R_below (Kd.pR HO290.out) hb); have n1_ := Aside0.mk (Kd.R_below (Kd.pR HO293.out) hb); have n2_ := Aside0.mk (blk_below (pK BK284.out) hb); have n3_ := Aside0.mk (blk_below (pK BK285.out) hb); have n4_ := Aside0.mk (below_step (pB HB.out) hb); have n5_ := Aside0.mk (hbox); have n7_ := Aside0.mk (pL HB.out hg); have n8_ := Aside0.mk (pNl BK284.out hg); have n9_ := Aside0.mk (pNg BK284.out hg); have n10_ := Aside0.mk (pNl BK285.out hg); have n11_ := Aside0.mk (pNg BK285.out hg); clear HO290; clear HO293; clear BK284; clear BK285; clear HB; have HO290 := n0_; have HO293 := n1_; have BK284 := n2_; have BK285 := n3_; have HB := n4_; have BK296 := n5_; have GE296 := n7_; have NB284_296 := n8_; have NB296_284 := n9_; have NB285_296 := n10_; have NB296_285 := n11_; clear n0_ n1_ n2_ n3_ n4_ n5_ n7_ n8_ n9_ n10_ n11_; clear hb hbox hg; obtain ⟨Ao122, co122, eo122⟩ := Kd.R_slice HO290.out; subst eo122; have hnb123 := NB296_284.out; have hnc123 := NB284_296.out; have hnb124 := NB296_285.out; have hnc124 := NB285_296.out; obtain ⟨hcz125_0, hcz125_1, hcz125_2, hcz125_3, hfz125_0, hfz125_1, hfz125_2, hfz125_3⟩ := bk4 BK296.out; obtain ⟨Ao126, co126, eo126⟩ := Kd.R_slice HO293.out; subst eo126) | ((with_reducible refine gate_callee (f := 34) rfl ?_); refine goesL_ (some 23) rfl rfl Try.func34 (by kernel_rfl) rfl #[.pointer (some ⟨gb296, 0, none⟩), .int .i64 a1] rfl (by (try simp only [List.map_toArray, List.map_cons, List.map_nil]); first | done | rfl) ?_; go_enter Try.func34, Try.ntmps34))
                        have n0_ : Aside0 (Kd.R (Kd.int .i64) 3 ((((w121.setCell ⟨gb296, 0, none⟩ (.slice Ao122 t288.length co122)).setCell ⟨gb296, 1, none⟩ (.slice Ao126 t291.length co126)).setCell ⟨gb296, 2, none⟩ (.int .i64 t294)).setCell ⟨gb296, 3, none⟩ (.int .i64 t295)) w.heap.size (fun k_ => some k_ ≠ (.slice Ao126 t291.length co126 : Value).ownBlock) (.slice Ao122 t288.length co122) t288) := ⟨Kd.pR (Kd.R_mono (Kd.R_far (p := ⟨gb296, 3, none⟩) (Kd.R_far (p := ⟨gb296, 2, none⟩) (Kd.R_far (p := ⟨gb296, 1, none⟩) (Kd.R_far (p := ⟨gb296, 0, none⟩) (Kd.R_types HO290.out BK296.out (by decide)) (fun _ hk => hk.2) (.slice Ao122 t288.length co122)) (fun _ hk => hk.2) (.slice Ao126 t291.length co126)) (fun _ hk => hk.2) (.int .i64 t294)) (fun _ hk => hk.2) (.int .i64 t295)) (fun _ hk => hk.1))⟩
                        have n1_ : Aside0 (Kd.R (Kd.int .i64) 3 ((((w121.setCell ⟨gb296, 0, none⟩ (.slice Ao122 t288.length co122)).setCell ⟨gb296, 1, none⟩ (.slice Ao126 t291.length co126)).setCell ⟨gb296, 2, none⟩ (.int .i64 t294)).setCell ⟨gb296, 3, none⟩ (.int .i64 t295)) w.heap.size (fun k_ => some k_ ≠ (.slice Ao122 t288.length co122 : Value).ownBlock) (.slice Ao126 t291.length co126) t291) := ⟨Kd.pR (Kd.R_mono (Kd.R_far (p := ⟨gb296, 3, none⟩) (Kd.R_far (p := ⟨gb296, 2, none⟩) (Kd.R_far (p := ⟨gb296, 1, none⟩) (Kd.R_far (p := ⟨gb296, 0, none⟩) (Kd.R_types HO293.out BK296.out (by decide)) (fun _ hk => hk.2) (.slice Ao122 t288.length co122)) (fun _ hk => hk.2) (.slice Ao126 t291.length co126)) (fun _ hk => hk.2) (.int .i64 t294)) (fun _ hk => hk.2) (.int .i64 t295)) (fun _ hk => hk.1))⟩
                        have n2_ : Aside0 (((((w121.setCell ⟨gb296, 0, none⟩ (.slice Ao122 t288.length co122)).setCell ⟨gb296, 1, none⟩ (.slice Ao126 t291.length co126)).setCell ⟨gb296, 2, none⟩ (.int .i64 t294)).setCell ⟨gb296, 3, none⟩ (.int .i64 t295)).heap[gb284]? = some (.cells #[.slice A0_0 l0_0.length c0_0, .slice A0_1 l0_1.length c0_1, .int .i64 a0_2, .int .i64 a0_3] 24 (0, 0))) := ⟨by (with_reducible repeat (first | refine blk_drewN ?_ _ | refine blk_drew ?_ | refine blk_alloc ?_ _)); refine blk_far ?_ NB284_296.out _; (with_reducible repeat (first | refine blk_drewN ?_ _ | refine blk_drew ?_ | refine blk_alloc ?_ _)); refine blk_far ?_ NB284_296.out _; (with_reducible repeat (first | refine blk_drewN ?_ _ | refine blk_drew ?_ | refine blk_alloc ?_ _)); refine blk_far ?_ NB284_296.out _; (with_reducible repeat (first | refine blk_drewN ?_ _ | refine blk_drew ?_ | refine blk_alloc ?_ _)); refine blk_far ?_ NB284_296.out _; (with_reducible repeat (first | refine blk_drewN ?_ _ | refine blk_drew ?_ | refine blk_alloc ?_ _)); exact BK284.out⟩
                        have n3_ : Aside0 (((((w121.setCell ⟨gb296, 0, none⟩ (.slice Ao122 t288.length co122)).setCell ⟨gb296, 1, none⟩ (.slice Ao126 t291.length co126)).setCell ⟨gb296, 2, none⟩ (.int .i64 t294)).setCell ⟨gb296, 3, none⟩ (.int .i64 t295)).heap[gb285]? = some (.cells #[.slice none 0 0, .slice none 0 0, .int .i64 0, .int .i64 0] 24 (0, 0))) := ⟨by (with_reducible repeat (first | refine blk_drewN ?_ _ | refine blk_drew ?_ | refine blk_alloc ?_ _)); refine blk_far ?_ NB285_296.out _; (with_reducible repeat (first | refine blk_drewN ?_ _ | refine blk_drew ?_ | refine blk_alloc ?_ _)); refine blk_far ?_ NB285_296.out _; (with_reducible repeat (first | refine blk_drewN ?_ _ | refine blk_drew ?_ | refine blk_alloc ?_ _)); refine blk_far ?_ NB285_296.out _; (with_reducible repeat (first | refine blk_drewN ?_ _ | refine blk_drew ?_ | refine blk_alloc ?_ _)); refine blk_far ?_ NB285_296.out _; (with_reducible repeat (first | refine blk_drewN ?_ _ | refine blk_drew ?_ | refine blk_alloc ?_ _)); exact BK285.out⟩
                        have n4_ : Aside0 (((((w121.setCell ⟨gb296, 0, none⟩ (.slice Ao122 t288.length co122)).setCell ⟨gb296, 1, none⟩ (.slice Ao126 t291.length co126)).setCell ⟨gb296, 2, none⟩ (.int .i64 t294)).setCell ⟨gb296, 3, none⟩ (.int .i64 t295)).heap[gb296]? = some (.cells #[.slice Ao122 t288.length co122, .slice Ao126 t291.length co126, .int .i64 t294, .int .i64 t295] 24 (0, 0))) := ⟨by (with_reducible repeat (first | refine blk_drewN ?_ _ | refine blk_drew ?_ | refine blk_alloc ?_ _)); refine blk_put (cs := #[.slice Ao122 t288.length co122, .slice Ao126 t291.length co126, .int .i64 t294, .int .i64 0]) ?_ 3 _ rfl; (with_reducible repeat (first | refine blk_drewN ?_ _ | refine blk_drew ?_ | refine blk_alloc ?_ _)); refine blk_put (cs := #[.slice Ao122 t288.length co122, .slice Ao126 t291.length co126, .int .i64 0, .int .i64 0]) ?_ 2 _ rfl; (with_reducible repeat (first | refine blk_drewN ?_ _ | refine blk_drew ?_ | refine blk_alloc ?_ _)); refine blk_put (cs := #[.slice Ao122 t288.length co122, .slice none 0 0, .int .i64 0, .int .i64 0]) ?_ 1 _ rfl; (with_reducible repeat (first | refine blk_drewN ?_ _ | refine blk_drew ?_ | refine blk_alloc ?_ _)); refine blk_put (cs := #[.slice none 0 0, .slice none 0 0, .int .i64 0, .int .i64 0]) ?_ 0 _ rfl; (with_reducible repeat (first | refine blk_drewN ?_ _ | refine blk_drew ?_ | refine blk_alloc ?_ _)); exact BK296.out⟩
                        have n5_ : Aside0 (Below w.heap.size w ((((w121.setCell ⟨gb296, 0, none⟩ (.slice Ao122 t288.length co122)).setCell ⟨gb296, 1, none⟩ (.slice Ao126 t291.length co126)).setCell ⟨gb296, 2, none⟩ (.int .i64 t294)).setCell ⟨gb296, 3, none⟩ (.int .i64 t295))) := ⟨pB HB.out⟩
                        (try clear HO290)
                        (try clear HO293)
                        (try clear BK284)
                        (try clear BK285)
                        (try clear BK296)
                        (try clear HB)
                        generalize ((((w121.setCell ⟨gb296, 0, none⟩ (.slice Ao122 t288.length co122)).setCell ⟨gb296, 1, none⟩ (.slice Ao126 t291.length co126)).setCell ⟨gb296, 2, none⟩ (.int .i64 t294)).setCell ⟨gb296, 3, none⟩ (.int .i64 t295)) = w127 at n0_ n1_ n2_ n3_ n4_ n5_ ⊢
                        have HO290 := n0_
                        have HO293 := n1_
                        have BK284 := n2_
                        have BK285 := n3_
                        have BK296 := n4_
                        have HB := n5_
                        clear n0_ n1_ n2_ n3_ n4_ n5_
                        have n0_ := Aside0.mk (Kd.R_drew HO290.out)
                        have n1_ := Aside0.mk (Kd.R_drew HO293.out)
                        have n2_ := Aside0.mk (blk_drew BK284.out)
                        have n3_ := Aside0.mk (blk_drew BK285.out)
                        have n4_ := Aside0.mk (blk_drew BK296.out)
                        have n5_ := Aside0.mk (below_drew1 HB.out)
                        clear HO290
                        clear HO293
                        clear BK284
                        clear BK285
                        clear BK296
                        clear HB
                        have HO290 := n0_
                        have HO293 := n1_
                        have BK284 := n2_
                        have BK285 := n3_
                        have BK296 := n4_
                        have HB := n5_
                        clear n0_ n1_ n2_ n3_ n4_ n5_
                        have p297 : 0 ≤ (a1 : Int) := od
                        have q297 : a1 < (t288.length : Int) := od
                        obtain ⟨ad297, e297, hx297_0⟩ := Kd.at_int (Kd.R_reads' HO290.out).2.2 a1 p297 q297
                        cases e297
                        replace p297 := eq_true p297
                        replace q297 := eq_true q297
                        have p298 : 0 ≤ (a1 : Int) := od
                        have q298 : a1 < (t291.length : Int) := od
                        obtain ⟨ad298, e298, hx298_0⟩ := Kd.at_int (Kd.R_reads' HO293.out).2.2 a1 p298 q298
                        cases e298
                        replace p298 := eq_true p298
                        replace q298 := eq_true q298
                        refine start_ (n := 16) (S := fun w' => w'.cell? ⟨gb296, 0, none⟩ = some (.slice (some ad297) t288.length co122) ∧ w'.cell? ⟨gb296, 1, none⟩ = some (.slice (some ad298) t291.length co126) ∧ w'.cell? ⟨gb296, 2, none⟩ = some (.int .i64 t294) ∧ w'.cell? ⟨gb296, 3, none⟩ = some (.int .i64 t295) ∧ w'.cell? (ad297.add (a1).toNat) = some (.int .i64 (rd t288 a1)) ∧ w'.cell? (ad298.add (a1).toNat) = some (.int .i64 (rd t291 a1))) (ds := []) #[false, false, false, false, false, false, false, false, false, false, false, false, false, false, false, false] (by kernel_rfl) rfl rfl ⟨(blk_cell BK296.out 0).trans rfl, (blk_cell BK296.out 1).trans rfl, (blk_cell BK296.out 2).trans rfl, (blk_cell BK296.out 3).trans rfl, hx297_0, hx298_0⟩ (fun hHeld => ?_); refine with_tabW lru_Remove.tab34000 lru_Remove.bits34000 (fun HT_ HW_ => ?_)
                        generalize w127.drew = w128 at HO290 HO293 BK284 BK285 BK296 HB hx297_0 hx298_0 hHeld ⊢
                        refine pure_ (i := 0) (N := some 6) (v := ?_) (a' := ?_) #[true, false, false, false, false, false, false, false, false, false, false, false, false, false, false, false] rfl rfl (any_of HT_.out (by kernel_rfl)) (fun _ _ _ h => h) (Or.inl ⟨by rfl, ?_⟩) ?_ ?_
                        rotate_left
                        · intro w'
                          go_simp
                          with_reducible rfl
                        rotate_left
                        · simp only [Act.put, List.setIfInBounds_toArray, List.set_cons_zero, List.set_cons_succ, i64_w, i32_w]
                          rfl
                        refine pure_ (i := 1) (N := some 7) (v := ?_) (a' := ?_) #[true, true, false, false, false, false, false, false, false, false, false, false, false, false, false, false] rfl rfl (any_of HT_.out (by kernel_rfl)) (fun _ _ _ h => h) (Or.inl ⟨by rfl, ?_⟩) ?_ ?_
                        rotate_left
                        · intro w'
                          go_simp
                          with_reducible rfl
                        rotate_left
                        · simp only [Act.put, List.setIfInBounds_toArray, List.set_cons_zero, List.set_cons_succ, i64_w, i32_w]
                          rfl
                        refine pure_ (i := 2) (N := some 8) (v := ?_) (a' := ?_) #[true, true, true, false, false, false, false, false, false, false, false, false, false, false, false, false] rfl rfl (any_of HT_.out (by kernel_rfl)) (fun _ _ _ h => h) (Or.inl ⟨by rfl, ?_⟩) ?_ ?_
                        rotate_left
                        · intro w'
                          go_simp
                          with_reducible rfl
                        rotate_left
                        · simp only [Act.put, List.setIfInBounds_toArray, List.set_cons_zero, List.set_cons_succ, i64_w, i32_w]
                          rfl
                        refine pure_ (i := 4) (N := some 10) (v := ?_) (a' := ?_) #[true, true, true, false, true, false, false, false, false, false, false, false, false, false, false, false] rfl rfl (any_of HT_.out (by kernel_rfl)) (fun _ _ _ h => h) (Or.inl ⟨by rfl, ?_⟩) ?_ ?_
                        rotate_left
                        · intro w'
                          go_simp
                          with_reducible rfl
                        rotate_left
                        · simp only [Act.put, List.setIfInBounds_toArray, List.set_cons_zero, List.set_cons_succ, i64_w, i32_w]
                          rfl
                        refine pure_ (i := 7) (N := some 13) (v := ?_) (a' := ?_) #[true, true, true, false, true, false, false, true, false, false, false, false, false, false, false, false] rfl rfl (any_of HT_.out (by kernel_rfl)) (fun _ _ _ h => h) (Or.inl ⟨by rfl, ?_⟩) ?_ ?_
                        rotate_left
                        · intro w'
                          go_simp
                          with_reducible rfl
                        rotate_left
                        · simp only [Act.put, List.setIfInBounds_toArray, List.set_cons_zero, List.set_cons_succ, i64_w, i32_w]
                          rfl
                        refine pure_ (i := 8) (N := some 14) (v := ?_) (a' := ?_) #[true, true, true, false, true, false, false, true, true, false, false, false, false, false, false, false] rfl rfl (any_of HT_.out (by kernel_rfl)) (fun _ _ _ h => h) (Or.inl ⟨by rfl, ?_⟩) ?_ ?_
                        rotate_left
                        · intro w'
                          go_simp
                          with_reducible rfl
                        rotate_left
                        · simp only [Act.put, List.setIfInBounds_toArray, List.set_cons_zero, List.set_cons_succ, i64_w, i32_w]
                          rfl
                        refine pure_ (i := 9) (N := some 15) (v := ?_) (a' := ?_) #[true, true, true, false, true, false, false, true, true, true, false, false, false, false, false, false] rfl rfl (any_of HT_.out (by kernel_rfl)) (fun _ _ _ h => h) (Or.inl ⟨by rfl, ?_⟩) ?_ ?_
                        rotate_left
                        · intro w'
                          go_simp
                          with_reducible rfl
                        rotate_left
                        · simp only [Act.put, List.setIfInBounds_toArray, List.set_cons_zero, List.set_cons_succ, i64_w, i32_w]
                          rfl
                        refine pure_ (i := 11) (N := some 17) (v := ?_) (a' := ?_) #[true, true, true, false, true, false, false, true, true, true, false, true, false, false, false, false] rfl rfl (any_of HT_.out (by kernel_rfl)) (fun _ _ _ h => h) (Or.inl ⟨by rfl, ?_⟩) ?_ ?_
                        rotate_left
                        · intro w'
                          go_simp
                          with_reducible rfl
                        rotate_left
                        · simp only [Act.put, List.setIfInBounds_toArray, List.set_cons_zero, List.set_cons_succ, i64_w, i32_w]
                          rfl
                        refine take_ (i := 3) (N := some 9) (v := ?_) (a' := ?_) #[true, true, true, true, true, false, false, true, true, true, false, true, false, false, false, false] rfl rfl (take_ofW HT_.out HW_.out (by kernel_rfl)) (fun _ _ _ h => h) (Or.inl ⟨by rfl, ?_⟩) hHeld ?_ ?_
                        rotate_left
                        · rintro w' ⟨s0, s1, s2, s3, s4, s5⟩
                          go_simp
                          with_reducible rfl
                        rotate_left
                        · simp only [Act.put, List.setIfInBounds_toArray, List.set_cons_zero, List.set_cons_succ, i64_w, i32_w]
                          rfl
                        refine pure_ (i := 5) (N := some 11) (v := ?_) (a' := ?_) #[true, true, true, true, true, true, false, true, true, true, false, true, false, false, false, false] rfl rfl (any_of HT_.out (by kernel_rfl)) (fun _ _ _ h => h) (Or.inl ⟨by rfl, ?_⟩) ?_ ?_
                        rotate_left
                        · intro w'
                          go_simp
                          with_reducible rfl
                        rotate_left
                        · simp only [Act.put, List.setIfInBounds_toArray, List.set_cons_zero, List.set_cons_succ, i64_w, i32_w]
                          rfl
                        refine take_ (i := 6) (N := some 12) (v := ?_) (a' := ?_) #[true, true, true, true, true, true, true, true, true, true, false, true, false, false, false, false] rfl rfl (take_ofW HT_.out HW_.out (by kernel_rfl)) (fun _ _ _ h => h) (Or.inl ⟨by rfl, ?_⟩) hHeld ?_ ?_
                        rotate_left
                        · rintro w' ⟨s0, s1, s2, s3, s4, s5⟩
                          go_simp
                          with_reducible rfl
                        rotate_left
                        · simp only [Act.put, List.setIfInBounds_toArray, List.set_cons_zero, List.set_cons_succ, i64_w, i32_w]
                          rfl
                        refine pure_ (i := 14) (N := some 4) (v := ?_) (a' := ?_) #[true, true, true, true, true, true, true, true, true, true, false, true, false, false, true, false] rfl rfl (any_of HT_.out (by kernel_rfl)) (fun _ _ _ h => h) (Or.inl ⟨by rfl, ?_⟩) ?_ ?_
                        rotate_left
                        · intro w'
                          go_simp
                          with_reducible rfl
                        rotate_left
                        · simp only [Act.put, List.setIfInBounds_toArray, List.set_cons_zero, List.set_cons_succ, i64_w, i32_w]
                          rfl
                        refine take_ (i := 10) (N := some 16) (v := ?_) (a' := ?_) #[true, true, true, true, true, true, true, true, true, true, true, true, false, false, true, false] rfl rfl (take_ofW HT_.out HW_.out (by kernel_rfl)) (fun _ _ _ h => h) (Or.inl ⟨by rfl, ?_⟩) hHeld ?_ ?_
                        rotate_left
                        · rintro w' ⟨s0, s1, s2, s3, s4, s5⟩
                          go_simp
                          with_reducible rfl
                        rotate_left
                        · simp only [Act.put, List.setIfInBounds_toArray, List.set_cons_zero, List.set_cons_succ, i64_w, i32_w]
                          rfl
                        refine pure_ (i := 12) (N := some 18) (v := ?_) (a' := ?_) #[true, true, true, true, true, true, true, true, true, true, true, true, true, false, true, false] rfl rfl (any_of HT_.out (by kernel_rfl)) (fun _ _ _ h => h) (Or.inl ⟨by rfl, ?_⟩) ?_ ?_
                        rotate_left
                        · intro w'
                          go_simp
                          with_reducible rfl
                        rotate_left
                        · simp only [Act.put, List.setIfInBounds_toArray, List.set_cons_zero, List.set_cons_succ, i64_w, i32_w]
                          rfl
                        refine take_ (i := 13) (N := some 19) (v := ?_) (a' := ?_) #[true, true, true, true, true, true, true, true, true, true, true, true, true, true, true, false] rfl rfl (take_ofW HT_.out HW_.out (by kernel_rfl)) (fun _ _ _ h => h) (Or.inl ⟨by rfl, ?_⟩) hHeld ?_ ?_
                        rotate_left
                        · rintro w' ⟨s0, s1, s2, s3, s4, s5⟩
                          go_simp
                          with_reducible rfl
                        rotate_left
                        · simp only [Act.put, List.setIfInBounds_toArray, List.set_cons_zero, List.set_cons_succ, i64_w, i32_w]
                          rfl
                        refine pure_ (i := 15) (N := some 5) (v := ?_) (a' := ?_) #[true, true, true, true, true, true, true, true, true, true, true, true, true, true, true, true] rfl rfl (any_of HT_.out (by kernel_rfl)) (fun _ _ _ h => h) (Or.inl ⟨by rfl, ?_⟩) ?_ ?_
                        rotate_left
                        · intro w'
                          go_simp
                          with_reducible rfl
                        rotate_left
                        · simp only [Act.put, List.setIfInBounds_toArray, List.set_cons_zero, List.set_cons_succ, i64_w, i32_w]
                          rfl
                        refine done_ (done_of HT_.out (by kernel_rfl)) ?_
                        obtain ⟨hcz129_0, hcz129_1, hcz129_2, hcz129_3, hfz129_0, hfz129_1, hfz129_2, hfz129_3⟩ := bk4 BK296.out
                        have p75 : 0 ≤ ((rd t288 a1) : Int) := od
                        have q75 : ((rd t288 a1) : Int) < ((t291.length : Int) : Int) := od
                        obtain ⟨go75, co75, eo75, gb75, gl75, cl75, HG75⟩ := Kd.R_form HO293.out (by omega)
                        (first | cases eo75 | (injection eo75 with ea_ en_ ec_; (first | subst ea_ | (injection ea_ with ea_; subst ea_)); subst ec_; clear en_))
                        have GB75 := Aside0.mk gb75
                        have GG75 := Aside0.mk HG75
                        clear gb75 gl75 HG75
                        (first | simp only [add_plain] at hx298_0 | skip)
                        obtain ⟨hx75_0, hf75_0⟩ := Kd.R_celln 0 HO293.out ((rd t288 a1) : Int) p75 q75
                        replace p75 := eq_true p75
                        replace q75 := eq_true q75
                        obtain ⟨hy130_, hz130_⟩ := Kd.R_celln 0 HO293.out ((rd t288 a1) : Int) od od
                        have HP130 := Kd.R_putg HO293.out ((rd t288 a1) : Int) (rd t291 a1)
                        try go_wp2_with (first | ((with_reducible refine gate_store (t := 3) (p := 32) rfl ?_); refine store_event (t := 3) (p := 32) (v := ?vo_w131) (w1 := (w128.setCell ⟨go75, ((rd t288 a1) : Int).toNat, none⟩ (.int .i64 (rd t291 a1)))) ?hg ?ho ?hn ?hr ?_; (case ho => rfl); (case hg => rfl); (case hn => rfl); (case hr => first | (go_simp; done) | (go_simp; rfl)); intro w131 hw; have hg : w128.grownBy w131 (some go75) := (by rw [hw]; exact HP130.2); have hp_ : Kd.R (Kd.int .i64) 3 w131 w.heap.size (fun k_ => some k_ ≠ (.slice (some ad297) t288.length co122 : Value).ownBlock) (.slice (some ⟨go75, 0, none⟩) t291.length co126) y304 := (by rw [hw, Ny304.out]; exact HP130.1); (try clear HP130); have n0_ := Aside0.mk (blk_grown (pK BK284.out) hg (Kd.R_ne HO293.out BK284.out (by decide))); have n1_ := Aside0.mk (blk_grown (pK BK285.out) hg (Kd.R_ne HO293.out BK285.out (by decide))); have n2_ := Aside0.mk (Kd.R_after (v := (.slice (some ⟨go75, 0, none⟩) t291.length co126)) (v1 := (.slice (some ⟨go75, 0, none⟩) t291.length co126)) (ok := (fun _ => True)) (Kd.pR (Kd.R_mono HO290.out (fun _ hk => ⟨trivial, hk⟩))) hg (.inl rfl)); have n3_ := Aside0.mk (hp_); have n4_ := Aside0.mk (blk_grown (pK BK296.out) hg (Kd.R_ne HO293.out BK296.out (by decide))); have n5_ := Aside0.mk ((by rw [hw]; exact below_set (HB.out) GB75.out : Below w.heap.size w w131)); clear BK284; clear BK285; clear HO290; clear HO293; clear BK296; clear HB; have BK284 := n0_; have BK285 := n1_; have HO290 := n2_; have HO293 := n3_; have BK296 := n4_; have HB := n5_; clear n0_ n1_ n2_ n3_ n4_ n5_; clear hg hw hp_; obtain ⟨hcz132_0, hcz132_1, hcz132_2, hcz132_3, hfz132_0, hfz132_1, hfz132_2, hfz132_3⟩ := bk4 BK296.out; have p109 : 0 ≤ ((rd t291 a1) : Int) := od; have q109 : ((rd t291 a1) : Int) < ((t288.length : Int) : Int) := od; obtain ⟨go109, co109, eo109, gb109, gl109, cl109, HG109⟩ := Kd.R_form HO290.out (by omega); (first | cases eo109 | (injection eo109 with ea_ en_ ec_; (first | subst ea_ | (injection ea_ with ea_; subst ea_)); subst ec_; clear en_)); have GB109 := Aside0.mk gb109; have GG109 := Aside0.mk HG109; clear gb109 gl109 HG109; (first | simp only [add_plain] at hx297_0 | skip); obtain ⟨hx109_0, hf109_0⟩ := Kd.R_celln 0 HO290.out ((rd t291 a1) : Int) p109 q109; replace p109 := eq_true p109; replace q109 := eq_true q109; have n_ := Aside0.mk (Kd.R_mono (ok' := (fun k_ => some k_ ≠ (.slice (some ⟨go75, 0, none⟩) t291.length co126 : Value).ownBlock)) HO290.out (fun k_ hk => hk.2)); clear HO290; have HO290 := n_; (try clear n_); obtain ⟨hy133_, hz133_⟩ := Kd.R_celln 0 HO290.out ((rd t291 a1) : Int) od od; have HP133 := Kd.R_putg HO290.out ((rd t291 a1) : Int) (rd t288 a1)) | ((with_reducible refine gate_store (t := 3) (p := 45) rfl ?_); refine store_event (t := 3) (p := 45) (v := ?vo_w134) (w1 := (w131.setCell ⟨go109, ((rd t291 a1) : Int).toNat, none⟩ (.int .i64 (rd t288 a1)))) ?hg ?ho ?hn ?hr ?_; (case ho => rfl); (case hg => rfl); (case hn => rfl); (case hr => first | (go_simp; done) | (go_simp; rfl)); intro w134 hw; have hg : w131.grownBy w134 (some go109) := (by rw [hw]; exact HP133.2); have hp_ : Kd.R (Kd.int .i64) 3 w134 w.heap.size (fun k_ => some k_ ≠ (.slice (some ⟨go75, 0, none⟩) t291.length co126 : Value).ownBlock) (.slice (some ⟨go109, 0, none⟩) t288.length co122) y307 := (by rw [hw, Ny307.out]; exact HP133.1); (try clear HP133); have n0_ := Aside0.mk (blk_grown (pK BK284.out) hg (Kd.R_ne HO290.out BK284.out (by decide))); have n1_ := Aside0.mk (blk_grown (pK BK285.out) hg (Kd.R_ne HO290.out BK285.out (by decide))); have n2_ := Aside0.mk (hp_); have n3_ := Aside0.mk (Kd.R_after (v := (.slice (some ⟨go109, 0, none⟩) t288.length co122)) (v1 := (.slice (some ⟨go109, 0, none⟩) t288.length co122)) (ok := (fun _ => True)) (Kd.pR (Kd.R_mono HO293.out (fun _ hk => ⟨trivial, hk⟩))) hg (.inl rfl)); have n4_ := Aside0.mk (blk_grown (pK BK296.out) hg (Kd.R_ne HO290.out BK296.out (by decide))); have n5_ := Aside0.mk ((by rw [hw]; exact below_set (HB.out) GB109.out : Below w.heap.size w w134)); clear BK284; clear BK285; clear HO290; clear HO293; clear BK296; clear HB; have BK284 := n0_; have BK285 := n1_; have HO290 := n2_; have HO293 := n3_; have BK296 := n4_; have HB := n5_; clear n0_ n1_ n2_ n3_ n4_ n5_; clear hg hw hp_))
                        have n0_ := Aside0.mk (Kd.R_drew HO290.out)
                        have n1_ := Aside0.mk (Kd.R_drew HO293.out)
                        have n2_ := Aside0.mk (blk_drew BK284.out)
                        have n3_ := Aside0.mk (blk_drew BK285.out)
                        have n4_ := Aside0.mk (blk_drew BK296.out)
                        have n5_ := Aside0.mk (below_drew1 HB.out)
                        clear HO290
                        clear HO293
                        clear BK284
                        clear BK285
                        clear BK296
                        clear HB
                        have HO290 := n0_
                        have HO293 := n1_
                        have BK284 := n2_
                        have BK285 := n3_
                        have BK296 := n4_
                        have HB := n5_
                        clear n0_ n1_ n2_ n3_ n4_ n5_
                        have p110 : 0 ≤ (a1 : Int) := od
                        have q110 : (a1 : Int) < ((t288.length : Int) : Int) := od
                        obtain ⟨hx110_0, hf110_0⟩ := Kd.R_celln 0 HO290.out (a1 : Int) p110 q110
                        replace p110 := eq_true p110
                        replace q110 := eq_true q110
                        have HP136 := Kd.R_putn HO290.out (a1 : Int) (-1)
                        rw [← Ny308.out] at HP136
                        have HQ136 := Aside0.mk HP136
                        (try clear HP136)
                        have p111 : 0 ≤ (a1 : Int) := od
                        have q111 : (a1 : Int) < ((t291.length : Int) : Int) := od
                        obtain ⟨hx111_0, hf111_0⟩ := Kd.R_celln 0 (Kd.R_far (p := ⟨go109, (a1 : Int).toNat, none⟩) (Kd.R_mono HO293.out (fun k_ hk => (⟨hk, fun e_ => hk.2 (by rw [e_]; rfl)⟩ : _ ∧ k_ ≠ go109))) (fun _ hk => hk.2) (.int .i64 (-1))) (a1 : Int) p111 q111
                        replace p111 := eq_true p111
                        replace q111 := eq_true q111
                        have HP137 := Kd.R_putn (Kd.R_far (p := ⟨go109, (a1 : Int).toNat, none⟩) (Kd.R_mono HO293.out (fun k_ hk => (⟨hk, fun e_ => hk.2 (by rw [e_]; rfl)⟩ : _ ∧ k_ ≠ go109))) (fun _ hk => hk.2) (.int .i64 (-1))) (a1 : Int) (-1)
                        rw [← Ny309.out] at HP137
                        have HQ137 := Aside0.mk HP137
                        (try clear HP137)
                        refine start_ (n := 14) (S := fun w' => w'.cell? ⟨gb296, 0, none⟩ = some (.slice (some ⟨go109, 0, none⟩) t288.length co122) ∧ w'.cell? ⟨gb296, 1, none⟩ = some (.slice (some ⟨go75, 0, none⟩) t291.length co126) ∧ w'.cell? ⟨gb296, 2, none⟩ = some (.int .i64 t294) ∧ w'.cell? ⟨gb296, 3, none⟩ = some (.int .i64 t295)) (ds := [11, 13]) #[false, false, false, false, false, false, false, false, false, false, false, false, false, false] (by kernel_rfl) rfl rfl ⟨(blk_cell BK296.out 0).trans rfl, (blk_cell BK296.out 1).trans rfl, (blk_cell BK296.out 2).trans rfl, (blk_cell BK296.out 3).trans rfl⟩ (fun hHeld => ?_); refine with_tabW lru_Remove.tab34007 lru_Remove.bits34007 (fun HT_ HW_ => ?_)
                        generalize w134.drew = w135 at HO290 HO293 BK284 BK285 BK296 HB HQ136 HQ137 hf110_0 hf111_0 hx110_0 hx111_0 hHeld ⊢
                        refine pure_ (i := 0) (N := some 46) (v := ?_) (a' := ?_) #[true, false, false, false, false, false, false, false, false, false, false, false, false, false] rfl rfl (any_of HT_.out (by kernel_rfl)) (fun _ _ _ h => h) (Or.inl ⟨by rfl, ?_⟩) ?_ ?_
                        rotate_left
                        · intro w'
                          go_simp
                          with_reducible rfl
                        rotate_left
                        · simp only [Act.put, List.setIfInBounds_toArray, List.set_cons_zero, List.set_cons_succ, i64_w, i32_w]
                          rfl
                        refine pure_ (i := 1) (N := some 47) (v := ?_) (a' := ?_) #[true, true, false, false, false, false, false, false, false, false, false, false, false, false] rfl rfl (any_of HT_.out (by kernel_rfl)) (fun _ _ _ h => h) (Or.inl ⟨by rfl, ?_⟩) ?_ ?_
                        rotate_left
                        · intro w'
                          go_simp
                          with_reducible rfl
                        rotate_left
                        · simp only [Act.put, List.setIfInBounds_toArray, List.set_cons_zero, List.set_cons_succ, i64_w, i32_w]
                          rfl
                        refine pure_ (i := 2) (N := some 48) (v := ?_) (a' := ?_) #[true, true, true, false, false, false, false, false, false, false, false, false, false, false] rfl rfl (any_of HT_.out (by kernel_rfl)) (fun _ _ _ h => h) (Or.inl ⟨by rfl, ?_⟩) ?_ ?_
                        rotate_left
                        · intro w'
                          go_simp
                          with_reducible rfl
                        rotate_left
                        · simp only [Act.put, List.setIfInBounds_toArray, List.set_cons_zero, List.set_cons_succ, i64_w, i32_w]
                          rfl
                        refine pure_ (i := 4) (N := some 50) (v := ?_) (a' := ?_) #[true, true, true, false, true, false, false, false, false, false, false, false, false, false] rfl rfl (any_of HT_.out (by kernel_rfl)) (fun _ _ _ h => h) (Or.inl ⟨by rfl, ?_⟩) ?_ ?_
                        rotate_left
                        · intro w'
                          go_simp
                          with_reducible rfl
                        rotate_left
                        · simp only [Act.put, List.setIfInBounds_toArray, List.set_cons_zero, List.set_cons_succ, i64_w, i32_w]
                          rfl
                        refine pure_ (i := 5) (N := some 51) (v := ?_) (a' := ?_) #[true, true, true, false, true, true, false, false, false, false, false, false, false, false] rfl rfl (any_of HT_.out (by kernel_rfl)) (fun _ _ _ h => h) (Or.inl ⟨by rfl, ?_⟩) ?_ ?_
                        rotate_left
                        · intro w'
                          go_simp
                          with_reducible rfl
                        rotate_left
                        · simp only [Act.put, List.setIfInBounds_toArray, List.set_cons_zero, List.set_cons_succ, i64_w, i32_w]
                          rfl
                        refine pure_ (i := 6) (N := some 52) (v := ?_) (a' := ?_) #[true, true, true, false, true, true, true, false, false, false, false, false, false, false] rfl rfl (any_of HT_.out (by kernel_rfl)) (fun _ _ _ h => h) (Or.inl ⟨by rfl, ?_⟩) ?_ ?_
                        rotate_left
                        · intro w'
                          go_simp
                          with_reducible rfl
                        rotate_left
                        · simp only [Act.put, List.setIfInBounds_toArray, List.set_cons_zero, List.set_cons_succ, i64_w, i32_w]
                          rfl
                        refine pure_ (i := 7) (N := some 53) (v := ?_) (a' := ?_) #[true, true, true, false, true, true, true, true, false, false, false, false, false, false] rfl rfl (any_of HT_.out (by kernel_rfl)) (fun _ _ _ h => h) (Or.inl ⟨by rfl, ?_⟩) ?_ ?_
                        rotate_left
                        · intro w'
                          go_simp
                          with_reducible rfl
                        rotate_left
                        · simp only [Act.put, List.setIfInBounds_toArray, List.set_cons_zero, List.set_cons_succ, i64_w, i32_w]
                          rfl
                        refine pure_ (i := 9) (N := some 55) (v := ?_) (a' := ?_) #[true, true, true, false, true, true, true, true, false, true, false, false, false, false] rfl rfl (any_of HT_.out (by kernel_rfl)) (fun _ _ _ h => h) (Or.inl ⟨by rfl, ?_⟩) ?_ ?_
                        rotate_left
                        · intro w'
                          go_simp
                          with_reducible rfl
                        rotate_left
                        · simp only [Act.put, List.setIfInBounds_toArray, List.set_cons_zero, List.set_cons_succ, i64_w, i32_w]
                          rfl
                        refine take_ (i := 3) (N := some 49) (v := ?_) (a' := ?_) #[true, true, true, true, true, true, true, true, false, true, false, false, false, false] rfl rfl (take_ofW HT_.out HW_.out (by kernel_rfl)) (fun _ _ _ h => h) (Or.inl ⟨by rfl, ?_⟩) hHeld ?_ ?_
                        rotate_left
                        · rintro w' ⟨s0, s1, s2, s3⟩
                          go_simp
                          with_reducible rfl
                        rotate_left
                        · simp only [Act.put, List.setIfInBounds_toArray, List.set_cons_zero, List.set_cons_succ, i64_w, i32_w]
                          rfl
                        refine take_ (i := 8) (N := some 54) (v := ?_) (a' := ?_) #[true, true, true, true, true, true, true, true, true, true, false, false, false, false] rfl rfl (take_ofW HT_.out HW_.out (by kernel_rfl)) (fun _ _ _ h => h) (Or.inl ⟨by rfl, ?_⟩) hHeld ?_ ?_
                        rotate_left
                        · rintro w' ⟨s0, s1, s2, s3⟩
                          go_simp
                          with_reducible rfl
                        rotate_left
                        · simp only [Act.put, List.setIfInBounds_toArray, List.set_cons_zero, List.set_cons_succ, i64_w, i32_w]
                          rfl
                        refine pure_ (i := 10) (N := some 56) (v := ?_) (a' := ?_) #[true, true, true, true, true, true, true, true, true, true, true, false, false, false] rfl rfl (any_of HT_.out (by kernel_rfl)) (fun _ _ _ h => h) (Or.inl ⟨by rfl, ?_⟩) ?_ ?_
                        rotate_left
                        · intro w'
                          go_simp
                          with_reducible rfl
                        rotate_left
                        · simp only [Act.put, List.setIfInBounds_toArray, List.set_cons_zero, List.set_cons_succ, i64_w, i32_w]
                          rfl
                        refine last_ (i := 11) (N := none) #[true, true, true, true, true, true, true, true, true, true, true, true, false, false] rfl rfl (one_of HT_.out (by kernel_rfl)) (by decide) (fun K hK => ?_)
                        refine skip_ (w1 := ?_) (by rfl) rfl ?_ ?_
                        rotate_left
                        · go_simp
                          rfl
                        refine hK.out _ _ ?_
                        clear hK K
                        refine pure_ (i := 12) (N := some 57) (v := ?_) (a' := ?_) #[true, true, true, true, true, true, true, true, true, true, true, true, true, false] rfl rfl (any_of HT_.out (by kernel_rfl)) (fun _ _ _ h => h) (Or.inl ⟨by rfl, ?_⟩) ?_ ?_
                        rotate_left
                        · intro w'
                          go_simp
                          with_reducible rfl
                        rotate_left
                        · simp only [Act.put, List.setIfInBounds_toArray, List.set_cons_zero, List.set_cons_succ, i64_w, i32_w]
                          rfl
                        refine last_ (i := 13) (N := none) #[true, true, true, true, true, true, true, true, true, true, true, true, true, true] rfl rfl (one_of HT_.out (by kernel_rfl)) (by decide) (fun K hK => ?_)
                        refine skip_ (w1 := ?_) (by rfl) rfl ?_ ?_
                        rotate_left
                        · go_simp
                          rfl
                        refine hK.out _ _ ?_
                        clear hK K
                        refine done_ (done_of HT_.out (by kernel_rfl)) ?_
                        have n0_ : Aside0 (Kd.R (Kd.int .i64) 3 ((w135.setCell ⟨go109, (a1 : Int).toNat, none⟩ (.int .i64 (-1))).setCell ⟨go75, (a1 : Int).toNat, none⟩ (.int .i64 (-1))) w.heap.size (fun k_ => some k_ ≠ (.slice (some ⟨go75, 0, none⟩) t291.length co126 : Value).ownBlock) (.slice (some ⟨go109, 0, none⟩) t288.length co122) y308) := ⟨Kd.pR (Kd.R_mono (Kd.R_far (p := ⟨go75, (a1 : Int).toNat, none⟩) (Kd.R_mono HQ136.out (fun k_ hk => (⟨hk, fun e_ => hk (by rw [e_]; rfl)⟩ : _ ∧ k_ ≠ go75))) (fun _ hk => hk.2) (.int .i64 (-1))) (fun _ hk => hk.1))⟩
                        have n1_ : Aside0 (Kd.R (Kd.int .i64) 3 ((w135.setCell ⟨go109, (a1 : Int).toNat, none⟩ (.int .i64 (-1))).setCell ⟨go75, (a1 : Int).toNat, none⟩ (.int .i64 (-1))) w.heap.size (fun k_ => some k_ ≠ (.slice (some ⟨go109, 0, none⟩) t288.length co122 : Value).ownBlock) (.slice (some ⟨go75, 0, none⟩) t291.length co126) y309) := ⟨Kd.pR (Kd.R_mono HQ137.out (fun _ hk => hk.1.2))⟩
                        have n3_ : Aside0 (((w135.setCell ⟨go109, (a1 : Int).toNat, none⟩ (.int .i64 (-1))).setCell ⟨go75, (a1 : Int).toNat, none⟩ (.int .i64 (-1))).heap[gb285]? = some (.cells #[.slice none 0 0, .slice none 0 0, .int .i64 0, .int .i64 0] 24 (0, 0))) := ⟨by (with_reducible repeat (first | refine blk_drewN ?_ _ | refine blk_drew ?_ | refine blk_alloc ?_ _)); refine blk_far ?_ (by have h_ := Kd.R_ne HO293.out BK285.out (by decide); intro e_; exact h_ (by rw [e_]; rfl)) _; (with_reducible repeat (first | refine blk_drewN ?_ _ | refine blk_drew ?_ | refine blk_alloc ?_ _)); refine blk_far ?_ (by have h_ := Kd.R_ne HO290.out BK285.out (by decide); intro e_; exact h_ (by rw [e_]; rfl)) _; (with_reducible repeat (first | refine blk_drewN ?_ _ | refine blk_drew ?_ | refine blk_alloc ?_ _)); exact BK285.out⟩
                        have n4_ : Aside0 (((w135.setCell ⟨go109, (a1 : Int).toNat, none⟩ (.int .i64 (-1))).setCell ⟨go75, (a1 : Int).toNat, none⟩ (.int .i64 (-1))).heap[gb296]? = some (.cells #[.slice (some ⟨go109, 0, none⟩) t288.length co122, .slice (some ⟨go75, 0, none⟩) t291.length co126, .int .i64 t294, .int .i64 t295] 24 (0, 0))) := ⟨by (with_reducible repeat (first | refine blk_drewN ?_ _ | refine blk_drew ?_ | refine blk_alloc ?_ _)); refine blk_far ?_ (by have h_ := Kd.R_ne HO293.out BK296.out (by decide); intro e_; exact h_ (by rw [e_]; rfl)) _; (with_reducible repeat (first | refine blk_drewN ?_ _ | refine blk_drew ?_ | refine blk_alloc ?_ _)); refine blk_far ?_ (by have h_ := Kd.R_ne HO290.out BK296.out (by decide); intro e_; exact h_ (by rw [e_]; rfl)) _; (with_reducible repeat (first | refine blk_drewN ?_ _ | refine blk_drew ?_ | refine blk_alloc ?_ _)); exact BK296.out⟩
                        have n5_ : Aside0 (Below w.heap.size w ((w135.setCell ⟨go109, (a1 : Int).toNat, none⟩ (.int .i64 (-1))).setCell ⟨go75, (a1 : Int).toNat, none⟩ (.int .i64 (-1)))) := ⟨by repeat (first | (with_reducible first | exact HB.out | apply below_alloc | apply pw_below_drewN | apply below_drew1 | refine below_set ?_ GB109.out | refine below_set ?_ GB75.out | refine below_set ?_ GE284.out | refine below_set ?_ GE285.out | refine below_set ?_ GE296.out) | exact HB.out)⟩
                        (try clear HO290)
                        (try clear HO293)
                        (try clear BK284)
                        (try clear BK285)
                        (try clear BK296)
                        (try clear HB)
                        generalize ((w135.setCell ⟨go109, (a1 : Int).toNat, none⟩ (.int .i64 (-1))).setCell ⟨go75, (a1 : Int).toNat, none⟩ (.int .i64 (-1))) = w138 at n0_ n1_ n3_ n4_ n5_ ⊢
                        have HO290 := n0_
                        have HO293 := n1_
                        have BK285 := n3_
                        have BK296 := n4_
                        have HB := n5_
                        clear n0_ n1_ n3_ n4_ n5_
                        try go_wp2_with (first | ((try simp only [Exit.inBlock, Exit.then]); refine bodyPost_end (results_none rfl _ _ _) rfl ?_; refine ⟨_, rfl, ?_⟩; obtain ⟨hcz139_0, hcz139_1, hcz139_2, hcz139_3, hfz139_0, hfz139_1, hfz139_2, hfz139_3⟩ := bk4 BK296.out; obtain ⟨hcz140_0, hcz140_1, hcz140_2, hcz140_3, hfz140_0, hfz140_1, hfz140_2, hfz140_3⟩ := bk4 BK285.out))
                        refine bodyPost_ret (results_ct rfl _ _ gb285 24 #[.slice (some ⟨go109, 0, none⟩) t288.length co122, .slice (some ⟨go75, 0, none⟩) t291.length co126, .int .i64 t294, .int .i64 t295] (0, 0) _ rfl (by (with_reducible repeat (first | refine blk_drewN ?_ _ | refine blk_drew ?_ | refine blk_alloc ?_ _)); refine blk_put (cs := #[.slice (some ⟨go109, 0, none⟩) t288.length co122, .slice (some ⟨go75, 0, none⟩) t291.length co126, .int .i64 t294, .int .i64 0]) ?_ 3 _ rfl; (with_reducible repeat (first | refine blk_drewN ?_ _ | refine blk_drew ?_ | refine blk_alloc ?_ _)); refine blk_put (cs := #[.slice (some ⟨go109, 0, none⟩) t288.length co122, .slice (some ⟨go75, 0, none⟩) t291.length co126, .int .i64 0, .int .i64 0]) ?_ 2 _ rfl; (with_reducible repeat (first | refine blk_drewN ?_ _ | refine blk_drew ?_ | refine blk_alloc ?_ _)); refine blk_put (cs := #[.slice (some ⟨go109, 0, none⟩) t288.length co122, .slice none 0 0, .int .i64 0, .int .i64 0]) ?_ 1 _ rfl; (with_reducible repeat (first | refine blk_drewN ?_ _ | refine blk_drew ?_ | refine blk_alloc ?_ _)); refine blk_put (cs := #[.slice none 0 0, .slice none 0 0, .int .i64 0, .int .i64 0]) ?_ 0 _ rfl; (with_reducible repeat (first | refine blk_drewN ?_ _ | refine blk_drew ?_ | refine blk_alloc ?_ _)); exact BK285.out) Try.underlying24 rfl (by kernel_rfl)) rfl ?_
                        exact ⟨_, _, by first | rfl | (simp [errW_none, errW_some] <;> rfl) | (simp [*, errW_none, errW_some] <;> rfl), Kd.pR (Kd.R_mono (Kd.R_far (p := ⟨gb285, 3, none⟩) (Kd.R_far (p := ⟨gb285, 2, none⟩) (Kd.R_far (p := ⟨gb285, 1, none⟩) (Kd.R_far (p := ⟨gb285, 0, none⟩) (Kd.R_types HO290.out BK285.out (by decide)) (fun _ hk => hk.2) (.slice (some ⟨go109, 0, none⟩) t288.length co122)) (fun _ hk => hk.2) (.slice (some ⟨go75, 0, none⟩) t291.length co126)) (fun _ hk => hk.2) (.int .i64 t294)) (fun _ hk => hk.2) (.int .i64 t295)) (fun _ hk => hk.1)), Kd.pR (Kd.R_mono (Kd.R_far (p := ⟨gb285, 3, none⟩) (Kd.R_far (p := ⟨gb285, 2, none⟩) (Kd.R_far (p := ⟨gb285, 1, none⟩) (Kd.R_far (p := ⟨gb285, 0, none⟩) (Kd.R_types HO293.out BK285.out (by decide)) (fun _ hk => hk.2) (.slice (some ⟨go109, 0, none⟩) t288.length co122)) (fun _ hk => hk.2) (.slice (some ⟨go75, 0, none⟩) t291.length co126)) (fun _ hk => hk.2) (.int .i64 t294)) (fun _ hk => hk.2) (.int .i64 t295)) (fun _ hk => hk.1)), pB HB.out⟩
                      · rw [if_neg c108] at H
                        exact absurd H (by simp)
                    · rw [if_neg c107] at H
                      exact absurd H (by simp)
                · rw [if_neg c74] at H
                  exact absurd H (by simp)
              · rw [if_neg c73] at H
                exact absurd H (by simp)
          · rw [if_neg c10] at H
            exact absurd H (by simp)
        · rw [if_neg c9] at H
          exact absurd H (by simp)
      · rw [if_neg c8] at H
        exact absurd H (by simp)
    · replace c6 := Bool.eq_false_iff.mpr c6
      subst c6
      have H1 : (some (([] : List Int), ([] : List Int), 0, 0, 6)) = some (r1, r2, r3, r4, r5) := by rw [if_neg (show ¬ (false = true) by decide)] at H; exact H
      clear H
      have H := H1
      (try clear H1)
      simp only [Option.some.injEq, Prod.mk.injEq] at H
      obtain ⟨rfl, rfl, rfl, rfl, rfl⟩ := H
      go_enter Try.func14, Try.ntmps14
      go_wp2_with (first | ((with_reducible refine gate_dst (N := 2) rfl ?_); refine boxE (N := 2) (cs := #[.slice A0_0 l0_0.length c0_0, .slice A0_1 l0_1.length c0_1, .int .i64 a0_2, .int .i64 a0_3]) (t := 24) ?_; intro gb284 hg w141 hbox hb; have n0_ := Aside0.mk (below_step (pB HB.out) hb); have n1_ := Aside0.mk (hbox); have n3_ := Aside0.mk (pL HB.out hg); clear HB; have HB := n0_; have BK284 := n1_; have GE284 := n3_; clear n0_ n1_ n3_; clear hb hbox hg) | ((with_reducible refine gate_dst (N := 4) rfl ?_); refine boxE (N := 4) (cs := #[.slice none 0 0, .slice none 0 0, .int .i64 0, .int .i64 0]) (t := 24) ?_; intro gb285 hg w142 hbox hb; have n0_ := Aside0.mk (blk_below (pK BK284.out) hb); have n1_ := Aside0.mk (below_step (pB HB.out) hb); have n2_ := Aside0.mk (hbox); have n4_ := Aside0.mk (pL HB.out hg); have n5_ := Aside0.mk (pNl BK284.out hg); have n6_ := Aside0.mk (pNg BK284.out hg); clear BK284; clear HB; have BK284 := n0_; have HB := n1_; have BK285 := n2_; have GE285 := n4_; have NB284_285 := n5_; have NB285_284 := n6_; clear n0_ n1_ n2_ n4_ n5_ n6_; clear hb hbox hg; have hnb143 := NB284_285.out; have hnc143 := NB285_284.out; obtain ⟨hcz144_0, hcz144_1, hcz144_2, hcz144_3, hfz144_0, hfz144_1, hfz144_2, hfz144_3⟩ := bk4 BK284.out) | ((with_reducible refine gate_callee (f := 31) rfl ?_); refine goesE (some 10) rfl rfl Try.func31 (by kernel_rfl) rfl #[.agg #[.slice A0_0 l0_0.length c0_0, .slice A0_1 l0_1.length c0_1, .int .i64 a0_2, .int .i64 a0_3], .int .i64 a1] rfl ?_; (with_reducible refine (lru_check.calls k _ _ l0_0 _ _ l0_1 a0_2 a0_3 a1 t286 _ ?side1 ?side2 ?side3 ?side4 A3.out).mono ?_); (case side1 => exact Kd.pC ((Kd.C_below HR0_0.out HB.out))); (case side2 => exact HC0_0.out); (case side3 => exact Kd.pC ((Kd.C_below HR0_1.out HB.out))); (case side4 => exact HC0_1.out); rintro e w145 ⟨rfl, hb⟩; refine ⟨_, rfl, ?_⟩; have n0_ := Aside0.mk (blk_below (pK BK284.out) hb); have n1_ := Aside0.mk (blk_below (pK BK285.out) hb); have n2_ := Aside0.mk (below_step (pB HB.out) hb); clear BK284; clear BK285; clear HB; have BK284 := n0_; have BK285 := n1_; have HB := n2_; clear n0_ n1_ n2_; (try clear hb); (try clear hb2); (try clear hk); (try clear hi); obtain ⟨hcz146_0, hcz146_1, hcz146_2, hcz146_3, hfz146_0, hfz146_1, hfz146_2, hfz146_3⟩ := bk4 BK284.out) | ((with_reducible refine gate_callee (f := 33) rfl ?_); refine goesE (some 17) rfl rfl Try.func33 (by kernel_rfl) rfl #[.agg #[.slice A0_0 l0_0.length c0_0, .slice A0_1 l0_1.length c0_1, .int .i64 a0_2, .int .i64 a0_3], .int .i64 a1] rfl ?_; (with_reducible refine (lru_in.calls _ _ l0_0 _ _ l0_1 a0_2 a0_3 a1 false _ ?side1 ?side2 ?side3 ?side4 A5.out).mono ?_); (case side1 => exact Kd.pC ((Kd.C_below HR0_0.out HB.out))); (case side2 => exact HC0_0.out); (case side3 => exact Kd.pC ((Kd.C_below HR0_1.out HB.out))); (case side4 => exact HC0_1.out); rintro e w147 ⟨rfl, hb⟩; refine ⟨_, rfl, ?_⟩; have n1_ := Aside0.mk (blk_below (pK BK285.out) hb); have n2_ := Aside0.mk (below_step (pB HB.out) hb); (try clear BK284); clear BK285; clear HB; have BK285 := n1_; have HB := n2_; clear n1_ n2_; (try clear hb); (try clear hb2); (try clear hk); (try clear hi); obtain ⟨hcz148_0, hcz148_1, hcz148_2, hcz148_3, hfz148_0, hfz148_1, hfz148_2, hfz148_3⟩ := bk4 BK285.out))
      refine bodyPost_ret (results_ct rfl _ _ gb285 24 #[.slice none 0 0, .slice none 0 0, .int .i64 0, .int .i64 0] (0, 0) _ rfl (by (with_reducible repeat (first | refine blk_drewN ?_ _ | refine blk_drew ?_ | refine blk_alloc ?_ _)); refine blk_put (cs := #[.slice none 0 0, .slice none 0 0, .int .i64 0, .int .i64 0]) ?_ 3 _ rfl; (with_reducible repeat (first | refine blk_drewN ?_ _ | refine blk_drew ?_ | refine blk_alloc ?_ _)); refine blk_put (cs := #[.slice none 0 0, .slice none 0 0, .int .i64 0, .int .i64 0]) ?_ 2 _ rfl; (with_reducible repeat (first | refine blk_drewN ?_ _ | refine blk_drew ?_ | refine blk_alloc ?_ _)); refine blk_put (cs := #[.slice none 0 0, .slice none 0 0, .int .i64 0, .int .i64 0]) ?_ 1 _ rfl; (with_reducible repeat (first | refine blk_drewN ?_ _ | refine blk_drew ?_ | refine blk_alloc ?_ _)); refine blk_put (cs := #[.slice none 0 0, .slice none 0 0, .int .i64 0, .int .i64 0]) ?_ 0 _ rfl; (with_reducible repeat (first | refine blk_drewN ?_ _ | refine blk_drew ?_ | refine blk_alloc ?_ _)); exact BK285.out) Try.underlying24 rfl (by kernel_rfl)) rfl ?_
      exact ⟨_, _, by first | rfl | (simp [errW_none, errW_some] <;> rfl) | (simp [*, errW_none, errW_some] <;> rfl), by first | exact Kd.R_nil _ _ _ _ _ | exact Kd.N_nil _ _ _ _ _ | exact Kd.V_nil _ _ _ _ _ | exact Kd.Q_nil _ _ _ _ _ | exact Kd.S_nil _ _ _ _ _, by first | exact Kd.R_nil _ _ _ _ _ | exact Kd.N_nil _ _ _ _ _ | exact Kd.V_nil _ _ _ _ _ | exact Kd.Q_nil _ _ _ _ _ | exact Kd.S_nil _ _ _ _ _, pB HB.out⟩
  · rw [if_neg c4] at H
    have c4b0 : (t286 == 0) = false := beq_eq_false_iff_ne.mpr c4
    have c4b1 : (t286 != 0) = true := bne_iff_ne.mpr c4
    simp only [Option.some.injEq, Prod.mk.injEq] at H
    obtain ⟨rfl, rfl, rfl, rfl, rfl⟩ := H
    go_enter Try.func14, Try.ntmps14
    go_wp2_with (first | ((with_reducible refine gate_dst (N := 2) rfl ?_); refine boxE (N := 2) (cs := #[.slice A0_0 l0_0.length c0_0, .slice A0_1 l0_1.length c0_1, .int .i64 a0_2, .int .i64 a0_3]) (t := 24) ?_; intro gb284 hg w149 hbox hb; have n0_ := Aside0.mk (below_step (pB HB.out) hb); have n1_ := Aside0.mk (hbox); have n3_ := Aside0.mk (pL HB.out hg); clear HB; have HB := n0_; have BK284 := n1_; have GE284 := n3_; clear n0_ n1_ n3_; clear hb hbox hg) | ((with_reducible refine gate_dst (N := 4) rfl ?_); refine boxE (N := 4) (cs := #[.slice none 0 0, .slice none 0 0, .int .i64 0, .int .i64 0]) (t := 24) ?_; intro gb285 hg w150 hbox hb; have n0_ := Aside0.mk (blk_below (pK BK284.out) hb); have n1_ := Aside0.mk (below_step (pB HB.out) hb); have n2_ := Aside0.mk (hbox); have n4_ := Aside0.mk (pL HB.out hg); have n5_ := Aside0.mk (pNl BK284.out hg); have n6_ := Aside0.mk (pNg BK284.out hg); clear BK284; clear HB; have BK284 := n0_; have HB := n1_; have BK285 := n2_; have GE285 := n4_; have NB284_285 := n5_; have NB285_284 := n6_; clear n0_ n1_ n2_ n4_ n5_ n6_; clear hb hbox hg; have hnb151 := NB284_285.out; have hnc151 := NB285_284.out; obtain ⟨hcz152_0, hcz152_1, hcz152_2, hcz152_3, hfz152_0, hfz152_1, hfz152_2, hfz152_3⟩ := bk4 BK284.out) | ((with_reducible refine gate_callee (f := 31) rfl ?_); refine goesE (some 10) rfl rfl Try.func31 (by kernel_rfl) rfl #[.agg #[.slice A0_0 l0_0.length c0_0, .slice A0_1 l0_1.length c0_1, .int .i64 a0_2, .int .i64 a0_3], .int .i64 a1] rfl ?_; (with_reducible refine (lru_check.calls k _ _ l0_0 _ _ l0_1 a0_2 a0_3 a1 t286 _ ?side1 ?side2 ?side3 ?side4 A3.out).mono ?_); (case side1 => exact Kd.pC ((Kd.C_below HR0_0.out HB.out))); (case side2 => exact HC0_0.out); (case side3 => exact Kd.pC ((Kd.C_below HR0_1.out HB.out))); (case side4 => exact HC0_1.out); rintro e w153 ⟨rfl, hb⟩; refine ⟨_, rfl, ?_⟩; have n1_ := Aside0.mk (blk_below (pK BK285.out) hb); have n2_ := Aside0.mk (below_step (pB HB.out) hb); (try clear BK284); clear BK285; clear HB; have BK285 := n1_; have HB := n2_; clear n1_ n2_; (try clear hb); (try clear hb2); (try clear hk); (try clear hi); obtain ⟨hcz154_0, hcz154_1, hcz154_2, hcz154_3, hfz154_0, hfz154_1, hfz154_2, hfz154_3⟩ := bk4 BK285.out))
    refine bodyPost_ret (results_ct rfl _ _ gb285 24 #[.slice none 0 0, .slice none 0 0, .int .i64 0, .int .i64 0] (0, 0) _ rfl (by (with_reducible repeat (first | refine blk_drewN ?_ _ | refine blk_drew ?_ | refine blk_alloc ?_ _)); refine blk_put (cs := #[.slice none 0 0, .slice none 0 0, .int .i64 0, .int .i64 0]) ?_ 3 _ rfl; (with_reducible repeat (first | refine blk_drewN ?_ _ | refine blk_drew ?_ | refine blk_alloc ?_ _)); refine blk_put (cs := #[.slice none 0 0, .slice none 0 0, .int .i64 0, .int .i64 0]) ?_ 2 _ rfl; (with_reducible repeat (first | refine blk_drewN ?_ _ | refine blk_drew ?_ | refine blk_alloc ?_ _)); refine blk_put (cs := #[.slice none 0 0, .slice none 0 0, .int .i64 0, .int .i64 0]) ?_ 1 _ rfl; (with_reducible repeat (first | refine blk_drewN ?_ _ | refine blk_drew ?_ | refine blk_alloc ?_ _)); refine blk_put (cs := #[.slice none 0 0, .slice none 0 0, .int .i64 0, .int .i64 0]) ?_ 0 _ rfl; (with_reducible repeat (first | refine blk_drewN ?_ _ | refine blk_drew ?_ | refine blk_alloc ?_ _)); exact BK285.out) Try.underlying24 rfl (by kernel_rfl)) rfl ?_
    exact ⟨_, _, by first | rfl | (simp [errW_none, errW_some] <;> rfl) | (simp [*, errW_none, errW_some] <;> rfl), by first | exact Kd.R_nil _ _ _ _ _ | exact Kd.N_nil _ _ _ _ _ | exact Kd.V_nil _ _ _ _ _ | exact Kd.Q_nil _ _ _ _ _ | exact Kd.S_nil _ _ _ _ _, by first | exact Kd.R_nil _ _ _ _ _ | exact Kd.N_nil _ _ _ _ _ | exact Kd.V_nil _ _ _ _ _ | exact Kd.Q_nil _ _ _ _ _ | exact Kd.S_nil _ _ _ _ _, pB HB.out⟩

end Go.Proofs.Ytiimflniadggaaa.PLru
