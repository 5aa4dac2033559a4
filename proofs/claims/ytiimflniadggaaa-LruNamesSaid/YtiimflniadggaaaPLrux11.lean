-- printed by a program of this session (a turned copy of the kit's print); Lean checks it
import Derived.Test.YtiimflniadggaaaPLrux0
import Derived.Test.YtiimflniadggaaaPLrux8
import Derived.Test.YtiimflniadggaaaPLrux9
import Derived.Test.YtiimflniadggaaaPLrux10
namespace Go.Proofs.Ytiimflniadggaaa.PLru
open Go.RowKit Go.Proofs.YtiimflniadggaaaW.PrintWords Go.Proofs.YtiimflniadggaaaW.PrintLast Go.Proofs.YtiimflniadggaaaW.PrintMore
attribute [local go_sem] max2_int min2_int max_two min_two max_three min_three max_four min_four   -- for this text's walks alone
set_option linter.unusedVariables false
set_option linter.unusedSimpArgs false

/-! ### lru_Touch: function 12 -/
def lru_Touch.j0 : Nat → Int → List Int → List Int → Int → Int → Option (List Int × List Int × Int × Int × Int)
  | 0, _, _, _, _, _ => none
  | k + 1, x1, x208000, x208001, x208002, x208003 => if 0 ≤ x1 then (if x1 < (x208001.length : Int) then ((some (x208001.set (x1 : Int).toNat x208002 : List Int)).bind fun y222 => (if x208002 = (-1) then (some (x208000, y222, x1, x1, 0)) else (if 0 ≤ x208002 then (if x208002 < (x208000.length : Int) then (some ((x208000.set (x208002 : Int).toNat x1), y222, x1, x208003, 0)) else (none)) else (none)))) else (none)) else (none)
def lru_Touch.f (k : Nat) (l0_0 : List Int) (l0_1 : List Int) (a0_2 : Int) (a0_3 : Int) (a1 : Int) : Option (List Int × List Int × Int × Int × Int) := (lru_check.f k l0_0 l0_1 a0_2 a0_3 a1).bind fun t198 => (if t198 = 0 then ((lru_twin.f l0_0 l0_1 a0_2 a0_3).bind fun bt199 => ((lru_in.f bt199.1 bt199.2.1 bt199.2.2.1 bt199.2.2.2 a1).bind fun t208 => (if t208 = true then (if 0 ≤ a1 then (if a1 < (bt199.1.length : Int) then (if a1 < (bt199.2.1.length : Int) then (if (rd bt199.1 a1) = (-1) then (if (rd bt199.2.1 a1) = (-1) then (lru_Touch.j0 k a1 (bt199.1.set (a1 : Int).toNat (-1)) (bt199.2.1.set (a1 : Int).toNat (-1)) (rd bt199.2.1 a1) (rd bt199.1 a1)) else (if 0 ≤ (rd bt199.2.1 a1) then (if (rd bt199.2.1 a1) < (bt199.1.length : Int) then (lru_Touch.j0 k a1 ((bt199.1.set ((rd bt199.2.1 a1) : Int).toNat (rd bt199.1 a1)).set (a1 : Int).toNat (-1)) (bt199.2.1.set (a1 : Int).toNat (-1)) (rd bt199.2.1 a1) bt199.2.2.2) else (none)) else (none))) else (if 0 ≤ (rd bt199.1 a1) then (if (rd bt199.1 a1) < (bt199.2.1.length : Int) then ((some (bt199.2.1.set ((rd bt199.1 a1) : Int).toNat (rd bt199.2.1 a1) : List Int)).bind fun y216 => (if (rd bt199.2.1 a1) = (-1) then (lru_Touch.j0 k a1 (bt199.1.set (a1 : Int).toNat (-1)) (y216.set (a1 : Int).toNat (-1)) bt199.2.2.1 (rd bt199.1 a1)) else (if 0 ≤ (rd bt199.2.1 a1) then (if (rd bt199.2.1 a1) < (bt199.1.length : Int) then (lru_Touch.j0 k a1 ((bt199.1.set ((rd bt199.2.1 a1) : Int).toNat (rd bt199.1 a1)).set (a1 : Int).toNat (-1)) (y216.set (a1 : Int).toNat (-1)) bt199.2.2.1 bt199.2.2.2) else (none)) else (none)))) else (none)) else (none))) else (none)) else (none)) else (none)) else (lru_Touch.j0 k a1 bt199.1 bt199.2.1 bt199.2.2.1 bt199.2.2.2)))) else (some (([] : List Int), ([] : List Int), 0, 0, t198)))
theorem lru_Touch.mono_l : ∀ k, (∀ y0 y1 y2 y3 y4, LeO (lru_Touch.j0 k y0 y1 y2 y3 y4) (lru_Touch.j0 (k + 1) y0 y1 y2 y3 y4))
  | 0 => fun _ _ _ _ _ r h => by simp [lru_Touch.j0] at h
  | k + 1 => by
    have ih0 := lru_Touch.mono_l k
    · intro y0 y1 y2 y3 y4
      unfold lru_Touch.j0
      repeat' first
      | (with_reducible exact ih0 _ _ _ _ _)
      | (with_reducible exact lru_check.mono _ _ _ _ _ _)
      | (with_reducible exact LeO.refl _)
      | (with_reducible exact LeO.none _)
      | (with_reducible refine LeO.ite ?_ ?_)
      | (with_reducible refine LeO.bind ?_ (fun _ => ?_))
      | exact ih0 _ _ _ _ _
      | exact lru_check.mono _ _ _ _ _ _
      | exact LeO.none _
      | refine LeO.ite ?_ ?_
      | refine LeO.bind ?_ (fun _ => ?_)
theorem lru_Touch.mono : ∀ a0 a1 a2 a3 a4 k, LeO (lru_Touch.f k a0 a1 a2 a3 a4) (lru_Touch.f (k + 1) a0 a1 a2 a3 a4) := by
  intro a0 a1 a2 a3 a4 k
  have ih0 := lru_Touch.mono_l k
  unfold lru_Touch.f
  repeat' first
      | (with_reducible exact ih0 _ _ _ _ _)
      | (with_reducible exact lru_check.mono _ _ _ _ _ _)
      | (with_reducible exact LeO.refl _)
      | (with_reducible exact LeO.none _)
      | (with_reducible refine LeO.ite ?_ ?_)
      | (with_reducible refine LeO.bind ?_ (fun _ => ?_))
      | exact ih0 _ _ _ _ _
      | exact lru_check.mono _ _ _ _ _ _
      | exact LeO.none _
      | refine LeO.ite ?_ ?_
      | refine LeO.bind ?_ (fun _ => ?_)
def lru_Touch.T34000 : Bool × List (List Nat × List Nat) := (true, [([], []), ([0], [0]), ([1], [1]), ([2], [2]), ([], []), ([3, 4], [3, 4]), ([5], [5]), ([], []), ([7], [7]), ([8], [8]), ([9], [9]), ([], []), ([10, 11], [10, 11]), ([12], [12]), ([6, 0, 1, 2, 3, 4, 5, 6], [6]), ([13, 14, 0, 1, 2, 3, 4, 5, 6, 7, 8, 9, 10, 11, 12, 13, 14], [13])])
def lru_Touch.B34000 : List Nat := [0, 1, 3, 7, 0, 31, 63, 0, 128, 384, 896, 0, 3968, 8064, 127, 32767]
theorem lru_Touch.tab34000 : rtab .any (opsOf Try.f34 0) = lru_Touch.T34000 := by kernel_rfl
theorem lru_Touch.bits34000 : waitsOk lru_Touch.T34000.2 lru_Touch.B34000 = true := by kernel_rfl
def lru_Touch.T34007 : Bool × List (List Nat × List Nat) := (true, [([], []), ([0], [0]), ([1], [1]), ([2], [2]), ([], []), ([], []), ([5], [5]), ([6], [6]), ([7], [7]), ([], []), ([3, 4, 0, 1, 2, 3, 4, 8], [3, 4]), ([10, 0, 1, 2, 3, 4, 8], [10]), ([8, 9, 0, 1, 2, 3, 4, 5, 6, 7, 8, 9, 10, 11], [8, 9]), ([12, 11, 0, 1, 2, 3, 4, 5, 6, 7, 8, 9, 10, 11], [12])])
def lru_Touch.B34007 : List Nat := [0, 1, 3, 7, 0, 0, 32, 96, 224, 0, 511, 1535, 4095, 8191]
theorem lru_Touch.tab34007 : rtab .any (opsOf Try.f34 7) = lru_Touch.T34007 := by kernel_rfl
theorem lru_Touch.bits34007 : waitsOk lru_Touch.T34007.2 lru_Touch.B34007 = true := by kernel_rfl
set_option maxHeartbeats 8000000 in
set_option maxRecDepth 100000 in
theorem lru_Touch.calls (k : Nat) (A0_0 : Option Addr) (c0_0 : Nat) (l0_0 : List Int) (A0_1 : Option Addr) (c0_1 : Nat) (l0_1 : List Int) (a0_2 : Int) (a0_3 : Int) (a1 : Int) (r1 : List Int) (r2 : List Int) (r3 : Int) (r4 : Int) (r5 : Int) (w : World) (hr0_0 : Kd.C (Kd.int .i64) w A0_0 l0_0.length l0_0) (hc0_0 : l0_0.length ≤ c0_0) (hr0_1 : Kd.C (Kd.int .i64) w A0_1 l0_1.length l0_1) (hc0_1 : l0_1.length ≤ c0_1) (h : lru_Touch.f k l0_0 l0_1 a0_2 a0_3 a1 = some (r1, r2, r3, r4, r5)) :
    Calls Try.prog 12 #[.agg #[.slice A0_0 l0_0.length c0_0, .slice A0_1 l0_1.length c0_1, .int .i64 a0_2, .int .i64 a0_3], .int .i64 a1] w fun e w' => ∃ v0_ v1_ : Value, e = .returned (.tuple #[.agg #[v0_, v1_, .int .i64 r3, .int .i64 r4], .int .i64 r5]) ∧ Kd.R (Kd.int .i64) 3 w' w.heap.size (fun k_ => some k_ ≠ (v1_ : Value).ownBlock) v0_ r1 ∧ Kd.R (Kd.int .i64) 3 w' w.heap.size (fun k_ => some k_ ≠ (v0_ : Value).ownBlock) v1_ r2 ∧ Below w.heap.size w w' := by
  have hu24 := Try.underlying24
  have HR0_0 := Aside0.mk hr0_0
  have HC0_0 := Aside0.mk hc0_0
  clear hr0_0 hc0_0
  have HR0_1 := Aside0.mk hr0_1
  have HC0_1 := Aside0.mk hc0_1
  clear hr0_1 hc0_1
  have HB := Aside0.mk (Below.refl w.heap.size w)
  have H : ((lru_check.f k l0_0 l0_1 a0_2 a0_3 a1).bind fun t198 => (if t198 = 0 then ((lru_twin.f l0_0 l0_1 a0_2 a0_3).bind fun bt199 => ((lru_in.f bt199.1 bt199.2.1 bt199.2.2.1 bt199.2.2.2 a1).bind fun t208 => (if t208 = true then (if 0 ≤ a1 then (if a1 < (bt199.1.length : Int) then (if a1 < (bt199.2.1.length : Int) then (if (rd bt199.1 a1) = (-1) then (if (rd bt199.2.1 a1) = (-1) then (lru_Touch.j0 k a1 (bt199.1.set (a1 : Int).toNat (-1)) (bt199.2.1.set (a1 : Int).toNat (-1)) (rd bt199.2.1 a1) (rd bt199.1 a1)) else (if 0 ≤ (rd bt199.2.1 a1) then (if (rd bt199.2.1 a1) < (bt199.1.length : Int) then (lru_Touch.j0 k a1 ((bt199.1.set ((rd bt199.2.1 a1) : Int).toNat (rd bt199.1 a1)).set (a1 : Int).toNat (-1)) (bt199.2.1.set (a1 : Int).toNat (-1)) (rd bt199.2.1 a1) bt199.2.2.2) else (none)) else (none))) else (if 0 ≤ (rd bt199.1 a1) then (if (rd bt199.1 a1) < (bt199.2.1.length : Int) then ((some (bt199.2.1.set ((rd bt199.1 a1) : Int).toNat (rd bt199.2.1 a1) : List Int)).bind fun y216 => (if (rd bt199.2.1 a1) = (-1) then (lru_Touch.j0 k a1 (bt199.1.set (a1 : Int).toNat (-1)) (y216.set (a1 : Int).toNat (-1)) bt199.2.2.1 (rd bt199.1 a1)) else (if 0 ≤ (rd bt199.2.1 a1) then (if (rd bt199.2.1 a1) < (bt199.1.length : Int) then (lru_Touch.j0 k a1 ((bt199.1.set ((rd bt199.2.1 a1) : Int).toNat (rd bt199.1 a1)).set (a1 : Int).toNat (-1)) (y216.set (a1 : Int).toNat (-1)) bt199.2.2.1 bt199.2.2.2) else (none)) else (none)))) else (none)) else (none))) else (none)) else (none)) else (none)) else (lru_Touch.j0 k a1 bt199.1 bt199.2.1 bt199.2.2.1 bt199.2.2.2)))) else (some (([] : List Int), ([] : List Int), 0, 0, t198)))) = some (r1, r2, r3, r4, r5) := h
  clear h
  replace H := Option.bind_eq_some_iff.mp H
  obtain ⟨t198, A30, H⟩ := H
  replace H : (if t198 = 0 then ((lru_twin.f l0_0 l0_1 a0_2 a0_3).bind fun bt199 => ((lru_in.f bt199.1 bt199.2.1 bt199.2.2.1 bt199.2.2.2 a1).bind fun t208 => (if t208 = true then (if 0 ≤ a1 then (if a1 < (bt199.1.length : Int) then (if a1 < (bt199.2.1.length : Int) then (if (rd bt199.1 a1) = (-1) then (if (rd bt199.2.1 a1) = (-1) then (lru_Touch.j0 k a1 (bt199.1.set (a1 : Int).toNat (-1)) (bt199.2.1.set (a1 : Int).toNat (-1)) (rd bt199.2.1 a1) (rd bt199.1 a1)) else (if 0 ≤ (rd bt199.2.1 a1) then (if (rd bt199.2.1 a1) < (bt199.1.length : Int) then (lru_Touch.j0 k a1 ((bt199.1.set ((rd bt199.2.1 a1) : Int).toNat (rd bt199.1 a1)).set (a1 : Int).toNat (-1)) (bt199.2.1.set (a1 : Int).toNat (-1)) (rd bt199.2.1 a1) bt199.2.2.2) else (none)) else (none))) else (if 0 ≤ (rd bt199.1 a1) then (if (rd bt199.1 a1) < (bt199.2.1.length : Int) then ((some (bt199.2.1.set ((rd bt199.1 a1) : Int).toNat (rd bt199.2.1 a1) : List Int)).bind fun y216 => (if (rd bt199.2.1 a1) = (-1) then (lru_Touch.j0 k a1 (bt199.1.set (a1 : Int).toNat (-1)) (y216.set (a1 : Int).toNat (-1)) bt199.2.2.1 (rd bt199.1 a1)) else (if 0 ≤ (rd bt199.2.1 a1) then (if (rd bt199.2.1 a1) < (bt199.1.length : Int) then (lru_Touch.j0 k a1 ((bt199.1.set ((rd bt199.2.1 a1) : Int).toNat (rd bt199.1 a1)).set (a1 : Int).toNat (-1)) (y216.set (a1 : Int).toNat (-1)) bt199.2.2.1 bt199.2.2.2) else (none)) else (none)))) else (none)) else (none))) else (none)) else (none)) else (none)) else (lru_Touch.j0 k a1 bt199.1 bt199.2.1 bt199.2.2.1 bt199.2.2.2)))) else (some (([] : List Int), ([] : List Int), 0, 0, t198))) = some (r1, r2, r3, r4, r5) := H
  have A3 := Aside0.mk A30
  (try clear A30)
  by_cases c4 : t198 = 0
  · rw [if_pos c4] at H
    have c4b0 : (t198 == 0) = true := beq_iff_eq.mpr c4
    have c4b1 : (t198 != 0) = false := bne_eq_false_iff_eq.mpr c4
    clear c4
    replace H := Option.bind_eq_some_iff.mp H
    obtain ⟨⟨t199, t202, t205, t206⟩, A50, H⟩ := H
    replace H : ((lru_in.f t199 t202 t205 t206 a1).bind fun t208 => (if t208 = true then (if 0 ≤ a1 then (if a1 < (t199.length : Int) then (if a1 < (t202.length : Int) then (if (rd t199 a1) = (-1) then (if (rd t202 a1) = (-1) then (lru_Touch.j0 k a1 (t199.set (a1 : Int).toNat (-1)) (t202.set (a1 : Int).toNat (-1)) (rd t202 a1) (rd t199 a1)) else (if 0 ≤ (rd t202 a1) then (if (rd t202 a1) < (t199.length : Int) then (lru_Touch.j0 k a1 ((t199.set ((rd t202 a1) : Int).toNat (rd t199 a1)).set (a1 : Int).toNat (-1)) (t202.set (a1 : Int).toNat (-1)) (rd t202 a1) t206) else (none)) else (none))) else (if 0 ≤ (rd t199 a1) then (if (rd t199 a1) < (t202.length : Int) then ((some (t202.set ((rd t199 a1) : Int).toNat (rd t202 a1) : List Int)).bind fun y216 => (if (rd t202 a1) = (-1) then (lru_Touch.j0 k a1 (t199.set (a1 : Int).toNat (-1)) (y216.set (a1 : Int).toNat (-1)) t205 (rd t199 a1)) else (if 0 ≤ (rd t202 a1) then (if (rd t202 a1) < (t199.length : Int) then (lru_Touch.j0 k a1 ((t199.set ((rd t202 a1) : Int).toNat (rd t199 a1)).set (a1 : Int).toNat (-1)) (y216.set (a1 : Int).toNat (-1)) t205 t206) else (none)) else (none)))) else (none)) else (none))) else (none)) else (none)) else (none)) else (lru_Touch.j0 k a1 t199 t202 t205 t206))) = some (r1, r2, r3, r4, r5) := H
    have A5 := Aside0.mk A50
    (try clear A50)
    replace H := Option.bind_eq_some_iff.mp H
    obtain ⟨t208, A60, H⟩ := H
    replace H : (if t208 = true then (if 0 ≤ a1 then (if a1 < (t199.length : Int) then (if a1 < (t202.length : Int) then (if (rd t199 a1) = (-1) then (if (rd t202 a1) = (-1) then (lru_Touch.j0 k a1 (t199.set (a1 : Int).toNat (-1)) (t202.set (a1 : Int).toNat (-1)) (rd t202 a1) (rd t199 a1)) else (if 0 ≤ (rd t202 a1) then (if (rd t202 a1) < (t199.length : Int) then (lru_Touch.j0 k a1 ((t199.set ((rd t202 a1) : Int).toNat (rd t199 a1)).set (a1 : Int).toNat (-1)) (t202.set (a1 : Int).toNat (-1)) (rd t202 a1) t206) else (none)) else (none))) else (if 0 ≤ (rd t199 a1) then (if (rd t199 a1) < (t202.length : Int) then ((some (t202.set ((rd t199 a1) : Int).toNat (rd t202 a1) : List Int)).bind fun y216 => (if (rd t202 a1) = (-1) then (lru_Touch.j0 k a1 (t199.set (a1 : Int).toNat (-1)) (y216.set (a1 : Int).toNat (-1)) t205 (rd t199 a1)) else (if 0 ≤ (rd t202 a1) then (if (rd t202 a1) < (t199.length : Int) then (lru_Touch.j0 k a1 ((t199.set ((rd t202 a1) : Int).toNat (rd t199 a1)).set (a1 : Int).toNat (-1)) (y216.set (a1 : Int).toNat (-1)) t205 t206) else (none)) else (none)))) else (none)) else (none))) else (none)) else (none)) else (none)) else (lru_Touch.j0 k a1 t199 t202 t205 t206)) = some (r1, r2, r3, r4, r5) := H
    have A6 := Aside0.mk A60
    (try clear A60)
    have HC7 := Aside0.mk H
    clear H
    go_enter Try.func12, Try.ntmps12
    go_upto_if 19 with (first | ((with_reducible refine gate_dst (N := 2) rfl ?_); refine boxE (N := 2) (cs := #[.slice A0_0 l0_0.length c0_0, .slice A0_1 l0_1.length c0_1, .int .i64 a0_2, .int .i64 a0_3]) (t := 24) ?_; intro gb196 hg w8 hbox hb; have n0_ := Aside0.mk (below_step (pB HB.out) hb); have n1_ := Aside0.mk (hbox); have n3_ := Aside0.mk (pL HB.out hg); clear HB; have HB := n0_; have BK196 := n1_; have GE196 := n3_; clear n0_ n1_ n3_; clear hb hbox hg) | ((with_reducible refine gate_dst (N := 4) rfl ?_); refine boxE (N := 4) (cs := #[.slice none 0 0, .slice none 0 0, .int .i64 0, .int .i64 0]) (t := 24) ?_; intro gb197 hg w9 hbox hb; have n0_ := Aside0.mk (blk_below (pK BK196.out) hb); have n1_ := Aside0.mk (below_step (pB HB.out) hb); have n2_ := Aside0.mk (hbox); have n4_ := Aside0.mk (pL HB.out hg); have n5_ := Aside0.mk (pNl BK196.out hg); have n6_ := Aside0.mk (pNg BK196.out hg); clear BK196; clear HB; have BK196 := n0_; have HB := n1_; have BK197 := n2_; have GE197 := n4_; have NB196_197 := n5_; have NB197_196 := n6_; clear n0_ n1_ n2_ n4_ n5_ n6_; clear hb hbox hg; have hnb10 := NB196_197.out; have hnc10 := NB197_196.out; obtain ⟨hcz11_0, hcz11_1, hcz11_2, hcz11_3, hfz11_0, hfz11_1, hfz11_2, hfz11_3⟩ := bk4 BK196.out) | ((with_reducible refine gate_callee (f := 31) rfl ?_); refine goesE (some 10) rfl rfl Try.func31 (by kernel_rfl) rfl #[.agg #[.slice A0_0 l0_0.length c0_0, .slice A0_1 l0_1.length c0_1, .int .i64 a0_2, .int .i64 a0_3], .int .i64 a1] rfl ?_; (with_reducible refine (lru_check.calls k _ _ l0_0 _ _ l0_1 a0_2 a0_3 a1 t198 _ ?side1 ?side2 ?side3 ?side4 A3.out).mono ?_); (case side1 => exact Kd.pC ((Kd.C_below HR0_0.out HB.out))); (case side2 => exact HC0_0.out); (case side3 => exact Kd.pC ((Kd.C_below HR0_1.out HB.out))); (case side4 => exact HC0_1.out); rintro e w12 ⟨rfl, hb⟩; refine ⟨_, rfl, ?_⟩; have n0_ := Aside0.mk (blk_below (pK BK196.out) hb); have n1_ := Aside0.mk (blk_below (pK BK197.out) hb); have n2_ := Aside0.mk (below_step (pB HB.out) hb); clear BK196; clear BK197; clear HB; have BK196 := n0_; have BK197 := n1_; have HB := n2_; clear n0_ n1_ n2_; (try clear hb); (try clear hb2); (try clear hk); (try clear hi); obtain ⟨hcz13_0, hcz13_1, hcz13_2, hcz13_3, hfz13_0, hfz13_1, hfz13_2, hfz13_3⟩ := bk4 BK196.out) | ((with_reducible refine gate_callee (f := 32) rfl ?_); refine goesE (some 16) rfl rfl Try.func32 (by kernel_rfl) rfl #[.agg #[.slice A0_0 l0_0.length c0_0, .slice A0_1 l0_1.length c0_1, .int .i64 a0_2, .int .i64 a0_3]] rfl ?_; (with_reducible refine (lru_twin.calls _ _ l0_0 _ _ l0_1 a0_2 a0_3 t199 t202 t205 t206 _ ?side1 ?side2 ?side3 ?side4 A5.out).mono ?_); (case side1 => exact Kd.pC ((Kd.C_below HR0_0.out HB.out))); (case side2 => exact HC0_0.out); (case side3 => exact Kd.pC ((Kd.C_below HR0_1.out HB.out))); (case side4 => exact HC0_1.out); rintro e w14 ⟨v200, v203, rfl, ho0, ho1, hb⟩; refine ⟨_, rfl, ?_⟩; have n0_ := Aside0.mk (Kd.R_lower ho0 (below_size (pB HB.out))); have n1_ := Aside0.mk (Kd.R_lower ho1 (below_size (pB HB.out))); have n2_ := Aside0.mk (blk_below (pK BK196.out) hb); have n3_ := Aside0.mk (blk_below (pK BK197.out) hb); have n4_ := Aside0.mk (below_step (pB HB.out) hb); clear BK196; clear BK197; clear HB; have HO201 := n0_; have HO204 := n1_; have BK196 := n2_; have BK197 := n3_; have HB := n4_; clear n0_ n1_ n2_ n3_ n4_; (try clear hb); (try clear hb2); (try clear hk); (try clear hi); (try clear ho0); (try clear ho1)) | ((with_reducible refine gate_dst (N := 7) rfl ?_); refine boxE (N := 7) (cs := #[.slice none 0 0, .slice none 0 0, .int .i64 0, .int .i64 0]) (t := 24) ?_; intro gb207 hg w15 hbox hb; have n0_ := Aside0.mk (Kd.R_below (Kd.pR HO201.out) hb); have n1_ := Aside0.mk (Kd.R_below (Kd.pR HO204.out) hb); have n2_ := Aside0.mk (blk_below (pK BK196.out) hb); have n3_ := Aside0.mk (blk_below (pK BK197.out) hb); have n4_ := Aside0.mk (below_step (pB HB.out) hb); have n5_ := Aside0.mk (hbox); have n7_ := Aside0.mk (pL HB.out hg); have n8_ := Aside0.mk (pNl BK196.out hg); have n9_ := Aside0.mk (pNg BK196.out hg); have n10_ := Aside0.mk (pNl BK197.out hg); have n11_ := Aside0.mk (pNg BK197.out hg); clear HO201; clear HO204; clear BK196; clear BK197; clear HB; have HO201 := n0_; have HO204 := n1_; have BK196 := n2_; have BK197 := n3_; have HB := n4_; have BK207 := n5_; have GE207 := n7_; have NB196_207 := n8_; have NB207_196 := n9_; have NB197_207 := n10_; have NB207_197 := n11_; clear n0_ n1_ n2_ n3_ n4_ n5_ n7_ n8_ n9_ n10_ n11_; clear hb hbox hg; obtain ⟨Ao16, co16, eo16⟩ := Kd.R_slice HO201.out; subst eo16; have hnb17 := NB207_196.out; have hnc17 := NB196_207.out; have hnb18 := NB207_197.out; have hnc18 := NB197_207.out; obtain ⟨hcz19_0, hcz19_1, hcz19_2, hcz19_3, hfz19_0, hfz19_1, hfz19_2, hfz19_3⟩ := bk4 BK207.out; obtain ⟨Ao20, co20, eo20⟩ := Kd.R_slice HO204.out; subst eo20) | ((with_reducible refine gate_callee (f := 33) rfl ?_); refine goesE (some 19) rfl rfl Try.func33 (by kernel_rfl) rfl #[.agg #[.slice Ao16 t199.length co16, .slice Ao20 t202.length co20, .int .i64 t205, .int .i64 t206], .int .i64 a1] rfl ?_; (with_reducible refine (lru_in.calls _ _ t199 _ _ t202 t205 t206 a1 t208 _ ?side1 ?side2 ?side3 ?side4 A6.out).mono ?_); (case side1 => refine (Kd.R_reads' (e := 3) (base := w.heap.size) (ok := fun k_ => some k_ ≠ (.slice Ao20 t202.length co20 : Value).ownBlock) (n := t199.length) (c := co16) ?_).2.2; exact (Kd.pR ((Kd.R_mono (Kd.R_far (p := ⟨gb207, 3, none⟩) (Kd.R_far (p := ⟨gb207, 2, none⟩) (Kd.R_far (p := ⟨gb207, 1, none⟩) (Kd.R_far (p := ⟨gb207, 0, none⟩) (Kd.R_types HO201.out BK207.out (by decide)) (fun _ hk => hk.2) (.slice Ao16 t199.length co16)) (fun _ hk => hk.2) (.slice Ao20 t202.length co20)) (fun _ hk => hk.2) (.int .i64 t205)) (fun _ hk => hk.2) (.int .i64 t206)) (fun _ h_ => h_.1))))); (case side2 => exact (Kd.R_reads' HO201.out).2.1); (case side3 => refine (Kd.R_reads' (e := 3) (base := w.heap.size) (ok := fun k_ => some k_ ≠ (.slice Ao16 t199.length co16 : Value).ownBlock) (n := t202.length) (c := co20) ?_).2.2; exact (Kd.pR ((Kd.R_mono (Kd.R_far (p := ⟨gb207, 3, none⟩) (Kd.R_far (p := ⟨gb207, 2, none⟩) (Kd.R_far (p := ⟨gb207, 1, none⟩) (Kd.R_far (p := ⟨gb207, 0, none⟩) (Kd.R_types HO204.out BK207.out (by decide)) (fun _ hk => hk.2) (.slice Ao16 t199.length co16)) (fun _ hk => hk.2) (.slice Ao20 t202.length co20)) (fun _ hk => hk.2) (.int .i64 t205)) (fun _ hk => hk.2) (.int .i64 t206)) (fun _ h_ => h_.1))))); (case side4 => exact (Kd.R_reads' HO204.out).2.1); rintro e w21 ⟨rfl, hb⟩; refine ⟨_, rfl, ?_⟩; have n0_ := Aside0.mk (Kd.R_below (Kd.pR ((Kd.R_mono (Kd.R_far (p := ⟨gb207, 3, none⟩) (Kd.R_far (p := ⟨gb207, 2, none⟩) (Kd.R_far (p := ⟨gb207, 1, none⟩) (Kd.R_far (p := ⟨gb207, 0, none⟩) (Kd.R_types HO201.out BK207.out (by decide)) (fun _ hk => hk.2) (.slice Ao16 t199.length co16)) (fun _ hk => hk.2) (.slice Ao20 t202.length co20)) (fun _ hk => hk.2) (.int .i64 t205)) (fun _ hk => hk.2) (.int .i64 t206)) (fun _ h_ => h_.1)))) hb); have n1_ := Aside0.mk (Kd.R_below (Kd.pR ((Kd.R_mono (Kd.R_far (p := ⟨gb207, 3, none⟩) (Kd.R_far (p := ⟨gb207, 2, none⟩) (Kd.R_far (p := ⟨gb207, 1, none⟩) (Kd.R_far (p := ⟨gb207, 0, none⟩) (Kd.R_types HO204.out BK207.out (by decide)) (fun _ hk => hk.2) (.slice Ao16 t199.length co16)) (fun _ hk => hk.2) (.slice Ao20 t202.length co20)) (fun _ hk => hk.2) (.int .i64 t205)) (fun _ hk => hk.2) (.int .i64 t206)) (fun _ h_ => h_.1)))) hb); have n2_ := Aside0.mk (blk_below (g := gb196) (o := .cells #[.slice A0_0 l0_0.length c0_0, .slice A0_1 l0_1.length c0_1, .int .i64 a0_2, .int .i64 a0_3] 24 (0, 0)) (by (with_reducible repeat (first | refine blk_drewN ?_ _ | refine blk_drew ?_ | refine blk_alloc ?_ _)); refine blk_far ?_ NB196_207.out _; (with_reducible repeat (first | refine blk_drewN ?_ _ | refine blk_drew ?_ | refine blk_alloc ?_ _)); refine blk_far ?_ NB196_207.out _; (with_reducible repeat (first | refine blk_drewN ?_ _ | refine blk_drew ?_ | refine blk_alloc ?_ _)); refine blk_far ?_ NB196_207.out _; (with_reducible repeat (first | refine blk_drewN ?_ _ | refine blk_drew ?_ | refine blk_alloc ?_ _)); refine blk_far ?_ NB196_207.out _; (with_reducible repeat (first | refine blk_drewN ?_ _ | refine blk_drew ?_ | refine blk_alloc ?_ _)); exact BK196.out) hb); have n3_ := Aside0.mk (blk_below (g := gb197) (o := .cells #[.slice none 0 0, .slice none 0 0, .int .i64 0, .int .i64 0] 24 (0, 0)) (by (with_reducible repeat (first | refine blk_drewN ?_ _ | refine blk_drew ?_ | refine blk_alloc ?_ _)); refine blk_far ?_ NB197_207.out _; (with_reducible repeat (first | refine blk_drewN ?_ _ | refine blk_drew ?_ | refine blk_alloc ?_ _)); refine blk_far ?_ NB197_207.out _; (with_reducible repeat (first | refine blk_drewN ?_ _ | refine blk_drew ?_ | refine blk_alloc ?_ _)); refine blk_far ?_ NB197_207.out _; (with_reducible repeat (first | refine blk_drewN ?_ _ | refine blk_drew ?_ | refine blk_alloc ?_ _)); refine blk_far ?_ NB197_207.out _; (with_reducible repeat (first | refine blk_drewN ?_ _ | refine blk_drew ?_ | refine blk_alloc ?_ _)); exact BK197.out) hb); have n4_ := Aside0.mk (blk_below (g := gb207) (o := .cells #[.slice Ao16 t199.length co16, .slice Ao20 t202.length co20, .int .i64 t205, .int .i64 t206] 24 (0, 0)) (by (with_reducible repeat (first | refine blk_drewN ?_ _ | refine blk_drew ?_ | refine blk_alloc ?_ _)); refine blk_put (cs := #[.slice Ao16 t199.length co16, .slice Ao20 t202.length co20, .int .i64 t205, .int .i64 0]) ?_ 3 _ rfl; (with_reducible repeat (first | refine blk_drewN ?_ _ | refine blk_drew ?_ | refine blk_alloc ?_ _)); refine blk_put (cs := #[.slice Ao16 t199.length co16, .slice Ao20 t202.length co20, .int .i64 0, .int .i64 0]) ?_ 2 _ rfl; (with_reducible repeat (first | refine blk_drewN ?_ _ | refine blk_drew ?_ | refine blk_alloc ?_ _)); refine blk_put (cs := #[.slice Ao16 t199.length co16, .slice none 0 0, .int .i64 0, .int .i64 0]) ?_ 1 _ rfl; (with_reducible repeat (first | refine blk_drewN ?_ _ | refine blk_drew ?_ | refine blk_alloc ?_ _)); refine blk_put (cs := #[.slice none 0 0, .slice none 0 0, .int .i64 0, .int .i64 0]) ?_ 0 _ rfl; (with_reducible repeat (first | refine blk_drewN ?_ _ | refine blk_drew ?_ | refine blk_alloc ?_ _)); exact BK207.out) hb); have n5_ := Aside0.mk (below_step (pB HB.out) hb); clear HO201; clear HO204; clear BK196; clear BK197; clear BK207; clear HB; have HO201 := n0_; have HO204 := n1_; have BK196 := n2_; have BK197 := n3_; have BK207 := n4_; have HB := n5_; clear n0_ n1_ n2_ n3_ n4_ n5_; (try clear hb); (try clear hb2); (try clear hk); (try clear hi)))
    (try simp only [Act.put, List.setIfInBounds_toArray, List.set_cons_zero, List.set_cons_succ])
    go_cut [] (fun wc => ∃ (kq : Nat) (x197002_6 : Int) (x197003_6 : Int) (x198002_6 : Int) (x198003_6 : Int) (x208000_6 : List Int) (x208001_6 : List Int) (x208002_6 : Int) (x208003_6 : Int) (u208000 : Value) (u208001 : Value), Aside0 (lru_Touch.j0 kq a1 x208000_6 x208001_6 x208002_6 x208003_6 = some (r1, r2, r3, r4, r5)) ∧ Aside0 (kq ≤ k) ∧ Aside0 (Kd.R (Kd.int .i64) 3 wc w.heap.size (fun k_ => some k_ ≠ (u208001 : Value).ownBlock) u208000 x208000_6) ∧ Aside0 (Kd.R (Kd.int .i64) 3 wc w.heap.size (fun k_ => some k_ ≠ (u208000 : Value).ownBlock) u208001 x208001_6) ∧ Aside0 (wc.heap[gb196]? = some (.cells #[(.slice A0_0 l0_0.length c0_0), (.slice A0_1 l0_1.length c0_1), .int .i64 x197002_6, .int .i64 x197003_6] 24 (0, 0))) ∧ Aside0 (wc.heap[gb197]? = some (.cells #[(.slice none 0 0), (.slice none 0 0), .int .i64 x198002_6, .int .i64 x198003_6] 24 (0, 0))) ∧ Aside0 (wc.heap[gb207]? = some (.cells #[u208000, u208001, .int .i64 x208002_6, .int .i64 x208003_6] 24 (0, 0))) ∧ Aside0 (Below w.heap.size w wc))
    case first =>
      have H := HC7.out
      (try clear HC7)
      by_cases c22 : t208 = true
      · subst c22
        have H1 : (if 0 ≤ a1 then (if a1 < (t199.length : Int) then (if a1 < (t202.length : Int) then (if (rd t199 a1) = (-1) then (if (rd t202 a1) = (-1) then (lru_Touch.j0 k a1 (t199.set (a1 : Int).toNat (-1)) (t202.set (a1 : Int).toNat (-1)) (rd t202 a1) (rd t199 a1)) else (if 0 ≤ (rd t202 a1) then (if (rd t202 a1) < (t199.length : Int) then (lru_Touch.j0 k a1 ((t199.set ((rd t202 a1) : Int).toNat (rd t199 a1)).set (a1 : Int).toNat (-1)) (t202.set (a1 : Int).toNat (-1)) (rd t202 a1) t206) else (none)) else (none))) else (if 0 ≤ (rd t199 a1) then (if (rd t199 a1) < (t202.length : Int) then ((some (t202.set ((rd t199 a1) : Int).toNat (rd t202 a1) : List Int)).bind fun y216 => (if (rd t202 a1) = (-1) then (lru_Touch.j0 k a1 (t199.set (a1 : Int).toNat (-1)) (y216.set (a1 : Int).toNat (-1)) t205 (rd t199 a1)) else (if 0 ≤ (rd t202 a1) then (if (rd t202 a1) < (t199.length : Int) then (lru_Touch.j0 k a1 ((t199.set ((rd t202 a1) : Int).toNat (rd t199 a1)).set (a1 : Int).toNat (-1)) (y216.set (a1 : Int).toNat (-1)) t205 t206) else (none)) else (none)))) else (none)) else (none))) else (none)) else (none)) else (none)) = some (r1, r2, r3, r4, r5) := by rw [if_pos rfl] at H; exact H
        clear H
        have H := H1
        clear H1
        by_cases c23 : 0 ≤ a1
        · rw [if_pos c23] at H
          have c23b0 : decide (0 ≤ a1) = true := decide_eq_true c23
          clear c23
          (first | rw [c23b0] | (simp only [i64_w, i32_w]; rw [c23b0]) | skip)
          by_cases c24 : a1 < (t199.length : Int)
          · rw [if_pos c24] at H
            have c24b0 : decide (a1 < (t199.length : Int)) = true := decide_eq_true c24
            clear c24
            by_cases c25 : a1 < (t202.length : Int)
            · rw [if_pos c25] at H
              have c25b0 : decide (a1 < (t202.length : Int)) = true := decide_eq_true c25
              clear c25
              by_cases c26 : (rd t199 a1) = (-1)
              · rw [if_pos c26] at H
                have c26b0 : ((rd t199 a1) == (-1)) = true := beq_iff_eq.mpr c26
                have c26b1 : ((rd t199 a1) != (-1)) = false := bne_eq_false_iff_eq.mpr c26
                clear c26
                by_cases c27 : (rd t202 a1) = (-1)
                · rw [if_pos c27] at H
                  have c27b0 : ((rd t202 a1) == (-1)) = true := beq_iff_eq.mpr c27
                  have c27b1 : ((rd t202 a1) != (-1)) = false := bne_eq_false_iff_eq.mpr c27
                  clear c27
                  obtain ⟨y211, hy211⟩ : ∃ y_ : List Int, y_ = (t199.set (a1 : Int).toNat (-1)) := ⟨_, rfl⟩
                  replace H : (lru_Touch.j0 k a1 y211 (t202.set (a1 : Int).toNat (-1)) (rd t202 a1) (rd t199 a1)) = some (r1, r2, r3, r4, r5) := by first | (rw [hy211]; with_reducible exact H) | (have H2_ := (Option.bind_some _ _).symm.trans H; rw [hy211]; with_reducible exact H2_) | (have H2_ := (Option.bind_some _ _).symm.trans H; with_reducible exact H2_) | with_reducible exact H | (rw [hy211]; exact H) | exact H
                  have Ny211 := Aside0.mk hy211
                  (try clear hy211)
                  obtain ⟨y212, hy212⟩ : ∃ y_ : List Int, y_ = (t202.set (a1 : Int).toNat (-1)) := ⟨_, rfl⟩
                  replace H : (lru_Touch.j0 k a1 y211 y212 (rd t202 a1) (rd t199 a1)) = some (r1, r2, r3, r4, r5) := by first | (rw [hy212]; with_reducible exact H) | (have H2_ := (Option.bind_some _ _).symm.trans H; rw [hy212]; with_reducible exact H2_) | (have H2_ := (Option.bind_some _ _).symm.trans H; with_reducible exact H2_) | with_reducible exact H | (rw [hy212]; exact H) | exact H
                  have Ny212 := Aside0.mk hy212
                  (try clear hy212)
                  have H' := Aside0.mk H
                  clear H
                  try go_wp2_with (first | ((with_reducible refine gate_callee (f := 34) rfl ?_); refine goesL_ (some 21) rfl rfl Try.func34 (by kernel_rfl) rfl #[.pointer (some ⟨gb207, 0, none⟩), .int .i64 a1] rfl (by (try simp only [List.map_toArray, List.map_cons, List.map_nil]); first | done | rfl) ?_; go_enter Try.func34, Try.ntmps34))
                  have n0_ := Aside0.mk (Kd.R_drew HO201.out)
                  have n1_ := Aside0.mk (Kd.R_drew HO204.out)
                  have n2_ := Aside0.mk (blk_drew BK196.out)
                  have n3_ := Aside0.mk (blk_drew BK197.out)
                  have n4_ := Aside0.mk (blk_drew BK207.out)
                  have n5_ := Aside0.mk (below_drew1 HB.out)
                  clear HO201
                  clear HO204
                  clear BK196
                  clear BK197
                  clear BK207
                  clear HB
                  have HO201 := n0_
                  have HO204 := n1_
                  have BK196 := n2_
                  have BK197 := n3_
                  have BK207 := n4_
                  have HB := n5_
                  clear n0_ n1_ n2_ n3_ n4_ n5_
                  have p209 : 0 ≤ (a1 : Int) := od
                  have q209 : a1 < (t199.length : Int) := od
                  obtain ⟨ad209, e209, hx209_0⟩ := Kd.at_int (Kd.R_reads' HO201.out).2.2 a1 p209 q209
                  cases e209
                  replace p209 := eq_true p209
                  replace q209 := eq_true q209
                  have p210 : 0 ≤ (a1 : Int) := od
                  have q210 : a1 < (t202.length : Int) := od
                  obtain ⟨ad210, e210, hx210_0⟩ := Kd.at_int (Kd.R_reads' HO204.out).2.2 a1 p210 q210
                  cases e210
                  replace p210 := eq_true p210
                  replace q210 := eq_true q210
                  refine start_ (n := 16) (S := fun w' => w'.cell? ⟨gb207, 0, none⟩ = some (.slice (some ad209) t199.length co16) ∧ w'.cell? ⟨gb207, 1, none⟩ = some (.slice (some ad210) t202.length co20) ∧ w'.cell? ⟨gb207, 2, none⟩ = some (.int .i64 t205) ∧ w'.cell? ⟨gb207, 3, none⟩ = some (.int .i64 t206) ∧ w'.cell? (ad209.add (a1).toNat) = some (.int .i64 (rd t199 a1)) ∧ w'.cell? (ad210.add (a1).toNat) = some (.int .i64 (rd t202 a1))) (ds := []) #[false, false, false, false, false, false, false, false, false, false, false, false, false, false, false, false] (by kernel_rfl) rfl rfl ⟨(blk_cell BK207.out 0).trans rfl, (blk_cell BK207.out 1).trans rfl, (blk_cell BK207.out 2).trans rfl, (blk_cell BK207.out 3).trans rfl, hx209_0, hx210_0⟩ (fun hHeld => ?_); refine with_tabW lru_Touch.tab34000 lru_Touch.bits34000 (fun HT_ HW_ => ?_)
                  generalize w21.drew = w30 at HO201 HO204 BK196 BK197 BK207 HB hx209_0 hx210_0 hHeld ⊢
                  refine pure_ (i := 0) (N := some 6) (v := ?_) (a' := ?_) #[true, false, false, false, false, false, false, false, false, false, false, false, false, false, false, false] rfl rfl (any_of HT_.out (by kernel_rfl)) (fun _ _ _ h => h) (Or.inl ⟨by rfl, ?_⟩) ?_ ?_
                  rotate_left
                  · intro w'
                    go_simp
                    with_reducible rfl
                  rotate_left
                  · simp only [Act.put, List.setIfInBounds_toArray, List.set_cons_zero, List.set_cons_succ, i64_w, i32_w]
                    rfl
                  refine pure_ (i := 1) (N := some 7) (v := ?_) (a' := ?_) #[true, true, false, false, false, false, false, false, false, false, false, false, false, false, false, false] rfl rfl (any_of HT_.out (by kernel_rfl)) (fun _ _ _ h => h) (Or.inl ⟨by rfl, ?_⟩) ?_ ?_
                  rotate_left
                  · intro w'
                    go_simp
                    with_reducible rfl
                  rotate_left
                  · simp only [Act.put, List.setIfInBounds_toArray, List.set_cons_zero, List.set_cons_succ, i64_w, i32_w]
                    rfl
                  refine pure_ (i := 2) (N := some 8) (v := ?_) (a' := ?_) #[true, true, true, false, false, false, false, false, false, false, false, false, false, false, false, false] rfl rfl (any_of HT_.out (by kernel_rfl)) (fun _ _ _ h => h) (Or.inl ⟨by rfl, ?_⟩) ?_ ?_
                  rotate_left
                  · intro w'
                    go_simp
                    with_reducible rfl
                  rotate_left
                  · simp only [Act.put, List.setIfInBounds_toArray, List.set_cons_zero, List.set_cons_succ, i64_w, i32_w]
                    rfl
                  refine pure_ (i := 4) (N := some 10) (v := ?_) (a' := ?_) #[true, true, true, false, true, false, false, false, false, false, false, false, false, false, false, false] rfl rfl (any_of HT_.out (by kernel_rfl)) (fun _ _ _ h => h) (Or.inl ⟨by rfl, ?_⟩) ?_ ?_
                  rotate_left
                  · intro w'
                    go_simp
                    with_reducible rfl
                  rotate_left
                  · simp only [Act.put, List.setIfInBounds_toArray, List.set_cons_zero, List.set_cons_succ, i64_w, i32_w]
                    rfl
                  refine pure_ (i := 7) (N := some 13) (v := ?_) (a' := ?_) #[true, true, true, false, true, false, false, true, false, false, false, false, false, false, false, false] rfl rfl (any_of HT_.out (by kernel_rfl)) (fun _ _ _ h => h) (Or.inl ⟨by rfl, ?_⟩) ?_ ?_
                  rotate_left
                  · intro w'
                    go_simp
                    with_reducible rfl
                  rotate_left
                  · simp only [Act.put, List.setIfInBounds_toArray, List.set_cons_zero, List.set_cons_succ, i64_w, i32_w]
                    rfl
                  refine pure_ (i := 8) (N := some 14) (v := ?_) (a' := ?_) #[true, true, true, false, true, false, false, true, true, false, false, false, false, false, false, false] rfl rfl (any_of HT_.out (by kernel_rfl)) (fun _ _ _ h => h) (Or.inl ⟨by rfl, ?_⟩) ?_ ?_
                  rotate_left
                  · intro w'
                    go_simp
                    with_reducible rfl
                  rotate_left
                  · simp only [Act.put, List.setIfInBounds_toArray, List.set_cons_zero, List.set_cons_succ, i64_w, i32_w]
                    rfl
                  refine pure_ (i := 9) (N := some 15) (v := ?_) (a' := ?_) #[true, true, true, false, true, false, false, true, true, true, false, false, false, false, false, false] rfl rfl (any_of HT_.out (by kernel_rfl)) (fun _ _ _ h => h) (Or.inl ⟨by rfl, ?_⟩) ?_ ?_
                  rotate_left
                  · intro w'
                    go_simp
                    with_reducible rfl
                  rotate_left
                  · simp only [Act.put, List.setIfInBounds_toArray, List.set_cons_zero, List.set_cons_succ, i64_w, i32_w]
                    rfl
                  refine pure_ (i := 11) (N := some 17) (v := ?_) (a' := ?_) #[true, true, true, false, true, false, false, true, true, true, false, true, false, false, false, false] rfl rfl (any_of HT_.out (by kernel_rfl)) (fun _ _ _ h => h) (Or.inl ⟨by rfl, ?_⟩) ?_ ?_
                  rotate_left
                  · intro w'
                    go_simp
                    with_reducible rfl
                  rotate_left
                  · simp only [Act.put, List.setIfInBounds_toArray, List.set_cons_zero, List.set_cons_succ, i64_w, i32_w]
                    rfl
                  refine take_ (i := 3) (N := some 9) (v := ?_) (a' := ?_) #[true, true, true, true, true, false, false, true, true, true, false, true, false, false, false, false] rfl rfl (take_ofW HT_.out HW_.out (by kernel_rfl)) (fun _ _ _ h => h) (Or.inl ⟨by rfl, ?_⟩) hHeld ?_ ?_
                  rotate_left
                  · rintro w' ⟨s0, s1, s2, s3, s4, s5⟩
                    go_simp
                    with_reducible rfl
                  rotate_left
                  · simp only [Act.put, List.setIfInBounds_toArray, List.set_cons_zero, List.set_cons_succ, i64_w, i32_w]
                    rfl
                  refine pure_ (i := 5) (N := some 11) (v := ?_) (a' := ?_) #[true, true, true, true, true, true, false, true, true, true, false, true, false, false, false, false] rfl rfl (any_of HT_.out (by kernel_rfl)) (fun _ _ _ h => h) (Or.inl ⟨by rfl, ?_⟩) ?_ ?_
                  rotate_left
                  · intro w'
                    go_simp
                    with_reducible rfl
                  rotate_left
                  · simp only [Act.put, List.setIfInBounds_toArray, List.set_cons_zero, List.set_cons_succ, i64_w, i32_w]
                    rfl
                  refine take_ (i := 6) (N := some 12) (v := ?_) (a' := ?_) #[true, true, true, true, true, true, true, true, true, true, false, true, false, false, false, false] rfl rfl (take_ofW HT_.out HW_.out (by kernel_rfl)) (fun _ _ _ h => h) (Or.inl ⟨by rfl, ?_⟩) hHeld ?_ ?_
                  rotate_left
                  · rintro w' ⟨s0, s1, s2, s3, s4, s5⟩
                    go_simp
                    with_reducible rfl
                  rotate_left
                  · simp only [Act.put, List.setIfInBounds_toArray, List.set_cons_zero, List.set_cons_succ, i64_w, i32_w]
                    rfl
                  refine pure_ (i := 14) (N := some 4) (v := ?_) (a' := ?_) #[true, true, true, true, true, true, true, true, true, true, false, true, false, false, true, false] rfl rfl (any_of HT_.out (by kernel_rfl)) (fun _ _ _ h => h) (Or.inl ⟨by rfl, ?_⟩) ?_ ?_
                  rotate_left
                  · intro w'
                    go_simp
                    with_reducible rfl
                  rotate_left
                  · simp only [Act.put, List.setIfInBounds_toArray, List.set_cons_zero, List.set_cons_succ, i64_w, i32_w]
                    rfl
                  refine take_ (i := 10) (N := some 16) (v := ?_) (a' := ?_) #[true, true, true, true, true, true, true, true, true, true, true, true, false, false, true, false] rfl rfl (take_ofW HT_.out HW_.out (by kernel_rfl)) (fun _ _ _ h => h) (Or.inl ⟨by rfl, ?_⟩) hHeld ?_ ?_
                  rotate_left
                  · rintro w' ⟨s0, s1, s2, s3, s4, s5⟩
                    go_simp
                    with_reducible rfl
                  rotate_left
                  · simp only [Act.put, List.setIfInBounds_toArray, List.set_cons_zero, List.set_cons_succ, i64_w, i32_w]
                    rfl
                  refine pure_ (i := 12) (N := some 18) (v := ?_) (a' := ?_) #[true, true, true, true, true, true, true, true, true, true, true, true, true, false, true, false] rfl rfl (any_of HT_.out (by kernel_rfl)) (fun _ _ _ h => h) (Or.inl ⟨by rfl, ?_⟩) ?_ ?_
                  rotate_left
                  · intro w'
                    go_simp
                    with_reducible rfl
                  rotate_left
                  · simp only [Act.put, List.setIfInBounds_toArray, List.set_cons_zero, List.set_cons_succ, i64_w, i32_w]
                    rfl
                  refine take_ (i := 13) (N := some 19) (v := ?_) (a' := ?_) #[true, true, true, true, true, true, true, true, true, true, true, true, true, true, true, false] rfl rfl (take_ofW HT_.out HW_.out (by kernel_rfl)) (fun _ _ _ h => h) (Or.inl ⟨by rfl, ?_⟩) hHeld ?_ ?_
                  rotate_left
                  · rintro w' ⟨s0, s1, s2, s3, s4, s5⟩
                    go_simp
                    with_reducible rfl
                  rotate_left
                  · simp only [Act.put, List.setIfInBounds_toArray, List.set_cons_zero, List.set_cons_succ, i64_w, i32_w]
                    rfl
                  refine pure_ (i := 15) (N := some 5) (v := ?_) (a' := ?_) #[true, true, true, true, true, true, true, true, true, true, true, true, true, true, true, true] rfl rfl (any_of HT_.out (by kernel_rfl)) (fun _ _ _ h => h) (Or.inl ⟨by rfl, ?_⟩) ?_ ?_
                  rotate_left
                  · intro w'
                    go_simp
                    with_reducible rfl
                  rotate_left
                  · simp only [Act.put, List.setIfInBounds_toArray, List.set_cons_zero, List.set_cons_succ, i64_w, i32_w]
                    rfl
                  refine done_ (done_of HT_.out (by kernel_rfl)) ?_
                  have hnb31 := NB207_196.out
                  have hnc31 := NB196_207.out
                  have hnb32 := NB207_197.out
                  have hnc32 := NB197_207.out
                  obtain ⟨hcz33_0, hcz33_1, hcz33_2, hcz33_3, hfz33_0, hfz33_1, hfz33_2, hfz33_3⟩ := bk4 BK207.out
                  try go_wp2
                  have n0_ : Aside0 (Kd.R (Kd.int .i64) 3 ((w30.setCell ⟨gb207, 2, none⟩ (.int .i64 (rd t202 a1))).setCell ⟨gb207, 3, none⟩ (.int .i64 (rd t199 a1))) w.heap.size (fun k_ => some k_ ≠ (.slice (some ad210) t202.length co20 : Value).ownBlock) (.slice (some ad209) t199.length co16) t199) := ⟨Kd.pR (Kd.R_mono (Kd.R_far (p := ⟨gb207, 3, none⟩) (Kd.R_far (p := ⟨gb207, 2, none⟩) (Kd.R_types HO201.out BK207.out (by decide)) (fun _ hk => hk.2) (.int .i64 (rd t202 a1))) (fun _ hk => hk.2) (.int .i64 (rd t199 a1))) (fun _ hk => hk.1))⟩
                  have n1_ : Aside0 (Kd.R (Kd.int .i64) 3 ((w30.setCell ⟨gb207, 2, none⟩ (.int .i64 (rd t202 a1))).setCell ⟨gb207, 3, none⟩ (.int .i64 (rd t199 a1))) w.heap.size (fun k_ => some k_ ≠ (.slice (some ad209) t199.length co16 : Value).ownBlock) (.slice (some ad210) t202.length co20) t202) := ⟨Kd.pR (Kd.R_mono (Kd.R_far (p := ⟨gb207, 3, none⟩) (Kd.R_far (p := ⟨gb207, 2, none⟩) (Kd.R_types HO204.out BK207.out (by decide)) (fun _ hk => hk.2) (.int .i64 (rd t202 a1))) (fun _ hk => hk.2) (.int .i64 (rd t199 a1))) (fun _ hk => hk.1))⟩
                  have n2_ : Aside0 (((w30.setCell ⟨gb207, 2, none⟩ (.int .i64 (rd t202 a1))).setCell ⟨gb207, 3, none⟩ (.int .i64 (rd t199 a1))).heap[gb196]? = some (.cells #[.slice A0_0 l0_0.length c0_0, .slice A0_1 l0_1.length c0_1, .int .i64 a0_2, .int .i64 a0_3] 24 (0, 0))) := ⟨by (with_reducible repeat (first | refine blk_drewN ?_ _ | refine blk_drew ?_ | refine blk_alloc ?_ _)); refine blk_far ?_ NB196_207.out _; (with_reducible repeat (first | refine blk_drewN ?_ _ | refine blk_drew ?_ | refine blk_alloc ?_ _)); refine blk_far ?_ NB196_207.out _; (with_reducible repeat (first | refine blk_drewN ?_ _ | refine blk_drew ?_ | refine blk_alloc ?_ _)); exact BK196.out⟩
                  have n3_ : Aside0 (((w30.setCell ⟨gb207, 2, none⟩ (.int .i64 (rd t202 a1))).setCell ⟨gb207, 3, none⟩ (.int .i64 (rd t199 a1))).heap[gb197]? = some (.cells #[.slice none 0 0, .slice none 0 0, .int .i64 0, .int .i64 0] 24 (0, 0))) := ⟨by (with_reducible repeat (first | refine blk_drewN ?_ _ | refine blk_drew ?_ | refine blk_alloc ?_ _)); refine blk_far ?_ NB197_207.out _; (with_reducible repeat (first | refine blk_drewN ?_ _ | refine blk_drew ?_ | refine blk_alloc ?_ _)); refine blk_far ?_ NB197_207.out _; (with_reducible repeat (first | refine blk_drewN ?_ _ | refine blk_drew ?_ | refine blk_alloc ?_ _)); exact BK197.out⟩
                  have n4_ : Aside0 (((w30.setCell ⟨gb207, 2, none⟩ (.int .i64 (rd t202 a1))).setCell ⟨gb207, 3, none⟩ (.int .i64 (rd t199 a1))).heap[gb207]? = some (.cells #[.slice (some ad209) t199.length co16, .slice (some ad210) t202.length co20, .int .i64 (rd t202 a1), .int .i64 (rd t199 a1)] 24 (0, 0))) := ⟨by (with_reducible repeat (first | refine blk_drewN ?_ _ | refine blk_drew ?_ | refine blk_alloc ?_ _)); refine blk_put (cs := #[.slice (some ad209) t199.length co16, .slice (some ad210) t202.length co20, .int .i64 (rd t202 a1), .int .i64 t206]) ?_ 3 _ rfl; (with_reducible repeat (first | refine blk_drewN ?_ _ | refine blk_drew ?_ | refine blk_alloc ?_ _)); refine blk_put (cs := #[.slice (some ad209) t199.length co16, .slice (some ad210) t202.length co20, .int .i64 t205, .int .i64 t206]) ?_ 2 _ rfl; (with_reducible repeat (first | refine blk_drewN ?_ _ | refine blk_drew ?_ | refine blk_alloc ?_ _)); exact BK207.out⟩
                  have n5_ : Aside0 (Below w.heap.size w ((w30.setCell ⟨gb207, 2, none⟩ (.int .i64 (rd t202 a1))).setCell ⟨gb207, 3, none⟩ (.int .i64 (rd t199 a1)))) := ⟨pB HB.out⟩
                  (try clear HO201)
                  (try clear HO204)
                  (try clear BK196)
                  (try clear BK197)
                  (try clear BK207)
                  (try clear HB)
                  generalize ((w30.setCell ⟨gb207, 2, none⟩ (.int .i64 (rd t202 a1))).setCell ⟨gb207, 3, none⟩ (.int .i64 (rd t199 a1))) = w34 at n0_ n1_ n2_ n3_ n4_ n5_ ⊢
                  have HO201 := n0_
                  have HO204 := n1_
                  have BK196 := n2_
                  have BK197 := n3_
                  have BK207 := n4_
                  have HB := n5_
                  clear n0_ n1_ n2_ n3_ n4_ n5_
                  have n0_ := Aside0.mk (Kd.R_drew HO201.out)
                  have n1_ := Aside0.mk (Kd.R_drew HO204.out)
                  have n2_ := Aside0.mk (blk_drew BK196.out)
                  have n3_ := Aside0.mk (blk_drew BK197.out)
                  have n4_ := Aside0.mk (blk_drew BK207.out)
                  have n5_ := Aside0.mk (below_drew1 HB.out)
                  clear HO201
                  clear HO204
                  clear BK196
                  clear BK197
                  clear BK207
                  clear HB
                  have HO201 := n0_
                  have HO204 := n1_
                  have BK196 := n2_
                  have BK197 := n3_
                  have BK207 := n4_
                  have HB := n5_
                  clear n0_ n1_ n2_ n3_ n4_ n5_
                  have p28 : 0 ≤ (a1 : Int) := od
                  have q28 : (a1 : Int) < ((t199.length : Int) : Int) := od
                  obtain ⟨go28, co28, eo28, gb28, gl28, cl28, HG28⟩ := Kd.R_form HO201.out (by omega)
                  (first | cases eo28 | (injection eo28 with ea_ en_ ec_; (first | subst ea_ | (injection ea_ with ea_; subst ea_)); subst ec_; clear en_))
                  have GB28 := Aside0.mk gb28
                  have GG28 := Aside0.mk HG28
                  clear gb28 gl28 HG28
                  (first | simp only [add_plain] at hx209_0 | skip)
                  obtain ⟨hx28_0, hf28_0⟩ := Kd.R_celln 0 HO201.out (a1 : Int) p28 q28
                  replace p28 := eq_true p28
                  replace q28 := eq_true q28
                  have HP36 := Kd.R_putn HO201.out (a1 : Int) (-1)
                  rw [← Ny211.out] at HP36
                  have HQ36 := Aside0.mk HP36
                  (try clear HP36)
                  have p29 : 0 ≤ (a1 : Int) := od
                  have q29 : (a1 : Int) < ((t202.length : Int) : Int) := od
                  obtain ⟨go29, co29, eo29, gb29, gl29, cl29, HG29⟩ := Kd.R_form HO204.out (by omega)
                  (first | cases eo29 | (injection eo29 with ea_ en_ ec_; (first | subst ea_ | (injection ea_ with ea_; subst ea_)); subst ec_; clear en_))
                  have GB29 := Aside0.mk gb29
                  have GG29 := Aside0.mk HG29
                  clear gb29 gl29 HG29
                  (first | simp only [add_plain] at hx210_0 | skip)
                  obtain ⟨hx29_0, hf29_0⟩ := Kd.R_celln 0 (Kd.R_far (p := ⟨go28, (a1 : Int).toNat, none⟩) (Kd.R_mono HO204.out (fun k_ hk => (⟨hk, fun e_ => hk (by rw [e_]; rfl)⟩ : _ ∧ k_ ≠ go28))) (fun _ hk => hk.2) (.int .i64 (-1))) (a1 : Int) p29 q29
                  replace p29 := eq_true p29
                  replace q29 := eq_true q29
                  have HP37 := Kd.R_putn (Kd.R_far (p := ⟨go28, (a1 : Int).toNat, none⟩) (Kd.R_mono HO204.out (fun k_ hk => (⟨hk, fun e_ => hk (by rw [e_]; rfl)⟩ : _ ∧ k_ ≠ go28))) (fun _ hk => hk.2) (.int .i64 (-1))) (a1 : Int) (-1)
                  rw [← Ny212.out] at HP37
                  have HQ37 := Aside0.mk HP37
                  (try clear HP37)
                  refine start_ (n := 14) (S := fun w' => w'.cell? ⟨gb207, 0, none⟩ = some (.slice (some ⟨go28, 0, none⟩) t199.length co16) ∧ w'.cell? ⟨gb207, 1, none⟩ = some (.slice (some ⟨go29, 0, none⟩) t202.length co20) ∧ w'.cell? ⟨gb207, 2, none⟩ = some (.int .i64 (rd t202 a1)) ∧ w'.cell? ⟨gb207, 3, none⟩ = some (.int .i64 (rd t199 a1))) (ds := [11, 13]) #[false, false, false, false, false, false, false, false, false, false, false, false, false, false] (by kernel_rfl) rfl rfl ⟨(blk_cell BK207.out 0).trans rfl, (blk_cell BK207.out 1).trans rfl, (blk_cell BK207.out 2).trans rfl, (blk_cell BK207.out 3).trans rfl⟩ (fun hHeld => ?_); refine with_tabW lru_Touch.tab34007 lru_Touch.bits34007 (fun HT_ HW_ => ?_)
                  generalize w34.drew = w35 at HO201 HO204 BK196 BK197 BK207 HB GG28 GG29 HQ36 HQ37 hf28_0 hf29_0 hx209_0 hx210_0 hx28_0 hx29_0 hHeld ⊢
                  refine pure_ (i := 0) (N := some 46) (v := ?_) (a' := ?_) #[true, false, false, false, false, false, false, false, false, false, false, false, false, false] rfl rfl (any_of HT_.out (by kernel_rfl)) (fun _ _ _ h => h) (Or.inl ⟨by rfl, ?_⟩) ?_ ?_
                  rotate_left
                  · intro w'
                    go_simp
                    with_reducible rfl
                  rotate_left
                  · simp only [Act.put, List.setIfInBounds_toArray, List.set_cons_zero, List.set_cons_succ, i64_w, i32_w]
                    rfl
                  refine pure_ (i := 1) (N := some 47) (v := ?_) (a' := ?_) #[true, true, false, false, false, false, false, false, false, false, false, false, false, false] rfl rfl (any_of HT_.out (by kernel_rfl)) (fun _ _ _ h => h) (Or.inl ⟨by rfl, ?_⟩) ?_ ?_
                  rotate_left
                  · intro w'
                    go_simp
                    with_reducible rfl
                  rotate_left
                  · simp only [Act.put, List.setIfInBounds_toArray, List.set_cons_zero, List.set_cons_succ, i64_w, i32_w]
                    rfl
                  refine pure_ (i := 2) (N := some 48) (v := ?_) (a' := ?_) #[true, true, true, false, false, false, false, false, false, false, false, false, false, false] rfl rfl (any_of HT_.out (by kernel_rfl)) (fun _ _ _ h => h) (Or.inl ⟨by rfl, ?_⟩) ?_ ?_
                  rotate_left
                  · intro w'
                    go_simp
                    with_reducible rfl
                  rotate_left
                  · simp only [Act.put, List.setIfInBounds_toArray, List.set_cons_zero, List.set_cons_succ, i64_w, i32_w]
                    rfl
                  refine pure_ (i := 4) (N := some 50) (v := ?_) (a' := ?_) #[true, true, true, false, true, false, false, false, false, false, false, false, false, false] rfl rfl (any_of HT_.out (by kernel_rfl)) (fun _ _ _ h => h) (Or.inl ⟨by rfl, ?_⟩) ?_ ?_
                  rotate_left
                  · intro w'
                    go_simp
                    with_reducible rfl
                  rotate_left
                  · simp only [Act.put, List.setIfInBounds_toArray, List.set_cons_zero, List.set_cons_succ, i64_w, i32_w]
                    rfl
                  refine pure_ (i := 5) (N := some 51) (v := ?_) (a' := ?_) #[true, true, true, false, true, true, false, false, false, false, false, false, false, false] rfl rfl (any_of HT_.out (by kernel_rfl)) (fun _ _ _ h => h) (Or.inl ⟨by rfl, ?_⟩) ?_ ?_
                  rotate_left
                  · intro w'
                    go_simp
                    with_reducible rfl
                  rotate_left
                  · simp only [Act.put, List.setIfInBounds_toArray, List.set_cons_zero, List.set_cons_succ, i64_w, i32_w]
                    rfl
                  refine pure_ (i := 6) (N := some 52) (v := ?_) (a' := ?_) #[true, true, true, false, true, true, true, false, false, false, false, false, false, false] rfl rfl (any_of HT_.out (by kernel_rfl)) (fun _ _ _ h => h) (Or.inl ⟨by rfl, ?_⟩) ?_ ?_
                  rotate_left
                  · intro w'
                    go_simp
                    with_reducible rfl
                  rotate_left
                  · simp only [Act.put, List.setIfInBounds_toArray, List.set_cons_zero, List.set_cons_succ, i64_w, i32_w]
                    rfl
                  refine pure_ (i := 7) (N := some 53) (v := ?_) (a' := ?_) #[true, true, true, false, true, true, true, true, false, false, false, false, false, false] rfl rfl (any_of HT_.out (by kernel_rfl)) (fun _ _ _ h => h) (Or.inl ⟨by rfl, ?_⟩) ?_ ?_
                  rotate_left
                  · intro w'
                    go_simp
                    with_reducible rfl
                  rotate_left
                  · simp only [Act.put, List.setIfInBounds_toArray, List.set_cons_zero, List.set_cons_succ, i64_w, i32_w]
                    rfl
                  refine pure_ (i := 9) (N := some 55) (v := ?_) (a' := ?_) #[true, true, true, false, true, true, true, true, false, true, false, false, false, false] rfl rfl (any_of HT_.out (by kernel_rfl)) (fun _ _ _ h => h) (Or.inl ⟨by rfl, ?_⟩) ?_ ?_
                  rotate_left
                  · intro w'
                    go_simp
                    with_reducible rfl
                  rotate_left
                  · simp only [Act.put, List.setIfInBounds_toArray, List.set_cons_zero, List.set_cons_succ, i64_w, i32_w]
                    rfl
                  refine take_ (i := 3) (N := some 49) (v := ?_) (a' := ?_) #[true, true, true, true, true, true, true, true, false, true, false, false, false, false] rfl rfl (take_ofW HT_.out HW_.out (by kernel_rfl)) (fun _ _ _ h => h) (Or.inl ⟨by rfl, ?_⟩) hHeld ?_ ?_
                  rotate_left
                  · rintro w' ⟨s0, s1, s2, s3⟩
                    go_simp
                    with_reducible rfl
                  rotate_left
                  · simp only [Act.put, List.setIfInBounds_toArray, List.set_cons_zero, List.set_cons_succ, i64_w, i32_w]
                    rfl
                  refine take_ (i := 8) (N := some 54) (v := ?_) (a' := ?_) #[true, true, true, true, true, true, true, true, true, true, false, false, false, false] rfl rfl (take_ofW HT_.out HW_.out (by kernel_rfl)) (fun _ _ _ h => h) (Or.inl ⟨by rfl, ?_⟩) hHeld ?_ ?_
                  rotate_left
                  · rintro w' ⟨s0, s1, s2, s3⟩
                    go_simp
                    with_reducible rfl
                  rotate_left
                  · simp only [Act.put, List.setIfInBounds_toArray, List.set_cons_zero, List.set_cons_succ, i64_w, i32_w]
                    rfl
                  refine pure_ (i := 10) (N := some 56) (v := ?_) (a' := ?_) #[true, true, true, true, true, true, true, true, true, true, true, false, false, false] rfl rfl (any_of HT_.out (by kernel_rfl)) (fun _ _ _ h => h) (Or.inl ⟨by rfl, ?_⟩) ?_ ?_
                  rotate_left
                  · intro w'
                    go_simp
                    with_reducible rfl
                  rotate_left
                  · simp only [Act.put, List.setIfInBounds_toArray, List.set_cons_zero, List.set_cons_succ, i64_w, i32_w]
                    rfl
                  refine last_ (i := 11) (N := none) #[true, true, true, true, true, true, true, true, true, true, true, true, false, false] rfl rfl (one_of HT_.out (by kernel_rfl)) (by decide) (fun K hK => ?_)
                  refine skip_ (w1 := ?_) (by rfl) rfl ?_ ?_
                  rotate_left
                  · go_simp
                    rfl
                  refine hK.out _ _ ?_
                  clear hK K
                  refine pure_ (i := 12) (N := some 57) (v := ?_) (a' := ?_) #[true, true, true, true, true, true, true, true, true, true, true, true, true, false] rfl rfl (any_of HT_.out (by kernel_rfl)) (fun _ _ _ h => h) (Or.inl ⟨by rfl, ?_⟩) ?_ ?_
                  rotate_left
                  · intro w'
                    go_simp
                    with_reducible rfl
                  rotate_left
                  · simp only [Act.put, List.setIfInBounds_toArray, List.set_cons_zero, List.set_cons_succ, i64_w, i32_w]
                    rfl
                  refine last_ (i := 13) (N := none) #[true, true, true, true, true, true, true, true, true, true, true, true, true, true] rfl rfl (one_of HT_.out (by kernel_rfl)) (by decide) (fun K hK => ?_)
                  refine skip_ (w1 := ?_) (by rfl) rfl ?_ ?_
                  rotate_left
                  · go_simp
                    rfl
                  refine hK.out _ _ ?_
                  clear hK K
                  refine done_ (done_of HT_.out (by kernel_rfl)) ?_
                  try go_wp2_with (first | ((try simp only [Exit.inBlock, Exit.then]); refine bodyPost_end (results_none rfl _ _ _) rfl ?_; refine ⟨_, rfl, ?_⟩))
                  go_meet
                  case rel => exact ⟨_, (a0_2), (a0_3), (0), (0), (y211), (y212), (rd t202 a1), (rd t199 a1), (.slice (some ⟨go28, 0, none⟩) t199.length co16), (.slice (some ⟨go29, 0, none⟩) t202.length co20), H', ⟨by first | omega | exact Nat.le_refl _⟩, ⟨Kd.pR (Kd.R_mono (Kd.R_far (p := ⟨go29, (a1 : Int).toNat, none⟩) (Kd.R_mono HQ36.out (fun k_ hk => (⟨hk, fun e_ => hk (by rw [e_]; rfl)⟩ : _ ∧ k_ ≠ go29))) (fun _ hk => hk.2) (.int .i64 (-1))) (fun _ hk => hk.1))⟩, ⟨Kd.pR (Kd.R_mono HQ37.out (fun _ hk => hk.1))⟩, ⟨by (with_reducible repeat (first | refine blk_drewN ?_ _ | refine blk_drew ?_ | refine blk_alloc ?_ _)); refine blk_far ?_ (by have h_ := Kd.R_ne HO204.out BK196.out (by decide); intro e_; exact h_ (by rw [e_]; rfl)) _; (with_reducible repeat (first | refine blk_drewN ?_ _ | refine blk_drew ?_ | refine blk_alloc ?_ _)); refine blk_far ?_ (by have h_ := Kd.R_ne HO201.out BK196.out (by decide); intro e_; exact h_ (by rw [e_]; rfl)) _; (with_reducible repeat (first | refine blk_drewN ?_ _ | refine blk_drew ?_ | refine blk_alloc ?_ _)); exact BK196.out⟩, ⟨by (with_reducible repeat (first | refine blk_drewN ?_ _ | refine blk_drew ?_ | refine blk_alloc ?_ _)); refine blk_far ?_ (by have h_ := Kd.R_ne HO204.out BK197.out (by decide); intro e_; exact h_ (by rw [e_]; rfl)) _; (with_reducible repeat (first | refine blk_drewN ?_ _ | refine blk_drew ?_ | refine blk_alloc ?_ _)); refine blk_far ?_ (by have h_ := Kd.R_ne HO201.out BK197.out (by decide); intro e_; exact h_ (by rw [e_]; rfl)) _; (with_reducible repeat (first | refine blk_drewN ?_ _ | refine blk_drew ?_ | refine blk_alloc ?_ _)); exact BK197.out⟩, ⟨by (with_reducible repeat (first | refine blk_drewN ?_ _ | refine blk_drew ?_ | refine blk_alloc ?_ _)); refine blk_far ?_ (by have h_ := Kd.R_ne HO204.out BK207.out (by decide); intro e_; exact h_ (by rw [e_]; rfl)) _; (with_reducible repeat (first | refine blk_drewN ?_ _ | refine blk_drew ?_ | refine blk_alloc ?_ _)); refine blk_far ?_ (by have h_ := Kd.R_ne HO201.out BK207.out (by decide); intro e_; exact h_ (by rw [e_]; rfl)) _; (with_reducible repeat (first | refine blk_drewN ?_ _ | refine blk_drew ?_ | refine blk_alloc ?_ _)); exact BK207.out⟩, ⟨by repeat (first | (with_reducible first | exact HB.out | apply below_alloc | apply pw_below_drewN | apply below_drew1 | refine below_set ?_ GB28.out | refine below_set ?_ GB29.out | refine below_set ?_ GE196.out | refine below_set ?_ GE197.out | refine below_set ?_ GE207.out) | exact HB.out)⟩⟩
                · rw [if_neg c27] at H
                  have c27b0 : ((rd t202 a1) == (-1)) = false := beq_eq_false_iff_ne.mpr c27
                  have c27b1 : ((rd t202 a1) != (-1)) = true := bne_iff_ne.mpr c27
                  by_cases c38 : 0 ≤ (rd t202 a1)
                  · rw [if_pos c38] at H
                    have c38b0 : decide (0 ≤ (rd t202 a1)) = true := decide_eq_true c38
                    clear c38
                    by_cases c39 : (rd t202 a1) < (t199.length : Int)
                    · rw [if_pos c39] at H
                      have c39b0 : decide ((rd t202 a1) < (t199.length : Int)) = true := decide_eq_true c39
                      clear c39
                      obtain ⟨y213, hy213⟩ : ∃ y_ : List Int, y_ = (t199.set ((rd t202 a1) : Int).toNat (rd t199 a1)) := ⟨_, rfl⟩
                      replace H : (lru_Touch.j0 k a1 (y213.set (a1 : Int).toNat (-1)) (t202.set (a1 : Int).toNat (-1)) (rd t202 a1) t206) = some (r1, r2, r3, r4, r5) := by first | (rw [hy213]; with_reducible exact H) | (have H2_ := (Option.bind_some _ _).symm.trans H; rw [hy213]; with_reducible exact H2_) | (have H2_ := (Option.bind_some _ _).symm.trans H; with_reducible exact H2_) | with_reducible exact H | (rw [hy213]; exact H) | exact H
                      have Ny213 := Aside0.mk hy213
                      (try clear hy213)
                      obtain ⟨y214, hy214⟩ : ∃ y_ : List Int, y_ = (y213.set (a1 : Int).toNat (-1)) := ⟨_, rfl⟩
                      replace H : (lru_Touch.j0 k a1 y214 (t202.set (a1 : Int).toNat (-1)) (rd t202 a1) t206) = some (r1, r2, r3, r4, r5) := by first | (rw [hy214]; with_reducible exact H) | (have H2_ := (Option.bind_some _ _).symm.trans H; rw [hy214]; with_reducible exact H2_) | (have H2_ := (Option.bind_some _ _).symm.trans H; with_reducible exact H2_) | with_reducible exact H | (rw [hy214]; exact H) | exact H
                      have Ny214 := Aside0.mk hy214
                      (try clear hy214)
                      obtain ⟨y215, hy215⟩ : ∃ y_ : List Int, y_ = (t202.set (a1 : Int).toNat (-1)) := ⟨_, rfl⟩
                      replace H : (lru_Touch.j0 k a1 y214 y215 (rd t202 a1) t206) = some (r1, r2, r3, r4, r5) := by first | (rw [hy215]; with_reducible exact H) | (have H2_ := (Option.bind_some _ _).symm.trans H; rw [hy215]; with_reducible exact H2_) | (have H2_ := (Option.bind_some _ _).symm.trans H; with_reducible exact H2_) | with_reducible exact H | (rw [hy215]; exact H) | exact H
                      have Ny215 := Aside0.mk hy215
                      (try clear hy215)
                      have H' := Aside0.mk H
                      clear H
                      try go_wp2_with (first | ((with_reducible refine gate_callee (f := 34) rfl ?_); refine goesL_ (some 21) rfl rfl Try.func34 (by kernel_rfl) rfl #[.pointer (some ⟨gb207, 0, none⟩), .int .i64 a1] rfl (by (try simp only [List.map_toArray, List.map_cons, List.map_nil]); first | done | rfl) ?_; go_enter Try.func34, Try.ntmps34))
                      have n0_ := Aside0.mk (Kd.R_drew HO201.out)
                      have n1_ := Aside0.mk (Kd.R_drew HO204.out)
                      have n2_ := Aside0.mk (blk_drew BK196.out)
                      have n3_ := Aside0.mk (blk_drew BK197.out)
                      have n4_ := Aside0.mk (blk_drew BK207.out)
                      have n5_ := Aside0.mk (below_drew1 HB.out)
                      clear HO201
                      clear HO204
                      clear BK196
                      clear BK197
                      clear BK207
                      clear HB
                      have HO201 := n0_
                      have HO204 := n1_
                      have BK196 := n2_
                      have BK197 := n3_
                      have BK207 := n4_
                      have HB := n5_
                      clear n0_ n1_ n2_ n3_ n4_ n5_
                      have p209 : 0 ≤ (a1 : Int) := od
                      have q209 : a1 < (t199.length : Int) := od
                      obtain ⟨ad209, e209, hx209_0⟩ := Kd.at_int (Kd.R_reads' HO201.out).2.2 a1 p209 q209
                      cases e209
                      replace p209 := eq_true p209
                      replace q209 := eq_true q209
                      have p210 : 0 ≤ (a1 : Int) := od
                      have q210 : a1 < (t202.length : Int) := od
                      obtain ⟨ad210, e210, hx210_0⟩ := Kd.at_int (Kd.R_reads' HO204.out).2.2 a1 p210 q210
                      cases e210
                      replace p210 := eq_true p210
                      replace q210 := eq_true q210
                      refine start_ (n := 16) (S := fun w' => w'.cell? ⟨gb207, 0, none⟩ = some (.slice (some ad209) t199.length co16) ∧ w'.cell? ⟨gb207, 1, none⟩ = some (.slice (some ad210) t202.length co20) ∧ w'.cell? ⟨gb207, 2, none⟩ = some (.int .i64 t205) ∧ w'.cell? ⟨gb207, 3, none⟩ = some (.int .i64 t206) ∧ w'.cell? (ad209.add (a1).toNat) = some (.int .i64 (rd t199 a1)) ∧ w'.cell? (ad210.add (a1).toNat) = some (.int .i64 (rd t202 a1))) (ds := []) #[false, false, false, false, false, false, false, false, false, false, false, false, false, false, false, false] (by kernel_rfl) rfl rfl ⟨(blk_cell BK207.out 0).trans rfl, (blk_cell BK207.out 1).trans rfl, (blk_cell BK207.out 2).trans rfl, (blk_cell BK207.out 3).trans rfl, hx209_0, hx210_0⟩ (fun hHeld => ?_); refine with_tabW lru_Touch.tab34000 lru_Touch.bits34000 (fun HT_ HW_ => ?_)
                      generalize w21.drew = w43 at HO201 HO204 BK196 BK197 BK207 HB hx209_0 hx210_0 hHeld ⊢
                      refine pure_ (i := 0) (N := some 6) (v := ?_) (a' := ?_) #[true, false, false, false, false, false, false, false, false, false, false, false, false, false, false, false] rfl rfl (any_of HT_.out (by kernel_rfl)) (fun _ _ _ h => h) (Or.inl ⟨by rfl, ?_⟩) ?_ ?_
                      rotate_left
                      · intro w'
                        go_simp
                        with_reducible rfl
                      rotate_left
                      · simp only [Act.put, List.setIfInBounds_toArray, List.set_cons_zero, List.set_cons_succ, i64_w, i32_w]
                        rfl
                      refine pure_ (i := 1) (N := some 7) (v := ?_) (a' := ?_) #[true, true, false, false, false, false, false, false, false, false, false, false, false, false, false, false] rfl rfl (any_of HT_.out (by kernel_rfl)) (fun _ _ _ h => h) (Or.inl ⟨by rfl, ?_⟩) ?_ ?_
                      rotate_left
                      · intro w'
                        go_simp
                        with_reducible rfl
                      rotate_left
                      · simp only [Act.put, List.setIfInBounds_toArray, List.set_cons_zero, List.set_cons_succ, i64_w, i32_w]
                        rfl
                      refine pure_ (i := 2) (N := some 8) (v := ?_) (a' := ?_) #[true, true, true, false, false, false, false, false, false, false, false, false, false, false, false, false] rfl rfl (any_of HT_.out (by kernel_rfl)) (fun _ _ _ h => h) (Or.inl ⟨by rfl, ?_⟩) ?_ ?_
                      rotate_left
                      · intro w'
                        go_simp
                        with_reducible rfl
                      rotate_left
                      · simp only [Act.put, List.setIfInBounds_toArray, List.set_cons_zero, List.set_cons_succ, i64_w, i32_w]
                        rfl
                      refine pure_ (i := 4) (N := some 10) (v := ?_) (a' := ?_) #[true, true, true, false, true, false, false, false, false, false, false, false, false, false, false, false] rfl rfl (any_of HT_.out (by kernel_rfl)) (fun _ _ _ h => h) (Or.inl ⟨by rfl, ?_⟩) ?_ ?_
                      rotate_left
                      · intro w'
                        go_simp
                        with_reducible rfl
                      rotate_left
                      · simp only [Act.put, List.setIfInBounds_toArray, List.set_cons_zero, List.set_cons_succ, i64_w, i32_w]
                        rfl
                      refine pure_ (i := 7) (N := some 13) (v := ?_) (a' := ?_) #[true, true, true, false, true, false, false, true, false, false, false, false, false, false, false, false] rfl rfl (any_of HT_.out (by kernel_rfl)) (fun _ _ _ h => h) (Or.inl ⟨by rfl, ?_⟩) ?_ ?_
                      rotate_left
                      · intro w'
                        go_simp
                        with_reducible rfl
                      rotate_left
                      · simp only [Act.put, List.setIfInBounds_toArray, List.set_cons_zero, List.set_cons_succ, i64_w, i32_w]
                        rfl
                      refine pure_ (i := 8) (N := some 14) (v := ?_) (a' := ?_) #[true, true, true, false, true, false, false, true, true, false, false, false, false, false, false, false] rfl rfl (any_of HT_.out (by kernel_rfl)) (fun _ _ _ h => h) (Or.inl ⟨by rfl, ?_⟩) ?_ ?_
                      rotate_left
                      · intro w'
                        go_simp
                        with_reducible rfl
                      rotate_left
                      · simp only [Act.put, List.setIfInBounds_toArray, List.set_cons_zero, List.set_cons_succ, i64_w, i32_w]
                        rfl
                      refine pure_ (i := 9) (N := some 15) (v := ?_) (a' := ?_) #[true, true, true, false, true, false, false, true, true, true, false, false, false, false, false, false] rfl rfl (any_of HT_.out (by kernel_rfl)) (fun _ _ _ h => h) (Or.inl ⟨by rfl, ?_⟩) ?_ ?_
                      rotate_left
                      · intro w'
                        go_simp
                        with_reducible rfl
                      rotate_left
                      · simp only [Act.put, List.setIfInBounds_toArray, List.set_cons_zero, List.set_cons_succ, i64_w, i32_w]
                        rfl
                      refine pure_ (i := 11) (N := some 17) (v := ?_) (a' := ?_) #[true, true, true, false, true, false, false, true, true, true, false, true, false, false, false, false] rfl rfl (any_of HT_.out (by kernel_rfl)) (fun _ _ _ h => h) (Or.inl ⟨by rfl, ?_⟩) ?_ ?_
                      rotate_left
                      · intro w'
                        go_simp
                        with_reducible rfl
                      rotate_left
                      · simp only [Act.put, List.setIfInBounds_toArray, List.set_cons_zero, List.set_cons_succ, i64_w, i32_w]
                        rfl
                      refine take_ (i := 3) (N := some 9) (v := ?_) (a' := ?_) #[true, true, true, true, true, false, false, true, true, true, false, true, false, false, false, false] rfl rfl (take_ofW HT_.out HW_.out (by kernel_rfl)) (fun _ _ _ h => h) (Or.inl ⟨by rfl, ?_⟩) hHeld ?_ ?_
                      rotate_left
                      · rintro w' ⟨s0, s1, s2, s3, s4, s5⟩
                        go_simp
                        with_reducible rfl
                      rotate_left
                      · simp only [Act.put, List.setIfInBounds_toArray, List.set_cons_zero, List.set_cons_succ, i64_w, i32_w]
                        rfl
                      refine pure_ (i := 5) (N := some 11) (v := ?_) (a' := ?_) #[true, true, true, true, true, true, false, true, true, true, false, true, false, false, false, false] rfl rfl (any_of HT_.out (by kernel_rfl)) (fun _ _ _ h => h) (Or.inl ⟨by rfl, ?_⟩) ?_ ?_
                      rotate_left
                      · intro w'
                        go_simp
                        with_reducible rfl
                      rotate_left
                      · simp only [Act.put, List.setIfInBounds_toArray, List.set_cons_zero, List.set_cons_succ, i64_w, i32_w]
                        rfl
                      refine take_ (i := 6) (N := some 12) (v := ?_) (a' := ?_) #[true, true, true, true, true, true, true, true, true, true, false, true, false, false, false, false] rfl rfl (take_ofW HT_.out HW_.out (by kernel_rfl)) (fun _ _ _ h => h) (Or.inl ⟨by rfl, ?_⟩) hHeld ?_ ?_
                      rotate_left
                      · rintro w' ⟨s0, s1, s2, s3, s4, s5⟩
                        go_simp
                        with_reducible rfl
                      rotate_left
                      · simp only [Act.put, List.setIfInBounds_toArray, List.set_cons_zero, List.set_cons_succ, i64_w, i32_w]
                        rfl
                      refine pure_ (i := 14) (N := some 4) (v := ?_) (a' := ?_) #[true, true, true, true, true, true, true, true, true, true, false, true, false, false, true, false] rfl rfl (any_of HT_.out (by kernel_rfl)) (fun _ _ _ h => h) (Or.inl ⟨by rfl, ?_⟩) ?_ ?_
                      rotate_left
                      · intro w'
                        go_simp
                        with_reducible rfl
                      rotate_left
                      · simp only [Act.put, List.setIfInBounds_toArray, List.set_cons_zero, List.set_cons_succ, i64_w, i32_w]
                        rfl
                      refine take_ (i := 10) (N := some 16) (v := ?_) (a' := ?_) #[true, true, true, true, true, true, true, true, true, true, true, true, false, false, true, false] rfl rfl (take_ofW HT_.out HW_.out (by kernel_rfl)) (fun _ _ _ h => h) (Or.inl ⟨by rfl, ?_⟩) hHeld ?_ ?_
                      rotate_left
                      · rintro w' ⟨s0, s1, s2, s3, s4, s5⟩
                        go_simp
                        with_reducible rfl
                      rotate_left
                      · simp only [Act.put, List.setIfInBounds_toArray, List.set_cons_zero, List.set_cons_succ, i64_w, i32_w]
                        rfl
                      refine pure_ (i := 12) (N := some 18) (v := ?_) (a' := ?_) #[true, true, true, true, true, true, true, true, true, true, true, true, true, false, true, false] rfl rfl (any_of HT_.out (by kernel_rfl)) (fun _ _ _ h => h) (Or.inl ⟨by rfl, ?_⟩) ?_ ?_
                      rotate_left
                      · intro w'
                        go_simp
                        with_reducible rfl
                      rotate_left
                      · simp only [Act.put, List.setIfInBounds_toArray, List.set_cons_zero, List.set_cons_succ, i64_w, i32_w]
                        rfl
                      refine take_ (i := 13) (N := some 19) (v := ?_) (a' := ?_) #[true, true, true, true, true, true, true, true, true, true, true, true, true, true, true, false] rfl rfl (take_ofW HT_.out HW_.out (by kernel_rfl)) (fun _ _ _ h => h) (Or.inl ⟨by rfl, ?_⟩) hHeld ?_ ?_
                      rotate_left
                      · rintro w' ⟨s0, s1, s2, s3, s4, s5⟩
                        go_simp
                        with_reducible rfl
                      rotate_left
                      · simp only [Act.put, List.setIfInBounds_toArray, List.set_cons_zero, List.set_cons_succ, i64_w, i32_w]
                        rfl
                      refine pure_ (i := 15) (N := some 5) (v := ?_) (a' := ?_) #[true, true, true, true, true, true, true, true, true, true, true, true, true, true, true, true] rfl rfl (any_of HT_.out (by kernel_rfl)) (fun _ _ _ h => h) (Or.inl ⟨by rfl, ?_⟩) ?_ ?_
                      rotate_left
                      · intro w'
                        go_simp
                        with_reducible rfl
                      rotate_left
                      · simp only [Act.put, List.setIfInBounds_toArray, List.set_cons_zero, List.set_cons_succ, i64_w, i32_w]
                        rfl
                      refine done_ (done_of HT_.out (by kernel_rfl)) ?_
                      have hnb44 := NB207_196.out
                      have hnc44 := NB196_207.out
                      have hnb45 := NB207_197.out
                      have hnc45 := NB197_207.out
                      obtain ⟨hcz46_0, hcz46_1, hcz46_2, hcz46_3, hfz46_0, hfz46_1, hfz46_2, hfz46_3⟩ := bk4 BK207.out
                      try go_wp2_with (first | ((with_reducible refine gate_store (t := 3) (p := 25) rfl ?_); refine store_event (t := 3) (p := 25) (v := ?vo_w47) (w1 := (w43.setCell ⟨gb207, 2, none⟩ (.int .i64 (rd t202 a1)))) ?hg ?ho ?hn ?hr ?_; (case ho => rfl); (case hg => rfl); (case hn => rfl); (case hr => first | (go_simp; done) | (go_simp; rfl)); intro w47 hw; have n0_ : Aside0 (Kd.R (Kd.int .i64) 3 w47 w.heap.size (fun k_ => some k_ ≠ (.slice (some ad210) t202.length co20 : Value).ownBlock) (.slice (some ad209) t199.length co16) t199) := ⟨(by rw [hw]; exact (Kd.pR (Kd.R_mono (Kd.R_far (p := ⟨gb207, 2, none⟩) (Kd.R_types HO201.out BK207.out (by decide)) (fun _ hk => hk.2) (.int .i64 (rd t202 a1))) (fun _ hk => hk.1))))⟩; have n1_ : Aside0 (Kd.R (Kd.int .i64) 3 w47 w.heap.size (fun k_ => some k_ ≠ (.slice (some ad209) t199.length co16 : Value).ownBlock) (.slice (some ad210) t202.length co20) t202) := ⟨(by rw [hw]; exact (Kd.pR (Kd.R_mono (Kd.R_far (p := ⟨gb207, 2, none⟩) (Kd.R_types HO204.out BK207.out (by decide)) (fun _ hk => hk.2) (.int .i64 (rd t202 a1))) (fun _ hk => hk.1))))⟩; have n2_ : Aside0 (w47.heap[gb196]? = some (.cells #[.slice A0_0 l0_0.length c0_0, .slice A0_1 l0_1.length c0_1, .int .i64 a0_2, .int .i64 a0_3] 24 (0, 0))) := ⟨(by rw [hw]; exact (by (with_reducible repeat (first | refine blk_drewN ?_ _ | refine blk_drew ?_ | refine blk_alloc ?_ _)); refine blk_far ?_ NB196_207.out _; (with_reducible repeat (first | refine blk_drewN ?_ _ | refine blk_drew ?_ | refine blk_alloc ?_ _)); exact BK196.out))⟩; have n3_ : Aside0 (w47.heap[gb197]? = some (.cells #[.slice none 0 0, .slice none 0 0, .int .i64 0, .int .i64 0] 24 (0, 0))) := ⟨(by rw [hw]; exact (by (with_reducible repeat (first | refine blk_drewN ?_ _ | refine blk_drew ?_ | refine blk_alloc ?_ _)); refine blk_far ?_ NB197_207.out _; (with_reducible repeat (first | refine blk_drewN ?_ _ | refine blk_drew ?_ | refine blk_alloc ?_ _)); exact BK197.out))⟩; have n4_ : Aside0 (w47.heap[gb207]? = some (.cells #[.slice (some ad209) t199.length co16, .slice (some ad210) t202.length co20, .int .i64 (rd t202 a1), .int .i64 t206] 24 (0, 0))) := ⟨(by rw [hw]; exact (by (with_reducible repeat (first | refine blk_drewN ?_ _ | refine blk_drew ?_ | refine blk_alloc ?_ _)); refine blk_put (cs := #[.slice (some ad209) t199.length co16, .slice (some ad210) t202.length co20, .int .i64 t205, .int .i64 t206]) ?_ 2 _ rfl; (with_reducible repeat (first | refine blk_drewN ?_ _ | refine blk_drew ?_ | refine blk_alloc ?_ _)); exact BK207.out))⟩; have n5_ : Aside0 (Below w.heap.size w w47) := ⟨(by rw [hw]; exact (pB HB.out))⟩; clear hw; clear HO201; clear HO204; clear BK196; clear BK197; clear BK207; clear HB; have HO201 := n0_; have HO204 := n1_; have BK196 := n2_; have BK197 := n3_; have BK207 := n4_; have HB := n5_; clear n0_ n1_ n2_ n3_ n4_ n5_; obtain ⟨hcz48_0, hcz48_1, hcz48_2, hcz48_3, hfz48_0, hfz48_1, hfz48_2, hfz48_3⟩ := bk4 BK207.out; have p40 : 0 ≤ ((rd t202 a1) : Int) := od; have q40 : ((rd t202 a1) : Int) < ((t199.length : Int) : Int) := od; obtain ⟨go40, co40, eo40, gb40, gl40, cl40, HG40⟩ := Kd.R_form HO201.out (by omega); (first | cases eo40 | (injection eo40 with ea_ en_ ec_; (first | subst ea_ | (injection ea_ with ea_; subst ea_)); subst ec_; clear en_)); have GB40 := Aside0.mk gb40; have GG40 := Aside0.mk HG40; clear gb40 gl40 HG40; (first | simp only [add_plain] at hx209_0 | skip); obtain ⟨hx40_0, hf40_0⟩ := Kd.R_celln 0 HO201.out ((rd t202 a1) : Int) p40 q40; replace p40 := eq_true p40; replace q40 := eq_true q40; obtain ⟨hy49_, hz49_⟩ := Kd.R_celln 0 HO201.out ((rd t202 a1) : Int) od od; have HP49 := Kd.R_putg HO201.out ((rd t202 a1) : Int) (rd t199 a1)) | ((with_reducible refine gate_store (t := 3) (p := 45) rfl ?_); refine store_event (t := 3) (p := 45) (v := ?vo_w50) (w1 := (w47.setCell ⟨go40, ((rd t202 a1) : Int).toNat, none⟩ (.int .i64 (rd t199 a1)))) ?hg ?ho ?hn ?hr ?_; (case ho => rfl); (case hg => rfl); (case hn => rfl); (case hr => first | (go_simp; done) | (go_simp; rfl)); intro w50 hw; have hg : w47.grownBy w50 (some go40) := (by rw [hw]; exact HP49.2); have hp_ : Kd.R (Kd.int .i64) 3 w50 w.heap.size (fun k_ => some k_ ≠ (.slice (some ad210) t202.length co20 : Value).ownBlock) (.slice (some ⟨go40, 0, none⟩) t199.length co16) y213 := (by rw [hw, Ny213.out]; exact HP49.1); (try clear HP49); have n0_ := Aside0.mk (blk_grown (pK BK196.out) hg (Kd.R_ne HO201.out BK196.out (by decide))); have n1_ := Aside0.mk (blk_grown (pK BK197.out) hg (Kd.R_ne HO201.out BK197.out (by decide))); have n2_ := Aside0.mk (hp_); have n3_ := Aside0.mk (Kd.R_after (v := (.slice (some ⟨go40, 0, none⟩) t199.length co16)) (v1 := (.slice (some ⟨go40, 0, none⟩) t199.length co16)) (ok := (fun _ => True)) (Kd.pR (Kd.R_mono HO204.out (fun _ hk => ⟨trivial, hk⟩))) hg (.inl rfl)); have n4_ := Aside0.mk (blk_grown (pK BK207.out) hg (Kd.R_ne HO201.out BK207.out (by decide))); have n5_ := Aside0.mk ((by rw [hw]; exact below_set (HB.out) GB40.out : Below w.heap.size w w50)); clear BK196; clear BK197; clear HO201; clear HO204; clear BK207; clear HB; have BK196 := n0_; have BK197 := n1_; have HO201 := n2_; have HO204 := n3_; have BK207 := n4_; have HB := n5_; clear n0_ n1_ n2_ n3_ n4_ n5_; clear hg hw hp_))
                      have n0_ := Aside0.mk (Kd.R_drew HO201.out)
                      have n1_ := Aside0.mk (Kd.R_drew HO204.out)
                      have n2_ := Aside0.mk (blk_drew BK196.out)
                      have n3_ := Aside0.mk (blk_drew BK197.out)
                      have n4_ := Aside0.mk (blk_drew BK207.out)
                      have n5_ := Aside0.mk (below_drew1 HB.out)
                      clear HO201
                      clear HO204
                      clear BK196
                      clear BK197
                      clear BK207
                      clear HB
                      have HO201 := n0_
                      have HO204 := n1_
                      have BK196 := n2_
                      have BK197 := n3_
                      have BK207 := n4_
                      have HB := n5_
                      clear n0_ n1_ n2_ n3_ n4_ n5_
                      have p41 : 0 ≤ (a1 : Int) := od
                      have q41 : (a1 : Int) < ((t199.length : Int) : Int) := od
                      obtain ⟨hx41_0, hf41_0⟩ := Kd.R_celln 0 HO201.out (a1 : Int) p41 q41
                      replace p41 := eq_true p41
                      replace q41 := eq_true q41
                      have HP52 := Kd.R_putn HO201.out (a1 : Int) (-1)
                      rw [← Ny214.out] at HP52
                      have HQ52 := Aside0.mk HP52
                      (try clear HP52)
                      have p42 : 0 ≤ (a1 : Int) := od
                      have q42 : (a1 : Int) < ((t202.length : Int) : Int) := od
                      obtain ⟨go42, co42, eo42, gb42, gl42, cl42, HG42⟩ := Kd.R_form HO204.out (by omega)
                      (first | cases eo42 | (injection eo42 with ea_ en_ ec_; (first | subst ea_ | (injection ea_ with ea_; subst ea_)); subst ec_; clear en_))
                      have GB42 := Aside0.mk gb42
                      have GG42 := Aside0.mk HG42
                      clear gb42 gl42 HG42
                      (first | simp only [add_plain] at hx210_0 | skip)
                      obtain ⟨hx42_0, hf42_0⟩ := Kd.R_celln 0 (Kd.R_far (p := ⟨go40, (a1 : Int).toNat, none⟩) (Kd.R_mono HO204.out (fun k_ hk => (⟨hk, fun e_ => hk.2 (by rw [e_]; rfl)⟩ : _ ∧ k_ ≠ go40))) (fun _ hk => hk.2) (.int .i64 (-1))) (a1 : Int) p42 q42
                      replace p42 := eq_true p42
                      replace q42 := eq_true q42
                      have HP53 := Kd.R_putn (Kd.R_far (p := ⟨go40, (a1 : Int).toNat, none⟩) (Kd.R_mono HO204.out (fun k_ hk => (⟨hk, fun e_ => hk.2 (by rw [e_]; rfl)⟩ : _ ∧ k_ ≠ go40))) (fun _ hk => hk.2) (.int .i64 (-1))) (a1 : Int) (-1)
                      rw [← Ny215.out] at HP53
                      have HQ53 := Aside0.mk HP53
                      (try clear HP53)
                      refine start_ (n := 14) (S := fun w' => w'.cell? ⟨gb207, 0, none⟩ = some (.slice (some ⟨go40, 0, none⟩) t199.length co16) ∧ w'.cell? ⟨gb207, 1, none⟩ = some (.slice (some ⟨go42, 0, none⟩) t202.length co20) ∧ w'.cell? ⟨gb207, 2, none⟩ = some (.int .i64 (rd t202 a1)) ∧ w'.cell? ⟨gb207, 3, none⟩ = some (.int .i64 t206)) (ds := [11, 13]) #[false, false, false, false, false, false, false, false, false, false, false, false, false, false] (by kernel_rfl) rfl rfl ⟨(blk_cell BK207.out 0).trans rfl, (blk_cell BK207.out 1).trans rfl, (blk_cell BK207.out 2).trans rfl, (blk_cell BK207.out 3).trans rfl⟩ (fun hHeld => ?_); refine with_tabW lru_Touch.tab34007 lru_Touch.bits34007 (fun HT_ HW_ => ?_)
                      generalize w50.drew = w51 at HO201 HO204 BK196 BK197 BK207 HB GG42 HQ52 HQ53 hf41_0 hf42_0 hx210_0 hx41_0 hx42_0 hHeld ⊢
                      refine pure_ (i := 0) (N := some 46) (v := ?_) (a' := ?_) #[true, false, false, false, false, false, false, false, false, false, false, false, false, false] rfl rfl (any_of HT_.out (by kernel_rfl)) (fun _ _ _ h => h) (Or.inl ⟨by rfl, ?_⟩) ?_ ?_
                      rotate_left
                      · intro w'
                        go_simp
                        with_reducible rfl
                      rotate_left
                      · simp only [Act.put, List.setIfInBounds_toArray, List.set_cons_zero, List.set_cons_succ, i64_w, i32_w]
                        rfl
                      refine pure_ (i := 1) (N := some 47) (v := ?_) (a' := ?_) #[true, true, false, false, false, false, false, false, false, false, false, false, false, false] rfl rfl (any_of HT_.out (by kernel_rfl)) (fun _ _ _ h => h) (Or.inl ⟨by rfl, ?_⟩) ?_ ?_
                      rotate_left
                      · intro w'
                        go_simp
                        with_reducible rfl
                      rotate_left
                      · simp only [Act.put, List.setIfInBounds_toArray, List.set_cons_zero, List.set_cons_succ, i64_w, i32_w]
                        rfl
                      refine pure_ (i := 2) (N := some 48) (v := ?_) (a' := ?_) #[true, true, true, false, false, false, false, false, false, false, false, false, false, false] rfl rfl (any_of HT_.out (by kernel_rfl)) (fun _ _ _ h => h) (Or.inl ⟨by rfl, ?_⟩) ?_ ?_
                      rotate_left
                      · intro w'
                        go_simp
                        with_reducible rfl
                      rotate_left
                      · simp only [Act.put, List.setIfInBounds_toArray, List.set_cons_zero, List.set_cons_succ, i64_w, i32_w]
                        rfl
                      refine pure_ (i := 4) (N := some 50) (v := ?_) (a' := ?_) #[true, true, true, false, true, false, false, false, false, false, false, false, false, false] rfl rfl (any_of HT_.out (by kernel_rfl)) (fun _ _ _ h => h) (Or.inl ⟨by rfl, ?_⟩) ?_ ?_
                      rotate_left
                      · intro w'
                        go_simp
                        with_reducible rfl
                      rotate_left
                      · simp only [Act.put, List.setIfInBounds_toArray, List.set_cons_zero, List.set_cons_succ, i64_w, i32_w]
                        rfl
                      refine pure_ (i := 5) (N := some 51) (v := ?_) (a' := ?_) #[true, true, true, false, true, true, false, false, false, false, false, false, false, false] rfl rfl (any_of HT_.out (by kernel_rfl)) (fun _ _ _ h => h) (Or.inl ⟨by rfl, ?_⟩) ?_ ?_
                      rotate_left
                      · intro w'
                        go_simp
                        with_reducible rfl
                      rotate_left
                      · simp only [Act.put, List.setIfInBounds_toArray, List.set_cons_zero, List.set_cons_succ, i64_w, i32_w]
                        rfl
                      refine pure_ (i := 6) (N := some 52) (v := ?_) (a' := ?_) #[true, true, true, false, true, true, true, false, false, false, false, false, false, false] rfl rfl (any_of HT_.out (by kernel_rfl)) (fun _ _ _ h => h) (Or.inl ⟨by rfl, ?_⟩) ?_ ?_
                      rotate_left
                      · intro w'
                        go_simp
                        with_reducible rfl
                      rotate_left
                      · simp only [Act.put, List.setIfInBounds_toArray, List.set_cons_zero, List.set_cons_succ, i64_w, i32_w]
                        rfl
                      refine pure_ (i := 7) (N := some 53) (v := ?_) (a' := ?_) #[true, true, true, false, true, true, true, true, false, false, false, false, false, false] rfl rfl (any_of HT_.out (by kernel_rfl)) (fun _ _ _ h => h) (Or.inl ⟨by rfl, ?_⟩) ?_ ?_
                      rotate_left
                      · intro w'
                        go_simp
                        with_reducible rfl
                      rotate_left
                      · simp only [Act.put, List.setIfInBounds_toArray, List.set_cons_zero, List.set_cons_succ, i64_w, i32_w]
                        rfl
                      refine pure_ (i := 9) (N := some 55) (v := ?_) (a' := ?_) #[true, true, true, false, true, true, true, true, false, true, false, false, false, false] rfl rfl (any_of HT_.out (by kernel_rfl)) (fun _ _ _ h => h) (Or.inl ⟨by rfl, ?_⟩) ?_ ?_
                      rotate_left
                      · intro w'
                        go_simp
                        with_reducible rfl
                      rotate_left
                      · simp only [Act.put, List.setIfInBounds_toArray, List.set_cons_zero, List.set_cons_succ, i64_w, i32_w]
                        rfl
                      refine take_ (i := 3) (N := some 49) (v := ?_) (a' := ?_) #[true, true, true, true, true, true, true, true, false, true, false, false, false, false] rfl rfl (take_ofW HT_.out HW_.out (by kernel_rfl)) (fun _ _ _ h => h) (Or.inl ⟨by rfl, ?_⟩) hHeld ?_ ?_
                      rotate_left
                      · rintro w' ⟨s0, s1, s2, s3⟩
                        go_simp
                        with_reducible rfl
                      rotate_left
                      · simp only [Act.put, List.setIfInBounds_toArray, List.set_cons_zero, List.set_cons_succ, i64_w, i32_w]
                        rfl
                      refine take_ (i := 8) (N := some 54) (v := ?_) (a' := ?_) #[true, true, true, true, true, true, true, true, true, true, false, false, false, false] rfl rfl (take_ofW HT_.out HW_.out (by kernel_rfl)) (fun _ _ _ h => h) (Or.inl ⟨by rfl, ?_⟩) hHeld ?_ ?_
                      rotate_left
                      · rintro w' ⟨s0, s1, s2, s3⟩
                        go_simp
                        with_reducible rfl
                      rotate_left
                      · simp only [Act.put, List.setIfInBounds_toArray, List.set_cons_zero, List.set_cons_succ, i64_w, i32_w]
                        rfl
                      refine pure_ (i := 10) (N := some 56) (v := ?_) (a' := ?_) #[true, true, true, true, true, true, true, true, true, true, true, false, false, false] rfl rfl (any_of HT_.out (by kernel_rfl)) (fun _ _ _ h => h) (Or.inl ⟨by rfl, ?_⟩) ?_ ?_
                      rotate_left
                      · intro w'
                        go_simp
                        with_reducible rfl
                      rotate_left
                      · simp only [Act.put, List.setIfInBounds_toArray, List.set_cons_zero, List.set_cons_succ, i64_w, i32_w]
                        rfl
                      refine last_ (i := 11) (N := none) #[true, true, true, true, true, true, true, true, true, true, true, true, false, false] rfl rfl (one_of HT_.out (by kernel_rfl)) (by decide) (fun K hK => ?_)
                      refine skip_ (w1 := ?_) (by rfl) rfl ?_ ?_
                      rotate_left
                      · go_simp
                        rfl
                      refine hK.out _ _ ?_
                      clear hK K
                      refine pure_ (i := 12) (N := some 57) (v := ?_) (a' := ?_) #[true, true, true, true, true, true, true, true, true, true, true, true, true, false] rfl rfl (any_of HT_.out (by kernel_rfl)) (fun _ _ _ h => h) (Or.inl ⟨by rfl, ?_⟩) ?_ ?_
                      rotate_left
                      · intro w'
                        go_simp
                        with_reducible rfl
                      rotate_left
                      · simp only [Act.put, List.setIfInBounds_toArray, List.set_cons_zero, List.set_cons_succ, i64_w, i32_w]
                        rfl
                      refine last_ (i := 13) (N := none) #[true, true, true, true, true, true, true, true, true, true, true, true, true, true] rfl rfl (one_of HT_.out (by kernel_rfl)) (by decide) (fun K hK => ?_)
                      refine skip_ (w1 := ?_) (by rfl) rfl ?_ ?_
                      rotate_left
                      · go_simp
                        rfl
                      refine hK.out _ _ ?_
                      clear hK K
                      refine done_ (done_of HT_.out (by kernel_rfl)) ?_
                      try go_wp2_with (first | ((try simp only [Exit.inBlock, Exit.then]); refine bodyPost_end (results_none rfl _ _ _) rfl ?_; refine ⟨_, rfl, ?_⟩))
                      go_meet
                      case rel => exact ⟨_, (a0_2), (a0_3), (0), (0), (y214), (y215), (rd t202 a1), (t206), (.slice (some ⟨go40, 0, none⟩) t199.length co16), (.slice (some ⟨go42, 0, none⟩) t202.length co20), H', ⟨by first | omega | exact Nat.le_refl _⟩, ⟨Kd.pR (Kd.R_mono (Kd.R_far (p := ⟨go42, (a1 : Int).toNat, none⟩) (Kd.R_mono HQ52.out (fun k_ hk => (⟨hk, fun e_ => hk (by rw [e_]; rfl)⟩ : _ ∧ k_ ≠ go42))) (fun _ hk => hk.2) (.int .i64 (-1))) (fun _ hk => hk.1))⟩, ⟨Kd.pR (Kd.R_mono HQ53.out (fun _ hk => hk.1.2))⟩, ⟨by (with_reducible repeat (first | refine blk_drewN ?_ _ | refine blk_drew ?_ | refine blk_alloc ?_ _)); refine blk_far ?_ (by have h_ := Kd.R_ne HO204.out BK196.out (by decide); intro e_; exact h_ (by rw [e_]; rfl)) _; (with_reducible repeat (first | refine blk_drewN ?_ _ | refine blk_drew ?_ | refine blk_alloc ?_ _)); refine blk_far ?_ (by have h_ := Kd.R_ne HO201.out BK196.out (by decide); intro e_; exact h_ (by rw [e_]; rfl)) _; (with_reducible repeat (first | refine blk_drewN ?_ _ | refine blk_drew ?_ | refine blk_alloc ?_ _)); exact BK196.out⟩, ⟨by (with_reducible repeat (first | refine blk_drewN ?_ _ | refine blk_drew ?_ | refine blk_alloc ?_ _)); refine blk_far ?_ (by have h_ := Kd.R_ne HO204.out BK197.out (by decide); intro e_; exact h_ (by rw [e_]; rfl)) _; (with_reducible repeat (first | refine blk_drewN ?_ _ | refine blk_drew ?_ | refine blk_alloc ?_ _)); refine blk_far ?_ (by have h_ := Kd.R_ne HO201.out BK197.out (by decide); intro e_; exact h_ (by rw [e_]; rfl)) _; (with_reducible repeat (first | refine blk_drewN ?_ _ | refine blk_drew ?_ | refine blk_alloc ?_ _)); exact BK197.out⟩, ⟨by (with_reducible repeat (first | refine blk_drewN ?_ _ | refine blk_drew ?_ | refine blk_alloc ?_ _)); refine blk_far ?_ (by have h_ := Kd.R_ne HO204.out BK207.out (by decide); intro e_; exact h_ (by rw [e_]; rfl)) _; (with_reducible repeat (first | refine blk_drewN ?_ _ | refine blk_drew ?_ | refine blk_alloc ?_ _)); refine blk_far ?_ (by have h_ := Kd.R_ne HO201.out BK207.out (by decide); intro e_; exact h_ (by rw [e_]; rfl)) _; (with_reducible repeat (first | refine blk_drewN ?_ _ | refine blk_drew ?_ | refine blk_alloc ?_ _)); exact BK207.out⟩, ⟨by repeat (first | (with_reducible first | exact HB.out | apply below_alloc | apply pw_below_drewN | apply below_drew1 | refine below_set ?_ GB40.out | refine below_set ?_ GB42.out | refine below_set ?_ GE196.out | refine below_set ?_ GE197.out | refine below_set ?_ GE207.out) | exact HB.out)⟩⟩
                    · rw [if_neg c39] at H
                      exact absurd H (by simp)
                  · rw [if_neg c38] at H
                    exact absurd H (by simp)
              · rw [if_neg c26] at H
                have c26b0 : ((rd t199 a1) == (-1)) = false := beq_eq_false_iff_ne.mpr c26
                have c26b1 : ((rd t199 a1) != (-1)) = true := bne_iff_ne.mpr c26
                by_cases c54 : 0 ≤ (rd t199 a1)
                · rw [if_pos c54] at H
                  have c54b0 : decide (0 ≤ (rd t199 a1)) = true := decide_eq_true c54
                  clear c54
                  by_cases c55 : (rd t199 a1) < (t202.length : Int)
                  · rw [if_pos c55] at H
                    have c55b0 : decide ((rd t199 a1) < (t202.length : Int)) = true := decide_eq_true c55
                    clear c55
                    obtain ⟨y216, hy216⟩ : ∃ y_ : List Int, y_ = (t202.set ((rd t199 a1) : Int).toNat (rd t202 a1)) := ⟨_, rfl⟩
                    replace H : (if (rd t202 a1) = (-1) then (lru_Touch.j0 k a1 (t199.set (a1 : Int).toNat (-1)) (y216.set (a1 : Int).toNat (-1)) t205 (rd t199 a1)) else (if 0 ≤ (rd t202 a1) then (if (rd t202 a1) < (t199.length : Int) then (lru_Touch.j0 k a1 ((t199.set ((rd t202 a1) : Int).toNat (rd t199 a1)).set (a1 : Int).toNat (-1)) (y216.set (a1 : Int).toNat (-1)) t205 t206) else (none)) else (none))) = some (r1, r2, r3, r4, r5) := by first | (rw [hy216]; with_reducible exact H) | (have H2_ := (Option.bind_some _ _).symm.trans H; rw [hy216]; with_reducible exact H2_) | (have H2_ := (Option.bind_some _ _).symm.trans H; with_reducible exact H2_) | with_reducible exact H | (rw [hy216]; exact H) | exact H
                    have Ny216 := Aside0.mk hy216
                    (try clear hy216)
                    by_cases c57 : (rd t202 a1) = (-1)
                    · rw [if_pos c57] at H
                      have c57b0 : ((rd t202 a1) == (-1)) = true := beq_iff_eq.mpr c57
                      have c57b1 : ((rd t202 a1) != (-1)) = false := bne_eq_false_iff_eq.mpr c57
                      clear c57
                      obtain ⟨y217, hy217⟩ : ∃ y_ : List Int, y_ = (t199.set (a1 : Int).toNat (-1)) := ⟨_, rfl⟩
                      replace H : (lru_Touch.j0 k a1 y217 (y216.set (a1 : Int).toNat (-1)) t205 (rd t199 a1)) = some (r1, r2, r3, r4, r5) := by first | (rw [hy217]; with_reducible exact H) | (have H2_ := (Option.bind_some _ _).symm.trans H; rw [hy217]; with_reducible exact H2_) | (have H2_ := (Option.bind_some _ _).symm.trans H; with_reducible exact H2_) | with_reducible exact H | (rw [hy217]; exact H) | exact H
                      have Ny217 := Aside0.mk hy217
                      (try clear hy217)
                      obtain ⟨y218, hy218⟩ : ∃ y_ : List Int, y_ = (y216.set (a1 : Int).toNat (-1)) := ⟨_, rfl⟩
                      replace H : (lru_Touch.j0 k a1 y217 y218 t205 (rd t199 a1)) = some (r1, r2, r3, r4, r5) := by first | (rw [hy218]; with_reducible exact H) | (have H2_ := (Option.bind_some _ _).symm.trans H; rw [hy218]; with_reducible exact H2_) | (have H2_ := (Option.bind_some _ _).symm.trans H; with_reducible exact H2_) | with_reducible exact H | (rw [hy218]; exact H) | exact H
                      have Ny218 := Aside0.mk hy218
                      (try clear hy218)
                      have H' := Aside0.mk H
                      clear H
                      try go_wp2_with (first | ((with_reducible refine gate_callee (f := 34) rfl ?_); refine goesL_ (some 21) rfl rfl Try.func34 (by kernel_rfl) rfl #[.pointer (some ⟨gb207, 0, none⟩), .int .i64 a1] rfl (by (try simp only [List.map_toArray, List.map_cons, List.map_nil]); first | done | rfl) ?_; go_enter Try.func34, Try.ntmps34))
                      have n0_ := Aside0.mk (Kd.R_drew HO201.out)
                      have n1_ := Aside0.mk (Kd.R_drew HO204.out)
                      have n2_ := Aside0.mk (blk_drew BK196.out)
                      have n3_ := Aside0.mk (blk_drew BK197.out)
                      have n4_ := Aside0.mk (blk_drew BK207.out)
                      have n5_ := Aside0.mk (below_drew1 HB.out)
                      clear HO201
                      clear HO204
                      clear BK196
                      clear BK197
                      clear BK207
                      clear HB
                      have HO201 := n0_
                      have HO204 := n1_
                      have BK196 := n2_
                      have BK197 := n3_
                      have BK207 := n4_
                      have HB := n5_
                      clear n0_ n1_ n2_ n3_ n4_ n5_
                      have p209 : 0 ≤ (a1 : Int) := od
                      have q209 : a1 < (t199.length : Int) := od
                      obtain ⟨ad209, e209, hx209_0⟩ := Kd.at_int (Kd.R_reads' HO201.out).2.2 a1 p209 q209
                      cases e209
                      replace p209 := eq_true p209
                      replace q209 := eq_true q209
                      have p210 : 0 ≤ (a1 : Int) := od
                      have q210 : a1 < (t202.length : Int) := od
                      obtain ⟨ad210, e210, hx210_0⟩ := Kd.at_int (Kd.R_reads' HO204.out).2.2 a1 p210 q210
                      cases e210
                      replace p210 := eq_true p210
                      replace q210 := eq_true q210
                      refine start_ (n := 16) (S := fun w' => w'.cell? ⟨gb207, 0, none⟩ = some (.slice (some ad209) t199.length co16) ∧ w'.cell? ⟨gb207, 1, none⟩ = some (.slice (some ad210) t202.length co20) ∧ w'.cell? ⟨gb207, 2, none⟩ = some (.int .i64 t205) ∧ w'.cell? ⟨gb207, 3, none⟩ = some (.int .i64 t206) ∧ w'.cell? (ad209.add (a1).toNat) = some (.int .i64 (rd t199 a1)) ∧ w'.cell? (ad210.add (a1).toNat) = some (.int .i64 (rd t202 a1))) (ds := []) #[false, false, false, false, false, false, false, false, false, false, false, false, false, false, false, false] (by kernel_rfl) rfl rfl ⟨(blk_cell BK207.out 0).trans rfl, (blk_cell BK207.out 1).trans rfl, (blk_cell BK207.out 2).trans rfl, (blk_cell BK207.out 3).trans rfl, hx209_0, hx210_0⟩ (fun hHeld => ?_); refine with_tabW lru_Touch.tab34000 lru_Touch.bits34000 (fun HT_ HW_ => ?_)
                      generalize w21.drew = w60 at HO201 HO204 BK196 BK197 BK207 HB hx209_0 hx210_0 hHeld ⊢
                      refine pure_ (i := 0) (N := some 6) (v := ?_) (a' := ?_) #[true, false, false, false, false, false, false, false, false, false, false, false, false, false, false, false] rfl rfl (any_of HT_.out (by kernel_rfl)) (fun _ _ _ h => h) (Or.inl ⟨by rfl, ?_⟩) ?_ ?_
                      rotate_left
                      · intro w'
                        go_simp
                        with_reducible rfl
                      rotate_left
                      · simp only [Act.put, List.setIfInBounds_toArray, List.set_cons_zero, List.set_cons_succ, i64_w, i32_w]
                        rfl
                      refine pure_ (i := 1) (N := some 7) (v := ?_) (a' := ?_) #[true, true, false, false, false, false, false, false, false, false, false, false, false, false, false, false] rfl rfl (any_of HT_.out (by kernel_rfl)) (fun _ _ _ h => h) (Or.inl ⟨by rfl, ?_⟩) ?_ ?_
                      rotate_left
                      · intro w'
                        go_simp
                        with_reducible rfl
                      rotate_left
                      · simp only [Act.put, List.setIfInBounds_toArray, List.set_cons_zero, List.set_cons_succ, i64_w, i32_w]
                        rfl
                      refine pure_ (i := 2) (N := some 8) (v := ?_) (a' := ?_) #[true, true, true, false, false, false, false, false, false, false, false, false, false, false, false, false] rfl rfl (any_of HT_.out (by kernel_rfl)) (fun _ _ _ h => h) (Or.inl ⟨by rfl, ?_⟩) ?_ ?_
                      rotate_left
                      · intro w'
                        go_simp
                        with_reducible rfl
                      rotate_left
                      · simp only [Act.put, List.setIfInBounds_toArray, List.set_cons_zero, List.set_cons_succ, i64_w, i32_w]
                        rfl
                      refine pure_ (i := 4) (N := some 10) (v := ?_) (a' := ?_) #[true, true, true, false, true, false, false, false, false, false, false, false, false, false, false, false] rfl rfl (any_of HT_.out (by kernel_rfl)) (fun _ _ _ h => h) (Or.inl ⟨by rfl, ?_⟩) ?_ ?_
                      rotate_left
                      · intro w'
                        go_simp
                        with_reducible rfl
                      rotate_left
                      · simp only [Act.put, List.setIfInBounds_toArray, List.set_cons_zero, List.set_cons_succ, i64_w, i32_w]
                        rfl
                      refine pure_ (i := 7) (N := some 13) (v := ?_) (a' := ?_) #[true, true, true, false, true, false, false, true, false, false, false, false, false, false, false, false] rfl rfl (any_of HT_.out (by kernel_rfl)) (fun _ _ _ h => h) (Or.inl ⟨by rfl, ?_⟩) ?_ ?_
                      rotate_left
                      · intro w'
                        go_simp
                        with_reducible rfl
                      rotate_left
                      · simp only [Act.put, List.setIfInBounds_toArray, List.set_cons_zero, List.set_cons_succ, i64_w, i32_w]
                        rfl
                      refine pure_ (i := 8) (N := some 14) (v := ?_) (a' := ?_) #[true, true, true, false, true, false, false, true, true, false, false, false, false, false, false, false] rfl rfl (any_of HT_.out (by kernel_rfl)) (fun _ _ _ h => h) (Or.inl ⟨by rfl, ?_⟩) ?_ ?_
                      rotate_left
                      · intro w'
                        go_simp
                        with_reducible rfl
                      rotate_left
                      · simp only [Act.put, List.setIfInBounds_toArray, List.set_cons_zero, List.set_cons_succ, i64_w, i32_w]
                        rfl
                      refine pure_ (i := 9) (N := some 15) (v := ?_) (a' := ?_) #[true, true, true, false, true, false, false, true, true, true, false, false, false, false, false, false] rfl rfl (any_of HT_.out (by kernel_rfl)) (fun _ _ _ h => h) (Or.inl ⟨by rfl, ?_⟩) ?_ ?_
                      rotate_left
                      · intro w'
                        go_simp
                        with_reducible rfl
                      rotate_left
                      · simp only [Act.put, List.setIfInBounds_toArray, List.set_cons_zero, List.set_cons_succ, i64_w, i32_w]
                        rfl
                      refine pure_ (i := 11) (N := some 17) (v := ?_) (a' := ?_) #[true, true, true, false, true, false, false, true, true, true, false, true, false, false, false, false] rfl rfl (any_of HT_.out (by kernel_rfl)) (fun _ _ _ h => h) (Or.inl ⟨by rfl, ?_⟩) ?_ ?_
                      rotate_left
                      · intro w'
                        go_simp
                        with_reducible rfl
                      rotate_left
                      · simp only [Act.put, List.setIfInBounds_toArray, List.set_cons_zero, List.set_cons_succ, i64_w, i32_w]
                        rfl
                      refine take_ (i := 3) (N := some 9) (v := ?_) (a' := ?_) #[true, true, true, true, true, false, false, true, true, true, false, true, false, false, false, false] rfl rfl (take_ofW HT_.out HW_.out (by kernel_rfl)) (fun _ _ _ h => h) (Or.inl ⟨by rfl, ?_⟩) hHeld ?_ ?_
                      rotate_left
                      · rintro w' ⟨s0, s1, s2, s3, s4, s5⟩
                        go_simp
                        with_reducible rfl
                      rotate_left
                      · simp only [Act.put, List.setIfInBounds_toArray, List.set_cons_zero, List.set_cons_succ, i64_w, i32_w]
                        rfl
                      refine pure_ (i := 5) (N := some 11) (v := ?_) (a' := ?_) #[true, true, true, true, true, true, false, true, true, true, false, true, false, false, false, false] rfl rfl (any_of HT_.out (by kernel_rfl)) (fun _ _ _ h => h) (Or.inl ⟨by rfl, ?_⟩) ?_ ?_
                      rotate_left
                      · intro w'
                        go_simp
                        with_reducible rfl
                      rotate_left
                      · simp only [Act.put, List.setIfInBounds_toArray, List.set_cons_zero, List.set_cons_succ, i64_w, i32_w]
                        rfl
                      refine take_ (i := 6) (N := some 12) (v := ?_) (a' := ?_) #[true, true, true, true, true, true, true, true, true, true, false, true, false, false, false, false] rfl rfl (take_ofW HT_.out HW_.out (by kernel_rfl)) (fun _ _ _ h => h) (Or.inl ⟨by rfl, ?_⟩) hHeld ?_ ?_
                      rotate_left
                      · rintro w' ⟨s0, s1, s2, s3, s4, s5⟩
                        go_simp
                        with_reducible rfl
                      rotate_left
                      · simp only [Act.put, List.setIfInBounds_toArray, List.set_cons_zero, List.set_cons_succ, i64_w, i32_w]
                        rfl
                      refine pure_ (i := 14) (N := some 4) (v := ?_) (a' := ?_) #[true, true, true, true, true, true, true, true, true, true, false, true, false, false, true, false] rfl rfl (any_of HT_.out (by kernel_rfl)) (fun _ _ _ h => h) (Or.inl ⟨by rfl, ?_⟩) ?_ ?_
                      rotate_left
                      · intro w'
                        go_simp
                        with_reducible rfl
                      rotate_left
                      · simp only [Act.put, List.setIfInBounds_toArray, List.set_cons_zero, List.set_cons_succ, i64_w, i32_w]
                        rfl
                      refine take_ (i := 10) (N := some 16) (v := ?_) (a' := ?_) #[true, true, true, true, true, true, true, true, true, true, true, true, false, false, true, false] rfl rfl (take_ofW HT_.out HW_.out (by kernel_rfl)) (fun _ _ _ h => h) (Or.inl ⟨by rfl, ?_⟩) hHeld ?_ ?_
                      rotate_left
                      · rintro w' ⟨s0, s1, s2, s3, s4, s5⟩
                        go_simp
                        with_reducible rfl
                      rotate_left
                      · simp only [Act.put, List.setIfInBounds_toArray, List.set_cons_zero, List.set_cons_succ, i64_w, i32_w]
                        rfl
                      refine pure_ (i := 12) (N := some 18) (v := ?_) (a' := ?_) #[true, true, true, true, true, true, true, true, true, true, true, true, true, false, true, false] rfl rfl (any_of HT_.out (by kernel_rfl)) (fun _ _ _ h => h) (Or.inl ⟨by rfl, ?_⟩) ?_ ?_
                      rotate_left
                      · intro w'
                        go_simp
                        with_reducible rfl
                      rotate_left
                      · simp only [Act.put, List.setIfInBounds_toArray, List.set_cons_zero, List.set_cons_succ, i64_w, i32_w]
                        rfl
                      refine take_ (i := 13) (N := some 19) (v := ?_) (a' := ?_) #[true, true, true, true, true, true, true, true, true, true, true, true, true, true, true, false] rfl rfl (take_ofW HT_.out HW_.out (by kernel_rfl)) (fun _ _ _ h => h) (Or.inl ⟨by rfl, ?_⟩) hHeld ?_ ?_
                      rotate_left
                      · rintro w' ⟨s0, s1, s2, s3, s4, s5⟩
                        go_simp
                        with_reducible rfl
                      rotate_left
                      · simp only [Act.put, List.setIfInBounds_toArray, List.set_cons_zero, List.set_cons_succ, i64_w, i32_w]
                        rfl
                      refine pure_ (i := 15) (N := some 5) (v := ?_) (a' := ?_) #[true, true, true, true, true, true, true, true, true, true, true, true, true, true, true, true] rfl rfl (any_of HT_.out (by kernel_rfl)) (fun _ _ _ h => h) (Or.inl ⟨by rfl, ?_⟩) ?_ ?_
                      rotate_left
                      · intro w'
                        go_simp
                        with_reducible rfl
                      rotate_left
                      · simp only [Act.put, List.setIfInBounds_toArray, List.set_cons_zero, List.set_cons_succ, i64_w, i32_w]
                        rfl
                      refine done_ (done_of HT_.out (by kernel_rfl)) ?_
                      have hnb61 := NB207_196.out
                      have hnc61 := NB196_207.out
                      have hnb62 := NB207_197.out
                      have hnc62 := NB197_207.out
                      obtain ⟨hcz63_0, hcz63_1, hcz63_2, hcz63_3, hfz63_0, hfz63_1, hfz63_2, hfz63_3⟩ := bk4 BK207.out
                      have p56 : 0 ≤ ((rd t199 a1) : Int) := od
                      have q56 : ((rd t199 a1) : Int) < ((t202.length : Int) : Int) := od
                      obtain ⟨go56, co56, eo56, gb56, gl56, cl56, HG56⟩ := Kd.R_form HO204.out (by omega)
                      (first | cases eo56 | (injection eo56 with ea_ en_ ec_; (first | subst ea_ | (injection ea_ with ea_; subst ea_)); subst ec_; clear en_))
                      have GB56 := Aside0.mk gb56
                      have GG56 := Aside0.mk HG56
                      clear gb56 gl56 HG56
                      (first | simp only [add_plain] at hx210_0 | skip)
                      obtain ⟨hx56_0, hf56_0⟩ := Kd.R_celln 0 HO204.out ((rd t199 a1) : Int) p56 q56
                      replace p56 := eq_true p56
                      replace q56 := eq_true q56
                      obtain ⟨hy64_, hz64_⟩ := Kd.R_celln 0 HO204.out ((rd t199 a1) : Int) od od
                      have HP64 := Kd.R_putg HO204.out ((rd t199 a1) : Int) (rd t202 a1)
                      try go_wp2_with (first | ((with_reducible refine gate_store (t := 3) (p := 32) rfl ?_); refine store_event (t := 3) (p := 32) (v := ?vo_w65) (w1 := (w60.setCell ⟨go56, ((rd t199 a1) : Int).toNat, none⟩ (.int .i64 (rd t202 a1)))) ?hg ?ho ?hn ?hr ?_; (case ho => rfl); (case hg => rfl); (case hn => rfl); (case hr => first | (go_simp; done) | (go_simp; rfl)); intro w65 hw; have hg : w60.grownBy w65 (some go56) := (by rw [hw]; exact HP64.2); have hp_ : Kd.R (Kd.int .i64) 3 w65 w.heap.size (fun k_ => some k_ ≠ (.slice (some ad209) t199.length co16 : Value).ownBlock) (.slice (some ⟨go56, 0, none⟩) t202.length co20) y216 := (by rw [hw, Ny216.out]; exact HP64.1); (try clear HP64); have n0_ := Aside0.mk (blk_grown (pK BK196.out) hg (Kd.R_ne HO204.out BK196.out (by decide))); have n1_ := Aside0.mk (blk_grown (pK BK197.out) hg (Kd.R_ne HO204.out BK197.out (by decide))); have n2_ := Aside0.mk (Kd.R_after (v := (.slice (some ⟨go56, 0, none⟩) t202.length co20)) (v1 := (.slice (some ⟨go56, 0, none⟩) t202.length co20)) (ok := (fun _ => True)) (Kd.pR (Kd.R_mono HO201.out (fun _ hk => ⟨trivial, hk⟩))) hg (.inl rfl)); have n3_ := Aside0.mk (hp_); have n4_ := Aside0.mk (blk_grown (pK BK207.out) hg (Kd.R_ne HO204.out BK207.out (by decide))); have n5_ := Aside0.mk ((by rw [hw]; exact below_set (HB.out) GB56.out : Below w.heap.size w w65)); clear BK196; clear BK197; clear HO201; clear HO204; clear BK207; clear HB; have BK196 := n0_; have BK197 := n1_; have HO201 := n2_; have HO204 := n3_; have BK207 := n4_; have HB := n5_; clear n0_ n1_ n2_ n3_ n4_ n5_; clear hg hw hp_; obtain ⟨hcz66_0, hcz66_1, hcz66_2, hcz66_3, hfz66_0, hfz66_1, hfz66_2, hfz66_3⟩ := bk4 BK207.out))
                      have n0_ : Aside0 (Kd.R (Kd.int .i64) 3 (w65.setCell ⟨gb207, 3, none⟩ (.int .i64 (rd t199 a1))) w.heap.size (fun k_ => some k_ ≠ (.slice (some ⟨go56, 0, none⟩) t202.length co20 : Value).ownBlock) (.slice (some ad209) t199.length co16) t199) := ⟨Kd.pR (Kd.R_mono (Kd.R_far (p := ⟨gb207, 3, none⟩) (Kd.R_types HO201.out BK207.out (by decide)) (fun _ hk => hk.2) (.int .i64 (rd t199 a1))) (fun _ hk => hk.1.2))⟩
                      have n1_ : Aside0 (Kd.R (Kd.int .i64) 3 (w65.setCell ⟨gb207, 3, none⟩ (.int .i64 (rd t199 a1))) w.heap.size (fun k_ => some k_ ≠ (.slice (some ad209) t199.length co16 : Value).ownBlock) (.slice (some ⟨go56, 0, none⟩) t202.length co20) y216) := ⟨Kd.pR (Kd.R_mono (Kd.R_far (p := ⟨gb207, 3, none⟩) (Kd.R_types HO204.out BK207.out (by decide)) (fun _ hk => hk.2) (.int .i64 (rd t199 a1))) (fun _ hk => hk.1))⟩
                      have n2_ : Aside0 ((w65.setCell ⟨gb207, 3, none⟩ (.int .i64 (rd t199 a1))).heap[gb196]? = some (.cells #[.slice A0_0 l0_0.length c0_0, .slice A0_1 l0_1.length c0_1, .int .i64 a0_2, .int .i64 a0_3] 24 (0, 0))) := ⟨by (with_reducible repeat (first | refine blk_drewN ?_ _ | refine blk_drew ?_ | refine blk_alloc ?_ _)); refine blk_far ?_ NB196_207.out _; (with_reducible repeat (first | refine blk_drewN ?_ _ | refine blk_drew ?_ | refine blk_alloc ?_ _)); exact BK196.out⟩
                      have n3_ : Aside0 ((w65.setCell ⟨gb207, 3, none⟩ (.int .i64 (rd t199 a1))).heap[gb197]? = some (.cells #[.slice none 0 0, .slice none 0 0, .int .i64 0, .int .i64 0] 24 (0, 0))) := ⟨by (with_reducible repeat (first | refine blk_drewN ?_ _ | refine blk_drew ?_ | refine blk_alloc ?_ _)); refine blk_far ?_ NB197_207.out _; (with_reducible repeat (first | refine blk_drewN ?_ _ | refine blk_drew ?_ | refine blk_alloc ?_ _)); exact BK197.out⟩
                      have n4_ : Aside0 ((w65.setCell ⟨gb207, 3, none⟩ (.int .i64 (rd t199 a1))).heap[gb207]? = some (.cells #[.slice (some ad209) t199.length co16, .slice (some ⟨go56, 0, none⟩) t202.length co20, .int .i64 t205, .int .i64 (rd t199 a1)] 24 (0, 0))) := ⟨by (with_reducible repeat (first | refine blk_drewN ?_ _ | refine blk_drew ?_ | refine blk_alloc ?_ _)); refine blk_put (cs := #[.slice (some ad209) t199.length co16, .slice (some ⟨go56, 0, none⟩) t202.length co20, .int .i64 t205, .int .i64 t206]) ?_ 3 _ rfl; (with_reducible repeat (first | refine blk_drewN ?_ _ | refine blk_drew ?_ | refine blk_alloc ?_ _)); exact BK207.out⟩
                      have n5_ : Aside0 (Below w.heap.size w (w65.setCell ⟨gb207, 3, none⟩ (.int .i64 (rd t199 a1)))) := ⟨pB HB.out⟩
                      (try clear HO201)
                      (try clear HO204)
                      (try clear BK196)
                      (try clear BK197)
                      (try clear BK207)
                      (try clear HB)
                      generalize (w65.setCell ⟨gb207, 3, none⟩ (.int .i64 (rd t199 a1))) = w67 at n0_ n1_ n2_ n3_ n4_ n5_ ⊢
                      have HO201 := n0_
                      have HO204 := n1_
                      have BK196 := n2_
                      have BK197 := n3_
                      have BK207 := n4_
                      have HB := n5_
                      clear n0_ n1_ n2_ n3_ n4_ n5_
                      have n0_ := Aside0.mk (Kd.R_drew HO201.out)
                      have n1_ := Aside0.mk (Kd.R_drew HO204.out)
                      have n2_ := Aside0.mk (blk_drew BK196.out)
                      have n3_ := Aside0.mk (blk_drew BK197.out)
                      have n4_ := Aside0.mk (blk_drew BK207.out)
                      have n5_ := Aside0.mk (below_drew1 HB.out)
                      clear HO201
                      clear HO204
                      clear BK196
                      clear BK197
                      clear BK207
                      clear HB
                      have HO201 := n0_
                      have HO204 := n1_
                      have BK196 := n2_
                      have BK197 := n3_
                      have BK207 := n4_
                      have HB := n5_
                      clear n0_ n1_ n2_ n3_ n4_ n5_
                      have p58 : 0 ≤ (a1 : Int) := od
                      have q58 : (a1 : Int) < ((t199.length : Int) : Int) := od
                      obtain ⟨go58, co58, eo58, gb58, gl58, cl58, HG58⟩ := Kd.R_form HO201.out (by omega)
                      (first | cases eo58 | (injection eo58 with ea_ en_ ec_; (first | subst ea_ | (injection ea_ with ea_; subst ea_)); subst ec_; clear en_))
                      have GB58 := Aside0.mk gb58
                      have GG58 := Aside0.mk HG58
                      clear gb58 gl58 HG58
                      (first | simp only [add_plain] at hx209_0 | skip)
                      obtain ⟨hx58_0, hf58_0⟩ := Kd.R_celln 0 HO201.out (a1 : Int) p58 q58
                      replace p58 := eq_true p58
                      replace q58 := eq_true q58
                      have HP69 := Kd.R_putn HO201.out (a1 : Int) (-1)
                      rw [← Ny217.out] at HP69
                      have HQ69 := Aside0.mk HP69
                      (try clear HP69)
                      have p59 : 0 ≤ (a1 : Int) := od
                      have q59 : (a1 : Int) < ((t202.length : Int) : Int) := od
                      obtain ⟨hx59_0, hf59_0⟩ := Kd.R_celln 0 (Kd.R_far (p := ⟨go58, (a1 : Int).toNat, none⟩) (Kd.R_mono HO204.out (fun k_ hk => (⟨hk, fun e_ => hk (by rw [e_]; rfl)⟩ : _ ∧ k_ ≠ go58))) (fun _ hk => hk.2) (.int .i64 (-1))) (a1 : Int) p59 q59
                      replace p59 := eq_true p59
                      replace q59 := eq_true q59
                      have HP70 := Kd.R_putn (Kd.R_far (p := ⟨go58, (a1 : Int).toNat, none⟩) (Kd.R_mono HO204.out (fun k_ hk => (⟨hk, fun e_ => hk (by rw [e_]; rfl)⟩ : _ ∧ k_ ≠ go58))) (fun _ hk => hk.2) (.int .i64 (-1))) (a1 : Int) (-1)
                      rw [← Ny218.out] at HP70
                      have HQ70 := Aside0.mk HP70
                      (try clear HP70)
                      refine start_ (n := 14) (S := fun w' => w'.cell? ⟨gb207, 0, none⟩ = some (.slice (some ⟨go58, 0, none⟩) t199.length co16) ∧ w'.cell? ⟨gb207, 1, none⟩ = some (.slice (some ⟨go56, 0, none⟩) t202.length co20) ∧ w'.cell? ⟨gb207, 2, none⟩ = some (.int .i64 t205) ∧ w'.cell? ⟨gb207, 3, none⟩ = some (.int .i64 (rd t199 a1))) (ds := [11, 13]) #[false, false, false, false, false, false, false, false, false, false, false, false, false, false] (by kernel_rfl) rfl rfl ⟨(blk_cell BK207.out 0).trans rfl, (blk_cell BK207.out 1).trans rfl, (blk_cell BK207.out 2).trans rfl, (blk_cell BK207.out 3).trans rfl⟩ (fun hHeld => ?_); refine with_tabW lru_Touch.tab34007 lru_Touch.bits34007 (fun HT_ HW_ => ?_)
                      generalize w67.drew = w68 at HO201 HO204 BK196 BK197 BK207 HB GG58 HQ69 HQ70 hf58_0 hf59_0 hx209_0 hx58_0 hx59_0 hHeld ⊢
                      refine pure_ (i := 0) (N := some 46) (v := ?_) (a' := ?_) #[true, false, false, false, false, false, false, false, false, false, false, false, false, false] rfl rfl (any_of HT_.out (by kernel_rfl)) (fun _ _ _ h => h) (Or.inl ⟨by rfl, ?_⟩) ?_ ?_
                      rotate_left
                      · intro w'
                        go_simp
                        with_reducible rfl
                      rotate_left
                      · simp only [Act.put, List.setIfInBounds_toArray, List.set_cons_zero, List.set_cons_succ, i64_w, i32_w]
                        rfl
                      refine pure_ (i := 1) (N := some 47) (v := ?_) (a' := ?_) #[true, true, false, false, false, false, false, false, false, false, false, false, false, false] rfl rfl (any_of HT_.out (by kernel_rfl)) (fun _ _ _ h => h) (Or.inl ⟨by rfl, ?_⟩) ?_ ?_
                      rotate_left
                      · intro w'
                        go_simp
                        with_reducible rfl
                      rotate_left
                      · simp only [Act.put, List.setIfInBounds_toArray, List.set_cons_zero, List.set_cons_succ, i64_w, i32_w]
                        rfl
                      refine pure_ (i := 2) (N := some 48) (v := ?_) (a' := ?_) #[true, true, true, false, false, false, false, false, false, false, false, false, false, false] rfl rfl (any_of HT_.out (by kernel_rfl)) (fun _ _ _ h => h) (Or.inl ⟨by rfl, ?_⟩) ?_ ?_
                      rotate_left
                      · intro w'
                        go_simp
                        with_reducible rfl
                      rotate_left
                      · simp only [Act.put, List.setIfInBounds_toArray, List.set_cons_zero, List.set_cons_succ, i64_w, i32_w]
                        rfl
                      refine pure_ (i := 4) (N := some 50) (v := ?_) (a' := ?_) #[true, true, true, false, true, false, false, false, false, false, false, false, false, false] rfl rfl (any_of HT_.out (by kernel_rfl)) (fun _ _ _ h => h) (Or.inl ⟨by rfl, ?_⟩) ?_ ?_
                      rotate_left
                      · intro w'
                        go_simp
                        with_reducible rfl
                      rotate_left
                      · simp only [Act.put, List.setIfInBounds_toArray, List.set_cons_zero, List.set_cons_succ, i64_w, i32_w]
                        rfl
                      refine pure_ (i := 5) (N := some 51) (v := ?_) (a' := ?_) #[true, true, true, false, true, true, false, false, false, false, false, false, false, false] rfl rfl (any_of HT_.out (by kernel_rfl)) (fun _ _ _ h => h) (Or.inl ⟨by rfl, ?_⟩) ?_ ?_
                      rotate_left
                      · intro w'
                        go_simp
                        with_reducible rfl
                      rotate_left
                      · simp only [Act.put, List.setIfInBounds_toArray, List.set_cons_zero, List.set_cons_succ, i64_w, i32_w]
                        rfl
                      refine pure_ (i := 6) (N := some 52) (v := ?_) (a' := ?_) #[true, true, true, false, true, true, true, false, false, false, false, false, false, false] rfl rfl (any_of HT_.out (by kernel_rfl)) (fun _ _ _ h => h) (Or.inl ⟨by rfl, ?_⟩) ?_ ?_
                      rotate_left
                      · intro w'
                        go_simp
                        with_reducible rfl
                      rotate_left
                      · simp only [Act.put, List.setIfInBounds_toArray, List.set_cons_zero, List.set_cons_succ, i64_w, i32_w]
                        rfl
                      refine pure_ (i := 7) (N := some 53) (v := ?_) (a' := ?_) #[true, true, true, false, true, true, true, true, false, false, false, false, false, false] rfl rfl (any_of HT_.out (by kernel_rfl)) (fun _ _ _ h => h) (Or.inl ⟨by rfl, ?_⟩) ?_ ?_
                      rotate_left
                      · intro w'
                        go_simp
                        with_reducible rfl
                      rotate_left
                      · simp only [Act.put, List.setIfInBounds_toArray, List.set_cons_zero, List.set_cons_succ, i64_w, i32_w]
                        rfl
                      refine pure_ (i := 9) (N := some 55) (v := ?_) (a' := ?_) #[true, true, true, false, true, true, true, true, false, true, false, false, false, false] rfl rfl (any_of HT_.out (by kernel_rfl)) (fun _ _ _ h => h) (Or.inl ⟨by rfl, ?_⟩) ?_ ?_
                      rotate_left
                      · intro w'
                        go_simp
                        with_reducible rfl
                      rotate_left
                      · simp only [Act.put, List.setIfInBounds_toArray, List.set_cons_zero, List.set_cons_succ, i64_w, i32_w]
                        rfl
                      refine take_ (i := 3) (N := some 49) (v := ?_) (a' := ?_) #[true, true, true, true, true, true, true, true, false, true, false, false, false, false] rfl rfl (take_ofW HT_.out HW_.out (by kernel_rfl)) (fun _ _ _ h => h) (Or.inl ⟨by rfl, ?_⟩) hHeld ?_ ?_
                      rotate_left
                      · rintro w' ⟨s0, s1, s2, s3⟩
                        go_simp
                        with_reducible rfl
                      rotate_left
                      · simp only [Act.put, List.setIfInBounds_toArray, List.set_cons_zero, List.set_cons_succ, i64_w, i32_w]
                        rfl
                      refine take_ (i := 8) (N := some 54) (v := ?_) (a' := ?_) #[true, true, true, true, true, true, true, true, true, true, false, false, false, false] rfl rfl (take_ofW HT_.out HW_.out (by kernel_rfl)) (fun _ _ _ h => h) (Or.inl ⟨by rfl, ?_⟩) hHeld ?_ ?_
                      rotate_left
                      · rintro w' ⟨s0, s1, s2, s3⟩
                        go_simp
                        with_reducible rfl
                      rotate_left
                      · simp only [Act.put, List.setIfInBounds_toArray, List.set_cons_zero, List.set_cons_succ, i64_w, i32_w]
                        rfl
                      refine pure_ (i := 10) (N := some 56) (v := ?_) (a' := ?_) #[true, true, true, true, true, true, true, true, true, true, true, false, false, false] rfl rfl (any_of HT_.out (by kernel_rfl)) (fun _ _ _ h => h) (Or.inl ⟨by rfl, ?_⟩) ?_ ?_
                      rotate_left
                      · intro w'
                        go_simp
                        with_reducible rfl
                      rotate_left
                      · simp only [Act.put, List.setIfInBounds_toArray, List.set_cons_zero, List.set_cons_succ, i64_w, i32_w]
                        rfl
                      refine last_ (i := 11) (N := none) #[true, true, true, true, true, true, true, true, true, true, true, true, false, false] rfl rfl (one_of HT_.out (by kernel_rfl)) (by decide) (fun K hK => ?_)
                      refine skip_ (w1 := ?_) (by rfl) rfl ?_ ?_
                      rotate_left
                      · go_simp
                        rfl
                      refine hK.out _ _ ?_
                      clear hK K
                      refine pure_ (i := 12) (N := some 57) (v := ?_) (a' := ?_) #[true, true, true, true, true, true, true, true, true, true, true, true, true, false] rfl rfl (any_of HT_.out (by kernel_rfl)) (fun _ _ _ h => h) (Or.inl ⟨by rfl, ?_⟩) ?_ ?_
                      rotate_left
                      · intro w'
                        go_simp
                        with_reducible rfl
                      rotate_left
                      · simp only [Act.put, List.setIfInBounds_toArray, List.set_cons_zero, List.set_cons_succ, i64_w, i32_w]
                        rfl
                      refine last_ (i := 13) (N := none) #[true, true, true, true, true, true, true, true, true, true, true, true, true, true] rfl rfl (one_of HT_.out (by kernel_rfl)) (by decide) (fun K hK => ?_)
                      refine skip_ (w1 := ?_) (by rfl) rfl ?_ ?_
                      rotate_left
                      · go_simp
                        rfl
                      refine hK.out _ _ ?_
                      clear hK K
                      refine done_ (done_of HT_.out (by kernel_rfl)) ?_
                      try go_wp2_with (first | ((try simp only [Exit.inBlock, Exit.then]); refine bodyPost_end (results_none rfl _ _ _) rfl ?_; refine ⟨_, rfl, ?_⟩))
                      go_meet
                      case rel => exact ⟨_, (a0_2), (a0_3), (0), (0), (y217), (y218), (t205), (rd t199 a1), (.slice (some ⟨go58, 0, none⟩) t199.length co16), (.slice (some ⟨go56, 0, none⟩) t202.length co20), H', ⟨by first | omega | exact Nat.le_refl _⟩, ⟨Kd.pR (Kd.R_mono (Kd.R_far (p := ⟨go56, (a1 : Int).toNat, none⟩) (Kd.R_mono HQ69.out (fun k_ hk => (⟨hk, fun e_ => hk (by rw [e_]; rfl)⟩ : _ ∧ k_ ≠ go56))) (fun _ hk => hk.2) (.int .i64 (-1))) (fun _ hk => hk.1))⟩, ⟨Kd.pR (Kd.R_mono HQ70.out (fun _ hk => hk.1))⟩, ⟨by (with_reducible repeat (first | refine blk_drewN ?_ _ | refine blk_drew ?_ | refine blk_alloc ?_ _)); refine blk_far ?_ (by have h_ := Kd.R_ne HO204.out BK196.out (by decide); intro e_; exact h_ (by rw [e_]; rfl)) _; (with_reducible repeat (first | refine blk_drewN ?_ _ | refine blk_drew ?_ | refine blk_alloc ?_ _)); refine blk_far ?_ (by have h_ := Kd.R_ne HO201.out BK196.out (by decide); intro e_; exact h_ (by rw [e_]; rfl)) _; (with_reducible repeat (first | refine blk_drewN ?_ _ | refine blk_drew ?_ | refine blk_alloc ?_ _)); exact BK196.out⟩, ⟨by (with_reducible repeat (first | refine blk_drewN ?_ _ | refine blk_drew ?_ | refine blk_alloc ?_ _)); refine blk_far ?_ (by have h_ := Kd.R_ne HO204.out BK197.out (by decide); intro e_; exact h_ (by rw [e_]; rfl)) _; (with_reducible repeat (first | refine blk_drewN ?_ _ | refine blk_drew ?_ | refine blk_alloc ?_ _)); refine blk_far ?_ (by have h_ := Kd.R_ne HO201.out BK197.out (by decide); intro e_; exact h_ (by rw [e_]; rfl)) _; (with_reducible repeat (first | refine blk_drewN ?_ _ | refine blk_drew ?_ | refine blk_alloc ?_ _)); exact BK197.out⟩, ⟨by (with_reducible repeat (first | refine blk_drewN ?_ _ | refine blk_drew ?_ | refine blk_alloc ?_ _)); refine blk_far ?_ (by have h_ := Kd.R_ne HO204.out BK207.out (by decide); intro e_; exact h_ (by rw [e_]; rfl)) _; (with_reducible repeat (first | refine blk_drewN ?_ _ | refine blk_drew ?_ | refine blk_alloc ?_ _)); refine blk_far ?_ (by have h_ := Kd.R_ne HO201.out BK207.out (by decide); intro e_; exact h_ (by rw [e_]; rfl)) _; (with_reducible repeat (first | refine blk_drewN ?_ _ | refine blk_drew ?_ | refine blk_alloc ?_ _)); exact BK207.out⟩, ⟨by repeat (first | (with_reducible first | exact HB.out | apply below_alloc | apply pw_below_drewN | apply below_drew1 | refine below_set ?_ GB58.out | refine below_set ?_ GB56.out | refine below_set ?_ GE196.out | refine below_set ?_ GE197.out | refine below_set ?_ GE207.out) | exact HB.out)⟩⟩
                    · rw [if_neg c57] at H
                      have c57b0 : ((rd t202 a1) == (-1)) = false := beq_eq_false_iff_ne.mpr c57
                      have c57b1 : ((rd t202 a1) != (-1)) = true := bne_iff_ne.mpr c57
                      by_cases c71 : 0 ≤ (rd t202 a1)
                      · rw [if_pos c71] at H
                        have c71b0 : decide (0 ≤ (rd t202 a1)) = true := decide_eq_true c71
                        clear c71
                        by_cases c72 : (rd t202 a1) < (t199.length : Int)
                        · rw [if_pos c72] at H
                          have c72b0 : decide ((rd t202 a1) < (t199.length : Int)) = true := decide_eq_true c72
                          clear c72
                          obtain ⟨y219, hy219⟩ : ∃ y_ : List Int, y_ = (t199.set ((rd t202 a1) : Int).toNat (rd t199 a1)) := ⟨_, rfl⟩
                          replace H : (lru_Touch.j0 k a1 (y219.set (a1 : Int).toNat (-1)) (y216.set (a1 : Int).toNat (-1)) t205 t206) = some (r1, r2, r3, r4, r5) := by first | (rw [hy219]; with_reducible exact H) | (have H2_ := (Option.bind_some _ _).symm.trans H; rw [hy219]; with_reducible exact H2_) | (have H2_ := (Option.bind_some _ _).symm.trans H; with_reducible exact H2_) | with_reducible exact H | (rw [hy219]; exact H) | exact H
                          have Ny219 := Aside0.mk hy219
                          (try clear hy219)
                          obtain ⟨y220, hy220⟩ : ∃ y_ : List Int, y_ = (y219.set (a1 : Int).toNat (-1)) := ⟨_, rfl⟩
                          replace H : (lru_Touch.j0 k a1 y220 (y216.set (a1 : Int).toNat (-1)) t205 t206) = some (r1, r2, r3, r4, r5) := by first | (rw [hy220]; with_reducible exact H) | (have H2_ := (Option.bind_some _ _).symm.trans H; rw [hy220]; with_reducible exact H2_) | (have H2_ := (Option.bind_some _ _).symm.trans H; with_reducible exact H2_) | with_reducible exact H | (rw [hy220]; exact H) | exact H
                          have Ny220 := Aside0.mk hy220
                          (try clear hy220)
                          obtain ⟨y221, hy221⟩ : ∃ y_ : List Int, y_ = (y216.set (a1 : Int).toNat (-1)) := ⟨_, rfl⟩
                          replace H : (lru_Touch.j0 k a1 y220 y221 t205 t206) = some (r1, r2, r3, r4, r5) := by first | (rw [hy221]; with_reducible exact H) | (have H2_ := (Option.bind_some _ _).symm.trans H; rw [hy221]; with_reducible exact H2_) | (have H2_ := (Option.bind_some _ _).symm.trans H; with_reducible exact H2_) | with_reducible exact H | (rw [hy221]; exact H) | exact H
                          have Ny221 := Aside0.mk hy221
                          (try clear hy221)
                          have H' := Aside0.mk H
                          clear H
                          try go_wp2_with (first | ((with_reducible refine gate_callee (f := 34) rfl ?_); refine goesL_ (some 21) rfl rfl Try.func34 (by kernel_rfl) rfl #[.pointer (some ⟨gb207, 0, none⟩), .int .i64 a1] rfl (by (try simp only [List.map_toArray, List.map_cons, List.map_nil]); first | done | rfl) ?_; go_enter Try.func34, Try.ntmps34))
                          have n0_ := Aside0.mk (Kd.R_drew HO201.out)
                          have n1_ := Aside0.mk (Kd.R_drew HO204.out)
                          have n2_ := Aside0.mk (blk_drew BK196.out)
                          have n3_ := Aside0.mk (blk_drew BK197.out)
                          have n4_ := Aside0.mk (blk_drew BK207.out)
                          have n5_ := Aside0.mk (below_drew1 HB.out)
                          clear HO201
                          clear HO204
                          clear BK196
                          clear BK197
                          clear BK207
                          clear HB
                          have HO201 := n0_
                          have HO204 := n1_
                          have BK196 := n2_
                          have BK197 := n3_
                          have BK207 := n4_
                          have HB := n5_
                          clear n0_ n1_ n2_ n3_ n4_ n5_
                          have p209 : 0 ≤ (a1 : Int) := od
                          have q209 : a1 < (t199.length : Int) := od
                          obtain ⟨ad209, e209, hx209_0⟩ := Kd.at_int (Kd.R_reads' HO201.out).2.2 a1 p209 q209
                          cases e209
                          replace p209 := eq_true p209
                          replace q209 := eq_true q209
                          have p210 : 0 ≤ (a1 : Int) := od
                          have q210 : a1 < (t202.length : Int) := od
                          obtain ⟨ad210, e210, hx210_0⟩ := Kd.at_int (Kd.R_reads' HO204.out).2.2 a1 p210 q210
                          cases e210
                          replace p210 := eq_true p210
                          replace q210 := eq_true q210
                          refine start_ (n := 16) (S := fun w' => w'.cell? ⟨gb207, 0, none⟩ = some (.slice (some ad209) t199.length co16) ∧ w'.cell? ⟨gb207, 1, none⟩ = some (.slice (some ad210) t202.length co20) ∧ w'.cell? ⟨gb207, 2, none⟩ = some (.int .i64 t205) ∧ w'.cell? ⟨gb207, 3, none⟩ = some (.int .i64 t206) ∧ w'.cell? (ad209.add (a1).toNat) = some (.int .i64 (rd t199 a1)) ∧ w'.cell? (ad210.add (a1).toNat) = some (.int .i64 (rd t202 a1))) (ds := []) #[false, false, false, false, false, false, false, false, false, false, false, false, false, false, false, false] (by kernel_rfl) rfl rfl ⟨(blk_cell BK207.out 0).trans rfl, (blk_cell BK207.out 1).trans rfl, (blk_cell BK207.out 2).trans rfl, (blk_cell BK207.out 3).trans rfl, hx209_0, hx210_0⟩ (fun hHeld => ?_); refine with_tabW lru_Touch.tab34000 lru_Touch.bits34000 (fun HT_ HW_ => ?_)
                          generalize w21.drew = w76 at HO201 HO204 BK196 BK197 BK207 HB hx209_0 hx210_0 hHeld ⊢
                          refine pure_ (i := 0) (N := some 6) (v := ?_) (a' := ?_) #[true, false, false, false, false, false, false, false, false, false, false, false, false, false, false, false] rfl rfl (any_of HT_.out (by kernel_rfl)) (fun _ _ _ h => h) (Or.inl ⟨by rfl, ?_⟩) ?_ ?_
                          rotate_left
                          · intro w'
                            go_simp
                            with_reducible rfl
                          rotate_left
                          · simp only [Act.put, List.setIfInBounds_toArray, List.set_cons_zero, List.set_cons_succ, i64_w, i32_w]
                            rfl
                          refine pure_ (i := 1) (N := some 7) (v := ?_) (a' := ?_) #[true, true, false, false, false, false, false, false, false, false, false, false, false, false, false, false] rfl rfl (any_of HT_.out (by kernel_rfl)) (fun _ _ _ h => h) (Or.inl ⟨by rfl, ?_⟩) ?_ ?_
                          rotate_left
                          · intro w'
                            go_simp
                            with_reducible rfl
                          rotate_left
                          · simp only [Act.put, List.setIfInBounds_toArray, List.set_cons_zero, List.set_cons_succ, i64_w, i32_w]
                            rfl
                          refine pure_ (i := 2) (N := some 8) (v := ?_) (a' := ?_) #[true, true, true, false, false, false, false, false, false, false, false, false, false, false, false, false] rfl rfl (any_of HT_.out (by kernel_rfl)) (fun _ _ _ h => h) (Or.inl ⟨by rfl, ?_⟩) ?_ ?_
                          rotate_left
                          · intro w'
                            go_simp
                            with_reducible rfl
                          rotate_left
                          · simp only [Act.put, List.setIfInBounds_toArray, List.set_cons_zero, List.set_cons_succ, i64_w, i32_w]
                            rfl
                          refine pure_ (i := 4) (N := some 10) (v := ?_) (a' := ?_) #[true, true, true, false, true, false, false, false, false, false, false, false, false, false, false, false] rfl rfl (any_of HT_.out (by kernel_rfl)) (fun _ _ _ h => h) (Or.inl ⟨by rfl, ?_⟩) ?_ ?_
                          rotate_left
                          · intro w'
                            go_simp
                            with_reducible rfl
                          rotate_left
                          · simp only [Act.put, List.setIfInBounds_toArray, List.set_cons_zero, List.set_cons_succ, i64_w, i32_w]
                            rfl
                          refine pure_ (i := 7) (N := some 13) (v := ?_) (a' := ?_) #[true, true, true, false, true, false, false, true, false, false, false, false, false, false, false, false] rfl rfl (any_of HT_.out (by kernel_rfl)) (fun _ _ _ h => h) (Or.inl ⟨by rfl, ?_⟩) ?_ ?_
                          rotate_left
                          · intro w'
                            go_simp
                            with_reducible rfl
                          rotate_left
                          · simp only [Act.put, List.setIfInBounds_toArray, List.set_cons_zero, List.set_cons_succ, i64_w, i32_w]
                            rfl
                          refine pure_ (i := 8) (N := some 14) (v := ?_) (a' := ?_) #[true, true, true, false, true, false, false, true, true, false, false, false, false, false, false, false] rfl rfl (any_of HT_.out (by kernel_rfl)) (fun _ _ _ h => h) (Or.inl ⟨by rfl, ?_⟩) ?_ ?_
                          rotate_left
                          · intro w'
                            go_simp
                            with_reducible rfl
                          rotate_left
                          · simp only [Act.put, List.setIfInBounds_toArray, List.set_cons_zero, List.set_cons_succ, i64_w, i32_w]
                            rfl
                          refine pure_ (i := 9) (N := some 15) (v := ?_) (a' := ?_) #[true, true, true, false, true, false, false, true, true, true, false, false, false, false, false, false] rfl rfl (any_of HT_.out (by kernel_rfl)) (fun _ _ _ h => h) (Or.inl ⟨by rfl, ?_⟩) ?_ ?_
                          rotate_left
                          · intro w'
                            go_simp
                            with_reducible rfl
                          rotate_left
                          · simp only [Act.put, List.setIfInBounds_toArray, List.set_cons_zero, List.set_cons_succ, i64_w, i32_w]
                            rfl
                          refine pure_ (i := 11) (N := some 17) (v := ?_) (a' := ?_) #[true, true, true, false, true, false, false, true, true, true, false, true, false, false, false, false] rfl rfl (any_of HT_.out (by kernel_rfl)) (fun _ _ _ h => h) (Or.inl ⟨by rfl, ?_⟩) ?_ ?_
                          rotate_left
                          · intro w'
                            go_simp
                            with_reducible rfl
                          rotate_left
                          · simp only [Act.put, List.setIfInBounds_toArray, List.set_cons_zero, List.set_cons_succ, i64_w, i32_w]
                            rfl
                          refine take_ (i := 3) (N := some 9) (v := ?_) (a' := ?_) #[true, true, true, true, true, false, false, true, true, true, false, true, false, false, false, false] rfl rfl (take_ofW HT_.out HW_.out (by kernel_rfl)) (fun _ _ _ h => h) (Or.inl ⟨by rfl, ?_⟩) hHeld ?_ ?_
                          rotate_left
                          · rintro w' ⟨s0, s1, s2, s3, s4, s5⟩
                            go_simp
                            with_reducible rfl
                          rotate_left
                          · simp only [Act.put, List.setIfInBounds_toArray, List.set_cons_zero, List.set_cons_succ, i64_w, i32_w]
                            rfl
                          refine pure_ (i := 5) (N := some 11) (v := ?_) (a' := ?_) #[true, true, true, true, true, true, false, true, true, true, false, true, false, false, false, false] rfl rfl (any_of HT_.out (by kernel_rfl)) (fun _ _ _ h => h) (Or.inl ⟨by rfl, ?_⟩) ?_ ?_
                          rotate_left
                          · intro w'
                            go_simp
                            with_reducible rfl
                          rotate_left
                          · simp only [Act.put, List.setIfInBounds_toArray, List.set_cons_zero, List.set_cons_succ, i64_w, i32_w]
                            rfl
                          refine take_ (i := 6) (N := some 12) (v := ?_) (a' := ?_) #[true, true, true, true, true, true, true, true, true, true, false, true, false, false, false, false] rfl rfl (take_ofW HT_.out HW_.out (by kernel_rfl)) (fun _ _ _ h => h) (Or.inl ⟨by rfl, ?_⟩) hHeld ?_ ?_
                          rotate_left
                          · rintro w' ⟨s0, s1, s2, s3, s4, s5⟩
                            go_simp
                            with_reducible rfl
                          rotate_left
                          · simp only [Act.put, List.setIfInBounds_toArray, List.set_cons_zero, List.set_cons_succ, i64_w, i32_w]
                            rfl
                          refine pure_ (i := 14) (N := some 4) (v := ?_) (a' := ?_) #[true, true, true, true, true, true, true, true, true, true, false, true, false, false, true, false] rfl rfl (any_of HT_.out (by kernel_rfl)) (fun _ _ _ h => h) (Or.inl ⟨by rfl, ?_⟩) ?_ ?_
                          rotate_left
                          · intro w'
                            go_simp
                            with_reducible rfl
                          rotate_left
                          · simp only [Act.put, List.setIfInBounds_toArray, List.set_cons_zero, List.set_cons_succ, i64_w, i32_w]
                            rfl
                          refine take_ (i := 10) (N := some 16) (v := ?_) (a' := ?_) #[true, true, true, true, true, true, true, true, true, true, true, true, false, false, true, false] rfl rfl (take_ofW HT_.out HW_.out (by kernel_rfl)) (fun _ _ _ h => h) (Or.inl ⟨by rfl, ?_⟩) hHeld ?_ ?_
                          rotate_left
                          · rintro w' ⟨s0, s1, s2, s3, s4, s5⟩
                            go_simp
                            with_reducible rfl
                          rotate_left
                          · simp only [Act.put, List.setIfInBounds_toArray, List.set_cons_zero, List.set_cons_succ, i64_w, i32_w]
                            rfl
                          refine pure_ (i := 12) (N := some 18) (v := ?_) (a' := ?_) #[true, true, true, true, true, true, true, true, true, true, true, true, true, false, true, false] rfl rfl (any_of HT_.out (by kernel_rfl)) (fun _ _ _ h => h) (Or.inl ⟨by rfl, ?_⟩) ?_ ?_
                          rotate_left
                          · intro w'
                            go_simp
                            with_reducible rfl
                          rotate_left
                          · simp only [Act.put, List.setIfInBounds_toArray, List.set_cons_zero, List.set_cons_succ, i64_w, i32_w]
                            rfl
                          refine take_ (i := 13) (N := some 19) (v := ?_) (a' := ?_) #[true, true, true, true, true, true, true, true, true, true, true, true, true, true, true, false] rfl rfl (take_ofW HT_.out HW_.out (by kernel_rfl)) (fun _ _ _ h => h) (Or.inl ⟨by rfl, ?_⟩) hHeld ?_ ?_
                          rotate_left
                          · rintro w' ⟨s0, s1, s2, s3, s4, s5⟩
                            go_simp
                            with_reducible rfl
                          rotate_left
                          · simp only [Act.put, List.setIfInBounds_toArray, List.set_cons_zero, List.set_cons_succ, i64_w, i32_w]
                            rfl
                          refine pure_ (i := 15) (N := some 5) (v := ?_) (a' := ?_) #[true, true, true, true, true, true, true, true, true, true, true, true, true, true, true, true] rfl rfl (any_of HT_.out (by kernel_rfl)) (fun _ _ _ h => h) (Or.inl ⟨by rfl, ?_⟩) ?_ ?_
                          rotate_left
                          · intro w'
                            go_simp
                            with_reducible rfl
                          rotate_left
                          · simp only [Act.put, List.setIfInBounds_toArray, List.set_cons_zero, List.set_cons_succ, i64_w, i32_w]
                            rfl
                          refine done_ (done_of HT_.out (by kernel_rfl)) ?_
                          have hnb77 := NB207_196.out
                          have hnc77 := NB196_207.out
                          have hnb78 := NB207_197.out
                          have hnc78 := NB197_207.out
                          obtain ⟨hcz79_0, hcz79_1, hcz79_2, hcz79_3, hfz79_0, hfz79_1, hfz79_2, hfz79_3⟩ := bk4 BK207.out
                          have p56 : 0 ≤ ((rd t199 a1) : Int) := od
                          have q56 : ((rd t199 a1) : Int) < ((t202.length : Int) : Int) := od
                          obtain ⟨go56, co56, eo56, gb56, gl56, cl56, HG56⟩ := Kd.R_form HO204.out (by omega)
                          (first | cases eo56 | (injection eo56 with ea_ en_ ec_; (first | subst ea_ | (injection ea_ with ea_; subst ea_)); subst ec_; clear en_))
                          have GB56 := Aside0.mk gb56
                          have GG56 := Aside0.mk HG56
                          clear gb56 gl56 HG56
                          (first | simp only [add_plain] at hx210_0 | skip)
                          obtain ⟨hx56_0, hf56_0⟩ := Kd.R_celln 0 HO204.out ((rd t199 a1) : Int) p56 q56
                          replace p56 := eq_true p56
                          replace q56 := eq_true q56
                          obtain ⟨hy80_, hz80_⟩ := Kd.R_celln 0 HO204.out ((rd t199 a1) : Int) od od
                          have HP80 := Kd.R_putg HO204.out ((rd t199 a1) : Int) (rd t202 a1)
                          try go_wp2_with (first | ((with_reducible refine gate_store (t := 3) (p := 32) rfl ?_); refine store_event (t := 3) (p := 32) (v := ?vo_w81) (w1 := (w76.setCell ⟨go56, ((rd t199 a1) : Int).toNat, none⟩ (.int .i64 (rd t202 a1)))) ?hg ?ho ?hn ?hr ?_; (case ho => rfl); (case hg => rfl); (case hn => rfl); (case hr => first | (go_simp; done) | (go_simp; rfl)); intro w81 hw; have hg : w76.grownBy w81 (some go56) := (by rw [hw]; exact HP80.2); have hp_ : Kd.R (Kd.int .i64) 3 w81 w.heap.size (fun k_ => some k_ ≠ (.slice (some ad209) t199.length co16 : Value).ownBlock) (.slice (some ⟨go56, 0, none⟩) t202.length co20) y216 := (by rw [hw, Ny216.out]; exact HP80.1); (try clear HP80); have n0_ := Aside0.mk (blk_grown (pK BK196.out) hg (Kd.R_ne HO204.out BK196.out (by decide))); have n1_ := Aside0.mk (blk_grown (pK BK197.out) hg (Kd.R_ne HO204.out BK197.out (by decide))); have n2_ := Aside0.mk (Kd.R_after (v := (.slice (some ⟨go56, 0, none⟩) t202.length co20)) (v1 := (.slice (some ⟨go56, 0, none⟩) t202.length co20)) (ok := (fun _ => True)) (Kd.pR (Kd.R_mono HO201.out (fun _ hk => ⟨trivial, hk⟩))) hg (.inl rfl)); have n3_ := Aside0.mk (hp_); have n4_ := Aside0.mk (blk_grown (pK BK207.out) hg (Kd.R_ne HO204.out BK207.out (by decide))); have n5_ := Aside0.mk ((by rw [hw]; exact below_set (HB.out) GB56.out : Below w.heap.size w w81)); clear BK196; clear BK197; clear HO201; clear HO204; clear BK207; clear HB; have BK196 := n0_; have BK197 := n1_; have HO201 := n2_; have HO204 := n3_; have BK207 := n4_; have HB := n5_; clear n0_ n1_ n2_ n3_ n4_ n5_; clear hg hw hp_; obtain ⟨hcz82_0, hcz82_1, hcz82_2, hcz82_3, hfz82_0, hfz82_1, hfz82_2, hfz82_3⟩ := bk4 BK207.out; have p73 : 0 ≤ ((rd t202 a1) : Int) := od; have q73 : ((rd t202 a1) : Int) < ((t199.length : Int) : Int) := od; obtain ⟨go73, co73, eo73, gb73, gl73, cl73, HG73⟩ := Kd.R_form HO201.out (by omega); (first | cases eo73 | (injection eo73 with ea_ en_ ec_; (first | subst ea_ | (injection ea_ with ea_; subst ea_)); subst ec_; clear en_)); have GB73 := Aside0.mk gb73; have GG73 := Aside0.mk HG73; clear gb73 gl73 HG73; (first | simp only [add_plain] at hx209_0 | skip); obtain ⟨hx73_0, hf73_0⟩ := Kd.R_celln 0 HO201.out ((rd t202 a1) : Int) p73 q73; replace p73 := eq_true p73; replace q73 := eq_true q73; have n_ := Aside0.mk (Kd.R_mono (ok' := (fun k_ => some k_ ≠ (.slice (some ⟨go56, 0, none⟩) t202.length co20 : Value).ownBlock)) HO201.out (fun k_ hk => hk.2)); clear HO201; have HO201 := n_; clear n_; obtain ⟨hy83_, hz83_⟩ := Kd.R_celln 0 HO201.out ((rd t202 a1) : Int) od od; have HP83 := Kd.R_putg HO201.out ((rd t202 a1) : Int) (rd t199 a1)) | ((with_reducible refine gate_store (t := 3) (p := 45) rfl ?_); refine store_event (t := 3) (p := 45) (v := ?vo_w84) (w1 := (w81.setCell ⟨go73, ((rd t202 a1) : Int).toNat, none⟩ (.int .i64 (rd t199 a1)))) ?hg ?ho ?hn ?hr ?_; (case ho => rfl); (case hg => rfl); (case hn => rfl); (case hr => first | (go_simp; done) | (go_simp; rfl)); intro w84 hw; have hg : w81.grownBy w84 (some go73) := (by rw [hw]; exact HP83.2); have hp_ : Kd.R (Kd.int .i64) 3 w84 w.heap.size (fun k_ => some k_ ≠ (.slice (some ⟨go56, 0, none⟩) t202.length co20 : Value).ownBlock) (.slice (some ⟨go73, 0, none⟩) t199.length co16) y219 := (by rw [hw, Ny219.out]; exact HP83.1); (try clear HP83); have n0_ := Aside0.mk (blk_grown (pK BK196.out) hg (Kd.R_ne HO201.out BK196.out (by decide))); have n1_ := Aside0.mk (blk_grown (pK BK197.out) hg (Kd.R_ne HO201.out BK197.out (by decide))); have n2_ := Aside0.mk (hp_); have n3_ := Aside0.mk (Kd.R_after (v := (.slice (some ⟨go73, 0, none⟩) t199.length co16)) (v1 := (.slice (some ⟨go73, 0, none⟩) t199.length co16)) (ok := (fun _ => True)) (Kd.pR (Kd.R_mono HO204.out (fun _ hk => ⟨trivial, hk⟩))) hg (.inl rfl)); have n4_ := Aside0.mk (blk_grown (pK BK207.out) hg (Kd.R_ne HO201.out BK207.out (by decide))); have n5_ := Aside0.mk ((by rw [hw]; exact below_set (HB.out) GB73.out : Below w.heap.size w w84)); clear BK196; clear BK197; clear HO201; clear HO204; clear BK207; clear HB; have BK196 := n0_; have BK197 := n1_; have HO201 := n2_; have HO204 := n3_; have BK207 := n4_; have HB := n5_; clear n0_ n1_ n2_ n3_ n4_ n5_; clear hg hw hp_))
                          have n0_ := Aside0.mk (Kd.R_drew HO201.out)
                          have n1_ := Aside0.mk (Kd.R_drew HO204.out)
                          have n2_ := Aside0.mk (blk_drew BK196.out)
                          have n3_ := Aside0.mk (blk_drew BK197.out)
                          have n4_ := Aside0.mk (blk_drew BK207.out)
                          have n5_ := Aside0.mk (below_drew1 HB.out)
                          clear HO201
                          clear HO204
                          clear BK196
                          clear BK197
                          clear BK207
                          clear HB
                          have HO201 := n0_
                          have HO204 := n1_
                          have BK196 := n2_
                          have BK197 := n3_
                          have BK207 := n4_
                          have HB := n5_
                          clear n0_ n1_ n2_ n3_ n4_ n5_
                          have p74 : 0 ≤ (a1 : Int) := od
                          have q74 : (a1 : Int) < ((t199.length : Int) : Int) := od
                          obtain ⟨hx74_0, hf74_0⟩ := Kd.R_celln 0 HO201.out (a1 : Int) p74 q74
                          replace p74 := eq_true p74
                          replace q74 := eq_true q74
                          have HP86 := Kd.R_putn HO201.out (a1 : Int) (-1)
                          rw [← Ny220.out] at HP86
                          have HQ86 := Aside0.mk HP86
                          (try clear HP86)
                          have p75 : 0 ≤ (a1 : Int) := od
                          have q75 : (a1 : Int) < ((t202.length : Int) : Int) := od
                          obtain ⟨hx75_0, hf75_0⟩ := Kd.R_celln 0 (Kd.R_far (p := ⟨go73, (a1 : Int).toNat, none⟩) (Kd.R_mono HO204.out (fun k_ hk => (⟨hk, fun e_ => hk.2 (by rw [e_]; rfl)⟩ : _ ∧ k_ ≠ go73))) (fun _ hk => hk.2) (.int .i64 (-1))) (a1 : Int) p75 q75
                          replace p75 := eq_true p75
                          replace q75 := eq_true q75
                          have HP87 := Kd.R_putn (Kd.R_far (p := ⟨go73, (a1 : Int).toNat, none⟩) (Kd.R_mono HO204.out (fun k_ hk => (⟨hk, fun e_ => hk.2 (by rw [e_]; rfl)⟩ : _ ∧ k_ ≠ go73))) (fun _ hk => hk.2) (.int .i64 (-1))) (a1 : Int) (-1)
                          rw [← Ny221.out] at HP87
                          have HQ87 := Aside0.mk HP87
                          (try clear HP87)
                          refine start_ (n := 14) (S := fun w' => w'.cell? ⟨gb207, 0, none⟩ = some (.slice (some ⟨go73, 0, none⟩) t199.length co16) ∧ w'.cell? ⟨gb207, 1, none⟩ = some (.slice (some ⟨go56, 0, none⟩) t202.length co20) ∧ w'.cell? ⟨gb207, 2, none⟩ = some (.int .i64 t205) ∧ w'.cell? ⟨gb207, 3, none⟩ = some (.int .i64 t206)) (ds := [11, 13]) #[false, false, false, false, false, false, false, false, false, false, false, false, false, false] (by kernel_rfl) rfl rfl ⟨(blk_cell BK207.out 0).trans rfl, (blk_cell BK207.out 1).trans rfl, (blk_cell BK207.out 2).trans rfl, (blk_cell BK207.out 3).trans rfl⟩ (fun hHeld => ?_); refine with_tabW lru_Touch.tab34007 lru_Touch.bits34007 (fun HT_ HW_ => ?_)
                          generalize w84.drew = w85 at HO201 HO204 BK196 BK197 BK207 HB HQ86 HQ87 hf74_0 hf75_0 hx74_0 hx75_0 hHeld ⊢
                          refine pure_ (i := 0) (N := some 46) (v := ?_) (a' := ?_) #[true, false, false, false, false, false, false, false, false, false, false, false, false, false] rfl rfl (any_of HT_.out (by kernel_rfl)) (fun _ _ _ h => h) (Or.inl ⟨by rfl, ?_⟩) ?_ ?_
                          rotate_left
                          · intro w'
                            go_simp
                            with_reducible rfl
                          rotate_left
                          · simp only [Act.put, List.setIfInBounds_toArray, List.set_cons_zero, List.set_cons_succ, i64_w, i32_w]
                            rfl
                          refine pure_ (i := 1) (N := some 47) (v := ?_) (a' := ?_) #[true, true, false, false, false, false, false, false, false, false, false, false, false, false] rfl rfl (any_of HT_.out (by kernel_rfl)) (fun _ _ _ h => h) (Or.inl ⟨by rfl, ?_⟩) ?_ ?_
                          rotate_left
                          · intro w'
                            go_simp
                            with_reducible rfl
                          rotate_left
                          · simp only [Act.put, List.setIfInBounds_toArray, List.set_cons_zero, List.set_cons_succ, i64_w, i32_w]
                            rfl
                          refine pure_ (i := 2) (N := some 48) (v := ?_) (a' := ?_) #[true, true, true, false, false, false, false, false, false, false, false, false, false, false] rfl rfl (any_of HT_.out (by kernel_rfl)) (fun _ _ _ h => h) (Or.inl ⟨by rfl, ?_⟩) ?_ ?_
                          rotate_left
                          · intro w'
                            go_simp
                            with_reducible rfl
                          rotate_left
                          · simp only [Act.put, List.setIfInBounds_toArray, List.set_cons_zero, List.set_cons_succ, i64_w, i32_w]
                            rfl
                          refine pure_ (i := 4) (N := some 50) (v := ?_) (a' := ?_) #[true, true, true, false, true, false, false, false, false, false, false, false, false, false] rfl rfl (any_of HT_.out (by kernel_rfl)) (fun _ _ _ h => h) (Or.inl ⟨by rfl, ?_⟩) ?_ ?_
                          rotate_left
                          · intro w'
                            go_simp
                            with_reducible rfl
                          rotate_left
                          · simp only [Act.put, List.setIfInBounds_toArray, List.set_cons_zero, List.set_cons_succ, i64_w, i32_w]
                            rfl
                          refine pure_ (i := 5) (N := some 51) (v := ?_) (a' := ?_) #[true, true, true, false, true, true, false, false, false, false, false, false, false, false] rfl rfl (any_of HT_.out (by kernel_rfl)) (fun _ _ _ h => h) (Or.inl ⟨by rfl, ?_⟩) ?_ ?_
                          rotate_left
                          · intro w'
                            go_simp
                            with_reducible rfl
                          rotate_left
                          · simp only [Act.put, List.setIfInBounds_toArray, List.set_cons_zero, List.set_cons_succ, i64_w, i32_w]
                            rfl
                          refine pure_ (i := 6) (N := some 52) (v := ?_) (a' := ?_) #[true, true, true, false, true, true, true, false, false, false, false, false, false, false] rfl rfl (any_of HT_.out (by kernel_rfl)) (fun _ _ _ h => h) (Or.inl ⟨by rfl, ?_⟩) ?_ ?_
                          rotate_left
                          · intro w'
                            go_simp
                            with_reducible rfl
                          rotate_left
                          · simp only [Act.put, List.setIfInBounds_toArray, List.set_cons_zero, List.set_cons_succ, i64_w, i32_w]
                            rfl
                          refine pure_ (i := 7) (N := some 53) (v := ?_) (a' := ?_) #[true, true, true, false, true, true, true, true, false, false, false, false, false, false] rfl rfl (any_of HT_.out (by kernel_rfl)) (fun _ _ _ h => h) (Or.inl ⟨by rfl, ?_⟩) ?_ ?_
                          rotate_left
                          · intro w'
                            go_simp
                            with_reducible rfl
                          rotate_left
                          · simp only [Act.put, List.setIfInBounds_toArray, List.set_cons_zero, List.set_cons_succ, i64_w, i32_w]
                            rfl
                          refine pure_ (i := 9) (N := some 55) (v := ?_) (a' := ?_) #[true, true, true, false, true, true, true, true, false, true, false, false, false, false] rfl rfl (any_of HT_.out (by kernel_rfl)) (fun _ _ _ h => h) (Or.inl ⟨by rfl, ?_⟩) ?_ ?_
                          rotate_left
                          · intro w'
                            go_simp
                            with_reducible rfl
                          rotate_left
                          · simp only [Act.put, List.setIfInBounds_toArray, List.set_cons_zero, List.set_cons_succ, i64_w, i32_w]
                            rfl
                          refine take_ (i := 3) (N := some 49) (v := ?_) (a' := ?_) #[true, true, true, true, true, true, true, true, false, true, false, false, false, false] rfl rfl (take_ofW HT_.out HW_.out (by kernel_rfl)) (fun _ _ _ h => h) (Or.inl ⟨by rfl, ?_⟩) hHeld ?_ ?_
                          rotate_left
                          · rintro w' ⟨s0, s1, s2, s3⟩
                            go_simp
                            with_reducible rfl
                          rotate_left
                          · simp only [Act.put, List.setIfInBounds_toArray, List.set_cons_zero, List.set_cons_succ, i64_w, i32_w]
                            rfl
                          refine take_ (i := 8) (N := some 54) (v := ?_) (a' := ?_) #[true, true, true, true, true, true, true, true, true, true, false, false, false, false] rfl rfl (take_ofW HT_.out HW_.out (by kernel_rfl)) (fun _ _ _ h => h) (Or.inl ⟨by rfl, ?_⟩) hHeld ?_ ?_
                          rotate_left
                          · rintro w' ⟨s0, s1, s2, s3⟩
                            go_simp
                            with_reducible rfl
                          rotate_left
                          · simp only [Act.put, List.setIfInBounds_toArray, List.set_cons_zero, List.set_cons_succ, i64_w, i32_w]
                            rfl
                          refine pure_ (i := 10) (N := some 56) (v := ?_) (a' := ?_) #[true, true, true, true, true, true, true, true, true, true, true, false, false, false] rfl rfl (any_of HT_.out (by kernel_rfl)) (fun _ _ _ h => h) (Or.inl ⟨by rfl, ?_⟩) ?_ ?_
                          rotate_left
                          · intro w'
                            go_simp
                            with_reducible rfl
                          rotate_left
                          · simp only [Act.put, List.setIfInBounds_toArray, List.set_cons_zero, List.set_cons_succ, i64_w, i32_w]
                            rfl
                          refine last_ (i := 11) (N := none) #[true, true, true, true, true, true, true, true, true, true, true, true, false, false] rfl rfl (one_of HT_.out (by kernel_rfl)) (by decide) (fun K hK => ?_)
                          refine skip_ (w1 := ?_) (by rfl) rfl ?_ ?_
                          rotate_left
                          · go_simp
                            rfl
                          refine hK.out _ _ ?_
                          clear hK K
                          refine pure_ (i := 12) (N := some 57) (v := ?_) (a' := ?_) #[true, true, true, true, true, true, true, true, true, true, true, true, true, false] rfl rfl (any_of HT_.out (by kernel_rfl)) (fun _ _ _ h => h) (Or.inl ⟨by rfl, ?_⟩) ?_ ?_
                          rotate_left
                          · intro w'
                            go_simp
                            with_reducible rfl
                          rotate_left
                          · simp only [Act.put, List.setIfInBounds_toArray, List.set_cons_zero, List.set_cons_succ, i64_w, i32_w]
                            rfl
                          refine last_ (i := 13) (N := none) #[true, true, true, true, true, true, true, true, true, true, true, true, true, true] rfl rfl (one_of HT_.out (by kernel_rfl)) (by decide) (fun K hK => ?_)
                          refine skip_ (w1 := ?_) (by rfl) rfl ?_ ?_
                          rotate_left
                          · go_simp
                            rfl
                          refine hK.out _ _ ?_
                          clear hK K
                          refine done_ (done_of HT_.out (by kernel_rfl)) ?_
                          try go_wp2_with (first | ((try simp only [Exit.inBlock, Exit.then]); refine bodyPost_end (results_none rfl _ _ _) rfl ?_; refine ⟨_, rfl, ?_⟩))
                          go_meet
                          case rel => exact ⟨_, (a0_2), (a0_3), (0), (0), (y220), (y221), (t205), (t206), (.slice (some ⟨go73, 0, none⟩) t199.length co16), (.slice (some ⟨go56, 0, none⟩) t202.length co20), H', ⟨by first | omega | exact Nat.le_refl _⟩, ⟨Kd.pR (Kd.R_mono (Kd.R_far (p := ⟨go56, (a1 : Int).toNat, none⟩) (Kd.R_mono HQ86.out (fun k_ hk => (⟨hk, fun e_ => hk (by rw [e_]; rfl)⟩ : _ ∧ k_ ≠ go56))) (fun _ hk => hk.2) (.int .i64 (-1))) (fun _ hk => hk.1))⟩, ⟨Kd.pR (Kd.R_mono HQ87.out (fun _ hk => hk.1.2))⟩, ⟨by (with_reducible repeat (first | refine blk_drewN ?_ _ | refine blk_drew ?_ | refine blk_alloc ?_ _)); refine blk_far ?_ (by have h_ := Kd.R_ne HO204.out BK196.out (by decide); intro e_; exact h_ (by rw [e_]; rfl)) _; (with_reducible repeat (first | refine blk_drewN ?_ _ | refine blk_drew ?_ | refine blk_alloc ?_ _)); refine blk_far ?_ (by have h_ := Kd.R_ne HO201.out BK196.out (by decide); intro e_; exact h_ (by rw [e_]; rfl)) _; (with_reducible repeat (first | refine blk_drewN ?_ _ | refine blk_drew ?_ | refine blk_alloc ?_ _)); exact BK196.out⟩, ⟨by (with_reducible repeat (first | refine blk_drewN ?_ _ | refine blk_drew ?_ | refine blk_alloc ?_ _)); refine blk_far ?_ (by have h_ := Kd.R_ne HO204.out BK197.out (by decide); intro e_; exact h_ (by rw [e_]; rfl)) _; (with_reducible repeat (first | refine blk_drewN ?_ _ | refine blk_drew ?_ | refine blk_alloc ?_ _)); refine blk_far ?_ (by have h_ := Kd.R_ne HO201.out BK197.out (by decide); intro e_; exact h_ (by rw [e_]; rfl)) _; (with_reducible repeat (first | refine blk_drewN ?_ _ | refine blk_drew ?_ | refine blk_alloc ?_ _)); exact BK197.out⟩, ⟨by (with_reducible repeat (first | refine blk_drewN ?_ _ | refine blk_drew ?_ | refine blk_alloc ?_ _)); refine blk_far ?_ (by have h_ := Kd.R_ne HO204.out BK207.out (by decide); intro e_; exact h_ (by rw [e_]; rfl)) _; (with_reducible repeat (first | refine blk_drewN ?_ _ | refine blk_drew ?_ | refine blk_alloc ?_ _)); refine blk_far ?_ (by have h_ := Kd.R_ne HO201.out BK207.out (by decide); intro e_; exact h_ (by rw [e_]; rfl)) _; (with_reducible repeat (first | refine blk_drewN ?_ _ | refine blk_drew ?_ | refine blk_alloc ?_ _)); exact BK207.out⟩, ⟨by repeat (first | (with_reducible first | exact HB.out | apply below_alloc | apply pw_below_drewN | apply below_drew1 | refine below_set ?_ GB73.out | refine below_set ?_ GB56.out | refine below_set ?_ GE196.out | refine below_set ?_ GE197.out | refine below_set ?_ GE207.out) | exact HB.out)⟩⟩
                        · rw [if_neg c72] at H
                          exact absurd H (by simp)
                      · rw [if_neg c71] at H
                        exact absurd H (by simp)
                  · rw [if_neg c55] at H
                    exact absurd H (by simp)
                · rw [if_neg c54] at H
                  exact absurd H (by simp)
            · rw [if_neg c25] at H
              exact absurd H (by simp)
          · rw [if_neg c24] at H
            exact absurd H (by simp)
        · rw [if_neg c23] at H
          exact absurd H (by simp)
      · replace c22 := Bool.eq_false_iff.mpr c22
        subst c22
        have H1 : (lru_Touch.j0 k a1 t199 t202 t205 t206) = some (r1, r2, r3, r4, r5) := by rw [if_neg (show ¬ (false = true) by decide)] at H; exact H
        clear H
        have H := H1
        (try clear H1)
        have H' := Aside0.mk H
        clear H
        go_wp2
        go_meet
        case rel => exact ⟨_, (a0_2), (a0_3), (0), (0), (t199), (t202), (t205), (t206), (.slice Ao16 t199.length co16), (.slice Ao20 t202.length co20), H', ⟨by first | omega | exact Nat.le_refl _⟩, ⟨Kd.pR HO201.out⟩, ⟨Kd.pR HO204.out⟩, ⟨pK BK196.out⟩, ⟨pK BK197.out⟩, ⟨pK BK207.out⟩, ⟨pB HB.out⟩⟩
    case rest =>
      (try clear HC7)
      try clear c2
      try clear p2
      try clear q2
      try clear hx2
      try clear c3
      try clear c5
      try clear p5
      try clear q5
      try clear hx5
      try clear hf5
      try clear c6
      try clear c7
      try clear p7
      try clear q7
      try clear hx7
      try clear hf7
      try clear p20
      try clear q20
      try clear hx20
      try clear p21
      try clear q21
      try clear hx21
      try clear c22
      try clear c23
      try clear c24
      try clear c25
      try clear c34
      try clear c54
      try clear c55
      try clear p56
      try clear q56
      try clear hx56
      try clear hf56
      try clear c57
      try clear c57b0
      try clear c57b1
      try clear p58
      try clear q58
      try clear hx58
      try clear hf58
      try clear p59
      try clear q59
      try clear hx59
      try clear hf59
      try clear c61
      try clear c62
      try clear c71
      try clear c71b0
      try clear c72
      try clear c72b0
      try clear p73
      try clear q73
      try clear hx73
      try clear hf73
      try clear p74
      try clear q74
      try clear hx74
      try clear hf74
      try clear p75
      try clear q75
      try clear hx75
      try clear hf75
      try clear c77
      try clear c78
      try clear hcz63_0
      try clear hcz63_1
      try clear hcz63_2
      try clear hcz63_3
      try clear hcz66_0
      try clear hcz66_1
      try clear hcz66_2
      try clear hcz66_3
      try clear hcz79_0
      try clear hcz79_1
      try clear hcz79_2
      try clear hcz79_3
      try clear hcz82_0
      try clear hcz82_1
      try clear hcz82_2
      try clear hcz82_3
      try clear hfz63_0
      try clear hfz63_1
      try clear hfz63_2
      try clear hfz63_3
      try clear hfz66_0
      try clear hfz66_1
      try clear hfz66_2
      try clear hfz66_3
      try clear hfz79_0
      try clear hfz79_1
      try clear hfz79_2
      try clear hfz79_3
      try clear hfz82_0
      try clear hfz82_1
      try clear hfz82_2
      try clear hfz82_3
      try clear hx209_0
      try clear hx210_0
      try clear hx56_0
      try clear hx58_0
      try clear hx59_0
      try clear hx73_0
      try clear hx74_0
      try clear hx75_0
      try clear p209
      try clear p210
      try clear p56
      try clear p58
      try clear p59
      try clear p73
      try clear p74
      try clear p75
      try clear q209
      try clear q210
      try clear q56
      try clear q58
      try clear q59
      try clear q73
      try clear q74
      try clear q75
      obtain ⟨kq, x197002_6, x197003_6, x198002_6, x198003_6, x208000_6, x208001_6, x208002_6, x208003_6, u208000, u208001, HA, HJ6, HO_208000, HO_208001, BK196, BK197, BK207, HB⟩ := hcut
      cases kq with
      | zero => exact absurd HA.out (by simp [lru_Touch.j0])
      | succ kj6 =>
        have H := HA.out
        (try clear HA)
        simp only [lru_Touch.j0] at H
        by_cases c88 : 0 ≤ a1
        · rw [if_pos c88] at H
          have c88b0 : decide (0 ≤ a1) = true := decide_eq_true c88
          clear c88
          by_cases c89 : a1 < (x208001_6.length : Int)
          · rw [if_pos c89] at H
            have c89b0 : decide (a1 < (x208001_6.length : Int)) = true := decide_eq_true c89
            clear c89
            obtain ⟨y222, hy222⟩ : ∃ y_ : List Int, y_ = (x208001_6.set (a1 : Int).toNat x208002_6) := ⟨_, rfl⟩
            replace H : (if x208002_6 = (-1) then (some (x208000_6, y222, a1, a1, 0)) else (if 0 ≤ x208002_6 then (if x208002_6 < (x208000_6.length : Int) then (some ((x208000_6.set (x208002_6 : Int).toNat a1), y222, a1, x208003_6, 0)) else (none)) else (none))) = some (r1, r2, r3, r4, r5) := by first | (rw [hy222]; with_reducible exact H) | (have H2_ := (Option.bind_some _ _).symm.trans H; rw [hy222]; with_reducible exact H2_) | (have H2_ := (Option.bind_some _ _).symm.trans H; with_reducible exact H2_) | with_reducible exact H | (rw [hy222]; exact H) | exact H
            have Ny222 := Aside0.mk hy222
            (try clear hy222)
            by_cases c91 : x208002_6 = (-1)
            · rw [if_pos c91] at H
              have c91b0 : (x208002_6 == (-1)) = true := beq_iff_eq.mpr c91
              have c91b1 : (x208002_6 != (-1)) = false := bne_eq_false_iff_eq.mpr c91
              clear c91
              simp only [Option.some.injEq, Prod.mk.injEq] at H
              obtain ⟨rfl, rfl, rfl, rfl, rfl⟩ := H
              have hnb92 := NB207_196.out
              have hnc92 := NB196_207.out
              have hnb93 := NB207_197.out
              have hnc93 := NB197_207.out
              obtain ⟨hcz94_0, hcz94_1, hcz94_2, hcz94_3, hfz94_0, hfz94_1, hfz94_2, hfz94_3⟩ := bk4 BK207.out
              have p90 : 0 ≤ (a1 : Int) := od
              have q90 : (a1 : Int) < ((x208001_6.length : Int) : Int) := od
              obtain ⟨go90, co90, eo90, gb90, gl90, cl90, HG90⟩ := Kd.R_form HO_208001.out (by omega)
              (first | cases eo90 | (injection eo90 with ea_ en_ ec_; (first | subst ea_ | (injection ea_ with ea_; subst ea_)); subst ec_; clear en_))
              have GB90 := Aside0.mk gb90
              have GG90 := Aside0.mk HG90
              clear gb90 gl90 HG90
              obtain ⟨hx90_0, hf90_0⟩ := Kd.R_celln 0 HO_208001.out (a1 : Int) p90 q90
              replace p90 := eq_true p90
              replace q90 := eq_true q90
              have HP95 := Kd.R_putg HO_208001.out (a1 : Int) x208002_6
              go_wp2_with (first | ((with_reducible refine gate_store (t := 3) (p := 27) rfl ?_); refine store_event (t := 3) (p := 27) (v := ?vo_w96) (w1 := (wc.setCell ⟨go90, (a1 : Int).toNat, none⟩ (.int .i64 x208002_6))) ?hg ?ho ?hn ?hr ?_; (case ho => rfl); (case hg => rfl); (case hn => rfl); (case hr => first | (go_simp; done) | (go_simp; rfl)); intro w96 hw; have hg : wc.grownBy w96 (some go90) := (by rw [hw]; exact HP95.2); have hp_ : Kd.R (Kd.int .i64) 3 w96 w.heap.size (fun k_ => some k_ ≠ (u208000 : Value).ownBlock) (.slice (some ⟨go90, 0, none⟩) x208001_6.length co90) y222 := (by rw [hw, Ny222.out]; exact HP95.1); (try clear HP95); have n0_ := Aside0.mk (Kd.R_after (v := (.slice (some ⟨go90, 0, none⟩) x208001_6.length co90)) (v1 := (.slice (some ⟨go90, 0, none⟩) x208001_6.length co90)) (ok := (fun _ => True)) (Kd.pR (Kd.R_mono HO_208000.out (fun _ hk => ⟨trivial, hk⟩))) hg (.inl rfl)); have n1_ := Aside0.mk (hp_); have n3_ := Aside0.mk (blk_grown (pK BK197.out) hg (Kd.R_ne HO_208001.out BK197.out (by decide))); have n4_ := Aside0.mk (blk_grown (pK BK207.out) hg (Kd.R_ne HO_208001.out BK207.out (by decide))); have n5_ := Aside0.mk ((by rw [hw]; exact below_set (HB.out) GB90.out : Below w.heap.size w w96)); clear HO_208000; clear HO_208001; (try clear BK196); clear BK197; clear BK207; clear HB; have HO_208000 := n0_; have HO_208001 := n1_; have BK197 := n3_; have BK207 := n4_; have HB := n5_; clear n0_ n1_ n3_ n4_ n5_; clear hg hw hp_; obtain ⟨hcz97_0, hcz97_1, hcz97_2, hcz97_3, hfz97_0, hfz97_1, hfz97_2, hfz97_3⟩ := bk4 BK207.out; obtain ⟨Ao98, co98, eo98⟩ := Kd.R_slice HO_208000.out; subst eo98; have hnb99 := NB197_196.out; have hnc99 := NB196_197.out; obtain ⟨hcz100_0, hcz100_1, hcz100_2, hcz100_3, hfz100_0, hfz100_1, hfz100_2, hfz100_3⟩ := bk4 BK197.out))
              refine bodyPost_ret (results_ct rfl _ _ gb197 24 #[.slice Ao98 x208000_6.length co98, .slice (some ⟨go90, 0, none⟩) x208001_6.length co90, .int .i64 a1, .int .i64 a1] (0, 0) _ rfl (by (with_reducible repeat (first | refine blk_drewN ?_ _ | refine blk_drew ?_ | refine blk_alloc ?_ _)); refine blk_put (cs := #[.slice Ao98 x208000_6.length co98, .slice (some ⟨go90, 0, none⟩) x208001_6.length co90, .int .i64 a1, .int .i64 x198003_6]) ?_ 3 _ rfl; (with_reducible repeat (first | refine blk_drewN ?_ _ | refine blk_drew ?_ | refine blk_alloc ?_ _)); refine blk_put (cs := #[.slice Ao98 x208000_6.length co98, .slice (some ⟨go90, 0, none⟩) x208001_6.length co90, .int .i64 x198002_6, .int .i64 x198003_6]) ?_ 2 _ rfl; (with_reducible repeat (first | refine blk_drewN ?_ _ | refine blk_drew ?_ | refine blk_alloc ?_ _)); refine blk_put (cs := #[.slice Ao98 x208000_6.length co98, .slice none 0 0, .int .i64 x198002_6, .int .i64 x198003_6]) ?_ 1 _ rfl; (with_reducible repeat (first | refine blk_drewN ?_ _ | refine blk_drew ?_ | refine blk_alloc ?_ _)); refine blk_put (cs := #[.slice none 0 0, .slice none 0 0, .int .i64 x198002_6, .int .i64 x198003_6]) ?_ 0 _ rfl; (with_reducible repeat (first | refine blk_drewN ?_ _ | refine blk_drew ?_ | refine blk_alloc ?_ _)); refine blk_far ?_ NB197_207.out _; (with_reducible repeat (first | refine blk_drewN ?_ _ | refine blk_drew ?_ | refine blk_alloc ?_ _)); refine blk_far ?_ NB197_207.out _; (with_reducible repeat (first | refine blk_drewN ?_ _ | refine blk_drew ?_ | refine blk_alloc ?_ _)); exact BK197.out) Try.underlying24 rfl (by kernel_rfl)) rfl ?_
              exact ⟨_, _, by first | rfl | (simp [errW_none, errW_some] <;> rfl) | (simp [*, errW_none, errW_some] <;> rfl), Kd.pR (Kd.R_mono (Kd.R_far (p := ⟨gb197, 3, none⟩) (Kd.R_far (p := ⟨gb197, 2, none⟩) (Kd.R_far (p := ⟨gb197, 1, none⟩) (Kd.R_far (p := ⟨gb197, 0, none⟩) (Kd.R_far (p := ⟨gb207, 2, none⟩) (Kd.R_far (p := ⟨gb207, 3, none⟩) (Kd.R_types (Kd.R_types HO_208000.out BK207.out (by decide)) BK197.out (by decide)) (fun _ hk => hk.1.2) (.int .i64 a1)) (fun _ hk => hk.1.2) (.int .i64 a1)) (fun _ hk => hk.2) (.slice Ao98 x208000_6.length co98)) (fun _ hk => hk.2) (.slice (some ⟨go90, 0, none⟩) x208001_6.length co90)) (fun _ hk => hk.2) (.int .i64 a1)) (fun _ hk => hk.2) (.int .i64 a1)) (fun _ hk => hk.1.1.2)), Kd.pR (Kd.R_mono (Kd.R_far (p := ⟨gb197, 3, none⟩) (Kd.R_far (p := ⟨gb197, 2, none⟩) (Kd.R_far (p := ⟨gb197, 1, none⟩) (Kd.R_far (p := ⟨gb197, 0, none⟩) (Kd.R_far (p := ⟨gb207, 2, none⟩) (Kd.R_far (p := ⟨gb207, 3, none⟩) (Kd.R_types (Kd.R_types HO_208001.out BK207.out (by decide)) BK197.out (by decide)) (fun _ hk => hk.1.2) (.int .i64 a1)) (fun _ hk => hk.1.2) (.int .i64 a1)) (fun _ hk => hk.2) (.slice Ao98 x208000_6.length co98)) (fun _ hk => hk.2) (.slice (some ⟨go90, 0, none⟩) x208001_6.length co90)) (fun _ hk => hk.2) (.int .i64 a1)) (fun _ hk => hk.2) (.int .i64 a1)) (fun _ hk => hk.1.1)), pB HB.out⟩
            · rw [if_neg c91] at H
              have c91b0 : (x208002_6 == (-1)) = false := beq_eq_false_iff_ne.mpr c91
              have c91b1 : (x208002_6 != (-1)) = true := bne_iff_ne.mpr c91
              by_cases c101 : 0 ≤ x208002_6
              · rw [if_pos c101] at H
                have c101b0 : decide (0 ≤ x208002_6) = true := decide_eq_true c101
                clear c101
                by_cases c102 : x208002_6 < (x208000_6.length : Int)
                · rw [if_pos c102] at H
                  have c102b0 : decide (x208002_6 < (x208000_6.length : Int)) = true := decide_eq_true c102
                  clear c102
                  obtain ⟨y223, hy223⟩ : ∃ y_ : List Int, y_ = (x208000_6.set (x208002_6 : Int).toNat a1) := ⟨_, rfl⟩
                  replace H : (some (y223, y222, a1, x208003_6, 0)) = some (r1, r2, r3, r4, r5) := by first | (rw [hy223]; with_reducible exact H) | (have H2_ := (Option.bind_some _ _).symm.trans H; rw [hy223]; with_reducible exact H2_) | (have H2_ := (Option.bind_some _ _).symm.trans H; with_reducible exact H2_) | with_reducible exact H | (rw [hy223]; exact H) | exact H
                  have Ny223 := Aside0.mk hy223
                  (try clear hy223)
                  simp only [Option.some.injEq, Prod.mk.injEq] at H
                  obtain ⟨rfl, rfl, rfl, rfl, rfl⟩ := H
                  have hnb104 := NB207_196.out
                  have hnc104 := NB196_207.out
                  have hnb105 := NB207_197.out
                  have hnc105 := NB197_207.out
                  obtain ⟨hcz106_0, hcz106_1, hcz106_2, hcz106_3, hfz106_0, hfz106_1, hfz106_2, hfz106_3⟩ := bk4 BK207.out
                  have p90 : 0 ≤ (a1 : Int) := od
                  have q90 : (a1 : Int) < ((x208001_6.length : Int) : Int) := od
                  obtain ⟨go90, co90, eo90, gb90, gl90, cl90, HG90⟩ := Kd.R_form HO_208001.out (by omega)
                  (first | cases eo90 | (injection eo90 with ea_ en_ ec_; (first | subst ea_ | (injection ea_ with ea_; subst ea_)); subst ec_; clear en_))
                  have GB90 := Aside0.mk gb90
                  have GG90 := Aside0.mk HG90
                  clear gb90 gl90 HG90
                  obtain ⟨hx90_0, hf90_0⟩ := Kd.R_celln 0 HO_208001.out (a1 : Int) p90 q90
                  replace p90 := eq_true p90
                  replace q90 := eq_true q90
                  have HP107 := Kd.R_putg HO_208001.out (a1 : Int) x208002_6
                  go_wp2_with (first | ((with_reducible refine gate_store (t := 3) (p := 27) rfl ?_); refine store_event (t := 3) (p := 27) (v := ?vo_w108) (w1 := (wc.setCell ⟨go90, (a1 : Int).toNat, none⟩ (.int .i64 x208002_6))) ?hg ?ho ?hn ?hr ?_; (case ho => rfl); (case hg => rfl); (case hn => rfl); (case hr => first | (go_simp; done) | (go_simp; rfl)); intro w108 hw; have hg : wc.grownBy w108 (some go90) := (by rw [hw]; exact HP107.2); have hp_ : Kd.R (Kd.int .i64) 3 w108 w.heap.size (fun k_ => some k_ ≠ (u208000 : Value).ownBlock) (.slice (some ⟨go90, 0, none⟩) x208001_6.length co90) y222 := (by rw [hw, Ny222.out]; exact HP107.1); (try clear HP107); have n0_ := Aside0.mk (Kd.R_after (v := (.slice (some ⟨go90, 0, none⟩) x208001_6.length co90)) (v1 := (.slice (some ⟨go90, 0, none⟩) x208001_6.length co90)) (ok := (fun _ => True)) (Kd.pR (Kd.R_mono HO_208000.out (fun _ hk => ⟨trivial, hk⟩))) hg (.inl rfl)); have n1_ := Aside0.mk (hp_); have n3_ := Aside0.mk (blk_grown (pK BK197.out) hg (Kd.R_ne HO_208001.out BK197.out (by decide))); have n4_ := Aside0.mk (blk_grown (pK BK207.out) hg (Kd.R_ne HO_208001.out BK207.out (by decide))); have n5_ := Aside0.mk ((by rw [hw]; exact below_set (HB.out) GB90.out : Below w.heap.size w w108)); clear HO_208000; clear HO_208001; (try clear BK196); clear BK197; clear BK207; clear HB; have HO_208000 := n0_; have HO_208001 := n1_; have BK197 := n3_; have BK207 := n4_; have HB := n5_; clear n0_ n1_ n3_ n4_ n5_; clear hg hw hp_; obtain ⟨hcz109_0, hcz109_1, hcz109_2, hcz109_3, hfz109_0, hfz109_1, hfz109_2, hfz109_3⟩ := bk4 BK207.out; have p103 : 0 ≤ (x208002_6 : Int) := od; have q103 : (x208002_6 : Int) < ((x208000_6.length : Int) : Int) := od; obtain ⟨go103, co103, eo103, gb103, gl103, cl103, HG103⟩ := Kd.R_form HO_208000.out (by omega); (first | cases eo103 | (injection eo103 with ea_ en_ ec_; (first | subst ea_ | (injection ea_ with ea_; subst ea_)); subst ec_; clear en_)); have GB103 := Aside0.mk gb103; have GG103 := Aside0.mk HG103; clear gb103 gl103 HG103; obtain ⟨hx103_0, hf103_0⟩ := Kd.R_celln 0 HO_208000.out (x208002_6 : Int) p103 q103; replace p103 := eq_true p103; replace q103 := eq_true q103; have n_ := Aside0.mk (Kd.R_mono (ok' := (fun k_ => some k_ ≠ (.slice (some ⟨go90, 0, none⟩) x208001_6.length co90 : Value).ownBlock)) HO_208000.out (fun k_ hk => hk.2)); clear HO_208000; have HO_208000 := n_; (try clear n_); obtain ⟨hy110_, hz110_⟩ := Kd.R_celln 0 HO_208000.out (x208002_6 : Int) od od; have HP110 := Kd.R_putg HO_208000.out (x208002_6 : Int) a1) | ((with_reducible refine gate_store (t := 3) (p := 38) rfl ?_); refine store_event (t := 3) (p := 38) (v := ?vo_w111) (w1 := (w108.setCell ⟨go103, (x208002_6 : Int).toNat, none⟩ (.int .i64 a1))) ?hg ?ho ?hn ?hr ?_; (case ho => rfl); (case hg => rfl); (case hn => rfl); (case hr => first | (go_simp; done) | (go_simp; rfl)); intro w111 hw; have hg : w108.grownBy w111 (some go103) := (by rw [hw]; exact HP110.2); have hp_ : Kd.R (Kd.int .i64) 3 w111 w.heap.size (fun k_ => some k_ ≠ (.slice (some ⟨go90, 0, none⟩) x208001_6.length co90 : Value).ownBlock) (.slice (some ⟨go103, 0, none⟩) x208000_6.length co103) y223 := (by rw [hw, Ny223.out]; exact HP110.1); (try clear HP110); have n0_ := Aside0.mk (hp_); have n1_ := Aside0.mk (Kd.R_after (v := (.slice (some ⟨go103, 0, none⟩) x208000_6.length co103)) (v1 := (.slice (some ⟨go103, 0, none⟩) x208000_6.length co103)) (ok := (fun _ => True)) (Kd.pR (Kd.R_mono HO_208001.out (fun _ hk => ⟨trivial, hk⟩))) hg (.inl rfl)); have n3_ := Aside0.mk (blk_grown (pK BK197.out) hg (Kd.R_ne HO_208000.out BK197.out (by decide))); have n4_ := Aside0.mk (blk_grown (pK BK207.out) hg (Kd.R_ne HO_208000.out BK207.out (by decide))); have n5_ := Aside0.mk ((by rw [hw]; exact below_set (HB.out) GB103.out : Below w.heap.size w w111)); clear HO_208000; clear HO_208001; (try clear BK196); clear BK197; clear BK207; clear HB; have HO_208000 := n0_; have HO_208001 := n1_; have BK197 := n3_; have BK207 := n4_; have HB := n5_; clear n0_ n1_ n3_ n4_ n5_; clear hg hw hp_; obtain ⟨hcz112_0, hcz112_1, hcz112_2, hcz112_3, hfz112_0, hfz112_1, hfz112_2, hfz112_3⟩ := bk4 BK207.out; have hnb113 := NB197_196.out; have hnc113 := NB196_197.out; obtain ⟨hcz114_0, hcz114_1, hcz114_2, hcz114_3, hfz114_0, hfz114_1, hfz114_2, hfz114_3⟩ := bk4 BK197.out))
                  refine bodyPost_ret (results_ct rfl _ _ gb197 24 #[.slice (some ⟨go103, 0, none⟩) x208000_6.length co103, .slice (some ⟨go90, 0, none⟩) x208001_6.length co90, .int .i64 a1, .int .i64 x208003_6] (0, 0) _ rfl (by (with_reducible repeat (first | refine blk_drewN ?_ _ | refine blk_drew ?_ | refine blk_alloc ?_ _)); refine blk_put (cs := #[.slice (some ⟨go103, 0, none⟩) x208000_6.length co103, .slice (some ⟨go90, 0, none⟩) x208001_6.length co90, .int .i64 a1, .int .i64 x198003_6]) ?_ 3 _ rfl; (with_reducible repeat (first | refine blk_drewN ?_ _ | refine blk_drew ?_ | refine blk_alloc ?_ _)); refine blk_put (cs := #[.slice (some ⟨go103, 0, none⟩) x208000_6.length co103, .slice (some ⟨go90, 0, none⟩) x208001_6.length co90, .int .i64 x198002_6, .int .i64 x198003_6]) ?_ 2 _ rfl; (with_reducible repeat (first | refine blk_drewN ?_ _ | refine blk_drew ?_ | refine blk_alloc ?_ _)); refine blk_put (cs := #[.slice (some ⟨go103, 0, none⟩) x208000_6.length co103, .slice none 0 0, .int .i64 x198002_6, .int .i64 x198003_6]) ?_ 1 _ rfl; (with_reducible repeat (first | refine blk_drewN ?_ _ | refine blk_drew ?_ | refine blk_alloc ?_ _)); refine blk_put (cs := #[.slice none 0 0, .slice none 0 0, .int .i64 x198002_6, .int .i64 x198003_6]) ?_ 0 _ rfl; (with_reducible repeat (first | refine blk_drewN ?_ _ | refine blk_drew ?_ | refine blk_alloc ?_ _)); refine blk_far ?_ NB197_207.out _; (with_reducible repeat (first | refine blk_drewN ?_ _ | refine blk_drew ?_ | refine blk_alloc ?_ _)); exact BK197.out) Try.underlying24 rfl (by kernel_rfl)) rfl ?_
                  exact ⟨_, _, by first | rfl | (simp [errW_none, errW_some] <;> rfl) | (simp [*, errW_none, errW_some] <;> rfl), Kd.pR (Kd.R_mono (Kd.R_far (p := ⟨gb197, 3, none⟩) (Kd.R_far (p := ⟨gb197, 2, none⟩) (Kd.R_far (p := ⟨gb197, 1, none⟩) (Kd.R_far (p := ⟨gb197, 0, none⟩) (Kd.R_far (p := ⟨gb207, 2, none⟩) (Kd.R_types (Kd.R_types HO_208000.out BK207.out (by decide)) BK197.out (by decide)) (fun _ hk => hk.1.2) (.int .i64 a1)) (fun _ hk => hk.2) (.slice (some ⟨go103, 0, none⟩) x208000_6.length co103)) (fun _ hk => hk.2) (.slice (some ⟨go90, 0, none⟩) x208001_6.length co90)) (fun _ hk => hk.2) (.int .i64 a1)) (fun _ hk => hk.2) (.int .i64 x208003_6)) (fun _ hk => hk.1.1)), Kd.pR (Kd.R_mono (Kd.R_far (p := ⟨gb197, 3, none⟩) (Kd.R_far (p := ⟨gb197, 2, none⟩) (Kd.R_far (p := ⟨gb197, 1, none⟩) (Kd.R_far (p := ⟨gb197, 0, none⟩) (Kd.R_far (p := ⟨gb207, 2, none⟩) (Kd.R_types (Kd.R_types HO_208001.out BK207.out (by decide)) BK197.out (by decide)) (fun _ hk => hk.1.2) (.int .i64 a1)) (fun _ hk => hk.2) (.slice (some ⟨go103, 0, none⟩) x208000_6.length co103)) (fun _ hk => hk.2) (.slice (some ⟨go90, 0, none⟩) x208001_6.length co90)) (fun _ hk => hk.2) (.int .i64 a1)) (fun _ hk => hk.2) (.int .i64 x208003_6)) (fun _ hk => hk.1.1.2)), pB HB.out⟩
                · rw [if_neg c102] at H
                  exact absurd H (by simp)
              · rw [if_neg c101] at H
                exact absurd H (by simp)
          · rw [if_neg c89] at H
            exact absurd H (by simp)
        · rw [if_neg c88] at H
          exact absurd H (by simp)
  · rw [if_neg c4] at H
    have c4b0 : (t198 == 0) = false := beq_eq_false_iff_ne.mpr c4
    have c4b1 : (t198 != 0) = true := bne_iff_ne.mpr c4
    simp only [Option.some.injEq, Prod.mk.injEq] at H
    obtain ⟨rfl, rfl, rfl, rfl, rfl⟩ := H
    go_enter Try.func12, Try.ntmps12
    go_wp2_with (first | ((with_reducible refine gate_dst (N := 2) rfl ?_); refine boxE (N := 2) (cs := #[.slice A0_0 l0_0.length c0_0, .slice A0_1 l0_1.length c0_1, .int .i64 a0_2, .int .i64 a0_3]) (t := 24) ?_; intro gb196 hg w115 hbox hb; have n0_ := Aside0.mk (below_step (pB HB.out) hb); have n1_ := Aside0.mk (hbox); have n3_ := Aside0.mk (pL HB.out hg); clear HB; have HB := n0_; have BK196 := n1_; have GE196 := n3_; clear n0_ n1_ n3_; clear hb hbox hg) | ((with_reducible refine gate_dst (N := 4) rfl ?_); refine boxE (N := 4) (cs := #[.slice none 0 0, .slice none 0 0, .int .i64 0, .int .i64 0]) (t := 24) ?_; intro gb197 hg w116 hbox hb; have n0_ := Aside0.mk (blk_below (pK BK196.out) hb); have n1_ := Aside0.mk (below_step (pB HB.out) hb); have n2_ := Aside0.mk (hbox); have n4_ := Aside0.mk (pL HB.out hg); have n5_ := Aside0.mk (pNl BK196.out hg); have n6_ := Aside0.mk (pNg BK196.out hg); clear BK196; clear HB; have BK196 := n0_; have HB := n1_; have BK197 := n2_; have GE197 := n4_; have NB196_197 := n5_; have NB197_196 := n6_; clear n0_ n1_ n2_ n4_ n5_ n6_; clear hb hbox hg; have hnb117 := NB196_197.out; have hnc117 := NB197_196.out; obtain ⟨hcz118_0, hcz118_1, hcz118_2, hcz118_3, hfz118_0, hfz118_1, hfz118_2, hfz118_3⟩ := bk4 BK196.out) | ((with_reducible refine gate_callee (f := 31) rfl ?_); refine goesE (some 10) rfl rfl Try.func31 (by kernel_rfl) rfl #[.agg #[.slice A0_0 l0_0.length c0_0, .slice A0_1 l0_1.length c0_1, .int .i64 a0_2, .int .i64 a0_3], .int .i64 a1] rfl ?_; (with_reducible refine (lru_check.calls k _ _ l0_0 _ _ l0_1 a0_2 a0_3 a1 t198 _ ?side1 ?side2 ?side3 ?side4 A3.out).mono ?_); (case side1 => exact Kd.pC ((Kd.C_below HR0_0.out HB.out))); (case side2 => exact HC0_0.out); (case side3 => exact Kd.pC ((Kd.C_below HR0_1.out HB.out))); (case side4 => exact HC0_1.out); rintro e w119 ⟨rfl, hb⟩; refine ⟨_, rfl, ?_⟩; have n1_ := Aside0.mk (blk_below (pK BK197.out) hb); have n2_ := Aside0.mk (below_step (pB HB.out) hb); (try clear BK196); clear BK197; clear HB; have BK197 := n1_; have HB := n2_; clear n1_ n2_; (try clear hb); (try clear hb2); (try clear hk); (try clear hi); obtain ⟨hcz120_0, hcz120_1, hcz120_2, hcz120_3, hfz120_0, hfz120_1, hfz120_2, hfz120_3⟩ := bk4 BK197.out))
    refine bodyPost_ret (results_ct rfl _ _ gb197 24 #[.slice none 0 0, .slice none 0 0, .int .i64 0, .int .i64 0] (0, 0) _ rfl (by (with_reducible repeat (first | refine blk_drewN ?_ _ | refine blk_drew ?_ | refine blk_alloc ?_ _)); refine blk_put (cs := #[.slice none 0 0, .slice none 0 0, .int .i64 0, .int .i64 0]) ?_ 3 _ rfl; (with_reducible repeat (first | refine blk_drewN ?_ _ | refine blk_drew ?_ | refine blk_alloc ?_ _)); refine blk_put (cs := #[.slice none 0 0, .slice none 0 0, .int .i64 0, .int .i64 0]) ?_ 2 _ rfl; (with_reducible repeat (first | refine blk_drewN ?_ _ | refine blk_drew ?_ | refine blk_alloc ?_ _)); refine blk_put (cs := #[.slice none 0 0, .slice none 0 0, .int .i64 0, .int .i64 0]) ?_ 1 _ rfl; (with_reducible repeat (first | refine blk_drewN ?_ _ | refine blk_drew ?_ | refine blk_alloc ?_ _)); refine blk_put (cs := #[.slice none 0 0, .slice none 0 0, .int .i64 0, .int .i64 0]) ?_ 0 _ rfl; (with_reducible repeat (first | refine blk_drewN ?_ _ | refine blk_drew ?_ | refine blk_alloc ?_ _)); exact BK197.out) Try.underlying24 rfl (by kernel_rfl)) rfl ?_
    exact ⟨_, _, by first | rfl | (simp [errW_none, errW_some] <;> rfl) | (simp [*, errW_none, errW_some] <;> rfl), by first | exact Kd.R_nil _ _ _ _ _ | exact Kd.N_nil _ _ _ _ _ | exact Kd.V_nil _ _ _ _ _ | exact Kd.Q_nil _ _ _ _ _ | exact Kd.S_nil _ _ _ _ _, by first | exact Kd.R_nil _ _ _ _ _ | exact Kd.N_nil _ _ _ _ _ | exact Kd.V_nil _ _ _ _ _ | exact Kd.Q_nil _ _ _ _ _ | exact Kd.S_nil _ _ _ _ _, pB HB.out⟩

end Go.Proofs.Ytiimflniadggaaa.PLru
