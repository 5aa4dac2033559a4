-- printed by a program of this session (a turned copy of the kit's print); Lean checks it
import Derived.Test.YtiimflniadggaaaLruShort
import Derived.Test.YtiimflniadggaaaPLrux0
import Derived.Test.YtiimflniadggaaaPLrux4
import Derived.Test.YtiimflniadggaaaPLrux11
import Derived.Test.YtiimflniadggaaaPLrux12
import Derived.Test.YtiimflniadggaaaPLrux13
import Derived.Test.YtiimflniadggaaaPLrux15
import Derived.Test.YtiimflniadggaaaPLrux20
import Derived.Test.YtiimflniadggaaaPLrux21
import Derived.Test.YtiimflniadggaaaPLrux23
namespace Go.Proofs.Ytiimflniadggaaa.PLru
open Go.RowKit Go.Proofs.YtiimflniadggaaaW.PrintWords Go.Proofs.YtiimflniadggaaaW.PrintLast Go.Proofs.YtiimflniadggaaaW.PrintMore
attribute [local go_sem] max2_int min2_int max_two min_two max_three min_three max_four min_four   -- for this text's walks alone
set_option linter.unusedVariables false
set_option linter.unusedSimpArgs false

/-! ### spigotlaw15_LruUses: function 5 -/
mutual
def spigotlaw15_LruUses.l0 : Nat → Int → List Int → Bool → Int → List Int → List Int → Int → Int → Option (Bool)
 | 0, _, _, _, _, _, _, _, _ => none
 | k + 1, x0, x1, x5, x9, x668000, x668001, x668002, x668003 => if x9 < (x1.length : Int) then (if 0 ≤ x9 then ((lru_Touch.f k x668000 x668001 x668002 x668003 (rd x1 x9)).bind fun bt669 => (if (rd x1 x9) < 0 then (if bt669.2.2.2.2 = 2 then (spigotlaw15_LruUses.l0 k x0 x1 x5 (wrap64 (x9 + 1)) x668000 x668001 x668002 x668003) else (some false)) else (if (rd x1 x9) ≥ x0 then (if bt669.2.2.2.2 = 2 then (spigotlaw15_LruUses.l0 k x0 x1 x5 (wrap64 (x9 + 1)) x668000 x668001 x668002 x668003) else (some false)) else (if bt669.2.2.2.2 = 0 then ((spigotref15_Check.f k bt669.1 bt669.2.1 bt669.2.2.1 bt669.2.2.2.1).bind fun a5 => (if a5 = 0 then (spigotlaw15_LruUses.l0 k x0 x1 x5 (wrap64 (x9 + 1)) bt669.1 bt669.2.1 bt669.2.2.1 bt669.2.2.2.1) else (some false))) else (some false))))) else (none)) else (spigotlaw15_LruUses.l1 k x0 x1 x5 ([] : List Int) (wrap64 ((x1.length : Int) - 1)) x668000 x668001 x668002 x668003)
def spigotlaw15_LruUses.l1 : Nat → Int → List Int → Bool → List Int → Int → List Int → List Int → Int → Int → Option (Bool)
 | 0, _, _, _, _, _, _, _, _, _ => none
 | k + 1, x0, x1, x5, x8, x12, x668000, x668001, x668002, x668003 => if x12 ≥ 0 then (if 0 ≤ x12 then (if x12 < (x1.length : Int) then (if (rd x1 x12) ≥ 0 then (if (rd x1 x12) < x0 then ((spigotref13_In.f k x8 (rd x1 x12)).bind fun bl => (if bl = true then (spigotlaw15_LruUses.l1 k x0 x1 x5 x8 (wrap64 (x12 - 1)) x668000 x668001 x668002 x668003) else (if x8.length < 17592186044416 then (spigotlaw15_LruUses.l1 k x0 x1 x5 (x8 ++ [rd x1 x12]) (wrap64 (x12 - 1)) x668000 x668001 x668002 x668003) else (none)))) else (spigotlaw15_LruUses.l1 k x0 x1 x5 x8 (wrap64 (x12 - 1)) x668000 x668001 x668002 x668003)) else (spigotlaw15_LruUses.l1 k x0 x1 x5 x8 (wrap64 (x12 - 1)) x668000 x668001 x668002 x668003)) else (none)) else (none)) else ((lru_List.f k x668000 x668001 x668002 x668003).bind fun bt690 => ((lru_Last.f k x668000 x668001 x668002 x668003).bind fun bt694 => (if x5 = true then (if bt690.2 = 0 then ((spigotref15_SameInts.f k bt690.1 x8).bind fun a7 => (if a7 = true then (if ((bt694.2 == 0) == (decide ((x8.length : Int) > 0))) = true then (if bt694.2 = 0 then (if 0 ≤ (wrap64 ((x8.length : Int) - 1)) then (if (wrap64 ((x8.length : Int) - 1)) < (x8.length : Int) then (some (bt694.1 == (rd x8 (wrap64 ((x8.length : Int) - 1))))) else (none)) else (none)) else (some true)) else (some false)) else (some false))) else (some false)) else (some false))))
end
def spigotlaw15_LruUses.f (k : Nat) (a0 : Int) (l1 : List Int) : Option (Bool) := (spigotlaw15_alive.f k).bind fun a8 => (if a8 = true then ((lru_New.f k a0).bind fun bt658 => (if bt658.2.2.2.2 = 0 then (if (l1.length : Int) > 60 then (if a0 < 1 then (some ((bt658.2.2.2.2 != 0) == true)) else (some ((bt658.2.2.2.2 != 0) == (decide (a0 > 16))))) else (if a0 < 1 then (some ((bt658.2.2.2.2 != 0) == true)) else (if a0 > 16 then (some ((bt658.2.2.2.2 != 0) == (decide (a0 > 16)))) else (spigotlaw15_LruUses.l0 k a0 l1 a8 0 bt658.1 bt658.2.1 bt658.2.2.1 bt658.2.2.2.1)))) else (if a0 < 1 then (some ((bt658.2.2.2.2 != 0) == true)) else (some ((bt658.2.2.2.2 != 0) == (decide (a0 > 16))))))) else (none))
theorem spigotlaw15_LruUses.mono_l : ∀ k, (∀ y0 y1 y2 y3 y4 y5 y6 y7, LeO (spigotlaw15_LruUses.l0 k y0 y1 y2 y3 y4 y5 y6 y7) (spigotlaw15_LruUses.l0 (k + 1) y0 y1 y2 y3 y4 y5 y6 y7)) ∧ (∀ y0 y1 y2 y3 y4 y5 y6 y7 y8, LeO (spigotlaw15_LruUses.l1 k y0 y1 y2 y3 y4 y5 y6 y7 y8) (spigotlaw15_LruUses.l1 (k + 1) y0 y1 y2 y3 y4 y5 y6 y7 y8))
 | 0 => ⟨fun _ _ _ _ _ _ _ _ r h => by simp [spigotlaw15_LruUses.l0] at h, fun _ _ _ _ _ _ _ _ _ r h => by simp [spigotlaw15_LruUses.l1] at h⟩
 | k + 1 => by
  obtain ⟨ih0, ih1⟩ := spigotlaw15_LruUses.mono_l k
  refine ⟨?_, ?_⟩
  ·intro y0 y1 y2 y3 y4 y5 y6 y7
   unfold spigotlaw15_LruUses.l0
   repeat' first
   | (with_reducible exact ih0 _ _ _ _ _ _ _ _)
   | (with_reducible exact ih1 _ _ _ _ _ _ _ _ _)
   | (with_reducible exact lru_Last.mono _ _ _ _ _)
   | (with_reducible exact lru_List.mono _ _ _ _ _)
   | (with_reducible exact lru_New.mono _ _)
   | (with_reducible exact lru_Touch.mono _ _ _ _ _ _)
   | (with_reducible exact spigotlaw15_alive.mono _)
   | (with_reducible exact spigotref13_In.mono _ _ _)
   | (with_reducible exact spigotref15_Check.mono _ _ _ _ _)
   | (with_reducible exact spigotref15_SameInts.mono _ _ _)
   | (with_reducible exact LeO.refl _)
   | (with_reducible exact LeO.none _)
   | (with_reducible refine LeO.ite ?_ ?_)
   | (with_reducible refine LeO.bind ?_ (fun _ => ?_))
   | exact ih0 _ _ _ _ _ _ _ _
   | exact ih1 _ _ _ _ _ _ _ _ _
   | exact lru_Last.mono _ _ _ _ _
   | exact lru_List.mono _ _ _ _ _
   | exact lru_New.mono _ _
   | exact lru_Touch.mono _ _ _ _ _ _
   | exact spigotlaw15_alive.mono _
   | exact spigotref13_In.mono _ _ _
   | exact spigotref15_Check.mono _ _ _ _ _
   | exact spigotref15_SameInts.mono _ _ _
   | exact LeO.none _
   | refine LeO.ite ?_ ?_
   | refine LeO.bind ?_ (fun _ => ?_)
  ·intro y0 y1 y2 y3 y4 y5 y6 y7 y8
   unfold spigotlaw15_LruUses.l1
   repeat' first
   | (with_reducible exact ih0 _ _ _ _ _ _ _ _)
   | (with_reducible exact ih1 _ _ _ _ _ _ _ _ _)
   | (with_reducible exact lru_Last.mono _ _ _ _ _)
   | (with_reducible exact lru_List.mono _ _ _ _ _)
   | (with_reducible exact lru_New.mono _ _)
   | (with_reducible exact lru_Touch.mono _ _ _ _ _ _)
   | (with_reducible exact spigotlaw15_alive.mono _)
   | (with_reducible exact spigotref13_In.mono _ _ _)
   | (with_reducible exact spigotref15_Check.mono _ _ _ _ _)
   | (with_reducible exact spigotref15_SameInts.mono _ _ _)
   | (with_reducible exact LeO.refl _)
   | (with_reducible exact LeO.none _)
   | (with_reducible refine LeO.ite ?_ ?_)
   | (with_reducible refine LeO.bind ?_ (fun _ => ?_))
   | exact ih0 _ _ _ _ _ _ _ _
   | exact ih1 _ _ _ _ _ _ _ _ _
   | exact lru_Last.mono _ _ _ _ _
   | exact lru_List.mono _ _ _ _ _
   | exact lru_New.mono _ _
   | exact lru_Touch.mono _ _ _ _ _ _
   | exact spigotlaw15_alive.mono _
   | exact spigotref13_In.mono _ _ _
   | exact spigotref15_Check.mono _ _ _ _ _
   | exact spigotref15_SameInts.mono _ _ _
   | exact LeO.none _
   | refine LeO.ite ?_ ?_
   | refine LeO.bind ?_ (fun _ => ?_)
theorem spigotlaw15_LruUses.mono : ∀ a0 a1 k, LeO (spigotlaw15_LruUses.f k a0 a1) (spigotlaw15_LruUses.f (k + 1) a0 a1) := by
 intro a0 a1 k
 obtain ⟨ih0, ih1⟩ := spigotlaw15_LruUses.mono_l k
 unfold spigotlaw15_LruUses.f
 repeat' first
   | (with_reducible exact ih0 _ _ _ _ _ _ _ _)
   | (with_reducible exact ih1 _ _ _ _ _ _ _ _ _)
   | (with_reducible exact lru_Last.mono _ _ _ _ _)
   | (with_reducible exact lru_List.mono _ _ _ _ _)
   | (with_reducible exact lru_New.mono _ _)
   | (with_reducible exact lru_Touch.mono _ _ _ _ _ _)
   | (with_reducible exact spigotlaw15_alive.mono _)
   | (with_reducible exact spigotref13_In.mono _ _ _)
   | (with_reducible exact spigotref15_Check.mono _ _ _ _ _)
   | (with_reducible exact spigotref15_SameInts.mono _ _ _)
   | (with_reducible exact LeO.refl _)
   | (with_reducible exact LeO.none _)
   | (with_reducible refine LeO.ite ?_ ?_)
   | (with_reducible refine LeO.bind ?_ (fun _ => ?_))
   | exact ih0 _ _ _ _ _ _ _ _
   | exact ih1 _ _ _ _ _ _ _ _ _
   | exact lru_Last.mono _ _ _ _ _
   | exact lru_List.mono _ _ _ _ _
   | exact lru_New.mono _ _
   | exact lru_Touch.mono _ _ _ _ _ _
   | exact spigotlaw15_alive.mono _
   | exact spigotref13_In.mono _ _ _
   | exact spigotref15_Check.mono _ _ _ _ _
   | exact spigotref15_SameInts.mono _ _ _
   | exact LeO.none _
   | refine LeO.ite ?_ ?_
   | refine LeO.bind ?_ (fun _ => ?_)
def spigotlaw15_LruUses.T9 : Bool × List (List Nat × List Nat) := (true, [([], []), ([], []), ([], []), ([1, 2], [1, 2]), ([3], [3]), ([0, 4], [0, 4]), ([5], [5]), ([6], [6]), ([6], [6]), ([], []), ([9, 7, 5, 0, 1, 2, 3, 4, 5, 6, 7, 9], [7, 9]), ([8, 10, 0, 1, 2, 3, 4, 5, 6, 7, 8, 9, 10], [8])])
def spigotlaw15_LruUses.B9 : List Nat := [0, 0, 0, 6, 14, 31, 63, 127, 127, 0, 767, 2047]
theorem spigotlaw15_LruUses.tab9 : rtab .any (opsOf Try.f5 9) = spigotlaw15_LruUses.T9 := by kernel_rfl
theorem spigotlaw15_LruUses.bits9 : waitsOk spigotlaw15_LruUses.T9.2 spigotlaw15_LruUses.B9 = true := by kernel_rfl
set_option maxHeartbeats 8000000 in
set_option maxRecDepth 100000 in
theorem spigotlaw15_LruUses.calls (k : Nat) (a0 : Int) (A1 : Option Addr) (c1 : Nat) (l1 : List Int) (w : World) (hr1 : Kd.C (Kd.int .i64) w A1 l1.length l1) (hc1 : l1.length ≤ c1) (h : spigotlaw15_LruUses.f k a0 l1 = some true) :
  Calls Try.prog 5 #[.int .i64 a0, .slice A1 l1.length c1] w fun e w' => e = .returned (.bool true) ∧ Below w.heap.size w w' := by
 have hu24 := Try.underlying24
 have HR1 := Aside0.mk hr1
 have HC1 := Aside0.mk hc1
 clear hr1 hc1
 have HB := Aside0.mk (Below.refl w.heap.size w)
 have H : ((spigotlaw15_alive.f k).bind fun a8 => (if a8 = true then ((lru_New.f k a0).bind fun bt658 => (if bt658.2.2.2.2 = 0 then (if (l1.length : Int) > 60 then (if a0 < 1 then (some ((bt658.2.2.2.2 != 0) == true)) else (some ((bt658.2.2.2.2 != 0) == (decide (a0 > 16))))) else (if a0 < 1 then (some ((bt658.2.2.2.2 != 0) == true)) else (if a0 > 16 then (some ((bt658.2.2.2.2 != 0) == (decide (a0 > 16)))) else (spigotlaw15_LruUses.l0 k a0 l1 a8 0 bt658.1 bt658.2.1 bt658.2.2.1 bt658.2.2.2.1)))) else (if a0 < 1 then (some ((bt658.2.2.2.2 != 0) == true)) else (some ((bt658.2.2.2.2 != 0) == (decide (a0 > 16))))))) else (none))) = some true := h
 clear h
 replace H := Option.bind_eq_some_iff.mp H
 obtain ⟨a8, A30, H⟩ := H
 replace H : (if a8 = true then ((lru_New.f k a0).bind fun bt658 => (if bt658.2.2.2.2 = 0 then (if (l1.length : Int) > 60 then (if a0 < 1 then (some ((bt658.2.2.2.2 != 0) == true)) else (some ((bt658.2.2.2.2 != 0) == (decide (a0 > 16))))) else (if a0 < 1 then (some ((bt658.2.2.2.2 != 0) == true)) else (if a0 > 16 then (some ((bt658.2.2.2.2 != 0) == (decide (a0 > 16)))) else (spigotlaw15_LruUses.l0 k a0 l1 a8 0 bt658.1 bt658.2.1 bt658.2.2.1 bt658.2.2.2.1)))) else (if a0 < 1 then (some ((bt658.2.2.2.2 != 0) == true)) else (some ((bt658.2.2.2.2 != 0) == (decide (a0 > 16))))))) else (none)) = some true := H
 have A3 := Aside0.mk A30
 (try clear A30)
 by_cases c4 : a8 = true
 ·subst c4
  have H1 : ((lru_New.f k a0).bind fun bt658 => (if bt658.2.2.2.2 = 0 then (if (l1.length : Int) > 60 then (if a0 < 1 then (some ((bt658.2.2.2.2 != 0) == true)) else (some ((bt658.2.2.2.2 != 0) == (decide (a0 > 16))))) else (if a0 < 1 then (some ((bt658.2.2.2.2 != 0) == true)) else (if a0 > 16 then (some ((bt658.2.2.2.2 != 0) == (decide (a0 > 16)))) else (spigotlaw15_LruUses.l0 k a0 l1 true 0 bt658.1 bt658.2.1 bt658.2.2.1 bt658.2.2.2.1)))) else (if a0 < 1 then (some ((bt658.2.2.2.2 != 0) == true)) else (some ((bt658.2.2.2.2 != 0) == (decide (a0 > 16))))))) = some true := by rw [if_pos rfl] at H; exact H
  clear H
  have H := H1
  clear H1
  replace H := Option.bind_eq_some_iff.mp H
  obtain ⟨⟨aZ, aY, a3, a4, aA⟩, A50, H⟩ := H
  replace H : (if aA = 0 then (if (l1.length : Int) > 60 then (if a0 < 1 then (some ((aA != 0) == true)) else (some ((aA != 0) == (decide (a0 > 16))))) else (if a0 < 1 then (some ((aA != 0) == true)) else (if a0 > 16 then (some ((aA != 0) == (decide (a0 > 16)))) else (spigotlaw15_LruUses.l0 k a0 l1 true 0 aZ aY a3 a4)))) else (if a0 < 1 then (some ((aA != 0) == true)) else (some ((aA != 0) == (decide (a0 > 16)))))) = some true := H
  have A5 := Aside0.mk A50
  (try clear A50)
  by_cases c6 : aA = 0
  ·rw [if_pos c6] at H
   have c6b0 : (aA == 0) = true := beq_iff_eq.mpr c6
   have c6b1 : (aA != 0) = false := bne_eq_false_iff_eq.mpr c6
   clear c6
   by_cases c7 : (l1.length : Int) > 60
   ·rw [if_pos c7] at H
    have c7b0 : decide (60 < (l1.length : Int)) = true := decide_eq_true c7
    have c7b1 : decide (60 < l1.length) = true := decide_eq_true (by omega)
    clear c7
    by_cases c8 : a0 < 1
    ·rw [if_pos c8] at H
     have c8b0 : decide (a0 < 1) = true := decide_eq_true c8
     clear c8
     have HRT := Aside0.mk (Option.some.inj H)
     clear H
     go_enter Try.func5, Try.ntmps5
     go_wp2_with (first | ((with_reducible refine gate_callee (f := 24) rfl ?_); refine goesE (some 17) rfl rfl Try.func24 (by kernel_rfl) rfl #[] rfl ?_; (with_reducible refine (spigotlaw15_alive.calls k   _ A3.out).mono ?_); rintro e w9 ⟨rfl, hb⟩; refine ⟨_, rfl, ?_⟩; have n0_ := Aside0.mk (below_step (pB HB.out) hb); clear HB; have HB := n0_; clear n0_; (try clear hb); (try clear hb2); (try clear hk); (try clear hi)) | ((with_reducible refine gate_callee (f := 10) rfl ?_); refine goesE (some 20) rfl rfl Try.func10 (by kernel_rfl) rfl #[.int .i64 a0] rfl ?_; (with_reducible refine (lru_New.calls k a0 aZ aY a3 a4 aA _ A5.out).mono ?_); rintro e w10 ⟨v659, bb, rfl, ho0, ho1, hb⟩; refine ⟨_, rfl, ?_⟩; have n0_ := Aside0.mk (Kd.R_lower ho0 (below_size (pB HB.out))); have n1_ := Aside0.mk (Kd.R_lower ho1 (below_size (pB HB.out))); have n2_ := Aside0.mk (below_step (pB HB.out) hb); clear HB; have ah := n0_; have ai := n1_; have HB := n2_; clear n0_ n1_ n2_; (try clear hb); (try clear hb2); (try clear hk); (try clear hi); (try clear ho0); (try clear ho1)) | ((with_reducible refine gate_dst (N := 6) rfl ?_); (try (refine gate_guard (by rfl) ?_; dsimp only)); refine boxE (N := 6) (cs := #[.slice none 0 0, .slice none 0 0, .int .i64 0, .int .i64 0]) (t := 24) ?_; intro ap hg w11 hbox hb; have n0_ := Rb1 ah hb; have n1_ := Rb1 ai hb; have n2_ := Aside0.mk (below_step (pB HB.out) hb); have n3_ := Aside0.mk (hbox); have n5_ := Aside0.mk (pL HB.out hg); clear ah; clear ai; clear HB; have ah := n0_; have ai := n1_; have HB := n2_; have aa := n3_; have a9 := n5_; clear n0_ n1_ n2_ n3_ n5_; clear hb hbox hg; obtain ⟨Ao12, et, c9⟩ := Kd.R_slice ah.out; subst c9; obtain ⟨d9, bB, bC, bD, bE, bF, bG, bH⟩ := bk4 aa.out; obtain ⟨Ao14, eu, da⟩ := Kd.R_slice ai.out; subst da))
     go_ret
     exact ⟨by first | rfl | (simp [errW_none, errW_some] <;> rfl) | (simp [*, errW_none, errW_some] <;> rfl) | (rw [HRT.out] <;> rfl) | (simp [HRT.out]; done) | (have h_ := HRT.out; simp [*] at h_ ⊢ <;> first | done | assumption | omega) | (have h_ := HRT.out; simp [*] at h_; done), pB HB.out⟩
    ·rw [if_neg c8] at H
     have c8b0 : decide (a0 < 1) = false := decide_eq_false c8
     clear c8
     have HRT := Aside0.mk (Option.some.inj H)
     clear H
     go_enter Try.func5, Try.ntmps5
     go_wp2_with (first | ((with_reducible refine gate_callee (f := 24) rfl ?_); refine goesE (some 17) rfl rfl Try.func24 (by kernel_rfl) rfl #[] rfl ?_; (with_reducible refine (spigotlaw15_alive.calls k   _ A3.out).mono ?_); rintro e w15 ⟨rfl, hb⟩; refine ⟨_, rfl, ?_⟩; have n0_ := Aside0.mk (below_step (pB HB.out) hb); clear HB; have HB := n0_; clear n0_; (try clear hb); (try clear hb2); (try clear hk); (try clear hi)) | ((with_reducible refine gate_callee (f := 10) rfl ?_); refine goesE (some 20) rfl rfl Try.func10 (by kernel_rfl) rfl #[.int .i64 a0] rfl ?_; (with_reducible refine (lru_New.calls k a0 aZ aY a3 a4 aA _ A5.out).mono ?_); rintro e w16 ⟨v659, bb, rfl, ho0, ho1, hb⟩; refine ⟨_, rfl, ?_⟩; have n0_ := Aside0.mk (Kd.R_lower ho0 (below_size (pB HB.out))); have n1_ := Aside0.mk (Kd.R_lower ho1 (below_size (pB HB.out))); have n2_ := Aside0.mk (below_step (pB HB.out) hb); clear HB; have ah := n0_; have ai := n1_; have HB := n2_; clear n0_ n1_ n2_; (try clear hb); (try clear hb2); (try clear hk); (try clear hi); (try clear ho0); (try clear ho1)) | ((with_reducible refine gate_dst (N := 6) rfl ?_); (try (refine gate_guard (by rfl) ?_; dsimp only)); refine boxE (N := 6) (cs := #[.slice none 0 0, .slice none 0 0, .int .i64 0, .int .i64 0]) (t := 24) ?_; intro ap hg w17 hbox hb; have n0_ := Rb1 ah hb; have n1_ := Rb1 ai hb; have n2_ := Aside0.mk (below_step (pB HB.out) hb); have n3_ := Aside0.mk (hbox); have n5_ := Aside0.mk (pL HB.out hg); clear ah; clear ai; clear HB; have ah := n0_; have ai := n1_; have HB := n2_; have aa := n3_; have a9 := n5_; clear n0_ n1_ n2_ n3_ n5_; clear hb hbox hg; obtain ⟨Ao18, ev, db⟩ := Kd.R_slice ah.out; subst db; obtain ⟨ea, bI, bJ, bK, bL, bM, bN, bO⟩ := bk4 aa.out; obtain ⟨Ao20, ew, dc⟩ := Kd.R_slice ai.out; subst dc))
     go_ret
     exact ⟨by first | rfl | (simp [errW_none, errW_some] <;> rfl) | (simp [*, errW_none, errW_some] <;> rfl) | (rw [HRT.out] <;> rfl) | (simp [HRT.out]; done) | (have h_ := HRT.out; simp [*] at h_ ⊢ <;> first | done | assumption | omega) | (have h_ := HRT.out; simp [*] at h_; done), pB HB.out⟩
   ·rw [if_neg c7] at H
    have c7b0 : decide (60 < (l1.length : Int)) = false := decide_eq_false c7
    have c7b1 : decide (60 < l1.length) = false := decide_eq_false (by omega)
    clear c7
    by_cases c21 : a0 < 1
    ·rw [if_pos c21] at H
     have c21b0 : decide (a0 < 1) = true := decide_eq_true c21
     clear c21
     have HRT := Aside0.mk (Option.some.inj H)
     clear H
     go_enter Try.func5, Try.ntmps5
     go_wp2_with (first | ((with_reducible refine gate_callee (f := 24) rfl ?_); refine goesE (some 17) rfl rfl Try.func24 (by kernel_rfl) rfl #[] rfl ?_; (with_reducible refine (spigotlaw15_alive.calls k   _ A3.out).mono ?_); rintro e w22 ⟨rfl, hb⟩; refine ⟨_, rfl, ?_⟩; have n0_ := Aside0.mk (below_step (pB HB.out) hb); clear HB; have HB := n0_; clear n0_; (try clear hb); (try clear hb2); (try clear hk); (try clear hi)) | ((with_reducible refine gate_callee (f := 10) rfl ?_); refine goesE (some 20) rfl rfl Try.func10 (by kernel_rfl) rfl #[.int .i64 a0] rfl ?_; (with_reducible refine (lru_New.calls k a0 aZ aY a3 a4 aA _ A5.out).mono ?_); rintro e w23 ⟨v659, bb, rfl, ho0, ho1, hb⟩; refine ⟨_, rfl, ?_⟩; have n0_ := Aside0.mk (Kd.R_lower ho0 (below_size (pB HB.out))); have n1_ := Aside0.mk (Kd.R_lower ho1 (below_size (pB HB.out))); have n2_ := Aside0.mk (below_step (pB HB.out) hb); clear HB; have ah := n0_; have ai := n1_; have HB := n2_; clear n0_ n1_ n2_; (try clear hb); (try clear hb2); (try clear hk); (try clear hi); (try clear ho0); (try clear ho1)) | ((with_reducible refine gate_dst (N := 6) rfl ?_); (try (refine gate_guard (by rfl) ?_; dsimp only)); refine boxE (N := 6) (cs := #[.slice none 0 0, .slice none 0 0, .int .i64 0, .int .i64 0]) (t := 24) ?_; intro ap hg w24 hbox hb; have n0_ := Rb1 ah hb; have n1_ := Rb1 ai hb; have n2_ := Aside0.mk (below_step (pB HB.out) hb); have n3_ := Aside0.mk (hbox); have n5_ := Aside0.mk (pL HB.out hg); clear ah; clear ai; clear HB; have ah := n0_; have ai := n1_; have HB := n2_; have aa := n3_; have a9 := n5_; clear n0_ n1_ n2_ n3_ n5_; clear hb hbox hg; obtain ⟨Ao25, ex, dd⟩ := Kd.R_slice ah.out; subst dd; obtain ⟨eb, bP, bQ, bR, bS, bT, bU, bV⟩ := bk4 aa.out; obtain ⟨Ao27, ey, de⟩ := Kd.R_slice ai.out; subst de))
     go_ret
     exact ⟨by first | rfl | (simp [errW_none, errW_some] <;> rfl) | (simp [*, errW_none, errW_some] <;> rfl) | (rw [HRT.out] <;> rfl) | (simp [HRT.out]; done) | (have h_ := HRT.out; simp [*] at h_ ⊢ <;> first | done | assumption | omega) | (have h_ := HRT.out; simp [*] at h_; done), pB HB.out⟩
    ·rw [if_neg c21] at H
     have c21b0 : decide (a0 < 1) = false := decide_eq_false c21
     clear c21
     by_cases c28 : a0 > 16
     ·rw [if_pos c28] at H
      have c28b0 : decide (16 < a0) = true := decide_eq_true c28
      clear c28
      have HRT := Aside0.mk (Option.some.inj H)
      clear H
      go_enter Try.func5, Try.ntmps5
      go_wp2_with (first | ((with_reducible refine gate_callee (f := 24) rfl ?_); refine goesE (some 17) rfl rfl Try.func24 (by kernel_rfl) rfl #[] rfl ?_; (with_reducible refine (spigotlaw15_alive.calls k   _ A3.out).mono ?_); rintro e w29 ⟨rfl, hb⟩; refine ⟨_, rfl, ?_⟩; have n0_ := Aside0.mk (below_step (pB HB.out) hb); clear HB; have HB := n0_; clear n0_; (try clear hb); (try clear hb2); (try clear hk); (try clear hi)) | ((with_reducible refine gate_callee (f := 10) rfl ?_); refine goesE (some 20) rfl rfl Try.func10 (by kernel_rfl) rfl #[.int .i64 a0] rfl ?_; (with_reducible refine (lru_New.calls k a0 aZ aY a3 a4 aA _ A5.out).mono ?_); rintro e w30 ⟨v659, bb, rfl, ho0, ho1, hb⟩; refine ⟨_, rfl, ?_⟩; have n0_ := Aside0.mk (Kd.R_lower ho0 (below_size (pB HB.out))); have n1_ := Aside0.mk (Kd.R_lower ho1 (below_size (pB HB.out))); have n2_ := Aside0.mk (below_step (pB HB.out) hb); clear HB; have ah := n0_; have ai := n1_; have HB := n2_; clear n0_ n1_ n2_; (try clear hb); (try clear hb2); (try clear hk); (try clear hi); (try clear ho0); (try clear ho1)) | ((with_reducible refine gate_dst (N := 6) rfl ?_); (try (refine gate_guard (by rfl) ?_; dsimp only)); refine boxE (N := 6) (cs := #[.slice none 0 0, .slice none 0 0, .int .i64 0, .int .i64 0]) (t := 24) ?_; intro ap hg w31 hbox hb; have n0_ := Rb1 ah hb; have n1_ := Rb1 ai hb; have n2_ := Aside0.mk (below_step (pB HB.out) hb); have n3_ := Aside0.mk (hbox); have n5_ := Aside0.mk (pL HB.out hg); clear ah; clear ai; clear HB; have ah := n0_; have ai := n1_; have HB := n2_; have aa := n3_; have a9 := n5_; clear n0_ n1_ n2_ n3_ n5_; clear hb hbox hg; obtain ⟨Ao32, ez, df⟩ := Kd.R_slice ah.out; subst df; obtain ⟨ec, bW, bX, bY, bZ, b0, b1, b2⟩ := bk4 aa.out; obtain ⟨Ao34, eA, dg⟩ := Kd.R_slice ai.out; subst dg))
      go_ret
      exact ⟨by first | rfl | (simp [errW_none, errW_some] <;> rfl) | (simp [*, errW_none, errW_some] <;> rfl) | (rw [HRT.out] <;> rfl) | (simp [HRT.out]; done) | (have h_ := HRT.out; simp [*] at h_ ⊢ <;> first | done | assumption | omega) | (have h_ := HRT.out; simp [*] at h_; done), pB HB.out⟩
     ·rw [if_neg c28] at H
      have c28b0 : decide (16 < a0) = false := decide_eq_false c28
      clear c28
      have H' := Aside0.mk H
      clear H
      go_enter Try.func5, Try.ntmps5
      go_wp2_with (first | ((with_reducible refine gate_callee (f := 24) rfl ?_); refine goesE (some 17) rfl rfl Try.func24 (by kernel_rfl) rfl #[] rfl ?_; (with_reducible refine (spigotlaw15_alive.calls k   _ A3.out).mono ?_); rintro e w35 ⟨rfl, hb⟩; refine ⟨_, rfl, ?_⟩; have n0_ := Aside0.mk (below_step (pB HB.out) hb); clear HB; have HB := n0_; clear n0_; (try clear hb); (try clear hb2); (try clear hk); (try clear hi)) | ((with_reducible refine gate_callee (f := 10) rfl ?_); refine goesE (some 20) rfl rfl Try.func10 (by kernel_rfl) rfl #[.int .i64 a0] rfl ?_; (with_reducible refine (lru_New.calls k a0 aZ aY a3 a4 aA _ A5.out).mono ?_); rintro e w36 ⟨v659, bb, rfl, ho0, ho1, hb⟩; refine ⟨_, rfl, ?_⟩; have n0_ := Aside0.mk (Kd.R_lower ho0 (below_size (pB HB.out))); have n1_ := Aside0.mk (Kd.R_lower ho1 (below_size (pB HB.out))); have n2_ := Aside0.mk (below_step (pB HB.out) hb); clear HB; have ah := n0_; have ai := n1_; have HB := n2_; clear n0_ n1_ n2_; (try clear hb); (try clear hb2); (try clear hk); (try clear hi); (try clear ho0); (try clear ho1)) | ((with_reducible refine gate_dst (N := 6) rfl ?_); (try (refine gate_guard (by rfl) ?_; dsimp only)); refine boxE (N := 6) (cs := #[.slice none 0 0, .slice none 0 0, .int .i64 0, .int .i64 0]) (t := 24) ?_; intro ap hg w37 hbox hb; have n0_ := Rb1 ah hb; have n1_ := Rb1 ai hb; have n2_ := Aside0.mk (below_step (pB HB.out) hb); have n3_ := Aside0.mk (hbox); have n5_ := Aside0.mk (pL HB.out hg); clear ah; clear ai; clear HB; have ah := n0_; have ai := n1_; have HB := n2_; have aa := n3_; have a9 := n5_; clear n0_ n1_ n2_ n3_ n5_; clear hb hbox hg; obtain ⟨bh, bc, dh⟩ := Kd.R_slice ah.out; subst dh; obtain ⟨ed, b3, b4, b5, b6, b7, b8, b9⟩ := bk4 aa.out; obtain ⟨bi, bg, di⟩ := Kd.R_slice ai.out; subst di))
      go_loopg [9] k (fun kq v9 w' => ∃ (x9_1 : Int) (x668000_1 : List Int) (x668001_1 : List Int) (x668002_1 : Int) (x668003_1 : Int) (u668000 : Value) (u668001 : Value), v9 = .int .i64 x9_1 ∧ Aside0 (spigotlaw15_LruUses.l0 kq a0 l1 true x9_1 x668000_1 x668001_1 x668002_1 x668003_1 = some true) ∧ Aside0 (kq ≤ k) ∧ Aside0 (Kd.R (Kd.int .i64) 3 w' w.heap.size (fun k_ => some k_ ≠ (u668001 : Value).ownBlock) u668000 x668000_1) ∧ Aside0 (Kd.R (Kd.int .i64) 3 w' w.heap.size (fun k_ => some k_ ≠ (u668000 : Value).ownBlock) u668001 x668001_1) ∧ Aside0 (w'.heap[ap]? = some (.cells #[u668000, u668001, .int .i64 x668002_1, .int .i64 x668003_1] 24 (0, 0))) ∧ Aside0 (Below w.heap.size w w'))
      case atStart => exact ⟨(0), (aZ), (aY), (a3), (a4), (.slice bh aZ.length bc), (.slice bi aY.length bg), (by first | rfl | (simp; done) | (simp [*]; done)), H', ⟨Nat.le_refl _⟩, ⟨Kd.pR (Kd.R_mono (Kd.R_far (p := ⟨ap, 3, none⟩) (Kd.R_far (p := ⟨ap, 2, none⟩) (Kd.R_far (p := ⟨ap, 1, none⟩) (Kd.R_far (p := ⟨ap, 0, none⟩) (Kd.R_types ah.out aa.out (by decide)) (fun _ hk => hk.2) (.slice bh aZ.length bc)) (fun _ hk => hk.2) (.slice bi aY.length bg)) (fun _ hk => hk.2) (.int .i64 a3)) (fun _ hk => hk.2) (.int .i64 a4)) (fun _ hk => hk.1))⟩, ⟨Kd.pR (Kd.R_mono (Kd.R_far (p := ⟨ap, 3, none⟩) (Kd.R_far (p := ⟨ap, 2, none⟩) (Kd.R_far (p := ⟨ap, 1, none⟩) (Kd.R_far (p := ⟨ap, 0, none⟩) (Kd.R_types ai.out aa.out (by decide)) (fun _ hk => hk.2) (.slice bh aZ.length bc)) (fun _ hk => hk.2) (.slice bi aY.length bg)) (fun _ hk => hk.2) (.int .i64 a3)) (fun _ hk => hk.2) (.int .i64 a4)) (fun _ hk => hk.1))⟩, ⟨by (with_reducible repeat (first | refine blk_drewN ?_ _ | refine blk_drew ?_ | refine blk_alloc ?_ _)); refine blk_put (cs := #[.slice bh aZ.length bc, .slice bi aY.length bg, .int .i64 a3, .int .i64 0]) ?_ 3 _ rfl; (with_reducible repeat (first | refine blk_drewN ?_ _ | refine blk_drew ?_ | refine blk_alloc ?_ _)); refine blk_put (cs := #[.slice bh aZ.length bc, .slice bi aY.length bg, .int .i64 0, .int .i64 0]) ?_ 2 _ rfl; (with_reducible repeat (first | refine blk_drewN ?_ _ | refine blk_drew ?_ | refine blk_alloc ?_ _)); refine blk_put (cs := #[.slice bh aZ.length bc, .slice none 0 0, .int .i64 0, .int .i64 0]) ?_ 1 _ rfl; (with_reducible repeat (first | refine blk_drewN ?_ _ | refine blk_drew ?_ | refine blk_alloc ?_ _)); refine blk_put (cs := #[.slice none 0 0, .slice none 0 0, .int .i64 0, .int .i64 0]) ?_ 0 _ rfl; (with_reducible repeat (first | refine blk_drewN ?_ _ | refine blk_drew ?_ | refine blk_alloc ?_ _)); exact aa.out⟩, ⟨pB HB.out⟩⟩
      case round =>
       clear H'
       try clear c1
       try clear c2
       try clear p2
       try clear c4
       try clear c5
       try clear c6
       try clear c6b0
       try clear c6b1
       try clear c7
       try clear c7b0
       try clear c7b1
       try clear c8
       try clear c8b0
       try clear c10
       try clear c21
       try clear c21b0
       try clear c24
       try clear c28
       try clear c28b0
       try clear d9
       try clear bB
       try clear bC
       try clear bD
       try clear ea
       try clear bI
       try clear bJ
       try clear bK
       try clear eb
       try clear bP
       try clear bQ
       try clear bR
       try clear ec
       try clear bW
       try clear bX
       try clear bY
       try clear ed
       try clear b3
       try clear b4
       try clear b5
       try clear bE
       try clear bF
       try clear bG
       try clear bH
       try clear bL
       try clear bM
       try clear bN
       try clear bO
       try clear bS
       try clear bT
       try clear bU
       try clear bV
       try clear bZ
       try clear b0
       try clear b1
       try clear b2
       try clear b6
       try clear b7
       try clear b8
       try clear b9
       obtain ⟨x9_1, x668000_1, x668001_1, x668002_1, x668003_1, u668000, u668001, rfl, HA, HK1, HO_668000, HO_668001, aa, HB⟩ := hrel
       cases gk with
       | zero => exact absurd HA.out (by simp [spigotlaw15_LruUses.l0])
       | succ k1 =>
        have H := HA.out
        clear HA
        simp only [spigotlaw15_LruUses.l0] at H
        by_cases c41 : x9_1 < (l1.length : Int)
        ·rw [if_pos c41] at H
         have c41b0 : decide (x9_1 < (l1.length : Int)) = true := decide_eq_true c41
         clear c41
         by_cases c42 : 0 ≤ x9_1
         ·rw [if_pos c42] at H
          have c42b0 : decide (0 ≤ x9_1) = true := decide_eq_true c42
          clear c42
          replace H := Option.bind_eq_some_iff.mp H
          obtain ⟨⟨aj, ak, an, ao, aq⟩, cw, H⟩ := H
          replace H : (if (rd l1 x9_1) < 0 then (if aq = 2 then (spigotlaw15_LruUses.l0 k1 a0 l1 true (wrap64 (x9_1 + 1)) x668000_1 x668001_1 x668002_1 x668003_1) else (some false)) else (if (rd l1 x9_1) ≥ a0 then (if aq = 2 then (spigotlaw15_LruUses.l0 k1 a0 l1 true (wrap64 (x9_1 + 1)) x668000_1 x668001_1 x668002_1 x668003_1) else (some false)) else (if aq = 0 then ((spigotref15_Check.f k1 aj ak an ao).bind fun a5 => (if a5 = 0 then (spigotlaw15_LruUses.l0 k1 a0 l1 true (wrap64 (x9_1 + 1)) aj ak an ao) else (some false))) else (some false)))) = some true := H
          have A43 := Aside0.mk cw
          (try clear cw)
          by_cases c44 : (rd l1 x9_1) < 0
          ·rw [if_pos c44] at H
           have c44b0 : decide ((rd l1 x9_1) < 0) = true := decide_eq_true c44
           clear c44
           by_cases c45 : aq = 2
           ·rw [if_pos c45] at H
            have c45b0 : (aq == 2) = true := beq_iff_eq.mpr c45
            have c45b1 : (aq != 2) = false := bne_eq_false_iff_eq.mpr c45
            clear c45
            have H' := Aside0.mk H
            clear H
            obtain ⟨aU, aM, dj⟩ := Kd.R_slice HO_668000.out
            subst dj
            obtain ⟨aV, aN, dk⟩ := Kd.R_slice HO_668001.out
            subst dk
            try go_wp2
            have n0_ := Aside0.mk (Kd.R_drew HO_668000.out)
            have n1_ := Aside0.mk (Kd.R_drew HO_668001.out)
            have n2_ := Aside0.mk (blk_drew aa.out)
            have n3_ := Aside0.mk (below_drew1 HB.out)
            clear HO_668000
            clear HO_668001
            clear aa
            clear HB
            have HO_668000 := n0_
            have HO_668001 := n1_
            have aa := n2_
            have HB := n3_
            clear n0_ n1_ n2_ n3_
            have p668 : 0 ≤ (x9_1 : Int) := od
            have q668 : x9_1 < (l1.length : Int) := od
            obtain ⟨ad668, e668, ar⟩ := Kd.at_int HR1.out x9_1 p668 q668
            have hw668_0 := ar
            cases e668
            replace ar := (HB.out.cell (World.block_lt_of_cell? w _ ar)).trans ar
            replace p668 := eq_true p668
            replace q668 := eq_true q668
            refine start_ (n := 12) (S := fun w' => w'.cell? ⟨ap, 0, none⟩ = some (.slice aU x668000_1.length aM) ∧ w'.cell? ⟨ap, 1, none⟩ = some (.slice aV x668001_1.length aN) ∧ w'.cell? ⟨ap, 2, none⟩ = some (.int .i64 x668002_1) ∧ w'.cell? ⟨ap, 3, none⟩ = some (.int .i64 x668003_1) ∧ w'.cell? (ad668.add (x9_1).toNat) = some (.int .i64 (rd l1 x9_1))) (ds := []) #[false, false, false, false, false, false, false, false, false, false, false, false] (by kernel_rfl) rfl rfl ⟨(blk_cell aa.out 0).trans rfl, (blk_cell aa.out 1).trans rfl, (blk_cell aa.out 2).trans rfl, (blk_cell aa.out 3).trans rfl, ((HB.out.cell (World.block_lt_of_cell? w _ hw668_0)).trans hw668_0)⟩ (fun hHeld => ?_); refine with_tabW spigotlaw15_LruUses.tab9 spigotlaw15_LruUses.bits9 (fun HT_ HW_ => ?_)
            generalize wr.drew = w48 at HO_668000 HO_668001 aa HB ar hHeld ⊢
            refine pure_ (i := 1) (N := some 62) (v := ?_) (a' := ?_) #[false, true, false, false, false, false, false, false, false, false, false, false] rfl rfl (any_of HT_.out (by kernel_rfl)) (fun _ _ _ h => h) (Or.inl ⟨by rfl, ?_⟩) ?_ ?_
            rotate_left
            ·intro w'
             go_simp
             with_reducible rfl
            rotate_left
            ·simp only [Act.put, List.setIfInBounds_toArray, List.set_cons_zero, List.set_cons_succ, i64_w, i32_w]
             rfl
            refine pure_ (i := 2) (N := some 63) (v := ?_) (a' := ?_) #[false, true, true, false, false, false, false, false, false, false, false, false] rfl rfl (any_of HT_.out (by kernel_rfl)) (fun _ _ _ h => h) (Or.inl ⟨by rfl, ?_⟩) ?_ ?_
            rotate_left
            ·intro w'
             go_simp
             with_reducible rfl
            rotate_left
            ·simp only [Act.put, List.setIfInBounds_toArray, List.set_cons_zero, List.set_cons_succ, i64_w, i32_w]
             rfl
            refine pure_ (i := 3) (N := some 64) (v := ?_) (a' := ?_) #[false, true, true, true, false, false, false, false, false, false, false, false] rfl rfl (any_of HT_.out (by kernel_rfl)) (fun _ _ _ h => h) (Or.inl ⟨by rfl, ?_⟩) ?_ ?_
            rotate_left
            ·intro w'
             go_simp
             with_reducible rfl
            rotate_left
            ·simp only [Act.put, List.setIfInBounds_toArray, List.set_cons_zero, List.set_cons_succ, i64_w, i32_w]
             rfl
            refine take_ (i := 0) (N := some 61) (v := ?_) (a' := ?_) #[true, true, true, true, false, false, false, false, false, false, false, false] rfl rfl (take_ofW HT_.out HW_.out (by kernel_rfl)) (fun _ _ _ h => h) (Or.inl ⟨by rfl, ?_⟩) hHeld ?_ ?_
            rotate_left
            ·rintro w' ⟨s0, s1, s2, s3, s4⟩
             go_simp
             with_reducible rfl
            rotate_left
            ·simp only [Act.put, List.setIfInBounds_toArray, List.set_cons_zero, List.set_cons_succ, i64_w, i32_w]
             rfl
            refine take_ (i := 4) (N := some 65) (v := ?_) (a' := ?_) #[true, true, true, true, true, false, false, false, false, false, false, false] rfl rfl (take_ofW HT_.out HW_.out (by kernel_rfl)) (fun _ _ _ h => h) (Or.inl ⟨by rfl, ?_⟩) hHeld ?_ ?_
            rotate_left
            ·rintro w' ⟨s0, s1, s2, s3, s4⟩
             go_simp
             with_reducible rfl
            rotate_left
            ·simp only [Act.put, List.setIfInBounds_toArray, List.set_cons_zero, List.set_cons_succ, i64_w, i32_w]
             rfl
            refine join_ (σ := Value × Value × Nat) 2 #[true, true, true, true, true, true, true, true, true, true, false, false] (fun s_ => [(66, .tuple #[.agg #[s_.1, s_.2.1, .int .i64 an, .int .i64 ao], .int .i64 aq]), (10, .pointer (some ⟨s_.2.2, 0, none⟩)), (60, .tuple #[.agg #[s_.1, s_.2.1, .int .i64 an, .int .i64 ao], .int .i64 aq]), (67, .agg #[s_.1, s_.2.1, .int .i64 an, .int .i64 ao]), (68, .int .i64 aq)]) (fun s_ w' => (w'.cell? ⟨ap, 0, none⟩ = some (.slice aU x668000_1.length aM) ∧ w'.cell? ⟨ap, 1, none⟩ = some (.slice aV x668001_1.length aN) ∧ w'.cell? ⟨ap, 2, none⟩ = some (.int .i64 x668002_1) ∧ w'.cell? ⟨ap, 3, none⟩ = some (.int .i64 x668003_1) ∧ w'.cell? (ad668.add (x9_1).toNat) = some (.int .i64 (rd l1 x9_1))) ∧ (Kd.R (Kd.int .i64) 3 w' w.heap.size (fun k_ => some k_ ≠ (s_.2.1 : Value).ownBlock ∧ some k_ ≠ (.slice aU x668000_1.length aM : Value).ownBlock ∧ some k_ ≠ (.slice aV x668001_1.length aN : Value).ownBlock) s_.1 aj) ∧ (Kd.R (Kd.int .i64) 3 w' w.heap.size (fun k_ => some k_ ≠ (s_.1 : Value).ownBlock ∧ some k_ ≠ (.slice aU x668000_1.length aM : Value).ownBlock ∧ some k_ ≠ (.slice aV x668001_1.length aN : Value).ownBlock) s_.2.1 ak) ∧ (Kd.R (Kd.int .i64) 3 w' w.heap.size (fun k_ => some k_ ≠ (s_.1 : Value).ownBlock ∧ some k_ ≠ (s_.2.1 : Value).ownBlock ∧ some k_ ≠ (.slice aV x668001_1.length aN : Value).ownBlock) (.slice aU x668000_1.length aM) x668000_1) ∧ (Kd.R (Kd.int .i64) 3 w' w.heap.size (fun k_ => some k_ ≠ (s_.1 : Value).ownBlock ∧ some k_ ≠ (s_.2.1 : Value).ownBlock ∧ some k_ ≠ (.slice aU x668000_1.length aM : Value).ownBlock) (.slice aV x668001_1.length aN) x668001_1) ∧ (w'.heap[ap]? = some (.cells #[.slice aU x668000_1.length aM, .slice aV x668001_1.length aN, .int .i64 x668002_1, .int .i64 x668003_1] 24 (0, 0))) ∧ (w'.heap[s_.2.2]? = some (.cells #[.slice none 0 0, .slice none 0 0, .int .i64 0, .int .i64 0] 24 (0, 0))) ∧ (w.heap.size ≤ s_.2.2) ∧ (w.heap.size ≤ s_.2.2) ∧ (ap ≠ s_.2.2) ∧ (s_.2.2 ≠ ap) ∧ (Below w.heap.size w w')) ?_ ?_
            rotate_left
            ·intro hCont
             refine two_ (i := 5) (j := 9) (Ni := some 66) (Nj := some 10) #[true, true, true, true, true, true, false, false, false, false, false, false] #[true, true, true, true, true, false, false, false, false, true, false, false] rfl rfl rfl rfl (two_of HT_.out (by kernel_rfl)) (by decide) (by decide) (fun K hK => ?_) (fun K hK => ?_)
             ·skip
              refine goes_ Try.func12 (by kernel_rfl) rfl #[.agg #[.slice aU x668000_1.length aM, .slice aV x668001_1.length aN, .int .i64 x668002_1, .int .i64 x668003_1], .int .i64 (rd l1 x9_1)] (by rfl) rfl rfl (by (try simp only [List.map_toArray, List.map_cons, List.map_nil]); first | done | rfl | (simp only [List.length_drop, List.length_take]; rfl)) ?_
              with_reducible refine (lru_Touch.calls k1 _ _ x668000_1 _ _ x668001_1 x668002_1 x668003_1 (rd l1 x9_1) aj ak an ao aq _ ?side1 ?side2 ?side3 ?side4 A43.out).mono ?_
              (case side1 => exact Kd.pC ((Kd.R_reads' HO_668000.out).2.2))
              (case side2 => exact (Kd.R_reads' HO_668000.out).2.1)
              (case side3 => exact Kd.pC ((Kd.R_reads' HO_668001.out).2.2))
              (case side4 => exact (Kd.R_reads' HO_668001.out).2.1)
              rintro e w49 ⟨aJ, av, rfl, ho0, ho1, hb⟩
              refine ⟨_, rfl, ?_⟩
              have n0_ := Aside0.mk (Kd.R_mono (Kd.R_told (Kd.R_told (Kd.R_old (Kd.pR HO_668000.out) hb) (Kd.R_base ho0)) (Kd.R_base ho1)) (fun _ h_ => h_.1))
              have n1_ := Aside0.mk (Kd.R_mono (Kd.R_told (Kd.R_told (Kd.R_old (Kd.pR HO_668001.out) hb) (Kd.R_base ho0)) (Kd.R_base ho1)) (fun _ h_ => h_.1))
              have n2_ := Aside0.mk (Kd.R_lower (Kd.R_new' (Kd.R_new' ho0 (Kd.R_lt (Kd.pR HO_668000.out))) (Kd.R_lt (Kd.pR HO_668001.out))) (below_size (pB HB.out)))
              have n3_ := Aside0.mk (Kd.R_lower (Kd.R_new' (Kd.R_new' ho1 (Kd.R_lt (Kd.pR HO_668000.out))) (Kd.R_lt (Kd.pR HO_668001.out))) (below_size (pB HB.out)))
              have n4_ := Aside0.mk (blk_below (pK aa.out) hb)
              have n5_ := Aside0.mk (below_step (pB HB.out) hb)
              clear HO_668000
              clear HO_668001
              clear aa
              clear HB
              have HO_668000 := n0_
              have HO_668001 := n1_
              have al := n2_
              have am := n3_
              have aa := n4_
              have HB := n5_
              clear n0_ n1_ n2_ n3_ n4_ n5_
              (try clear hb)
              (try clear hb2)
              (try clear hk)
              (try clear hi)
              (try clear ho0)
              (try clear ho1)
              refine hK.out _ _ ⟨(blk_cell aa.out 0).trans rfl, (blk_cell aa.out 1).trans rfl, (blk_cell aa.out 2).trans rfl, (blk_cell aa.out 3).trans rfl, ((HB.out.cell (World.block_lt_of_cell? w _ hw668_0)).trans hw668_0)⟩ (fun hHeld => ?_)
              clear hK K
              refine norm_ (a' := ?_) ?_ ?_
              rotate_left
              ·show Act.put _ (some 66) _ = _
               simp only [Act.put, List.setIfInBounds_toArray, List.set_cons_zero, List.set_cons_succ, i64_w, i32_w]
               rfl
              refine pure_ (i := 6) (N := some 60) (v := ?_) (a' := ?_) #[true, true, true, true, true, true, true, false, false, false, false, false] rfl rfl (any_of HT_.out (by kernel_rfl)) (fun _ _ _ h => h) (Or.inl ⟨by rfl, ?_⟩) ?_ ?_
              rotate_left
              ·intro w'
               go_simp
               with_reducible rfl
              rotate_left
              ·simp only [Act.put, List.setIfInBounds_toArray, List.set_cons_zero, List.set_cons_succ, i64_w, i32_w]
               rfl
              refine pure_ (i := 7) (N := some 67) (v := ?_) (a' := ?_) #[true, true, true, true, true, true, true, true, false, false, false, false] rfl rfl (any_of HT_.out (by kernel_rfl)) (fun _ _ _ h => h) (Or.inl ⟨by rfl, ?_⟩) ?_ ?_
              rotate_left
              ·intro w'
               go_simp
               with_reducible rfl
              rotate_left
              ·simp only [Act.put, List.setIfInBounds_toArray, List.set_cons_zero, List.set_cons_succ, i64_w, i32_w]
               rfl
              refine pure_ (i := 8) (N := some 68) (v := ?_) (a' := ?_) #[true, true, true, true, true, true, true, true, true, false, false, false] rfl rfl (any_of HT_.out (by kernel_rfl)) (fun _ _ _ h => h) (Or.inl ⟨by rfl, ?_⟩) ?_ ?_
              rotate_left
              ·intro w'
               go_simp
               with_reducible rfl
              rotate_left
              ·simp only [Act.put, List.setIfInBounds_toArray, List.set_cons_zero, List.set_cons_succ, i64_w, i32_w]
               rfl
              refine one_ (i := 9) (N := some 10) #[true, true, true, true, true, true, true, true, true, true, false, false] rfl rfl (one_of HT_.out (by kernel_rfl)) (by decide) (fun K hK => ?_)
              refine box_step ?hg (N := 10) ?hd (cs := #[.slice none 0 0, .slice none 0 0, .int .i64 0, .int .i64 0]) (t := 24) ?hr ?_; (case hd => rfl); (case hg => rfl); (case hr => first | (go_simp; done) | (go_simp; rfl))
              intro ae hg w50 hbox hb
              have n0_ := Rb1 HO_668000 hb
              have n1_ := Rb1 HO_668001 hb
              have n2_ := Rb1 al hb
              have n3_ := Rb1 am hb
              have n4_ := Aside0.mk (blk_below (pK aa.out) hb)
              have n5_ := Aside0.mk (below_step (pB HB.out) hb)
              have n6_ := Aside0.mk (hbox)
              have n7_ := Aside0.mk (pL HB.out hg)
              have n8_ := Aside0.mk (pL HB.out hg)
              have n9_ := Aside0.mk (pNl aa.out hg)
              have n10_ := Aside0.mk (pNg aa.out hg)
              clear HO_668000
              clear HO_668001
              clear al
              clear am
              clear aa
              clear HB
              have HO_668000 := n0_
              have HO_668001 := n1_
              have al := n2_
              have am := n3_
              have aa := n4_
              have HB := n5_
              have ad := n6_
              have GW678 := n7_
              have aI := n8_
              have ab := n9_
              have af := n10_
              clear n0_ n1_ n2_ n3_ n4_ n5_ n6_ n7_ n8_ n9_ n10_
              clear hb hbox hg
              refine hK.out _ _ ⟨(blk_cell aa.out 0).trans rfl, (blk_cell aa.out 1).trans rfl, (blk_cell aa.out 2).trans rfl, (blk_cell aa.out 3).trans rfl, ((HB.out.cell (World.block_lt_of_cell? w _ hw668_0)).trans hw668_0)⟩ (fun hHeld => ?_)
              clear hK K
              refine norm_ (a' := ?_) ?_ ?_
              rotate_left
              ·show Act.put _ (some 10) _ = _
               simp only [Act.put, List.setIfInBounds_toArray, List.set_cons_zero, List.set_cons_succ, i64_w, i32_w]
               rfl
              exact norm_ (by simp only [putAll, Act.put, List.setIfInBounds_toArray, List.set_cons_zero, List.set_cons_succ]) (hCont (aJ, av, ae) _ ⟨hHeld, (Kd.pR (Kd.R_mono al.out (fun _ hk => ⟨hk.1.1, ⟨hk.1.2, hk.2⟩⟩))), (Kd.pR (Kd.R_mono am.out (fun _ hk => ⟨hk.1.1, ⟨hk.1.2, hk.2⟩⟩))), (Kd.pR (Kd.R_mono HO_668000.out (fun _ hk => ⟨hk.1.2, ⟨hk.2, hk.1.1⟩⟩))), (Kd.pR (Kd.R_mono HO_668001.out (fun _ hk => ⟨hk.1.2, ⟨hk.2, hk.1.1⟩⟩))), (pK aa.out), (pK ad.out), GW678.out, aI.out, ab.out, af.out, (pB HB.out)⟩)
             ·skip
              refine box_step ?hg (N := 10) ?hd (cs := #[.slice none 0 0, .slice none 0 0, .int .i64 0, .int .i64 0]) (t := 24) ?hr ?_; (case hd => rfl); (case hg => rfl); (case hr => first | (go_simp; done) | (go_simp; rfl))
              intro ae hg w49 hbox hb
              have n0_ := Rb1 HO_668000 hb
              have n1_ := Rb1 HO_668001 hb
              have n2_ := Aside0.mk (blk_below (pK aa.out) hb)
              have n3_ := Aside0.mk (below_step (pB HB.out) hb)
              have n4_ := Aside0.mk (hbox)
              have n5_ := Aside0.mk (pL HB.out hg)
              have n6_ := Aside0.mk (pL HB.out hg)
              have n7_ := Aside0.mk (pNl aa.out hg)
              have n8_ := Aside0.mk (pNg aa.out hg)
              clear HO_668000
              clear HO_668001
              clear aa
              clear HB
              have HO_668000 := n0_
              have HO_668001 := n1_
              have aa := n2_
              have HB := n3_
              have ad := n4_
              have GW678 := n5_
              have aI := n6_
              have ab := n7_
              have af := n8_
              clear n0_ n1_ n2_ n3_ n4_ n5_ n6_ n7_ n8_
              clear hb hbox hg
              refine hK.out _ _ ⟨(blk_cell aa.out 0).trans rfl, (blk_cell aa.out 1).trans rfl, (blk_cell aa.out 2).trans rfl, (blk_cell aa.out 3).trans rfl, ((HB.out.cell (World.block_lt_of_cell? w _ hw668_0)).trans hw668_0)⟩ (fun hHeld => ?_)
              clear hK K
              refine norm_ (a' := ?_) ?_ ?_
              rotate_left
              ·show Act.put _ (some 10) _ = _
               simp only [Act.put, List.setIfInBounds_toArray, List.set_cons_zero, List.set_cons_succ, i64_w, i32_w]
               rfl
              refine one_ (i := 5) (N := some 66) #[true, true, true, true, true, true, false, false, false, true, false, false] rfl rfl (one_of HT_.out (by kernel_rfl)) (by decide) (fun K hK => ?_)
              refine goes_ Try.func12 (by kernel_rfl) rfl #[.agg #[.slice aU x668000_1.length aM, .slice aV x668001_1.length aN, .int .i64 x668002_1, .int .i64 x668003_1], .int .i64 (rd l1 x9_1)] (by rfl) rfl rfl (by (try simp only [List.map_toArray, List.map_cons, List.map_nil]); first | done | rfl | (simp only [List.length_drop, List.length_take]; rfl)) ?_
              with_reducible refine (lru_Touch.calls k1 _ _ x668000_1 _ _ x668001_1 x668002_1 x668003_1 (rd l1 x9_1) aj ak an ao aq _ ?side1 ?side2 ?side3 ?side4 A43.out).mono ?_
              (case side1 => exact Kd.pC ((Kd.R_reads' HO_668000.out).2.2))
              (case side2 => exact (Kd.R_reads' HO_668000.out).2.1)
              (case side3 => exact Kd.pC ((Kd.R_reads' HO_668001.out).2.2))
              (case side4 => exact (Kd.R_reads' HO_668001.out).2.1)
              rintro e w50 ⟨aJ, av, rfl, ho0, ho1, hb⟩
              refine ⟨_, rfl, ?_⟩
              have n0_ := Aside0.mk (Kd.R_mono (Kd.R_told (Kd.R_told (Kd.R_old (Kd.pR HO_668000.out) hb) (Kd.R_base ho0)) (Kd.R_base ho1)) (fun _ h_ => h_.1))
              have n1_ := Aside0.mk (Kd.R_mono (Kd.R_told (Kd.R_told (Kd.R_old (Kd.pR HO_668001.out) hb) (Kd.R_base ho0)) (Kd.R_base ho1)) (fun _ h_ => h_.1))
              have n2_ := Aside0.mk (Kd.R_lower (Kd.R_new' (Kd.R_new' ho0 (Kd.R_lt (Kd.pR HO_668000.out))) (Kd.R_lt (Kd.pR HO_668001.out))) (below_size (pB HB.out)))
              have n3_ := Aside0.mk (Kd.R_lower (Kd.R_new' (Kd.R_new' ho1 (Kd.R_lt (Kd.pR HO_668000.out))) (Kd.R_lt (Kd.pR HO_668001.out))) (below_size (pB HB.out)))
              have n4_ := Aside0.mk (blk_below (pK aa.out) hb)
              have n5_ := Aside0.mk (blk_below (pK ad.out) hb)
              have n6_ := Aside0.mk (below_step (pB HB.out) hb)
              clear HO_668000
              clear HO_668001
              clear aa
              clear ad
              clear HB
              have HO_668000 := n0_
              have HO_668001 := n1_
              have al := n2_
              have am := n3_
              have aa := n4_
              have ad := n5_
              have HB := n6_
              clear n0_ n1_ n2_ n3_ n4_ n5_ n6_
              (try clear hb)
              (try clear hb2)
              (try clear hk)
              (try clear hi)
              (try clear ho0)
              (try clear ho1)
              refine hK.out _ _ ⟨(blk_cell aa.out 0).trans rfl, (blk_cell aa.out 1).trans rfl, (blk_cell aa.out 2).trans rfl, (blk_cell aa.out 3).trans rfl, ((HB.out.cell (World.block_lt_of_cell? w _ hw668_0)).trans hw668_0)⟩ (fun hHeld => ?_)
              clear hK K
              refine norm_ (a' := ?_) ?_ ?_
              rotate_left
              ·show Act.put _ (some 66) _ = _
               simp only [Act.put, List.setIfInBounds_toArray, List.set_cons_zero, List.set_cons_succ, i64_w, i32_w]
               rfl
              refine pure_ (i := 6) (N := some 60) (v := ?_) (a' := ?_) #[true, true, true, true, true, true, true, false, false, true, false, false] rfl rfl (any_of HT_.out (by kernel_rfl)) (fun _ _ _ h => h) (Or.inl ⟨by rfl, ?_⟩) ?_ ?_
              rotate_left
              ·intro w'
               go_simp
               with_reducible rfl
              rotate_left
              ·simp only [Act.put, List.setIfInBounds_toArray, List.set_cons_zero, List.set_cons_succ, i64_w, i32_w]
               rfl
              refine pure_ (i := 7) (N := some 67) (v := ?_) (a' := ?_) #[true, true, true, true, true, true, true, true, false, true, false, false] rfl rfl (any_of HT_.out (by kernel_rfl)) (fun _ _ _ h => h) (Or.inl ⟨by rfl, ?_⟩) ?_ ?_
              rotate_left
              ·intro w'
               go_simp
               with_reducible rfl
              rotate_left
              ·simp only [Act.put, List.setIfInBounds_toArray, List.set_cons_zero, List.set_cons_succ, i64_w, i32_w]
               rfl
              refine pure_ (i := 8) (N := some 68) (v := ?_) (a' := ?_) #[true, true, true, true, true, true, true, true, true, true, false, false] rfl rfl (any_of HT_.out (by kernel_rfl)) (fun _ _ _ h => h) (Or.inl ⟨by rfl, ?_⟩) ?_ ?_
              rotate_left
              ·intro w'
               go_simp
               with_reducible rfl
              rotate_left
              ·simp only [Act.put, List.setIfInBounds_toArray, List.set_cons_zero, List.set_cons_succ, i64_w, i32_w]
               rfl
              exact norm_ (by simp only [putAll, Act.put, List.setIfInBounds_toArray, List.set_cons_zero, List.set_cons_succ]) (hCont (aJ, av, ae) _ ⟨hHeld, (Kd.pR (Kd.R_mono al.out (fun _ hk => ⟨hk.1.1, ⟨hk.1.2, hk.2⟩⟩))), (Kd.pR (Kd.R_mono am.out (fun _ hk => ⟨hk.1.1, ⟨hk.1.2, hk.2⟩⟩))), (Kd.pR (Kd.R_mono HO_668000.out (fun _ hk => ⟨hk.1.2, ⟨hk.2, hk.1.1⟩⟩))), (Kd.pR (Kd.R_mono HO_668001.out (fun _ hk => ⟨hk.1.2, ⟨hk.2, hk.1.1⟩⟩))), (pK aa.out), (pK ad.out), GW678.out, aI.out, ab.out, af.out, (pB HB.out)⟩)
            rintro ⟨aJ, av, ae⟩ w51 ⟨hS_, h0_, h1_, h2_, h3_, h4_, h5_, h6_, h7_, h8_, h9_, h10_⟩
            have n0_ : Aside0 (Kd.R (Kd.int .i64) 3 w51 w.heap.size (fun k_ => some k_ ≠ (av : Value).ownBlock ∧ some k_ ≠ (.slice aU x668000_1.length aM : Value).ownBlock ∧ some k_ ≠ (.slice aV x668001_1.length aN : Value).ownBlock) aJ aj) := ⟨h0_⟩
            have n1_ : Aside0 (Kd.R (Kd.int .i64) 3 w51 w.heap.size (fun k_ => some k_ ≠ (aJ : Value).ownBlock ∧ some k_ ≠ (.slice aU x668000_1.length aM : Value).ownBlock ∧ some k_ ≠ (.slice aV x668001_1.length aN : Value).ownBlock) av ak) := ⟨h1_⟩
            have n2_ : Aside0 (Kd.R (Kd.int .i64) 3 w51 w.heap.size (fun k_ => some k_ ≠ (aJ : Value).ownBlock ∧ some k_ ≠ (av : Value).ownBlock ∧ some k_ ≠ (.slice aV x668001_1.length aN : Value).ownBlock) (.slice aU x668000_1.length aM) x668000_1) := ⟨h2_⟩
            have n3_ : Aside0 (Kd.R (Kd.int .i64) 3 w51 w.heap.size (fun k_ => some k_ ≠ (aJ : Value).ownBlock ∧ some k_ ≠ (av : Value).ownBlock ∧ some k_ ≠ (.slice aU x668000_1.length aM : Value).ownBlock) (.slice aV x668001_1.length aN) x668001_1) := ⟨h3_⟩
            have n4_ : Aside0 (w51.heap[ap]? = some (.cells #[.slice aU x668000_1.length aM, .slice aV x668001_1.length aN, .int .i64 x668002_1, .int .i64 x668003_1] 24 (0, 0))) := ⟨h4_⟩
            have n5_ : Aside0 (w51.heap[ae]? = some (.cells #[.slice none 0 0, .slice none 0 0, .int .i64 0, .int .i64 0] 24 (0, 0))) := ⟨h5_⟩
            have n6_ : Aside0 (w.heap.size ≤ ae) := ⟨h6_⟩
            have n7_ : Aside0 (w.heap.size ≤ ae) := ⟨h7_⟩
            have n8_ : Aside0 (ap ≠ ae) := ⟨h8_⟩
            have n9_ : Aside0 (ae ≠ ap) := ⟨h9_⟩
            have n10_ : Aside0 (Below w.heap.size w w51) := ⟨h10_⟩
            clear HO_668000
            clear HO_668001
            clear aa
            clear HB
            clear h0_ h1_ h2_ h3_ h4_ h5_ h6_ h7_ h8_ h9_ h10_
            have al := n0_
            have am := n1_
            have HO_668000 := n2_
            have HO_668001 := n3_
            have aa := n4_
            have ad := n5_
            have GW678 := n6_
            have aI := n7_
            have ab := n8_
            have af := n9_
            have HB := n10_
            clear n0_ n1_ n2_ n3_ n4_ n5_ n6_ n7_ n8_ n9_ n10_
            have hHeld : w51.cell? ⟨ap, 0, none⟩ = some (.slice aU x668000_1.length aM) ∧ w51.cell? ⟨ap, 1, none⟩ = some (.slice aV x668001_1.length aN) ∧ w51.cell? ⟨ap, 2, none⟩ = some (.int .i64 x668002_1) ∧ w51.cell? ⟨ap, 3, none⟩ = some (.int .i64 x668003_1) ∧ w51.cell? (ad668.add (x9_1).toNat) = some (.int .i64 (rd l1 x9_1)) := hS_
            obtain ⟨cz, bm, cx⟩ := Kd.R_slice al.out
            (first | subst cx | (injection cx with f1_ f2_ f3_; have f4_ := f1_.symm; have f5_ := f3_.symm; clear f1_ f2_ f3_; subst f4_; subst f5_))
            obtain ⟨cA, bn, cy⟩ := Kd.R_slice am.out
            (first | subst cy | (injection cy with f1_ f2_ f3_; have f4_ := f1_.symm; have f5_ := f3_.symm; clear f1_ f2_ f3_; subst f4_; subst f5_))
            refine norm_ (a' := ?_) ?_ ?_
            rotate_left
            ·simp only [putAll, Act.put, List.setIfInBounds_toArray, List.set_cons_zero, List.set_cons_succ]
             rfl
            refine one_ (i := 10) (N := none) #[true, true, true, true, true, true, true, true, true, true, true, false] rfl rfl (one_of HT_.out (by kernel_rfl)) (by decide) (fun K hK => ?_)
            have hs53 : w51.cell? ⟨ae, 0, none⟩ = some (.slice none 0 0) := (blk_cell ad.out 0).trans rfl
            have hfs53 := blk_frozen ad.out 0
            have hns53_0 := ab.out
            have hms53_0 := af.out
            have hs55 : w51.cell? ⟨ae, 1, none⟩ = some (.slice none 0 0) := (blk_cell ad.out 1).trans rfl
            have hfs55 := blk_frozen ad.out 1
            have hns55_0 := ab.out
            have hms55_0 := af.out
            have hs56 : w51.cell? ⟨ae, 2, none⟩ = some (.int .i64 0) := (blk_cell ad.out 2).trans rfl
            have hfs56 := blk_frozen ad.out 2
            have hns56_0 := ab.out
            have hms56_0 := af.out
            have hs57 : w51.cell? ⟨ae, 3, none⟩ = some (.int .i64 0) := (blk_cell ad.out 3).trans rfl
            have hfs57 := blk_frozen ad.out 3
            have hns57_0 := ab.out
            have hms57_0 := af.out
            refine skip_ (w1 := ?_) (by rfl) rfl ?_ ?_
            rotate_left
            ·go_simp
             rfl
            refine hK.out _ _ ⟨((cell_far (p := ⟨ae, _, none⟩) ab.out _).trans (((cell_far (p := ⟨ae, _, none⟩) ab.out _).trans (((cell_far (p := ⟨ae, _, none⟩) ab.out _).trans (((cell_far (p := ⟨ae, _, none⟩) ab.out _).trans (hHeld.1)))))))), ((cell_far (p := ⟨ae, _, none⟩) ab.out _).trans (((cell_far (p := ⟨ae, _, none⟩) ab.out _).trans (((cell_far (p := ⟨ae, _, none⟩) ab.out _).trans (((cell_far (p := ⟨ae, _, none⟩) ab.out _).trans (hHeld.2.1)))))))), ((cell_far (p := ⟨ae, _, none⟩) ab.out _).trans (((cell_far (p := ⟨ae, _, none⟩) ab.out _).trans (((cell_far (p := ⟨ae, _, none⟩) ab.out _).trans (((cell_far (p := ⟨ae, _, none⟩) ab.out _).trans (hHeld.2.2.1)))))))), ((cell_far (p := ⟨ae, _, none⟩) ab.out _).trans (((cell_far (p := ⟨ae, _, none⟩) ab.out _).trans (((cell_far (p := ⟨ae, _, none⟩) ab.out _).trans (((cell_far (p := ⟨ae, _, none⟩) ab.out _).trans (hHeld.2.2.2.1)))))))), ((cell_far (p := ⟨ae, _, none⟩) (by first | exact Nat.ne_of_lt (Nat.lt_of_lt_of_le (by have := World.block_lt_of_cell? _ _ hw668_0; first | rwa [add_block] at this | exact this) GW678.out) | (rw [add_block]; exact Nat.ne_of_lt (Nat.lt_of_lt_of_le (by have := World.block_lt_of_cell? _ _ hw668_0; first | rwa [add_block] at this | exact this) GW678.out)) | (show (Addr.add _ _).block ≠ _; rw [add_block]; exact Nat.ne_of_lt (Nat.lt_of_lt_of_le (by have := World.block_lt_of_cell? _ _ hw668_0; first | rwa [add_block] at this | exact this) GW678.out)) | (dsimp only; exact Nat.ne_of_lt (Nat.lt_of_lt_of_le (by have := World.block_lt_of_cell? _ _ hw668_0; first | rwa [add_block] at this | exact this) GW678.out))) _).trans (((cell_far (p := ⟨ae, _, none⟩) (by first | exact Nat.ne_of_lt (Nat.lt_of_lt_of_le (by have := World.block_lt_of_cell? _ _ hw668_0; first | rwa [add_block] at this | exact this) GW678.out) | (rw [add_block]; exact Nat.ne_of_lt (Nat.lt_of_lt_of_le (by have := World.block_lt_of_cell? _ _ hw668_0; first | rwa [add_block] at this | exact this) GW678.out)) | (show (Addr.add _ _).block ≠ _; rw [add_block]; exact Nat.ne_of_lt (Nat.lt_of_lt_of_le (by have := World.block_lt_of_cell? _ _ hw668_0; first | rwa [add_block] at this | exact this) GW678.out)) | (dsimp only; exact Nat.ne_of_lt (Nat.lt_of_lt_of_le (by have := World.block_lt_of_cell? _ _ hw668_0; first | rwa [add_block] at this | exact this) GW678.out))) _).trans (((cell_far (p := ⟨ae, _, none⟩) (by first | exact Nat.ne_of_lt (Nat.lt_of_lt_of_le (by have := World.block_lt_of_cell? _ _ hw668_0; first | rwa [add_block] at this | exact this) GW678.out) | (rw [add_block]; exact Nat.ne_of_lt (Nat.lt_of_lt_of_le (by have := World.block_lt_of_cell? _ _ hw668_0; first | rwa [add_block] at this | exact this) GW678.out)) | (show (Addr.add _ _).block ≠ _; rw [add_block]; exact Nat.ne_of_lt (Nat.lt_of_lt_of_le (by have := World.block_lt_of_cell? _ _ hw668_0; first | rwa [add_block] at this | exact this) GW678.out)) | (dsimp only; exact Nat.ne_of_lt (Nat.lt_of_lt_of_le (by have := World.block_lt_of_cell? _ _ hw668_0; first | rwa [add_block] at this | exact this) GW678.out))) _).trans (((cell_far (p := ⟨ae, _, none⟩) (by first | exact Nat.ne_of_lt (Nat.lt_of_lt_of_le (by have := World.block_lt_of_cell? _ _ hw668_0; first | rwa [add_block] at this | exact this) GW678.out) | (rw [add_block]; exact Nat.ne_of_lt (Nat.lt_of_lt_of_le (by have := World.block_lt_of_cell? _ _ hw668_0; first | rwa [add_block] at this | exact this) GW678.out)) | (show (Addr.add _ _).block ≠ _; rw [add_block]; exact Nat.ne_of_lt (Nat.lt_of_lt_of_le (by have := World.block_lt_of_cell? _ _ hw668_0; first | rwa [add_block] at this | exact this) GW678.out)) | (dsimp only; exact Nat.ne_of_lt (Nat.lt_of_lt_of_le (by have := World.block_lt_of_cell? _ _ hw668_0; first | rwa [add_block] at this | exact this) GW678.out))) _).trans (hHeld.2.2.2.2))))))))⟩ (fun hHeld => ?_)
            clear hK K
            refine pure_ (i := 11) (N := some 11) (v := ?_) (a' := ?_) #[true, true, true, true, true, true, true, true, true, true, true, true] rfl rfl (any_of HT_.out (by kernel_rfl)) (fun _ _ _ h => h) (Or.inl ⟨by rfl, ?_⟩) ?_ ?_
            rotate_left
            ·intro w'
             go_simp
             with_reducible rfl
            rotate_left
            ·simp only [Act.put, List.setIfInBounds_toArray, List.set_cons_zero, List.set_cons_succ, i64_w, i32_w]
             rfl
            refine done_ (done_of HT_.out (by kernel_rfl)) ?_
            have p679 : 0 ≤ (x9_1 : Int) := od
            have q679 : x9_1 < (l1.length : Int) := od
            obtain ⟨ad679, e679, ac⟩ := Kd.at_int HR1.out x9_1 p679 q679
            obtain rfl : ad668 = ad679 := (by injection e679)
            have hn679_0 : ad668.block ≠ ae := Nat.ne_of_lt (Nat.lt_of_lt_of_le (by have := World.block_lt_of_cell? _ _ ac; first | rwa [add_block] at this | exact this) GW678.out)
            have hn679_1 : ad668.block ≠ ae := Nat.ne_of_lt (Nat.lt_of_lt_of_le (by have := World.block_lt_of_cell? _ _ ac; first | rwa [add_block] at this | exact this) GW678.out)
            have hn679_2 : ad668.block ≠ ae := Nat.ne_of_lt (Nat.lt_of_lt_of_le (by have := World.block_lt_of_cell? _ _ ac; first | rwa [add_block] at this | exact this) GW678.out)
            have hn679_3 : ad668.block ≠ ae := Nat.ne_of_lt (Nat.lt_of_lt_of_le (by have := World.block_lt_of_cell? _ _ ac; first | rwa [add_block] at this | exact this) GW678.out)
            replace ac := (HB.out.cell (World.block_lt_of_cell? w _ ac)).trans ac
            replace ac := (cell_far (p := ⟨ae, 0, none⟩) (by first | (rw [add_block]; exact hn679_0) | (show (Addr.add _ _).block ≠ _; rw [add_block]; exact hn679_0) | exact hn679_0) (.slice cz aj.length bm)).trans ac
            replace ac := (cell_far (p := ⟨ae, 1, none⟩) (by first | (rw [add_block]; exact hn679_1) | (show (Addr.add _ _).block ≠ _; rw [add_block]; exact hn679_1) | exact hn679_1) (.slice cA ak.length bn)).trans ac
            replace ac := (cell_far (p := ⟨ae, 2, none⟩) (by first | (rw [add_block]; exact hn679_2) | (show (Addr.add _ _).block ≠ _; rw [add_block]; exact hn679_2) | exact hn679_2) (.int .i64 an)).trans ac
            replace ac := (cell_far (p := ⟨ae, 3, none⟩) (by first | (rw [add_block]; exact hn679_3) | (show (Addr.add _ _).block ≠ _; rw [add_block]; exact hn679_3) | exact hn679_3) (.int .i64 ao)).trans ac
            clear hn679_0
            clear hn679_1
            clear hn679_2
            clear hn679_3
            replace p679 := eq_true p679
            replace q679 := eq_true q679
            try go_wp2
            go_roundg k1
            case measure => have := HK1.out; omega
            case rel => exact ⟨(wrap64 (x9_1 + 1)), (x668000_1), (x668001_1), (x668002_1), (x668003_1), (.slice aU x668000_1.length aM), (.slice aV x668001_1.length aN), (by first | rfl | (simp; done) | (simp [*]; done)), H', ⟨by have := HK1.out; omega⟩, ⟨Kd.pR (Kd.R_mono (Kd.R_far (p := ⟨ae, 3, none⟩) (Kd.R_far (p := ⟨ae, 2, none⟩) (Kd.R_far (p := ⟨ae, 1, none⟩) (Kd.R_far (p := ⟨ae, 0, none⟩) (Kd.R_types HO_668000.out ad.out (by decide)) (fun _ hk => hk.2) (.slice cz aj.length bm)) (fun _ hk => hk.2) (.slice cA ak.length bn)) (fun _ hk => hk.2) (.int .i64 an)) (fun _ hk => hk.2) (.int .i64 ao)) (fun _ hk => hk.1.2.2))⟩, ⟨Kd.pR (Kd.R_mono (Kd.R_far (p := ⟨ae, 3, none⟩) (Kd.R_far (p := ⟨ae, 2, none⟩) (Kd.R_far (p := ⟨ae, 1, none⟩) (Kd.R_far (p := ⟨ae, 0, none⟩) (Kd.R_types HO_668001.out ad.out (by decide)) (fun _ hk => hk.2) (.slice cz aj.length bm)) (fun _ hk => hk.2) (.slice cA ak.length bn)) (fun _ hk => hk.2) (.int .i64 an)) (fun _ hk => hk.2) (.int .i64 ao)) (fun _ hk => hk.1.2.2))⟩, ⟨by (with_reducible repeat (first | refine blk_drewN ?_ _ | refine blk_drew ?_ | refine blk_alloc ?_ _)); refine blk_far ?_ ab.out _; (with_reducible repeat (first | refine blk_drewN ?_ _ | refine blk_drew ?_ | refine blk_alloc ?_ _)); refine blk_far ?_ ab.out _; (with_reducible repeat (first | refine blk_drewN ?_ _ | refine blk_drew ?_ | refine blk_alloc ?_ _)); refine blk_far ?_ ab.out _; (with_reducible repeat (first | refine blk_drewN ?_ _ | refine blk_drew ?_ | refine blk_alloc ?_ _)); refine blk_far ?_ ab.out _; (with_reducible repeat (first | refine blk_drewN ?_ _ | refine blk_drew ?_ | refine blk_alloc ?_ _)); exact aa.out⟩, ⟨pB HB.out⟩⟩
           ·rw [if_neg c45] at H
            have c45b0 : (aq == 2) = false := beq_eq_false_iff_ne.mpr c45
            have c45b1 : (aq != 2) = true := bne_iff_ne.mpr c45
            exact absurd H (by simp)
          ·rw [if_neg c44] at H
           have c44b0 : decide ((rd l1 x9_1) < 0) = false := decide_eq_false c44
           (try clear c44)
           by_cases c58 : (rd l1 x9_1) ≥ a0
           ·rw [if_pos c58] at H
            have c58b0 : decide (a0 ≤ (rd l1 x9_1)) = true := decide_eq_true c58
            clear c58
            by_cases c59 : aq = 2
            ·rw [if_pos c59] at H
             have c59b0 : (aq == 2) = true := beq_iff_eq.mpr c59
             have c59b1 : (aq != 2) = false := bne_eq_false_iff_eq.mpr c59
             clear c59
             have H' := Aside0.mk H
             clear H
             obtain ⟨aW, aQ, dl⟩ := Kd.R_slice HO_668000.out
             subst dl
             obtain ⟨aX, aR, dm⟩ := Kd.R_slice HO_668001.out
             subst dm
             try go_wp2
             have n0_ := Aside0.mk (Kd.R_drew HO_668000.out)
             have n1_ := Aside0.mk (Kd.R_drew HO_668001.out)
             have n2_ := Aside0.mk (blk_drew aa.out)
             have n3_ := Aside0.mk (below_drew1 HB.out)
             clear HO_668000
             clear HO_668001
             clear aa
             clear HB
             have HO_668000 := n0_
             have HO_668001 := n1_
             have aa := n2_
             have HB := n3_
             clear n0_ n1_ n2_ n3_
             have p668 : 0 ≤ (x9_1 : Int) := od
             have q668 : x9_1 < (l1.length : Int) := od
             obtain ⟨ad668, e668, ar⟩ := Kd.at_int HR1.out x9_1 p668 q668
             have hw668_0 := ar
             cases e668
             replace ar := (HB.out.cell (World.block_lt_of_cell? w _ ar)).trans ar
             replace p668 := eq_true p668
             replace q668 := eq_true q668
             refine start_ (n := 12) (S := fun w' => w'.cell? ⟨ap, 0, none⟩ = some (.slice aW x668000_1.length aQ) ∧ w'.cell? ⟨ap, 1, none⟩ = some (.slice aX x668001_1.length aR) ∧ w'.cell? ⟨ap, 2, none⟩ = some (.int .i64 x668002_1) ∧ w'.cell? ⟨ap, 3, none⟩ = some (.int .i64 x668003_1) ∧ w'.cell? (ad668.add (x9_1).toNat) = some (.int .i64 (rd l1 x9_1))) (ds := []) #[false, false, false, false, false, false, false, false, false, false, false, false] (by kernel_rfl) rfl rfl ⟨(blk_cell aa.out 0).trans rfl, (blk_cell aa.out 1).trans rfl, (blk_cell aa.out 2).trans rfl, (blk_cell aa.out 3).trans rfl, ((HB.out.cell (World.block_lt_of_cell? w _ hw668_0)).trans hw668_0)⟩ (fun hHeld => ?_); refine with_tabW spigotlaw15_LruUses.tab9 spigotlaw15_LruUses.bits9 (fun HT_ HW_ => ?_)
             generalize wr.drew = w62 at HO_668000 HO_668001 aa HB ar hHeld ⊢
             refine pure_ (i := 1) (N := some 62) (v := ?_) (a' := ?_) #[false, true, false, false, false, false, false, false, false, false, false, false] rfl rfl (any_of HT_.out (by kernel_rfl)) (fun _ _ _ h => h) (Or.inl ⟨by rfl, ?_⟩) ?_ ?_
             rotate_left
             ·intro w'
              go_simp
              with_reducible rfl
             rotate_left
             ·simp only [Act.put, List.setIfInBounds_toArray, List.set_cons_zero, List.set_cons_succ, i64_w, i32_w]
              rfl
             refine pure_ (i := 2) (N := some 63) (v := ?_) (a' := ?_) #[false, true, true, false, false, false, false, false, false, false, false, false] rfl rfl (any_of HT_.out (by kernel_rfl)) (fun _ _ _ h => h) (Or.inl ⟨by rfl, ?_⟩) ?_ ?_
             rotate_left
             ·intro w'
              go_simp
              with_reducible rfl
             rotate_left
             ·simp only [Act.put, List.setIfInBounds_toArray, List.set_cons_zero, List.set_cons_succ, i64_w, i32_w]
              rfl
             refine pure_ (i := 3) (N := some 64) (v := ?_) (a' := ?_) #[false, true, true, true, false, false, false, false, false, false, false, false] rfl rfl (any_of HT_.out (by kernel_rfl)) (fun _ _ _ h => h) (Or.inl ⟨by rfl, ?_⟩) ?_ ?_
             rotate_left
             ·intro w'
              go_simp
              with_reducible rfl
             rotate_left
             ·simp only [Act.put, List.setIfInBounds_toArray, List.set_cons_zero, List.set_cons_succ, i64_w, i32_w]
              rfl
             refine take_ (i := 0) (N := some 61) (v := ?_) (a' := ?_) #[true, true, true, true, false, false, false, false, false, false, false, false] rfl rfl (take_ofW HT_.out HW_.out (by kernel_rfl)) (fun _ _ _ h => h) (Or.inl ⟨by rfl, ?_⟩) hHeld ?_ ?_
             rotate_left
             ·rintro w' ⟨s0, s1, s2, s3, s4⟩
              go_simp
              with_reducible rfl
             rotate_left
             ·simp only [Act.put, List.setIfInBounds_toArray, List.set_cons_zero, List.set_cons_succ, i64_w, i32_w]
              rfl
             refine take_ (i := 4) (N := some 65) (v := ?_) (a' := ?_) #[true, true, true, true, true, false, false, false, false, false, false, false] rfl rfl (take_ofW HT_.out HW_.out (by kernel_rfl)) (fun _ _ _ h => h) (Or.inl ⟨by rfl, ?_⟩) hHeld ?_ ?_
             rotate_left
             ·rintro w' ⟨s0, s1, s2, s3, s4⟩
              go_simp
              with_reducible rfl
             rotate_left
             ·simp only [Act.put, List.setIfInBounds_toArray, List.set_cons_zero, List.set_cons_succ, i64_w, i32_w]
              rfl
             refine join_ (σ := Value × Value × Nat) 2 #[true, true, true, true, true, true, true, true, true, true, false, false] (fun s_ => [(66, .tuple #[.agg #[s_.1, s_.2.1, .int .i64 an, .int .i64 ao], .int .i64 aq]), (10, .pointer (some ⟨s_.2.2, 0, none⟩)), (60, .tuple #[.agg #[s_.1, s_.2.1, .int .i64 an, .int .i64 ao], .int .i64 aq]), (67, .agg #[s_.1, s_.2.1, .int .i64 an, .int .i64 ao]), (68, .int .i64 aq)]) (fun s_ w' => (w'.cell? ⟨ap, 0, none⟩ = some (.slice aW x668000_1.length aQ) ∧ w'.cell? ⟨ap, 1, none⟩ = some (.slice aX x668001_1.length aR) ∧ w'.cell? ⟨ap, 2, none⟩ = some (.int .i64 x668002_1) ∧ w'.cell? ⟨ap, 3, none⟩ = some (.int .i64 x668003_1) ∧ w'.cell? (ad668.add (x9_1).toNat) = some (.int .i64 (rd l1 x9_1))) ∧ (Kd.R (Kd.int .i64) 3 w' w.heap.size (fun k_ => some k_ ≠ (s_.2.1 : Value).ownBlock ∧ some k_ ≠ (.slice aW x668000_1.length aQ : Value).ownBlock ∧ some k_ ≠ (.slice aX x668001_1.length aR : Value).ownBlock) s_.1 aj) ∧ (Kd.R (Kd.int .i64) 3 w' w.heap.size (fun k_ => some k_ ≠ (s_.1 : Value).ownBlock ∧ some k_ ≠ (.slice aW x668000_1.length aQ : Value).ownBlock ∧ some k_ ≠ (.slice aX x668001_1.length aR : Value).ownBlock) s_.2.1 ak) ∧ (Kd.R (Kd.int .i64) 3 w' w.heap.size (fun k_ => some k_ ≠ (s_.1 : Value).ownBlock ∧ some k_ ≠ (s_.2.1 : Value).ownBlock ∧ some k_ ≠ (.slice aX x668001_1.length aR : Value).ownBlock) (.slice aW x668000_1.length aQ) x668000_1) ∧ (Kd.R (Kd.int .i64) 3 w' w.heap.size (fun k_ => some k_ ≠ (s_.1 : Value).ownBlock ∧ some k_ ≠ (s_.2.1 : Value).ownBlock ∧ some k_ ≠ (.slice aW x668000_1.length aQ : Value).ownBlock) (.slice aX x668001_1.length aR) x668001_1) ∧ (w'.heap[ap]? = some (.cells #[.slice aW x668000_1.length aQ, .slice aX x668001_1.length aR, .int .i64 x668002_1, .int .i64 x668003_1] 24 (0, 0))) ∧ (w'.heap[s_.2.2]? = some (.cells #[.slice none 0 0, .slice none 0 0, .int .i64 0, .int .i64 0] 24 (0, 0))) ∧ (w.heap.size ≤ s_.2.2) ∧ (w.heap.size ≤ s_.2.2) ∧ (ap ≠ s_.2.2) ∧ (s_.2.2 ≠ ap) ∧ (Below w.heap.size w w')) ?_ ?_
             rotate_left
             ·intro hCont
              refine two_ (i := 5) (j := 9) (Ni := some 66) (Nj := some 10) #[true, true, true, true, true, true, false, false, false, false, false, false] #[true, true, true, true, true, false, false, false, false, true, false, false] rfl rfl rfl rfl (two_of HT_.out (by kernel_rfl)) (by decide) (by decide) (fun K hK => ?_) (fun K hK => ?_)
              ·skip
               refine goes_ Try.func12 (by kernel_rfl) rfl #[.agg #[.slice aW x668000_1.length aQ, .slice aX x668001_1.length aR, .int .i64 x668002_1, .int .i64 x668003_1], .int .i64 (rd l1 x9_1)] (by rfl) rfl rfl (by (try simp only [List.map_toArray, List.map_cons, List.map_nil]); first | done | rfl | (simp only [List.length_drop, List.length_take]; rfl)) ?_
               with_reducible refine (lru_Touch.calls k1 _ _ x668000_1 _ _ x668001_1 x668002_1 x668003_1 (rd l1 x9_1) aj ak an ao aq _ ?side1 ?side2 ?side3 ?side4 A43.out).mono ?_
               (case side1 => exact Kd.pC ((Kd.R_reads' HO_668000.out).2.2))
               (case side2 => exact (Kd.R_reads' HO_668000.out).2.1)
               (case side3 => exact Kd.pC ((Kd.R_reads' HO_668001.out).2.2))
               (case side4 => exact (Kd.R_reads' HO_668001.out).2.1)
               rintro e w63 ⟨aJ, av, rfl, ho0, ho1, hb⟩
               refine ⟨_, rfl, ?_⟩
               have n0_ := Aside0.mk (Kd.R_mono (Kd.R_told (Kd.R_told (Kd.R_old (Kd.pR HO_668000.out) hb) (Kd.R_base ho0)) (Kd.R_base ho1)) (fun _ h_ => h_.1))
               have n1_ := Aside0.mk (Kd.R_mono (Kd.R_told (Kd.R_told (Kd.R_old (Kd.pR HO_668001.out) hb) (Kd.R_base ho0)) (Kd.R_base ho1)) (fun _ h_ => h_.1))
               have n2_ := Aside0.mk (Kd.R_lower (Kd.R_new' (Kd.R_new' ho0 (Kd.R_lt (Kd.pR HO_668000.out))) (Kd.R_lt (Kd.pR HO_668001.out))) (below_size (pB HB.out)))
               have n3_ := Aside0.mk (Kd.R_lower (Kd.R_new' (Kd.R_new' ho1 (Kd.R_lt (Kd.pR HO_668000.out))) (Kd.R_lt (Kd.pR HO_668001.out))) (below_size (pB HB.out)))
               have n4_ := Aside0.mk (blk_below (pK aa.out) hb)
               have n5_ := Aside0.mk (below_step (pB HB.out) hb)
               clear HO_668000
               clear HO_668001
               clear aa
               clear HB
               have HO_668000 := n0_
               have HO_668001 := n1_
               have al := n2_
               have am := n3_
               have aa := n4_
               have HB := n5_
               clear n0_ n1_ n2_ n3_ n4_ n5_
               (try clear hb)
               (try clear hb2)
               (try clear hk)
               (try clear hi)
               (try clear ho0)
               (try clear ho1)
               refine hK.out _ _ ⟨(blk_cell aa.out 0).trans rfl, (blk_cell aa.out 1).trans rfl, (blk_cell aa.out 2).trans rfl, (blk_cell aa.out 3).trans rfl, ((HB.out.cell (World.block_lt_of_cell? w _ hw668_0)).trans hw668_0)⟩ (fun hHeld => ?_)
               clear hK K
               refine norm_ (a' := ?_) ?_ ?_
               rotate_left
               ·show Act.put _ (some 66) _ = _
                simp only [Act.put, List.setIfInBounds_toArray, List.set_cons_zero, List.set_cons_succ, i64_w, i32_w]
                rfl
               refine pure_ (i := 6) (N := some 60) (v := ?_) (a' := ?_) #[true, true, true, true, true, true, true, false, false, false, false, false] rfl rfl (any_of HT_.out (by kernel_rfl)) (fun _ _ _ h => h) (Or.inl ⟨by rfl, ?_⟩) ?_ ?_
               rotate_left
               ·intro w'
                go_simp
                with_reducible rfl
               rotate_left
               ·simp only [Act.put, List.setIfInBounds_toArray, List.set_cons_zero, List.set_cons_succ, i64_w, i32_w]
                rfl
               refine pure_ (i := 7) (N := some 67) (v := ?_) (a' := ?_) #[true, true, true, true, true, true, true, true, false, false, false, false] rfl rfl (any_of HT_.out (by kernel_rfl)) (fun _ _ _ h => h) (Or.inl ⟨by rfl, ?_⟩) ?_ ?_
               rotate_left
               ·intro w'
                go_simp
                with_reducible rfl
               rotate_left
               ·simp only [Act.put, List.setIfInBounds_toArray, List.set_cons_zero, List.set_cons_succ, i64_w, i32_w]
                rfl
               refine pure_ (i := 8) (N := some 68) (v := ?_) (a' := ?_) #[true, true, true, true, true, true, true, true, true, false, false, false] rfl rfl (any_of HT_.out (by kernel_rfl)) (fun _ _ _ h => h) (Or.inl ⟨by rfl, ?_⟩) ?_ ?_
               rotate_left
               ·intro w'
                go_simp
                with_reducible rfl
               rotate_left
               ·simp only [Act.put, List.setIfInBounds_toArray, List.set_cons_zero, List.set_cons_succ, i64_w, i32_w]
                rfl
               refine one_ (i := 9) (N := some 10) #[true, true, true, true, true, true, true, true, true, true, false, false] rfl rfl (one_of HT_.out (by kernel_rfl)) (by decide) (fun K hK => ?_)
               refine box_step ?hg (N := 10) ?hd (cs := #[.slice none 0 0, .slice none 0 0, .int .i64 0, .int .i64 0]) (t := 24) ?hr ?_; (case hd => rfl); (case hg => rfl); (case hr => first | (go_simp; done) | (go_simp; rfl))
               intro ae hg w64 hbox hb
               have n0_ := Rb1 HO_668000 hb
               have n1_ := Rb1 HO_668001 hb
               have n2_ := Rb1 al hb
               have n3_ := Rb1 am hb
               have n4_ := Aside0.mk (blk_below (pK aa.out) hb)
               have n5_ := Aside0.mk (below_step (pB HB.out) hb)
               have n6_ := Aside0.mk (hbox)
               have n7_ := Aside0.mk (pL HB.out hg)
               have n8_ := Aside0.mk (pL HB.out hg)
               have n9_ := Aside0.mk (pNl aa.out hg)
               have n10_ := Aside0.mk (pNg aa.out hg)
               clear HO_668000
               clear HO_668001
               clear al
               clear am
               clear aa
               clear HB
               have HO_668000 := n0_
               have HO_668001 := n1_
               have al := n2_
               have am := n3_
               have aa := n4_
               have HB := n5_
               have ad := n6_
               have GW678 := n7_
               have aI := n8_
               have ab := n9_
               have af := n10_
               clear n0_ n1_ n2_ n3_ n4_ n5_ n6_ n7_ n8_ n9_ n10_
               clear hb hbox hg
               refine hK.out _ _ ⟨(blk_cell aa.out 0).trans rfl, (blk_cell aa.out 1).trans rfl, (blk_cell aa.out 2).trans rfl, (blk_cell aa.out 3).trans rfl, ((HB.out.cell (World.block_lt_of_cell? w _ hw668_0)).trans hw668_0)⟩ (fun hHeld => ?_)
               clear hK K
               refine norm_ (a' := ?_) ?_ ?_
               rotate_left
               ·show Act.put _ (some 10) _ = _
                simp only [Act.put, List.setIfInBounds_toArray, List.set_cons_zero, List.set_cons_succ, i64_w, i32_w]
                rfl
               exact norm_ (by simp only [putAll, Act.put, List.setIfInBounds_toArray, List.set_cons_zero, List.set_cons_succ]) (hCont (aJ, av, ae) _ ⟨hHeld, (Kd.pR (Kd.R_mono al.out (fun _ hk => ⟨hk.1.1, ⟨hk.1.2, hk.2⟩⟩))), (Kd.pR (Kd.R_mono am.out (fun _ hk => ⟨hk.1.1, ⟨hk.1.2, hk.2⟩⟩))), (Kd.pR (Kd.R_mono HO_668000.out (fun _ hk => ⟨hk.1.2, ⟨hk.2, hk.1.1⟩⟩))), (Kd.pR (Kd.R_mono HO_668001.out (fun _ hk => ⟨hk.1.2, ⟨hk.2, hk.1.1⟩⟩))), (pK aa.out), (pK ad.out), GW678.out, aI.out, ab.out, af.out, (pB HB.out)⟩)
              ·skip
               refine box_step ?hg (N := 10) ?hd (cs := #[.slice none 0 0, .slice none 0 0, .int .i64 0, .int .i64 0]) (t := 24) ?hr ?_; (case hd => rfl); (case hg => rfl); (case hr => first | (go_simp; done) | (go_simp; rfl))
               intro ae hg w63 hbox hb
               have n0_ := Rb1 HO_668000 hb
               have n1_ := Rb1 HO_668001 hb
               have n2_ := Aside0.mk (blk_below (pK aa.out) hb)
               have n3_ := Aside0.mk (below_step (pB HB.out) hb)
               have n4_ := Aside0.mk (hbox)
               have n5_ := Aside0.mk (pL HB.out hg)
               have n6_ := Aside0.mk (pL HB.out hg)
               have n7_ := Aside0.mk (pNl aa.out hg)
               have n8_ := Aside0.mk (pNg aa.out hg)
               clear HO_668000
               clear HO_668001
               clear aa
               clear HB
               have HO_668000 := n0_
               have HO_668001 := n1_
               have aa := n2_
               have HB := n3_
               have ad := n4_
               have GW678 := n5_
               have aI := n6_
               have ab := n7_
               have af := n8_
               clear n0_ n1_ n2_ n3_ n4_ n5_ n6_ n7_ n8_
               clear hb hbox hg
               refine hK.out _ _ ⟨(blk_cell aa.out 0).trans rfl, (blk_cell aa.out 1).trans rfl, (blk_cell aa.out 2).trans rfl, (blk_cell aa.out 3).trans rfl, ((HB.out.cell (World.block_lt_of_cell? w _ hw668_0)).trans hw668_0)⟩ (fun hHeld => ?_)
               clear hK K
               refine norm_ (a' := ?_) ?_ ?_
               rotate_left
               ·show Act.put _ (some 10) _ = _
                simp only [Act.put, List.setIfInBounds_toArray, List.set_cons_zero, List.set_cons_succ, i64_w, i32_w]
                rfl
               refine one_ (i := 5) (N := some 66) #[true, true, true, true, true, true, false, false, false, true, false, false] rfl rfl (one_of HT_.out (by kernel_rfl)) (by decide) (fun K hK => ?_)
               refine goes_ Try.func12 (by kernel_rfl) rfl #[.agg #[.slice aW x668000_1.length aQ, .slice aX x668001_1.length aR, .int .i64 x668002_1, .int .i64 x668003_1], .int .i64 (rd l1 x9_1)] (by rfl) rfl rfl (by (try simp only [List.map_toArray, List.map_cons, List.map_nil]); first | done | rfl | (simp only [List.length_drop, List.length_take]; rfl)) ?_
               with_reducible refine (lru_Touch.calls k1 _ _ x668000_1 _ _ x668001_1 x668002_1 x668003_1 (rd l1 x9_1) aj ak an ao aq _ ?side1 ?side2 ?side3 ?side4 A43.out).mono ?_
               (case side1 => exact Kd.pC ((Kd.R_reads' HO_668000.out).2.2))
               (case side2 => exact (Kd.R_reads' HO_668000.out).2.1)
               (case side3 => exact Kd.pC ((Kd.R_reads' HO_668001.out).2.2))
               (case side4 => exact (Kd.R_reads' HO_668001.out).2.1)
               rintro e w64 ⟨aJ, av, rfl, ho0, ho1, hb⟩
               refine ⟨_, rfl, ?_⟩
               have n0_ := Aside0.mk (Kd.R_mono (Kd.R_told (Kd.R_told (Kd.R_old (Kd.pR HO_668000.out) hb) (Kd.R_base ho0)) (Kd.R_base ho1)) (fun _ h_ => h_.1))
               have n1_ := Aside0.mk (Kd.R_mono (Kd.R_told (Kd.R_told (Kd.R_old (Kd.pR HO_668001.out) hb) (Kd.R_base ho0)) (Kd.R_base ho1)) (fun _ h_ => h_.1))
               have n2_ := Aside0.mk (Kd.R_lower (Kd.R_new' (Kd.R_new' ho0 (Kd.R_lt (Kd.pR HO_668000.out))) (Kd.R_lt (Kd.pR HO_668001.out))) (below_size (pB HB.out)))
               have n3_ := Aside0.mk (Kd.R_lower (Kd.R_new' (Kd.R_new' ho1 (Kd.R_lt (Kd.pR HO_668000.out))) (Kd.R_lt (Kd.pR HO_668001.out))) (below_size (pB HB.out)))
               have n4_ := Aside0.mk (blk_below (pK aa.out) hb)
               have n5_ := Aside0.mk (blk_below (pK ad.out) hb)
               have n6_ := Aside0.mk (below_step (pB HB.out) hb)
               clear HO_668000
               clear HO_668001
               clear aa
               clear ad
               clear HB
               have HO_668000 := n0_
               have HO_668001 := n1_
               have al := n2_
               have am := n3_
               have aa := n4_
               have ad := n5_
               have HB := n6_
               clear n0_ n1_ n2_ n3_ n4_ n5_ n6_
               (try clear hb)
               (try clear hb2)
               (try clear hk)
               (try clear hi)
               (try clear ho0)
               (try clear ho1)
               refine hK.out _ _ ⟨(blk_cell aa.out 0).trans rfl, (blk_cell aa.out 1).trans rfl, (blk_cell aa.out 2).trans rfl, (blk_cell aa.out 3).trans rfl, ((HB.out.cell (World.block_lt_of_cell? w _ hw668_0)).trans hw668_0)⟩ (fun hHeld => ?_)
               clear hK K
               refine norm_ (a' := ?_) ?_ ?_
               rotate_left
               ·show Act.put _ (some 66) _ = _
                simp only [Act.put, List.setIfInBounds_toArray, List.set_cons_zero, List.set_cons_succ, i64_w, i32_w]
                rfl
               refine pure_ (i := 6) (N := some 60) (v := ?_) (a' := ?_) #[true, true, true, true, true, true, true, false, false, true, false, false] rfl rfl (any_of HT_.out (by kernel_rfl)) (fun _ _ _ h => h) (Or.inl ⟨by rfl, ?_⟩) ?_ ?_
               rotate_left
               ·intro w'
                go_simp
                with_reducible rfl
               rotate_left
               ·simp only [Act.put, List.setIfInBounds_toArray, List.set_cons_zero, List.set_cons_succ, i64_w, i32_w]
                rfl
               refine pure_ (i := 7) (N := some 67) (v := ?_) (a' := ?_) #[true, true, true, true, true, true, true, true, false, true, false, false] rfl rfl (any_of HT_.out (by kernel_rfl)) (fun _ _ _ h => h) (Or.inl ⟨by rfl, ?_⟩) ?_ ?_
               rotate_left
               ·intro w'
                go_simp
                with_reducible rfl
               rotate_left
               ·simp only [Act.put, List.setIfInBounds_toArray, List.set_cons_zero, List.set_cons_succ, i64_w, i32_w]
                rfl
               refine pure_ (i := 8) (N := some 68) (v := ?_) (a' := ?_) #[true, true, true, true, true, true, true, true, true, true, false, false] rfl rfl (any_of HT_.out (by kernel_rfl)) (fun _ _ _ h => h) (Or.inl ⟨by rfl, ?_⟩) ?_ ?_
               rotate_left
               ·intro w'
                go_simp
                with_reducible rfl
               rotate_left
               ·simp only [Act.put, List.setIfInBounds_toArray, List.set_cons_zero, List.set_cons_succ, i64_w, i32_w]
                rfl
               exact norm_ (by simp only [putAll, Act.put, List.setIfInBounds_toArray, List.set_cons_zero, List.set_cons_succ]) (hCont (aJ, av, ae) _ ⟨hHeld, (Kd.pR (Kd.R_mono al.out (fun _ hk => ⟨hk.1.1, ⟨hk.1.2, hk.2⟩⟩))), (Kd.pR (Kd.R_mono am.out (fun _ hk => ⟨hk.1.1, ⟨hk.1.2, hk.2⟩⟩))), (Kd.pR (Kd.R_mono HO_668000.out (fun _ hk => ⟨hk.1.2, ⟨hk.2, hk.1.1⟩⟩))), (Kd.pR (Kd.R_mono HO_668001.out (fun _ hk => ⟨hk.1.2, ⟨hk.2, hk.1.1⟩⟩))), (pK aa.out), (pK ad.out), GW678.out, aI.out, ab.out, af.out, (pB HB.out)⟩)
             rintro ⟨aJ, av, ae⟩ w65 ⟨hS_, h0_, h1_, h2_, h3_, h4_, h5_, h6_, h7_, h8_, h9_, h10_⟩
             have n0_ : Aside0 (Kd.R (Kd.int .i64) 3 w65 w.heap.size (fun k_ => some k_ ≠ (av : Value).ownBlock ∧ some k_ ≠ (.slice aW x668000_1.length aQ : Value).ownBlock ∧ some k_ ≠ (.slice aX x668001_1.length aR : Value).ownBlock) aJ aj) := ⟨h0_⟩
             have n1_ : Aside0 (Kd.R (Kd.int .i64) 3 w65 w.heap.size (fun k_ => some k_ ≠ (aJ : Value).ownBlock ∧ some k_ ≠ (.slice aW x668000_1.length aQ : Value).ownBlock ∧ some k_ ≠ (.slice aX x668001_1.length aR : Value).ownBlock) av ak) := ⟨h1_⟩
             have n2_ : Aside0 (Kd.R (Kd.int .i64) 3 w65 w.heap.size (fun k_ => some k_ ≠ (aJ : Value).ownBlock ∧ some k_ ≠ (av : Value).ownBlock ∧ some k_ ≠ (.slice aX x668001_1.length aR : Value).ownBlock) (.slice aW x668000_1.length aQ) x668000_1) := ⟨h2_⟩
             have n3_ : Aside0 (Kd.R (Kd.int .i64) 3 w65 w.heap.size (fun k_ => some k_ ≠ (aJ : Value).ownBlock ∧ some k_ ≠ (av : Value).ownBlock ∧ some k_ ≠ (.slice aW x668000_1.length aQ : Value).ownBlock) (.slice aX x668001_1.length aR) x668001_1) := ⟨h3_⟩
             have n4_ : Aside0 (w65.heap[ap]? = some (.cells #[.slice aW x668000_1.length aQ, .slice aX x668001_1.length aR, .int .i64 x668002_1, .int .i64 x668003_1] 24 (0, 0))) := ⟨h4_⟩
             have n5_ : Aside0 (w65.heap[ae]? = some (.cells #[.slice none 0 0, .slice none 0 0, .int .i64 0, .int .i64 0] 24 (0, 0))) := ⟨h5_⟩
             have n6_ : Aside0 (w.heap.size ≤ ae) := ⟨h6_⟩
             have n7_ : Aside0 (w.heap.size ≤ ae) := ⟨h7_⟩
             have n8_ : Aside0 (ap ≠ ae) := ⟨h8_⟩
             have n9_ : Aside0 (ae ≠ ap) := ⟨h9_⟩
             have n10_ : Aside0 (Below w.heap.size w w65) := ⟨h10_⟩
             clear HO_668000
             clear HO_668001
             clear aa
             clear HB
             clear h0_ h1_ h2_ h3_ h4_ h5_ h6_ h7_ h8_ h9_ h10_
             have al := n0_
             have am := n1_
             have HO_668000 := n2_
             have HO_668001 := n3_
             have aa := n4_
             have ad := n5_
             have GW678 := n6_
             have aI := n7_
             have ab := n8_
             have af := n9_
             have HB := n10_
             clear n0_ n1_ n2_ n3_ n4_ n5_ n6_ n7_ n8_ n9_ n10_
             have hHeld : w65.cell? ⟨ap, 0, none⟩ = some (.slice aW x668000_1.length aQ) ∧ w65.cell? ⟨ap, 1, none⟩ = some (.slice aX x668001_1.length aR) ∧ w65.cell? ⟨ap, 2, none⟩ = some (.int .i64 x668002_1) ∧ w65.cell? ⟨ap, 3, none⟩ = some (.int .i64 x668003_1) ∧ w65.cell? (ad668.add (x9_1).toNat) = some (.int .i64 (rd l1 x9_1)) := hS_
             obtain ⟨bo, bj, cB⟩ := Kd.R_slice al.out
             (first | subst cB | (injection cB with f1_ f2_ f3_; have f4_ := f1_.symm; have f5_ := f3_.symm; clear f1_ f2_ f3_; subst f4_; subst f5_))
             obtain ⟨bp, bk, cC⟩ := Kd.R_slice am.out
             (first | subst cC | (injection cC with f1_ f2_ f3_; have f4_ := f1_.symm; have f5_ := f3_.symm; clear f1_ f2_ f3_; subst f4_; subst f5_))
             refine norm_ (a' := ?_) ?_ ?_
             rotate_left
             ·simp only [putAll, Act.put, List.setIfInBounds_toArray, List.set_cons_zero, List.set_cons_succ]
              rfl
             refine one_ (i := 10) (N := none) #[true, true, true, true, true, true, true, true, true, true, true, false] rfl rfl (one_of HT_.out (by kernel_rfl)) (by decide) (fun K hK => ?_)
             have hs67 : w65.cell? ⟨ae, 0, none⟩ = some (.slice none 0 0) := (blk_cell ad.out 0).trans rfl
             have hfs67 := blk_frozen ad.out 0
             have hns67_0 := ab.out
             have hms67_0 := af.out
             have hs69 : w65.cell? ⟨ae, 1, none⟩ = some (.slice none 0 0) := (blk_cell ad.out 1).trans rfl
             have hfs69 := blk_frozen ad.out 1
             have hns69_0 := ab.out
             have hms69_0 := af.out
             have hs70 : w65.cell? ⟨ae, 2, none⟩ = some (.int .i64 0) := (blk_cell ad.out 2).trans rfl
             have hfs70 := blk_frozen ad.out 2
             have hns70_0 := ab.out
             have hms70_0 := af.out
             have hs71 : w65.cell? ⟨ae, 3, none⟩ = some (.int .i64 0) := (blk_cell ad.out 3).trans rfl
             have hfs71 := blk_frozen ad.out 3
             have hns71_0 := ab.out
             have hms71_0 := af.out
             refine skip_ (w1 := ?_) (by rfl) rfl ?_ ?_
             rotate_left
             ·go_simp
              rfl
             refine hK.out _ _ ⟨((cell_far (p := ⟨ae, _, none⟩) ab.out _).trans (((cell_far (p := ⟨ae, _, none⟩) ab.out _).trans (((cell_far (p := ⟨ae, _, none⟩) ab.out _).trans (((cell_far (p := ⟨ae, _, none⟩) ab.out _).trans (hHeld.1)))))))), ((cell_far (p := ⟨ae, _, none⟩) ab.out _).trans (((cell_far (p := ⟨ae, _, none⟩) ab.out _).trans (((cell_far (p := ⟨ae, _, none⟩) ab.out _).trans (((cell_far (p := ⟨ae, _, none⟩) ab.out _).trans (hHeld.2.1)))))))), ((cell_far (p := ⟨ae, _, none⟩) ab.out _).trans (((cell_far (p := ⟨ae, _, none⟩) ab.out _).trans (((cell_far (p := ⟨ae, _, none⟩) ab.out _).trans (((cell_far (p := ⟨ae, _, none⟩) ab.out _).trans (hHeld.2.2.1)))))))), ((cell_far (p := ⟨ae, _, none⟩) ab.out _).trans (((cell_far (p := ⟨ae, _, none⟩) ab.out _).trans (((cell_far (p := ⟨ae, _, none⟩) ab.out _).trans (((cell_far (p := ⟨ae, _, none⟩) ab.out _).trans (hHeld.2.2.2.1)))))))), ((cell_far (p := ⟨ae, _, none⟩) (by first | exact Nat.ne_of_lt (Nat.lt_of_lt_of_le (by have := World.block_lt_of_cell? _ _ hw668_0; first | rwa [add_block] at this | exact this) GW678.out) | (rw [add_block]; exact Nat.ne_of_lt (Nat.lt_of_lt_of_le (by have := World.block_lt_of_cell? _ _ hw668_0; first | rwa [add_block] at this | exact this) GW678.out)) | (show (Addr.add _ _).block ≠ _; rw [add_block]; exact Nat.ne_of_lt (Nat.lt_of_lt_of_le (by have := World.block_lt_of_cell? _ _ hw668_0; first | rwa [add_block] at this | exact this) GW678.out)) | (dsimp only; exact Nat.ne_of_lt (Nat.lt_of_lt_of_le (by have := World.block_lt_of_cell? _ _ hw668_0; first | rwa [add_block] at this | exact this) GW678.out))) _).trans (((cell_far (p := ⟨ae, _, none⟩) (by first | exact Nat.ne_of_lt (Nat.lt_of_lt_of_le (by have := World.block_lt_of_cell? _ _ hw668_0; first | rwa [add_block] at this | exact this) GW678.out) | (rw [add_block]; exact Nat.ne_of_lt (Nat.lt_of_lt_of_le (by have := World.block_lt_of_cell? _ _ hw668_0; first | rwa [add_block] at this | exact this) GW678.out)) | (show (Addr.add _ _).block ≠ _; rw [add_block]; exact Nat.ne_of_lt (Nat.lt_of_lt_of_le (by have := World.block_lt_of_cell? _ _ hw668_0; first | rwa [add_block] at this | exact this) GW678.out)) | (dsimp only; exact Nat.ne_of_lt (Nat.lt_of_lt_of_le (by have := World.block_lt_of_cell? _ _ hw668_0; first | rwa [add_block] at this | exact this) GW678.out))) _).trans (((cell_far (p := ⟨ae, _, none⟩) (by first | exact Nat.ne_of_lt (Nat.lt_of_lt_of_le (by have := World.block_lt_of_cell? _ _ hw668_0; first | rwa [add_block] at this | exact this) GW678.out) | (rw [add_block]; exact Nat.ne_of_lt (Nat.lt_of_lt_of_le (by have := World.block_lt_of_cell? _ _ hw668_0; first | rwa [add_block] at this | exact this) GW678.out)) | (show (Addr.add _ _).block ≠ _; rw [add_block]; exact Nat.ne_of_lt (Nat.lt_of_lt_of_le (by have := World.block_lt_of_cell? _ _ hw668_0; first | rwa [add_block] at this | exact this) GW678.out)) | (dsimp only; exact Nat.ne_of_lt (Nat.lt_of_lt_of_le (by have := World.block_lt_of_cell? _ _ hw668_0; first | rwa [add_block] at this | exact this) GW678.out))) _).trans (((cell_far (p := ⟨ae, _, none⟩) (by first | exact Nat.ne_of_lt (Nat.lt_of_lt_of_le (by have := World.block_lt_of_cell? _ _ hw668_0; first | rwa [add_block] at this | exact this) GW678.out) | (rw [add_block]; exact Nat.ne_of_lt (Nat.lt_of_lt_of_le (by have := World.block_lt_of_cell? _ _ hw668_0; first | rwa [add_block] at this | exact this) GW678.out)) | (show (Addr.add _ _).block ≠ _; rw [add_block]; exact Nat.ne_of_lt (Nat.lt_of_lt_of_le (by have := World.block_lt_of_cell? _ _ hw668_0; first | rwa [add_block] at this | exact this) GW678.out)) | (dsimp only; exact Nat.ne_of_lt (Nat.lt_of_lt_of_le (by have := World.block_lt_of_cell? _ _ hw668_0; first | rwa [add_block] at this | exact this) GW678.out))) _).trans (hHeld.2.2.2.2))))))))⟩ (fun hHeld => ?_)
             clear hK K
             refine pure_ (i := 11) (N := some 11) (v := ?_) (a' := ?_) #[true, true, true, true, true, true, true, true, true, true, true, true] rfl rfl (any_of HT_.out (by kernel_rfl)) (fun _ _ _ h => h) (Or.inl ⟨by rfl, ?_⟩) ?_ ?_
             rotate_left
             ·intro w'
              go_simp
              with_reducible rfl
             rotate_left
             ·simp only [Act.put, List.setIfInBounds_toArray, List.set_cons_zero, List.set_cons_succ, i64_w, i32_w]
              rfl
             refine done_ (done_of HT_.out (by kernel_rfl)) ?_
             have p679 : 0 ≤ (x9_1 : Int) := od
             have q679 : x9_1 < (l1.length : Int) := od
             obtain ⟨ad679, e679, ac⟩ := Kd.at_int HR1.out x9_1 p679 q679
             obtain rfl : ad668 = ad679 := (by injection e679)
             have hn679_0 : ad668.block ≠ ae := Nat.ne_of_lt (Nat.lt_of_lt_of_le (by have := World.block_lt_of_cell? _ _ ac; first | rwa [add_block] at this | exact this) GW678.out)
             have hn679_1 : ad668.block ≠ ae := Nat.ne_of_lt (Nat.lt_of_lt_of_le (by have := World.block_lt_of_cell? _ _ ac; first | rwa [add_block] at this | exact this) GW678.out)
             have hn679_2 : ad668.block ≠ ae := Nat.ne_of_lt (Nat.lt_of_lt_of_le (by have := World.block_lt_of_cell? _ _ ac; first | rwa [add_block] at this | exact this) GW678.out)
             have hn679_3 : ad668.block ≠ ae := Nat.ne_of_lt (Nat.lt_of_lt_of_le (by have := World.block_lt_of_cell? _ _ ac; first | rwa [add_block] at this | exact this) GW678.out)
             replace ac := (HB.out.cell (World.block_lt_of_cell? w _ ac)).trans ac
             replace ac := (cell_far (p := ⟨ae, 0, none⟩) (by first | (rw [add_block]; exact hn679_0) | (show (Addr.add _ _).block ≠ _; rw [add_block]; exact hn679_0) | exact hn679_0) (.slice bo aj.length bj)).trans ac
             replace ac := (cell_far (p := ⟨ae, 1, none⟩) (by first | (rw [add_block]; exact hn679_1) | (show (Addr.add _ _).block ≠ _; rw [add_block]; exact hn679_1) | exact hn679_1) (.slice bp ak.length bk)).trans ac
             replace ac := (cell_far (p := ⟨ae, 2, none⟩) (by first | (rw [add_block]; exact hn679_2) | (show (Addr.add _ _).block ≠ _; rw [add_block]; exact hn679_2) | exact hn679_2) (.int .i64 an)).trans ac
             replace ac := (cell_far (p := ⟨ae, 3, none⟩) (by first | (rw [add_block]; exact hn679_3) | (show (Addr.add _ _).block ≠ _; rw [add_block]; exact hn679_3) | exact hn679_3) (.int .i64 ao)).trans ac
             clear hn679_0
             clear hn679_1
             clear hn679_2
             clear hn679_3
             replace p679 := eq_true p679
             replace q679 := eq_true q679
             have p680 : 0 ≤ (x9_1 : Int) := od
             have q680 : x9_1 < (l1.length : Int) := od
             obtain ⟨ad680, e680, ag⟩ := Kd.at_int HR1.out x9_1 p680 q680
             obtain rfl : ad668 = ad680 := (by injection e680)
             have hn680_0 : ad668.block ≠ ae := Nat.ne_of_lt (Nat.lt_of_lt_of_le (by have := World.block_lt_of_cell? _ _ ag; first | rwa [add_block] at this | exact this) GW678.out)
             have hn680_1 : ad668.block ≠ ae := Nat.ne_of_lt (Nat.lt_of_lt_of_le (by have := World.block_lt_of_cell? _ _ ag; first | rwa [add_block] at this | exact this) GW678.out)
             have hn680_2 : ad668.block ≠ ae := Nat.ne_of_lt (Nat.lt_of_lt_of_le (by have := World.block_lt_of_cell? _ _ ag; first | rwa [add_block] at this | exact this) GW678.out)
             have hn680_3 : ad668.block ≠ ae := Nat.ne_of_lt (Nat.lt_of_lt_of_le (by have := World.block_lt_of_cell? _ _ ag; first | rwa [add_block] at this | exact this) GW678.out)
             replace ag := (HB.out.cell (World.block_lt_of_cell? w _ ag)).trans ag
             replace ag := (cell_far (p := ⟨ae, 0, none⟩) (by first | (rw [add_block]; exact hn680_0) | (show (Addr.add _ _).block ≠ _; rw [add_block]; exact hn680_0) | exact hn680_0) (.slice bo aj.length bj)).trans ag
             replace ag := (cell_far (p := ⟨ae, 1, none⟩) (by first | (rw [add_block]; exact hn680_1) | (show (Addr.add _ _).block ≠ _; rw [add_block]; exact hn680_1) | exact hn680_1) (.slice bp ak.length bk)).trans ag
             replace ag := (cell_far (p := ⟨ae, 2, none⟩) (by first | (rw [add_block]; exact hn680_2) | (show (Addr.add _ _).block ≠ _; rw [add_block]; exact hn680_2) | exact hn680_2) (.int .i64 an)).trans ag
             replace ag := (cell_far (p := ⟨ae, 3, none⟩) (by first | (rw [add_block]; exact hn680_3) | (show (Addr.add _ _).block ≠ _; rw [add_block]; exact hn680_3) | exact hn680_3) (.int .i64 ao)).trans ag
             clear hn680_0
             clear hn680_1
             clear hn680_2
             clear hn680_3
             replace p680 := eq_true p680
             replace q680 := eq_true q680
             try go_wp2
             go_roundg k1
             case measure => have := HK1.out; omega
             case rel => exact ⟨(wrap64 (x9_1 + 1)), (x668000_1), (x668001_1), (x668002_1), (x668003_1), (.slice aW x668000_1.length aQ), (.slice aX x668001_1.length aR), (by first | rfl | (simp; done) | (simp [*]; done)), H', ⟨by have := HK1.out; omega⟩, ⟨Kd.pR (Kd.R_mono (Kd.R_far (p := ⟨ae, 3, none⟩) (Kd.R_far (p := ⟨ae, 2, none⟩) (Kd.R_far (p := ⟨ae, 1, none⟩) (Kd.R_far (p := ⟨ae, 0, none⟩) (Kd.R_types HO_668000.out ad.out (by decide)) (fun _ hk => hk.2) (.slice bo aj.length bj)) (fun _ hk => hk.2) (.slice bp ak.length bk)) (fun _ hk => hk.2) (.int .i64 an)) (fun _ hk => hk.2) (.int .i64 ao)) (fun _ hk => hk.1.2.2))⟩, ⟨Kd.pR (Kd.R_mono (Kd.R_far (p := ⟨ae, 3, none⟩) (Kd.R_far (p := ⟨ae, 2, none⟩) (Kd.R_far (p := ⟨ae, 1, none⟩) (Kd.R_far (p := ⟨ae, 0, none⟩) (Kd.R_types HO_668001.out ad.out (by decide)) (fun _ hk => hk.2) (.slice bo aj.length bj)) (fun _ hk => hk.2) (.slice bp ak.length bk)) (fun _ hk => hk.2) (.int .i64 an)) (fun _ hk => hk.2) (.int .i64 ao)) (fun _ hk => hk.1.2.2))⟩, ⟨by (with_reducible repeat (first | refine blk_drewN ?_ _ | refine blk_drew ?_ | refine blk_alloc ?_ _)); refine blk_far ?_ ab.out _; (with_reducible repeat (first | refine blk_drewN ?_ _ | refine blk_drew ?_ | refine blk_alloc ?_ _)); refine blk_far ?_ ab.out _; (with_reducible repeat (first | refine blk_drewN ?_ _ | refine blk_drew ?_ | refine blk_alloc ?_ _)); refine blk_far ?_ ab.out _; (with_reducible repeat (first | refine blk_drewN ?_ _ | refine blk_drew ?_ | refine blk_alloc ?_ _)); refine blk_far ?_ ab.out _; (with_reducible repeat (first | refine blk_drewN ?_ _ | refine blk_drew ?_ | refine blk_alloc ?_ _)); exact aa.out⟩, ⟨pB HB.out⟩⟩
            ·rw [if_neg c59] at H
             have c59b0 : (aq == 2) = false := beq_eq_false_iff_ne.mpr c59
             have c59b1 : (aq != 2) = true := bne_iff_ne.mpr c59
             exact absurd H (by simp)
           ·rw [if_neg c58] at H
            have c58b0 : decide (a0 ≤ (rd l1 x9_1)) = false := decide_eq_false c58
            clear c58
            by_cases c72 : aq = 0
            ·rw [if_pos c72] at H
             have c72b0 : (aq == 0) = true := beq_iff_eq.mpr c72
             have c72b1 : (aq != 0) = false := bne_eq_false_iff_eq.mpr c72
             clear c72
             replace H := Option.bind_eq_some_iff.mp H
             obtain ⟨a5, cD, H⟩ := H
             replace H : (if a5 = 0 then (spigotlaw15_LruUses.l0 k1 a0 l1 true (wrap64 (x9_1 + 1)) aj ak an ao) else (some false)) = some true := H
             have A73 := Aside0.mk cD
             (try clear cD)
             by_cases c74 : a5 = 0
             ·rw [if_pos c74] at H
              have c74b0 : (a5 == 0) = true := beq_iff_eq.mpr c74
              have c74b1 : (a5 != 0) = false := bne_eq_false_iff_eq.mpr c74
              clear c74
              have H' := Aside0.mk H
              clear H
              obtain ⟨aE, aC, dn⟩ := Kd.R_slice HO_668000.out
              subst dn
              obtain ⟨aD, ax, dp⟩ := Kd.R_slice HO_668001.out
              subst dp
              try go_wp2
              have n0_ := Aside0.mk (Kd.R_drew HO_668000.out)
              have n1_ := Aside0.mk (Kd.R_drew HO_668001.out)
              have n2_ := Aside0.mk (blk_drew aa.out)
              have n3_ := Aside0.mk (below_drew1 HB.out)
              clear HO_668000
              clear HO_668001
              clear aa
              clear HB
              have HO_668000 := n0_
              have HO_668001 := n1_
              have aa := n2_
              have HB := n3_
              clear n0_ n1_ n2_ n3_
              have p668 : 0 ≤ (x9_1 : Int) := od
              have q668 : x9_1 < (l1.length : Int) := od
              obtain ⟨ad668, e668, ar⟩ := Kd.at_int HR1.out x9_1 p668 q668
              have hw668_0 := ar
              cases e668
              replace ar := (HB.out.cell (World.block_lt_of_cell? w _ ar)).trans ar
              replace p668 := eq_true p668
              replace q668 := eq_true q668
              refine start_ (n := 12) (S := fun w' => w'.cell? ⟨ap, 0, none⟩ = some (.slice aE x668000_1.length aC) ∧ w'.cell? ⟨ap, 1, none⟩ = some (.slice aD x668001_1.length ax) ∧ w'.cell? ⟨ap, 2, none⟩ = some (.int .i64 x668002_1) ∧ w'.cell? ⟨ap, 3, none⟩ = some (.int .i64 x668003_1) ∧ w'.cell? (ad668.add (x9_1).toNat) = some (.int .i64 (rd l1 x9_1))) (ds := []) #[false, false, false, false, false, false, false, false, false, false, false, false] (by kernel_rfl) rfl rfl ⟨(blk_cell aa.out 0).trans rfl, (blk_cell aa.out 1).trans rfl, (blk_cell aa.out 2).trans rfl, (blk_cell aa.out 3).trans rfl, ((HB.out.cell (World.block_lt_of_cell? w _ hw668_0)).trans hw668_0)⟩ (fun hHeld => ?_); refine with_tabW spigotlaw15_LruUses.tab9 spigotlaw15_LruUses.bits9 (fun HT_ HW_ => ?_)
              generalize wr.drew = w77 at HO_668000 HO_668001 aa HB ar hHeld ⊢
              refine pure_ (i := 1) (N := some 62) (v := ?_) (a' := ?_) #[false, true, false, false, false, false, false, false, false, false, false, false] rfl rfl (any_of HT_.out (by kernel_rfl)) (fun _ _ _ h => h) (Or.inl ⟨by rfl, ?_⟩) ?_ ?_
              rotate_left
              ·intro w'
               go_simp
               with_reducible rfl
              rotate_left
              ·simp only [Act.put, List.setIfInBounds_toArray, List.set_cons_zero, List.set_cons_succ, i64_w, i32_w]
               rfl
              refine pure_ (i := 2) (N := some 63) (v := ?_) (a' := ?_) #[false, true, true, false, false, false, false, false, false, false, false, false] rfl rfl (any_of HT_.out (by kernel_rfl)) (fun _ _ _ h => h) (Or.inl ⟨by rfl, ?_⟩) ?_ ?_
              rotate_left
              ·intro w'
               go_simp
               with_reducible rfl
              rotate_left
              ·simp only [Act.put, List.setIfInBounds_toArray, List.set_cons_zero, List.set_cons_succ, i64_w, i32_w]
               rfl
              refine pure_ (i := 3) (N := some 64) (v := ?_) (a' := ?_) #[false, true, true, true, false, false, false, false, false, false, false, false] rfl rfl (any_of HT_.out (by kernel_rfl)) (fun _ _ _ h => h) (Or.inl ⟨by rfl, ?_⟩) ?_ ?_
              rotate_left
              ·intro w'
               go_simp
               with_reducible rfl
              rotate_left
              ·simp only [Act.put, List.setIfInBounds_toArray, List.set_cons_zero, List.set_cons_succ, i64_w, i32_w]
               rfl
              refine take_ (i := 0) (N := some 61) (v := ?_) (a' := ?_) #[true, true, true, true, false, false, false, false, false, false, false, false] rfl rfl (take_ofW HT_.out HW_.out (by kernel_rfl)) (fun _ _ _ h => h) (Or.inl ⟨by rfl, ?_⟩) hHeld ?_ ?_
              rotate_left
              ·rintro w' ⟨s0, s1, s2, s3, s4⟩
               go_simp
               with_reducible rfl
              rotate_left
              ·simp only [Act.put, List.setIfInBounds_toArray, List.set_cons_zero, List.set_cons_succ, i64_w, i32_w]
               rfl
              refine take_ (i := 4) (N := some 65) (v := ?_) (a' := ?_) #[true, true, true, true, true, false, false, false, false, false, false, false] rfl rfl (take_ofW HT_.out HW_.out (by kernel_rfl)) (fun _ _ _ h => h) (Or.inl ⟨by rfl, ?_⟩) hHeld ?_ ?_
              rotate_left
              ·rintro w' ⟨s0, s1, s2, s3, s4⟩
               go_simp
               with_reducible rfl
              rotate_left
              ·simp only [Act.put, List.setIfInBounds_toArray, List.set_cons_zero, List.set_cons_succ, i64_w, i32_w]
               rfl
              refine join_ (σ := Value × Value × Nat) 2 #[true, true, true, true, true, true, true, true, true, true, false, false] (fun s_ => [(66, .tuple #[.agg #[s_.1, s_.2.1, .int .i64 an, .int .i64 ao], .int .i64 aq]), (10, .pointer (some ⟨s_.2.2, 0, none⟩)), (60, .tuple #[.agg #[s_.1, s_.2.1, .int .i64 an, .int .i64 ao], .int .i64 aq]), (67, .agg #[s_.1, s_.2.1, .int .i64 an, .int .i64 ao]), (68, .int .i64 aq)]) (fun s_ w' => (w'.cell? ⟨ap, 0, none⟩ = some (.slice aE x668000_1.length aC) ∧ w'.cell? ⟨ap, 1, none⟩ = some (.slice aD x668001_1.length ax) ∧ w'.cell? ⟨ap, 2, none⟩ = some (.int .i64 x668002_1) ∧ w'.cell? ⟨ap, 3, none⟩ = some (.int .i64 x668003_1) ∧ w'.cell? (ad668.add (x9_1).toNat) = some (.int .i64 (rd l1 x9_1))) ∧ (Kd.R (Kd.int .i64) 3 w' w.heap.size (fun k_ => some k_ ≠ (s_.2.1 : Value).ownBlock ∧ some k_ ≠ (.slice aE x668000_1.length aC : Value).ownBlock ∧ some k_ ≠ (.slice aD x668001_1.length ax : Value).ownBlock) s_.1 aj) ∧ (Kd.R (Kd.int .i64) 3 w' w.heap.size (fun k_ => some k_ ≠ (s_.1 : Value).ownBlock ∧ some k_ ≠ (.slice aE x668000_1.length aC : Value).ownBlock ∧ some k_ ≠ (.slice aD x668001_1.length ax : Value).ownBlock) s_.2.1 ak) ∧ (Kd.R (Kd.int .i64) 3 w' w.heap.size (fun k_ => some k_ ≠ (s_.1 : Value).ownBlock ∧ some k_ ≠ (s_.2.1 : Value).ownBlock ∧ some k_ ≠ (.slice aD x668001_1.length ax : Value).ownBlock) (.slice aE x668000_1.length aC) x668000_1) ∧ (Kd.R (Kd.int .i64) 3 w' w.heap.size (fun k_ => some k_ ≠ (s_.1 : Value).ownBlock ∧ some k_ ≠ (s_.2.1 : Value).ownBlock ∧ some k_ ≠ (.slice aE x668000_1.length aC : Value).ownBlock) (.slice aD x668001_1.length ax) x668001_1) ∧ (w'.heap[ap]? = some (.cells #[.slice aE x668000_1.length aC, .slice aD x668001_1.length ax, .int .i64 x668002_1, .int .i64 x668003_1] 24 (0, 0))) ∧ (w'.heap[s_.2.2]? = some (.cells #[.slice none 0 0, .slice none 0 0, .int .i64 0, .int .i64 0] 24 (0, 0))) ∧ (w.heap.size ≤ s_.2.2) ∧ (w.heap.size ≤ s_.2.2) ∧ (ap ≠ s_.2.2) ∧ (s_.2.2 ≠ ap) ∧ (Below w.heap.size w w')) ?_ ?_
              rotate_left
              ·intro hCont
               refine two_ (i := 5) (j := 9) (Ni := some 66) (Nj := some 10) #[true, true, true, true, true, true, false, false, false, false, false, false] #[true, true, true, true, true, false, false, false, false, true, false, false] rfl rfl rfl rfl (two_of HT_.out (by kernel_rfl)) (by decide) (by decide) (fun K hK => ?_) (fun K hK => ?_)
               ·skip
                refine goes_ Try.func12 (by kernel_rfl) rfl #[.agg #[.slice aE x668000_1.length aC, .slice aD x668001_1.length ax, .int .i64 x668002_1, .int .i64 x668003_1], .int .i64 (rd l1 x9_1)] (by rfl) rfl rfl (by (try simp only [List.map_toArray, List.map_cons, List.map_nil]); first | done | rfl | (simp only [List.length_drop, List.length_take]; rfl)) ?_
                with_reducible refine (lru_Touch.calls k1 _ _ x668000_1 _ _ x668001_1 x668002_1 x668003_1 (rd l1 x9_1) aj ak an ao aq _ ?side1 ?side2 ?side3 ?side4 A43.out).mono ?_
                (case side1 => exact Kd.pC ((Kd.R_reads' HO_668000.out).2.2))
                (case side2 => exact (Kd.R_reads' HO_668000.out).2.1)
                (case side3 => exact Kd.pC ((Kd.R_reads' HO_668001.out).2.2))
                (case side4 => exact (Kd.R_reads' HO_668001.out).2.1)
                rintro e w78 ⟨aJ, av, rfl, ho0, ho1, hb⟩
                refine ⟨_, rfl, ?_⟩
                have n0_ := Aside0.mk (Kd.R_mono (Kd.R_told (Kd.R_told (Kd.R_old (Kd.pR HO_668000.out) hb) (Kd.R_base ho0)) (Kd.R_base ho1)) (fun _ h_ => h_.1))
                have n1_ := Aside0.mk (Kd.R_mono (Kd.R_told (Kd.R_told (Kd.R_old (Kd.pR HO_668001.out) hb) (Kd.R_base ho0)) (Kd.R_base ho1)) (fun _ h_ => h_.1))
                have n2_ := Aside0.mk (Kd.R_lower (Kd.R_new' (Kd.R_new' ho0 (Kd.R_lt (Kd.pR HO_668000.out))) (Kd.R_lt (Kd.pR HO_668001.out))) (below_size (pB HB.out)))
                have n3_ := Aside0.mk (Kd.R_lower (Kd.R_new' (Kd.R_new' ho1 (Kd.R_lt (Kd.pR HO_668000.out))) (Kd.R_lt (Kd.pR HO_668001.out))) (below_size (pB HB.out)))
                have n4_ := Aside0.mk (blk_below (pK aa.out) hb)
                have n5_ := Aside0.mk (below_step (pB HB.out) hb)
                clear HO_668000
                clear HO_668001
                clear aa
                clear HB
                have HO_668000 := n0_
                have HO_668001 := n1_
                have al := n2_
                have am := n3_
                have aa := n4_
                have HB := n5_
                clear n0_ n1_ n2_ n3_ n4_ n5_
                (try clear hb)
                (try clear hb2)
                (try clear hk)
                (try clear hi)
                (try clear ho0)
                (try clear ho1)
                refine hK.out _ _ ⟨(blk_cell aa.out 0).trans rfl, (blk_cell aa.out 1).trans rfl, (blk_cell aa.out 2).trans rfl, (blk_cell aa.out 3).trans rfl, ((HB.out.cell (World.block_lt_of_cell? w _ hw668_0)).trans hw668_0)⟩ (fun hHeld => ?_)
                clear hK K
                refine norm_ (a' := ?_) ?_ ?_
                rotate_left
                ·show Act.put _ (some 66) _ = _
                 simp only [Act.put, List.setIfInBounds_toArray, List.set_cons_zero, List.set_cons_succ, i64_w, i32_w]
                 rfl
                refine pure_ (i := 6) (N := some 60) (v := ?_) (a' := ?_) #[true, true, true, true, true, true, true, false, false, false, false, false] rfl rfl (any_of HT_.out (by kernel_rfl)) (fun _ _ _ h => h) (Or.inl ⟨by rfl, ?_⟩) ?_ ?_
                rotate_left
                ·intro w'
                 go_simp
                 with_reducible rfl
                rotate_left
                ·simp only [Act.put, List.setIfInBounds_toArray, List.set_cons_zero, List.set_cons_succ, i64_w, i32_w]
                 rfl
                refine pure_ (i := 7) (N := some 67) (v := ?_) (a' := ?_) #[true, true, true, true, true, true, true, true, false, false, false, false] rfl rfl (any_of HT_.out (by kernel_rfl)) (fun _ _ _ h => h) (Or.inl ⟨by rfl, ?_⟩) ?_ ?_
                rotate_left
                ·intro w'
                 go_simp
                 with_reducible rfl
                rotate_left
                ·simp only [Act.put, List.setIfInBounds_toArray, List.set_cons_zero, List.set_cons_succ, i64_w, i32_w]
                 rfl
                refine pure_ (i := 8) (N := some 68) (v := ?_) (a' := ?_) #[true, true, true, true, true, true, true, true, true, false, false, false] rfl rfl (any_of HT_.out (by kernel_rfl)) (fun _ _ _ h => h) (Or.inl ⟨by rfl, ?_⟩) ?_ ?_
                rotate_left
                ·intro w'
                 go_simp
                 with_reducible rfl
                rotate_left
                ·simp only [Act.put, List.setIfInBounds_toArray, List.set_cons_zero, List.set_cons_succ, i64_w, i32_w]
                 rfl
                refine one_ (i := 9) (N := some 10) #[true, true, true, true, true, true, true, true, true, true, false, false] rfl rfl (one_of HT_.out (by kernel_rfl)) (by decide) (fun K hK => ?_)
                refine box_step ?hg (N := 10) ?hd (cs := #[.slice none 0 0, .slice none 0 0, .int .i64 0, .int .i64 0]) (t := 24) ?hr ?_; (case hd => rfl); (case hg => rfl); (case hr => first | (go_simp; done) | (go_simp; rfl))
                intro ae hg w79 hbox hb
                have n0_ := Rb1 HO_668000 hb
                have n1_ := Rb1 HO_668001 hb
                have n2_ := Rb1 al hb
                have n3_ := Rb1 am hb
                have n4_ := Aside0.mk (blk_below (pK aa.out) hb)
                have n5_ := Aside0.mk (below_step (pB HB.out) hb)
                have n6_ := Aside0.mk (hbox)
                have n7_ := Aside0.mk (pL HB.out hg)
                have n8_ := Aside0.mk (pL HB.out hg)
                have n9_ := Aside0.mk (pNl aa.out hg)
                have n10_ := Aside0.mk (pNg aa.out hg)
                clear HO_668000
                clear HO_668001
                clear al
                clear am
                clear aa
                clear HB
                have HO_668000 := n0_
                have HO_668001 := n1_
                have al := n2_
                have am := n3_
                have aa := n4_
                have HB := n5_
                have ad := n6_
                have GW678 := n7_
                have aI := n8_
                have ab := n9_
                have af := n10_
                clear n0_ n1_ n2_ n3_ n4_ n5_ n6_ n7_ n8_ n9_ n10_
                clear hb hbox hg
                refine hK.out _ _ ⟨(blk_cell aa.out 0).trans rfl, (blk_cell aa.out 1).trans rfl, (blk_cell aa.out 2).trans rfl, (blk_cell aa.out 3).trans rfl, ((HB.out.cell (World.block_lt_of_cell? w _ hw668_0)).trans hw668_0)⟩ (fun hHeld => ?_)
                clear hK K
                refine norm_ (a' := ?_) ?_ ?_
                rotate_left
                ·show Act.put _ (some 10) _ = _
                 simp only [Act.put, List.setIfInBounds_toArray, List.set_cons_zero, List.set_cons_succ, i64_w, i32_w]
                 rfl
                exact norm_ (by simp only [putAll, Act.put, List.setIfInBounds_toArray, List.set_cons_zero, List.set_cons_succ]) (hCont (aJ, av, ae) _ ⟨hHeld, (Kd.pR (Kd.R_mono al.out (fun _ hk => ⟨hk.1.1, ⟨hk.1.2, hk.2⟩⟩))), (Kd.pR (Kd.R_mono am.out (fun _ hk => ⟨hk.1.1, ⟨hk.1.2, hk.2⟩⟩))), (Kd.pR (Kd.R_mono HO_668000.out (fun _ hk => ⟨hk.1.2, ⟨hk.2, hk.1.1⟩⟩))), (Kd.pR (Kd.R_mono HO_668001.out (fun _ hk => ⟨hk.1.2, ⟨hk.2, hk.1.1⟩⟩))), (pK aa.out), (pK ad.out), GW678.out, aI.out, ab.out, af.out, (pB HB.out)⟩)
               ·skip
                refine box_step ?hg (N := 10) ?hd (cs := #[.slice none 0 0, .slice none 0 0, .int .i64 0, .int .i64 0]) (t := 24) ?hr ?_; (case hd => rfl); (case hg => rfl); (case hr => first | (go_simp; done) | (go_simp; rfl))
                intro ae hg w78 hbox hb
                have n0_ := Rb1 HO_668000 hb
                have n1_ := Rb1 HO_668001 hb
                have n2_ := Aside0.mk (blk_below (pK aa.out) hb)
                have n3_ := Aside0.mk (below_step (pB HB.out) hb)
                have n4_ := Aside0.mk (hbox)
                have n5_ := Aside0.mk (pL HB.out hg)
                have n6_ := Aside0.mk (pL HB.out hg)
                have n7_ := Aside0.mk (pNl aa.out hg)
                have n8_ := Aside0.mk (pNg aa.out hg)
                clear HO_668000
                clear HO_668001
                clear aa
                clear HB
                have HO_668000 := n0_
                have HO_668001 := n1_
                have aa := n2_
                have HB := n3_
                have ad := n4_
                have GW678 := n5_
                have aI := n6_
                have ab := n7_
                have af := n8_
                clear n0_ n1_ n2_ n3_ n4_ n5_ n6_ n7_ n8_
                clear hb hbox hg
                refine hK.out _ _ ⟨(blk_cell aa.out 0).trans rfl, (blk_cell aa.out 1).trans rfl, (blk_cell aa.out 2).trans rfl, (blk_cell aa.out 3).trans rfl, ((HB.out.cell (World.block_lt_of_cell? w _ hw668_0)).trans hw668_0)⟩ (fun hHeld => ?_)
                clear hK K
                refine norm_ (a' := ?_) ?_ ?_
                rotate_left
                ·show Act.put _ (some 10) _ = _
                 simp only [Act.put, List.setIfInBounds_toArray, List.set_cons_zero, List.set_cons_succ, i64_w, i32_w]
                 rfl
                refine one_ (i := 5) (N := some 66) #[true, true, true, true, true, true, false, false, false, true, false, false] rfl rfl (one_of HT_.out (by kernel_rfl)) (by decide) (fun K hK => ?_)
                refine goes_ Try.func12 (by kernel_rfl) rfl #[.agg #[.slice aE x668000_1.length aC, .slice aD x668001_1.length ax, .int .i64 x668002_1, .int .i64 x668003_1], .int .i64 (rd l1 x9_1)] (by rfl) rfl rfl (by (try simp only [List.map_toArray, List.map_cons, List.map_nil]); first | done | rfl | (simp only [List.length_drop, List.length_take]; rfl)) ?_
                with_reducible refine (lru_Touch.calls k1 _ _ x668000_1 _ _ x668001_1 x668002_1 x668003_1 (rd l1 x9_1) aj ak an ao aq _ ?side1 ?side2 ?side3 ?side4 A43.out).mono ?_
                (case side1 => exact Kd.pC ((Kd.R_reads' HO_668000.out).2.2))
                (case side2 => exact (Kd.R_reads' HO_668000.out).2.1)
                (case side3 => exact Kd.pC ((Kd.R_reads' HO_668001.out).2.2))
                (case side4 => exact (Kd.R_reads' HO_668001.out).2.1)
                rintro e w79 ⟨aJ, av, rfl, ho0, ho1, hb⟩
                refine ⟨_, rfl, ?_⟩
                have n0_ := Aside0.mk (Kd.R_mono (Kd.R_told (Kd.R_told (Kd.R_old (Kd.pR HO_668000.out) hb) (Kd.R_base ho0)) (Kd.R_base ho1)) (fun _ h_ => h_.1))
                have n1_ := Aside0.mk (Kd.R_mono (Kd.R_told (Kd.R_told (Kd.R_old (Kd.pR HO_668001.out) hb) (Kd.R_base ho0)) (Kd.R_base ho1)) (fun _ h_ => h_.1))
                have n2_ := Aside0.mk (Kd.R_lower (Kd.R_new' (Kd.R_new' ho0 (Kd.R_lt (Kd.pR HO_668000.out))) (Kd.R_lt (Kd.pR HO_668001.out))) (below_size (pB HB.out)))
                have n3_ := Aside0.mk (Kd.R_lower (Kd.R_new' (Kd.R_new' ho1 (Kd.R_lt (Kd.pR HO_668000.out))) (Kd.R_lt (Kd.pR HO_668001.out))) (below_size (pB HB.out)))
                have n4_ := Aside0.mk (blk_below (pK aa.out) hb)
                have n5_ := Aside0.mk (blk_below (pK ad.out) hb)
                have n6_ := Aside0.mk (below_step (pB HB.out) hb)
                clear HO_668000
                clear HO_668001
                clear aa
                clear ad
                clear HB
                have HO_668000 := n0_
                have HO_668001 := n1_
                have al := n2_
                have am := n3_
                have aa := n4_
                have ad := n5_
                have HB := n6_
                clear n0_ n1_ n2_ n3_ n4_ n5_ n6_
                (try clear hb)
                (try clear hb2)
                (try clear hk)
                (try clear hi)
                (try clear ho0)
                (try clear ho1)
                refine hK.out _ _ ⟨(blk_cell aa.out 0).trans rfl, (blk_cell aa.out 1).trans rfl, (blk_cell aa.out 2).trans rfl, (blk_cell aa.out 3).trans rfl, ((HB.out.cell (World.block_lt_of_cell? w _ hw668_0)).trans hw668_0)⟩ (fun hHeld => ?_)
                clear hK K
                refine norm_ (a' := ?_) ?_ ?_
                rotate_left
                ·show Act.put _ (some 66) _ = _
                 simp only [Act.put, List.setIfInBounds_toArray, List.set_cons_zero, List.set_cons_succ, i64_w, i32_w]
                 rfl
                refine pure_ (i := 6) (N := some 60) (v := ?_) (a' := ?_) #[true, true, true, true, true, true, true, false, false, true, false, false] rfl rfl (any_of HT_.out (by kernel_rfl)) (fun _ _ _ h => h) (Or.inl ⟨by rfl, ?_⟩) ?_ ?_
                rotate_left
                ·intro w'
                 go_simp
                 with_reducible rfl
                rotate_left
                ·simp only [Act.put, List.setIfInBounds_toArray, List.set_cons_zero, List.set_cons_succ, i64_w, i32_w]
                 rfl
                refine pure_ (i := 7) (N := some 67) (v := ?_) (a' := ?_) #[true, true, true, true, true, true, true, true, false, true, false, false] rfl rfl (any_of HT_.out (by kernel_rfl)) (fun _ _ _ h => h) (Or.inl ⟨by rfl, ?_⟩) ?_ ?_
                rotate_left
                ·intro w'
                 go_simp
                 with_reducible rfl
                rotate_left
                ·simp only [Act.put, List.setIfInBounds_toArray, List.set_cons_zero, List.set_cons_succ, i64_w, i32_w]
                 rfl
                refine pure_ (i := 8) (N := some 68) (v := ?_) (a' := ?_) #[true, true, true, true, true, true, true, true, true, true, false, false] rfl rfl (any_of HT_.out (by kernel_rfl)) (fun _ _ _ h => h) (Or.inl ⟨by rfl, ?_⟩) ?_ ?_
                rotate_left
                ·intro w'
                 go_simp
                 with_reducible rfl
                rotate_left
                ·simp only [Act.put, List.setIfInBounds_toArray, List.set_cons_zero, List.set_cons_succ, i64_w, i32_w]
                 rfl
                exact norm_ (by simp only [putAll, Act.put, List.setIfInBounds_toArray, List.set_cons_zero, List.set_cons_succ]) (hCont (aJ, av, ae) _ ⟨hHeld, (Kd.pR (Kd.R_mono al.out (fun _ hk => ⟨hk.1.1, ⟨hk.1.2, hk.2⟩⟩))), (Kd.pR (Kd.R_mono am.out (fun _ hk => ⟨hk.1.1, ⟨hk.1.2, hk.2⟩⟩))), (Kd.pR (Kd.R_mono HO_668000.out (fun _ hk => ⟨hk.1.2, ⟨hk.2, hk.1.1⟩⟩))), (Kd.pR (Kd.R_mono HO_668001.out (fun _ hk => ⟨hk.1.2, ⟨hk.2, hk.1.1⟩⟩))), (pK aa.out), (pK ad.out), GW678.out, aI.out, ab.out, af.out, (pB HB.out)⟩)
              rintro ⟨aJ, av, ae⟩ w80 ⟨hS_, h0_, h1_, h2_, h3_, h4_, h5_, h6_, h7_, h8_, h9_, h10_⟩
              have n0_ : Aside0 (Kd.R (Kd.int .i64) 3 w80 w.heap.size (fun k_ => some k_ ≠ (av : Value).ownBlock ∧ some k_ ≠ (.slice aE x668000_1.length aC : Value).ownBlock ∧ some k_ ≠ (.slice aD x668001_1.length ax : Value).ownBlock) aJ aj) := ⟨h0_⟩
              have n1_ : Aside0 (Kd.R (Kd.int .i64) 3 w80 w.heap.size (fun k_ => some k_ ≠ (aJ : Value).ownBlock ∧ some k_ ≠ (.slice aE x668000_1.length aC : Value).ownBlock ∧ some k_ ≠ (.slice aD x668001_1.length ax : Value).ownBlock) av ak) := ⟨h1_⟩
              have n2_ : Aside0 (Kd.R (Kd.int .i64) 3 w80 w.heap.size (fun k_ => some k_ ≠ (aJ : Value).ownBlock ∧ some k_ ≠ (av : Value).ownBlock ∧ some k_ ≠ (.slice aD x668001_1.length ax : Value).ownBlock) (.slice aE x668000_1.length aC) x668000_1) := ⟨h2_⟩
              have n3_ : Aside0 (Kd.R (Kd.int .i64) 3 w80 w.heap.size (fun k_ => some k_ ≠ (aJ : Value).ownBlock ∧ some k_ ≠ (av : Value).ownBlock ∧ some k_ ≠ (.slice aE x668000_1.length aC : Value).ownBlock) (.slice aD x668001_1.length ax) x668001_1) := ⟨h3_⟩
              have n4_ : Aside0 (w80.heap[ap]? = some (.cells #[.slice aE x668000_1.length aC, .slice aD x668001_1.length ax, .int .i64 x668002_1, .int .i64 x668003_1] 24 (0, 0))) := ⟨h4_⟩
              have n5_ : Aside0 (w80.heap[ae]? = some (.cells #[.slice none 0 0, .slice none 0 0, .int .i64 0, .int .i64 0] 24 (0, 0))) := ⟨h5_⟩
              have n6_ : Aside0 (w.heap.size ≤ ae) := ⟨h6_⟩
              have n7_ : Aside0 (w.heap.size ≤ ae) := ⟨h7_⟩
              have n8_ : Aside0 (ap ≠ ae) := ⟨h8_⟩
              have n9_ : Aside0 (ae ≠ ap) := ⟨h9_⟩
              have n10_ : Aside0 (Below w.heap.size w w80) := ⟨h10_⟩
              clear HO_668000
              clear HO_668001
              clear aa
              clear HB
              clear h0_ h1_ h2_ h3_ h4_ h5_ h6_ h7_ h8_ h9_ h10_
              have al := n0_
              have am := n1_
              have HO_668000 := n2_
              have HO_668001 := n3_
              have aa := n4_
              have ad := n5_
              have GW678 := n6_
              have aI := n7_
              have ab := n8_
              have af := n9_
              have HB := n10_
              clear n0_ n1_ n2_ n3_ n4_ n5_ n6_ n7_ n8_ n9_ n10_
              have hHeld : w80.cell? ⟨ap, 0, none⟩ = some (.slice aE x668000_1.length aC) ∧ w80.cell? ⟨ap, 1, none⟩ = some (.slice aD x668001_1.length ax) ∧ w80.cell? ⟨ap, 2, none⟩ = some (.int .i64 x668002_1) ∧ w80.cell? ⟨ap, 3, none⟩ = some (.int .i64 x668003_1) ∧ w80.cell? (ad668.add (x9_1).toNat) = some (.int .i64 (rd l1 x9_1)) := hS_
              obtain ⟨aH, ay, cE⟩ := Kd.R_slice al.out
              (first | subst cE | (injection cE with f1_ f2_ f3_; have f4_ := f1_.symm; have f5_ := f3_.symm; clear f1_ f2_ f3_; subst f4_; subst f5_))
              obtain ⟨aT, aG, cF⟩ := Kd.R_slice am.out
              (first | subst cF | (injection cF with f1_ f2_ f3_; have f4_ := f1_.symm; have f5_ := f3_.symm; clear f1_ f2_ f3_; subst f4_; subst f5_))
              refine norm_ (a' := ?_) ?_ ?_
              rotate_left
              ·simp only [putAll, Act.put, List.setIfInBounds_toArray, List.set_cons_zero, List.set_cons_succ]
               rfl
              refine one_ (i := 10) (N := none) #[true, true, true, true, true, true, true, true, true, true, true, false] rfl rfl (one_of HT_.out (by kernel_rfl)) (by decide) (fun K hK => ?_)
              have hs82 : w80.cell? ⟨ae, 0, none⟩ = some (.slice none 0 0) := (blk_cell ad.out 0).trans rfl
              have hfs82 := blk_frozen ad.out 0
              have hns82_0 := ab.out
              have hms82_0 := af.out
              have hs84 : w80.cell? ⟨ae, 1, none⟩ = some (.slice none 0 0) := (blk_cell ad.out 1).trans rfl
              have hfs84 := blk_frozen ad.out 1
              have hns84_0 := ab.out
              have hms84_0 := af.out
              have hs85 : w80.cell? ⟨ae, 2, none⟩ = some (.int .i64 0) := (blk_cell ad.out 2).trans rfl
              have hfs85 := blk_frozen ad.out 2
              have hns85_0 := ab.out
              have hms85_0 := af.out
              have hs86 : w80.cell? ⟨ae, 3, none⟩ = some (.int .i64 0) := (blk_cell ad.out 3).trans rfl
              have hfs86 := blk_frozen ad.out 3
              have hns86_0 := ab.out
              have hms86_0 := af.out
              refine skip_ (w1 := ?_) (by rfl) rfl ?_ ?_
              rotate_left
              ·go_simp
               rfl
              refine hK.out _ _ ⟨((cell_far (p := ⟨ae, _, none⟩) ab.out _).trans (((cell_far (p := ⟨ae, _, none⟩) ab.out _).trans (((cell_far (p := ⟨ae, _, none⟩) ab.out _).trans (((cell_far (p := ⟨ae, _, none⟩) ab.out _).trans (hHeld.1)))))))), ((cell_far (p := ⟨ae, _, none⟩) ab.out _).trans (((cell_far (p := ⟨ae, _, none⟩) ab.out _).trans (((cell_far (p := ⟨ae, _, none⟩) ab.out _).trans (((cell_far (p := ⟨ae, _, none⟩) ab.out _).trans (hHeld.2.1)))))))), ((cell_far (p := ⟨ae, _, none⟩) ab.out _).trans (((cell_far (p := ⟨ae, _, none⟩) ab.out _).trans (((cell_far (p := ⟨ae, _, none⟩) ab.out _).trans (((cell_far (p := ⟨ae, _, none⟩) ab.out _).trans (hHeld.2.2.1)))))))), ((cell_far (p := ⟨ae, _, none⟩) ab.out _).trans (((cell_far (p := ⟨ae, _, none⟩) ab.out _).trans (((cell_far (p := ⟨ae, _, none⟩) ab.out _).trans (((cell_far (p := ⟨ae, _, none⟩) ab.out _).trans (hHeld.2.2.2.1)))))))), ((cell_far (p := ⟨ae, _, none⟩) (by first | exact Nat.ne_of_lt (Nat.lt_of_lt_of_le (by have := World.block_lt_of_cell? _ _ hw668_0; first | rwa [add_block] at this | exact this) GW678.out) | (rw [add_block]; exact Nat.ne_of_lt (Nat.lt_of_lt_of_le (by have := World.block_lt_of_cell? _ _ hw668_0; first | rwa [add_block] at this | exact this) GW678.out)) | (show (Addr.add _ _).block ≠ _; rw [add_block]; exact Nat.ne_of_lt (Nat.lt_of_lt_of_le (by have := World.block_lt_of_cell? _ _ hw668_0; first | rwa [add_block] at this | exact this) GW678.out)) | (dsimp only; exact Nat.ne_of_lt (Nat.lt_of_lt_of_le (by have := World.block_lt_of_cell? _ _ hw668_0; first | rwa [add_block] at this | exact this) GW678.out))) _).trans (((cell_far (p := ⟨ae, _, none⟩) (by first | exact Nat.ne_of_lt (Nat.lt_of_lt_of_le (by have := World.block_lt_of_cell? _ _ hw668_0; first | rwa [add_block] at this | exact this) GW678.out) | (rw [add_block]; exact Nat.ne_of_lt (Nat.lt_of_lt_of_le (by have := World.block_lt_of_cell? _ _ hw668_0; first | rwa [add_block] at this | exact this) GW678.out)) | (show (Addr.add _ _).block ≠ _; rw [add_block]; exact Nat.ne_of_lt (Nat.lt_of_lt_of_le (by have := World.block_lt_of_cell? _ _ hw668_0; first | rwa [add_block] at this | exact this) GW678.out)) | (dsimp only; exact Nat.ne_of_lt (Nat.lt_of_lt_of_le (by have := World.block_lt_of_cell? _ _ hw668_0; first | rwa [add_block] at this | exact this) GW678.out))) _).trans (((cell_far (p := ⟨ae, _, none⟩) (by first | exact Nat.ne_of_lt (Nat.lt_of_lt_of_le (by have := World.block_lt_of_cell? _ _ hw668_0; first | rwa [add_block] at this | exact this) GW678.out) | (rw [add_block]; exact Nat.ne_of_lt (Nat.lt_of_lt_of_le (by have := World.block_lt_of_cell? _ _ hw668_0; first | rwa [add_block] at this | exact this) GW678.out)) | (show (Addr.add _ _).block ≠ _; rw [add_block]; exact Nat.ne_of_lt (Nat.lt_of_lt_of_le (by have := World.block_lt_of_cell? _ _ hw668_0; first | rwa [add_block] at this | exact this) GW678.out)) | (dsimp only; exact Nat.ne_of_lt (Nat.lt_of_lt_of_le (by have := World.block_lt_of_cell? _ _ hw668_0; first | rwa [add_block] at this | exact this) GW678.out))) _).trans (((cell_far (p := ⟨ae, _, none⟩) (by first | exact Nat.ne_of_lt (Nat.lt_of_lt_of_le (by have := World.block_lt_of_cell? _ _ hw668_0; first | rwa [add_block] at this | exact this) GW678.out) | (rw [add_block]; exact Nat.ne_of_lt (Nat.lt_of_lt_of_le (by have := World.block_lt_of_cell? _ _ hw668_0; first | rwa [add_block] at this | exact this) GW678.out)) | (show (Addr.add _ _).block ≠ _; rw [add_block]; exact Nat.ne_of_lt (Nat.lt_of_lt_of_le (by have := World.block_lt_of_cell? _ _ hw668_0; first | rwa [add_block] at this | exact this) GW678.out)) | (dsimp only; exact Nat.ne_of_lt (Nat.lt_of_lt_of_le (by have := World.block_lt_of_cell? _ _ hw668_0; first | rwa [add_block] at this | exact this) GW678.out))) _).trans (hHeld.2.2.2.2))))))))⟩ (fun hHeld => ?_)
              clear hK K
              refine pure_ (i := 11) (N := some 11) (v := ?_) (a' := ?_) #[true, true, true, true, true, true, true, true, true, true, true, true] rfl rfl (any_of HT_.out (by kernel_rfl)) (fun _ _ _ h => h) (Or.inl ⟨by rfl, ?_⟩) ?_ ?_
              rotate_left
              ·intro w'
               go_simp
               with_reducible rfl
              rotate_left
              ·simp only [Act.put, List.setIfInBounds_toArray, List.set_cons_zero, List.set_cons_succ, i64_w, i32_w]
               rfl
              refine done_ (done_of HT_.out (by kernel_rfl)) ?_
              have p679 : 0 ≤ (x9_1 : Int) := od
              have q679 : x9_1 < (l1.length : Int) := od
              obtain ⟨ad679, e679, ac⟩ := Kd.at_int HR1.out x9_1 p679 q679
              obtain rfl : ad668 = ad679 := (by injection e679)
              have hn679_0 : ad668.block ≠ ae := Nat.ne_of_lt (Nat.lt_of_lt_of_le (by have := World.block_lt_of_cell? _ _ ac; first | rwa [add_block] at this | exact this) GW678.out)
              have hn679_1 : ad668.block ≠ ae := Nat.ne_of_lt (Nat.lt_of_lt_of_le (by have := World.block_lt_of_cell? _ _ ac; first | rwa [add_block] at this | exact this) GW678.out)
              have hn679_2 : ad668.block ≠ ae := Nat.ne_of_lt (Nat.lt_of_lt_of_le (by have := World.block_lt_of_cell? _ _ ac; first | rwa [add_block] at this | exact this) GW678.out)
              have hn679_3 : ad668.block ≠ ae := Nat.ne_of_lt (Nat.lt_of_lt_of_le (by have := World.block_lt_of_cell? _ _ ac; first | rwa [add_block] at this | exact this) GW678.out)
              replace ac := (HB.out.cell (World.block_lt_of_cell? w _ ac)).trans ac
              replace ac := (cell_far (p := ⟨ae, 0, none⟩) (by first | (rw [add_block]; exact hn679_0) | (show (Addr.add _ _).block ≠ _; rw [add_block]; exact hn679_0) | exact hn679_0) (.slice aH aj.length ay)).trans ac
              replace ac := (cell_far (p := ⟨ae, 1, none⟩) (by first | (rw [add_block]; exact hn679_1) | (show (Addr.add _ _).block ≠ _; rw [add_block]; exact hn679_1) | exact hn679_1) (.slice aT ak.length aG)).trans ac
              replace ac := (cell_far (p := ⟨ae, 2, none⟩) (by first | (rw [add_block]; exact hn679_2) | (show (Addr.add _ _).block ≠ _; rw [add_block]; exact hn679_2) | exact hn679_2) (.int .i64 an)).trans ac
              replace ac := (cell_far (p := ⟨ae, 3, none⟩) (by first | (rw [add_block]; exact hn679_3) | (show (Addr.add _ _).block ≠ _; rw [add_block]; exact hn679_3) | exact hn679_3) (.int .i64 ao)).trans ac
              (try clear hn679_0)
              (try clear hn679_1)
              (try clear hn679_2)
              (try clear hn679_3)
              replace p679 := eq_true p679
              replace q679 := eq_true q679
              have p680 : 0 ≤ (x9_1 : Int) := od
              have q680 : x9_1 < (l1.length : Int) := od
              obtain ⟨ad680, e680, ag⟩ := Kd.at_int HR1.out x9_1 p680 q680
              obtain rfl : ad668 = ad680 := (by injection e680)
              have hn680_0 : ad668.block ≠ ae := Nat.ne_of_lt (Nat.lt_of_lt_of_le (by have := World.block_lt_of_cell? _ _ ag; first | rwa [add_block] at this | exact this) GW678.out)
              have hn680_1 : ad668.block ≠ ae := Nat.ne_of_lt (Nat.lt_of_lt_of_le (by have := World.block_lt_of_cell? _ _ ag; first | rwa [add_block] at this | exact this) GW678.out)
              have hn680_2 : ad668.block ≠ ae := Nat.ne_of_lt (Nat.lt_of_lt_of_le (by have := World.block_lt_of_cell? _ _ ag; first | rwa [add_block] at this | exact this) GW678.out)
              have hn680_3 : ad668.block ≠ ae := Nat.ne_of_lt (Nat.lt_of_lt_of_le (by have := World.block_lt_of_cell? _ _ ag; first | rwa [add_block] at this | exact this) GW678.out)
              replace ag := (HB.out.cell (World.block_lt_of_cell? w _ ag)).trans ag
              replace ag := (cell_far (p := ⟨ae, 0, none⟩) (by first | (rw [add_block]; exact hn680_0) | (show (Addr.add _ _).block ≠ _; rw [add_block]; exact hn680_0) | exact hn680_0) (.slice aH aj.length ay)).trans ag
              replace ag := (cell_far (p := ⟨ae, 1, none⟩) (by first | (rw [add_block]; exact hn680_1) | (show (Addr.add _ _).block ≠ _; rw [add_block]; exact hn680_1) | exact hn680_1) (.slice aT ak.length aG)).trans ag
              replace ag := (cell_far (p := ⟨ae, 2, none⟩) (by first | (rw [add_block]; exact hn680_2) | (show (Addr.add _ _).block ≠ _; rw [add_block]; exact hn680_2) | exact hn680_2) (.int .i64 an)).trans ag
              replace ag := (cell_far (p := ⟨ae, 3, none⟩) (by first | (rw [add_block]; exact hn680_3) | (show (Addr.add _ _).block ≠ _; rw [add_block]; exact hn680_3) | exact hn680_3) (.int .i64 ao)).trans ag
              (try clear hn680_0)
              (try clear hn680_1)
              (try clear hn680_2)
              (try clear hn680_3)
              replace p680 := eq_true p680
              replace q680 := eq_true q680
              have ei := af.out
              have ej := ab.out
              obtain ⟨ee, ca, cb, cc, cd, ce, cf, cg⟩ := bk4 ad.out
              try go_wp2_with (first | (go_at_call 22; (with_reducible refine (spigotref15_Check.calls k1 _ _ aj _ _ ak an ao a5 _ ?side1 ?side2 ?side3 ?side4 A73.out).mono ?_); (case side1 => refine (Kd.R_reads' (e := 3) (base := w.heap.size) (ok := fun k_ => (some k_ ≠ (.slice aT ak.length aG : Value).ownBlock ∧ (some k_ ≠ (.slice aE x668000_1.length aC : Value).ownBlock ∧ some k_ ≠ (.slice aD x668001_1.length ax : Value).ownBlock))) (n := aj.length) (c := ay) ?_).2.2; exact (Kd.pR ((Far4 al.out ad.out (.slice aH aj.length ay) (.slice aT ak.length aG) (.int .i64 an) (.int .i64 ao))))); (case side2 => exact (Kd.R_reads' al.out).2.1); (case side3 => refine (Kd.R_reads' (e := 3) (base := w.heap.size) (ok := fun k_ => (some k_ ≠ (.slice aH aj.length ay : Value).ownBlock ∧ (some k_ ≠ (.slice aE x668000_1.length aC : Value).ownBlock ∧ some k_ ≠ (.slice aD x668001_1.length ax : Value).ownBlock))) (n := ak.length) (c := aG) ?_).2.2; exact (Kd.pR ((Far4 am.out ad.out (.slice aH aj.length ay) (.slice aT ak.length aG) (.int .i64 an) (.int .i64 ao))))); (case side4 => exact (Kd.R_reads' am.out).2.1); rintro e w89 ⟨rfl, hb⟩; have n0_ := Aside0.mk (Kd.R_below (Kd.pR ((Far4 HO_668000.out ad.out (.slice aH aj.length ay) (.slice aT ak.length aG) (.int .i64 an) (.int .i64 ao)))) hb); have n1_ := Aside0.mk (Kd.R_below (Kd.pR ((Far4 HO_668001.out ad.out (.slice aH aj.length ay) (.slice aT ak.length aG) (.int .i64 an) (.int .i64 ao)))) hb); have n2_ := Aside0.mk (Kd.R_below (Kd.pR ((Far4 al.out ad.out (.slice aH aj.length ay) (.slice aT ak.length aG) (.int .i64 an) (.int .i64 ao)))) hb); have n3_ := Aside0.mk (Kd.R_below (Kd.pR ((Far4 am.out ad.out (.slice aH aj.length ay) (.slice aT ak.length aG) (.int .i64 an) (.int .i64 ao)))) hb); have n4_ := Aside0.mk (blk_below (g := ap) (o := .cells #[.slice aE x668000_1.length aC, .slice aD x668001_1.length ax, .int .i64 x668002_1, .int .i64 x668003_1] 24 (0, 0)) (by (with_reducible repeat (first | refine blk_drewN ?_ _ | refine blk_drew ?_ | refine blk_alloc ?_ _)); refine blk_far ?_ ab.out _; (with_reducible repeat (first | refine blk_drewN ?_ _ | refine blk_drew ?_ | refine blk_alloc ?_ _)); refine blk_far ?_ ab.out _; (with_reducible repeat (first | refine blk_drewN ?_ _ | refine blk_drew ?_ | refine blk_alloc ?_ _)); refine blk_far ?_ ab.out _; (with_reducible repeat (first | refine blk_drewN ?_ _ | refine blk_drew ?_ | refine blk_alloc ?_ _)); refine blk_far ?_ ab.out _; (with_reducible repeat (first | refine blk_drewN ?_ _ | refine blk_drew ?_ | refine blk_alloc ?_ _)); exact aa.out) hb); have n5_ := Aside0.mk (blk_below (g := ae) (o := .cells #[.slice aH aj.length ay, .slice aT ak.length aG, .int .i64 an, .int .i64 ao] 24 (0, 0)) (by (with_reducible repeat (first | refine blk_drewN ?_ _ | refine blk_drew ?_ | refine blk_alloc ?_ _)); refine blk_put (cs := #[.slice aH aj.length ay, .slice aT ak.length aG, .int .i64 an, .int .i64 0]) ?_ 3 _ rfl; (with_reducible repeat (first | refine blk_drewN ?_ _ | refine blk_drew ?_ | refine blk_alloc ?_ _)); refine blk_put (cs := #[.slice aH aj.length ay, .slice aT ak.length aG, .int .i64 0, .int .i64 0]) ?_ 2 _ rfl; (with_reducible repeat (first | refine blk_drewN ?_ _ | refine blk_drew ?_ | refine blk_alloc ?_ _)); refine blk_put (cs := #[.slice aH aj.length ay, .slice none 0 0, .int .i64 0, .int .i64 0]) ?_ 1 _ rfl; (with_reducible repeat (first | refine blk_drewN ?_ _ | refine blk_drew ?_ | refine blk_alloc ?_ _)); refine blk_put (cs := #[.slice none 0 0, .slice none 0 0, .int .i64 0, .int .i64 0]) ?_ 0 _ rfl; (with_reducible repeat (first | refine blk_drewN ?_ _ | refine blk_drew ?_ | refine blk_alloc ?_ _)); exact ad.out) hb); have n6_ := Aside0.mk (below_step (pB HB.out) hb); clear HO_668000; clear HO_668001; clear al; clear am; clear aa; clear ad; clear HB; have HO_668000 := n0_; have HO_668001 := n1_; have al := n2_; have am := n3_; have aa := n4_; have ad := n5_; have HB := n6_; clear n0_ n1_ n2_ n3_ n4_ n5_ n6_; (try clear hb); (try clear hb2); (try clear hk); (try clear hi); obtain ⟨ef, ch, ci, cj, ck, cl, cm, cn⟩ := bk4 ad.out; obtain ⟨eg, co, cp, cq, cr, ct, cu, cv⟩ := bk4 aa.out))
              go_roundg k1
              case measure => have := HK1.out; omega
              case rel => exact ⟨(wrap64 (x9_1 + 1)), (aj), (ak), (an), (ao), (.slice aH aj.length ay), (.slice aT ak.length aG), (by first | rfl | (simp; done) | (simp [*]; done)), H', ⟨by have := HK1.out; omega⟩, ⟨Kd.pR (Kd.R_mono (Kd.R_far (p := ⟨ap, 3, none⟩) (Kd.R_far (p := ⟨ap, 2, none⟩) (Kd.R_far (p := ⟨ap, 1, none⟩) (Kd.R_far (p := ⟨ap, 0, none⟩) (Kd.R_types al.out aa.out (by decide)) (fun _ hk => hk.2) (.slice aH aj.length ay)) (fun _ hk => hk.2) (.slice aT ak.length aG)) (fun _ hk => hk.2) (.int .i64 an)) (fun _ hk => hk.2) (.int .i64 ao)) (fun _ hk => hk.1.1))⟩, ⟨Kd.pR (Kd.R_mono (Kd.R_far (p := ⟨ap, 3, none⟩) (Kd.R_far (p := ⟨ap, 2, none⟩) (Kd.R_far (p := ⟨ap, 1, none⟩) (Kd.R_far (p := ⟨ap, 0, none⟩) (Kd.R_types am.out aa.out (by decide)) (fun _ hk => hk.2) (.slice aH aj.length ay)) (fun _ hk => hk.2) (.slice aT ak.length aG)) (fun _ hk => hk.2) (.int .i64 an)) (fun _ hk => hk.2) (.int .i64 ao)) (fun _ hk => hk.1.1))⟩, ⟨by (with_reducible repeat (first | refine blk_drewN ?_ _ | refine blk_drew ?_ | refine blk_alloc ?_ _)); refine blk_put (cs := #[.slice aH aj.length ay, .slice aT ak.length aG, .int .i64 an, .int .i64 x668003_1]) ?_ 3 _ rfl; (with_reducible repeat (first | refine blk_drewN ?_ _ | refine blk_drew ?_ | refine blk_alloc ?_ _)); refine blk_put (cs := #[.slice aH aj.length ay, .slice aT ak.length aG, .int .i64 x668002_1, .int .i64 x668003_1]) ?_ 2 _ rfl; (with_reducible repeat (first | refine blk_drewN ?_ _ | refine blk_drew ?_ | refine blk_alloc ?_ _)); refine blk_put (cs := #[.slice aH aj.length ay, .slice aD x668001_1.length ax, .int .i64 x668002_1, .int .i64 x668003_1]) ?_ 1 _ rfl; (with_reducible repeat (first | refine blk_drewN ?_ _ | refine blk_drew ?_ | refine blk_alloc ?_ _)); refine blk_put (cs := #[.slice aE x668000_1.length aC, .slice aD x668001_1.length ax, .int .i64 x668002_1, .int .i64 x668003_1]) ?_ 0 _ rfl; (with_reducible repeat (first | refine blk_drewN ?_ _ | refine blk_drew ?_ | refine blk_alloc ?_ _)); exact aa.out⟩, ⟨pB HB.out⟩⟩
             ·rw [if_neg c74] at H
              have c74b0 : (a5 == 0) = false := beq_eq_false_iff_ne.mpr c74
              have c74b1 : (a5 != 0) = true := bne_iff_ne.mpr c74
              exact absurd H (by simp)
            ·rw [if_neg c72] at H
             have c72b0 : (aq == 0) = false := beq_eq_false_iff_ne.mpr c72
             have c72b1 : (aq != 0) = true := bne_iff_ne.mpr c72
             exact absurd H (by simp)
         ·rw [if_neg c42] at H
          exact absurd H (by simp)
        ·rw [if_neg c41] at H
         have c41b0 : decide (x9_1 < (l1.length : Int)) = false := decide_eq_false c41
         clear c41
         have H' := Aside0.mk H
         clear H
         go_wp2
         go_loopg [8, 12] k1 (fun kq v8 v12 w' => ∃ (x8_2 : List Int) (x12_2 : Int), v12 = .int .i64 x12_2 ∧ Aside0 (spigotlaw15_LruUses.l1 kq a0 l1 true x8_2 x12_2 x668000_1 x668001_1 x668002_1 x668003_1 = some true) ∧ Aside0 (kq ≤ k1) ∧ Aside0 (Kd.R (Kd.int .i64) 3 w' w.heap.size (fun k_ => some k_ ≠ (u668000 : Value).ownBlock ∧ some k_ ≠ (u668001 : Value).ownBlock) v8 x8_2) ∧ Aside0 (Kd.R (Kd.int .i64) 3 w' w.heap.size (fun k_ => some k_ ≠ (v8 : Value).ownBlock ∧ some k_ ≠ (u668001 : Value).ownBlock) u668000 x668000_1) ∧ Aside0 (Kd.R (Kd.int .i64) 3 w' w.heap.size (fun k_ => some k_ ≠ (v8 : Value).ownBlock ∧ some k_ ≠ (u668000 : Value).ownBlock) u668001 x668001_1) ∧ Aside0 (w'.heap[ap]? = some (.cells #[u668000, u668001, .int .i64 x668002_1, .int .i64 x668003_1] 24 (0, 0))) ∧ Aside0 (Below w.heap.size w w'))
         case atStart => exact ⟨(([] : List Int)), (wrap64 ((l1.length : Int) - 1)), (by first | rfl | (simp; done) | (simp [*]; done)), H', ⟨Nat.le_refl _⟩, ⟨by first | exact Kd.R_nil _ _ _ _ _ | exact Kd.N_nil _ _ _ _ _ | exact Kd.V_nil _ _ _ _ _ | exact Kd.Q_nil _ _ _ _ _ | exact Kd.S_nil _ _ _ _ _⟩, ⟨Kd.pR (Kd.R_mono HO_668000.out (fun _ hk => ⟨(by simp [Value.ownBlock]), hk⟩))⟩, ⟨Kd.pR (Kd.R_mono HO_668001.out (fun _ hk => ⟨(by simp [Value.ownBlock]), hk⟩))⟩, ⟨pK aa.out⟩, ⟨pB HB.out⟩⟩
         case round =>
          clear H'
          try clear c1
          try clear p2
          try clear c4
          try clear c5
          try clear p6
          try clear q6
          try clear hx6
          try clear c7
          try clear c8
          try clear c12
          try clear c41
          try clear c41b0
          try clear c42
          try clear c58
          try clear c58b0
          try clear c59
          try clear c59b0
          try clear c59b1
          try clear p64
          try clear p66
          try clear q66
          try clear eB
          try clear p67
          try clear q67
          try clear eC
          try clear p68
          try clear q68
          try clear eD
          try clear c72
          try clear c72b0
          try clear c72b1
          try clear c74
          try clear c74b0
          try clear c74b1
          try clear c87
          try clear ee
          try clear ca
          try clear cb
          try clear cc
          try clear ef
          try clear ch
          try clear ci
          try clear cj
          try clear eg
          try clear co
          try clear cp
          try clear cq
          try clear cd
          try clear ce
          try clear cf
          try clear cg
          try clear ck
          try clear cl
          try clear cm
          try clear cn
          try clear cr
          try clear ct
          try clear cu
          try clear cv
          try clear ar
          try clear ac
          try clear ag
          try clear p668
          try clear p679
          try clear p680
          try clear q668
          try clear q679
          try clear q680
          obtain ⟨x8_2, x12_2, rfl, HA, HK2, HO_8, HO_668000, HO_668001, aa, HB⟩ := hrel
          cases gk with
          | zero => exact absurd HA.out (by simp [spigotlaw15_LruUses.l1])
          | succ k2 =>
           have H := HA.out
           (try clear HA)
           simp only [spigotlaw15_LruUses.l1] at H
           by_cases c92 : x12_2 ≥ 0
           ·rw [if_pos c92] at H
            have c92b0 : decide (0 ≤ x12_2) = true := decide_eq_true c92
            clear c92
            by_cases c93 : 0 ≤ x12_2
            ·rw [if_pos c93] at H
             have c93b0 : decide (0 ≤ x12_2) = true := decide_eq_true c93
             clear c93
             by_cases c94 : x12_2 < (l1.length : Int)
             ·rw [if_pos c94] at H
              have c94b0 : decide (x12_2 < (l1.length : Int)) = true := decide_eq_true c94
              clear c94
              by_cases c95 : (rd l1 x12_2) ≥ 0
              ·rw [if_pos c95] at H
               have c95b0 : decide (0 ≤ (rd l1 x12_2)) = true := decide_eq_true c95
               clear c95
               by_cases c96 : (rd l1 x12_2) < a0
               ·rw [if_pos c96] at H
                have c96b0 : decide ((rd l1 x12_2) < a0) = true := decide_eq_true c96
                clear c96
                replace H := Option.bind_eq_some_iff.mp H
                obtain ⟨bl, cG, H⟩ := H
                replace H : (if bl = true then (spigotlaw15_LruUses.l1 k2 a0 l1 true x8_2 (wrap64 (x12_2 - 1)) x668000_1 x668001_1 x668002_1 x668003_1) else (if x8_2.length < 17592186044416 then (spigotlaw15_LruUses.l1 k2 a0 l1 true (x8_2 ++ [rd l1 x12_2]) (wrap64 (x12_2 - 1)) x668000_1 x668001_1 x668002_1 x668003_1) else (none))) = some true := H
                have A97 := Aside0.mk cG
                (try clear cG)
                by_cases c98 : bl = true
                ·subst c98
                 have H1 : (spigotlaw15_LruUses.l1 k2 a0 l1 true x8_2 (wrap64 (x12_2 - 1)) x668000_1 x668001_1 x668002_1 x668003_1) = some true := by rw [if_pos rfl] at H; exact H
                 clear H
                 have H := H1
                 clear H1
                 have H' := Aside0.mk H
                 clear H
                 have p682 : 0 ≤ (x12_2 : Int) := od
                 have q682 : x12_2 < (l1.length : Int) := od
                 obtain ⟨ad682, e682, au⟩ := Kd.at_int HR1.out x12_2 p682 q682
                 cases e682
                 replace au := (HB.out.cell (World.block_lt_of_cell? w _ au)).trans au
                 replace p682 := eq_true p682
                 replace q682 := eq_true q682
                 have p683 : 0 ≤ (x12_2 : Int) := od
                 have q683 : x12_2 < (l1.length : Int) := od
                 obtain ⟨ad683, e683, az⟩ := Kd.at_int HR1.out x12_2 p683 q683
                 obtain rfl : ad682 = ad683 := (by injection e683)
                 replace az := (HB.out.cell (World.block_lt_of_cell? w _ az)).trans az
                 replace p683 := eq_true p683
                 replace q683 := eq_true q683
                 have p684 : 0 ≤ (x12_2 : Int) := od
                 have q684 : x12_2 < (l1.length : Int) := od
                 obtain ⟨ad684, e684, a2⟩ := Kd.at_int HR1.out x12_2 p684 q684
                 obtain rfl : ad682 = ad684 := (by injection e684)
                 replace a2 := (HB.out.cell (World.block_lt_of_cell? w _ a2)).trans a2
                 replace p684 := eq_true p684
                 replace q684 := eq_true q684
                 obtain ⟨Ao99, eE, dq⟩ := Kd.R_slice HO_8.out
                 subst dq
                 go_wp2_with (first | (go_at_call 25; (with_reducible refine (spigotref13_In.calls k2 _ _ x8_2 (rd l1 x12_2) true _ ?side1 ?side2 A97.out).mono ?_); (case side1 => exact Kd.pC ((Kd.R_reads' HO_8.out).2.2)); (case side2 => exact (Kd.R_reads' HO_8.out).2.1); rintro e w' ⟨rfl, ⟨nd, rfl⟩⟩))
                 go_roundg k2
                 case measure => have := HK1.out; have := HK2.out; omega
                 case rel => exact ⟨(x8_2), (wrap64 (x12_2 - 1)), (by first | rfl | (simp; done) | (simp [*]; done)), H', ⟨by have := HK1.out; have := HK2.out; omega⟩, ⟨Kd.pR HO_8.out⟩, ⟨Kd.pR HO_668000.out⟩, ⟨Kd.pR HO_668001.out⟩, ⟨pK aa.out⟩, ⟨pB HB.out⟩⟩
                ·replace c98 := Bool.eq_false_iff.mpr c98
                 subst c98
                 have H1 : (if x8_2.length < 17592186044416 then (spigotlaw15_LruUses.l1 k2 a0 l1 true (x8_2 ++ [rd l1 x12_2]) (wrap64 (x12_2 - 1)) x668000_1 x668001_1 x668002_1 x668003_1) else (none)) = some true := by rw [if_neg (show ¬ (false = true) by decide)] at H; exact H
                 clear H
                 have H := H1
                 clear H1
                 by_cases c100 : x8_2.length < 17592186044416
                 ·rw [if_pos c100] at H
                  have cH := Aside0.mk c100
                  clear c100
                  obtain ⟨dr, ba⟩ : ∃ y_ : List Int, y_ = (x8_2 ++ [rd l1 x12_2]) := ⟨_, rfl⟩
                  replace H : (spigotlaw15_LruUses.l1 k2 a0 l1 true dr (wrap64 (x12_2 - 1)) x668000_1 x668001_1 x668002_1 x668003_1) = some true := by first | (rw [ba]; with_reducible exact H) | (have H2_ := (Option.bind_some _ _).symm.trans H; rw [ba]; with_reducible exact H2_) | (have H2_ := (Option.bind_some _ _).symm.trans H; with_reducible exact H2_) | with_reducible exact H | (rw [ba]; exact H) | exact H
                  have cI := Aside0.mk ba
                  (try clear ba)
                  have H' := Aside0.mk H
                  clear H
                  have p682 : 0 ≤ (x12_2 : Int) := od
                  have q682 : x12_2 < (l1.length : Int) := od
                  obtain ⟨ad682, e682, au⟩ := Kd.at_int HR1.out x12_2 p682 q682
                  cases e682
                  replace au := (HB.out.cell (World.block_lt_of_cell? w _ au)).trans au
                  replace p682 := eq_true p682
                  replace q682 := eq_true q682
                  have p683 : 0 ≤ (x12_2 : Int) := od
                  have q683 : x12_2 < (l1.length : Int) := od
                  obtain ⟨ad683, e683, az⟩ := Kd.at_int HR1.out x12_2 p683 q683
                  obtain rfl : ad682 = ad683 := (by injection e683)
                  replace az := (HB.out.cell (World.block_lt_of_cell? w _ az)).trans az
                  replace p683 := eq_true p683
                  replace q683 := eq_true q683
                  have p684 : 0 ≤ (x12_2 : Int) := od
                  have q684 : x12_2 < (l1.length : Int) := od
                  obtain ⟨ad684, e684, a2⟩ := Kd.at_int HR1.out x12_2 p684 q684
                  obtain rfl : ad682 = ad684 := (by injection e684)
                  replace a2 := (HB.out.cell (World.block_lt_of_cell? w _ a2)).trans a2
                  replace p684 := eq_true p684
                  replace q684 := eq_true q684
                  obtain ⟨ek, cJ, cK⟩ := Kd.R_slice HO_8.out
                  subst cK
                  go_wp2_with (first | (go_at_call 25; (with_reducible refine (spigotref13_In.calls k2 _ _ x8_2 (rd l1 x12_2) false _ ?side1 ?side2 A97.out).mono ?_); (case side1 => exact Kd.pC ((Kd.R_reads' HO_8.out).2.2)); (case side2 => exact (Kd.R_reads' HO_8.out).2.1); rintro e w' ⟨rfl, ⟨nd, rfl⟩⟩; have p686 : 0 ≤ (x12_2 : Int) := od; have q686 : x12_2 < (l1.length : Int) := od; obtain ⟨ad686, e686, bd⟩ := Kd.at_int HR1.out x12_2 p686 q686; obtain rfl : ad682 = ad686 := (by injection e686); replace bd := (HB.out.cell (World.block_lt_of_cell? w _ bd)).trans bd; replace p686 := eq_true p686; replace q686 := eq_true q686) | ((with_reducible refine gate_builtin (b := .append) (xs := #[.tmp 121, .tmp 126]) rfl ?_); (try (refine gate_guard (by rfl) ?_; dsimp only)); at_builtin; refine Kd.R_append (Kd.int .i64) (w0 := w) w.heap.size rfl (.tmp 121) (.tmp 126) 22 3 (.int .i64 0) 8 rfl Try.underlying22 info3 rfl (by decide) (by omega) (.slice ek x8_2.length cJ) x8_2 (rd l1 x12_2) [.int .i64 (rd l1 x12_2)] (fun k_ => some k_ ≠ (u668000 : Value).ownBlock ∧ some k_ ≠ (u668001 : Value).ownBlock) (fun _ => False) rfl rfl ?aP (fun _ hk => hk.elim) ?aF ?aO ?aB ?aS ?aL ?_; (case aP => exact rfl); (case aB => exact (pB HB.out)); (case aF => exact (fun k_ hk => ⟨Kd.fresh' (Kd.R_lt (Kd.pR HO_668000.out)) k_ hk, Kd.fresh' (Kd.R_lt (Kd.pR HO_668001.out)) k_ hk⟩)); (case aO => exact (Kd.pR HO_8.out)); (case aS => exact (below_size (pB HB.out))); (case aL => have := cH.out; omega); intro eF eG ho hb hg hat; rw [← cI.out] at ho; have n0_ := Aside0.mk (Kd.R_after (ok := (fun k_ => some k_ ≠ (u668001 : Value).ownBlock)) (Kd.pR (Kd.R_mono HO_668000.out (fun _ hk => ⟨hk.2, hk.1⟩))) hg hat); have n1_ := Aside0.mk (Kd.R_after (ok := (fun k_ => some k_ ≠ (u668000 : Value).ownBlock)) (Kd.pR (Kd.R_mono HO_668001.out (fun _ hk => ⟨hk.2, hk.1⟩))) hg hat); have n2_ := Aside0.mk (blk_grown (pK aa.out) hg (Kd.R_ne HO_8.out aa.out (by decide))); have n3_ := Aside0.mk (hb); have n4_ := Aside0.mk (ho); clear HO_668000; clear HO_668001; clear aa; clear HB; clear HO_8; have HO_668000 := n0_; have HO_668001 := n1_; have aa := n2_; have HB := n3_; have cL := n4_; clear n0_ n1_ n2_ n3_ n4_; clear ho hb hg hat))
                  go_roundg k2
                  case measure => have := HK1.out; have := HK2.out; omega
                  case rel => exact ⟨(dr), (wrap64 (x12_2 - 1)), (by first | rfl | (simp; done) | (simp [*]; done)), H', ⟨by have := HK1.out; have := HK2.out; omega⟩, ⟨Kd.pR cL.out⟩, ⟨Kd.pR (Kd.R_mono HO_668000.out (fun _ hk => ⟨hk.2, hk.1⟩))⟩, ⟨Kd.pR (Kd.R_mono HO_668001.out (fun _ hk => ⟨hk.2, hk.1⟩))⟩, ⟨pK aa.out⟩, ⟨pB HB.out⟩⟩
                 ·rw [if_neg c100] at H
                  exact absurd H (by simp)
               ·rw [if_neg c96] at H
                have c96b0 : decide ((rd l1 x12_2) < a0) = false := decide_eq_false c96
                (try clear c96)
                have H' := Aside0.mk H
                clear H
                have p682 : 0 ≤ (x12_2 : Int) := od
                have q682 : x12_2 < (l1.length : Int) := od
                obtain ⟨ad682, e682, au⟩ := Kd.at_int HR1.out x12_2 p682 q682
                cases e682
                replace au := (HB.out.cell (World.block_lt_of_cell? w _ au)).trans au
                replace p682 := eq_true p682
                replace q682 := eq_true q682
                have p683 : 0 ≤ (x12_2 : Int) := od
                have q683 : x12_2 < (l1.length : Int) := od
                obtain ⟨ad683, e683, az⟩ := Kd.at_int HR1.out x12_2 p683 q683
                obtain rfl : ad682 = ad683 := (by injection e683)
                replace az := (HB.out.cell (World.block_lt_of_cell? w _ az)).trans az
                replace p683 := eq_true p683
                replace q683 := eq_true q683
                go_wp2
                go_roundg k2
                case measure => have := HK1.out; have := HK2.out; omega
                case rel => exact ⟨(x8_2), (wrap64 (x12_2 - 1)), (by first | rfl | (simp; done) | (simp [*]; done)), H', ⟨by have := HK1.out; have := HK2.out; omega⟩, ⟨Kd.pR HO_8.out⟩, ⟨Kd.pR HO_668000.out⟩, ⟨Kd.pR HO_668001.out⟩, ⟨pK aa.out⟩, ⟨pB HB.out⟩⟩
              ·rw [if_neg c95] at H
               have c95b0 : decide (0 ≤ (rd l1 x12_2)) = false := decide_eq_false c95
               (try clear c95)
               have H' := Aside0.mk H
               clear H
               have p682 : 0 ≤ (x12_2 : Int) := od
               have q682 : x12_2 < (l1.length : Int) := od
               obtain ⟨ad682, e682, au⟩ := Kd.at_int HR1.out x12_2 p682 q682
               cases e682
               replace au := (HB.out.cell (World.block_lt_of_cell? w _ au)).trans au
               replace p682 := eq_true p682
               replace q682 := eq_true q682
               go_wp2
               go_roundg k2
               case measure => have := HK1.out; have := HK2.out; omega
               case rel => exact ⟨(x8_2), (wrap64 (x12_2 - 1)), (by first | rfl | (simp; done) | (simp [*]; done)), H', ⟨by have := HK1.out; have := HK2.out; omega⟩, ⟨Kd.pR HO_8.out⟩, ⟨Kd.pR HO_668000.out⟩, ⟨Kd.pR HO_668001.out⟩, ⟨pK aa.out⟩, ⟨pB HB.out⟩⟩
             ·rw [if_neg c94] at H
              exact absurd H (by simp)
            ·rw [if_neg c93] at H
             exact absurd H (by simp)
           ·rw [if_neg c92] at H
            have c92b0 : decide (0 ≤ x12_2) = false := decide_eq_false c92
            (try clear c92)
            replace H := Option.bind_eq_some_iff.mp H
            obtain ⟨⟨be, a6⟩, bt, H⟩ := H
            replace H : ((lru_Last.f k2 x668000_1 x668001_1 x668002_1 x668003_1).bind fun bt694 => (if true = true then (if a6 = 0 then ((spigotref15_SameInts.f k2 be x8_2).bind fun a7 => (if a7 = true then (if ((bt694.2 == 0) == (decide ((x8_2.length : Int) > 0))) = true then (if bt694.2 = 0 then (if 0 ≤ (wrap64 ((x8_2.length : Int) - 1)) then (if (wrap64 ((x8_2.length : Int) - 1)) < (x8_2.length : Int) then (some (bt694.1 == (rd x8_2 (wrap64 ((x8_2.length : Int) - 1))))) else (none)) else (none)) else (some true)) else (some false)) else (some false))) else (some false)) else (some false))) = some true := H
            have bq := Aside0.mk bt
            (try clear bt)
            replace H := Option.bind_eq_some_iff.mp H
            obtain ⟨⟨bf, aw⟩, bu, H⟩ := H
            replace H : (if true = true then (if a6 = 0 then ((spigotref15_SameInts.f k2 be x8_2).bind fun a7 => (if a7 = true then (if ((aw == 0) == (decide ((x8_2.length : Int) > 0))) = true then (if aw = 0 then (if 0 ≤ (wrap64 ((x8_2.length : Int) - 1)) then (if (wrap64 ((x8_2.length : Int) - 1)) < (x8_2.length : Int) then (some (bf == (rd x8_2 (wrap64 ((x8_2.length : Int) - 1))))) else (none)) else (none)) else (some true)) else (some false)) else (some false))) else (some false)) else (some false)) = some true := H
            have br := Aside0.mk bu
            (try clear bu)
            replace H : (if a6 = 0 then ((spigotref15_SameInts.f k2 be x8_2).bind fun a7 => (if a7 = true then (if ((aw == 0) == (decide ((x8_2.length : Int) > 0))) = true then (if aw = 0 then (if 0 ≤ (wrap64 ((x8_2.length : Int) - 1)) then (if (wrap64 ((x8_2.length : Int) - 1)) < (x8_2.length : Int) then (some (bf == (rd x8_2 (wrap64 ((x8_2.length : Int) - 1))))) else (none)) else (none)) else (some true)) else (some false)) else (some false))) else (some false)) = some true := by rw [if_pos rfl] at H; exact H
            by_cases c105 : a6 = 0
            ·rw [if_pos c105] at H
             have c105b0 : (a6 == 0) = true := beq_iff_eq.mpr c105
             have c105b1 : (a6 != 0) = false := bne_eq_false_iff_eq.mpr c105
             clear c105
             replace H := Option.bind_eq_some_iff.mp H
             obtain ⟨a7, bv, H⟩ := H
             replace H : (if a7 = true then (if ((aw == 0) == (decide ((x8_2.length : Int) > 0))) = true then (if aw = 0 then (if 0 ≤ (wrap64 ((x8_2.length : Int) - 1)) then (if (wrap64 ((x8_2.length : Int) - 1)) < (x8_2.length : Int) then (some (bf == (rd x8_2 (wrap64 ((x8_2.length : Int) - 1))))) else (none)) else (none)) else (some true)) else (some false)) else (some false)) = some true := H
             have bs := Aside0.mk bv
             (try clear bv)
             by_cases c107 : a7 = true
             ·subst c107
              have H1 : (if ((aw == 0) == (decide ((x8_2.length : Int) > 0))) = true then (if aw = 0 then (if 0 ≤ (wrap64 ((x8_2.length : Int) - 1)) then (if (wrap64 ((x8_2.length : Int) - 1)) < (x8_2.length : Int) then (some (bf == (rd x8_2 (wrap64 ((x8_2.length : Int) - 1))))) else (none)) else (none)) else (some true)) else (some false)) = some true := by rw [if_pos rfl] at H; exact H
              clear H
              have H := H1
              clear H1
              by_cases c108 : ((aw == 0) == (decide ((x8_2.length : Int) > 0))) = true
              ·rw [if_pos c108] at H
               have c108b0 : ((aw == 0) == (decide ((x8_2.length : Int) > 0))) = true := c108
               (try (have c108b1 : decide ((aw == 0) = (decide ((x8_2.length : Int) > 0))) = true := by simpa using c108))
               (try (have c108b2 : ((aw == 0) == (decide ((x8_2.length : Int) > 0))) = true := by simpa using c108))
               clear c108
               by_cases c109 : aw = 0
               ·rw [if_pos c109] at H
                have c109b0 : (aw == 0) = true := beq_iff_eq.mpr c109
                have c109b1 : (aw != 0) = false := bne_eq_false_iff_eq.mpr c109
                have c109q : (decide ((x8_2.length : Int) > 0)) = true := by have h_ := c108b0; rw [c109b0] at h_; revert h_; cases (decide ((x8_2.length : Int) > 0)) <;> simp
                have c109r : decide (0 < x8_2.length) = true := by rw [← c109q]; exact decide_eq_decide.2 (by omega)
                have c109s : 0 < x8_2.length := of_decide_eq_true c109r
                clear c109
                obtain ⟨ji110, hji110⟩ : ∃ j_ : Int, (wrap64 ((x8_2.length : Int) - 1)) = j_ := ⟨_, rfl⟩
                replace H : (if 0 ≤ (ji110) then (if (ji110) < (x8_2.length : Int) then (some (bf == (rd x8_2 (ji110)))) else (none)) else (none)) = some true := by first | (rw [hji110] at H; exact H) | (simp only [hji110] at H ⊢; exact H)
                (try rw [hji110] at bq)
                (try rw [hji110] at br)
                (try rw [hji110] at bs)
                have hji110w : (IntKind.i64.wrap ((x8_2.length : Int) - 1)) = ji110 := (i64_w _).trans hji110
                by_cases c111 : 0 ≤ (ji110)
                ·rw [if_pos c111] at H
                 have c111b0 : decide (0 ≤ (ji110)) = true := decide_eq_true c111
                 clear c111
                 by_cases c112 : (ji110) < (x8_2.length : Int)
                 ·rw [if_pos c112] at H
                  have c112b0 : decide ((ji110) < (x8_2.length : Int)) = true := decide_eq_true c112
                  clear c112
                  have HRT := Aside0.mk (Option.some.inj H)
                  clear H
                  obtain ⟨hcz113_0, dt, du, dv, dw, dx, dy, dz⟩ := bk4 aa.out
                  obtain ⟨cO, bw, cM⟩ := Kd.R_slice HO_668000.out
                  subst cM
                  obtain ⟨cP, bx, cN⟩ := Kd.R_slice HO_668001.out
                  subst cN
                  go_wp2_with (first | ((with_reducible refine gate_callee (f := 19) rfl ?_); refine goesE (some 130) rfl rfl Try.func19 (by kernel_rfl) rfl #[.agg #[.slice cO x668000_1.length bw, .slice cP x668001_1.length bx, .int .i64 x668002_1, .int .i64 x668003_1]] rfl ?_; (with_reducible refine (lru_List.calls k2 _ _ x668000_1 _ _ x668001_1 x668002_1 x668003_1 be a6 _ ?side1 ?side2 ?side3 ?side4 bq.out).mono ?_); (case side1 => exact Kd.pC ((Kd.R_reads' HO_668000.out).2.2)); (case side2 => exact (Kd.R_reads' HO_668000.out).2.1); (case side3 => exact Kd.pC ((Kd.R_reads' HO_668001.out).2.2)); (case side4 => exact (Kd.R_reads' HO_668001.out).2.1); rintro e eH ⟨v691, rfl, ho0, hb⟩; refine ⟨_, rfl, ?_⟩; have n0_ := Re1 HO_8 ho0 hb; have n1_ := Re1 HO_668000 ho0 hb; have n2_ := Re1 HO_668001 ho0 hb; have n3_ := Aside0.mk (Kd.R_lower (Kd.R_new' (Kd.R_new' (Kd.R_new' ho0 (Kd.R_lt (Kd.pR HO_8.out))) (Kd.R_lt (Kd.pR HO_668000.out))) (Kd.R_lt (Kd.pR HO_668001.out))) (below_size (pB HB.out))); have n4_ := Aside0.mk (blk_below (pK aa.out) hb); have n5_ := Aside0.mk (below_step (pB HB.out) hb); clear HO_8; clear HO_668000; clear HO_668001; clear aa; clear HB; have HO_8 := n0_; have HO_668000 := n1_; have HO_668001 := n2_; have aK := n3_; have aa := n4_; have HB := n5_; clear n0_ n1_ n2_ n3_ n4_ n5_; (try clear hb); (try clear hb2); (try clear hk); (try clear hi); (try clear ho0); obtain ⟨hcz117_0, dA, dB, dC, dD, dE, dF, dG⟩ := bk4 aa.out) | ((with_reducible refine gate_callee (f := 17) rfl ?_); refine goesE (some 135) rfl rfl Try.func17 (by kernel_rfl) rfl #[.agg #[.slice cO x668000_1.length bw, .slice cP x668001_1.length bx, .int .i64 x668002_1, .int .i64 x668003_1]] rfl ?_; (with_reducible refine (lru_Last.calls k2 _ _ x668000_1 _ _ x668001_1 x668002_1 x668003_1 bf aw _ ?side1 ?side2 ?side3 ?side4 br.out).mono ?_); (case side1 => exact Kd.pC ((Kd.R_reads' HO_668000.out).2.2)); (case side2 => exact (Kd.R_reads' HO_668000.out).2.1); (case side3 => exact Kd.pC ((Kd.R_reads' HO_668001.out).2.2)); (case side4 => exact (Kd.R_reads' HO_668001.out).2.1); rintro e eI ⟨rfl, hb⟩; refine ⟨_, rfl, ?_⟩; have n0_ := Rb1 HO_8 hb; have n1_ := Rb1 HO_668000 hb; have n2_ := Rb1 HO_668001 hb; have n3_ := Rb1 aK hb; have n4_ := Aside0.mk (blk_below (pK aa.out) hb); have n5_ := Aside0.mk (below_step (pB HB.out) hb); clear HO_8; clear HO_668000; clear HO_668001; clear aK; clear aa; clear HB; have HO_8 := n0_; have HO_668000 := n1_; have HO_668001 := n2_; have aK := n3_; have aa := n4_; have HB := n5_; clear n0_ n1_ n2_ n3_ n4_ n5_; (try clear hb); (try clear hb2); (try clear hk); (try clear hi); obtain ⟨Ao119, el, cQ⟩ := Kd.R_slice aK.out; subst cQ; obtain ⟨Ao120, em, cR⟩ := Kd.R_slice HO_8.out; subst cR) | (go_at_call 23; (with_reducible refine (spigotref15_SameInts.calls k2 _ _ be _ _ x8_2 true _ ?side1 ?side2 ?side3 ?side4 bs.out).mono ?_); (case side1 => exact Kd.pC ((Kd.R_reads' aK.out).2.2)); (case side2 => exact (Kd.R_reads' aK.out).2.1); (case side3 => exact Kd.pC ((Kd.R_reads' HO_8.out).2.2)); (case side4 => exact (Kd.R_reads' HO_8.out).2.1); rintro e w' ⟨rfl, ⟨nd, rfl⟩⟩; have p697 : 0 ≤ ((ji110) : Int) := od; have q697 : (ji110) < (x8_2.length : Int) := od; obtain ⟨ad697, e697, eh⟩ := Kd.at_int (Kd.R_reads' HO_8.out).2.2 (ji110) p697 q697; cases e697; replace p697 := eq_true p697; replace q697 := eq_true q697))
                  go_ret
                  exact ⟨by first | rfl | (simp [errW_none, errW_some] <;> rfl) | (simp only [← hji110]; first | rfl | (simp [errW_none, errW_some] <;> rfl)) | (simp [*, errW_none, errW_some] <;> rfl) | (rw [HRT.out] <;> rfl) | (simp [HRT.out]; done) | (have h_ := HRT.out; simp [*] at h_ ⊢ <;> first | done | assumption | omega) | (have h_ := HRT.out; simp [*] at h_; done), pB HB.out⟩
                 ·rw [if_neg c112] at H
                  exact absurd H (by simp)
                ·rw [if_neg c111] at H
                 exact absurd H (by simp)
               ·rw [if_neg c109] at H
                have c109b0 : (aw == 0) = false := beq_eq_false_iff_ne.mpr c109
                have c109b1 : (aw != 0) = true := bne_iff_ne.mpr c109
                have c109q : (decide ((x8_2.length : Int) > 0)) = false := by have h_ := c108b0; rw [c109b0] at h_; revert h_; cases (decide ((x8_2.length : Int) > 0)) <;> simp
                have c109r : decide (0 < x8_2.length) = false := by rw [← c109q]; exact decide_eq_decide.2 (by omega)
                have c109s : ¬ 0 < x8_2.length := of_decide_eq_false c109r
                clear H
                obtain ⟨hcz121_0, dH, dI, dJ, dK, dL, dM, dN⟩ := bk4 aa.out
                obtain ⟨cU, bz, cS⟩ := Kd.R_slice HO_668000.out
                subst cS
                obtain ⟨cV, bA, cT⟩ := Kd.R_slice HO_668001.out
                subst cT
                go_wp2_with (first | ((with_reducible refine gate_callee (f := 19) rfl ?_); refine goesE (some 130) rfl rfl Try.func19 (by kernel_rfl) rfl #[.agg #[.slice cU x668000_1.length bz, .slice cV x668001_1.length bA, .int .i64 x668002_1, .int .i64 x668003_1]] rfl ?_; (with_reducible refine (lru_List.calls k2 _ _ x668000_1 _ _ x668001_1 x668002_1 x668003_1 be a6 _ ?side1 ?side2 ?side3 ?side4 bq.out).mono ?_); (case side1 => exact Kd.pC ((Kd.R_reads' HO_668000.out).2.2)); (case side2 => exact (Kd.R_reads' HO_668000.out).2.1); (case side3 => exact Kd.pC ((Kd.R_reads' HO_668001.out).2.2)); (case side4 => exact (Kd.R_reads' HO_668001.out).2.1); rintro e eJ ⟨v691, rfl, ho0, hb⟩; refine ⟨_, rfl, ?_⟩; have n0_ := Re1 HO_8 ho0 hb; have n1_ := Re1 HO_668000 ho0 hb; have n2_ := Re1 HO_668001 ho0 hb; have n3_ := Aside0.mk (Kd.R_lower (Kd.R_new' (Kd.R_new' (Kd.R_new' ho0 (Kd.R_lt (Kd.pR HO_8.out))) (Kd.R_lt (Kd.pR HO_668000.out))) (Kd.R_lt (Kd.pR HO_668001.out))) (below_size (pB HB.out))); have n4_ := Aside0.mk (blk_below (pK aa.out) hb); have n5_ := Aside0.mk (below_step (pB HB.out) hb); clear HO_8; clear HO_668000; clear HO_668001; clear aa; clear HB; have HO_8 := n0_; have HO_668000 := n1_; have HO_668001 := n2_; have aK := n3_; have aa := n4_; have HB := n5_; clear n0_ n1_ n2_ n3_ n4_ n5_; (try clear hb); (try clear hb2); (try clear hk); (try clear hi); (try clear ho0); obtain ⟨hcz125_0, dO, dP, dQ, dR, dS, dT, dU⟩ := bk4 aa.out) | ((with_reducible refine gate_callee (f := 17) rfl ?_); refine goesE (some 135) rfl rfl Try.func17 (by kernel_rfl) rfl #[.agg #[.slice cU x668000_1.length bz, .slice cV x668001_1.length bA, .int .i64 x668002_1, .int .i64 x668003_1]] rfl ?_; (with_reducible refine (lru_Last.calls k2 _ _ x668000_1 _ _ x668001_1 x668002_1 x668003_1 bf aw _ ?side1 ?side2 ?side3 ?side4 br.out).mono ?_); (case side1 => exact Kd.pC ((Kd.R_reads' HO_668000.out).2.2)); (case side2 => exact (Kd.R_reads' HO_668000.out).2.1); (case side3 => exact Kd.pC ((Kd.R_reads' HO_668001.out).2.2)); (case side4 => exact (Kd.R_reads' HO_668001.out).2.1); rintro e eK ⟨rfl, hb⟩; refine ⟨_, rfl, ?_⟩; have n0_ := Rb1 HO_8 hb; have n3_ := Rb1 aK hb; have n5_ := Aside0.mk (below_step (pB HB.out) hb); clear HO_8; (try clear HO_668000); (try clear HO_668001); clear aK; (try clear aa); clear HB; have HO_8 := n0_; have aK := n3_; have HB := n5_; clear n0_ n3_ n5_; (try clear hb); (try clear hb2); (try clear hk); (try clear hi); obtain ⟨Ao127, en, cW⟩ := Kd.R_slice aK.out; subst cW; obtain ⟨Ao128, eo, cX⟩ := Kd.R_slice HO_8.out; subst cX) | (go_at_call 23; (with_reducible refine (spigotref15_SameInts.calls k2 _ _ be _ _ x8_2 true _ ?side1 ?side2 ?side3 ?side4 bs.out).mono ?_); (case side1 => exact Kd.pC ((Kd.R_reads' aK.out).2.2)); (case side2 => exact (Kd.R_reads' aK.out).2.1); (case side3 => exact Kd.pC ((Kd.R_reads' HO_8.out).2.2)); (case side4 => exact (Kd.R_reads' HO_8.out).2.1); rintro e w' ⟨rfl, ⟨nd, rfl⟩⟩))
                go_ret
                exact ⟨by first | rfl | (simp [errW_none, errW_some] <;> rfl) | (simp [*, errW_none, errW_some] <;> rfl), pB HB.out⟩
              ·rw [if_neg c108] at H
               have c108b0 : ((aw == 0) == (decide ((x8_2.length : Int) > 0))) = false := by simpa using c108
               (try (have c108b1 : decide ((aw == 0) = (decide ((x8_2.length : Int) > 0))) = false := by simpa using c108))
               (try (have c108b2 : ((aw == 0) == (decide ((x8_2.length : Int) > 0))) = false := by simpa using c108))
               (try (have c108b3 : ¬ ((aw == 0) = (decide ((x8_2.length : Int) > 0))) := by simpa using c108))
               (try clear c108)
               exact absurd H (by simp)
             ·replace c107 := Bool.eq_false_iff.mpr c107
              subst c107
              have H1 : (some false) = some true := by rw [if_neg (show ¬ (false = true) by decide)] at H; exact H
              clear H
              have H := H1
              clear H1
              exact absurd H (by simp)
            ·rw [if_neg c105] at H
             have c105b0 : (a6 == 0) = false := beq_eq_false_iff_ne.mpr c105
             have c105b1 : (a6 != 0) = true := bne_iff_ne.mpr c105
             exact absurd H (by simp)
  ·rw [if_neg c6] at H
   have c6b0 : (aA == 0) = false := beq_eq_false_iff_ne.mpr c6
   have c6b1 : (aA != 0) = true := bne_iff_ne.mpr c6
   by_cases c129 : a0 < 1
   ·rw [if_pos c129] at H
    have c129b0 : decide (a0 < 1) = true := decide_eq_true c129
    clear c129
    have HRT := Aside0.mk (Option.some.inj H)
    clear H
    go_enter Try.func5, Try.ntmps5
    go_wp2_with (first | ((with_reducible refine gate_callee (f := 24) rfl ?_); refine goesE (some 17) rfl rfl Try.func24 (by kernel_rfl) rfl #[] rfl ?_; (with_reducible refine (spigotlaw15_alive.calls k   _ A3.out).mono ?_); rintro e eL ⟨rfl, hb⟩; refine ⟨_, rfl, ?_⟩; have n0_ := Aside0.mk (below_step (pB HB.out) hb); clear HB; have HB := n0_; clear n0_; (try clear hb); (try clear hb2); (try clear hk); (try clear hi)) | ((with_reducible refine gate_callee (f := 10) rfl ?_); refine goesE (some 20) rfl rfl Try.func10 (by kernel_rfl) rfl #[.int .i64 a0] rfl ?_; (with_reducible refine (lru_New.calls k a0 aZ aY a3 a4 aA _ A5.out).mono ?_); rintro e eM ⟨v659, bb, rfl, ho0, ho1, hb⟩; refine ⟨_, rfl, ?_⟩; have n0_ := Aside0.mk (Kd.R_lower ho0 (below_size (pB HB.out))); have n1_ := Aside0.mk (Kd.R_lower ho1 (below_size (pB HB.out))); have n2_ := Aside0.mk (below_step (pB HB.out) hb); clear HB; have ah := n0_; have ai := n1_; have HB := n2_; clear n0_ n1_ n2_; (try clear hb); (try clear hb2); (try clear hk); (try clear hi); (try clear ho0); (try clear ho1)) | ((with_reducible refine gate_dst (N := 6) rfl ?_); (try (refine gate_guard (by rfl) ?_; dsimp only)); refine boxE (N := 6) (cs := #[.slice none 0 0, .slice none 0 0, .int .i64 0, .int .i64 0]) (t := 24) ?_; intro ap hg eN hbox hb; have n0_ := Rb1 ah hb; have n1_ := Rb1 ai hb; have n2_ := Aside0.mk (below_step (pB HB.out) hb); have n3_ := Aside0.mk (hbox); have n5_ := Aside0.mk (pL HB.out hg); clear ah; clear ai; clear HB; have ah := n0_; have ai := n1_; have HB := n2_; have aa := n3_; have a9 := n5_; clear n0_ n1_ n2_ n3_ n5_; clear hb hbox hg; obtain ⟨Ao133, ep, cY⟩ := Kd.R_slice ah.out; subst cY; obtain ⟨hcz134_0, dV, dW, dX, dY, dZ, d0, d1⟩ := bk4 aa.out; obtain ⟨Ao135, eq, cZ⟩ := Kd.R_slice ai.out; subst cZ))
    go_ret
    exact ⟨by first | rfl | (simp [errW_none, errW_some] <;> rfl) | (simp [*, errW_none, errW_some] <;> rfl) | (rw [HRT.out] <;> rfl) | (simp [HRT.out]; done) | (have h_ := HRT.out; simp [*] at h_ ⊢ <;> first | done | assumption | omega) | (have h_ := HRT.out; simp [*] at h_; done), pB HB.out⟩
   ·rw [if_neg c129] at H
    have c129b0 : decide (a0 < 1) = false := decide_eq_false c129
    (try clear c129)
    have HRT := Aside0.mk (Option.some.inj H)
    clear H
    go_enter Try.func5, Try.ntmps5
    go_wp2_with (first | ((with_reducible refine gate_callee (f := 24) rfl ?_); refine goesE (some 17) rfl rfl Try.func24 (by kernel_rfl) rfl #[] rfl ?_; (with_reducible refine (spigotlaw15_alive.calls k   _ A3.out).mono ?_); rintro e eO ⟨rfl, hb⟩; refine ⟨_, rfl, ?_⟩; have n0_ := Aside0.mk (below_step (pB HB.out) hb); clear HB; have HB := n0_; clear n0_; (try clear hb); (try clear hb2); (try clear hk); (try clear hi)) | ((with_reducible refine gate_callee (f := 10) rfl ?_); refine goesE (some 20) rfl rfl Try.func10 (by kernel_rfl) rfl #[.int .i64 a0] rfl ?_; (with_reducible refine (lru_New.calls k a0 aZ aY a3 a4 aA _ A5.out).mono ?_); rintro e eP ⟨v659, bb, rfl, ho0, ho1, hb⟩; refine ⟨_, rfl, ?_⟩; have n0_ := Aside0.mk (Kd.R_lower ho0 (below_size (pB HB.out))); have n1_ := Aside0.mk (Kd.R_lower ho1 (below_size (pB HB.out))); have n2_ := Aside0.mk (below_step (pB HB.out) hb); clear HB; have ah := n0_; have ai := n1_; have HB := n2_; clear n0_ n1_ n2_; (try clear hb); (try clear hb2); (try clear hk); (try clear hi); (try clear ho0); (try clear ho1)) | ((with_reducible refine gate_dst (N := 6) rfl ?_); (try (refine gate_guard (by rfl) ?_; dsimp only)); refine boxE (N := 6) (cs := #[.slice none 0 0, .slice none 0 0, .int .i64 0, .int .i64 0]) (t := 24) ?_; intro ap hg eQ hbox hb; have n0_ := Rb1 ah hb; have n1_ := Rb1 ai hb; have n2_ := Aside0.mk (below_step (pB HB.out) hb); have n3_ := Aside0.mk (hbox); have n5_ := Aside0.mk (pL HB.out hg); clear ah; clear ai; clear HB; have ah := n0_; have ai := n1_; have HB := n2_; have aa := n3_; have a9 := n5_; clear n0_ n1_ n2_ n3_ n5_; clear hb hbox hg; obtain ⟨Ao139, er, c0⟩ := Kd.R_slice ah.out; subst c0; obtain ⟨hcz140_0, d2, d3, d4, d5, d6, d7, d8⟩ := bk4 aa.out; obtain ⟨Ao141, es, c3⟩ := Kd.R_slice ai.out; subst c3))
    go_ret
    exact ⟨by first | rfl | (simp [errW_none, errW_some] <;> rfl) | (simp [*, errW_none, errW_some] <;> rfl) | (rw [HRT.out] <;> rfl) | (simp [HRT.out]; done) | (have h_ := HRT.out; simp [*] at h_ ⊢ <;> first | done | assumption | omega) | (have h_ := HRT.out; simp [*] at h_; done), pB HB.out⟩
 ·replace c4 := Bool.eq_false_iff.mpr c4
  subst c4
  have H1 : (none) = some true := by rw [if_neg (show ¬ (false = true) by decide)] at H; exact H
  clear H
  have H := H1
  clear H1
  exact absurd H (by simp)

/-- THE ONE PURE STATEMENT of spigotlaw15_LruUses. -/
def spigotlaw15_LruUses.Pure : Prop := ∀ (a0 : Int) (l1 : List Int), ((Lit.int .i64 a0).wf = true) → ((∀ x ∈ l1, (Lit.int .i64 x).wf = true) ∧ l1.length ≤ maxLen) → ∃ k, spigotlaw15_LruUses.f k a0 l1 = some true

end Go.Proofs.Ytiimflniadggaaa.PLru
