-- printed by a program of this session (a turned copy of the kit's print); Lean checks it
import Derived.Test.YteeceppbnkkfpaaShareShort
import Derived.Test.YteeceppbnkkfpaaPSharex0
import Derived.Test.YteeceppbnkkfpaaPSharex12
import Derived.Test.YteeceppbnkkfpaaPSharex15
import Derived.Test.YteeceppbnkkfpaaPSharex16
import Derived.Test.YteeceppbnkkfpaaPSharex17
import Derived.Test.YteeceppbnkkfpaaPSharex19
namespace Go.Proofs.Yteeceppbnkkfpaa.PShare
open Go.RowKit Go.Proofs.YteeceppbnkkfpaaW.PrintWords Go.Proofs.YteeceppbnkkfpaaW.PrintLast Go.Proofs.YteeceppbnkkfpaaW.PrintMore
attribute [local go_sem] max2_int min2_int max_two min_two max_three min_three max_four min_four   -- for this text's walks alone
set_option linter.unusedVariables false
set_option linter.unusedSimpArgs false

/-! ### spigotlaw36_ShareScales: function 4 -/
def spigotlaw36_ShareScales.l0 : Nat → List (S37) → Int → Int → Int → Bool → List (S37) → Int → Option (Bool)
 | 0, _, _, _, _, _, _, _ => none
 | k + 1, x0, x1, x2, x3, x9, x10, x11 => if x11 < (x0.length : Int) then (if 0 ≤ x11 then (if ((rd_T37 x0 x11).f0) > 1000000 then (some x9) else ((some (([(⟨wrap64 (x2 * ((rd_T37 x0 x11).f0)), (rd_T37 x0 x11).f1⟩ : S37)] : List (S37)) : List (S37))).bind fun bw => (if x10.length + bw.length < 8796093022208 then (spigotlaw36_ShareScales.l0 k x0 x1 x2 x3 x9 (x10 ++ bw) (wrap64 (x11 + 1))) else (none)))) else (none)) else ((share_Level.f k x0 x1).bind fun bt319 => ((share_Level.f k x10 (wrap64 (x2 * x1))).bind fun bt323 => (if bt319.2.2 = bt323.2.2 then (if bt319.2.2 = 0 then (if bt319.2.1 < 1 then (some false) else (if bt319.2.1 > 12000 then (some false) else (if bt319.1 < 0 then (some false) else (if bt319.1 > 1000000 then (some false) else (if bt323.2.1 < 1 then (some false) else (if bt323.2.1 > 12000 then (some false) else (if bt323.1 < 0 then (some false) else (if bt323.1 > 1000000000 then (some false) else (if (wrap64 (bt323.1 * bt319.2.1)) = (wrap64 ((wrap64 (x2 * bt319.1)) * bt323.2.1)) then ((some (([] : List (S37)) : List (S37))).bind fun bb => (if 0 ≤ x3 then (if x3 ≤ (x0.length : Int) then ((some (x0.take (x3 : Int).toNat : List (S37))).bind fun a4 => (if bb.length + a4.length < 8796093022208 then ((some (bb ++ a4 : List (S37))).bind fun aP => ((some (([(⟨0, 5⟩ : S37)] : List (S37)) : List (S37))).bind fun aJ => (if aP.length + aJ.length < 8796093022208 then ((some (aP ++ aJ : List (S37))).bind fun aM => ((some (x0.drop (x3 : Int).toNat : List (S37))).bind fun aw => (if aM.length + aw.length < 8796093022208 then ((some (aM ++ aw : List (S37))).bind fun ao => ((share_Split.f k x0 x1).bind fun bt350 => ((share_Split.f k ao x1).bind fun bt354 => (if bt350.2 = 0 then (if bt354.2 = 0 then (if (bt350.1.length : Int) = (x0.length : Int) then (if (bt354.1.length : Int) = (ao.length : Int) then (if x3 < (bt354.1.length : Int) then (if (rd bt354.1 x3) = 0 then (if x9 = true then ((some (([] : List Int) : List Int)).bind fun am => (if x3 ≤ (bt354.1.length : Int) then ((some (bt354.1.take (x3 : Int).toNat : List Int)).bind fun ai => (if am.length + ai.length < 17592186044416 then ((some (am ++ ai : List Int)).bind fun ag => (if 0 ≤ (wrap64 (x3 + 1)) then (if (wrap64 (x3 + 1)) ≤ (bt354.1.length : Int) then ((some (bt354.1.drop ((wrap64 (x3 + 1)) : Int).toNat : List Int)).bind fun ac => (if ag.length + ac.length < 17592186044416 then ((spigotref36_Same.f k (ag ++ ac) bt350.1).bind fun aq => (some aq)) else (none))) else (none)) else (none))) else (none))) else (none))) else (some false)) else (some false)) else (none)) else (some false)) else (some false)) else (some false)) else (some false))))) else (none)))) else (none)))) else (none))) else (none)) else (none))) else (some false)))))))))) else (if bt319.2.2 = 6 then ((some (([] : List (S37)) : List (S37))).bind fun bc => (if 0 ≤ x3 then (if x3 ≤ (x0.length : Int) then ((some (x0.take (x3 : Int).toNat : List (S37))).bind fun a5 => (if bc.length + a5.length < 8796093022208 then ((some (bc ++ a5 : List (S37))).bind fun aQ => ((some (([(⟨0, 5⟩ : S37)] : List (S37)) : List (S37))).bind fun aK => (if aQ.length + aK.length < 8796093022208 then ((some (aQ ++ aK : List (S37))).bind fun aN => ((some (x0.drop (x3 : Int).toNat : List (S37))).bind fun ax => (if aN.length + ax.length < 8796093022208 then ((some (aN ++ ax : List (S37))).bind fun ap => ((share_Split.f k x0 x1).bind fun bt400 => ((share_Split.f k ap x1).bind fun bt404 => (if bt400.2 = 0 then (if bt404.2 = 0 then (if (bt400.1.length : Int) = (x0.length : Int) then (if (bt404.1.length : Int) = (ap.length : Int) then (if x3 < (bt404.1.length : Int) then (if (rd bt404.1 x3) = 0 then (if x9 = true then ((some (([] : List Int) : List Int)).bind fun an => (if x3 ≤ (bt404.1.length : Int) then ((some (bt404.1.take (x3 : Int).toNat : List Int)).bind fun aj => (if an.length + aj.length < 17592186044416 then ((some (an ++ aj : List Int)).bind fun ah => (if 0 ≤ (wrap64 (x3 + 1)) then (if (wrap64 (x3 + 1)) ≤ (bt404.1.length : Int) then ((some (bt404.1.drop ((wrap64 (x3 + 1)) : Int).toNat : List Int)).bind fun ad => (if ah.length + ad.length < 17592186044416 then ((spigotref36_Same.f k (ah ++ ad) bt400.1).bind fun ar => (some ar)) else (none))) else (none)) else (none))) else (none))) else (none))) else (some false)) else (some false)) else (none)) else (some false)) else (some false)) else (some false)) else (some false))))) else (none)))) else (none)))) else (none))) else (none)) else (none))) else (some false))) else (some false))))
def spigotlaw36_ShareScales.f (k : Nat) (l0 : List (S37)) (a1 : Int) (a2 : Int) (a3 : Int) : Option (Bool) := (spigotlaw36_alive.f k).bind fun aD => (if aD = true then (if (l0.length : Int) > 11 then (some aD) else ((spigotref36_Asked.f k l0 a1).bind fun a6 => (if a6 = 0 then (if a1 > 1000000 then (some aD) else (if a2 < 1 then (some aD) else (if a2 > 1000 then (some aD) else (if a3 < 0 then (some aD) else (if a3 > (l0.length : Int) then (some aD) else (spigotlaw36_ShareScales.l0 k l0 a1 a2 a3 aD ([] : List (S37)) 0)))))) else (some aD)))) else (none))
theorem spigotlaw36_ShareScales.mono_l : ∀ k, (∀ y0 y1 y2 y3 y4 y5 y6, LeO (spigotlaw36_ShareScales.l0 k y0 y1 y2 y3 y4 y5 y6) (spigotlaw36_ShareScales.l0 (k + 1) y0 y1 y2 y3 y4 y5 y6))
 | 0 => fun _ _ _ _ _ _ _ r h => by simp [spigotlaw36_ShareScales.l0] at h
 | k + 1 => by
  have ih0 := spigotlaw36_ShareScales.mono_l k
  ·intro y0 y1 y2 y3 y4 y5 y6
   unfold spigotlaw36_ShareScales.l0
   repeat' first
   | (with_reducible exact ih0 _ _ _ _ _ _ _)
   | (with_reducible exact share_Level.mono _ _ _)
   | (with_reducible exact share_Split.mono _ _ _)
   | (with_reducible exact spigotlaw36_alive.mono _)
   | (with_reducible exact spigotref36_Asked.mono _ _ _)
   | (with_reducible exact spigotref36_Same.mono _ _ _)
   | (with_reducible exact LeO.refl _)
   | (with_reducible exact LeO.none _)
   | (with_reducible refine LeO.ite ?_ ?_)
   | (with_reducible refine LeO.bind ?_ (fun _ => ?_))
   | exact ih0 _ _ _ _ _ _ _
   | exact share_Level.mono _ _ _
   | exact share_Split.mono _ _ _
   | exact spigotlaw36_alive.mono _
   | exact spigotref36_Asked.mono _ _ _
   | exact spigotref36_Same.mono _ _ _
   | exact LeO.none _
   | refine LeO.ite ?_ ?_
   | refine LeO.bind ?_ (fun _ => ?_)
theorem spigotlaw36_ShareScales.mono : ∀ a0 a1 a2 a3 k, LeO (spigotlaw36_ShareScales.f k a0 a1 a2 a3) (spigotlaw36_ShareScales.f (k + 1) a0 a1 a2 a3) := by
 intro a0 a1 a2 a3 k
 have ih0 := spigotlaw36_ShareScales.mono_l k
 unfold spigotlaw36_ShareScales.f
 repeat' first
   | (with_reducible exact ih0 _ _ _ _ _ _ _)
   | (with_reducible exact share_Level.mono _ _ _)
   | (with_reducible exact share_Split.mono _ _ _)
   | (with_reducible exact spigotlaw36_alive.mono _)
   | (with_reducible exact spigotref36_Asked.mono _ _ _)
   | (with_reducible exact spigotref36_Same.mono _ _ _)
   | (with_reducible exact LeO.refl _)
   | (with_reducible exact LeO.none _)
   | (with_reducible refine LeO.ite ?_ ?_)
   | (with_reducible refine LeO.bind ?_ (fun _ => ?_))
   | exact ih0 _ _ _ _ _ _ _
   | exact share_Level.mono _ _ _
   | exact share_Split.mono _ _ _
   | exact spigotlaw36_alive.mono _
   | exact spigotref36_Asked.mono _ _ _
   | exact spigotref36_Same.mono _ _ _
   | exact LeO.none _
   | refine LeO.ite ?_ ?_
   | refine LeO.bind ?_ (fun _ => ?_)
def spigotlaw36_ShareScales.T10 : Bool × List (List Nat × List Nat) := (true, [([], []), ([], []), ([], []), ([], []), ([2, 3], [2, 3]), ([4], [4]), ([5], [5]), ([1, 6], [1, 6]), ([], []), ([], []), ([8, 9], [8, 9]), ([10], [10]), ([11], [11]), ([7, 12], [7, 12]), ([13], [13]), ([0, 14], [0, 14]), ([15, 15, 0, 1, 2, 3, 4, 5, 6, 7, 8, 9, 10, 11, 12, 13, 14, 15], [0, 15])])
def spigotlaw36_ShareScales.B10 : List Nat := [0, 0, 0, 0, 12, 28, 60, 126, 0, 0, 768, 1792, 3840, 8190, 16382, 32767, 65535]
theorem spigotlaw36_ShareScales.tab10 : rtab .any (opsOf Try.f4 10) = spigotlaw36_ShareScales.T10 := by kernel_rfl
theorem spigotlaw36_ShareScales.bits10 : waitsOk spigotlaw36_ShareScales.T10.2 spigotlaw36_ShareScales.B10 = true := by kernel_rfl
def spigotlaw36_ShareScales.T17 : Bool × List (List Nat × List Nat) := (true, [([], []), ([], []), ([], []), ([1, 2], [1, 2]), ([0, 3], [0, 3]), ([], []), ([5], [5]), ([4, 6, 4], [4, 6]), ([], []), ([], []), ([8, 9], [8, 9]), ([7, 10, 7], [7, 10]), ([11, 11, 0, 1, 2, 3, 4, 5, 6, 7, 8, 9, 10, 11], [11])])
def spigotlaw36_ShareScales.B17 : List Nat := [0, 0, 0, 6, 15, 0, 32, 127, 0, 0, 768, 2047, 4095]
theorem spigotlaw36_ShareScales.tab17 : rtab .any (opsOf Try.f4 17) = spigotlaw36_ShareScales.T17 := by kernel_rfl
theorem spigotlaw36_ShareScales.bits17 : waitsOk spigotlaw36_ShareScales.T17.2 spigotlaw36_ShareScales.B17 = true := by kernel_rfl
def spigotlaw36_ShareScales.T22 : Bool × List (List Nat × List Nat) := (true, [([], []), ([0], [0]), ([1], [1]), ([1], [1]), ([1], [1]), ([3, 4, 1], [1, 3, 4]), ([2, 5, 1, 1], [1, 2, 5]), ([1], [1]), ([1], [1]), ([8, 1], [1, 8]), ([7, 9, 1], [1, 7, 9]), ([6, 10, 6, 1], [1, 6, 10]), ([1], [1]), ([11, 12, 11, 1], [1, 11, 12]), ([1, 13], [1, 13]), ([14, 13, 0, 1, 2, 3, 4, 5, 6, 7, 8, 9, 10, 11, 12, 13, 14], [14])])
def spigotlaw36_ShareScales.B22 : List Nat := [0, 1, 3, 3, 3, 27, 63, 3, 3, 259, 899, 2047, 3, 8191, 16383, 32767]
theorem spigotlaw36_ShareScales.tab22 : rtab .any (opsOf Try.f4 22) = spigotlaw36_ShareScales.T22 := by kernel_rfl
theorem spigotlaw36_ShareScales.bits22 : waitsOk spigotlaw36_ShareScales.T22.2 spigotlaw36_ShareScales.B22 = true := by kernel_rfl
set_option maxHeartbeats 8000000 in
set_option maxRecDepth 100000 in
theorem spigotlaw36_ShareScales.calls (k : Nat) (A0 : Option Addr) (c0 : Nat) (l0 : List (S37)) (a1 : Int) (a2 : Int) (a3 : Int) (w : World) (hr0 : Kd.C k37 w A0 l0.length l0) (hc0 : l0.length ≤ c0) (h : spigotlaw36_ShareScales.f k l0 a1 a2 a3 = some true) :
  Calls Try.prog 4 #[.slice A0 l0.length c0, .int .i64 a1, .int .i64 a2, .int .i64 a3] w fun e w' => e = .returned (.bool true) ∧ Below w.heap.size w w' := by
 have hu37 := Try.underlying37
 have hu26 := Try.underlying26
 have HR0 := Aside0.mk hr0
 have HC0 := Aside0.mk hc0
 clear hr0 hc0
 have HB := Aside0.mk (Below.refl w.heap.size w)
 have H : ((spigotlaw36_alive.f k).bind fun aD => (if aD = true then (if (l0.length : Int) > 11 then (some aD) else ((spigotref36_Asked.f k l0 a1).bind fun a6 => (if a6 = 0 then (if a1 > 1000000 then (some aD) else (if a2 < 1 then (some aD) else (if a2 > 1000 then (some aD) else (if a3 < 0 then (some aD) else (if a3 > (l0.length : Int) then (some aD) else (spigotlaw36_ShareScales.l0 k l0 a1 a2 a3 aD ([] : List (S37)) 0)))))) else (some aD)))) else (none))) = some true := h
 clear h
 replace H := Option.bind_eq_some_iff.mp H
 obtain ⟨aD, A50, H⟩ := H
 replace H : (if aD = true then (if (l0.length : Int) > 11 then (some aD) else ((spigotref36_Asked.f k l0 a1).bind fun a6 => (if a6 = 0 then (if a1 > 1000000 then (some aD) else (if a2 < 1 then (some aD) else (if a2 > 1000 then (some aD) else (if a3 < 0 then (some aD) else (if a3 > (l0.length : Int) then (some aD) else (spigotlaw36_ShareScales.l0 k l0 a1 a2 a3 aD ([] : List (S37)) 0)))))) else (some aD)))) else (none)) = some true := H
 have A5 := Aside0.mk A50
 (try clear A50)
 by_cases c6 : aD = true
 ·subst c6
  have H1 : (if (l0.length : Int) > 11 then (some true) else ((spigotref36_Asked.f k l0 a1).bind fun a6 => (if a6 = 0 then (if a1 > 1000000 then (some true) else (if a2 < 1 then (some true) else (if a2 > 1000 then (some true) else (if a3 < 0 then (some true) else (if a3 > (l0.length : Int) then (some true) else (spigotlaw36_ShareScales.l0 k l0 a1 a2 a3 true ([] : List (S37)) 0)))))) else (some true)))) = some true := by rw [if_pos rfl] at H; exact H
  clear H
  have H := H1
  clear H1
  by_cases c7 : (l0.length : Int) > 11
  ·rw [if_pos c7] at H
   have c7b0 : decide (11 < (l0.length : Int)) = true := decide_eq_true c7
   have c7b1 : decide (11 < l0.length) = true := decide_eq_true (by omega)
   clear c7
   clear H
   go_enter Try.func4, Try.ntmps4
   go_wp2_with (first | ((with_reducible refine gate_callee (f := 9) rfl ?_); refine goesE (some 21) rfl rfl Try.func9 (by kernel_rfl) rfl #[] rfl ?_; (with_reducible refine (spigotlaw36_alive.calls k   _ A5.out).mono ?_); rintro e w8 ⟨rfl, hb⟩; refine ⟨_, rfl, ?_⟩; have n0_ := Aside0.mk (below_step (pB HB.out) hb); clear HB; have HB := n0_; clear n0_; (try clear hb); (try clear hb2); (try clear hk); (try clear hi)))
   go_ret
   exact ⟨by first | rfl | (simp [errW_none, errW_some] <;> rfl) | (simp [*, errW_none, errW_some] <;> rfl), pB HB.out⟩
  ·rw [if_neg c7] at H
   have c7b0 : decide (11 < (l0.length : Int)) = false := decide_eq_false c7
   have c7b1 : decide (11 < l0.length) = false := decide_eq_false (by omega)
   clear c7
   replace H := Option.bind_eq_some_iff.mp H
   obtain ⟨a6, A90, H⟩ := H
   replace H : (if a6 = 0 then (if a1 > 1000000 then (some true) else (if a2 < 1 then (some true) else (if a2 > 1000 then (some true) else (if a3 < 0 then (some true) else (if a3 > (l0.length : Int) then (some true) else (spigotlaw36_ShareScales.l0 k l0 a1 a2 a3 true ([] : List (S37)) 0)))))) else (some true)) = some true := H
   have A9 := Aside0.mk A90
   (try clear A90)
   by_cases c10 : a6 = 0
   ·rw [if_pos c10] at H
    have c10b0 : (a6 == 0) = true := beq_iff_eq.mpr c10
    have c10b1 : (a6 != 0) = false := bne_eq_false_iff_eq.mpr c10
    clear c10
    by_cases c11 : a1 > 1000000
    ·rw [if_pos c11] at H
     have c11b0 : decide (1000000 < a1) = true := decide_eq_true c11
     clear c11
     clear H
     go_enter Try.func4, Try.ntmps4
     go_wp2_with (first | ((with_reducible refine gate_callee (f := 9) rfl ?_); refine goesE (some 21) rfl rfl Try.func9 (by kernel_rfl) rfl #[] rfl ?_; (with_reducible refine (spigotlaw36_alive.calls k   _ A5.out).mono ?_); rintro e w12 ⟨rfl, hb⟩; refine ⟨_, rfl, ?_⟩; have n0_ := Aside0.mk (below_step (pB HB.out) hb); clear HB; have HB := n0_; clear n0_; (try clear hb); (try clear hb2); (try clear hk); (try clear hi)) | (go_at_call 10; (with_reducible refine (spigotref36_Asked.calls k _ _ l0 a1 a6 _ ?side1 ?side2 A9.out).mono ?_); (case side1 => exact Kd.pC ((Kd.C_below HR0.out HB.out))); (case side2 => exact HC0.out); rintro e w' ⟨rfl, ⟨nd, rfl⟩⟩))
     go_ret
     exact ⟨by first | rfl | (simp [errW_none, errW_some] <;> rfl) | (simp [*, errW_none, errW_some] <;> rfl), pB HB.out⟩
    ·rw [if_neg c11] at H
     have c11b0 : decide (1000000 < a1) = false := decide_eq_false c11
     clear c11
     by_cases c13 : a2 < 1
     ·rw [if_pos c13] at H
      have c13b0 : decide (a2 < 1) = true := decide_eq_true c13
      clear c13
      clear H
      go_enter Try.func4, Try.ntmps4
      go_wp2_with (first | ((with_reducible refine gate_callee (f := 9) rfl ?_); refine goesE (some 21) rfl rfl Try.func9 (by kernel_rfl) rfl #[] rfl ?_; (with_reducible refine (spigotlaw36_alive.calls k   _ A5.out).mono ?_); rintro e w14 ⟨rfl, hb⟩; refine ⟨_, rfl, ?_⟩; have n0_ := Aside0.mk (below_step (pB HB.out) hb); clear HB; have HB := n0_; clear n0_; (try clear hb); (try clear hb2); (try clear hk); (try clear hi)) | (go_at_call 10; (with_reducible refine (spigotref36_Asked.calls k _ _ l0 a1 a6 _ ?side1 ?side2 A9.out).mono ?_); (case side1 => exact Kd.pC ((Kd.C_below HR0.out HB.out))); (case side2 => exact HC0.out); rintro e w' ⟨rfl, ⟨nd, rfl⟩⟩))
      go_ret
      exact ⟨by first | rfl | (simp [errW_none, errW_some] <;> rfl) | (simp [*, errW_none, errW_some] <;> rfl), pB HB.out⟩
     ·rw [if_neg c13] at H
      have c13b0 : decide (a2 < 1) = false := decide_eq_false c13
      clear c13
      by_cases c15 : a2 > 1000
      ·rw [if_pos c15] at H
       have c15b0 : decide (1000 < a2) = true := decide_eq_true c15
       clear c15
       clear H
       go_enter Try.func4, Try.ntmps4
       go_wp2_with (first | ((with_reducible refine gate_callee (f := 9) rfl ?_); refine goesE (some 21) rfl rfl Try.func9 (by kernel_rfl) rfl #[] rfl ?_; (with_reducible refine (spigotlaw36_alive.calls k   _ A5.out).mono ?_); rintro e w16 ⟨rfl, hb⟩; refine ⟨_, rfl, ?_⟩; have n0_ := Aside0.mk (below_step (pB HB.out) hb); clear HB; have HB := n0_; clear n0_; (try clear hb); (try clear hb2); (try clear hk); (try clear hi)) | (go_at_call 10; (with_reducible refine (spigotref36_Asked.calls k _ _ l0 a1 a6 _ ?side1 ?side2 A9.out).mono ?_); (case side1 => exact Kd.pC ((Kd.C_below HR0.out HB.out))); (case side2 => exact HC0.out); rintro e w' ⟨rfl, ⟨nd, rfl⟩⟩))
       go_ret
       exact ⟨by first | rfl | (simp [errW_none, errW_some] <;> rfl) | (simp [*, errW_none, errW_some] <;> rfl), pB HB.out⟩
      ·rw [if_neg c15] at H
       have c15b0 : decide (1000 < a2) = false := decide_eq_false c15
       clear c15
       by_cases c17 : a3 < 0
       ·rw [if_pos c17] at H
        have c17b0 : decide (a3 < 0) = true := decide_eq_true c17
        clear c17
        clear H
        go_enter Try.func4, Try.ntmps4
        go_wp2_with (first | ((with_reducible refine gate_callee (f := 9) rfl ?_); refine goesE (some 21) rfl rfl Try.func9 (by kernel_rfl) rfl #[] rfl ?_; (with_reducible refine (spigotlaw36_alive.calls k   _ A5.out).mono ?_); rintro e w18 ⟨rfl, hb⟩; refine ⟨_, rfl, ?_⟩; have n0_ := Aside0.mk (below_step (pB HB.out) hb); clear HB; have HB := n0_; clear n0_; (try clear hb); (try clear hb2); (try clear hk); (try clear hi)) | (go_at_call 10; (with_reducible refine (spigotref36_Asked.calls k _ _ l0 a1 a6 _ ?side1 ?side2 A9.out).mono ?_); (case side1 => exact Kd.pC ((Kd.C_below HR0.out HB.out))); (case side2 => exact HC0.out); rintro e w' ⟨rfl, ⟨nd, rfl⟩⟩))
        go_ret
        exact ⟨by first | rfl | (simp [errW_none, errW_some] <;> rfl) | (simp [*, errW_none, errW_some] <;> rfl), pB HB.out⟩
       ·rw [if_neg c17] at H
        have c17b0 : decide (a3 < 0) = false := decide_eq_false c17
        clear c17
        by_cases c19 : a3 > (l0.length : Int)
        ·rw [if_pos c19] at H
         have c19b0 : decide ((l0.length : Int) < a3) = true := decide_eq_true c19
         clear c19
         clear H
         go_enter Try.func4, Try.ntmps4
         go_wp2_with (first | ((with_reducible refine gate_callee (f := 9) rfl ?_); refine goesE (some 21) rfl rfl Try.func9 (by kernel_rfl) rfl #[] rfl ?_; (with_reducible refine (spigotlaw36_alive.calls k   _ A5.out).mono ?_); rintro e w20 ⟨rfl, hb⟩; refine ⟨_, rfl, ?_⟩; have n0_ := Aside0.mk (below_step (pB HB.out) hb); clear HB; have HB := n0_; clear n0_; (try clear hb); (try clear hb2); (try clear hk); (try clear hi)) | (go_at_call 10; (with_reducible refine (spigotref36_Asked.calls k _ _ l0 a1 a6 _ ?side1 ?side2 A9.out).mono ?_); (case side1 => exact Kd.pC ((Kd.C_below HR0.out HB.out))); (case side2 => exact HC0.out); rintro e w' ⟨rfl, ⟨nd, rfl⟩⟩))
         go_ret
         exact ⟨by first | rfl | (simp [errW_none, errW_some] <;> rfl) | (simp [*, errW_none, errW_some] <;> rfl), pB HB.out⟩
        ·rw [if_neg c19] at H
         have c19b0 : decide ((l0.length : Int) < a3) = false := decide_eq_false c19
         clear c19
         have H' := Aside0.mk H
         clear H
         go_enter Try.func4, Try.ntmps4
         go_wp2_with (first | ((with_reducible refine gate_callee (f := 9) rfl ?_); refine goesE (some 21) rfl rfl Try.func9 (by kernel_rfl) rfl #[] rfl ?_; (with_reducible refine (spigotlaw36_alive.calls k   _ A5.out).mono ?_); rintro e w21 ⟨rfl, hb⟩; refine ⟨_, rfl, ?_⟩; have n0_ := Aside0.mk (below_step (pB HB.out) hb); clear HB; have HB := n0_; clear n0_; (try clear hb); (try clear hb2); (try clear hk); (try clear hi)) | (go_at_call 10; (with_reducible refine (spigotref36_Asked.calls k _ _ l0 a1 a6 _ ?side1 ?side2 A9.out).mono ?_); (case side1 => exact Kd.pC ((Kd.C_below HR0.out HB.out))); (case side2 => exact HC0.out); rintro e w' ⟨rfl, ⟨nd, rfl⟩⟩))
         go_loopg [10, 11] k (fun kq v10 v11 w' => ∃ (x10_1 : List (S37)) (x11_1 : Int), v11 = .int .i64 x11_1 ∧ Aside0 (spigotlaw36_ShareScales.l0 kq l0 a1 a2 a3 true x10_1 x11_1 = some true) ∧ Aside0 (kq ≤ k) ∧ Aside0 (Kd.R k37 37 w' w.heap.size (fun _ => True) v10 x10_1) ∧ Aside0 (Below w.heap.size w w'))
         case atStart => exact ⟨(([] : List (S37))), (0), (by first | rfl | (simp; done) | (simp [*]; done)), H', ⟨Nat.le_refl _⟩, ⟨by first | exact Kd.R_nil _ _ _ _ _ | exact Kd.N_nil _ _ _ _ _ | exact Kd.V_nil _ _ _ _ _ | exact Kd.Q_nil _ _ _ _ _ | exact Kd.S_nil _ _ _ _ _⟩, ⟨pB HB.out⟩⟩
         case round =>
          clear H'
          try clear c1
          try clear p2
          try clear c4
          try clear c6
          try clear c7
          try clear c7b0
          try clear c7b1
          try clear c9
          try clear c10
          try clear c10b0
          try clear c10b1
          try clear c11
          try clear c11b0
          try clear c13
          try clear c13b0
          try clear c15
          try clear c15b0
          try clear c17
          try clear c17b0
          try clear c19
          try clear c19b0
          obtain ⟨x10_1, x11_1, rfl, HA, HK1, HO_10, HB⟩ := hrel
          cases gk with
          | zero => exact absurd HA.out (by simp [spigotlaw36_ShareScales.l0])
          | succ k1 =>
           have H := HA.out
           (try clear HA)
           simp only [spigotlaw36_ShareScales.l0] at H
           by_cases c22 : x11_1 < (l0.length : Int)
           ·rw [if_pos c22] at H
            have c22b0 : decide (x11_1 < (l0.length : Int)) = true := decide_eq_true c22
            clear c22
            by_cases c23 : 0 ≤ x11_1
            ·rw [if_pos c23] at H
             have c23b0 : decide (0 ≤ x11_1) = true := decide_eq_true c23
             clear c23
             by_cases c24 : ((rd_T37 l0 x11_1).f0) > 1000000
             ·rw [if_pos c24] at H
              have c24b0 : decide (1000000 < ((rd_T37 l0 x11_1).f0)) = true := decide_eq_true c24
              clear c24
              clear H
              have p310 : 0 ≤ (x11_1 : Int) := od
              have q310 : x11_1 < (l0.length : Int) := od
              obtain ⟨ad310, e310, bg, bh⟩ := at_T37 HR0.out x11_1 p310 q310
              cases e310
              replace bg := (HB.out.cell (World.block_lt_of_cell? w _ bg)).trans bg
              replace bh := (HB.out.cell (World.block_lt_of_cell? w _ bh)).trans bh
              replace p310 := eq_true p310
              replace q310 := eq_true q310
              go_wp2
              go_ret
              exact ⟨by first | rfl | (simp [errW_none, errW_some] <;> rfl) | (simp [*, errW_none, errW_some] <;> rfl), pB HB.out⟩
             ·rw [if_neg c24] at H
              have c24b0 : decide (1000000 < ((rd_T37 l0 x11_1).f0)) = false := decide_eq_false c24
              (try clear c24)
              obtain ⟨bw, bI⟩ : ∃ y_ : List (S37), y_ = (([(⟨wrap64 (a2 * ((rd_T37 l0 x11_1).f0)), (rd_T37 l0 x11_1).f1⟩ : S37)] : List (S37))) := ⟨_, rfl⟩
              replace H : (if x10_1.length + bw.length < 8796093022208 then (spigotlaw36_ShareScales.l0 k1 l0 a1 a2 a3 true (x10_1 ++ bw) (wrap64 (x11_1 + 1))) else (none)) = some true := by first | (rw [bI]; with_reducible exact H) | (have H2_ := (Option.bind_some _ _).symm.trans H; rw [bI]; with_reducible exact H2_) | (have H2_ := (Option.bind_some _ _).symm.trans H; with_reducible exact H2_) | with_reducible exact H | (rw [bI]; exact H) | exact H
              have cE := Aside0.mk bI
              (try clear bI)
              by_cases c25 : x10_1.length + bw.length < 8796093022208
              ·rw [if_pos c25] at H
               have dk := Aside0.mk c25
               clear c25
               obtain ⟨dK, bJ⟩ : ∃ y_ : List (S37), y_ = (x10_1 ++ bw) := ⟨_, rfl⟩
               replace H : (spigotlaw36_ShareScales.l0 k1 l0 a1 a2 a3 true dK (wrap64 (x11_1 + 1))) = some true := by first | (rw [bJ]; with_reducible exact H) | (have H2_ := (Option.bind_some _ _).symm.trans H; rw [bJ]; with_reducible exact H2_) | (have H2_ := (Option.bind_some _ _).symm.trans H; with_reducible exact H2_) | with_reducible exact H | (rw [bJ]; exact H) | exact H
               have dl := Aside0.mk bJ
               (try clear bJ)
               have H' := Aside0.mk H
               clear H
               have p310 : 0 ≤ (x11_1 : Int) := od
               have q310 : x11_1 < (l0.length : Int) := od
               obtain ⟨ad310, e310, bg, bh⟩ := at_T37 HR0.out x11_1 p310 q310
               cases e310
               replace bg := (HB.out.cell (World.block_lt_of_cell? w _ bg)).trans bg
               replace bh := (HB.out.cell (World.block_lt_of_cell? w _ bh)).trans bh
               replace p310 := eq_true p310
               replace q310 := eq_true q310
               try go_wp2
               have n0_ := Aside0.mk (Kd.R_drew HO_10.out)
               have n1_ := Aside0.mk (below_drew1 HB.out)
               clear HO_10
               clear HB
               have HO_10 := n0_
               have HB := n1_
               clear n0_ n1_
               have p311 : 0 ≤ (x11_1 : Int) := od
               have q311 : x11_1 < (l0.length : Int) := od
               obtain ⟨ad311, e311, bq, br⟩ := at_T37 HR0.out x11_1 p311 q311
               have hw311_1 := br
               have hw311_0 := bq
               obtain rfl : ad310 = ad311 := (by injection e311)
               replace bq := (HB.out.cell (World.block_lt_of_cell? w _ bq)).trans bq
               replace br := (HB.out.cell (World.block_lt_of_cell? w _ br)).trans br
               replace p311 := eq_true p311
               replace q311 := eq_true q311
               have p312 : 0 ≤ (x11_1 : Int) := od
               have q312 : x11_1 < (l0.length : Int) := od
               obtain ⟨ad312, e312, bs, bt⟩ := at_T37 HR0.out x11_1 p312 q312
               have hw312_1 := bt
               have hw312_0 := bs
               obtain rfl : ad310 = ad312 := (by injection e312)
               replace bs := (HB.out.cell (World.block_lt_of_cell? w _ bs)).trans bs
               replace bt := (HB.out.cell (World.block_lt_of_cell? w _ bt)).trans bt
               replace p312 := eq_true p312
               replace q312 := eq_true q312
               refine start_ (n := 17) (S := fun w' => w'.cell? (ad310.add ((x11_1).toNat * 2)) = some (.int .i64 ((rd_T37 l0 x11_1).f0)) ∧ w'.cell? ⟨(ad310.add ((x11_1).toNat * 2)).block, (ad310.add ((x11_1).toNat * 2)).off + 1, none⟩ = some (.int .i64 ((rd_T37 l0 x11_1).f1)) ∧ w'.cell? (ad310.add ((x11_1).toNat * 2)) = some (.int .i64 ((rd_T37 l0 x11_1).f0)) ∧ w'.cell? ⟨(ad310.add ((x11_1).toNat * 2)).block, (ad310.add ((x11_1).toNat * 2)).off + 1, none⟩ = some (.int .i64 ((rd_T37 l0 x11_1).f1))) (ds := []) #[false, false, false, false, false, false, false, false, false, false, false, false, false, false, false, false, false] (by kernel_rfl) rfl rfl ⟨((HB.out.cell (World.block_lt_of_cell? w _ hw311_0)).trans hw311_0), ((HB.out.cell (World.block_lt_of_cell? w _ hw311_1)).trans hw311_1), ((HB.out.cell (World.block_lt_of_cell? w _ hw312_0)).trans hw312_0), ((HB.out.cell (World.block_lt_of_cell? w _ hw312_1)).trans hw312_1)⟩ (fun hHeld => ?_); refine with_tabW spigotlaw36_ShareScales.tab10 spigotlaw36_ShareScales.bits10 (fun HT_ HW_ => ?_)
               generalize wr.drew = w26 at HO_10 HB bq br bs bt hHeld ⊢
               refine pure_ (i := 0) (N := some 71) (v := ?_) (a' := ?_) #[true, false, false, false, false, false, false, false, false, false, false, false, false, false, false, false, false] rfl rfl (any_of HT_.out (by kernel_rfl)) (fun _ _ _ h => h) (Or.inl ⟨by rfl, ?_⟩) ?_ ?_
               rotate_left
               ·intro w'
                go_simp
                with_reducible rfl
               rotate_left
               ·simp only [Act.put, List.setIfInBounds_toArray, List.set_cons_zero, List.set_cons_succ, i64_w, i32_w]
                rfl
               refine pure_ (i := 1) (N := some 72) (v := ?_) (a' := ?_) #[true, true, false, false, false, false, false, false, false, false, false, false, false, false, false, false, false] rfl rfl (any_of HT_.out (by kernel_rfl)) (fun _ _ _ h => h) (Or.inl ⟨by rfl, ?_⟩) ?_ ?_
               rotate_left
               ·intro w'
                go_simp
                with_reducible rfl
               rotate_left
               ·simp only [Act.put, List.setIfInBounds_toArray, List.set_cons_zero, List.set_cons_succ, i64_w, i32_w]
                rfl
               refine pure_ (i := 2) (N := some 73) (v := ?_) (a' := ?_) #[true, true, true, false, false, false, false, false, false, false, false, false, false, false, false, false, false] rfl rfl (any_of HT_.out (by kernel_rfl)) (fun _ _ _ h => h) (Or.inl ⟨by rfl, ?_⟩) ?_ ?_
               rotate_left
               ·intro w'
                go_simp
                with_reducible rfl
               rotate_left
               ·simp only [Act.put, List.setIfInBounds_toArray, List.set_cons_zero, List.set_cons_succ, i64_w, i32_w]
                rfl
               refine pure_ (i := 3) (N := some 74) (v := ?_) (a' := ?_) #[true, true, true, true, false, false, false, false, false, false, false, false, false, false, false, false, false] rfl rfl (any_of HT_.out (by kernel_rfl)) (fun _ _ _ h => h) (Or.inl ⟨by rfl, ?_⟩) ?_ ?_
               rotate_left
               ·intro w'
                go_simp
                with_reducible rfl
               rotate_left
               ·simp only [Act.put, List.setIfInBounds_toArray, List.set_cons_zero, List.set_cons_succ, i64_w, i32_w]
                rfl
               refine pure_ (i := 4) (N := some 75) (v := ?_) (a' := ?_) #[true, true, true, true, true, false, false, false, false, false, false, false, false, false, false, false, false] rfl rfl (any_of HT_.out (by kernel_rfl)) (fun _ _ _ h => h) (Or.inl ⟨by rfl, ?_⟩) ?_ ?_
               rotate_left
               ·intro w'
                go_simp
                with_reducible rfl
               rotate_left
               ·simp only [Act.put, List.setIfInBounds_toArray, List.set_cons_zero, List.set_cons_succ, i64_w, i32_w]
                rfl
               refine pure_ (i := 5) (N := some 76) (v := ?_) (a' := ?_) #[true, true, true, true, true, true, false, false, false, false, false, false, false, false, false, false, false] rfl rfl (any_of HT_.out (by kernel_rfl)) (fun _ _ _ h => h) (Or.inl ⟨by rfl, ?_⟩) ?_ ?_
               rotate_left
               ·intro w'
                go_simp
                with_reducible rfl
               rotate_left
               ·simp only [Act.put, List.setIfInBounds_toArray, List.set_cons_zero, List.set_cons_succ, i64_w, i32_w]
                rfl
               refine pure_ (i := 8) (N := some 79) (v := ?_) (a' := ?_) #[true, true, true, true, true, true, false, false, true, false, false, false, false, false, false, false, false] rfl rfl (any_of HT_.out (by kernel_rfl)) (fun _ _ _ h => h) (Or.inl ⟨by rfl, ?_⟩) ?_ ?_
               rotate_left
               ·intro w'
                go_simp
                with_reducible rfl
               rotate_left
               ·simp only [Act.put, List.setIfInBounds_toArray, List.set_cons_zero, List.set_cons_succ, i64_w, i32_w]
                rfl
               refine pure_ (i := 9) (N := some 80) (v := ?_) (a' := ?_) #[true, true, true, true, true, true, false, false, true, true, false, false, false, false, false, false, false] rfl rfl (any_of HT_.out (by kernel_rfl)) (fun _ _ _ h => h) (Or.inl ⟨by rfl, ?_⟩) ?_ ?_
               rotate_left
               ·intro w'
                go_simp
                with_reducible rfl
               rotate_left
               ·simp only [Act.put, List.setIfInBounds_toArray, List.set_cons_zero, List.set_cons_succ, i64_w, i32_w]
                rfl
               refine pure_ (i := 10) (N := some 81) (v := ?_) (a' := ?_) #[true, true, true, true, true, true, false, false, true, true, true, false, false, false, false, false, false] rfl rfl (any_of HT_.out (by kernel_rfl)) (fun _ _ _ h => h) (Or.inl ⟨by rfl, ?_⟩) ?_ ?_
               rotate_left
               ·intro w'
                go_simp
                with_reducible rfl
               rotate_left
               ·simp only [Act.put, List.setIfInBounds_toArray, List.set_cons_zero, List.set_cons_succ, i64_w, i32_w]
                rfl
               refine pure_ (i := 11) (N := some 82) (v := ?_) (a' := ?_) #[true, true, true, true, true, true, false, false, true, true, true, true, false, false, false, false, false] rfl rfl (any_of HT_.out (by kernel_rfl)) (fun _ _ _ h => h) (Or.inl ⟨by rfl, ?_⟩) ?_ ?_
               rotate_left
               ·intro w'
                go_simp
                with_reducible rfl
               rotate_left
               ·simp only [Act.put, List.setIfInBounds_toArray, List.set_cons_zero, List.set_cons_succ, i64_w, i32_w]
                rfl
               refine take_ (i := 6) (N := some 77) (v := ?_) (a' := ?_) #[true, true, true, true, true, true, true, false, true, true, true, true, false, false, false, false, false] rfl rfl (take_ofW HT_.out HW_.out (by kernel_rfl)) (fun _ _ _ h => h) (Or.inl ⟨by rfl, ?_⟩) hHeld ?_ ?_
               rotate_left
               ·rintro w' ⟨s0, s1, s2, s3⟩
                go_simp
                with_reducible rfl
               rotate_left
               ·simp only [Act.put, List.setIfInBounds_toArray, List.set_cons_zero, List.set_cons_succ, i64_w, i32_w]
                rfl
               refine pure_ (i := 7) (N := some 78) (v := ?_) (a' := ?_) #[true, true, true, true, true, true, true, true, true, true, true, true, false, false, false, false, false] rfl rfl (any_of HT_.out (by kernel_rfl)) (fun _ _ _ h => h) (Or.inl ⟨by rfl, ?_⟩) ?_ ?_
               rotate_left
               ·intro w'
                go_simp
                with_reducible rfl
               rotate_left
               ·simp only [Act.put, List.setIfInBounds_toArray, List.set_cons_zero, List.set_cons_succ, i64_w, i32_w]
                rfl
               refine take_ (i := 12) (N := some 83) (v := ?_) (a' := ?_) #[true, true, true, true, true, true, true, true, true, true, true, true, true, false, false, false, false] rfl rfl (take_ofW HT_.out HW_.out (by kernel_rfl)) (fun _ _ _ h => h) (Or.inl ⟨by rfl, ?_⟩) hHeld ?_ ?_
               rotate_left
               ·rintro w' ⟨s0, s1, s2, s3⟩
                go_simp
                with_reducible rfl
               rotate_left
               ·simp only [Act.put, List.setIfInBounds_toArray, List.set_cons_zero, List.set_cons_succ, i64_w, i32_w]
                rfl
               refine pure_ (i := 13) (N := some 84) (v := ?_) (a' := ?_) #[true, true, true, true, true, true, true, true, true, true, true, true, true, true, false, false, false] rfl rfl (any_of HT_.out (by kernel_rfl)) (fun _ _ _ h => h) (Or.inl ⟨by rfl, ?_⟩) ?_ ?_
               rotate_left
               ·intro w'
                go_simp
                with_reducible rfl
               rotate_left
               ·simp only [Act.put, List.setIfInBounds_toArray, List.set_cons_zero, List.set_cons_succ, i64_w, i32_w]
                rfl
               refine one_ (i := 14) (N := some 85) #[true, true, true, true, true, true, true, true, true, true, true, true, true, true, true, false, false] rfl rfl (one_of HT_.out (by kernel_rfl)) (by decide) (fun K hK => ?_)
               refine Kd.R_lit_step k37 _ 37 ?hg (N := 85) ?hd (xs := ([(⟨wrap64 (a2 * ((rd_T37 l0 x11_1).f0)), (rd_T37 l0 x11_1).f1⟩ : S37)] : List (S37))) (inner := [.int .i64 (wrap64 (a2 * ((rd_T37 l0 x11_1).f0))), .int .i64 ((rd_T37 l0 x11_1).f1)]) (ok := fun _ => True) (okp := fun _ => True) ?hr ?hp (fun _ hk => hk) trivial (Below.refl _ _) (Nat.le_refl _) (by simp) ?_; (case hd => rfl); (case hg => rfl); (case hr => first | (go_simp; done) | (go_simp; rfl)); (case hp => exact (Reps.c2 (show Kd.M k37 _ _ _ (⟨wrap64 (a2 * ((rd_T37 l0 x11_1).f0)), (rd_T37 l0 x11_1).f1⟩ : S37) [.int .i64 (wrap64 (a2 * ((rd_T37 l0 x11_1).f0))), .int .i64 ((rd_T37 l0 x11_1).f1)] from (k37_mkM _ _ _ (⟨wrap64 (a2 * ((rd_T37 l0 x11_1).f0)), (rd_T37 l0 x11_1).f1⟩ : S37) )) (Reps.none _ _)))
               intro eq w27 ho28 hb hg_ hnew_
               clear hg_ hnew_
               (first | rw [← cE.out] at ho28 | (simp only [Int.reduceToNat] at ho28; rw [← cE.out] at ho28))
               have n0_ := Re1 HO_10 ho28 hb
               have n1_ := Aside0.mk (Kd.R_lower (Kd.R_new' ho28 (Kd.R_lt (Kd.pR HO_10.out))) (below_size (pB HB.out)))
               have n2_ := Aside0.mk (below_step (pB HB.out) hb)
               clear HO_10
               clear HB
               have HO_10 := n0_
               have b9 := n1_
               have HB := n2_
               clear n0_ n1_ n2_
               clear hb ho28
               obtain ⟨er, dL, cT⟩ := Kd.R_slice b9.out
               (first | subst cT | (injection cT with f1_ f2_ f3_; have f4_ := f1_.symm; have f5_ := f3_.symm; clear f1_ f2_ f3_; subst f4_; subst f5_))
               refine hK.out _ _ ⟨((HB.out.cell (World.block_lt_of_cell? w _ hw311_0)).trans hw311_0), ((HB.out.cell (World.block_lt_of_cell? w _ hw311_1)).trans hw311_1), ((HB.out.cell (World.block_lt_of_cell? w _ hw312_0)).trans hw312_0), ((HB.out.cell (World.block_lt_of_cell? w _ hw312_1)).trans hw312_1)⟩ (fun hHeld => ?_)
               clear hK K
               refine norm_ (a' := ?_) ?_ ?_
               rotate_left
               ·show Act.put _ (some 85) _ = _
                simp only [Act.put, List.setIfInBounds_toArray, List.set_cons_zero, List.set_cons_succ, i64_w, i32_w]
                rfl
               refine one_ (i := 15) (N := some 86) #[true, true, true, true, true, true, true, true, true, true, true, true, true, true, true, true, false] rfl rfl (one_of HT_.out (by kernel_rfl)) (by decide) (fun K hK => ?_)
               refine Kd.R_append_rows_step k37 (w0 := w) w.heap.size (by rfl) (.tmp 71) (.tmp 85) 22 37 (.agg #[(.int .i64 0), (.int .i64 0)]) 16 rfl Try.underlying22 info37 rfl (by decide) (by omega) u10 x10_1 bw _ _ _ (fun k_ => some k_ ≠ (.slice er bw.length dL : Value).ownBlock) (fun _ => False) rfl rfl ?aO ?aR (fun _ _ h => h) (fun _ h => h.elim) ?aF ?aB ?aS ?aL ?_
               (case aR => exact Kd.pC ((Kd.R_reads' b9.out).2.2))
               (case aB => exact (pB HB.out))
               (case aF => exact (fun k_ hk => Kd.fresh' (Kd.R_lt (Kd.pR b9.out)) k_ hk))
               (case aO => exact (Kd.pR (Kd.R_mono HO_10.out (fun _ hk => hk.2))))
               (case aS => exact (below_size (pB HB.out)))
               (case aL => have := dk.out; omega)
               intro es w29 ho hb hg hat
               rw [← dl.out] at ho
               have n1_ := Aside0.mk (hb)
               have n2_ := Aside0.mk (ho)
               (try clear b9)
               clear HB
               clear HO_10
               have HB := n1_
               have dm := n2_
               clear n1_ n2_
               clear ho hb hg hat
               refine hK.out _ _ ⟨((HB.out.cell (World.block_lt_of_cell? w _ hw311_0)).trans hw311_0), ((HB.out.cell (World.block_lt_of_cell? w _ hw311_1)).trans hw311_1), ((HB.out.cell (World.block_lt_of_cell? w _ hw312_0)).trans hw312_0), ((HB.out.cell (World.block_lt_of_cell? w _ hw312_1)).trans hw312_1)⟩ (fun hHeld => ?_)
               clear hK K
               refine norm_ (a' := ?_) ?_ ?_
               rotate_left
               ·show Act.put _ (some 86) _ = _
                simp only [Act.put, List.setIfInBounds_toArray, List.set_cons_zero, List.set_cons_succ, i64_w, i32_w]
                rfl
               refine pure_ (i := 16) (N := some 10) (v := ?_) (a' := ?_) #[true, true, true, true, true, true, true, true, true, true, true, true, true, true, true, true, true] rfl rfl (any_of HT_.out (by kernel_rfl)) (fun _ _ _ h => h) (Or.inl ⟨by rfl, ?_⟩) ?_ ?_
               rotate_left
               ·intro w'
                go_simp
                with_reducible rfl
               rotate_left
               ·simp only [Act.put, List.setIfInBounds_toArray, List.set_cons_zero, List.set_cons_succ, i64_w, i32_w]
                rfl
               refine done_ (done_of HT_.out (by kernel_rfl)) ?_
               try go_wp2
               go_roundg k1
               case measure => have := HK1.out; omega
               case rel => exact ⟨(dK), (wrap64 (x11_1 + 1)), (by first | rfl | (simp; done) | (simp [*]; done)), H', ⟨by have := HK1.out; omega⟩, ⟨Kd.pR (Kd.R_mono dm.out (fun _ hk => trivial))⟩, ⟨pB HB.out⟩⟩
              ·rw [if_neg c25] at H
               exact absurd H (by simp)
            ·rw [if_neg c23] at H
             exact absurd H (by simp)
           ·rw [if_neg c22] at H
            have c22b0 : decide (x11_1 < (l0.length : Int)) = false := decide_eq_false c22
            (try clear c22)
            replace H := Option.bind_eq_some_iff.mp H
            obtain ⟨⟨aA, aC, aT⟩, cU, H⟩ := H
            replace H : ((share_Level.f k1 x10_1 (wrap64 (a2 * a1))).bind fun bt323 => (if aT = bt323.2.2 then (if aT = 0 then (if aC < 1 then (some false) else (if aC > 12000 then (some false) else (if aA < 0 then (some false) else (if aA > 1000000 then (some false) else (if bt323.2.1 < 1 then (some false) else (if bt323.2.1 > 12000 then (some false) else (if bt323.1 < 0 then (some false) else (if bt323.1 > 1000000000 then (some false) else (if (wrap64 (bt323.1 * aC)) = (wrap64 ((wrap64 (a2 * aA)) * bt323.2.1)) then ((some (([] : List (S37)) : List (S37))).bind fun bb => (if 0 ≤ a3 then (if a3 ≤ (l0.length : Int) then ((some (l0.take (a3 : Int).toNat : List (S37))).bind fun a4 => (if bb.length + a4.length < 8796093022208 then ((some (bb ++ a4 : List (S37))).bind fun aP => ((some (([(⟨0, 5⟩ : S37)] : List (S37)) : List (S37))).bind fun aJ => (if aP.length + aJ.length < 8796093022208 then ((some (aP ++ aJ : List (S37))).bind fun aM => ((some (l0.drop (a3 : Int).toNat : List (S37))).bind fun aw => (if aM.length + aw.length < 8796093022208 then ((some (aM ++ aw : List (S37))).bind fun ao => ((share_Split.f k1 l0 a1).bind fun bt350 => ((share_Split.f k1 ao a1).bind fun bt354 => (if bt350.2 = 0 then (if bt354.2 = 0 then (if (bt350.1.length : Int) = (l0.length : Int) then (if (bt354.1.length : Int) = (ao.length : Int) then (if a3 < (bt354.1.length : Int) then (if (rd bt354.1 a3) = 0 then (if true = true then ((some (([] : List Int) : List Int)).bind fun am => (if a3 ≤ (bt354.1.length : Int) then ((some (bt354.1.take (a3 : Int).toNat : List Int)).bind fun ai => (if am.length + ai.length < 17592186044416 then ((some (am ++ ai : List Int)).bind fun ag => (if 0 ≤ (wrap64 (a3 + 1)) then (if (wrap64 (a3 + 1)) ≤ (bt354.1.length : Int) then ((some (bt354.1.drop ((wrap64 (a3 + 1)) : Int).toNat : List Int)).bind fun ac => (if ag.length + ac.length < 17592186044416 then ((spigotref36_Same.f k1 (ag ++ ac) bt350.1).bind fun aq => (some aq)) else (none))) else (none)) else (none))) else (none))) else (none))) else (some false)) else (some false)) else (none)) else (some false)) else (some false)) else (some false)) else (some false))))) else (none)))) else (none)))) else (none))) else (none)) else (none))) else (some false)))))))))) else (if aT = 6 then ((some (([] : List (S37)) : List (S37))).bind fun bc => (if 0 ≤ a3 then (if a3 ≤ (l0.length : Int) then ((some (l0.take (a3 : Int).toNat : List (S37))).bind fun a5 => (if bc.length + a5.length < 8796093022208 then ((some (bc ++ a5 : List (S37))).bind fun aQ => ((some (([(⟨0, 5⟩ : S37)] : List (S37)) : List (S37))).bind fun aK => (if aQ.length + aK.length < 8796093022208 then ((some (aQ ++ aK : List (S37))).bind fun aN => ((some (l0.drop (a3 : Int).toNat : List (S37))).bind fun ax => (if aN.length + ax.length < 8796093022208 then ((some (aN ++ ax : List (S37))).bind fun ap => ((share_Split.f k1 l0 a1).bind fun bt400 => ((share_Split.f k1 ap a1).bind fun bt404 => (if bt400.2 = 0 then (if bt404.2 = 0 then (if (bt400.1.length : Int) = (l0.length : Int) then (if (bt404.1.length : Int) = (ap.length : Int) then (if a3 < (bt404.1.length : Int) then (if (rd bt404.1 a3) = 0 then (if true = true then ((some (([] : List Int) : List Int)).bind fun an => (if a3 ≤ (bt404.1.length : Int) then ((some (bt404.1.take (a3 : Int).toNat : List Int)).bind fun aj => (if an.length + aj.length < 17592186044416 then ((some (an ++ aj : List Int)).bind fun ah => (if 0 ≤ (wrap64 (a3 + 1)) then (if (wrap64 (a3 + 1)) ≤ (bt404.1.length : Int) then ((some (bt404.1.drop ((wrap64 (a3 + 1)) : Int).toNat : List Int)).bind fun ad => (if ah.length + ad.length < 17592186044416 then ((spigotref36_Same.f k1 (ah ++ ad) bt400.1).bind fun ar => (some ar)) else (none))) else (none)) else (none))) else (none))) else (none))) else (some false)) else (some false)) else (none)) else (some false)) else (some false)) else (some false)) else (some false))))) else (none)))) else (none)))) else (none))) else (none)) else (none))) else (some false))) else (some false))) = some true := H
            have A31 := Aside0.mk cU
            (try clear cU)
            replace H := Option.bind_eq_some_iff.mp H
            obtain ⟨⟨au, av, bx⟩, cV, H⟩ := H
            replace H : (if aT = bx then (if aT = 0 then (if aC < 1 then (some false) else (if aC > 12000 then (some false) else (if aA < 0 then (some false) else (if aA > 1000000 then (some false) else (if av < 1 then (some false) else (if av > 12000 then (some false) else (if au < 0 then (some false) else (if au > 1000000000 then (some false) else (if (wrap64 (au * aC)) = (wrap64 ((wrap64 (a2 * aA)) * av)) then ((some (([] : List (S37)) : List (S37))).bind fun bb => (if 0 ≤ a3 then (if a3 ≤ (l0.length : Int) then ((some (l0.take (a3 : Int).toNat : List (S37))).bind fun a4 => (if bb.length + a4.length < 8796093022208 then ((some (bb ++ a4 : List (S37))).bind fun aP => ((some (([(⟨0, 5⟩ : S37)] : List (S37)) : List (S37))).bind fun aJ => (if aP.length + aJ.length < 8796093022208 then ((some (aP ++ aJ : List (S37))).bind fun aM => ((some (l0.drop (a3 : Int).toNat : List (S37))).bind fun aw => (if aM.length + aw.length < 8796093022208 then ((some (aM ++ aw : List (S37))).bind fun ao => ((share_Split.f k1 l0 a1).bind fun bt350 => ((share_Split.f k1 ao a1).bind fun bt354 => (if bt350.2 = 0 then (if bt354.2 = 0 then (if (bt350.1.length : Int) = (l0.length : Int) then (if (bt354.1.length : Int) = (ao.length : Int) then (if a3 < (bt354.1.length : Int) then (if (rd bt354.1 a3) = 0 then (if true = true then ((some (([] : List Int) : List Int)).bind fun am => (if a3 ≤ (bt354.1.length : Int) then ((some (bt354.1.take (a3 : Int).toNat : List Int)).bind fun ai => (if am.length + ai.length < 17592186044416 then ((some (am ++ ai : List Int)).bind fun ag => (if 0 ≤ (wrap64 (a3 + 1)) then (if (wrap64 (a3 + 1)) ≤ (bt354.1.length : Int) then ((some (bt354.1.drop ((wrap64 (a3 + 1)) : Int).toNat : List Int)).bind fun ac => (if ag.length + ac.length < 17592186044416 then ((spigotref36_Same.f k1 (ag ++ ac) bt350.1).bind fun aq => (some aq)) else (none))) else (none)) else (none))) else (none))) else (none))) else (some false)) else (some false)) else (none)) else (some false)) else (some false)) else (some false)) else (some false))))) else (none)))) else (none)))) else (none))) else (none)) else (none))) else (some false)))))))))) else (if aT = 6 then ((some (([] : List (S37)) : List (S37))).bind fun bc => (if 0 ≤ a3 then (if a3 ≤ (l0.length : Int) then ((some (l0.take (a3 : Int).toNat : List (S37))).bind fun a5 => (if bc.length + a5.length < 8796093022208 then ((some (bc ++ a5 : List (S37))).bind fun aQ => ((some (([(⟨0, 5⟩ : S37)] : List (S37)) : List (S37))).bind fun aK => (if aQ.length + aK.length < 8796093022208 then ((some (aQ ++ aK : List (S37))).bind fun aN => ((some (l0.drop (a3 : Int).toNat : List (S37))).bind fun ax => (if aN.length + ax.length < 8796093022208 then ((some (aN ++ ax : List (S37))).bind fun ap => ((share_Split.f k1 l0 a1).bind fun bt400 => ((share_Split.f k1 ap a1).bind fun bt404 => (if bt400.2 = 0 then (if bt404.2 = 0 then (if (bt400.1.length : Int) = (l0.length : Int) then (if (bt404.1.length : Int) = (ap.length : Int) then (if a3 < (bt404.1.length : Int) then (if (rd bt404.1 a3) = 0 then (if true = true then ((some (([] : List Int) : List Int)).bind fun an => (if a3 ≤ (bt404.1.length : Int) then ((some (bt404.1.take (a3 : Int).toNat : List Int)).bind fun aj => (if an.length + aj.length < 17592186044416 then ((some (an ++ aj : List Int)).bind fun ah => (if 0 ≤ (wrap64 (a3 + 1)) then (if (wrap64 (a3 + 1)) ≤ (bt404.1.length : Int) then ((some (bt404.1.drop ((wrap64 (a3 + 1)) : Int).toNat : List Int)).bind fun ad => (if ah.length + ad.length < 17592186044416 then ((spigotref36_Same.f k1 (ah ++ ad) bt400.1).bind fun ar => (some ar)) else (none))) else (none)) else (none))) else (none))) else (none))) else (some false)) else (some false)) else (none)) else (some false)) else (some false)) else (some false)) else (some false))))) else (none)))) else (none)))) else (none))) else (none)) else (none))) else (some false))) else (some false)) = some true := H
            have A32 := Aside0.mk cV
            (try clear cV)
            by_cases c33 : aT = bx
            ·rw [if_pos c33] at H
             have c33b0 : (aT == bx) = true := beq_iff_eq.mpr c33
             have c33b1 : (aT != bx) = false := bne_eq_false_iff_eq.mpr c33
             clear c33
             by_cases c34 : aT = 0
             ·rw [if_pos c34] at H
              have c34b0 : (aT == 0) = true := beq_iff_eq.mpr c34
              have c34b1 : (aT != 0) = false := bne_eq_false_iff_eq.mpr c34
              clear c34
              by_cases c35 : aC < 1
              ·rw [if_pos c35] at H
               have c35b0 : decide (aC < 1) = true := decide_eq_true c35
               clear c35
               exact absurd H (by simp)
              ·rw [if_neg c35] at H
               have c35b0 : decide (aC < 1) = false := decide_eq_false c35
               (try clear c35)
               by_cases c36 : aC > 12000
               ·rw [if_pos c36] at H
                have c36b0 : decide (12000 < aC) = true := decide_eq_true c36
                clear c36
                exact absurd H (by simp)
               ·rw [if_neg c36] at H
                have c36b0 : decide (12000 < aC) = false := decide_eq_false c36
                (try clear c36)
                by_cases c37 : aA < 0
                ·rw [if_pos c37] at H
                 have c37b0 : decide (aA < 0) = true := decide_eq_true c37
                 clear c37
                 exact absurd H (by simp)
                ·rw [if_neg c37] at H
                 have c37b0 : decide (aA < 0) = false := decide_eq_false c37
                 (try clear c37)
                 by_cases c38 : aA > 1000000
                 ·rw [if_pos c38] at H
                  have c38b0 : decide (1000000 < aA) = true := decide_eq_true c38
                  clear c38
                  exact absurd H (by simp)
                 ·rw [if_neg c38] at H
                  have c38b0 : decide (1000000 < aA) = false := decide_eq_false c38
                  (try clear c38)
                  by_cases c39 : av < 1
                  ·rw [if_pos c39] at H
                   have c39b0 : decide (av < 1) = true := decide_eq_true c39
                   clear c39
                   exact absurd H (by simp)
                  ·rw [if_neg c39] at H
                   have c39b0 : decide (av < 1) = false := decide_eq_false c39
                   (try clear c39)
                   by_cases c40 : av > 12000
                   ·rw [if_pos c40] at H
                    have c40b0 : decide (12000 < av) = true := decide_eq_true c40
                    clear c40
                    exact absurd H (by simp)
                   ·rw [if_neg c40] at H
                    have c40b0 : decide (12000 < av) = false := decide_eq_false c40
                    (try clear c40)
                    by_cases c41 : au < 0
                    ·rw [if_pos c41] at H
                     have c41b0 : decide (au < 0) = true := decide_eq_true c41
                     clear c41
                     exact absurd H (by simp)
                    ·rw [if_neg c41] at H
                     have c41b0 : decide (au < 0) = false := decide_eq_false c41
                     (try clear c41)
                     by_cases c42 : au > 1000000000
                     ·rw [if_pos c42] at H
                      have c42b0 : decide (1000000000 < au) = true := decide_eq_true c42
                      clear c42
                      exact absurd H (by simp)
                     ·rw [if_neg c42] at H
                      have c42b0 : decide (1000000000 < au) = false := decide_eq_false c42
                      (try clear c42)
                      by_cases c43 : (wrap64 (au * aC)) = (wrap64 ((wrap64 (a2 * aA)) * av))
                      ·rw [if_pos c43] at H
                       have c43b0 : ((wrap64 (au * aC)) == (wrap64 ((wrap64 (a2 * aA)) * av))) = true := beq_iff_eq.mpr c43
                       have c43b1 : ((wrap64 (au * aC)) != (wrap64 ((wrap64 (a2 * aA)) * av))) = false := bne_eq_false_iff_eq.mpr c43
                       clear c43
                       obtain ⟨bb, bK⟩ : ∃ y_ : List (S37), y_ = (([] : List (S37))) := ⟨_, rfl⟩
                       replace H : (if 0 ≤ a3 then (if a3 ≤ (l0.length : Int) then ((some (l0.take (a3 : Int).toNat : List (S37))).bind fun a4 => (if bb.length + a4.length < 8796093022208 then ((some (bb ++ a4 : List (S37))).bind fun aP => ((some (([(⟨0, 5⟩ : S37)] : List (S37)) : List (S37))).bind fun aJ => (if aP.length + aJ.length < 8796093022208 then ((some (aP ++ aJ : List (S37))).bind fun aM => ((some (l0.drop (a3 : Int).toNat : List (S37))).bind fun aw => (if aM.length + aw.length < 8796093022208 then ((some (aM ++ aw : List (S37))).bind fun ao => ((share_Split.f k1 l0 a1).bind fun bt350 => ((share_Split.f k1 ao a1).bind fun bt354 => (if bt350.2 = 0 then (if bt354.2 = 0 then (if (bt350.1.length : Int) = (l0.length : Int) then (if (bt354.1.length : Int) = (ao.length : Int) then (if a3 < (bt354.1.length : Int) then (if (rd bt354.1 a3) = 0 then (if true = true then ((some (([] : List Int) : List Int)).bind fun am => (if a3 ≤ (bt354.1.length : Int) then ((some (bt354.1.take (a3 : Int).toNat : List Int)).bind fun ai => (if am.length + ai.length < 17592186044416 then ((some (am ++ ai : List Int)).bind fun ag => (if 0 ≤ (wrap64 (a3 + 1)) then (if (wrap64 (a3 + 1)) ≤ (bt354.1.length : Int) then ((some (bt354.1.drop ((wrap64 (a3 + 1)) : Int).toNat : List Int)).bind fun ac => (if ag.length + ac.length < 17592186044416 then ((spigotref36_Same.f k1 (ag ++ ac) bt350.1).bind fun aq => (some aq)) else (none))) else (none)) else (none))) else (none))) else (none))) else (some false)) else (some false)) else (none)) else (some false)) else (some false)) else (some false)) else (some false))))) else (none)))) else (none)))) else (none))) else (none)) else (none)) = some true := by first | (rw [bK]; with_reducible exact H) | (have H2_ := (Option.bind_some _ _).symm.trans H; rw [bK]; with_reducible exact H2_) | (have H2_ := (Option.bind_some _ _).symm.trans H; with_reducible exact H2_) | with_reducible exact H | (rw [bK]; exact H) | exact H
                       have ca := Aside0.mk bK
                       (try clear bK)
                       by_cases c44 : 0 ≤ a3
                       ·rw [if_pos c44] at H
                        have c44b0 := eq_true c44
                        have c44b1 : decide (0 ≤ a3) = true := decide_eq_true c44
                        clear c44
                        by_cases c45 : a3 ≤ (l0.length : Int)
                        ·rw [if_pos c45] at H
                         have c45b0 := eq_true c45
                         have c45b1 : decide (a3 ≤ (l0.length : Int)) = true := decide_eq_true c45
                         clear c45
                         obtain ⟨a4, bL⟩ : ∃ y_ : List (S37), y_ = (l0.take (a3 : Int).toNat) := ⟨_, rfl⟩
                         replace H : (if bb.length + a4.length < 8796093022208 then ((some (bb ++ a4 : List (S37))).bind fun aP => ((some (([(⟨0, 5⟩ : S37)] : List (S37)) : List (S37))).bind fun aJ => (if aP.length + aJ.length < 8796093022208 then ((some (aP ++ aJ : List (S37))).bind fun aM => ((some (l0.drop (a3 : Int).toNat : List (S37))).bind fun aw => (if aM.length + aw.length < 8796093022208 then ((some (aM ++ aw : List (S37))).bind fun ao => ((share_Split.f k1 l0 a1).bind fun bt350 => ((share_Split.f k1 ao a1).bind fun bt354 => (if bt350.2 = 0 then (if bt354.2 = 0 then (if (bt350.1.length : Int) = (l0.length : Int) then (if (bt354.1.length : Int) = (ao.length : Int) then (if a3 < (bt354.1.length : Int) then (if (rd bt354.1 a3) = 0 then (if true = true then ((some (([] : List Int) : List Int)).bind fun am => (if a3 ≤ (bt354.1.length : Int) then ((some (bt354.1.take (a3 : Int).toNat : List Int)).bind fun ai => (if am.length + ai.length < 17592186044416 then ((some (am ++ ai : List Int)).bind fun ag => (if 0 ≤ (wrap64 (a3 + 1)) then (if (wrap64 (a3 + 1)) ≤ (bt354.1.length : Int) then ((some (bt354.1.drop ((wrap64 (a3 + 1)) : Int).toNat : List Int)).bind fun ac => (if ag.length + ac.length < 17592186044416 then ((spigotref36_Same.f k1 (ag ++ ac) bt350.1).bind fun aq => (some aq)) else (none))) else (none)) else (none))) else (none))) else (none))) else (some false)) else (some false)) else (none)) else (some false)) else (some false)) else (some false)) else (some false))))) else (none)))) else (none)))) else (none)) = some true := by first | (rw [bL]; with_reducible exact H) | (have H2_ := (Option.bind_some _ _).symm.trans H; rw [bL]; with_reducible exact H2_) | (have H2_ := (Option.bind_some _ _).symm.trans H; with_reducible exact H2_) | with_reducible exact H | (rw [bL]; exact H) | exact H
                         have cF := Aside0.mk bL
                         (try clear bL)
                         by_cases c46 : bb.length + a4.length < 8796093022208
                         ·rw [if_pos c46] at H
                          have cn := Aside0.mk c46
                          clear c46
                          obtain ⟨aP, bM⟩ : ∃ y_ : List (S37), y_ = (bb ++ a4) := ⟨_, rfl⟩
                          replace H : ((some (([(⟨0, 5⟩ : S37)] : List (S37)) : List (S37))).bind fun aJ => (if aP.length + aJ.length < 8796093022208 then ((some (aP ++ aJ : List (S37))).bind fun aM => ((some (l0.drop (a3 : Int).toNat : List (S37))).bind fun aw => (if aM.length + aw.length < 8796093022208 then ((some (aM ++ aw : List (S37))).bind fun ao => ((share_Split.f k1 l0 a1).bind fun bt350 => ((share_Split.f k1 ao a1).bind fun bt354 => (if bt350.2 = 0 then (if bt354.2 = 0 then (if (bt350.1.length : Int) = (l0.length : Int) then (if (bt354.1.length : Int) = (ao.length : Int) then (if a3 < (bt354.1.length : Int) then (if (rd bt354.1 a3) = 0 then (if true = true then ((some (([] : List Int) : List Int)).bind fun am => (if a3 ≤ (bt354.1.length : Int) then ((some (bt354.1.take (a3 : Int).toNat : List Int)).bind fun ai => (if am.length + ai.length < 17592186044416 then ((some (am ++ ai : List Int)).bind fun ag => (if 0 ≤ (wrap64 (a3 + 1)) then (if (wrap64 (a3 + 1)) ≤ (bt354.1.length : Int) then ((some (bt354.1.drop ((wrap64 (a3 + 1)) : Int).toNat : List Int)).bind fun ac => (if ag.length + ac.length < 17592186044416 then ((spigotref36_Same.f k1 (ag ++ ac) bt350.1).bind fun aq => (some aq)) else (none))) else (none)) else (none))) else (none))) else (none))) else (some false)) else (some false)) else (none)) else (some false)) else (some false)) else (some false)) else (some false))))) else (none)))) else (none))) = some true := by first | (rw [bM]; with_reducible exact H) | (have H2_ := (Option.bind_some _ _).symm.trans H; rw [bM]; with_reducible exact H2_) | (have H2_ := (Option.bind_some _ _).symm.trans H; with_reducible exact H2_) | with_reducible exact H | (rw [bM]; exact H) | exact H
                          have co := Aside0.mk bM
                          (try clear bM)
                          obtain ⟨aJ, bN⟩ : ∃ y_ : List (S37), y_ = (([(⟨0, 5⟩ : S37)] : List (S37))) := ⟨_, rfl⟩
                          replace H : (if aP.length + aJ.length < 8796093022208 then ((some (aP ++ aJ : List (S37))).bind fun aM => ((some (l0.drop (a3 : Int).toNat : List (S37))).bind fun aw => (if aM.length + aw.length < 8796093022208 then ((some (aM ++ aw : List (S37))).bind fun ao => ((share_Split.f k1 l0 a1).bind fun bt350 => ((share_Split.f k1 ao a1).bind fun bt354 => (if bt350.2 = 0 then (if bt354.2 = 0 then (if (bt350.1.length : Int) = (l0.length : Int) then (if (bt354.1.length : Int) = (ao.length : Int) then (if a3 < (bt354.1.length : Int) then (if (rd bt354.1 a3) = 0 then (if true = true then ((some (([] : List Int) : List Int)).bind fun am => (if a3 ≤ (bt354.1.length : Int) then ((some (bt354.1.take (a3 : Int).toNat : List Int)).bind fun ai => (if am.length + ai.length < 17592186044416 then ((some (am ++ ai : List Int)).bind fun ag => (if 0 ≤ (wrap64 (a3 + 1)) then (if (wrap64 (a3 + 1)) ≤ (bt354.1.length : Int) then ((some (bt354.1.drop ((wrap64 (a3 + 1)) : Int).toNat : List Int)).bind fun ac => (if ag.length + ac.length < 17592186044416 then ((spigotref36_Same.f k1 (ag ++ ac) bt350.1).bind fun aq => (some aq)) else (none))) else (none)) else (none))) else (none))) else (none))) else (some false)) else (some false)) else (none)) else (some false)) else (some false)) else (some false)) else (some false))))) else (none)))) else (none)) = some true := by first | (rw [bN]; with_reducible exact H) | (have H2_ := (Option.bind_some _ _).symm.trans H; rw [bN]; with_reducible exact H2_) | (have H2_ := (Option.bind_some _ _).symm.trans H; with_reducible exact H2_) | with_reducible exact H | (rw [bN]; exact H) | exact H
                          have bC := Aside0.mk bN
                          (try clear bN)
                          by_cases c47 : aP.length + aJ.length < 8796093022208
                          ·rw [if_pos c47] at H
                           have dn := Aside0.mk c47
                           clear c47
                           obtain ⟨aM, bO⟩ : ∃ y_ : List (S37), y_ = (aP ++ aJ) := ⟨_, rfl⟩
                           replace H : ((some (l0.drop (a3 : Int).toNat : List (S37))).bind fun aw => (if aM.length + aw.length < 8796093022208 then ((some (aM ++ aw : List (S37))).bind fun ao => ((share_Split.f k1 l0 a1).bind fun bt350 => ((share_Split.f k1 ao a1).bind fun bt354 => (if bt350.2 = 0 then (if bt354.2 = 0 then (if (bt350.1.length : Int) = (l0.length : Int) then (if (bt354.1.length : Int) = (ao.length : Int) then (if a3 < (bt354.1.length : Int) then (if (rd bt354.1 a3) = 0 then (if true = true then ((some (([] : List Int) : List Int)).bind fun am => (if a3 ≤ (bt354.1.length : Int) then ((some (bt354.1.take (a3 : Int).toNat : List Int)).bind fun ai => (if am.length + ai.length < 17592186044416 then ((some (am ++ ai : List Int)).bind fun ag => (if 0 ≤ (wrap64 (a3 + 1)) then (if (wrap64 (a3 + 1)) ≤ (bt354.1.length : Int) then ((some (bt354.1.drop ((wrap64 (a3 + 1)) : Int).toNat : List Int)).bind fun ac => (if ag.length + ac.length < 17592186044416 then ((spigotref36_Same.f k1 (ag ++ ac) bt350.1).bind fun aq => (some aq)) else (none))) else (none)) else (none))) else (none))) else (none))) else (some false)) else (some false)) else (none)) else (some false)) else (some false)) else (some false)) else (some false))))) else (none))) = some true := by first | (rw [bO]; with_reducible exact H) | (have H2_ := (Option.bind_some _ _).symm.trans H; rw [bO]; with_reducible exact H2_) | (have H2_ := (Option.bind_some _ _).symm.trans H; with_reducible exact H2_) | with_reducible exact H | (rw [bO]; exact H) | exact H
                           have dp := Aside0.mk bO
                           (try clear bO)
                           have c48b0 := eq_true (od : 0 ≤ a3)
                           have c49b0 := eq_true (od : a3 ≤ (l0.length : Int))
                           obtain ⟨aw, bP⟩ : ∃ y_ : List (S37), y_ = (l0.drop (a3 : Int).toNat) := ⟨_, rfl⟩
                           replace H : (if aM.length + aw.length < 8796093022208 then ((some (aM ++ aw : List (S37))).bind fun ao => ((share_Split.f k1 l0 a1).bind fun bt350 => ((share_Split.f k1 ao a1).bind fun bt354 => (if bt350.2 = 0 then (if bt354.2 = 0 then (if (bt350.1.length : Int) = (l0.length : Int) then (if (bt354.1.length : Int) = (ao.length : Int) then (if a3 < (bt354.1.length : Int) then (if (rd bt354.1 a3) = 0 then (if true = true then ((some (([] : List Int) : List Int)).bind fun am => (if a3 ≤ (bt354.1.length : Int) then ((some (bt354.1.take (a3 : Int).toNat : List Int)).bind fun ai => (if am.length + ai.length < 17592186044416 then ((some (am ++ ai : List Int)).bind fun ag => (if 0 ≤ (wrap64 (a3 + 1)) then (if (wrap64 (a3 + 1)) ≤ (bt354.1.length : Int) then ((some (bt354.1.drop ((wrap64 (a3 + 1)) : Int).toNat : List Int)).bind fun ac => (if ag.length + ac.length < 17592186044416 then ((spigotref36_Same.f k1 (ag ++ ac) bt350.1).bind fun aq => (some aq)) else (none))) else (none)) else (none))) else (none))) else (none))) else (some false)) else (some false)) else (none)) else (some false)) else (some false)) else (some false)) else (some false))))) else (none)) = some true := by first | (rw [bP]; with_reducible exact H) | (have H2_ := (Option.bind_some _ _).symm.trans H; rw [bP]; with_reducible exact H2_) | (have H2_ := (Option.bind_some _ _).symm.trans H; with_reducible exact H2_) | with_reducible exact H | (rw [bP]; exact H) | exact H
                           have cG := Aside0.mk bP
                           (try clear bP)
                           by_cases c50 : aM.length + aw.length < 8796093022208
                           ·rw [if_pos c50] at H
                            have dq := Aside0.mk c50
                            clear c50
                            obtain ⟨ao, bQ⟩ : ∃ y_ : List (S37), y_ = (aM ++ aw) := ⟨_, rfl⟩
                            replace H : ((share_Split.f k1 l0 a1).bind fun bt350 => ((share_Split.f k1 ao a1).bind fun bt354 => (if bt350.2 = 0 then (if bt354.2 = 0 then (if (bt350.1.length : Int) = (l0.length : Int) then (if (bt354.1.length : Int) = (ao.length : Int) then (if a3 < (bt354.1.length : Int) then (if (rd bt354.1 a3) = 0 then (if true = true then ((some (([] : List Int) : List Int)).bind fun am => (if a3 ≤ (bt354.1.length : Int) then ((some (bt354.1.take (a3 : Int).toNat : List Int)).bind fun ai => (if am.length + ai.length < 17592186044416 then ((some (am ++ ai : List Int)).bind fun ag => (if 0 ≤ (wrap64 (a3 + 1)) then (if (wrap64 (a3 + 1)) ≤ (bt354.1.length : Int) then ((some (bt354.1.drop ((wrap64 (a3 + 1)) : Int).toNat : List Int)).bind fun ac => (if ag.length + ac.length < 17592186044416 then ((spigotref36_Same.f k1 (ag ++ ac) bt350.1).bind fun aq => (some aq)) else (none))) else (none)) else (none))) else (none))) else (none))) else (some false)) else (some false)) else (none)) else (some false)) else (some false)) else (some false)) else (some false)))) = some true := by first | (rw [bQ]; with_reducible exact H) | (have H2_ := (Option.bind_some _ _).symm.trans H; rw [bQ]; with_reducible exact H2_) | (have H2_ := (Option.bind_some _ _).symm.trans H; with_reducible exact H2_) | with_reducible exact H | (rw [bQ]; exact H) | exact H
                            have dr := Aside0.mk bQ
                            (try clear bQ)
                            replace H := Option.bind_eq_some_iff.mp H
                            obtain ⟨⟨aE, bz⟩, cW, H⟩ := H
                            replace H : ((share_Split.f k1 ao a1).bind fun bt354 => (if bz = 0 then (if bt354.2 = 0 then (if (aE.length : Int) = (l0.length : Int) then (if (bt354.1.length : Int) = (ao.length : Int) then (if a3 < (bt354.1.length : Int) then (if (rd bt354.1 a3) = 0 then (if true = true then ((some (([] : List Int) : List Int)).bind fun am => (if a3 ≤ (bt354.1.length : Int) then ((some (bt354.1.take (a3 : Int).toNat : List Int)).bind fun ai => (if am.length + ai.length < 17592186044416 then ((some (am ++ ai : List Int)).bind fun ag => (if 0 ≤ (wrap64 (a3 + 1)) then (if (wrap64 (a3 + 1)) ≤ (bt354.1.length : Int) then ((some (bt354.1.drop ((wrap64 (a3 + 1)) : Int).toNat : List Int)).bind fun ac => (if ag.length + ac.length < 17592186044416 then ((spigotref36_Same.f k1 (ag ++ ac) aE).bind fun aq => (some aq)) else (none))) else (none)) else (none))) else (none))) else (none))) else (some false)) else (some false)) else (none)) else (some false)) else (some false)) else (some false)) else (some false))) = some true := H
                            have A51 := Aside0.mk cW
                            (try clear cW)
                            replace H := Option.bind_eq_some_iff.mp H
                            obtain ⟨⟨ae, bE⟩, cX, H⟩ := H
                            replace H : (if bz = 0 then (if bE = 0 then (if (aE.length : Int) = (l0.length : Int) then (if (ae.length : Int) = (ao.length : Int) then (if a3 < (ae.length : Int) then (if (rd ae a3) = 0 then (if true = true then ((some (([] : List Int) : List Int)).bind fun am => (if a3 ≤ (ae.length : Int) then ((some (ae.take (a3 : Int).toNat : List Int)).bind fun ai => (if am.length + ai.length < 17592186044416 then ((some (am ++ ai : List Int)).bind fun ag => (if 0 ≤ (wrap64 (a3 + 1)) then (if (wrap64 (a3 + 1)) ≤ (ae.length : Int) then ((some (ae.drop ((wrap64 (a3 + 1)) : Int).toNat : List Int)).bind fun ac => (if ag.length + ac.length < 17592186044416 then ((spigotref36_Same.f k1 (ag ++ ac) aE).bind fun aq => (some aq)) else (none))) else (none)) else (none))) else (none))) else (none))) else (some false)) else (some false)) else (none)) else (some false)) else (some false)) else (some false)) else (some false)) = some true := H
                            have A52 := Aside0.mk cX
                            (try clear cX)
                            by_cases c53 : bz = 0
                            ·rw [if_pos c53] at H
                             have c53b0 : (bz == 0) = true := beq_iff_eq.mpr c53
                             have c53b1 : (bz != 0) = false := bne_eq_false_iff_eq.mpr c53
                             clear c53
                             by_cases c54 : bE = 0
                             ·rw [if_pos c54] at H
                              have c54b0 : (bE == 0) = true := beq_iff_eq.mpr c54
                              have c54b1 : (bE != 0) = false := bne_eq_false_iff_eq.mpr c54
                              clear c54
                              by_cases c55 : (aE.length : Int) = (l0.length : Int)
                              ·rw [if_pos c55] at H
                               have c55b0 : ((aE.length : Int) == (l0.length : Int)) = true := beq_iff_eq.mpr c55
                               have c55b1 : ((aE.length : Int) != (l0.length : Int)) = false := bne_eq_false_iff_eq.mpr c55
                               have c55b2 : (aE.length == l0.length) = true := by first | simpa using c55 | (simp at c55 ⊢; omega)
                               clear c55
                               by_cases c56 : (ae.length : Int) = (ao.length : Int)
                               ·rw [if_pos c56] at H
                                have c56b0 : ((ae.length : Int) == (ao.length : Int)) = true := beq_iff_eq.mpr c56
                                have c56b1 : ((ae.length : Int) != (ao.length : Int)) = false := bne_eq_false_iff_eq.mpr c56
                                have c56b2 : (ae.length == ao.length) = true := by first | simpa using c56 | (simp at c56 ⊢; omega)
                                clear c56
                                by_cases c57 : a3 < (ae.length : Int)
                                ·rw [if_pos c57] at H
                                 have c57b0 : decide (a3 < (ae.length : Int)) = true := decide_eq_true c57
                                 clear c57
                                 by_cases c58 : (rd ae a3) = 0
                                 ·rw [if_pos c58] at H
                                  have c58b0 : ((rd ae a3) == 0) = true := beq_iff_eq.mpr c58
                                  have c58b1 : ((rd ae a3) != 0) = false := bne_eq_false_iff_eq.mpr c58
                                  clear c58
                                  replace H : ((some (([] : List Int) : List Int)).bind fun am => (if a3 ≤ (ae.length : Int) then ((some (ae.take (a3 : Int).toNat : List Int)).bind fun ai => (if am.length + ai.length < 17592186044416 then ((some (am ++ ai : List Int)).bind fun ag => (if 0 ≤ (wrap64 (a3 + 1)) then (if (wrap64 (a3 + 1)) ≤ (ae.length : Int) then ((some (ae.drop ((wrap64 (a3 + 1)) : Int).toNat : List Int)).bind fun ac => (if ag.length + ac.length < 17592186044416 then ((spigotref36_Same.f k1 (ag ++ ac) aE).bind fun aq => (some aq)) else (none))) else (none)) else (none))) else (none))) else (none))) = some true := by rw [if_pos rfl] at H; exact H
                                  obtain ⟨am, bR⟩ : ∃ y_ : List Int, y_ = (([] : List Int)) := ⟨_, rfl⟩
                                  replace H : (if a3 ≤ (ae.length : Int) then ((some (ae.take (a3 : Int).toNat : List Int)).bind fun ai => (if am.length + ai.length < 17592186044416 then ((some (am ++ ai : List Int)).bind fun ag => (if 0 ≤ (wrap64 (a3 + 1)) then (if (wrap64 (a3 + 1)) ≤ (ae.length : Int) then ((some (ae.drop ((wrap64 (a3 + 1)) : Int).toNat : List Int)).bind fun ac => (if ag.length + ac.length < 17592186044416 then ((spigotref36_Same.f k1 (ag ++ ac) aE).bind fun aq => (some aq)) else (none))) else (none)) else (none))) else (none))) else (none)) = some true := by first | (rw [bR]; with_reducible exact H) | (have H2_ := (Option.bind_some _ _).symm.trans H; rw [bR]; with_reducible exact H2_) | (have H2_ := (Option.bind_some _ _).symm.trans H; with_reducible exact H2_) | with_reducible exact H | (rw [bR]; exact H) | exact H
                                  have cH := Aside0.mk bR
                                  (try clear bR)
                                  have c59b0 := eq_true (od : 0 ≤ a3)
                                  by_cases c60 : a3 ≤ (ae.length : Int)
                                  ·rw [if_pos c60] at H
                                   have c60b0 := eq_true c60
                                   have c60b1 : decide (a3 ≤ (ae.length : Int)) = true := decide_eq_true c60
                                   clear c60
                                   obtain ⟨ai, bS⟩ : ∃ y_ : List Int, y_ = (ae.take (a3 : Int).toNat) := ⟨_, rfl⟩
                                   replace H : (if am.length + ai.length < 17592186044416 then ((some (am ++ ai : List Int)).bind fun ag => (if 0 ≤ (wrap64 (a3 + 1)) then (if (wrap64 (a3 + 1)) ≤ (ae.length : Int) then ((some (ae.drop ((wrap64 (a3 + 1)) : Int).toNat : List Int)).bind fun ac => (if ag.length + ac.length < 17592186044416 then ((spigotref36_Same.f k1 (ag ++ ac) aE).bind fun aq => (some aq)) else (none))) else (none)) else (none))) else (none)) = some true := by first | (rw [bS]; with_reducible exact H) | (have H2_ := (Option.bind_some _ _).symm.trans H; rw [bS]; with_reducible exact H2_) | (have H2_ := (Option.bind_some _ _).symm.trans H; with_reducible exact H2_) | with_reducible exact H | (rw [bS]; exact H) | exact H
                                   have cb := Aside0.mk bS
                                   (try clear bS)
                                   by_cases c61 : am.length + ai.length < 17592186044416
                                   ·rw [if_pos c61] at H
                                    have dt := Aside0.mk c61
                                    clear c61
                                    obtain ⟨ag, bT⟩ : ∃ y_ : List Int, y_ = (am ++ ai) := ⟨_, rfl⟩
                                    replace H : (if 0 ≤ (wrap64 (a3 + 1)) then (if (wrap64 (a3 + 1)) ≤ (ae.length : Int) then ((some (ae.drop ((wrap64 (a3 + 1)) : Int).toNat : List Int)).bind fun ac => (if ag.length + ac.length < 17592186044416 then ((spigotref36_Same.f k1 (ag ++ ac) aE).bind fun aq => (some aq)) else (none))) else (none)) else (none)) = some true := by first | (rw [bT]; with_reducible exact H) | (have H2_ := (Option.bind_some _ _).symm.trans H; rw [bT]; with_reducible exact H2_) | (have H2_ := (Option.bind_some _ _).symm.trans H; with_reducible exact H2_) | with_reducible exact H | (rw [bT]; exact H) | exact H
                                    have du := Aside0.mk bT
                                    (try clear bT)
                                    obtain ⟨ji62, hji62⟩ : ∃ j_ : Int, (wrap64 (a3 + 1)) = j_ := ⟨_, rfl⟩
                                    replace H : (if 0 ≤ (ji62) then (if (ji62) ≤ (ae.length : Int) then ((some (ae.drop ((ji62) : Int).toNat : List Int)).bind fun ac => (if ag.length + ac.length < 17592186044416 then ((spigotref36_Same.f k1 (ag ++ ac) aE).bind fun aq => (some aq)) else (none))) else (none)) else (none)) = some true := by first | (rw [hji62] at H; exact H) | (simp only [hji62] at H ⊢; exact H)
                                    (try rw [hji62] at A31)
                                    (try rw [hji62] at A32)
                                    (try rw [hji62] at A51)
                                    (try rw [hji62] at A52)
                                    have hji62w : (IntKind.i64.wrap (a3 + 1)) = ji62 := (i64_w _).trans hji62
                                    by_cases c63 : 0 ≤ (ji62)
                                    ·rw [if_pos c63] at H
                                     have c63b0 := eq_true c63
                                     have c63b1 : decide (0 ≤ (ji62)) = true := decide_eq_true c63
                                     clear c63
                                     by_cases c64 : (ji62) ≤ (ae.length : Int)
                                     ·rw [if_pos c64] at H
                                      have c64b0 := eq_true c64
                                      have c64b1 : decide ((ji62) ≤ (ae.length : Int)) = true := decide_eq_true c64
                                      clear c64
                                      obtain ⟨ac, bU⟩ : ∃ y_ : List Int, y_ = (ae.drop ((ji62) : Int).toNat) := ⟨_, rfl⟩
                                      replace H : (if ag.length + ac.length < 17592186044416 then ((spigotref36_Same.f k1 (ag ++ ac) aE).bind fun aq => (some aq)) else (none)) = some true := by first | (rw [bU]; with_reducible exact H) | (have H2_ := (Option.bind_some _ _).symm.trans H; rw [bU]; with_reducible exact H2_) | (have H2_ := (Option.bind_some _ _).symm.trans H; with_reducible exact H2_) | with_reducible exact H | (rw [bU]; exact H) | exact H
                                      have cc := Aside0.mk bU
                                      (try clear bU)
                                      by_cases c65 : ag.length + ac.length < 17592186044416
                                      ·rw [if_pos c65] at H
                                       have dv := Aside0.mk c65
                                       clear c65
                                       obtain ⟨cY, bV⟩ : ∃ y_ : List Int, y_ = (ag ++ ac) := ⟨_, rfl⟩
                                       replace H : ((spigotref36_Same.f k1 cY aE).bind fun aq => (some aq)) = some true := by first | (rw [bV]; with_reducible exact H) | (have H2_ := (Option.bind_some _ _).symm.trans H; rw [bV]; with_reducible exact H2_) | (have H2_ := (Option.bind_some _ _).symm.trans H; with_reducible exact H2_) | with_reducible exact H | (rw [bV]; exact H) | exact H
                                       have dw := Aside0.mk bV
                                       (try clear bV)
                                       replace H := Option.bind_eq_some_iff.mp H
                                       obtain ⟨aq, cZ, H⟩ := H
                                       replace H : (some aq) = some true := H
                                       have A66 := Aside0.mk cZ
                                       (try clear cZ)
                                       have HRT := Aside0.mk (Option.some.inj H)
                                       clear H
                                       try go_wp2_with (first | ((with_reducible refine gate_callee (f := 11) rfl ?_); refine goesE (some 90) rfl rfl Try.func11 (by kernel_rfl) rfl #[.slice A0 l0.length c0, .int .i64 a1] rfl ?_; (with_reducible refine (share_Level.calls k1 _ _ l0 a1 aA aC aT _ ?side1 ?side2 A31.out).mono ?_); (case side1 => exact Kd.pC ((Kd.C_below HR0.out HB.out))); (case side2 => exact HC0.out); rintro e w67 ⟨rfl, hb⟩; refine ⟨_, rfl, ?_⟩; have n0_ := Rb1 HO_10 hb; have n1_ := Aside0.mk (below_step (pB HB.out) hb); clear HO_10; clear HB; have HO_10 := n0_; have HB := n1_; clear n0_ n1_; (try clear hb); (try clear hb2); (try clear hk); (try clear hi)) | ((with_reducible refine gate_dst (N := 12) rfl ?_); (try (refine gate_guard (by rfl) ?_; dsimp only)); refine boxE (N := 12) (cs := #[.int .i64 0, .int .i64 0]) (t := 26) ?_; intro bl hg w68 hbox hb; have n0_ := Rb1 HO_10 hb; have n1_ := Aside0.mk (below_step (pB HB.out) hb); have n2_ := Aside0.mk (hbox); have n4_ := Aside0.mk (pL HB.out hg); clear HO_10; clear HB; have HO_10 := n0_; have HB := n1_; have aa := n2_; have dx := n4_; clear n0_ n1_ n2_ n4_; clear hb hbox hg; obtain ⟨hcz69_0, d8, d9, ea⟩ := bk2 aa.out; obtain ⟨be, a7, dM⟩ := Kd.R_slice HO_10.out; subst dM) | ((with_reducible refine gate_callee (f := 11) rfl ?_); refine goesE (some 98) rfl rfl Try.func11 (by kernel_rfl) rfl #[.slice be x10_1.length a7, .int .i64 (wrap64 (a2 * a1))] rfl ?_; (with_reducible refine (share_Level.calls k1 _ _ x10_1 (wrap64 (a2 * a1)) au av bx _ ?side1 ?side2 A32.out).mono ?_); (case side1 => refine (Kd.R_reads' (e := 37) (base := w.heap.size) (ok := fun k_ => True) (n := x10_1.length) (c := a7) ?_).2.2; exact (Kd.pR ((Kd.R_mono (Kd.R_far (p := ⟨bl, 1, none⟩) (Kd.R_far (p := ⟨bl, 0, none⟩) (Kd.R_types HO_10.out aa.out (by decide)) (fun _ hk => hk.2) (.int .i64 aA)) (fun _ hk => hk.2) (.int .i64 aC)) (fun _ h_ => h_.1))))); (case side2 => exact (Kd.R_reads' HO_10.out).2.1); rintro e w71 ⟨rfl, hb⟩; refine ⟨_, rfl, ?_⟩; have n0_ := Aside0.mk (Kd.R_below (Kd.pR ((Kd.R_mono (Kd.R_far (p := ⟨bl, 1, none⟩) (Kd.R_far (p := ⟨bl, 0, none⟩) (Kd.R_types HO_10.out aa.out (by decide)) (fun _ hk => hk.2) (.int .i64 aA)) (fun _ hk => hk.2) (.int .i64 aC)) (fun _ h_ => h_.1)))) hb); have n1_ := Aside0.mk (blk_below (g := bl) (o := .cells #[.int .i64 aA, .int .i64 aC] 26 (0, 0)) (by (with_reducible repeat (first | refine blk_drewN ?_ _ | refine blk_drew ?_ | refine blk_alloc ?_ _)); refine blk_put (cs := #[.int .i64 aA, .int .i64 0]) ?_ 1 _ rfl; (with_reducible repeat (first | refine blk_drewN ?_ _ | refine blk_drew ?_ | refine blk_alloc ?_ _)); refine blk_put (cs := #[.int .i64 0, .int .i64 0]) ?_ 0 _ rfl; (with_reducible repeat (first | refine blk_drewN ?_ _ | refine blk_drew ?_ | refine blk_alloc ?_ _)); exact aa.out) hb); have n2_ := Aside0.mk (below_step (pB HB.out) hb); clear HO_10; clear aa; clear HB; have HO_10 := n0_; have aa := n1_; have HB := n2_; clear n0_ n1_ n2_; (try clear hb); (try clear hb2); (try clear hk); (try clear hi)) | ((with_reducible refine gate_dst (N := 14) rfl ?_); (try (refine gate_guard (by rfl) ?_; dsimp only)); refine boxE (N := 14) (cs := #[.int .i64 0, .int .i64 0]) (t := 26) ?_; intro bu hg w72 hbox hb; have n0_ := Rb1 HO_10 hb; have n1_ := Aside0.mk (blk_below (pK aa.out) hb); have n2_ := Aside0.mk (below_step (pB HB.out) hb); have n3_ := Aside0.mk (hbox); have n5_ := Aside0.mk (pL HB.out hg); have n6_ := Aside0.mk (pNl aa.out hg); have n7_ := Aside0.mk (pNg aa.out hg); clear HO_10; clear aa; clear HB; have HO_10 := n0_; have aa := n1_; have HB := n2_; have ab := n3_; have dy := n5_; have bd := n6_; have bA := n7_; clear n0_ n1_ n2_ n3_ n5_ n6_ n7_; clear hb hbox hg; have el := bA.out; have em := bd.out; obtain ⟨hcz74_0, eb, ec, ed⟩ := bk2 ab.out; obtain ⟨hcz75_0, ee, ef, eg⟩ := bk2 aa.out))
                                       have n0_ : Aside0 (Kd.R k37 37 ((w72.setCell ⟨bu, 0, none⟩ (.int .i64 au)).setCell ⟨bu, 1, none⟩ (.int .i64 av)) w.heap.size (fun _ => True) (.slice be x10_1.length a7) x10_1) := ⟨Kd.pR (Kd.R_mono (Kd.R_far (p := ⟨bu, 1, none⟩) (Kd.R_far (p := ⟨bu, 0, none⟩) (Kd.R_types HO_10.out ab.out (by decide)) (fun _ hk => hk.2) (.int .i64 au)) (fun _ hk => hk.2) (.int .i64 av)) (fun _ hk => trivial))⟩
                                       have n1_ : Aside0 (((w72.setCell ⟨bu, 0, none⟩ (.int .i64 au)).setCell ⟨bu, 1, none⟩ (.int .i64 av)).heap[bl]? = some (.cells #[.int .i64 aA, .int .i64 aC] 26 (0, 0))) := ⟨by (with_reducible repeat (first | refine blk_drewN ?_ _ | refine blk_drew ?_ | refine blk_alloc ?_ _)); refine blk_far ?_ bd.out _; (with_reducible repeat (first | refine blk_drewN ?_ _ | refine blk_drew ?_ | refine blk_alloc ?_ _)); refine blk_far ?_ bd.out _; (with_reducible repeat (first | refine blk_drewN ?_ _ | refine blk_drew ?_ | refine blk_alloc ?_ _)); exact aa.out⟩
                                       have n2_ : Aside0 (((w72.setCell ⟨bu, 0, none⟩ (.int .i64 au)).setCell ⟨bu, 1, none⟩ (.int .i64 av)).heap[bu]? = some (.cells #[.int .i64 au, .int .i64 av] 26 (0, 0))) := ⟨by (with_reducible repeat (first | refine blk_drewN ?_ _ | refine blk_drew ?_ | refine blk_alloc ?_ _)); refine blk_put (cs := #[.int .i64 au, .int .i64 0]) ?_ 1 _ rfl; (with_reducible repeat (first | refine blk_drewN ?_ _ | refine blk_drew ?_ | refine blk_alloc ?_ _)); refine blk_put (cs := #[.int .i64 0, .int .i64 0]) ?_ 0 _ rfl; (with_reducible repeat (first | refine blk_drewN ?_ _ | refine blk_drew ?_ | refine blk_alloc ?_ _)); exact ab.out⟩
                                       have n3_ : Aside0 (Below w.heap.size w ((w72.setCell ⟨bu, 0, none⟩ (.int .i64 au)).setCell ⟨bu, 1, none⟩ (.int .i64 av))) := ⟨pB HB.out⟩
                                       (try clear HO_10)
                                       (try clear aa)
                                       (try clear ab)
                                       (try clear HB)
                                       generalize ((w72.setCell ⟨bu, 0, none⟩ (.int .i64 au)).setCell ⟨bu, 1, none⟩ (.int .i64 av)) = w76 at n0_ n1_ n2_ n3_ ⊢
                                       have HO_10 := n0_
                                       have aa := n1_
                                       have ab := n2_
                                       have HB := n3_
                                       clear n0_ n1_ n2_ n3_
                                       have n0_ := Aside0.mk (Kd.R_drew HO_10.out)
                                       have n1_ := Aside0.mk (blk_drew aa.out)
                                       have n2_ := Aside0.mk (blk_drew ab.out)
                                       have n3_ := Aside0.mk (below_drew1 HB.out)
                                       clear HO_10
                                       clear aa
                                       clear ab
                                       clear HB
                                       have HO_10 := n0_
                                       have aa := n1_
                                       have ab := n2_
                                       have HB := n3_
                                       clear n0_ n1_ n2_ n3_
                                       have q78 : (a3 : Int) ≤ ((l0.length : Int) : Int) := od
                                       obtain ⟨i078, hi078, _, hsz78, _⟩ := info_parts info37
                                       have hroom78 : l0.length ≤ c0 := HC0.out
                                       have hC78 : Kd.C k37 _ A0 l0.length l0 := HR0.out
                                       have hcut78 := cut_to (P := Try.prog) 22 37 .i64 Try.underlying22 hi078 A0 l0.length c0 a3 od q78 hroom78
                                       have hr78 := Kd.C_take (m := (a3 : Int).toNat) hC78 (by omega)
                                       have cB : a4.length = (a3 : Int).toNat := (by rw [cF.out, List.length_take]; omega)
                                       rw [← cF.out] at hr78
                                       rw [← cB] at hcut78
                                       have HR333 := Aside0.mk hr78
                                       have HC333 := Aside0.mk (show a4.length ≤ c0 from by omega)
                                       clear hr78 hC78 hroom78 hi078 hsz78
                                       have KY78 := Aside0.mk cB
                                       (try clear cB)
                                       replace q78 := eq_true q78
                                       have q79 : (a3 : Int) ≤ ((l0.length : Int) : Int) := od
                                       obtain ⟨i079, hi079, _, hsz79, _⟩ := info_parts info37
                                       have hroom79 : l0.length ≤ c0 := HC0.out
                                       have hC79 : Kd.C k37 _ A0 l0.length l0 := HR0.out
                                       have q079 : (0 : Int) ≤ (a3 : Int) := od
                                       have hcut79 := cut_from (P := Try.prog) 22 37 .i64 Try.underlying22 hi079 2 hsz79 A0 l0.length c0 a3 q079 q79
                                       have hr79 := Kd.C_drop (m := (a3 : Int).toNat) (c := c0) hC79 (by omega) hroom79
                                       obtain ⟨A79, hA79⟩ : ∃ A1, A1 = (if c0 = (a3 : Int).toNat then A0 else (A0 : Option Addr).map (·.add ((a3 : Int).toNat * 2))) := ⟨_, rfl⟩
                                       obtain ⟨c79, hc79⟩ : ∃ c1, c1 = c0 - (a3 : Int).toNat := ⟨_, rfl⟩
                                       have cp : aw.length = l0.length - (a3 : Int).toNat := (by rw [cG.out, List.length_drop] <;> omega)
                                       rw [show (l0).drop (a3 : Int).toNat = aw from cG.out.symm] at hr79
                                       replace hr79 : Kd.C k37 _ A79 aw.length aw := (by rw [hA79]; exact hr79)
                                       rw [← cp, ← hA79, ← hc79] at hcut79
                                       have HR346 := Aside0.mk hr79
                                       have HC346 := Aside0.mk (show aw.length ≤ c79 from by rw [cp, hc79]; exact Nat.sub_le_sub_right hroom79 _)
                                       clear hr79 hC79 hroom79 hi079 hsz79 hc79
                                       have KY79 := Aside0.mk cp
                                       have KA79 := Aside0.mk hA79
                                       clear cp hA79
                                       replace q79 := eq_true q79
                                       refine start_ (n := 13) (S := fun w' => True) (ds := []) #[false, false, false, false, false, false, false, false, false, false, false, false, false] (by kernel_rfl) rfl rfl trivial (fun hHeld => ?_); refine with_tabW spigotlaw36_ShareScales.tab17 spigotlaw36_ShareScales.bits17 (fun HT_ HW_ => ?_)
                                       generalize w76.drew = w77 at HO_10 aa ab HB HR333 HR346 hHeld ⊢
                                       refine pure_ (i := 1) (N := some 170) (v := ?_) (a' := ?_) #[false, true, false, false, false, false, false, false, false, false, false, false, false] rfl rfl (any_of HT_.out (by kernel_rfl)) (fun _ _ _ h => h) (Or.inl ⟨by rfl, ?_⟩) ?_ ?_
                                       rotate_left
                                       ·intro w'
                                        go_simp
                                        with_reducible rfl
                                       rotate_left
                                       ·simp only [Act.put, List.setIfInBounds_toArray, List.set_cons_zero, List.set_cons_succ, i64_w, i32_w]
                                        rfl
                                       refine pure_ (i := 2) (N := some 171) (v := ?_) (a' := ?_) #[false, true, true, false, false, false, false, false, false, false, false, false, false] rfl rfl (any_of HT_.out (by kernel_rfl)) (fun _ _ _ h => h) (Or.inl ⟨by rfl, ?_⟩) ?_ ?_
                                       rotate_left
                                       ·intro w'
                                        go_simp
                                        with_reducible rfl
                                       rotate_left
                                       ·simp only [Act.put, List.setIfInBounds_toArray, List.set_cons_zero, List.set_cons_succ, i64_w, i32_w]
                                        rfl
                                       refine pure_ (i := 3) (N := some 172) (v := ?_) (a' := ?_) #[false, true, true, true, false, false, false, false, false, false, false, false, false] rfl rfl (any_of HT_.out (by kernel_rfl)) (fun _ _ _ h => h) (Or.inl ⟨by rfl, ?_⟩) ?_ ?_
                                       rotate_left
                                       ·intro w'
                                        go_simp
                                        with_reducible rfl
                                       rotate_left
                                       ·simp only [Act.put, List.setIfInBounds_toArray, List.set_cons_zero, List.set_cons_succ, i64_w, i32_w]
                                        rfl
                                       refine pure_ (i := 5) (N := some 174) (v := ?_) (a' := ?_) #[false, true, true, true, false, true, false, false, false, false, false, false, false] rfl rfl (any_of HT_.out (by kernel_rfl)) (fun _ _ _ h => h) (Or.inl ⟨by rfl, ?_⟩) ?_ ?_
                                       rotate_left
                                       ·intro w'
                                        go_simp
                                        with_reducible rfl
                                       rotate_left
                                       ·simp only [Act.put, List.setIfInBounds_toArray, List.set_cons_zero, List.set_cons_succ, i64_w, i32_w]
                                        rfl
                                       refine pure_ (i := 8) (N := some 177) (v := ?_) (a' := ?_) #[false, true, true, true, false, true, false, false, true, false, false, false, false] rfl rfl (any_of HT_.out (by kernel_rfl)) (fun _ _ _ h => h) (Or.inl ⟨by rfl, ?_⟩) ?_ ?_
                                       rotate_left
                                       ·intro w'
                                        go_simp
                                        with_reducible rfl
                                       rotate_left
                                       ·simp only [Act.put, List.setIfInBounds_toArray, List.set_cons_zero, List.set_cons_succ, i64_w, i32_w]
                                        rfl
                                       refine pure_ (i := 9) (N := some 178) (v := ?_) (a' := ?_) #[false, true, true, true, false, true, false, false, true, true, false, false, false] rfl rfl (any_of HT_.out (by kernel_rfl)) (fun _ _ _ h => h) (Or.inl ⟨by rfl, ?_⟩) ?_ ?_
                                       rotate_left
                                       ·intro w'
                                        go_simp
                                        with_reducible rfl
                                       rotate_left
                                       ·simp only [Act.put, List.setIfInBounds_toArray, List.set_cons_zero, List.set_cons_succ, i64_w, i32_w]
                                        rfl
                                       refine pure_ (i := 10) (N := some 179) (v := ?_) (a' := ?_) #[false, true, true, true, false, true, false, false, true, true, true, false, false] rfl rfl (any_of HT_.out (by kernel_rfl)) (fun _ _ _ h => h) (Or.inl ⟨by rfl, ?_⟩) ?_ ?_
                                       rotate_left
                                       ·intro w'
                                        go_simp
                                        with_reducible rfl
                                       rotate_left
                                       ·simp only [Act.put, List.setIfInBounds_toArray, List.set_cons_zero, List.set_cons_succ, i64_w, i32_w]
                                        rfl
                                       refine join_ (σ := Value × Value × Value) 3 #[true, true, true, true, true, true, true, false, true, true, true, false, false] (fun s_ => [(169, s_.1), (173, s_.2.1), (175, s_.2.2)]) (fun s_ w' => (Kd.R k37 37 w' w.heap.size (fun k_ => some k_ ≠ (s_.2.2 : Value).ownBlock ∧ some k_ ≠ (.slice be x10_1.length a7 : Value).ownBlock) s_.2.1 aP) ∧ (Kd.R k37 37 w' w.heap.size (fun k_ => some k_ ≠ (s_.2.1 : Value).ownBlock ∧ some k_ ≠ (.slice be x10_1.length a7 : Value).ownBlock) s_.2.2 aJ) ∧ (Kd.R k37 37 w' w.heap.size (fun k_ => some k_ ≠ (s_.2.1 : Value).ownBlock ∧ some k_ ≠ (s_.2.2 : Value).ownBlock) (.slice be x10_1.length a7) x10_1) ∧ (w'.heap[bl]? = some (.cells #[.int .i64 aA, .int .i64 aC] 26 (0, 0))) ∧ (w'.heap[bu]? = some (.cells #[.int .i64 au, .int .i64 av] 26 (0, 0))) ∧ (Below w.heap.size w w')) ?_ ?_
                                       rotate_left
                                       ·intro hCont
                                        refine two_ (i := 0) (j := 6) (Ni := some 169) (Nj := some 175) #[true, true, true, true, false, true, false, false, true, true, true, false, false] #[false, true, true, true, false, true, true, false, true, true, true, false, false] rfl rfl rfl rfl (two_of HT_.out (by kernel_rfl)) (by decide) (by decide) (fun K hK => ?_) (fun K hK => ?_)
                                        ·skip
                                         refine Kd.R_lit_step k37 _ 37 ?hg (N := 169) ?hd (xs := ([] : List (S37))) (inner := []) (ok := fun _ => True) (okp := fun _ => True) ?hr ?hp (fun _ hk => hk) trivial (Below.refl _ _) (Nat.le_refl _) (by simp) ?_; (case hd => rfl); (case hg => rfl); (case hr => first | (go_simp; done) | (go_simp; rfl)); (case hp => exact (Reps.none _ _))
                                         intro bF w80 ho81 hb hg_ hnew_
                                         clear hg_ hnew_
                                         (first | rw [← ca.out] at ho81 | (simp only [Int.reduceToNat] at ho81; rw [← ca.out] at ho81))
                                         have n0_ := Re1 HO_10 ho81 hb
                                         have n1_ := Aside0.mk (Kd.R_lower (Kd.R_new' ho81 (Kd.R_lt (Kd.pR HO_10.out))) (below_size (pB HB.out)))
                                         have n2_ := Aside0.mk (blk_below (pK aa.out) hb)
                                         have n3_ := Aside0.mk (blk_below (pK ab.out) hb)
                                         have n4_ := Aside0.mk (below_step (pB HB.out) hb)
                                         clear HO_10
                                         clear aa
                                         clear ab
                                         clear HB
                                         have HO_10 := n0_
                                         have aV := n1_
                                         have aa := n2_
                                         have ab := n3_
                                         have HB := n4_
                                         clear n0_ n1_ n2_ n3_ n4_
                                         clear hb ho81
                                         refine hK.out _ _ trivial (fun hHeld => ?_)
                                         clear hK K
                                         refine norm_ (a' := ?_) ?_ ?_
                                         rotate_left
                                         ·show Act.put _ (some 169) _ = _
                                          simp only [Act.put, List.setIfInBounds_toArray, List.set_cons_zero, List.set_cons_succ, i64_w, i32_w]
                                          rfl
                                         refine two_ (i := 4) (j := 6) (Ni := some 173) (Nj := some 175) #[true, true, true, true, true, true, false, false, true, true, true, false, false] #[true, true, true, true, false, true, true, false, true, true, true, false, false] rfl rfl rfl rfl (two_of HT_.out (by kernel_rfl)) (by decide) (by decide) (fun K hK => ?_) (fun K hK => ?_)
                                         ·skip
                                          refine Kd.R_append_rows_step k37 (w0 := w) w.heap.size (by rfl) (.tmp 169) (.tmp 172) 22 37 (.agg #[(.int .i64 0), (.int .i64 0)]) 16 rfl Try.underlying22 info37 rfl (by decide) (by omega) bF bb a4 _ _ _ (fun k_ => some k_ ≠ (.slice be x10_1.length a7 : Value).ownBlock) (fun _ => False) rfl rfl ?aO ?aR (fun _ _ h => h) (fun _ h => h.elim) ?aF ?aB ?aS ?aL ?_
                                          (case aR => exact Kd.pC ((Kd.C_below HR333.out HB.out)))
                                          (case aB => exact (pB HB.out))
                                          (case aF => exact (fun k_ hk => Kd.fresh' (Kd.R_lt (Kd.pR HO_10.out)) k_ hk))
                                          (case aO => exact (Kd.pR (Kd.R_mono aV.out (fun _ hk => hk.2))))
                                          (case aS => exact (below_size (pB HB.out)))
                                          (case aL => have := cn.out; omega)
                                          intro bn w82 ho hb hg hat
                                          rw [← co.out] at ho
                                          have n0_ := Aside0.mk (Kd.R_after (ok := (fun _ => True)) (Kd.pR HO_10.out) hg hat)
                                          have n1_ := Aside0.mk (blk_grown (pK aa.out) hg (Kd.R_ne aV.out aa.out (by decide)))
                                          have n2_ := Aside0.mk (blk_grown (pK ab.out) hg (Kd.R_ne aV.out ab.out (by decide)))
                                          have n3_ := Aside0.mk (hb)
                                          have n4_ := Aside0.mk (ho)
                                          clear HO_10
                                          clear aa
                                          clear ab
                                          clear HB
                                          clear aV
                                          have HO_10 := n0_
                                          have aa := n1_
                                          have ab := n2_
                                          have HB := n3_
                                          have a8 := n4_
                                          clear n0_ n1_ n2_ n3_ n4_
                                          clear ho hb hg hat
                                          refine hK.out _ _ trivial (fun hHeld => ?_)
                                          clear hK K
                                          refine norm_ (a' := ?_) ?_ ?_
                                          rotate_left
                                          ·show Act.put _ (some 173) _ = _
                                           simp only [Act.put, List.setIfInBounds_toArray, List.set_cons_zero, List.set_cons_succ, i64_w, i32_w]
                                           rfl
                                          refine one_ (i := 6) (N := some 175) #[true, true, true, true, true, true, true, false, true, true, true, false, false] rfl rfl (one_of HT_.out (by kernel_rfl)) (by decide) (fun K hK => ?_)
                                          refine Kd.R_lit_step k37 _ 37 ?hg (N := 175) ?hd (xs := ([(⟨0, 5⟩ : S37)] : List (S37))) (inner := [.int .i64 0, .int .i64 5]) (ok := fun _ => True) (okp := fun _ => True) ?hr ?hp (fun _ hk => hk) trivial (Below.refl _ _) (Nat.le_refl _) (by simp) ?_; (case hd => rfl); (case hg => rfl); (case hr => first | (go_simp; done) | (go_simp; rfl)); (case hp => exact (Reps.c2 (show Kd.M k37 _ _ _ (⟨0, 5⟩ : S37) [.int .i64 0, .int .i64 5] from (k37_mkM _ _ _ (⟨0, 5⟩ : S37) )) (Reps.none _ _)))
                                          intro bi w83 ho84 hb hg_ hnew_
                                          clear hg_ hnew_
                                          (first | rw [← bC.out] at ho84 | (simp only [Int.reduceToNat] at ho84; rw [← bC.out] at ho84))
                                          have n0_ := Re1 HO_10 ho84 hb
                                          have n1_ := Re1 a8 ho84 hb
                                          have n2_ := Aside0.mk (Kd.R_lower (Kd.R_new' (Kd.R_new' ho84 (Kd.R_lt (Kd.pR HO_10.out))) (Kd.R_lt (Kd.pR a8.out))) (below_size (pB HB.out)))
                                          have n3_ := Aside0.mk (blk_below (pK aa.out) hb)
                                          have n4_ := Aside0.mk (blk_below (pK ab.out) hb)
                                          have n5_ := Aside0.mk (below_step (pB HB.out) hb)
                                          clear HO_10
                                          clear a8
                                          clear aa
                                          clear ab
                                          clear HB
                                          have HO_10 := n0_
                                          have a8 := n1_
                                          have ak := n2_
                                          have aa := n3_
                                          have ab := n4_
                                          have HB := n5_
                                          clear n0_ n1_ n2_ n3_ n4_ n5_
                                          clear hb ho84
                                          refine hK.out _ _ trivial (fun hHeld => ?_)
                                          clear hK K
                                          refine norm_ (a' := ?_) ?_ ?_
                                          rotate_left
                                          ·show Act.put _ (some 175) _ = _
                                           simp only [Act.put, List.setIfInBounds_toArray, List.set_cons_zero, List.set_cons_succ, i64_w, i32_w]
                                           rfl
                                          exact norm_ (by simp only [putAll, Act.put, List.setIfInBounds_toArray, List.set_cons_zero, List.set_cons_succ]) (hCont (bF, bn, bi) _ ⟨(Kd.pR (Kd.R_mono a8.out (fun _ hk => ⟨hk.2, hk.1⟩))), (Kd.pR (Kd.R_mono ak.out (fun _ hk => ⟨hk.2, hk.1.2⟩))), (Kd.pR (Kd.R_mono HO_10.out (fun _ hk => ⟨hk.1.2, hk.2⟩))), (pK aa.out), (pK ab.out), (pB HB.out)⟩)
                                         ·skip
                                          refine Kd.R_lit_step k37 _ 37 ?hg (N := 175) ?hd (xs := ([(⟨0, 5⟩ : S37)] : List (S37))) (inner := [.int .i64 0, .int .i64 5]) (ok := fun _ => True) (okp := fun _ => True) ?hr ?hp (fun _ hk => hk) trivial (Below.refl _ _) (Nat.le_refl _) (by simp) ?_; (case hd => rfl); (case hg => rfl); (case hr => first | (go_simp; done) | (go_simp; rfl)); (case hp => exact (Reps.c2 (show Kd.M k37 _ _ _ (⟨0, 5⟩ : S37) [.int .i64 0, .int .i64 5] from (k37_mkM _ _ _ (⟨0, 5⟩ : S37) )) (Reps.none _ _)))
                                          intro bi w82 ho83 hb hg_ hnew_
                                          clear hg_ hnew_
                                          (first | rw [← bC.out] at ho83 | (simp only [Int.reduceToNat] at ho83; rw [← bC.out] at ho83))
                                          have n0_ := Re1 HO_10 ho83 hb
                                          have n1_ := Re1 aV ho83 hb
                                          have n2_ := Aside0.mk (Kd.R_lower (Kd.R_new' (Kd.R_new' ho83 (Kd.R_lt (Kd.pR HO_10.out))) (Kd.R_lt (Kd.pR aV.out))) (below_size (pB HB.out)))
                                          have n3_ := Aside0.mk (blk_below (pK aa.out) hb)
                                          have n4_ := Aside0.mk (blk_below (pK ab.out) hb)
                                          have n5_ := Aside0.mk (below_step (pB HB.out) hb)
                                          clear HO_10
                                          clear aV
                                          clear aa
                                          clear ab
                                          clear HB
                                          have HO_10 := n0_
                                          have aV := n1_
                                          have ak := n2_
                                          have aa := n3_
                                          have ab := n4_
                                          have HB := n5_
                                          clear n0_ n1_ n2_ n3_ n4_ n5_
                                          clear hb ho83
                                          refine hK.out _ _ trivial (fun hHeld => ?_)
                                          clear hK K
                                          refine norm_ (a' := ?_) ?_ ?_
                                          rotate_left
                                          ·show Act.put _ (some 175) _ = _
                                           simp only [Act.put, List.setIfInBounds_toArray, List.set_cons_zero, List.set_cons_succ, i64_w, i32_w]
                                           rfl
                                          refine one_ (i := 4) (N := some 173) #[true, true, true, true, true, true, true, false, true, true, true, false, false] rfl rfl (one_of HT_.out (by kernel_rfl)) (by decide) (fun K hK => ?_)
                                          refine Kd.R_append_rows_step k37 (w0 := w) w.heap.size (by rfl) (.tmp 169) (.tmp 172) 22 37 (.agg #[(.int .i64 0), (.int .i64 0)]) 16 rfl Try.underlying22 info37 rfl (by decide) (by omega) bF bb a4 _ _ _ (fun k_ => some k_ ≠ (.slice be x10_1.length a7 : Value).ownBlock ∧ some k_ ≠ (bi : Value).ownBlock) (fun _ => False) rfl rfl ?aO ?aR (fun _ _ h => h) (fun _ h => h.elim) ?aF ?aB ?aS ?aL ?_
                                          (case aR => exact Kd.pC ((Kd.C_below HR333.out HB.out)))
                                          (case aB => exact (pB HB.out))
                                          (case aF => exact (fun k_ hk => ⟨Kd.fresh' (Kd.R_lt (Kd.pR HO_10.out)) k_ hk, Kd.fresh' (Kd.R_lt (Kd.pR ak.out)) k_ hk⟩))
                                          (case aO => exact (Kd.pR (Kd.R_mono aV.out (fun _ hk => ⟨hk.1.2, hk.2⟩))))
                                          (case aS => exact (below_size (pB HB.out)))
                                          (case aL => have := cn.out; omega)
                                          intro bn w84 ho hb hg hat
                                          rw [← co.out] at ho
                                          have n0_ := Aside0.mk (Kd.R_after (ok := (fun k_ => some k_ ≠ (bi : Value).ownBlock)) (Kd.pR (Kd.R_mono HO_10.out (fun _ hk => ⟨hk.2, hk.1.2⟩))) hg hat)
                                          have n1_ := Aside0.mk (blk_grown (pK aa.out) hg (Kd.R_ne aV.out aa.out (by decide)))
                                          have n2_ := Aside0.mk (blk_grown (pK ab.out) hg (Kd.R_ne aV.out ab.out (by decide)))
                                          have n3_ := Aside0.mk (Kd.R_after (ok := (fun k_ => some k_ ≠ (.slice be x10_1.length a7 : Value).ownBlock)) (Kd.pR (Kd.R_mono ak.out (fun _ hk => ⟨hk.1.2, hk.2⟩))) hg hat)
                                          have n4_ := Aside0.mk (hb)
                                          have n5_ := Aside0.mk (ho)
                                          clear HO_10
                                          clear aa
                                          clear ab
                                          clear ak
                                          clear HB
                                          (try clear aV)
                                          have HO_10 := n0_
                                          have aa := n1_
                                          have ab := n2_
                                          have ak := n3_
                                          have HB := n4_
                                          have a8 := n5_
                                          clear n0_ n1_ n2_ n3_ n4_ n5_
                                          clear ho hb hg hat
                                          refine hK.out _ _ trivial (fun hHeld => ?_)
                                          clear hK K
                                          refine norm_ (a' := ?_) ?_ ?_
                                          rotate_left
                                          ·show Act.put _ (some 173) _ = _
                                           simp only [Act.put, List.setIfInBounds_toArray, List.set_cons_zero, List.set_cons_succ, i64_w, i32_w]
                                           rfl
                                          exact norm_ (by simp only [putAll, Act.put, List.setIfInBounds_toArray, List.set_cons_zero, List.set_cons_succ]) (hCont (bF, bn, bi) _ ⟨(Kd.pR (Kd.R_mono a8.out (fun _ hk => ⟨hk.2, hk.1⟩))), (Kd.pR (Kd.R_mono ak.out (fun _ hk => ⟨hk.2, hk.1⟩))), (Kd.pR (Kd.R_mono HO_10.out (fun _ hk => ⟨hk.2, hk.1⟩))), (pK aa.out), (pK ab.out), (pB HB.out)⟩)
                                        ·skip
                                         refine Kd.R_lit_step k37 _ 37 ?hg (N := 175) ?hd (xs := ([(⟨0, 5⟩ : S37)] : List (S37))) (inner := [.int .i64 0, .int .i64 5]) (ok := fun _ => True) (okp := fun _ => True) ?hr ?hp (fun _ hk => hk) trivial (Below.refl _ _) (Nat.le_refl _) (by simp) ?_; (case hd => rfl); (case hg => rfl); (case hr => first | (go_simp; done) | (go_simp; rfl)); (case hp => exact (Reps.c2 (show Kd.M k37 _ _ _ (⟨0, 5⟩ : S37) [.int .i64 0, .int .i64 5] from (k37_mkM _ _ _ (⟨0, 5⟩ : S37) )) (Reps.none _ _)))
                                         intro bi w80 ho81 hb hg_ hnew_
                                         clear hg_ hnew_
                                         (first | rw [← bC.out] at ho81 | (simp only [Int.reduceToNat] at ho81; rw [← bC.out] at ho81))
                                         have n0_ := Re1 HO_10 ho81 hb
                                         have n1_ := Aside0.mk (Kd.R_lower (Kd.R_new' ho81 (Kd.R_lt (Kd.pR HO_10.out))) (below_size (pB HB.out)))
                                         have n2_ := Aside0.mk (blk_below (pK aa.out) hb)
                                         have n3_ := Aside0.mk (blk_below (pK ab.out) hb)
                                         have n4_ := Aside0.mk (below_step (pB HB.out) hb)
                                         clear HO_10
                                         clear aa
                                         clear ab
                                         clear HB
                                         have HO_10 := n0_
                                         have ak := n1_
                                         have aa := n2_
                                         have ab := n3_
                                         have HB := n4_
                                         clear n0_ n1_ n2_ n3_ n4_
                                         clear hb ho81
                                         refine hK.out _ _ trivial (fun hHeld => ?_)
                                         clear hK K
                                         refine norm_ (a' := ?_) ?_ ?_
                                         rotate_left
                                         ·show Act.put _ (some 175) _ = _
                                          simp only [Act.put, List.setIfInBounds_toArray, List.set_cons_zero, List.set_cons_succ, i64_w, i32_w]
                                          rfl
                                         refine one_ (i := 0) (N := some 169) #[true, true, true, true, false, true, true, false, true, true, true, false, false] rfl rfl (one_of HT_.out (by kernel_rfl)) (by decide) (fun K hK => ?_)
                                         refine Kd.R_lit_step k37 _ 37 ?hg (N := 169) ?hd (xs := ([] : List (S37))) (inner := []) (ok := fun _ => True) (okp := fun _ => True) ?hr ?hp (fun _ hk => hk) trivial (Below.refl _ _) (Nat.le_refl _) (by simp) ?_; (case hd => rfl); (case hg => rfl); (case hr => first | (go_simp; done) | (go_simp; rfl)); (case hp => exact (Reps.none _ _))
                                         intro bF w82 ho83 hb hg_ hnew_
                                         clear hg_ hnew_
                                         (first | rw [← ca.out] at ho83 | (simp only [Int.reduceToNat] at ho83; rw [← ca.out] at ho83))
                                         have n0_ := Re1 HO_10 ho83 hb
                                         have n1_ := Re1 ak ho83 hb
                                         have n2_ := Aside0.mk (Kd.R_lower (Kd.R_new' (Kd.R_new' ho83 (Kd.R_lt (Kd.pR HO_10.out))) (Kd.R_lt (Kd.pR ak.out))) (below_size (pB HB.out)))
                                         have n3_ := Aside0.mk (blk_below (pK aa.out) hb)
                                         have n4_ := Aside0.mk (blk_below (pK ab.out) hb)
                                         have n5_ := Aside0.mk (below_step (pB HB.out) hb)
                                         clear HO_10
                                         clear ak
                                         clear aa
                                         clear ab
                                         clear HB
                                         have HO_10 := n0_
                                         have ak := n1_
                                         have aV := n2_
                                         have aa := n3_
                                         have ab := n4_
                                         have HB := n5_
                                         clear n0_ n1_ n2_ n3_ n4_ n5_
                                         clear hb ho83
                                         refine hK.out _ _ trivial (fun hHeld => ?_)
                                         clear hK K
                                         refine norm_ (a' := ?_) ?_ ?_
                                         rotate_left
                                         ·show Act.put _ (some 169) _ = _
                                          simp only [Act.put, List.setIfInBounds_toArray, List.set_cons_zero, List.set_cons_succ, i64_w, i32_w]
                                          rfl
                                         refine one_ (i := 4) (N := some 173) #[true, true, true, true, true, true, true, false, true, true, true, false, false] rfl rfl (one_of HT_.out (by kernel_rfl)) (by decide) (fun K hK => ?_)
                                         refine Kd.R_append_rows_step k37 (w0 := w) w.heap.size (by rfl) (.tmp 169) (.tmp 172) 22 37 (.agg #[(.int .i64 0), (.int .i64 0)]) 16 rfl Try.underlying22 info37 rfl (by decide) (by omega) bF bb a4 _ _ _ (fun k_ => some k_ ≠ (.slice be x10_1.length a7 : Value).ownBlock ∧ some k_ ≠ (bi : Value).ownBlock) (fun _ => False) rfl rfl ?aO ?aR (fun _ _ h => h) (fun _ h => h.elim) ?aF ?aB ?aS ?aL ?_
                                         (case aR => exact Kd.pC ((Kd.C_below HR333.out HB.out)))
                                         (case aB => exact (pB HB.out))
                                         (case aF => exact (fun k_ hk => ⟨Kd.fresh' (Kd.R_lt (Kd.pR HO_10.out)) k_ hk, Kd.fresh' (Kd.R_lt (Kd.pR ak.out)) k_ hk⟩))
                                         (case aO => exact (Kd.pR (Kd.R_mono aV.out (fun _ hk => ⟨hk.1.2, hk.2⟩))))
                                         (case aS => exact (below_size (pB HB.out)))
                                         (case aL => have := cn.out; omega)
                                         intro bn w84 ho hb hg hat
                                         rw [← co.out] at ho
                                         have n0_ := Aside0.mk (Kd.R_after (ok := (fun k_ => some k_ ≠ (bi : Value).ownBlock)) (Kd.pR (Kd.R_mono HO_10.out (fun _ hk => ⟨hk.1.2, hk.2⟩))) hg hat)
                                         have n1_ := Aside0.mk (blk_grown (pK aa.out) hg (Kd.R_ne aV.out aa.out (by decide)))
                                         have n2_ := Aside0.mk (blk_grown (pK ab.out) hg (Kd.R_ne aV.out ab.out (by decide)))
                                         have n3_ := Aside0.mk (Kd.R_after (ok := (fun k_ => some k_ ≠ (.slice be x10_1.length a7 : Value).ownBlock)) (Kd.pR (Kd.R_mono ak.out (fun _ hk => ⟨hk.1.2, hk.2⟩))) hg hat)
                                         have n4_ := Aside0.mk (hb)
                                         have n5_ := Aside0.mk (ho)
                                         clear HO_10
                                         clear aa
                                         clear ab
                                         clear ak
                                         clear HB
                                         (try clear aV)
                                         have HO_10 := n0_
                                         have aa := n1_
                                         have ab := n2_
                                         have ak := n3_
                                         have HB := n4_
                                         have a8 := n5_
                                         clear n0_ n1_ n2_ n3_ n4_ n5_
                                         clear ho hb hg hat
                                         refine hK.out _ _ trivial (fun hHeld => ?_)
                                         clear hK K
                                         refine norm_ (a' := ?_) ?_ ?_
                                         rotate_left
                                         ·show Act.put _ (some 173) _ = _
                                          simp only [Act.put, List.setIfInBounds_toArray, List.set_cons_zero, List.set_cons_succ, i64_w, i32_w]
                                          rfl
                                         exact norm_ (by simp only [putAll, Act.put, List.setIfInBounds_toArray, List.set_cons_zero, List.set_cons_succ]) (hCont (bF, bn, bi) _ ⟨(Kd.pR (Kd.R_mono a8.out (fun _ hk => ⟨hk.2, hk.1⟩))), (Kd.pR (Kd.R_mono ak.out (fun _ hk => ⟨hk.2, hk.1⟩))), (Kd.pR (Kd.R_mono HO_10.out (fun _ hk => ⟨hk.2, hk.1⟩))), (pK aa.out), (pK ab.out), (pB HB.out)⟩)
                                       rintro ⟨bF, bn, bi⟩ w85 ⟨h0_, h1_, h2_, h3_, h4_, h5_⟩
                                       have n0_ : Aside0 (Kd.R k37 37 w85 w.heap.size (fun k_ => some k_ ≠ (bi : Value).ownBlock ∧ some k_ ≠ (.slice be x10_1.length a7 : Value).ownBlock) bn aP) := ⟨h0_⟩
                                       have n1_ : Aside0 (Kd.R k37 37 w85 w.heap.size (fun k_ => some k_ ≠ (bn : Value).ownBlock ∧ some k_ ≠ (.slice be x10_1.length a7 : Value).ownBlock) bi aJ) := ⟨h1_⟩
                                       have n2_ : Aside0 (Kd.R k37 37 w85 w.heap.size (fun k_ => some k_ ≠ (bn : Value).ownBlock ∧ some k_ ≠ (bi : Value).ownBlock) (.slice be x10_1.length a7) x10_1) := ⟨h2_⟩
                                       have n3_ : Aside0 (w85.heap[bl]? = some (.cells #[.int .i64 aA, .int .i64 aC] 26 (0, 0))) := ⟨h3_⟩
                                       have n4_ : Aside0 (w85.heap[bu]? = some (.cells #[.int .i64 au, .int .i64 av] 26 (0, 0))) := ⟨h4_⟩
                                       have n5_ : Aside0 (Below w.heap.size w w85) := ⟨h5_⟩
                                       clear HO_10
                                       clear aa
                                       clear ab
                                       clear HB
                                       clear h0_ h1_ h2_ h3_ h4_ h5_
                                       have a8 := n0_
                                       have ak := n1_
                                       have HO_10 := n2_
                                       have aa := n3_
                                       have ab := n4_
                                       have HB := n5_
                                       clear n0_ n1_ n2_ n3_ n4_ n5_
                                       have hHeld := trivial
                                       obtain ⟨cC, cq, c3⟩ := Kd.R_slice ak.out
                                       (first | subst c3 | (injection c3 with f1_ f2_ f3_; have f4_ := f1_.symm; have f5_ := f3_.symm; clear f1_ f2_ f3_; subst f4_; subst f5_))
                                       refine norm_ (a' := ?_) ?_ ?_
                                       rotate_left
                                       ·simp only [putAll, Act.put, List.setIfInBounds_toArray, List.set_cons_zero, List.set_cons_succ]
                                        rfl
                                       refine one_ (i := 7) (N := some 176) #[true, true, true, true, true, true, true, true, true, true, true, false, false] rfl rfl (one_of HT_.out (by kernel_rfl)) (by decide) (fun K hK => ?_)
                                       refine Kd.R_append_rows_step k37 (w0 := w) w.heap.size (by rfl) (.tmp 173) (.tmp 175) 22 37 (.agg #[(.int .i64 0), (.int .i64 0)]) 16 rfl Try.underlying22 info37 rfl (by decide) (by omega) bn aP aJ _ _ _ (fun k_ => some k_ ≠ (.slice be x10_1.length a7 : Value).ownBlock ∧ some k_ ≠ (.slice cC aJ.length cq : Value).ownBlock) (fun _ => False) rfl rfl ?aO ?aR (fun _ _ h => h) (fun _ h => h.elim) ?aF ?aB ?aS ?aL ?_
                                       (case aR => exact Kd.pC ((Kd.R_reads' ak.out).2.2))
                                       (case aB => exact (pB HB.out))
                                       (case aF => exact (fun k_ hk => ⟨Kd.fresh' (Kd.R_lt (Kd.pR HO_10.out)) k_ hk, Kd.fresh' (Kd.R_lt (Kd.pR ak.out)) k_ hk⟩))
                                       (case aO => exact (Kd.pR (Kd.R_mono a8.out (fun _ hk => ⟨hk.2, hk.1⟩))))
                                       (case aS => exact (below_size (pB HB.out)))
                                       (case aL => have := dn.out; omega)
                                       intro dN w86 ho hb hg hat
                                       rw [← dp.out] at ho
                                       have n0_ := Aside0.mk (Kd.R_after (ok := (fun k_ => some k_ ≠ (.slice cC aJ.length cq : Value).ownBlock)) (Kd.pR (Kd.R_mono HO_10.out (fun _ hk => ⟨hk.2, hk.1⟩))) hg hat)
                                       have n1_ := Aside0.mk (blk_grown (pK aa.out) hg (Kd.R_ne a8.out aa.out (by decide)))
                                       have n2_ := Aside0.mk (blk_grown (pK ab.out) hg (Kd.R_ne a8.out ab.out (by decide)))
                                       have n3_ := Aside0.mk (Kd.R_after (ok := (fun k_ => some k_ ≠ (.slice be x10_1.length a7 : Value).ownBlock)) (Kd.pR (Kd.R_mono ak.out (fun _ hk => ⟨hk.2, hk.1⟩))) hg hat)
                                       have n4_ := Aside0.mk (hb)
                                       have n5_ := Aside0.mk (ho)
                                       clear HO_10
                                       clear aa
                                       clear ab
                                       clear ak
                                       clear HB
                                       (try clear a8)
                                       have HO_10 := n0_
                                       have aa := n1_
                                       have ab := n2_
                                       have ak := n3_
                                       have HB := n4_
                                       have cd := n5_
                                       clear n0_ n1_ n2_ n3_ n4_ n5_
                                       clear ho hb hg hat
                                       refine hK.out _ _ trivial (fun hHeld => ?_)
                                       clear hK K
                                       refine norm_ (a' := ?_) ?_ ?_
                                       rotate_left
                                       ·show Act.put _ (some 176) _ = _
                                        simp only [Act.put, List.setIfInBounds_toArray, List.set_cons_zero, List.set_cons_succ, i64_w, i32_w]
                                        rfl
                                       refine one_ (i := 11) (N := some 180) #[true, true, true, true, true, true, true, true, true, true, true, true, false] rfl rfl (one_of HT_.out (by kernel_rfl)) (by decide) (fun K hK => ?_)
                                       refine Kd.R_append_rows_step k37 (w0 := w) w.heap.size (by rfl) (.tmp 176) (.tmp 179) 22 37 (.agg #[(.int .i64 0), (.int .i64 0)]) 16 rfl Try.underlying22 info37 rfl (by decide) (by omega) dN aM aw _ _ _ (fun k_ => some k_ ≠ (.slice be x10_1.length a7 : Value).ownBlock ∧ some k_ ≠ (.slice cC aJ.length cq : Value).ownBlock) (fun _ => False) rfl rfl ?aO ?aR (fun _ _ h => h) (fun _ h => h.elim) ?aF ?aB ?aS ?aL ?_
                                       (case aR => exact Kd.pC ((Kd.C_below HR346.out HB.out)))
                                       (case aB => exact (pB HB.out))
                                       (case aF => exact (fun k_ hk => ⟨Kd.fresh' (Kd.R_lt (Kd.pR HO_10.out)) k_ hk, Kd.fresh' (Kd.R_lt (Kd.pR ak.out)) k_ hk⟩))
                                       (case aO => exact (Kd.pR cd.out))
                                       (case aS => exact (below_size (pB HB.out)))
                                       (case aL => have := dq.out; omega)
                                       intro et w88 ho hb hg hat
                                       rw [← dr.out] at ho
                                       have n0_ := Aside0.mk (Kd.R_after (ok := (fun k_ => some k_ ≠ (.slice cC aJ.length cq : Value).ownBlock)) (Kd.pR HO_10.out) hg hat)
                                       have n1_ := Aside0.mk (blk_grown (pK aa.out) hg (Kd.R_ne cd.out aa.out (by decide)))
                                       have n2_ := Aside0.mk (blk_grown (pK ab.out) hg (Kd.R_ne cd.out ab.out (by decide)))
                                       have n3_ := Aside0.mk (Kd.R_after (ok := (fun k_ => some k_ ≠ (.slice be x10_1.length a7 : Value).ownBlock)) (Kd.pR ak.out) hg hat)
                                       have n4_ := Aside0.mk (hb)
                                       have n5_ := Aside0.mk (ho)
                                       clear HO_10
                                       clear aa
                                       clear ab
                                       clear ak
                                       clear HB
                                       (try clear cd)
                                       have HO_10 := n0_
                                       have aa := n1_
                                       have ab := n2_
                                       have ak := n3_
                                       have HB := n4_
                                       have aX := n5_
                                       clear n0_ n1_ n2_ n3_ n4_ n5_
                                       clear ho hb hg hat
                                       refine hK.out _ _ trivial (fun hHeld => ?_)
                                       clear hK K
                                       refine norm_ (a' := ?_) ?_ ?_
                                       rotate_left
                                       ·show Act.put _ (some 180) _ = _
                                        simp only [Act.put, List.setIfInBounds_toArray, List.set_cons_zero, List.set_cons_succ, i64_w, i32_w]
                                        rfl
                                       refine pure_ (i := 12) (N := some 16) (v := ?_) (a' := ?_) #[true, true, true, true, true, true, true, true, true, true, true, true, true] rfl rfl (any_of HT_.out (by kernel_rfl)) (fun _ _ _ h => h) (Or.inl ⟨by rfl, ?_⟩) ?_ ?_
                                       rotate_left
                                       ·intro w'
                                        go_simp
                                        with_reducible rfl
                                       rotate_left
                                       ·simp only [Act.put, List.setIfInBounds_toArray, List.set_cons_zero, List.set_cons_succ, i64_w, i32_w]
                                        rfl
                                       refine done_ (done_of HT_.out (by kernel_rfl)) ?_
                                       try go_wp2_with (first | ((with_reducible refine gate_callee (f := 13) rfl ?_); refine goesE (some 184) rfl rfl Try.func13 (by kernel_rfl) rfl #[.slice A0 l0.length c0, .int .i64 a1] rfl ?_; (with_reducible refine (share_Split.calls k1 _ _ l0 a1 aE bz _ ?side1 ?side2 A51.out).mono ?_); (case side1 => exact Kd.pC ((Kd.C_below HR0.out HB.out))); (case side2 => exact HC0.out); rintro e w89 ⟨v352, rfl, ho0, hb⟩; refine ⟨_, rfl, ?_⟩; have n0_ := Rb1 HO_10 hb; have n1_ := Rb1 ak hb; have n2_ := Rb1 aX hb; have n3_ := Aside0.mk (Kd.R_lower ho0 (below_size (pB HB.out))); have n4_ := Aside0.mk (blk_below (pK aa.out) hb); have n5_ := Aside0.mk (blk_below (pK ab.out) hb); have n6_ := Aside0.mk (below_step (pB HB.out) hb); clear HO_10; clear ak; clear aX; clear aa; clear ab; clear HB; have HO_10 := n0_; have ak := n1_; have aX := n2_; have aG := n3_; have aa := n4_; have ab := n5_; have HB := n6_; clear n0_ n1_ n2_ n3_ n4_ n5_ n6_; (try clear hb); (try clear hb2); (try clear hk); (try clear hi); (try clear ho0); obtain ⟨eu, dO, dP⟩ := Kd.R_slice aX.out; subst dP) | ((with_reducible refine gate_callee (f := 13) rfl ?_); refine goesE (some 190) rfl rfl Try.func13 (by kernel_rfl) rfl #[.slice eu ao.length dO, .int .i64 a1] rfl ?_; (with_reducible refine (share_Split.calls k1 _ _ ao a1 ae bE _ ?side1 ?side2 A52.out).mono ?_); (case side1 => exact Kd.pC ((Kd.R_reads' aX.out).2.2)); (case side2 => exact (Kd.R_reads' aX.out).2.1); rintro e w91 ⟨v356, rfl, ho0, hb⟩; refine ⟨_, rfl, ?_⟩; have n0_ := Rb1 HO_10 hb; have n1_ := Rb1 ak hb; have n2_ := Rb1 aX hb; have n3_ := Re1 aG ho0 hb; have n4_ := Aside0.mk (Kd.R_lower (Kd.R_new' ho0 (Kd.R_lt (Kd.pR aG.out))) (below_size (pB HB.out))); have n5_ := Aside0.mk (blk_below (pK aa.out) hb); have n6_ := Aside0.mk (blk_below (pK ab.out) hb); have n7_ := Aside0.mk (below_step (pB HB.out) hb); clear HO_10; clear ak; clear aX; clear aG; clear aa; clear ab; clear HB; have HO_10 := n0_; have ak := n1_; have aX := n2_; have aG := n3_; have ay := n4_; have aa := n5_; have ab := n6_; have HB := n7_; clear n0_ n1_ n2_ n3_ n4_ n5_ n6_ n7_; (try clear hb); (try clear hb2); (try clear hk); (try clear hi); (try clear ho0); obtain ⟨bv, bo, dQ⟩ := Kd.R_slice aG.out; subst dQ; obtain ⟨Ao93, bf, dR⟩ := Kd.R_slice ay.out; subst dR; have p358 : 0 ≤ (a3 : Int) := od; have q358 : a3 < (ae.length : Int) := od; obtain ⟨ad358, e358, eh⟩ := Kd.at_int (Kd.R_reads' ay.out).2.2 a3 p358 q358; cases e358; replace p358 := eq_true p358; replace q358 := eq_true q358))
                                       have n0_ := Aside0.mk (Kd.R_drew HO_10.out)
                                       have n1_ := Aside0.mk (Kd.R_drew ak.out)
                                       have n2_ := Aside0.mk (Kd.R_drew aX.out)
                                       have n3_ := Aside0.mk (Kd.R_drew aG.out)
                                       have n4_ := Aside0.mk (Kd.R_drew ay.out)
                                       have n5_ := Aside0.mk (blk_drew aa.out)
                                       have n6_ := Aside0.mk (blk_drew ab.out)
                                       have n7_ := Aside0.mk (below_drew1 HB.out)
                                       clear HO_10
                                       clear ak
                                       clear aX
                                       clear aG
                                       clear ay
                                       clear aa
                                       clear ab
                                       clear HB
                                       have HO_10 := n0_
                                       have ak := n1_
                                       have aX := n2_
                                       have aG := n3_
                                       have ay := n4_
                                       have aa := n5_
                                       have ab := n6_
                                       have HB := n7_
                                       clear n0_ n1_ n2_ n3_ n4_ n5_ n6_ n7_
                                       have q95 : (a3 : Int) ≤ ((ae.length : Int) : Int) := od
                                       obtain ⟨i095, hi095, _, hsz95, _⟩ := info_parts info2
                                       have hroom95 : ae.length ≤ bf := (Kd.R_reads' ay.out).2.1
                                       have hC95 : Kd.C (Kd.int .i64) _ (some ad358) ae.length ae := (Kd.R_reads' ay.out).2.2
                                       have hcut95 := cut_to (P := Try.prog) 33 2 .i64 Try.underlying33 hi095 (some ad358) ae.length bf a3 od q95 hroom95
                                       have hr95 := Kd.C_take (m := (a3 : Int).toNat) hC95 (by omega)
                                       have cD : ai.length = (a3 : Int).toNat := (by rw [cb.out, List.length_take]; omega)
                                       rw [← cb.out] at hr95
                                       rw [← cD] at hcut95
                                       have HR365 := Aside0.mk hr95
                                       have HC365 := Aside0.mk (show ai.length ≤ bf from by omega)
                                       clear hr95 hC95 hroom95 hi095 hsz95
                                       have KY95 := Aside0.mk cD
                                       (try clear cD)
                                       have KL95 := Aside0.mk (show (a3 : Int).toNat ≤ ae.length from by omega)
                                       replace q95 := eq_true q95
                                       have q96 : ((ji62) : Int) ≤ ((ae.length : Int) : Int) := od
                                       obtain ⟨i096, hi096, _, hsz96, _⟩ := info_parts info2
                                       have hroom96 : ae.length ≤ bf := (Kd.R_reads' ay.out).2.1
                                       have hC96 : Kd.C (Kd.int .i64) _ (some ad358) ae.length ae := (Kd.R_reads' ay.out).2.2
                                       have q096 : (0 : Int) ≤ ((ji62) : Int) := od
                                       have hcut96 := cut_from (P := Try.prog) 33 2 .i64 Try.underlying33 hi096 1 hsz96 (some ad358) ae.length bf (ji62) q096 q96
                                       have hr96 := Kd.C_drop (m := ((ji62) : Int).toNat) (c := bf) hC96 (by omega) hroom96
                                       obtain ⟨A96, hA96⟩ : ∃ A1, A1 = (if bf = ((ji62) : Int).toNat then (some ad358) else ((some ad358) : Option Addr).map (·.add (((ji62) : Int).toNat * 1))) := ⟨_, rfl⟩
                                       obtain ⟨c96, hc96⟩ : ∃ c1, c1 = bf - ((ji62) : Int).toNat := ⟨_, rfl⟩
                                       have cr : ac.length = ae.length - ((ji62) : Int).toNat := (by rw [cc.out, List.length_drop] <;> omega)
                                       rw [show (ae).drop ((ji62) : Int).toNat = ac from cc.out.symm] at hr96
                                       replace hr96 : Kd.C (Kd.int .i64) _ A96 ac.length ac := (by rw [hA96]; exact hr96)
                                       rw [← cr, ← hA96, ← hc96] at hcut96
                                       have HR372 := Aside0.mk hr96
                                       have HC372 := Aside0.mk (show ac.length ≤ c96 from by rw [cr, hc96]; exact Nat.sub_le_sub_right hroom96 _)
                                       clear hr96 hC96 hroom96 hi096 hsz96 hc96
                                       have KY96 := Aside0.mk cr
                                       have KA96 := Aside0.mk hA96
                                       clear cr hA96
                                       have KL96 := Aside0.mk (show ((ji62) : Int).toNat ≤ ae.length from by omega)
                                       replace q96 := eq_true q96
                                       refine start_ (n := 16) (S := fun w' => True) (ds := []) #[false, false, false, false, false, false, false, false, false, false, false, false, false, false, false, false] (by kernel_rfl) rfl rfl trivial (fun hHeld => ?_); refine with_tabW spigotlaw36_ShareScales.tab22 spigotlaw36_ShareScales.bits22 (fun HT_ HW_ => ?_)
                                       generalize w91.drew = w94 at HO_10 ak aX aG ay aa ab HB HR365 HR372 hHeld ⊢
                                       refine pure_ (i := 0) (N := some 220) (v := ?_) (a' := ?_) #[true, false, false, false, false, false, false, false, false, false, false, false, false, false, false, false] rfl rfl (any_of HT_.out (by kernel_rfl)) (fun _ _ _ h => h) (Or.inl ⟨by rfl, ?_⟩) ?_ ?_
                                       rotate_left
                                       ·intro w'
                                        go_simp
                                        with_reducible rfl
                                       rotate_left
                                       ·simp only [Act.put, List.setIfInBounds_toArray, List.set_cons_zero, List.set_cons_succ, i64_w, i32_w]
                                        rfl
                                       refine pure_ (i := 1) (N := some 221) (v := ?_) (a' := ?_) #[true, true, false, false, false, false, false, false, false, false, false, false, false, false, false, false] rfl rfl (any_of HT_.out (by kernel_rfl)) (fun _ _ _ h => h) (Or.inl ⟨by rfl, ?_⟩) ?_ ?_
                                       rotate_left
                                       ·intro w'
                                        go_simp
                                        with_reducible rfl
                                       rotate_left
                                       ·simp only [Act.put, List.setIfInBounds_toArray, List.set_cons_zero, List.set_cons_succ, i64_w, i32_w]
                                        rfl
                                       refine pure_ (i := 3) (N := some 223) (v := ?_) (a' := ?_) #[true, true, false, true, false, false, false, false, false, false, false, false, false, false, false, false] rfl rfl (any_of HT_.out (by kernel_rfl)) (fun _ _ _ h => h) (Or.inl ⟨by rfl, ?_⟩) ?_ ?_
                                       rotate_left
                                       ·intro w'
                                        go_simp
                                        with_reducible rfl
                                       rotate_left
                                       ·simp only [Act.put, List.setIfInBounds_toArray, List.set_cons_zero, List.set_cons_succ, i64_w, i32_w]
                                        rfl
                                       refine pure_ (i := 4) (N := some 224) (v := ?_) (a' := ?_) #[true, true, false, true, true, false, false, false, false, false, false, false, false, false, false, false] rfl rfl (any_of HT_.out (by kernel_rfl)) (fun _ _ _ h => h) (Or.inl ⟨by rfl, ?_⟩) ?_ ?_
                                       rotate_left
                                       ·intro w'
                                        go_simp
                                        with_reducible rfl
                                       rotate_left
                                       ·simp only [Act.put, List.setIfInBounds_toArray, List.set_cons_zero, List.set_cons_succ, i64_w, i32_w]
                                        rfl
                                       refine pure_ (i := 5) (N := some 225) (v := ?_) (a' := ?_) #[true, true, false, true, true, true, false, false, false, false, false, false, false, false, false, false] rfl rfl (any_of HT_.out (by kernel_rfl)) (fun _ _ _ h => h) (Or.inl ⟨by rfl, ?_⟩) ?_ ?_
                                       rotate_left
                                       ·intro w'
                                        go_simp
                                        with_reducible rfl
                                       rotate_left
                                       ·simp only [Act.put, List.setIfInBounds_toArray, List.set_cons_zero, List.set_cons_succ, i64_w, i32_w]
                                        rfl
                                       refine pure_ (i := 7) (N := some 227) (v := ?_) (a' := ?_) #[true, true, false, true, true, true, false, true, false, false, false, false, false, false, false, false] rfl rfl (any_of HT_.out (by kernel_rfl)) (fun _ _ _ h => h) (Or.inl ⟨by rfl, ?_⟩) ?_ ?_
                                       rotate_left
                                       ·intro w'
                                        go_simp
                                        with_reducible rfl
                                       rotate_left
                                       ·simp only [Act.put, List.setIfInBounds_toArray, List.set_cons_zero, List.set_cons_succ, i64_w, i32_w]
                                        rfl
                                       refine pure_ (i := 8) (N := some 228) (v := ?_) (a' := ?_) #[true, true, false, true, true, true, false, true, true, false, false, false, false, false, false, false] rfl rfl (any_of HT_.out (by kernel_rfl)) (fun _ _ _ h => h) (Or.inl ⟨by rfl, ?_⟩) ?_ ?_
                                       rotate_left
                                       ·intro w'
                                        go_simp
                                        with_reducible rfl
                                       rotate_left
                                       ·simp only [Act.put, List.setIfInBounds_toArray, List.set_cons_zero, List.set_cons_succ, i64_w, i32_w]
                                        rfl
                                       refine pure_ (i := 9) (N := some 229) (v := ?_) (a' := ?_) #[true, true, false, true, true, true, false, true, true, true, false, false, false, false, false, false] rfl rfl (any_of HT_.out (by kernel_rfl)) (fun _ _ _ h => h) (Or.inl ⟨by rfl, ?_⟩) ?_ ?_
                                       rotate_left
                                       ·intro w'
                                        go_simp
                                        with_reducible rfl
                                       rotate_left
                                       ·simp only [Act.put, List.setIfInBounds_toArray, List.set_cons_zero, List.set_cons_succ, i64_w, i32_w]
                                        rfl
                                       refine pure_ (i := 10) (N := some 230) (v := ?_) (a' := ?_) #[true, true, false, true, true, true, false, true, true, true, true, false, false, false, false, false] rfl rfl (any_of HT_.out (by kernel_rfl)) (fun _ _ _ h => h) (Or.inl ⟨by rfl, ?_⟩) ?_ ?_
                                       rotate_left
                                       ·intro w'
                                        go_simp
                                        with_reducible rfl
                                       rotate_left
                                       ·simp only [Act.put, List.setIfInBounds_toArray, List.set_cons_zero, List.set_cons_succ, i64_w, i32_w]
                                        rfl
                                       refine pure_ (i := 12) (N := some 232) (v := ?_) (a' := ?_) #[true, true, false, true, true, true, false, true, true, true, true, false, true, false, false, false] rfl rfl (any_of HT_.out (by kernel_rfl)) (fun _ _ _ h => h) (Or.inl ⟨by rfl, ?_⟩) ?_ ?_
                                       rotate_left
                                       ·intro w'
                                        go_simp
                                        with_reducible rfl
                                       rotate_left
                                       ·simp only [Act.put, List.setIfInBounds_toArray, List.set_cons_zero, List.set_cons_succ, i64_w, i32_w]
                                        rfl
                                       refine one_ (i := 2) (N := some 222) #[true, true, true, true, true, true, false, true, true, true, true, false, true, false, false, false] rfl rfl (one_of HT_.out (by kernel_rfl)) (by decide) (fun K hK => ?_)
                                       refine Kd.R_lit_step (Kd.int .i64) _ 2 ?hg (N := 222) ?hd (xs := ([] : List Int)) (inner := []) (ok := fun _ => True) (okp := fun _ => True) ?hr ?hp (fun _ hk => hk) trivial (Below.refl _ _) (Nat.le_refl _) (by simp) ?_; (case hd => rfl); (case hg => rfl); (case hr => first | (go_simp; done) | (go_simp; rfl)); (case hp => exact (Reps.none _ _))
                                       intro dS w97 ho98 hb hg_ hnew_
                                       clear hg_ hnew_
                                       (first | rw [← cH.out] at ho98 | (simp only [Int.reduceToNat] at ho98; rw [← cH.out] at ho98))
                                       have n0_ := Rb1 HO_10 hb
                                       have n3_ := Re1 aG ho98 hb
                                       have n4_ := Re1 ay ho98 hb
                                       have n5_ := Aside0.mk (Kd.R_lower (Kd.R_new' (Kd.R_new' ho98 (Kd.R_lt (Kd.pR aG.out))) (Kd.R_lt (Kd.pR ay.out))) (below_size (pB HB.out)))
                                       have n8_ := Aside0.mk (Kd.C_below (Kd.pC HR365.out) hb)
                                       have n9_ := Aside0.mk (Kd.C_below (Kd.pC HR372.out) hb)
                                       have n10_ := Aside0.mk (below_step (pB HB.out) hb)
                                       clear HO_10
                                       (try clear ak)
                                       (try clear aX)
                                       clear aG
                                       clear ay
                                       (try clear aa)
                                       (try clear ab)
                                       clear HR365
                                       clear HR372
                                       clear HB
                                       have HO_10 := n0_
                                       have aG := n3_
                                       have ay := n4_
                                       have ct := n5_
                                       have HR365 := n8_
                                       have HR372 := n9_
                                       have HB := n10_
                                       clear n0_ n3_ n4_ n5_ n8_ n9_ n10_
                                       clear hb ho98
                                       refine hK.out _ _ trivial (fun hHeld => ?_)
                                       clear hK K
                                       refine norm_ (a' := ?_) ?_ ?_
                                       rotate_left
                                       ·show Act.put _ (some 222) _ = _
                                        simp only [Act.put, List.setIfInBounds_toArray, List.set_cons_zero, List.set_cons_succ, i64_w, i32_w]
                                        rfl
                                       refine one_ (i := 6) (N := some 226) #[true, true, true, true, true, true, true, true, true, true, true, false, true, false, false, false] rfl rfl (one_of HT_.out (by kernel_rfl)) (by decide) (fun K hK => ?_)
                                       refine Kd.R_append_rows_step (Kd.int .i64) (w0 := w) w.heap.size (by rfl) (.tmp 222) (.tmp 225) 33 2 (.int .i64 0) 8 rfl Try.underlying33 info2 rfl (by decide) (by omega) dS am ai _ _ _ (fun k_ => some k_ ≠ (.slice bv aE.length bo : Value).ownBlock ∧ some k_ ≠ (.slice (some ad358) ae.length bf : Value).ownBlock) (fun _ => False) rfl rfl ?aO ?aR (fun _ _ h => h) (fun _ h => h.elim) ?aF ?aB ?aS ?aL ?_
                                       (case aR => exact Kd.pC HR365.out)
                                       (case aB => exact (pB HB.out))
                                       (case aF => exact (fun k_ hk => ⟨Kd.fresh' (Kd.R_lt (Kd.pR aG.out)) k_ hk, Kd.fresh' (Kd.R_lt (Kd.pR ay.out)) k_ hk⟩))
                                       (case aO => exact (Kd.pR (Kd.R_mono ct.out (fun _ hk => ⟨hk.1.2, hk.2⟩))))
                                       (case aS => exact (below_size (pB HB.out)))
                                       (case aL => have := dt.out; omega)
                                       intro dT w99 ho hb hg hat
                                       rw [← du.out] at ho
                                       have n0_ := Aside0.mk (Kd.R_over' (Kd.pR HO_10.out) (Kd.R_typed (Kd.pR ct.out)) (by decide) hg)
                                       have n5_ := Aside0.mk (Kd.R_after (ok := (fun k_ => some k_ ≠ (.slice (some ad358) ae.length bf : Value).ownBlock)) (Kd.pR (Kd.R_mono aG.out (fun _ hk => ⟨hk.1.2, hk.2⟩))) hg hat)
                                       have n6_ := Aside0.mk (Kd.R_after (ok := (fun k_ => some k_ ≠ (.slice bv aE.length bo : Value).ownBlock)) (Kd.pR (Kd.R_mono ay.out (fun _ hk => ⟨hk.1.2, hk.2⟩))) hg hat)
                                       have n7_ := Aside0.mk (hb)
                                       have n8_ := Aside0.mk ((show Kd.C (Kd.int .i64) w99 (some ad358) ai.length ai from by rw [cb.out]; exact Kd.C_take (m := (a3 : Int).toNat) ((Kd.R_reads' (Kd.R_after (ok := (fun k_ => some k_ ≠ (.slice bv aE.length bo : Value).ownBlock)) (Kd.pR (Kd.R_mono ay.out (fun _ hk => ⟨hk.1.2, hk.2⟩))) hg hat)).2.2) KL95.out))
                                       have n9_ := Aside0.mk ((show Kd.C (Kd.int .i64) w99 A96 ac.length ac from by rw [cc.out, KA96.out]; exact Kd.C_drop (m := ((ji62) : Int).toNat) (c := bf) ((Kd.R_reads' (Kd.R_after (ok := (fun k_ => some k_ ≠ (.slice bv aE.length bo : Value).ownBlock)) (Kd.pR (Kd.R_mono ay.out (fun _ hk => ⟨hk.1.2, hk.2⟩))) hg hat)).2.2) KL96.out ((Kd.R_reads' (Kd.R_after (ok := (fun k_ => some k_ ≠ (.slice bv aE.length bo : Value).ownBlock)) (Kd.pR (Kd.R_mono ay.out (fun _ hk => ⟨hk.1.2, hk.2⟩))) hg hat)).2.1)))
                                       have n10_ := Aside0.mk (ho)
                                       clear HO_10
                                       (try clear aa)
                                       (try clear ab)
                                       (try clear ak)
                                       (try clear aX)
                                       clear aG
                                       clear ay
                                       clear HB
                                       clear HR365
                                       clear HR372
                                       (try clear ct)
                                       have HO_10 := n0_
                                       have aG := n5_
                                       have ay := n6_
                                       have HB := n7_
                                       have HR365 := n8_
                                       have HR372 := n9_
                                       have cu := n10_
                                       clear n0_ n5_ n6_ n7_ n8_ n9_ n10_
                                       clear ho hb hg hat
                                       refine hK.out _ _ trivial (fun hHeld => ?_)
                                       clear hK K
                                       refine norm_ (a' := ?_) ?_ ?_
                                       rotate_left
                                       ·show Act.put _ (some 226) _ = _
                                        simp only [Act.put, List.setIfInBounds_toArray, List.set_cons_zero, List.set_cons_succ, i64_w, i32_w]
                                        rfl
                                       refine one_ (i := 11) (N := some 231) #[true, true, true, true, true, true, true, true, true, true, true, true, true, false, false, false] rfl rfl (one_of HT_.out (by kernel_rfl)) (by decide) (fun K hK => ?_)
                                       refine Kd.R_append_rows_step (Kd.int .i64) (w0 := w) w.heap.size (by rfl) (.tmp 226) (.tmp 230) 33 2 (.int .i64 0) 8 rfl Try.underlying33 info2 rfl (by decide) (by omega) dT ag ac _ _ _ (fun k_ => some k_ ≠ (.slice bv aE.length bo : Value).ownBlock ∧ some k_ ≠ (.slice (some ad358) ae.length bf : Value).ownBlock) (fun _ => False) rfl rfl ?aO ?aR (fun _ _ h => h) (fun _ h => h.elim) ?aF ?aB ?aS ?aL ?_
                                       (case aR => exact Kd.pC HR372.out)
                                       (case aB => exact (pB HB.out))
                                       (case aF => exact (fun k_ hk => ⟨Kd.fresh' (Kd.R_lt (Kd.pR aG.out)) k_ hk, Kd.fresh' (Kd.R_lt (Kd.pR ay.out)) k_ hk⟩))
                                       (case aO => exact (Kd.pR cu.out))
                                       (case aS => exact (below_size (pB HB.out)))
                                       (case aL => have := dv.out; omega)
                                       intro ev c5 ho hb hg hat
                                       rw [← dw.out] at ho
                                       have n0_ := Aside0.mk (Kd.R_over' (Kd.pR HO_10.out) (Kd.R_typed (Kd.pR cu.out)) (by decide) hg)
                                       have n5_ := Aside0.mk (Kd.R_after (ok := (fun k_ => some k_ ≠ (.slice (some ad358) ae.length bf : Value).ownBlock)) (Kd.pR aG.out) hg hat)
                                       have n7_ := Aside0.mk (hb)
                                       have n8_ := Aside0.mk ((show Kd.C (Kd.int .i64) c5 (some ad358) ai.length ai from by rw [cb.out]; exact Kd.C_take (m := (a3 : Int).toNat) ((Kd.R_reads' (Kd.R_after (ok := (fun k_ => some k_ ≠ (.slice bv aE.length bo : Value).ownBlock)) (Kd.pR ay.out) hg hat)).2.2) KL95.out))
                                       have n9_ := Aside0.mk ((show Kd.C (Kd.int .i64) c5 A96 ac.length ac from by rw [cc.out, KA96.out]; exact Kd.C_drop (m := ((ji62) : Int).toNat) (c := bf) ((Kd.R_reads' (Kd.R_after (ok := (fun k_ => some k_ ≠ (.slice bv aE.length bo : Value).ownBlock)) (Kd.pR ay.out) hg hat)).2.2) KL96.out ((Kd.R_reads' (Kd.R_after (ok := (fun k_ => some k_ ≠ (.slice bv aE.length bo : Value).ownBlock)) (Kd.pR ay.out) hg hat)).2.1)))
                                       have n10_ := Aside0.mk (ho)
                                       clear HO_10
                                       (try clear aa)
                                       (try clear ab)
                                       (try clear ak)
                                       (try clear aX)
                                       clear aG
                                       (try clear ay)
                                       clear HB
                                       clear HR365
                                       clear HR372
                                       (try clear cu)
                                       have HO_10 := n0_
                                       have aG := n5_
                                       have HB := n7_
                                       have HR365 := n8_
                                       have HR372 := n9_
                                       have cv := n10_
                                       clear n0_ n5_ n7_ n8_ n9_ n10_
                                       clear ho hb hg hat
                                       obtain ⟨en, dz, cI⟩ := Kd.R_slice cv.out
                                       (first | subst cI | (injection cI with f1_ f2_ f3_; have f4_ := f1_.symm; have f5_ := f3_.symm; clear f1_ f2_ f3_; subst f4_; subst f5_))
                                       refine hK.out _ _ trivial (fun hHeld => ?_)
                                       clear hK K
                                       refine norm_ (a' := ?_) ?_ ?_
                                       rotate_left
                                       ·show Act.put _ (some 231) _ = _
                                        simp only [Act.put, List.setIfInBounds_toArray, List.set_cons_zero, List.set_cons_succ, i64_w, i32_w]
                                        rfl
                                       refine one_ (i := 13) (N := some 233) #[true, true, true, true, true, true, true, true, true, true, true, true, true, true, false, false] rfl rfl (one_of HT_.out (by kernel_rfl)) (by decide) (fun K hK => ?_)
                                       refine goes_ Try.func14 (by kernel_rfl) rfl #[.slice en cY.length dz, .slice bv aE.length bo] (by rfl) rfl rfl (by (try simp only [List.map_toArray, List.map_cons, List.map_nil]); first | done | rfl | (simp only [List.length_drop, List.length_take]; rfl)) ?_
                                       with_reducible refine (spigotref36_Same.calls k1 _ _ cY _ _ aE aq _ ?side1 ?side2 ?side3 ?side4 A66.out).mono ?_
                                       (case side1 => exact Kd.pC ((Kd.R_reads' cv.out).2.2))
                                       (case side2 => exact (Kd.R_reads' cv.out).2.1)
                                       (case side3 => exact Kd.pC ((Kd.R_reads' aG.out).2.2))
                                       (case side4 => exact (Kd.R_reads' aG.out).2.1)
                                       rintro e w' ⟨rfl, ⟨nd, rfl⟩⟩
                                       refine ⟨_, rfl, ?_⟩
                                       refine hK.out _ _ trivial (fun hHeld => ?_)
                                       clear hK K
                                       refine norm_ (a' := ?_) ?_ ?_
                                       rotate_left
                                       ·show Act.put _ (some 233) _ = _
                                        simp only [Act.put, List.setIfInBounds_toArray, List.set_cons_zero, List.set_cons_succ, i64_w, i32_w]
                                        rfl
                                       refine pure_ (i := 14) (N := some 234) (v := ?_) (a' := ?_) #[true, true, true, true, true, true, true, true, true, true, true, true, true, true, true, false] rfl rfl (any_of HT_.out (by kernel_rfl)) (fun _ _ _ h => h) (Or.inl ⟨by rfl, ?_⟩) ?_ ?_
                                       rotate_left
                                       ·intro w'
                                        go_simp
                                        with_reducible rfl
                                       rotate_left
                                       ·simp only [Act.put, List.setIfInBounds_toArray, List.set_cons_zero, List.set_cons_succ, i64_w, i32_w]
                                        rfl
                                       refine pure_ (i := 15) (N := some 8) (v := ?_) (a' := ?_) #[true, true, true, true, true, true, true, true, true, true, true, true, true, true, true, true] rfl rfl (any_of HT_.out (by kernel_rfl)) (fun _ _ _ h => h) (Or.inl ⟨by rfl, ?_⟩) ?_ ?_
                                       rotate_left
                                       ·intro w'
                                        go_simp
                                        with_reducible rfl
                                       rotate_left
                                       ·simp only [Act.put, List.setIfInBounds_toArray, List.set_cons_zero, List.set_cons_succ, i64_w, i32_w]
                                        rfl
                                       refine done_ (done_of HT_.out (by kernel_rfl)) ?_
                                       try go_wp2
                                       go_ret
                                       exact ⟨by first | rfl | (simp [errW_none, errW_some] <;> rfl) | (simp only [← hji62]; first | rfl | (simp [errW_none, errW_some] <;> rfl)) | (simp [*, errW_none, errW_some] <;> rfl) | (rw [HRT.out] <;> rfl) | (simp [HRT.out]; done) | (have h_ := HRT.out; simp [*] at h_ ⊢ <;> first | done | assumption | omega) | (have h_ := HRT.out; simp [*] at h_; done), pB HB.out⟩
                                      ·rw [if_neg c65] at H
                                       exact absurd H (by simp)
                                     ·rw [if_neg c64] at H
                                      exact absurd H (by simp)
                                    ·rw [if_neg c63] at H
                                     exact absurd H (by simp)
                                   ·rw [if_neg c61] at H
                                    exact absurd H (by simp)
                                  ·rw [if_neg c60] at H
                                   exact absurd H (by simp)
                                 ·rw [if_neg c58] at H
                                  have c58b0 : ((rd ae a3) == 0) = false := beq_eq_false_iff_ne.mpr c58
                                  have c58b1 : ((rd ae a3) != 0) = true := bne_iff_ne.mpr c58
                                  exact absurd H (by simp)
                                ·rw [if_neg c57] at H
                                 exact absurd H (by simp)
                               ·rw [if_neg c56] at H
                                have c56b0 : ((ae.length : Int) == (ao.length : Int)) = false := beq_eq_false_iff_ne.mpr c56
                                have c56b1 : ((ae.length : Int) != (ao.length : Int)) = true := bne_iff_ne.mpr c56
                                have c56b2 : (ae.length == ao.length) = false := by first | simpa using c56 | (simp at c56 ⊢; omega)
                                exact absurd H (by simp)
                              ·rw [if_neg c55] at H
                               have c55b0 : ((aE.length : Int) == (l0.length : Int)) = false := beq_eq_false_iff_ne.mpr c55
                               have c55b1 : ((aE.length : Int) != (l0.length : Int)) = true := bne_iff_ne.mpr c55
                               have c55b2 : (aE.length == l0.length) = false := by first | simpa using c55 | (simp at c55 ⊢; omega)
                               exact absurd H (by simp)
                             ·rw [if_neg c54] at H
                              have c54b0 : (bE == 0) = false := beq_eq_false_iff_ne.mpr c54
                              have c54b1 : (bE != 0) = true := bne_iff_ne.mpr c54
                              exact absurd H (by simp)
                            ·rw [if_neg c53] at H
                             have c53b0 : (bz == 0) = false := beq_eq_false_iff_ne.mpr c53
                             have c53b1 : (bz != 0) = true := bne_iff_ne.mpr c53
                             exact absurd H (by simp)
                           ·rw [if_neg c50] at H
                            exact absurd H (by simp)
                          ·rw [if_neg c47] at H
                           exact absurd H (by simp)
                         ·rw [if_neg c46] at H
                          exact absurd H (by simp)
                        ·rw [if_neg c45] at H
                         exact absurd H (by simp)
                       ·rw [if_neg c44] at H
                        exact absurd H (by simp)
                      ·rw [if_neg c43] at H
                       have c43b0 : ((wrap64 (au * aC)) == (wrap64 ((wrap64 (a2 * aA)) * av))) = false := beq_eq_false_iff_ne.mpr c43
                       have c43b1 : ((wrap64 (au * aC)) != (wrap64 ((wrap64 (a2 * aA)) * av))) = true := bne_iff_ne.mpr c43
                       exact absurd H (by simp)
             ·rw [if_neg c34] at H
              have c34b0 : (aT == 0) = false := beq_eq_false_iff_ne.mpr c34
              have c34b1 : (aT != 0) = true := bne_iff_ne.mpr c34
              by_cases c102 : aT = 6
              ·rw [if_pos c102] at H
               have c102b0 : (aT == 6) = true := beq_iff_eq.mpr c102
               have c102b1 : (aT != 6) = false := bne_eq_false_iff_eq.mpr c102
               clear c102
               obtain ⟨bc, bW⟩ : ∃ y_ : List (S37), y_ = (([] : List (S37))) := ⟨_, rfl⟩
               replace H : (if 0 ≤ a3 then (if a3 ≤ (l0.length : Int) then ((some (l0.take (a3 : Int).toNat : List (S37))).bind fun a5 => (if bc.length + a5.length < 8796093022208 then ((some (bc ++ a5 : List (S37))).bind fun aQ => ((some (([(⟨0, 5⟩ : S37)] : List (S37)) : List (S37))).bind fun aK => (if aQ.length + aK.length < 8796093022208 then ((some (aQ ++ aK : List (S37))).bind fun aN => ((some (l0.drop (a3 : Int).toNat : List (S37))).bind fun ax => (if aN.length + ax.length < 8796093022208 then ((some (aN ++ ax : List (S37))).bind fun ap => ((share_Split.f k1 l0 a1).bind fun bt400 => ((share_Split.f k1 ap a1).bind fun bt404 => (if bt400.2 = 0 then (if bt404.2 = 0 then (if (bt400.1.length : Int) = (l0.length : Int) then (if (bt404.1.length : Int) = (ap.length : Int) then (if a3 < (bt404.1.length : Int) then (if (rd bt404.1 a3) = 0 then (if true = true then ((some (([] : List Int) : List Int)).bind fun an => (if a3 ≤ (bt404.1.length : Int) then ((some (bt404.1.take (a3 : Int).toNat : List Int)).bind fun aj => (if an.length + aj.length < 17592186044416 then ((some (an ++ aj : List Int)).bind fun ah => (if 0 ≤ (wrap64 (a3 + 1)) then (if (wrap64 (a3 + 1)) ≤ (bt404.1.length : Int) then ((some (bt404.1.drop ((wrap64 (a3 + 1)) : Int).toNat : List Int)).bind fun ad => (if ah.length + ad.length < 17592186044416 then ((spigotref36_Same.f k1 (ah ++ ad) bt400.1).bind fun ar => (some ar)) else (none))) else (none)) else (none))) else (none))) else (none))) else (some false)) else (some false)) else (none)) else (some false)) else (some false)) else (some false)) else (some false))))) else (none)))) else (none)))) else (none))) else (none)) else (none)) = some true := by first | (rw [bW]; with_reducible exact H) | (have H2_ := (Option.bind_some _ _).symm.trans H; rw [bW]; with_reducible exact H2_) | (have H2_ := (Option.bind_some _ _).symm.trans H; with_reducible exact H2_) | with_reducible exact H | (rw [bW]; exact H) | exact H
               have ce := Aside0.mk bW
               (try clear bW)
               by_cases c103 : 0 ≤ a3
               ·rw [if_pos c103] at H
                have c103b0 := eq_true c103
                have c103b1 : decide (0 ≤ a3) = true := decide_eq_true c103
                clear c103
                by_cases c104 : a3 ≤ (l0.length : Int)
                ·rw [if_pos c104] at H
                 have c104b0 := eq_true c104
                 have c104b1 : decide (a3 ≤ (l0.length : Int)) = true := decide_eq_true c104
                 clear c104
                 obtain ⟨a5, bX⟩ : ∃ y_ : List (S37), y_ = (l0.take (a3 : Int).toNat) := ⟨_, rfl⟩
                 replace H : (if bc.length + a5.length < 8796093022208 then ((some (bc ++ a5 : List (S37))).bind fun aQ => ((some (([(⟨0, 5⟩ : S37)] : List (S37)) : List (S37))).bind fun aK => (if aQ.length + aK.length < 8796093022208 then ((some (aQ ++ aK : List (S37))).bind fun aN => ((some (l0.drop (a3 : Int).toNat : List (S37))).bind fun ax => (if aN.length + ax.length < 8796093022208 then ((some (aN ++ ax : List (S37))).bind fun ap => ((share_Split.f k1 l0 a1).bind fun bt400 => ((share_Split.f k1 ap a1).bind fun bt404 => (if bt400.2 = 0 then (if bt404.2 = 0 then (if (bt400.1.length : Int) = (l0.length : Int) then (if (bt404.1.length : Int) = (ap.length : Int) then (if a3 < (bt404.1.length : Int) then (if (rd bt404.1 a3) = 0 then (if true = true then ((some (([] : List Int) : List Int)).bind fun an => (if a3 ≤ (bt404.1.length : Int) then ((some (bt404.1.take (a3 : Int).toNat : List Int)).bind fun aj => (if an.length + aj.length < 17592186044416 then ((some (an ++ aj : List Int)).bind fun ah => (if 0 ≤ (wrap64 (a3 + 1)) then (if (wrap64 (a3 + 1)) ≤ (bt404.1.length : Int) then ((some (bt404.1.drop ((wrap64 (a3 + 1)) : Int).toNat : List Int)).bind fun ad => (if ah.length + ad.length < 17592186044416 then ((spigotref36_Same.f k1 (ah ++ ad) bt400.1).bind fun ar => (some ar)) else (none))) else (none)) else (none))) else (none))) else (none))) else (some false)) else (some false)) else (none)) else (some false)) else (some false)) else (some false)) else (some false))))) else (none)))) else (none)))) else (none)) = some true := by first | (rw [bX]; with_reducible exact H) | (have H2_ := (Option.bind_some _ _).symm.trans H; rw [bX]; with_reducible exact H2_) | (have H2_ := (Option.bind_some _ _).symm.trans H; with_reducible exact H2_) | with_reducible exact H | (rw [bX]; exact H) | exact H
                 have cJ := Aside0.mk bX
                 (try clear bX)
                 by_cases c105 : bc.length + a5.length < 8796093022208
                 ·rw [if_pos c105] at H
                  have cl := Aside0.mk c105
                  clear c105
                  obtain ⟨aQ, bY⟩ : ∃ y_ : List (S37), y_ = (bc ++ a5) := ⟨_, rfl⟩
                  replace H : ((some (([(⟨0, 5⟩ : S37)] : List (S37)) : List (S37))).bind fun aK => (if aQ.length + aK.length < 8796093022208 then ((some (aQ ++ aK : List (S37))).bind fun aN => ((some (l0.drop (a3 : Int).toNat : List (S37))).bind fun ax => (if aN.length + ax.length < 8796093022208 then ((some (aN ++ ax : List (S37))).bind fun ap => ((share_Split.f k1 l0 a1).bind fun bt400 => ((share_Split.f k1 ap a1).bind fun bt404 => (if bt400.2 = 0 then (if bt404.2 = 0 then (if (bt400.1.length : Int) = (l0.length : Int) then (if (bt404.1.length : Int) = (ap.length : Int) then (if a3 < (bt404.1.length : Int) then (if (rd bt404.1 a3) = 0 then (if true = true then ((some (([] : List Int) : List Int)).bind fun an => (if a3 ≤ (bt404.1.length : Int) then ((some (bt404.1.take (a3 : Int).toNat : List Int)).bind fun aj => (if an.length + aj.length < 17592186044416 then ((some (an ++ aj : List Int)).bind fun ah => (if 0 ≤ (wrap64 (a3 + 1)) then (if (wrap64 (a3 + 1)) ≤ (bt404.1.length : Int) then ((some (bt404.1.drop ((wrap64 (a3 + 1)) : Int).toNat : List Int)).bind fun ad => (if ah.length + ad.length < 17592186044416 then ((spigotref36_Same.f k1 (ah ++ ad) bt400.1).bind fun ar => (some ar)) else (none))) else (none)) else (none))) else (none))) else (none))) else (some false)) else (some false)) else (none)) else (some false)) else (some false)) else (some false)) else (some false))))) else (none)))) else (none))) = some true := by first | (rw [bY]; with_reducible exact H) | (have H2_ := (Option.bind_some _ _).symm.trans H; rw [bY]; with_reducible exact H2_) | (have H2_ := (Option.bind_some _ _).symm.trans H; with_reducible exact H2_) | with_reducible exact H | (rw [bY]; exact H) | exact H
                  have cw := Aside0.mk bY
                  (try clear bY)
                  obtain ⟨aK, bZ⟩ : ∃ y_ : List (S37), y_ = (([(⟨0, 5⟩ : S37)] : List (S37))) := ⟨_, rfl⟩
                  replace H : (if aQ.length + aK.length < 8796093022208 then ((some (aQ ++ aK : List (S37))).bind fun aN => ((some (l0.drop (a3 : Int).toNat : List (S37))).bind fun ax => (if aN.length + ax.length < 8796093022208 then ((some (aN ++ ax : List (S37))).bind fun ap => ((share_Split.f k1 l0 a1).bind fun bt400 => ((share_Split.f k1 ap a1).bind fun bt404 => (if bt400.2 = 0 then (if bt404.2 = 0 then (if (bt400.1.length : Int) = (l0.length : Int) then (if (bt404.1.length : Int) = (ap.length : Int) then (if a3 < (bt404.1.length : Int) then (if (rd bt404.1 a3) = 0 then (if true = true then ((some (([] : List Int) : List Int)).bind fun an => (if a3 ≤ (bt404.1.length : Int) then ((some (bt404.1.take (a3 : Int).toNat : List Int)).bind fun aj => (if an.length + aj.length < 17592186044416 then ((some (an ++ aj : List Int)).bind fun ah => (if 0 ≤ (wrap64 (a3 + 1)) then (if (wrap64 (a3 + 1)) ≤ (bt404.1.length : Int) then ((some (bt404.1.drop ((wrap64 (a3 + 1)) : Int).toNat : List Int)).bind fun ad => (if ah.length + ad.length < 17592186044416 then ((spigotref36_Same.f k1 (ah ++ ad) bt400.1).bind fun ar => (some ar)) else (none))) else (none)) else (none))) else (none))) else (none))) else (some false)) else (some false)) else (none)) else (some false)) else (some false)) else (some false)) else (some false))))) else (none)))) else (none)) = some true := by first | (rw [bZ]; with_reducible exact H) | (have H2_ := (Option.bind_some _ _).symm.trans H; rw [bZ]; with_reducible exact H2_) | (have H2_ := (Option.bind_some _ _).symm.trans H; with_reducible exact H2_) | with_reducible exact H | (rw [bZ]; exact H) | exact H
                  have bD := Aside0.mk bZ
                  (try clear bZ)
                  by_cases c106 : aQ.length + aK.length < 8796093022208
                  ·rw [if_pos c106] at H
                   have c8 := Aside0.mk c106
                   clear c106
                   obtain ⟨aN, b0⟩ : ∃ y_ : List (S37), y_ = (aQ ++ aK) := ⟨_, rfl⟩
                   replace H : ((some (l0.drop (a3 : Int).toNat : List (S37))).bind fun ax => (if aN.length + ax.length < 8796093022208 then ((some (aN ++ ax : List (S37))).bind fun ap => ((share_Split.f k1 l0 a1).bind fun bt400 => ((share_Split.f k1 ap a1).bind fun bt404 => (if bt400.2 = 0 then (if bt404.2 = 0 then (if (bt400.1.length : Int) = (l0.length : Int) then (if (bt404.1.length : Int) = (ap.length : Int) then (if a3 < (bt404.1.length : Int) then (if (rd bt404.1 a3) = 0 then (if true = true then ((some (([] : List Int) : List Int)).bind fun an => (if a3 ≤ (bt404.1.length : Int) then ((some (bt404.1.take (a3 : Int).toNat : List Int)).bind fun aj => (if an.length + aj.length < 17592186044416 then ((some (an ++ aj : List Int)).bind fun ah => (if 0 ≤ (wrap64 (a3 + 1)) then (if (wrap64 (a3 + 1)) ≤ (bt404.1.length : Int) then ((some (bt404.1.drop ((wrap64 (a3 + 1)) : Int).toNat : List Int)).bind fun ad => (if ah.length + ad.length < 17592186044416 then ((spigotref36_Same.f k1 (ah ++ ad) bt400.1).bind fun ar => (some ar)) else (none))) else (none)) else (none))) else (none))) else (none))) else (some false)) else (some false)) else (none)) else (some false)) else (some false)) else (some false)) else (some false))))) else (none))) = some true := by first | (rw [b0]; with_reducible exact H) | (have H2_ := (Option.bind_some _ _).symm.trans H; rw [b0]; with_reducible exact H2_) | (have H2_ := (Option.bind_some _ _).symm.trans H; with_reducible exact H2_) | with_reducible exact H | (rw [b0]; exact H) | exact H
                   have dA := Aside0.mk b0
                   (try clear b0)
                   have c107b0 := eq_true (od : 0 ≤ a3)
                   have c108b0 := eq_true (od : a3 ≤ (l0.length : Int))
                   obtain ⟨ax, b1⟩ : ∃ y_ : List (S37), y_ = (l0.drop (a3 : Int).toNat) := ⟨_, rfl⟩
                   replace H : (if aN.length + ax.length < 8796093022208 then ((some (aN ++ ax : List (S37))).bind fun ap => ((share_Split.f k1 l0 a1).bind fun bt400 => ((share_Split.f k1 ap a1).bind fun bt404 => (if bt400.2 = 0 then (if bt404.2 = 0 then (if (bt400.1.length : Int) = (l0.length : Int) then (if (bt404.1.length : Int) = (ap.length : Int) then (if a3 < (bt404.1.length : Int) then (if (rd bt404.1 a3) = 0 then (if true = true then ((some (([] : List Int) : List Int)).bind fun an => (if a3 ≤ (bt404.1.length : Int) then ((some (bt404.1.take (a3 : Int).toNat : List Int)).bind fun aj => (if an.length + aj.length < 17592186044416 then ((some (an ++ aj : List Int)).bind fun ah => (if 0 ≤ (wrap64 (a3 + 1)) then (if (wrap64 (a3 + 1)) ≤ (bt404.1.length : Int) then ((some (bt404.1.drop ((wrap64 (a3 + 1)) : Int).toNat : List Int)).bind fun ad => (if ah.length + ad.length < 17592186044416 then ((spigotref36_Same.f k1 (ah ++ ad) bt400.1).bind fun ar => (some ar)) else (none))) else (none)) else (none))) else (none))) else (none))) else (some false)) else (some false)) else (none)) else (some false)) else (some false)) else (some false)) else (some false))))) else (none)) = some true := by first | (rw [b1]; with_reducible exact H) | (have H2_ := (Option.bind_some _ _).symm.trans H; rw [b1]; with_reducible exact H2_) | (have H2_ := (Option.bind_some _ _).symm.trans H; with_reducible exact H2_) | with_reducible exact H | (rw [b1]; exact H) | exact H
                   have cK := Aside0.mk b1
                   (try clear b1)
                   by_cases c109 : aN.length + ax.length < 8796093022208
                   ·rw [if_pos c109] at H
                    have da := Aside0.mk c109
                    clear c109
                    obtain ⟨ap, b2⟩ : ∃ y_ : List (S37), y_ = (aN ++ ax) := ⟨_, rfl⟩
                    replace H : ((share_Split.f k1 l0 a1).bind fun bt400 => ((share_Split.f k1 ap a1).bind fun bt404 => (if bt400.2 = 0 then (if bt404.2 = 0 then (if (bt400.1.length : Int) = (l0.length : Int) then (if (bt404.1.length : Int) = (ap.length : Int) then (if a3 < (bt404.1.length : Int) then (if (rd bt404.1 a3) = 0 then (if true = true then ((some (([] : List Int) : List Int)).bind fun an => (if a3 ≤ (bt404.1.length : Int) then ((some (bt404.1.take (a3 : Int).toNat : List Int)).bind fun aj => (if an.length + aj.length < 17592186044416 then ((some (an ++ aj : List Int)).bind fun ah => (if 0 ≤ (wrap64 (a3 + 1)) then (if (wrap64 (a3 + 1)) ≤ (bt404.1.length : Int) then ((some (bt404.1.drop ((wrap64 (a3 + 1)) : Int).toNat : List Int)).bind fun ad => (if ah.length + ad.length < 17592186044416 then ((spigotref36_Same.f k1 (ah ++ ad) bt400.1).bind fun ar => (some ar)) else (none))) else (none)) else (none))) else (none))) else (none))) else (some false)) else (some false)) else (none)) else (some false)) else (some false)) else (some false)) else (some false)))) = some true := by first | (rw [b2]; with_reducible exact H) | (have H2_ := (Option.bind_some _ _).symm.trans H; rw [b2]; with_reducible exact H2_) | (have H2_ := (Option.bind_some _ _).symm.trans H; with_reducible exact H2_) | with_reducible exact H | (rw [b2]; exact H) | exact H
                    have dB := Aside0.mk b2
                    (try clear b2)
                    replace H := Option.bind_eq_some_iff.mp H
                    obtain ⟨⟨aH, bB⟩, cL, H⟩ := H
                    replace H : ((share_Split.f k1 ap a1).bind fun bt404 => (if bB = 0 then (if bt404.2 = 0 then (if (aH.length : Int) = (l0.length : Int) then (if (bt404.1.length : Int) = (ap.length : Int) then (if a3 < (bt404.1.length : Int) then (if (rd bt404.1 a3) = 0 then (if true = true then ((some (([] : List Int) : List Int)).bind fun an => (if a3 ≤ (bt404.1.length : Int) then ((some (bt404.1.take (a3 : Int).toNat : List Int)).bind fun aj => (if an.length + aj.length < 17592186044416 then ((some (an ++ aj : List Int)).bind fun ah => (if 0 ≤ (wrap64 (a3 + 1)) then (if (wrap64 (a3 + 1)) ≤ (bt404.1.length : Int) then ((some (bt404.1.drop ((wrap64 (a3 + 1)) : Int).toNat : List Int)).bind fun ad => (if ah.length + ad.length < 17592186044416 then ((spigotref36_Same.f k1 (ah ++ ad) aH).bind fun ar => (some ar)) else (none))) else (none)) else (none))) else (none))) else (none))) else (some false)) else (some false)) else (none)) else (some false)) else (some false)) else (some false)) else (some false))) = some true := H
                    have db := Aside0.mk cL
                    (try clear cL)
                    replace H := Option.bind_eq_some_iff.mp H
                    obtain ⟨⟨af, bG⟩, cM, H⟩ := H
                    replace H : (if bB = 0 then (if bG = 0 then (if (aH.length : Int) = (l0.length : Int) then (if (af.length : Int) = (ap.length : Int) then (if a3 < (af.length : Int) then (if (rd af a3) = 0 then (if true = true then ((some (([] : List Int) : List Int)).bind fun an => (if a3 ≤ (af.length : Int) then ((some (af.take (a3 : Int).toNat : List Int)).bind fun aj => (if an.length + aj.length < 17592186044416 then ((some (an ++ aj : List Int)).bind fun ah => (if 0 ≤ (wrap64 (a3 + 1)) then (if (wrap64 (a3 + 1)) ≤ (af.length : Int) then ((some (af.drop ((wrap64 (a3 + 1)) : Int).toNat : List Int)).bind fun ad => (if ah.length + ad.length < 17592186044416 then ((spigotref36_Same.f k1 (ah ++ ad) aH).bind fun ar => (some ar)) else (none))) else (none)) else (none))) else (none))) else (none))) else (some false)) else (some false)) else (none)) else (some false)) else (some false)) else (some false)) else (some false)) = some true := H
                    have dc := Aside0.mk cM
                    (try clear cM)
                    by_cases c112 : bB = 0
                    ·rw [if_pos c112] at H
                     have c112b0 : (bB == 0) = true := beq_iff_eq.mpr c112
                     have c112b1 : (bB != 0) = false := bne_eq_false_iff_eq.mpr c112
                     clear c112
                     by_cases c113 : bG = 0
                     ·rw [if_pos c113] at H
                      have c113b0 : (bG == 0) = true := beq_iff_eq.mpr c113
                      have c113b1 : (bG != 0) = false := bne_eq_false_iff_eq.mpr c113
                      clear c113
                      by_cases c114 : (aH.length : Int) = (l0.length : Int)
                      ·rw [if_pos c114] at H
                       have c114b0 : ((aH.length : Int) == (l0.length : Int)) = true := beq_iff_eq.mpr c114
                       have c114b1 : ((aH.length : Int) != (l0.length : Int)) = false := bne_eq_false_iff_eq.mpr c114
                       have c114b2 : (aH.length == l0.length) = true := by first | simpa using c114 | (simp at c114 ⊢; omega)
                       clear c114
                       by_cases c115 : (af.length : Int) = (ap.length : Int)
                       ·rw [if_pos c115] at H
                        have c115b0 : ((af.length : Int) == (ap.length : Int)) = true := beq_iff_eq.mpr c115
                        have c115b1 : ((af.length : Int) != (ap.length : Int)) = false := bne_eq_false_iff_eq.mpr c115
                        have c115b2 : (af.length == ap.length) = true := by first | simpa using c115 | (simp at c115 ⊢; omega)
                        clear c115
                        by_cases c116 : a3 < (af.length : Int)
                        ·rw [if_pos c116] at H
                         have c116b0 : decide (a3 < (af.length : Int)) = true := decide_eq_true c116
                         clear c116
                         by_cases c117 : (rd af a3) = 0
                         ·rw [if_pos c117] at H
                          have c117b0 : ((rd af a3) == 0) = true := beq_iff_eq.mpr c117
                          have c117b1 : ((rd af a3) != 0) = false := bne_eq_false_iff_eq.mpr c117
                          clear c117
                          replace H : ((some (([] : List Int) : List Int)).bind fun an => (if a3 ≤ (af.length : Int) then ((some (af.take (a3 : Int).toNat : List Int)).bind fun aj => (if an.length + aj.length < 17592186044416 then ((some (an ++ aj : List Int)).bind fun ah => (if 0 ≤ (wrap64 (a3 + 1)) then (if (wrap64 (a3 + 1)) ≤ (af.length : Int) then ((some (af.drop ((wrap64 (a3 + 1)) : Int).toNat : List Int)).bind fun ad => (if ah.length + ad.length < 17592186044416 then ((spigotref36_Same.f k1 (ah ++ ad) aH).bind fun ar => (some ar)) else (none))) else (none)) else (none))) else (none))) else (none))) = some true := by rw [if_pos rfl] at H; exact H
                          obtain ⟨an, b3⟩ : ∃ y_ : List Int, y_ = (([] : List Int)) := ⟨_, rfl⟩
                          replace H : (if a3 ≤ (af.length : Int) then ((some (af.take (a3 : Int).toNat : List Int)).bind fun aj => (if an.length + aj.length < 17592186044416 then ((some (an ++ aj : List Int)).bind fun ah => (if 0 ≤ (wrap64 (a3 + 1)) then (if (wrap64 (a3 + 1)) ≤ (af.length : Int) then ((some (af.drop ((wrap64 (a3 + 1)) : Int).toNat : List Int)).bind fun ad => (if ah.length + ad.length < 17592186044416 then ((spigotref36_Same.f k1 (ah ++ ad) aH).bind fun ar => (some ar)) else (none))) else (none)) else (none))) else (none))) else (none)) = some true := by first | (rw [b3]; with_reducible exact H) | (have H2_ := (Option.bind_some _ _).symm.trans H; rw [b3]; with_reducible exact H2_) | (have H2_ := (Option.bind_some _ _).symm.trans H; with_reducible exact H2_) | with_reducible exact H | (rw [b3]; exact H) | exact H
                          have cN := Aside0.mk b3
                          (try clear b3)
                          have c118b0 := eq_true (od : 0 ≤ a3)
                          by_cases c119 : a3 ≤ (af.length : Int)
                          ·rw [if_pos c119] at H
                           have c119b0 := eq_true c119
                           have c119b1 : decide (a3 ≤ (af.length : Int)) = true := decide_eq_true c119
                           clear c119
                           obtain ⟨aj, b4⟩ : ∃ y_ : List Int, y_ = (af.take (a3 : Int).toNat) := ⟨_, rfl⟩
                           replace H : (if an.length + aj.length < 17592186044416 then ((some (an ++ aj : List Int)).bind fun ah => (if 0 ≤ (wrap64 (a3 + 1)) then (if (wrap64 (a3 + 1)) ≤ (af.length : Int) then ((some (af.drop ((wrap64 (a3 + 1)) : Int).toNat : List Int)).bind fun ad => (if ah.length + ad.length < 17592186044416 then ((spigotref36_Same.f k1 (ah ++ ad) aH).bind fun ar => (some ar)) else (none))) else (none)) else (none))) else (none)) = some true := by first | (rw [b4]; with_reducible exact H) | (have H2_ := (Option.bind_some _ _).symm.trans H; rw [b4]; with_reducible exact H2_) | (have H2_ := (Option.bind_some _ _).symm.trans H; with_reducible exact H2_) | with_reducible exact H | (rw [b4]; exact H) | exact H
                           have cf := Aside0.mk b4
                           (try clear b4)
                           by_cases c120 : an.length + aj.length < 17592186044416
                           ·rw [if_pos c120] at H
                            have dd := Aside0.mk c120
                            clear c120
                            obtain ⟨ah, b5⟩ : ∃ y_ : List Int, y_ = (an ++ aj) := ⟨_, rfl⟩
                            replace H : (if 0 ≤ (wrap64 (a3 + 1)) then (if (wrap64 (a3 + 1)) ≤ (af.length : Int) then ((some (af.drop ((wrap64 (a3 + 1)) : Int).toNat : List Int)).bind fun ad => (if ah.length + ad.length < 17592186044416 then ((spigotref36_Same.f k1 (ah ++ ad) aH).bind fun ar => (some ar)) else (none))) else (none)) else (none)) = some true := by first | (rw [b5]; with_reducible exact H) | (have H2_ := (Option.bind_some _ _).symm.trans H; rw [b5]; with_reducible exact H2_) | (have H2_ := (Option.bind_some _ _).symm.trans H; with_reducible exact H2_) | with_reducible exact H | (rw [b5]; exact H) | exact H
                            have dC := Aside0.mk b5
                            (try clear b5)
                            obtain ⟨ji121, hji121⟩ : ∃ j_ : Int, (wrap64 (a3 + 1)) = j_ := ⟨_, rfl⟩
                            replace H : (if 0 ≤ (ji121) then (if (ji121) ≤ (af.length : Int) then ((some (af.drop ((ji121) : Int).toNat : List Int)).bind fun ad => (if ah.length + ad.length < 17592186044416 then ((spigotref36_Same.f k1 (ah ++ ad) aH).bind fun ar => (some ar)) else (none))) else (none)) else (none)) = some true := by first | (rw [hji121] at H; exact H) | (simp only [hji121] at H ⊢; exact H)
                            (try rw [hji121] at A31)
                            (try rw [hji121] at A32)
                            (try rw [hji121] at db)
                            (try rw [hji121] at dc)
                            have hji121w : (IntKind.i64.wrap (a3 + 1)) = ji121 := (i64_w _).trans hji121
                            by_cases c122 : 0 ≤ (ji121)
                            ·rw [if_pos c122] at H
                             have c122b0 := eq_true c122
                             have c122b1 : decide (0 ≤ (ji121)) = true := decide_eq_true c122
                             clear c122
                             by_cases c123 : (ji121) ≤ (af.length : Int)
                             ·rw [if_pos c123] at H
                              have c123b0 := eq_true c123
                              have c123b1 : decide ((ji121) ≤ (af.length : Int)) = true := decide_eq_true c123
                              clear c123
                              obtain ⟨ad, b6⟩ : ∃ y_ : List Int, y_ = (af.drop ((ji121) : Int).toNat) := ⟨_, rfl⟩
                              replace H : (if ah.length + ad.length < 17592186044416 then ((spigotref36_Same.f k1 (ah ++ ad) aH).bind fun ar => (some ar)) else (none)) = some true := by first | (rw [b6]; with_reducible exact H) | (have H2_ := (Option.bind_some _ _).symm.trans H; rw [b6]; with_reducible exact H2_) | (have H2_ := (Option.bind_some _ _).symm.trans H; with_reducible exact H2_) | with_reducible exact H | (rw [b6]; exact H) | exact H
                              have cg := Aside0.mk b6
                              (try clear b6)
                              by_cases c124 : ah.length + ad.length < 17592186044416
                              ·rw [if_pos c124] at H
                               have de := Aside0.mk c124
                               clear c124
                               obtain ⟨df, b7⟩ : ∃ y_ : List Int, y_ = (ah ++ ad) := ⟨_, rfl⟩
                               replace H : ((spigotref36_Same.f k1 df aH).bind fun ar => (some ar)) = some true := by first | (rw [b7]; with_reducible exact H) | (have H2_ := (Option.bind_some _ _).symm.trans H; rw [b7]; with_reducible exact H2_) | (have H2_ := (Option.bind_some _ _).symm.trans H; with_reducible exact H2_) | with_reducible exact H | (rw [b7]; exact H) | exact H
                               have dD := Aside0.mk b7
                               (try clear b7)
                               replace H := Option.bind_eq_some_iff.mp H
                               obtain ⟨ar, cO, H⟩ := H
                               replace H : (some ar) = some true := H
                               have dU := Aside0.mk cO
                               (try clear cO)
                               have HRT := Aside0.mk (Option.some.inj H)
                               clear H
                               try go_wp2_with (first | ((with_reducible refine gate_callee (f := 11) rfl ?_); refine goesE (some 90) rfl rfl Try.func11 (by kernel_rfl) rfl #[.slice A0 l0.length c0, .int .i64 a1] rfl ?_; (with_reducible refine (share_Level.calls k1 _ _ l0 a1 aA aC aT _ ?side1 ?side2 A31.out).mono ?_); (case side1 => exact Kd.pC ((Kd.C_below HR0.out HB.out))); (case side2 => exact HC0.out); rintro e ew ⟨rfl, hb⟩; refine ⟨_, rfl, ?_⟩; have n0_ := Rb1 HO_10 hb; have n1_ := Aside0.mk (below_step (pB HB.out) hb); clear HO_10; clear HB; have HO_10 := n0_; have HB := n1_; clear n0_ n1_; (try clear hb); (try clear hb2); (try clear hk); (try clear hi)) | ((with_reducible refine gate_dst (N := 12) rfl ?_); (try (refine gate_guard (by rfl) ?_; dsimp only)); refine boxE (N := 12) (cs := #[.int .i64 0, .int .i64 0]) (t := 26) ?_; intro bl hg ex hbox hb; have n0_ := Rb1 HO_10 hb; have n1_ := Aside0.mk (below_step (pB HB.out) hb); have n2_ := Aside0.mk (hbox); have n4_ := Aside0.mk (pL HB.out hg); clear HO_10; clear HB; have HO_10 := n0_; have HB := n1_; have aa := n2_; have dx := n4_; clear n0_ n1_ n2_ n4_; clear hb hbox hg; obtain ⟨hcz128_0, dV, dW, dX⟩ := bk2 aa.out; obtain ⟨aY, aU, dE⟩ := Kd.R_slice HO_10.out; subst dE) | ((with_reducible refine gate_callee (f := 11) rfl ?_); refine goesE (some 98) rfl rfl Try.func11 (by kernel_rfl) rfl #[.slice aY x10_1.length aU, .int .i64 (wrap64 (a2 * a1))] rfl ?_; (with_reducible refine (share_Level.calls k1 _ _ x10_1 (wrap64 (a2 * a1)) au av bx _ ?side1 ?side2 A32.out).mono ?_); (case side1 => refine (Kd.R_reads' (e := 37) (base := w.heap.size) (ok := fun k_ => True) (n := x10_1.length) (c := aU) ?_).2.2; exact (Kd.pR ((Kd.R_mono (Kd.R_far (p := ⟨bl, 1, none⟩) (Kd.R_far (p := ⟨bl, 0, none⟩) (Kd.R_types HO_10.out aa.out (by decide)) (fun _ hk => hk.2) (.int .i64 aA)) (fun _ hk => hk.2) (.int .i64 aC)) (fun _ h_ => h_.1))))); (case side2 => exact (Kd.R_reads' HO_10.out).2.1); rintro e ey ⟨rfl, hb⟩; refine ⟨_, rfl, ?_⟩; have n0_ := Aside0.mk (Kd.R_below (Kd.pR ((Kd.R_mono (Kd.R_far (p := ⟨bl, 1, none⟩) (Kd.R_far (p := ⟨bl, 0, none⟩) (Kd.R_types HO_10.out aa.out (by decide)) (fun _ hk => hk.2) (.int .i64 aA)) (fun _ hk => hk.2) (.int .i64 aC)) (fun _ h_ => h_.1)))) hb); have n1_ := Aside0.mk (blk_below (g := bl) (o := .cells #[.int .i64 aA, .int .i64 aC] 26 (0, 0)) (by (with_reducible repeat (first | refine blk_drewN ?_ _ | refine blk_drew ?_ | refine blk_alloc ?_ _)); refine blk_put (cs := #[.int .i64 aA, .int .i64 0]) ?_ 1 _ rfl; (with_reducible repeat (first | refine blk_drewN ?_ _ | refine blk_drew ?_ | refine blk_alloc ?_ _)); refine blk_put (cs := #[.int .i64 0, .int .i64 0]) ?_ 0 _ rfl; (with_reducible repeat (first | refine blk_drewN ?_ _ | refine blk_drew ?_ | refine blk_alloc ?_ _)); exact aa.out) hb); have n2_ := Aside0.mk (below_step (pB HB.out) hb); clear HO_10; clear aa; clear HB; have HO_10 := n0_; have aa := n1_; have HB := n2_; clear n0_ n1_ n2_; (try clear hb); (try clear hb2); (try clear hk); (try clear hi)) | ((with_reducible refine gate_dst (N := 14) rfl ?_); (try (refine gate_guard (by rfl) ?_; dsimp only)); refine boxE (N := 14) (cs := #[.int .i64 0, .int .i64 0]) (t := 26) ?_; intro bu hg cm hbox hb; have n0_ := Rb1 HO_10 hb; have n1_ := Aside0.mk (blk_below (pK aa.out) hb); have n2_ := Aside0.mk (below_step (pB HB.out) hb); have n3_ := Aside0.mk (hbox); have n5_ := Aside0.mk (pL HB.out hg); have n6_ := Aside0.mk (pNl aa.out hg); have n7_ := Aside0.mk (pNg aa.out hg); clear HO_10; clear aa; clear HB; have HO_10 := n0_; have aa := n1_; have HB := n2_; have ab := n3_; have dy := n5_; have bd := n6_; have bA := n7_; clear n0_ n1_ n2_ n3_ n5_ n6_ n7_; clear hb hbox hg; have ej := bA.out; have ek := bd.out; obtain ⟨hcz133_0, dY, dZ, d0⟩ := bk2 ab.out))
                               have n0_ : Aside0 (Kd.R k37 37 ((cm.setCell ⟨bu, 0, none⟩ (.int .i64 au)).setCell ⟨bu, 1, none⟩ (.int .i64 av)) w.heap.size (fun _ => True) (.slice aY x10_1.length aU) x10_1) := ⟨Kd.pR (Kd.R_mono (Kd.R_far (p := ⟨bu, 1, none⟩) (Kd.R_far (p := ⟨bu, 0, none⟩) (Kd.R_types HO_10.out ab.out (by decide)) (fun _ hk => hk.2) (.int .i64 au)) (fun _ hk => hk.2) (.int .i64 av)) (fun _ hk => trivial))⟩
                               have n1_ : Aside0 (((cm.setCell ⟨bu, 0, none⟩ (.int .i64 au)).setCell ⟨bu, 1, none⟩ (.int .i64 av)).heap[bl]? = some (.cells #[.int .i64 aA, .int .i64 aC] 26 (0, 0))) := ⟨by (with_reducible repeat (first | refine blk_drewN ?_ _ | refine blk_drew ?_ | refine blk_alloc ?_ _)); refine blk_far ?_ bd.out _; (with_reducible repeat (first | refine blk_drewN ?_ _ | refine blk_drew ?_ | refine blk_alloc ?_ _)); refine blk_far ?_ bd.out _; (with_reducible repeat (first | refine blk_drewN ?_ _ | refine blk_drew ?_ | refine blk_alloc ?_ _)); exact aa.out⟩
                               have n2_ : Aside0 (((cm.setCell ⟨bu, 0, none⟩ (.int .i64 au)).setCell ⟨bu, 1, none⟩ (.int .i64 av)).heap[bu]? = some (.cells #[.int .i64 au, .int .i64 av] 26 (0, 0))) := ⟨by (with_reducible repeat (first | refine blk_drewN ?_ _ | refine blk_drew ?_ | refine blk_alloc ?_ _)); refine blk_put (cs := #[.int .i64 au, .int .i64 0]) ?_ 1 _ rfl; (with_reducible repeat (first | refine blk_drewN ?_ _ | refine blk_drew ?_ | refine blk_alloc ?_ _)); refine blk_put (cs := #[.int .i64 0, .int .i64 0]) ?_ 0 _ rfl; (with_reducible repeat (first | refine blk_drewN ?_ _ | refine blk_drew ?_ | refine blk_alloc ?_ _)); exact ab.out⟩
                               have n3_ : Aside0 (Below w.heap.size w ((cm.setCell ⟨bu, 0, none⟩ (.int .i64 au)).setCell ⟨bu, 1, none⟩ (.int .i64 av))) := ⟨pB HB.out⟩
                               (try clear HO_10)
                               (try clear aa)
                               (try clear ab)
                               (try clear HB)
                               generalize ((cm.setCell ⟨bu, 0, none⟩ (.int .i64 au)).setCell ⟨bu, 1, none⟩ (.int .i64 av)) = d1 at n0_ n1_ n2_ n3_ ⊢
                               have HO_10 := n0_
                               have aa := n1_
                               have ab := n2_
                               have HB := n3_
                               clear n0_ n1_ n2_ n3_
                               have n0_ := Aside0.mk (Kd.R_drew HO_10.out)
                               have n1_ := Aside0.mk (blk_drew aa.out)
                               have n2_ := Aside0.mk (blk_drew ab.out)
                               have n3_ := Aside0.mk (below_drew1 HB.out)
                               clear HO_10
                               clear aa
                               clear ab
                               clear HB
                               have HO_10 := n0_
                               have aa := n1_
                               have ab := n2_
                               have HB := n3_
                               clear n0_ n1_ n2_ n3_
                               have q136 : (a3 : Int) ≤ ((l0.length : Int) : Int) := od
                               obtain ⟨i0136, hi0136, _, hsz136, _⟩ := info_parts info37
                               have hroom136 : l0.length ≤ c0 := HC0.out
                               have hC136 : Kd.C k37 _ A0 l0.length l0 := HR0.out
                               have hcut136 := cut_to (P := Try.prog) 22 37 .i64 Try.underlying22 hi0136 A0 l0.length c0 a3 od q136 hroom136
                               have hr136 := Kd.C_take (m := (a3 : Int).toNat) hC136 (by omega)
                               have cx : a5.length = (a3 : Int).toNat := (by rw [cJ.out, List.length_take]; omega)
                               rw [← cJ.out] at hr136
                               rw [← cx] at hcut136
                               have HR383 := Aside0.mk hr136
                               have HC383 := Aside0.mk (show a5.length ≤ c0 from by omega)
                               clear hr136 hC136 hroom136 hi0136 hsz136
                               have KY136 := Aside0.mk cx
                               (try clear cx)
                               replace q136 := eq_true q136
                               have q137 : (a3 : Int) ≤ ((l0.length : Int) : Int) := od
                               obtain ⟨i0137, hi0137, _, hsz137, _⟩ := info_parts info37
                               have hroom137 : l0.length ≤ c0 := HC0.out
                               have hC137 : Kd.C k37 _ A0 l0.length l0 := HR0.out
                               have q0137 : (0 : Int) ≤ (a3 : Int) := od
                               have hcut137 := cut_from (P := Try.prog) 22 37 .i64 Try.underlying22 hi0137 2 hsz137 A0 l0.length c0 a3 q0137 q137
                               have hr137 := Kd.C_drop (m := (a3 : Int).toNat) (c := c0) hC137 (by omega) hroom137
                               obtain ⟨ez, hA137⟩ : ∃ A1, A1 = (if c0 = (a3 : Int).toNat then A0 else (A0 : Option Addr).map (·.add ((a3 : Int).toNat * 2))) := ⟨_, rfl⟩
                               obtain ⟨c137, hc137⟩ : ∃ c1, c1 = c0 - (a3 : Int).toNat := ⟨_, rfl⟩
                               have ch : ax.length = l0.length - (a3 : Int).toNat := (by rw [cK.out, List.length_drop] <;> omega)
                               rw [show (l0).drop (a3 : Int).toNat = ax from cK.out.symm] at hr137
                               replace hr137 : Kd.C k37 _ ez ax.length ax := (by rw [hA137]; exact hr137)
                               rw [← ch, ← hA137, ← hc137] at hcut137
                               have HR396 := Aside0.mk hr137
                               have HC396 := Aside0.mk (show ax.length ≤ c137 from by rw [ch, hc137]; exact Nat.sub_le_sub_right hroom137 _)
                               clear hr137 hC137 hroom137 hi0137 hsz137 hc137
                               have KY137 := Aside0.mk ch
                               have KA137 := Aside0.mk hA137
                               clear ch hA137
                               replace q137 := eq_true q137
                               refine start_ (n := 13) (S := fun w' => True) (ds := []) #[false, false, false, false, false, false, false, false, false, false, false, false, false] (by kernel_rfl) rfl rfl trivial (fun hHeld => ?_); refine with_tabW spigotlaw36_ShareScales.tab17 spigotlaw36_ShareScales.bits17 (fun HT_ HW_ => ?_)
                               generalize d1.drew = eA at HO_10 aa ab HB HR383 HR396 hHeld ⊢
                               refine pure_ (i := 1) (N := some 170) (v := ?_) (a' := ?_) #[false, true, false, false, false, false, false, false, false, false, false, false, false] rfl rfl (any_of HT_.out (by kernel_rfl)) (fun _ _ _ h => h) (Or.inl ⟨by rfl, ?_⟩) ?_ ?_
                               rotate_left
                               ·intro w'
                                go_simp
                                with_reducible rfl
                               rotate_left
                               ·simp only [Act.put, List.setIfInBounds_toArray, List.set_cons_zero, List.set_cons_succ, i64_w, i32_w]
                                rfl
                               refine pure_ (i := 2) (N := some 171) (v := ?_) (a' := ?_) #[false, true, true, false, false, false, false, false, false, false, false, false, false] rfl rfl (any_of HT_.out (by kernel_rfl)) (fun _ _ _ h => h) (Or.inl ⟨by rfl, ?_⟩) ?_ ?_
                               rotate_left
                               ·intro w'
                                go_simp
                                with_reducible rfl
                               rotate_left
                               ·simp only [Act.put, List.setIfInBounds_toArray, List.set_cons_zero, List.set_cons_succ, i64_w, i32_w]
                                rfl
                               refine pure_ (i := 3) (N := some 172) (v := ?_) (a' := ?_) #[false, true, true, true, false, false, false, false, false, false, false, false, false] rfl rfl (any_of HT_.out (by kernel_rfl)) (fun _ _ _ h => h) (Or.inl ⟨by rfl, ?_⟩) ?_ ?_
                               rotate_left
                               ·intro w'
                                go_simp
                                with_reducible rfl
                               rotate_left
                               ·simp only [Act.put, List.setIfInBounds_toArray, List.set_cons_zero, List.set_cons_succ, i64_w, i32_w]
                                rfl
                               refine pure_ (i := 5) (N := some 174) (v := ?_) (a' := ?_) #[false, true, true, true, false, true, false, false, false, false, false, false, false] rfl rfl (any_of HT_.out (by kernel_rfl)) (fun _ _ _ h => h) (Or.inl ⟨by rfl, ?_⟩) ?_ ?_
                               rotate_left
                               ·intro w'
                                go_simp
                                with_reducible rfl
                               rotate_left
                               ·simp only [Act.put, List.setIfInBounds_toArray, List.set_cons_zero, List.set_cons_succ, i64_w, i32_w]
                                rfl
                               refine pure_ (i := 8) (N := some 177) (v := ?_) (a' := ?_) #[false, true, true, true, false, true, false, false, true, false, false, false, false] rfl rfl (any_of HT_.out (by kernel_rfl)) (fun _ _ _ h => h) (Or.inl ⟨by rfl, ?_⟩) ?_ ?_
                               rotate_left
                               ·intro w'
                                go_simp
                                with_reducible rfl
                               rotate_left
                               ·simp only [Act.put, List.setIfInBounds_toArray, List.set_cons_zero, List.set_cons_succ, i64_w, i32_w]
                                rfl
                               refine pure_ (i := 9) (N := some 178) (v := ?_) (a' := ?_) #[false, true, true, true, false, true, false, false, true, true, false, false, false] rfl rfl (any_of HT_.out (by kernel_rfl)) (fun _ _ _ h => h) (Or.inl ⟨by rfl, ?_⟩) ?_ ?_
                               rotate_left
                               ·intro w'
                                go_simp
                                with_reducible rfl
                               rotate_left
                               ·simp only [Act.put, List.setIfInBounds_toArray, List.set_cons_zero, List.set_cons_succ, i64_w, i32_w]
                                rfl
                               refine pure_ (i := 10) (N := some 179) (v := ?_) (a' := ?_) #[false, true, true, true, false, true, false, false, true, true, true, false, false] rfl rfl (any_of HT_.out (by kernel_rfl)) (fun _ _ _ h => h) (Or.inl ⟨by rfl, ?_⟩) ?_ ?_
                               rotate_left
                               ·intro w'
                                go_simp
                                with_reducible rfl
                               rotate_left
                               ·simp only [Act.put, List.setIfInBounds_toArray, List.set_cons_zero, List.set_cons_succ, i64_w, i32_w]
                                rfl
                               refine join_ (σ := Value × Value × Value) 3 #[true, true, true, true, true, true, true, false, true, true, true, false, false] (fun s_ => [(169, s_.1), (173, s_.2.1), (175, s_.2.2)]) (fun s_ w' => (Kd.R k37 37 w' w.heap.size (fun k_ => some k_ ≠ (s_.2.2 : Value).ownBlock ∧ some k_ ≠ (.slice aY x10_1.length aU : Value).ownBlock) s_.2.1 aQ) ∧ (Kd.R k37 37 w' w.heap.size (fun k_ => some k_ ≠ (s_.2.1 : Value).ownBlock ∧ some k_ ≠ (.slice aY x10_1.length aU : Value).ownBlock) s_.2.2 aK) ∧ (Kd.R k37 37 w' w.heap.size (fun k_ => some k_ ≠ (s_.2.1 : Value).ownBlock ∧ some k_ ≠ (s_.2.2 : Value).ownBlock) (.slice aY x10_1.length aU) x10_1) ∧ (w'.heap[bl]? = some (.cells #[.int .i64 aA, .int .i64 aC] 26 (0, 0))) ∧ (w'.heap[bu]? = some (.cells #[.int .i64 au, .int .i64 av] 26 (0, 0))) ∧ (Below w.heap.size w w')) ?_ ?_
                               rotate_left
                               ·intro hCont
                                refine two_ (i := 0) (j := 6) (Ni := some 169) (Nj := some 175) #[true, true, true, true, false, true, false, false, true, true, true, false, false] #[false, true, true, true, false, true, true, false, true, true, true, false, false] rfl rfl rfl rfl (two_of HT_.out (by kernel_rfl)) (by decide) (by decide) (fun K hK => ?_) (fun K hK => ?_)
                                ·skip
                                 refine Kd.R_lit_step k37 _ 37 ?hg (N := 169) ?hd (xs := ([] : List (S37))) (inner := []) (ok := fun _ => True) (okp := fun _ => True) ?hr ?hp (fun _ hk => hk) trivial (Below.refl _ _) (Nat.le_refl _) (by simp) ?_; (case hd => rfl); (case hg => rfl); (case hr => first | (go_simp; done) | (go_simp; rfl)); (case hp => exact (Reps.none _ _))
                                 intro bH d2 ho139 hb hg_ hnew_
                                 clear hg_ hnew_
                                 (first | rw [← ce.out] at ho139 | (simp only [Int.reduceToNat] at ho139; rw [← ce.out] at ho139))
                                 have n0_ := Re1 HO_10 ho139 hb
                                 have n1_ := Aside0.mk (Kd.R_lower (Kd.R_new' ho139 (Kd.R_lt (Kd.pR HO_10.out))) (below_size (pB HB.out)))
                                 have n2_ := Aside0.mk (blk_below (pK aa.out) hb)
                                 have n3_ := Aside0.mk (blk_below (pK ab.out) hb)
                                 have n4_ := Aside0.mk (below_step (pB HB.out) hb)
                                 clear HO_10
                                 clear aa
                                 clear ab
                                 clear HB
                                 have HO_10 := n0_
                                 have aW := n1_
                                 have aa := n2_
                                 have ab := n3_
                                 have HB := n4_
                                 clear n0_ n1_ n2_ n3_ n4_
                                 clear hb ho139
                                 refine hK.out _ _ trivial (fun hHeld => ?_)
                                 clear hK K
                                 refine norm_ (a' := ?_) ?_ ?_
                                 rotate_left
                                 ·show Act.put _ (some 169) _ = _
                                  simp only [Act.put, List.setIfInBounds_toArray, List.set_cons_zero, List.set_cons_succ, i64_w, i32_w]
                                  rfl
                                 refine two_ (i := 4) (j := 6) (Ni := some 173) (Nj := some 175) #[true, true, true, true, true, true, false, false, true, true, true, false, false] #[true, true, true, true, false, true, true, false, true, true, true, false, false] rfl rfl rfl rfl (two_of HT_.out (by kernel_rfl)) (by decide) (by decide) (fun K hK => ?_) (fun K hK => ?_)
                                 ·skip
                                  refine Kd.R_append_rows_step k37 (w0 := w) w.heap.size (by rfl) (.tmp 169) (.tmp 172) 22 37 (.agg #[(.int .i64 0), (.int .i64 0)]) 16 rfl Try.underlying22 info37 rfl (by decide) (by omega) bH bc a5 _ _ _ (fun k_ => some k_ ≠ (.slice aY x10_1.length aU : Value).ownBlock) (fun _ => False) rfl rfl ?aO ?aR (fun _ _ h => h) (fun _ h => h.elim) ?aF ?aB ?aS ?aL ?_
                                  (case aR => exact Kd.pC ((Kd.C_below HR383.out HB.out)))
                                  (case aB => exact (pB HB.out))
                                  (case aF => exact (fun k_ hk => Kd.fresh' (Kd.R_lt (Kd.pR HO_10.out)) k_ hk))
                                  (case aO => exact (Kd.pR (Kd.R_mono aW.out (fun _ hk => hk.2))))
                                  (case aS => exact (below_size (pB HB.out)))
                                  (case aL => have := cl.out; omega)
                                  intro bp dg ho hb hg hat
                                  rw [← cw.out] at ho
                                  have n0_ := Aside0.mk (Kd.R_after (ok := (fun _ => True)) (Kd.pR HO_10.out) hg hat)
                                  have n1_ := Aside0.mk (blk_grown (pK aa.out) hg (Kd.R_ne aW.out aa.out (by decide)))
                                  have n2_ := Aside0.mk (blk_grown (pK ab.out) hg (Kd.R_ne aW.out ab.out (by decide)))
                                  have n3_ := Aside0.mk (hb)
                                  have n4_ := Aside0.mk (ho)
                                  clear HO_10
                                  clear aa
                                  clear ab
                                  clear HB
                                  clear aW
                                  have HO_10 := n0_
                                  have aa := n1_
                                  have ab := n2_
                                  have HB := n3_
                                  have a9 := n4_
                                  clear n0_ n1_ n2_ n3_ n4_
                                  clear ho hb hg hat
                                  refine hK.out _ _ trivial (fun hHeld => ?_)
                                  clear hK K
                                  refine norm_ (a' := ?_) ?_ ?_
                                  rotate_left
                                  ·show Act.put _ (some 173) _ = _
                                   simp only [Act.put, List.setIfInBounds_toArray, List.set_cons_zero, List.set_cons_succ, i64_w, i32_w]
                                   rfl
                                  refine one_ (i := 6) (N := some 175) #[true, true, true, true, true, true, true, false, true, true, true, false, false] rfl rfl (one_of HT_.out (by kernel_rfl)) (by decide) (fun K hK => ?_)
                                  refine Kd.R_lit_step k37 _ 37 ?hg (N := 175) ?hd (xs := ([(⟨0, 5⟩ : S37)] : List (S37))) (inner := [.int .i64 0, .int .i64 5]) (ok := fun _ => True) (okp := fun _ => True) ?hr ?hp (fun _ hk => hk) trivial (Below.refl _ _) (Nat.le_refl _) (by simp) ?_; (case hd => rfl); (case hg => rfl); (case hr => first | (go_simp; done) | (go_simp; rfl)); (case hp => exact (Reps.c2 (show Kd.M k37 _ _ _ (⟨0, 5⟩ : S37) [.int .i64 0, .int .i64 5] from (k37_mkM _ _ _ (⟨0, 5⟩ : S37) )) (Reps.none _ _)))
                                  intro bj eB ho142 hb hg_ hnew_
                                  clear hg_ hnew_
                                  (first | rw [← bD.out] at ho142 | (simp only [Int.reduceToNat] at ho142; rw [← bD.out] at ho142))
                                  have n0_ := Re1 HO_10 ho142 hb
                                  have n1_ := Re1 a9 ho142 hb
                                  have n2_ := Aside0.mk (Kd.R_lower (Kd.R_new' (Kd.R_new' ho142 (Kd.R_lt (Kd.pR HO_10.out))) (Kd.R_lt (Kd.pR a9.out))) (below_size (pB HB.out)))
                                  have n3_ := Aside0.mk (blk_below (pK aa.out) hb)
                                  have n4_ := Aside0.mk (blk_below (pK ab.out) hb)
                                  have n5_ := Aside0.mk (below_step (pB HB.out) hb)
                                  clear HO_10
                                  clear a9
                                  clear aa
                                  clear ab
                                  clear HB
                                  have HO_10 := n0_
                                  have a9 := n1_
                                  have al := n2_
                                  have aa := n3_
                                  have ab := n4_
                                  have HB := n5_
                                  clear n0_ n1_ n2_ n3_ n4_ n5_
                                  clear hb ho142
                                  refine hK.out _ _ trivial (fun hHeld => ?_)
                                  clear hK K
                                  refine norm_ (a' := ?_) ?_ ?_
                                  rotate_left
                                  ·show Act.put _ (some 175) _ = _
                                   simp only [Act.put, List.setIfInBounds_toArray, List.set_cons_zero, List.set_cons_succ, i64_w, i32_w]
                                   rfl
                                  exact norm_ (by simp only [putAll, Act.put, List.setIfInBounds_toArray, List.set_cons_zero, List.set_cons_succ]) (hCont (bH, bp, bj) _ ⟨(Kd.pR (Kd.R_mono a9.out (fun _ hk => ⟨hk.2, hk.1⟩))), (Kd.pR (Kd.R_mono al.out (fun _ hk => ⟨hk.2, hk.1.2⟩))), (Kd.pR (Kd.R_mono HO_10.out (fun _ hk => ⟨hk.1.2, hk.2⟩))), (pK aa.out), (pK ab.out), (pB HB.out)⟩)
                                 ·skip
                                  refine Kd.R_lit_step k37 _ 37 ?hg (N := 175) ?hd (xs := ([(⟨0, 5⟩ : S37)] : List (S37))) (inner := [.int .i64 0, .int .i64 5]) (ok := fun _ => True) (okp := fun _ => True) ?hr ?hp (fun _ hk => hk) trivial (Below.refl _ _) (Nat.le_refl _) (by simp) ?_; (case hd => rfl); (case hg => rfl); (case hr => first | (go_simp; done) | (go_simp; rfl)); (case hp => exact (Reps.c2 (show Kd.M k37 _ _ _ (⟨0, 5⟩ : S37) [.int .i64 0, .int .i64 5] from (k37_mkM _ _ _ (⟨0, 5⟩ : S37) )) (Reps.none _ _)))
                                  intro bj dg ho141 hb hg_ hnew_
                                  clear hg_ hnew_
                                  (first | rw [← bD.out] at ho141 | (simp only [Int.reduceToNat] at ho141; rw [← bD.out] at ho141))
                                  have n0_ := Re1 HO_10 ho141 hb
                                  have n1_ := Re1 aW ho141 hb
                                  have n2_ := Aside0.mk (Kd.R_lower (Kd.R_new' (Kd.R_new' ho141 (Kd.R_lt (Kd.pR HO_10.out))) (Kd.R_lt (Kd.pR aW.out))) (below_size (pB HB.out)))
                                  have n3_ := Aside0.mk (blk_below (pK aa.out) hb)
                                  have n4_ := Aside0.mk (blk_below (pK ab.out) hb)
                                  have n5_ := Aside0.mk (below_step (pB HB.out) hb)
                                  clear HO_10
                                  clear aW
                                  clear aa
                                  clear ab
                                  clear HB
                                  have HO_10 := n0_
                                  have aW := n1_
                                  have al := n2_
                                  have aa := n3_
                                  have ab := n4_
                                  have HB := n5_
                                  clear n0_ n1_ n2_ n3_ n4_ n5_
                                  clear hb ho141
                                  refine hK.out _ _ trivial (fun hHeld => ?_)
                                  clear hK K
                                  refine norm_ (a' := ?_) ?_ ?_
                                  rotate_left
                                  ·show Act.put _ (some 175) _ = _
                                   simp only [Act.put, List.setIfInBounds_toArray, List.set_cons_zero, List.set_cons_succ, i64_w, i32_w]
                                   rfl
                                  refine one_ (i := 4) (N := some 173) #[true, true, true, true, true, true, true, false, true, true, true, false, false] rfl rfl (one_of HT_.out (by kernel_rfl)) (by decide) (fun K hK => ?_)
                                  refine Kd.R_append_rows_step k37 (w0 := w) w.heap.size (by rfl) (.tmp 169) (.tmp 172) 22 37 (.agg #[(.int .i64 0), (.int .i64 0)]) 16 rfl Try.underlying22 info37 rfl (by decide) (by omega) bH bc a5 _ _ _ (fun k_ => some k_ ≠ (.slice aY x10_1.length aU : Value).ownBlock ∧ some k_ ≠ (bj : Value).ownBlock) (fun _ => False) rfl rfl ?aO ?aR (fun _ _ h => h) (fun _ h => h.elim) ?aF ?aB ?aS ?aL ?_
                                  (case aR => exact Kd.pC ((Kd.C_below HR383.out HB.out)))
                                  (case aB => exact (pB HB.out))
                                  (case aF => exact (fun k_ hk => ⟨Kd.fresh' (Kd.R_lt (Kd.pR HO_10.out)) k_ hk, Kd.fresh' (Kd.R_lt (Kd.pR al.out)) k_ hk⟩))
                                  (case aO => exact (Kd.pR (Kd.R_mono aW.out (fun _ hk => ⟨hk.1.2, hk.2⟩))))
                                  (case aS => exact (below_size (pB HB.out)))
                                  (case aL => have := cl.out; omega)
                                  intro bp d3 ho hb hg hat
                                  rw [← cw.out] at ho
                                  have n0_ := Aside0.mk (Kd.R_after (ok := (fun k_ => some k_ ≠ (bj : Value).ownBlock)) (Kd.pR (Kd.R_mono HO_10.out (fun _ hk => ⟨hk.2, hk.1.2⟩))) hg hat)
                                  have n1_ := Aside0.mk (blk_grown (pK aa.out) hg (Kd.R_ne aW.out aa.out (by decide)))
                                  have n2_ := Aside0.mk (blk_grown (pK ab.out) hg (Kd.R_ne aW.out ab.out (by decide)))
                                  have n3_ := Aside0.mk (Kd.R_after (ok := (fun k_ => some k_ ≠ (.slice aY x10_1.length aU : Value).ownBlock)) (Kd.pR (Kd.R_mono al.out (fun _ hk => ⟨hk.1.2, hk.2⟩))) hg hat)
                                  have n4_ := Aside0.mk (hb)
                                  have n5_ := Aside0.mk (ho)
                                  clear HO_10
                                  clear aa
                                  clear ab
                                  clear al
                                  clear HB
                                  (try clear aW)
                                  have HO_10 := n0_
                                  have aa := n1_
                                  have ab := n2_
                                  have al := n3_
                                  have HB := n4_
                                  have a9 := n5_
                                  clear n0_ n1_ n2_ n3_ n4_ n5_
                                  clear ho hb hg hat
                                  refine hK.out _ _ trivial (fun hHeld => ?_)
                                  clear hK K
                                  refine norm_ (a' := ?_) ?_ ?_
                                  rotate_left
                                  ·show Act.put _ (some 173) _ = _
                                   simp only [Act.put, List.setIfInBounds_toArray, List.set_cons_zero, List.set_cons_succ, i64_w, i32_w]
                                   rfl
                                  exact norm_ (by simp only [putAll, Act.put, List.setIfInBounds_toArray, List.set_cons_zero, List.set_cons_succ]) (hCont (bH, bp, bj) _ ⟨(Kd.pR (Kd.R_mono a9.out (fun _ hk => ⟨hk.2, hk.1⟩))), (Kd.pR (Kd.R_mono al.out (fun _ hk => ⟨hk.2, hk.1⟩))), (Kd.pR (Kd.R_mono HO_10.out (fun _ hk => ⟨hk.2, hk.1⟩))), (pK aa.out), (pK ab.out), (pB HB.out)⟩)
                                ·skip
                                 refine Kd.R_lit_step k37 _ 37 ?hg (N := 175) ?hd (xs := ([(⟨0, 5⟩ : S37)] : List (S37))) (inner := [.int .i64 0, .int .i64 5]) (ok := fun _ => True) (okp := fun _ => True) ?hr ?hp (fun _ hk => hk) trivial (Below.refl _ _) (Nat.le_refl _) (by simp) ?_; (case hd => rfl); (case hg => rfl); (case hr => first | (go_simp; done) | (go_simp; rfl)); (case hp => exact (Reps.c2 (show Kd.M k37 _ _ _ (⟨0, 5⟩ : S37) [.int .i64 0, .int .i64 5] from (k37_mkM _ _ _ (⟨0, 5⟩ : S37) )) (Reps.none _ _)))
                                 intro bj d2 ho139 hb hg_ hnew_
                                 clear hg_ hnew_
                                 (first | rw [← bD.out] at ho139 | (simp only [Int.reduceToNat] at ho139; rw [← bD.out] at ho139))
                                 have n0_ := Re1 HO_10 ho139 hb
                                 have n1_ := Aside0.mk (Kd.R_lower (Kd.R_new' ho139 (Kd.R_lt (Kd.pR HO_10.out))) (below_size (pB HB.out)))
                                 have n2_ := Aside0.mk (blk_below (pK aa.out) hb)
                                 have n3_ := Aside0.mk (blk_below (pK ab.out) hb)
                                 have n4_ := Aside0.mk (below_step (pB HB.out) hb)
                                 clear HO_10
                                 clear aa
                                 clear ab
                                 clear HB
                                 have HO_10 := n0_
                                 have al := n1_
                                 have aa := n2_
                                 have ab := n3_
                                 have HB := n4_
                                 clear n0_ n1_ n2_ n3_ n4_
                                 clear hb ho139
                                 refine hK.out _ _ trivial (fun hHeld => ?_)
                                 clear hK K
                                 refine norm_ (a' := ?_) ?_ ?_
                                 rotate_left
                                 ·show Act.put _ (some 175) _ = _
                                  simp only [Act.put, List.setIfInBounds_toArray, List.set_cons_zero, List.set_cons_succ, i64_w, i32_w]
                                  rfl
                                 refine one_ (i := 0) (N := some 169) #[true, true, true, true, false, true, true, false, true, true, true, false, false] rfl rfl (one_of HT_.out (by kernel_rfl)) (by decide) (fun K hK => ?_)
                                 refine Kd.R_lit_step k37 _ 37 ?hg (N := 169) ?hd (xs := ([] : List (S37))) (inner := []) (ok := fun _ => True) (okp := fun _ => True) ?hr ?hp (fun _ hk => hk) trivial (Below.refl _ _) (Nat.le_refl _) (by simp) ?_; (case hd => rfl); (case hg => rfl); (case hr => first | (go_simp; done) | (go_simp; rfl)); (case hp => exact (Reps.none _ _))
                                 intro bH dg ho141 hb hg_ hnew_
                                 clear hg_ hnew_
                                 (first | rw [← ce.out] at ho141 | (simp only [Int.reduceToNat] at ho141; rw [← ce.out] at ho141))
                                 have n0_ := Re1 HO_10 ho141 hb
                                 have n1_ := Re1 al ho141 hb
                                 have n2_ := Aside0.mk (Kd.R_lower (Kd.R_new' (Kd.R_new' ho141 (Kd.R_lt (Kd.pR HO_10.out))) (Kd.R_lt (Kd.pR al.out))) (below_size (pB HB.out)))
                                 have n3_ := Aside0.mk (blk_below (pK aa.out) hb)
                                 have n4_ := Aside0.mk (blk_below (pK ab.out) hb)
                                 have n5_ := Aside0.mk (below_step (pB HB.out) hb)
                                 clear HO_10
                                 clear al
                                 clear aa
                                 clear ab
                                 clear HB
                                 have HO_10 := n0_
                                 have al := n1_
                                 have aW := n2_
                                 have aa := n3_
                                 have ab := n4_
                                 have HB := n5_
                                 clear n0_ n1_ n2_ n3_ n4_ n5_
                                 clear hb ho141
                                 refine hK.out _ _ trivial (fun hHeld => ?_)
                                 clear hK K
                                 refine norm_ (a' := ?_) ?_ ?_
                                 rotate_left
                                 ·show Act.put _ (some 169) _ = _
                                  simp only [Act.put, List.setIfInBounds_toArray, List.set_cons_zero, List.set_cons_succ, i64_w, i32_w]
                                  rfl
                                 refine one_ (i := 4) (N := some 173) #[true, true, true, true, true, true, true, false, true, true, true, false, false] rfl rfl (one_of HT_.out (by kernel_rfl)) (by decide) (fun K hK => ?_)
                                 refine Kd.R_append_rows_step k37 (w0 := w) w.heap.size (by rfl) (.tmp 169) (.tmp 172) 22 37 (.agg #[(.int .i64 0), (.int .i64 0)]) 16 rfl Try.underlying22 info37 rfl (by decide) (by omega) bH bc a5 _ _ _ (fun k_ => some k_ ≠ (.slice aY x10_1.length aU : Value).ownBlock ∧ some k_ ≠ (bj : Value).ownBlock) (fun _ => False) rfl rfl ?aO ?aR (fun _ _ h => h) (fun _ h => h.elim) ?aF ?aB ?aS ?aL ?_
                                 (case aR => exact Kd.pC ((Kd.C_below HR383.out HB.out)))
                                 (case aB => exact (pB HB.out))
                                 (case aF => exact (fun k_ hk => ⟨Kd.fresh' (Kd.R_lt (Kd.pR HO_10.out)) k_ hk, Kd.fresh' (Kd.R_lt (Kd.pR al.out)) k_ hk⟩))
                                 (case aO => exact (Kd.pR (Kd.R_mono aW.out (fun _ hk => ⟨hk.1.2, hk.2⟩))))
                                 (case aS => exact (below_size (pB HB.out)))
                                 (case aL => have := cl.out; omega)
                                 intro bp d3 ho hb hg hat
                                 rw [← cw.out] at ho
                                 have n0_ := Aside0.mk (Kd.R_after (ok := (fun k_ => some k_ ≠ (bj : Value).ownBlock)) (Kd.pR (Kd.R_mono HO_10.out (fun _ hk => ⟨hk.1.2, hk.2⟩))) hg hat)
                                 have n1_ := Aside0.mk (blk_grown (pK aa.out) hg (Kd.R_ne aW.out aa.out (by decide)))
                                 have n2_ := Aside0.mk (blk_grown (pK ab.out) hg (Kd.R_ne aW.out ab.out (by decide)))
                                 have n3_ := Aside0.mk (Kd.R_after (ok := (fun k_ => some k_ ≠ (.slice aY x10_1.length aU : Value).ownBlock)) (Kd.pR (Kd.R_mono al.out (fun _ hk => ⟨hk.1.2, hk.2⟩))) hg hat)
                                 have n4_ := Aside0.mk (hb)
                                 have n5_ := Aside0.mk (ho)
                                 clear HO_10
                                 clear aa
                                 clear ab
                                 clear al
                                 clear HB
                                 (try clear aW)
                                 have HO_10 := n0_
                                 have aa := n1_
                                 have ab := n2_
                                 have al := n3_
                                 have HB := n4_
                                 have a9 := n5_
                                 clear n0_ n1_ n2_ n3_ n4_ n5_
                                 clear ho hb hg hat
                                 refine hK.out _ _ trivial (fun hHeld => ?_)
                                 clear hK K
                                 refine norm_ (a' := ?_) ?_ ?_
                                 rotate_left
                                 ·show Act.put _ (some 173) _ = _
                                  simp only [Act.put, List.setIfInBounds_toArray, List.set_cons_zero, List.set_cons_succ, i64_w, i32_w]
                                  rfl
                                 exact norm_ (by simp only [putAll, Act.put, List.setIfInBounds_toArray, List.set_cons_zero, List.set_cons_succ]) (hCont (bH, bp, bj) _ ⟨(Kd.pR (Kd.R_mono a9.out (fun _ hk => ⟨hk.2, hk.1⟩))), (Kd.pR (Kd.R_mono al.out (fun _ hk => ⟨hk.2, hk.1⟩))), (Kd.pR (Kd.R_mono HO_10.out (fun _ hk => ⟨hk.2, hk.1⟩))), (pK aa.out), (pK ab.out), (pB HB.out)⟩)
                               rintro ⟨bH, bp, bj⟩ b8 ⟨h0_, h1_, h2_, h3_, h4_, h5_⟩
                               have n0_ : Aside0 (Kd.R k37 37 b8 w.heap.size (fun k_ => some k_ ≠ (bj : Value).ownBlock ∧ some k_ ≠ (.slice aY x10_1.length aU : Value).ownBlock) bp aQ) := ⟨h0_⟩
                               have n1_ : Aside0 (Kd.R k37 37 b8 w.heap.size (fun k_ => some k_ ≠ (bp : Value).ownBlock ∧ some k_ ≠ (.slice aY x10_1.length aU : Value).ownBlock) bj aK) := ⟨h1_⟩
                               have n2_ : Aside0 (Kd.R k37 37 b8 w.heap.size (fun k_ => some k_ ≠ (bp : Value).ownBlock ∧ some k_ ≠ (bj : Value).ownBlock) (.slice aY x10_1.length aU) x10_1) := ⟨h2_⟩
                               have n3_ : Aside0 (b8.heap[bl]? = some (.cells #[.int .i64 aA, .int .i64 aC] 26 (0, 0))) := ⟨h3_⟩
                               have n4_ : Aside0 (b8.heap[bu]? = some (.cells #[.int .i64 au, .int .i64 av] 26 (0, 0))) := ⟨h4_⟩
                               have n5_ : Aside0 (Below w.heap.size w b8) := ⟨h5_⟩
                               clear HO_10
                               clear aa
                               clear ab
                               clear HB
                               clear h0_ h1_ h2_ h3_ h4_ h5_
                               have a9 := n0_
                               have al := n1_
                               have HO_10 := n2_
                               have aa := n3_
                               have ab := n4_
                               have HB := n5_
                               clear n0_ n1_ n2_ n3_ n4_ n5_
                               have hHeld := trivial
                               obtain ⟨cy, ci, cP⟩ := Kd.R_slice al.out
                               (first | subst cP | (injection cP with f1_ f2_ f3_; have f4_ := f1_.symm; have f5_ := f3_.symm; clear f1_ f2_ f3_; subst f4_; subst f5_))
                               refine norm_ (a' := ?_) ?_ ?_
                               rotate_left
                               ·simp only [putAll, Act.put, List.setIfInBounds_toArray, List.set_cons_zero, List.set_cons_succ]
                                rfl
                               refine one_ (i := 7) (N := some 176) #[true, true, true, true, true, true, true, true, true, true, true, false, false] rfl rfl (one_of HT_.out (by kernel_rfl)) (by decide) (fun K hK => ?_)
                               refine Kd.R_append_rows_step k37 (w0 := w) w.heap.size (by rfl) (.tmp 173) (.tmp 175) 22 37 (.agg #[(.int .i64 0), (.int .i64 0)]) 16 rfl Try.underlying22 info37 rfl (by decide) (by omega) bp aQ aK _ _ _ (fun k_ => some k_ ≠ (.slice aY x10_1.length aU : Value).ownBlock ∧ some k_ ≠ (.slice cy aK.length ci : Value).ownBlock) (fun _ => False) rfl rfl ?aO ?aR (fun _ _ h => h) (fun _ h => h.elim) ?aF ?aB ?aS ?aL ?_
                               (case aR => exact Kd.pC ((Kd.R_reads' al.out).2.2))
                               (case aB => exact (pB HB.out))
                               (case aF => exact (fun k_ hk => ⟨Kd.fresh' (Kd.R_lt (Kd.pR HO_10.out)) k_ hk, Kd.fresh' (Kd.R_lt (Kd.pR al.out)) k_ hk⟩))
                               (case aO => exact (Kd.pR (Kd.R_mono a9.out (fun _ hk => ⟨hk.2, hk.1⟩))))
                               (case aS => exact (below_size (pB HB.out)))
                               (case aL => have := c8.out; omega)
                               intro d4 eC ho hb hg hat
                               rw [← dA.out] at ho
                               have n0_ := Aside0.mk (Kd.R_after (ok := (fun k_ => some k_ ≠ (.slice cy aK.length ci : Value).ownBlock)) (Kd.pR (Kd.R_mono HO_10.out (fun _ hk => ⟨hk.2, hk.1⟩))) hg hat)
                               have n1_ := Aside0.mk (blk_grown (pK aa.out) hg (Kd.R_ne a9.out aa.out (by decide)))
                               have n2_ := Aside0.mk (blk_grown (pK ab.out) hg (Kd.R_ne a9.out ab.out (by decide)))
                               have n3_ := Aside0.mk (Kd.R_after (ok := (fun k_ => some k_ ≠ (.slice aY x10_1.length aU : Value).ownBlock)) (Kd.pR (Kd.R_mono al.out (fun _ hk => ⟨hk.2, hk.1⟩))) hg hat)
                               have n4_ := Aside0.mk (hb)
                               have n5_ := Aside0.mk (ho)
                               clear HO_10
                               clear aa
                               clear ab
                               clear al
                               clear HB
                               (try clear a9)
                               have HO_10 := n0_
                               have aa := n1_
                               have ab := n2_
                               have al := n3_
                               have HB := n4_
                               have cj := n5_
                               clear n0_ n1_ n2_ n3_ n4_ n5_
                               clear ho hb hg hat
                               refine hK.out _ _ trivial (fun hHeld => ?_)
                               clear hK K
                               refine norm_ (a' := ?_) ?_ ?_
                               rotate_left
                               ·show Act.put _ (some 176) _ = _
                                simp only [Act.put, List.setIfInBounds_toArray, List.set_cons_zero, List.set_cons_succ, i64_w, i32_w]
                                rfl
                               refine one_ (i := 11) (N := some 180) #[true, true, true, true, true, true, true, true, true, true, true, true, false] rfl rfl (one_of HT_.out (by kernel_rfl)) (by decide) (fun K hK => ?_)
                               refine Kd.R_append_rows_step k37 (w0 := w) w.heap.size (by rfl) (.tmp 176) (.tmp 179) 22 37 (.agg #[(.int .i64 0), (.int .i64 0)]) 16 rfl Try.underlying22 info37 rfl (by decide) (by omega) d4 aN ax _ _ _ (fun k_ => some k_ ≠ (.slice aY x10_1.length aU : Value).ownBlock ∧ some k_ ≠ (.slice cy aK.length ci : Value).ownBlock) (fun _ => False) rfl rfl ?aO ?aR (fun _ _ h => h) (fun _ h => h.elim) ?aF ?aB ?aS ?aL ?_
                               (case aR => exact Kd.pC ((Kd.C_below HR396.out HB.out)))
                               (case aB => exact (pB HB.out))
                               (case aF => exact (fun k_ hk => ⟨Kd.fresh' (Kd.R_lt (Kd.pR HO_10.out)) k_ hk, Kd.fresh' (Kd.R_lt (Kd.pR al.out)) k_ hk⟩))
                               (case aO => exact (Kd.pR cj.out))
                               (case aS => exact (below_size (pB HB.out)))
                               (case aL => have := da.out; omega)
                               intro eD eE ho hb hg hat
                               rw [← dB.out] at ho
                               have n0_ := Aside0.mk (Kd.R_after (ok := (fun k_ => some k_ ≠ (.slice cy aK.length ci : Value).ownBlock)) (Kd.pR HO_10.out) hg hat)
                               have n1_ := Aside0.mk (blk_grown (pK aa.out) hg (Kd.R_ne cj.out aa.out (by decide)))
                               have n2_ := Aside0.mk (blk_grown (pK ab.out) hg (Kd.R_ne cj.out ab.out (by decide)))
                               have n3_ := Aside0.mk (Kd.R_after (ok := (fun k_ => some k_ ≠ (.slice aY x10_1.length aU : Value).ownBlock)) (Kd.pR al.out) hg hat)
                               have n4_ := Aside0.mk (hb)
                               have n5_ := Aside0.mk (ho)
                               clear HO_10
                               clear aa
                               clear ab
                               clear al
                               clear HB
                               (try clear cj)
                               have HO_10 := n0_
                               have aa := n1_
                               have ab := n2_
                               have al := n3_
                               have HB := n4_
                               have aZ := n5_
                               clear n0_ n1_ n2_ n3_ n4_ n5_
                               clear ho hb hg hat
                               refine hK.out _ _ trivial (fun hHeld => ?_)
                               clear hK K
                               refine norm_ (a' := ?_) ?_ ?_
                               rotate_left
                               ·show Act.put _ (some 180) _ = _
                                simp only [Act.put, List.setIfInBounds_toArray, List.set_cons_zero, List.set_cons_succ, i64_w, i32_w]
                                rfl
                               refine pure_ (i := 12) (N := some 16) (v := ?_) (a' := ?_) #[true, true, true, true, true, true, true, true, true, true, true, true, true] rfl rfl (any_of HT_.out (by kernel_rfl)) (fun _ _ _ h => h) (Or.inl ⟨by rfl, ?_⟩) ?_ ?_
                               rotate_left
                               ·intro w'
                                go_simp
                                with_reducible rfl
                               rotate_left
                               ·simp only [Act.put, List.setIfInBounds_toArray, List.set_cons_zero, List.set_cons_succ, i64_w, i32_w]
                                rfl
                               refine done_ (done_of HT_.out (by kernel_rfl)) ?_
                               try go_wp2_with (first | ((with_reducible refine gate_callee (f := 13) rfl ?_); refine goesE (some 184) rfl rfl Try.func13 (by kernel_rfl) rfl #[.slice A0 l0.length c0, .int .i64 a1] rfl ?_; (with_reducible refine (share_Split.calls k1 _ _ l0 a1 aH bB _ ?side1 ?side2 db.out).mono ?_); (case side1 => exact Kd.pC ((Kd.C_below HR0.out HB.out))); (case side2 => exact HC0.out); rintro e eF ⟨v402, rfl, ho0, hb⟩; refine ⟨_, rfl, ?_⟩; have n0_ := Rb1 HO_10 hb; have n1_ := Rb1 al hb; have n2_ := Rb1 aZ hb; have n3_ := Aside0.mk (Kd.R_lower ho0 (below_size (pB HB.out))); have n4_ := Aside0.mk (blk_below (pK aa.out) hb); have n5_ := Aside0.mk (blk_below (pK ab.out) hb); have n6_ := Aside0.mk (below_step (pB HB.out) hb); clear HO_10; clear al; clear aZ; clear aa; clear ab; clear HB; have HO_10 := n0_; have al := n1_; have aZ := n2_; have aI := n3_; have aa := n4_; have ab := n5_; have HB := n6_; clear n0_ n1_ n2_ n3_ n4_ n5_ n6_; (try clear hb); (try clear hb2); (try clear hk); (try clear hi); (try clear ho0); obtain ⟨eo, dF, dG⟩ := Kd.R_slice aZ.out; subst dG) | ((with_reducible refine gate_callee (f := 13) rfl ?_); refine goesE (some 190) rfl rfl Try.func13 (by kernel_rfl) rfl #[.slice eo ap.length dF, .int .i64 a1] rfl ?_; (with_reducible refine (share_Split.calls k1 _ _ ap a1 af bG _ ?side1 ?side2 dc.out).mono ?_); (case side1 => exact Kd.pC ((Kd.R_reads' aZ.out).2.2)); (case side2 => exact (Kd.R_reads' aZ.out).2.1); rintro e d5 ⟨v406, rfl, ho0, hb⟩; refine ⟨_, rfl, ?_⟩; have n0_ := Rb1 HO_10 hb; have n1_ := Rb1 al hb; have n2_ := Rb1 aZ hb; have n3_ := Re1 aI ho0 hb; have n4_ := Aside0.mk (Kd.R_lower (Kd.R_new' ho0 (Kd.R_lt (Kd.pR aI.out))) (below_size (pB HB.out))); have n5_ := Aside0.mk (blk_below (pK aa.out) hb); have n6_ := Aside0.mk (blk_below (pK ab.out) hb); have n7_ := Aside0.mk (below_step (pB HB.out) hb); clear HO_10; clear al; clear aZ; clear aI; clear aa; clear ab; clear HB; have HO_10 := n0_; have al := n1_; have aZ := n2_; have aI := n3_; have az := n4_; have aa := n5_; have ab := n6_; have HB := n7_; clear n0_ n1_ n2_ n3_ n4_ n5_ n6_ n7_; (try clear hb); (try clear hb2); (try clear hk); (try clear hi); (try clear ho0); obtain ⟨bm, bk, dH⟩ := Kd.R_slice aI.out; subst dH; obtain ⟨Ao151, ba, dI⟩ := Kd.R_slice az.out; subst dI; have p408 : 0 ≤ (a3 : Int) := od; have q408 : a3 < (af.length : Int) := od; obtain ⟨ad408, e408, ei⟩ := Kd.at_int (Kd.R_reads' az.out).2.2 a3 p408 q408; cases e408; replace p408 := eq_true p408; replace q408 := eq_true q408))
                               have n0_ := Aside0.mk (Kd.R_drew HO_10.out)
                               have n1_ := Aside0.mk (Kd.R_drew al.out)
                               have n2_ := Aside0.mk (Kd.R_drew aZ.out)
                               have n3_ := Aside0.mk (Kd.R_drew aI.out)
                               have n4_ := Aside0.mk (Kd.R_drew az.out)
                               have n5_ := Aside0.mk (blk_drew aa.out)
                               have n6_ := Aside0.mk (blk_drew ab.out)
                               have n7_ := Aside0.mk (below_drew1 HB.out)
                               clear HO_10
                               clear al
                               clear aZ
                               clear aI
                               clear az
                               clear aa
                               clear ab
                               clear HB
                               have HO_10 := n0_
                               have al := n1_
                               have aZ := n2_
                               have aI := n3_
                               have az := n4_
                               have aa := n5_
                               have ab := n6_
                               have HB := n7_
                               clear n0_ n1_ n2_ n3_ n4_ n5_ n6_ n7_
                               have q153 : (a3 : Int) ≤ ((af.length : Int) : Int) := od
                               obtain ⟨i0153, hi0153, _, hsz153, _⟩ := info_parts info2
                               have hroom153 : af.length ≤ ba := (Kd.R_reads' az.out).2.1
                               have hC153 : Kd.C (Kd.int .i64) _ (some ad408) af.length af := (Kd.R_reads' az.out).2.2
                               have hcut153 := cut_to (P := Try.prog) 33 2 .i64 Try.underlying33 hi0153 (some ad408) af.length ba a3 od q153 hroom153
                               have hr153 := Kd.C_take (m := (a3 : Int).toNat) hC153 (by omega)
                               have cz : aj.length = (a3 : Int).toNat := (by rw [cf.out, List.length_take]; omega)
                               rw [← cf.out] at hr153
                               rw [← cz] at hcut153
                               have HR415 := Aside0.mk hr153
                               have HC415 := Aside0.mk (show aj.length ≤ ba from by omega)
                               clear hr153 hC153 hroom153 hi0153 hsz153
                               have KY153 := Aside0.mk cz
                               (try clear cz)
                               have KL153 := Aside0.mk (show (a3 : Int).toNat ≤ af.length from by omega)
                               replace q153 := eq_true q153
                               have q154 : ((ji121) : Int) ≤ ((af.length : Int) : Int) := od
                               obtain ⟨i0154, hi0154, _, hsz154, _⟩ := info_parts info2
                               have hroom154 : af.length ≤ ba := (Kd.R_reads' az.out).2.1
                               have hC154 : Kd.C (Kd.int .i64) _ (some ad408) af.length af := (Kd.R_reads' az.out).2.2
                               have q0154 : (0 : Int) ≤ ((ji121) : Int) := od
                               have hcut154 := cut_from (P := Try.prog) 33 2 .i64 Try.underlying33 hi0154 1 hsz154 (some ad408) af.length ba (ji121) q0154 q154
                               have hr154 := Kd.C_drop (m := ((ji121) : Int).toNat) (c := ba) hC154 (by omega) hroom154
                               obtain ⟨dh, hA154⟩ : ∃ A1, A1 = (if ba = ((ji121) : Int).toNat then (some ad408) else ((some ad408) : Option Addr).map (·.add (((ji121) : Int).toNat * 1))) := ⟨_, rfl⟩
                               obtain ⟨c154, hc154⟩ : ∃ c1, c1 = ba - ((ji121) : Int).toNat := ⟨_, rfl⟩
                               have ck : ad.length = af.length - ((ji121) : Int).toNat := (by rw [cg.out, List.length_drop] <;> omega)
                               rw [show (af).drop ((ji121) : Int).toNat = ad from cg.out.symm] at hr154
                               replace hr154 : Kd.C (Kd.int .i64) _ dh ad.length ad := (by rw [hA154]; exact hr154)
                               rw [← ck, ← hA154, ← hc154] at hcut154
                               have HR422 := Aside0.mk hr154
                               have HC422 := Aside0.mk (show ad.length ≤ c154 from by rw [ck, hc154]; exact Nat.sub_le_sub_right hroom154 _)
                               clear hr154 hC154 hroom154 hi0154 hsz154 hc154
                               have KY154 := Aside0.mk ck
                               have KA154 := Aside0.mk hA154
                               clear ck hA154
                               have KL154 := Aside0.mk (show ((ji121) : Int).toNat ≤ af.length from by omega)
                               replace q154 := eq_true q154
                               refine start_ (n := 16) (S := fun w' => True) (ds := []) #[false, false, false, false, false, false, false, false, false, false, false, false, false, false, false, false] (by kernel_rfl) rfl rfl trivial (fun hHeld => ?_); refine with_tabW spigotlaw36_ShareScales.tab22 spigotlaw36_ShareScales.bits22 (fun HT_ HW_ => ?_)
                               generalize d5.drew = eG at HO_10 al aZ aI az aa ab HB HR415 HR422 hHeld ⊢
                               refine pure_ (i := 0) (N := some 220) (v := ?_) (a' := ?_) #[true, false, false, false, false, false, false, false, false, false, false, false, false, false, false, false] rfl rfl (any_of HT_.out (by kernel_rfl)) (fun _ _ _ h => h) (Or.inl ⟨by rfl, ?_⟩) ?_ ?_
                               rotate_left
                               ·intro w'
                                go_simp
                                with_reducible rfl
                               rotate_left
                               ·simp only [Act.put, List.setIfInBounds_toArray, List.set_cons_zero, List.set_cons_succ, i64_w, i32_w]
                                rfl
                               refine pure_ (i := 1) (N := some 221) (v := ?_) (a' := ?_) #[true, true, false, false, false, false, false, false, false, false, false, false, false, false, false, false] rfl rfl (any_of HT_.out (by kernel_rfl)) (fun _ _ _ h => h) (Or.inl ⟨by rfl, ?_⟩) ?_ ?_
                               rotate_left
                               ·intro w'
                                go_simp
                                with_reducible rfl
                               rotate_left
                               ·simp only [Act.put, List.setIfInBounds_toArray, List.set_cons_zero, List.set_cons_succ, i64_w, i32_w]
                                rfl
                               refine pure_ (i := 3) (N := some 223) (v := ?_) (a' := ?_) #[true, true, false, true, false, false, false, false, false, false, false, false, false, false, false, false] rfl rfl (any_of HT_.out (by kernel_rfl)) (fun _ _ _ h => h) (Or.inl ⟨by rfl, ?_⟩) ?_ ?_
                               rotate_left
                               ·intro w'
                                go_simp
                                with_reducible rfl
                               rotate_left
                               ·simp only [Act.put, List.setIfInBounds_toArray, List.set_cons_zero, List.set_cons_succ, i64_w, i32_w]
                                rfl
                               refine pure_ (i := 4) (N := some 224) (v := ?_) (a' := ?_) #[true, true, false, true, true, false, false, false, false, false, false, false, false, false, false, false] rfl rfl (any_of HT_.out (by kernel_rfl)) (fun _ _ _ h => h) (Or.inl ⟨by rfl, ?_⟩) ?_ ?_
                               rotate_left
                               ·intro w'
                                go_simp
                                with_reducible rfl
                               rotate_left
                               ·simp only [Act.put, List.setIfInBounds_toArray, List.set_cons_zero, List.set_cons_succ, i64_w, i32_w]
                                rfl
                               refine pure_ (i := 5) (N := some 225) (v := ?_) (a' := ?_) #[true, true, false, true, true, true, false, false, false, false, false, false, false, false, false, false] rfl rfl (any_of HT_.out (by kernel_rfl)) (fun _ _ _ h => h) (Or.inl ⟨by rfl, ?_⟩) ?_ ?_
                               rotate_left
                               ·intro w'
                                go_simp
                                with_reducible rfl
                               rotate_left
                               ·simp only [Act.put, List.setIfInBounds_toArray, List.set_cons_zero, List.set_cons_succ, i64_w, i32_w]
                                rfl
                               refine pure_ (i := 7) (N := some 227) (v := ?_) (a' := ?_) #[true, true, false, true, true, true, false, true, false, false, false, false, false, false, false, false] rfl rfl (any_of HT_.out (by kernel_rfl)) (fun _ _ _ h => h) (Or.inl ⟨by rfl, ?_⟩) ?_ ?_
                               rotate_left
                               ·intro w'
                                go_simp
                                with_reducible rfl
                               rotate_left
                               ·simp only [Act.put, List.setIfInBounds_toArray, List.set_cons_zero, List.set_cons_succ, i64_w, i32_w]
                                rfl
                               refine pure_ (i := 8) (N := some 228) (v := ?_) (a' := ?_) #[true, true, false, true, true, true, false, true, true, false, false, false, false, false, false, false] rfl rfl (any_of HT_.out (by kernel_rfl)) (fun _ _ _ h => h) (Or.inl ⟨by rfl, ?_⟩) ?_ ?_
                               rotate_left
                               ·intro w'
                                go_simp
                                with_reducible rfl
                               rotate_left
                               ·simp only [Act.put, List.setIfInBounds_toArray, List.set_cons_zero, List.set_cons_succ, i64_w, i32_w]
                                rfl
                               refine pure_ (i := 9) (N := some 229) (v := ?_) (a' := ?_) #[true, true, false, true, true, true, false, true, true, true, false, false, false, false, false, false] rfl rfl (any_of HT_.out (by kernel_rfl)) (fun _ _ _ h => h) (Or.inl ⟨by rfl, ?_⟩) ?_ ?_
                               rotate_left
                               ·intro w'
                                go_simp
                                with_reducible rfl
                               rotate_left
                               ·simp only [Act.put, List.setIfInBounds_toArray, List.set_cons_zero, List.set_cons_succ, i64_w, i32_w]
                                rfl
                               refine pure_ (i := 10) (N := some 230) (v := ?_) (a' := ?_) #[true, true, false, true, true, true, false, true, true, true, true, false, false, false, false, false] rfl rfl (any_of HT_.out (by kernel_rfl)) (fun _ _ _ h => h) (Or.inl ⟨by rfl, ?_⟩) ?_ ?_
                               rotate_left
                               ·intro w'
                                go_simp
                                with_reducible rfl
                               rotate_left
                               ·simp only [Act.put, List.setIfInBounds_toArray, List.set_cons_zero, List.set_cons_succ, i64_w, i32_w]
                                rfl
                               refine pure_ (i := 12) (N := some 232) (v := ?_) (a' := ?_) #[true, true, false, true, true, true, false, true, true, true, true, false, true, false, false, false] rfl rfl (any_of HT_.out (by kernel_rfl)) (fun _ _ _ h => h) (Or.inl ⟨by rfl, ?_⟩) ?_ ?_
                               rotate_left
                               ·intro w'
                                go_simp
                                with_reducible rfl
                               rotate_left
                               ·simp only [Act.put, List.setIfInBounds_toArray, List.set_cons_zero, List.set_cons_succ, i64_w, i32_w]
                                rfl
                               refine one_ (i := 2) (N := some 222) #[true, true, true, true, true, true, false, true, true, true, true, false, true, false, false, false] rfl rfl (one_of HT_.out (by kernel_rfl)) (by decide) (fun K hK => ?_)
                               refine Kd.R_lit_step (Kd.int .i64) _ 2 ?hg (N := 222) ?hd (xs := ([] : List Int)) (inner := []) (ok := fun _ => True) (okp := fun _ => True) ?hr ?hp (fun _ hk => hk) trivial (Below.refl _ _) (Nat.le_refl _) (by simp) ?_; (case hd => rfl); (case hg => rfl); (case hr => first | (go_simp; done) | (go_simp; rfl)); (case hp => exact (Reps.none _ _))
                               intro d6 eH ho156 hb hg_ hnew_
                               clear hg_ hnew_
                               (first | rw [← cN.out] at ho156 | (simp only [Int.reduceToNat] at ho156; rw [← cN.out] at ho156))
                               have n3_ := Re1 aI ho156 hb
                               have n4_ := Re1 az ho156 hb
                               have n5_ := Aside0.mk (Kd.R_lower (Kd.R_new' (Kd.R_new' ho156 (Kd.R_lt (Kd.pR aI.out))) (Kd.R_lt (Kd.pR az.out))) (below_size (pB HB.out)))
                               have n8_ := Aside0.mk (Kd.C_below (Kd.pC HR415.out) hb)
                               have n9_ := Aside0.mk (Kd.C_below (Kd.pC HR422.out) hb)
                               have n10_ := Aside0.mk (below_step (pB HB.out) hb)
                               (try clear HO_10)
                               (try clear al)
                               (try clear aZ)
                               clear aI
                               clear az
                               (try clear aa)
                               (try clear ab)
                               clear HR415
                               clear HR422
                               clear HB
                               have aI := n3_
                               have az := n4_
                               have cQ := n5_
                               have HR415 := n8_
                               have HR422 := n9_
                               have HB := n10_
                               clear n3_ n4_ n5_ n8_ n9_ n10_
                               clear hb ho156
                               refine hK.out _ _ trivial (fun hHeld => ?_)
                               clear hK K
                               refine norm_ (a' := ?_) ?_ ?_
                               rotate_left
                               ·show Act.put _ (some 222) _ = _
                                simp only [Act.put, List.setIfInBounds_toArray, List.set_cons_zero, List.set_cons_succ, i64_w, i32_w]
                                rfl
                               refine one_ (i := 6) (N := some 226) #[true, true, true, true, true, true, true, true, true, true, true, false, true, false, false, false] rfl rfl (one_of HT_.out (by kernel_rfl)) (by decide) (fun K hK => ?_)
                               refine Kd.R_append_rows_step (Kd.int .i64) (w0 := w) w.heap.size (by rfl) (.tmp 222) (.tmp 225) 33 2 (.int .i64 0) 8 rfl Try.underlying33 info2 rfl (by decide) (by omega) d6 an aj _ _ _ (fun k_ => some k_ ≠ (.slice bm aH.length bk : Value).ownBlock ∧ some k_ ≠ (.slice (some ad408) af.length ba : Value).ownBlock) (fun _ => False) rfl rfl ?aO ?aR (fun _ _ h => h) (fun _ h => h.elim) ?aF ?aB ?aS ?aL ?_
                               (case aR => exact Kd.pC HR415.out)
                               (case aB => exact (pB HB.out))
                               (case aF => exact (fun k_ hk => ⟨Kd.fresh' (Kd.R_lt (Kd.pR aI.out)) k_ hk, Kd.fresh' (Kd.R_lt (Kd.pR az.out)) k_ hk⟩))
                               (case aO => exact (Kd.pR (Kd.R_mono cQ.out (fun _ hk => ⟨hk.1.2, hk.2⟩))))
                               (case aS => exact (below_size (pB HB.out)))
                               (case aL => have := dd.out; omega)
                               intro d7 di ho hb hg hat
                               rw [← dC.out] at ho
                               have n5_ := Aside0.mk (Kd.R_after (ok := (fun k_ => some k_ ≠ (.slice (some ad408) af.length ba : Value).ownBlock)) (Kd.pR (Kd.R_mono aI.out (fun _ hk => ⟨hk.1.2, hk.2⟩))) hg hat)
                               have n6_ := Aside0.mk (Kd.R_after (ok := (fun k_ => some k_ ≠ (.slice bm aH.length bk : Value).ownBlock)) (Kd.pR (Kd.R_mono az.out (fun _ hk => ⟨hk.1.2, hk.2⟩))) hg hat)
                               have n7_ := Aside0.mk (hb)
                               have n8_ := Aside0.mk ((show Kd.C (Kd.int .i64) di (some ad408) aj.length aj from by rw [cf.out]; exact Kd.C_take (m := (a3 : Int).toNat) ((Kd.R_reads' (Kd.R_after (ok := (fun k_ => some k_ ≠ (.slice bm aH.length bk : Value).ownBlock)) (Kd.pR (Kd.R_mono az.out (fun _ hk => ⟨hk.1.2, hk.2⟩))) hg hat)).2.2) KL153.out))
                               have n9_ := Aside0.mk ((show Kd.C (Kd.int .i64) di dh ad.length ad from by rw [cg.out, KA154.out]; exact Kd.C_drop (m := ((ji121) : Int).toNat) (c := ba) ((Kd.R_reads' (Kd.R_after (ok := (fun k_ => some k_ ≠ (.slice bm aH.length bk : Value).ownBlock)) (Kd.pR (Kd.R_mono az.out (fun _ hk => ⟨hk.1.2, hk.2⟩))) hg hat)).2.2) KL154.out ((Kd.R_reads' (Kd.R_after (ok := (fun k_ => some k_ ≠ (.slice bm aH.length bk : Value).ownBlock)) (Kd.pR (Kd.R_mono az.out (fun _ hk => ⟨hk.1.2, hk.2⟩))) hg hat)).2.1)))
                               have n10_ := Aside0.mk (ho)
                               (try clear HO_10)
                               (try clear aa)
                               (try clear ab)
                               (try clear al)
                               (try clear aZ)
                               clear aI
                               clear az
                               clear HB
                               clear HR415
                               clear HR422
                               (try clear cQ)
                               have aI := n5_
                               have az := n6_
                               have HB := n7_
                               have HR415 := n8_
                               have HR422 := n9_
                               have cR := n10_
                               clear n5_ n6_ n7_ n8_ n9_ n10_
                               clear ho hb hg hat
                               refine hK.out _ _ trivial (fun hHeld => ?_)
                               clear hK K
                               refine norm_ (a' := ?_) ?_ ?_
                               rotate_left
                               ·show Act.put _ (some 226) _ = _
                                simp only [Act.put, List.setIfInBounds_toArray, List.set_cons_zero, List.set_cons_succ, i64_w, i32_w]
                                rfl
                               refine one_ (i := 11) (N := some 231) #[true, true, true, true, true, true, true, true, true, true, true, true, true, false, false, false] rfl rfl (one_of HT_.out (by kernel_rfl)) (by decide) (fun K hK => ?_)
                               refine Kd.R_append_rows_step (Kd.int .i64) (w0 := w) w.heap.size (by rfl) (.tmp 226) (.tmp 230) 33 2 (.int .i64 0) 8 rfl Try.underlying33 info2 rfl (by decide) (by omega) d7 ah ad _ _ _ (fun k_ => some k_ ≠ (.slice bm aH.length bk : Value).ownBlock ∧ some k_ ≠ (.slice (some ad408) af.length ba : Value).ownBlock) (fun _ => False) rfl rfl ?aO ?aR (fun _ _ h => h) (fun _ h => h.elim) ?aF ?aB ?aS ?aL ?_
                               (case aR => exact Kd.pC HR422.out)
                               (case aB => exact (pB HB.out))
                               (case aF => exact (fun k_ hk => ⟨Kd.fresh' (Kd.R_lt (Kd.pR aI.out)) k_ hk, Kd.fresh' (Kd.R_lt (Kd.pR az.out)) k_ hk⟩))
                               (case aO => exact (Kd.pR cR.out))
                               (case aS => exact (below_size (pB HB.out)))
                               (case aL => have := de.out; omega)
                               intro eI dj ho hb hg hat
                               rw [← dD.out] at ho
                               have n5_ := Aside0.mk (Kd.R_after (ok := (fun k_ => some k_ ≠ (.slice (some ad408) af.length ba : Value).ownBlock)) (Kd.pR aI.out) hg hat)
                               have n7_ := Aside0.mk (hb)
                               have n8_ := Aside0.mk ((show Kd.C (Kd.int .i64) dj (some ad408) aj.length aj from by rw [cf.out]; exact Kd.C_take (m := (a3 : Int).toNat) ((Kd.R_reads' (Kd.R_after (ok := (fun k_ => some k_ ≠ (.slice bm aH.length bk : Value).ownBlock)) (Kd.pR az.out) hg hat)).2.2) KL153.out))
                               have n9_ := Aside0.mk ((show Kd.C (Kd.int .i64) dj dh ad.length ad from by rw [cg.out, KA154.out]; exact Kd.C_drop (m := ((ji121) : Int).toNat) (c := ba) ((Kd.R_reads' (Kd.R_after (ok := (fun k_ => some k_ ≠ (.slice bm aH.length bk : Value).ownBlock)) (Kd.pR az.out) hg hat)).2.2) KL154.out ((Kd.R_reads' (Kd.R_after (ok := (fun k_ => some k_ ≠ (.slice bm aH.length bk : Value).ownBlock)) (Kd.pR az.out) hg hat)).2.1)))
                               have n10_ := Aside0.mk (ho)
                               (try clear HO_10)
                               (try clear aa)
                               (try clear ab)
                               (try clear al)
                               (try clear aZ)
                               clear aI
                               (try clear az)
                               clear HB
                               clear HR415
                               clear HR422
                               (try clear cR)
                               have aI := n5_
                               have HB := n7_
                               have HR415 := n8_
                               have HR422 := n9_
                               have cA := n10_
                               clear n5_ n7_ n8_ n9_ n10_
                               clear ho hb hg hat
                               obtain ⟨ep, dJ, cS⟩ := Kd.R_slice cA.out
                               (first | subst cS | (injection cS with f1_ f2_ f3_; have f4_ := f1_.symm; have f5_ := f3_.symm; clear f1_ f2_ f3_; subst f4_; subst f5_))
                               refine hK.out _ _ trivial (fun hHeld => ?_)
                               clear hK K
                               refine norm_ (a' := ?_) ?_ ?_
                               rotate_left
                               ·show Act.put _ (some 231) _ = _
                                simp only [Act.put, List.setIfInBounds_toArray, List.set_cons_zero, List.set_cons_succ, i64_w, i32_w]
                                rfl
                               refine one_ (i := 13) (N := some 233) #[true, true, true, true, true, true, true, true, true, true, true, true, true, true, false, false] rfl rfl (one_of HT_.out (by kernel_rfl)) (by decide) (fun K hK => ?_)
                               refine goes_ Try.func14 (by kernel_rfl) rfl #[.slice ep df.length dJ, .slice bm aH.length bk] (by rfl) rfl rfl (by (try simp only [List.map_toArray, List.map_cons, List.map_nil]); first | done | rfl | (simp only [List.length_drop, List.length_take]; rfl)) ?_
                               with_reducible refine (spigotref36_Same.calls k1 _ _ df _ _ aH ar _ ?side1 ?side2 ?side3 ?side4 dU.out).mono ?_
                               (case side1 => exact Kd.pC ((Kd.R_reads' cA.out).2.2))
                               (case side2 => exact (Kd.R_reads' cA.out).2.1)
                               (case side3 => exact Kd.pC ((Kd.R_reads' aI.out).2.2))
                               (case side4 => exact (Kd.R_reads' aI.out).2.1)
                               rintro e w' ⟨rfl, ⟨nd, rfl⟩⟩
                               refine ⟨_, rfl, ?_⟩
                               refine hK.out _ _ trivial (fun hHeld => ?_)
                               clear hK K
                               refine norm_ (a' := ?_) ?_ ?_
                               rotate_left
                               ·show Act.put _ (some 233) _ = _
                                simp only [Act.put, List.setIfInBounds_toArray, List.set_cons_zero, List.set_cons_succ, i64_w, i32_w]
                                rfl
                               refine pure_ (i := 14) (N := some 234) (v := ?_) (a' := ?_) #[true, true, true, true, true, true, true, true, true, true, true, true, true, true, true, false] rfl rfl (any_of HT_.out (by kernel_rfl)) (fun _ _ _ h => h) (Or.inl ⟨by rfl, ?_⟩) ?_ ?_
                               rotate_left
                               ·intro w'
                                go_simp
                                with_reducible rfl
                               rotate_left
                               ·simp only [Act.put, List.setIfInBounds_toArray, List.set_cons_zero, List.set_cons_succ, i64_w, i32_w]
                                rfl
                               refine pure_ (i := 15) (N := some 8) (v := ?_) (a' := ?_) #[true, true, true, true, true, true, true, true, true, true, true, true, true, true, true, true] rfl rfl (any_of HT_.out (by kernel_rfl)) (fun _ _ _ h => h) (Or.inl ⟨by rfl, ?_⟩) ?_ ?_
                               rotate_left
                               ·intro w'
                                go_simp
                                with_reducible rfl
                               rotate_left
                               ·simp only [Act.put, List.setIfInBounds_toArray, List.set_cons_zero, List.set_cons_succ, i64_w, i32_w]
                                rfl
                               refine done_ (done_of HT_.out (by kernel_rfl)) ?_
                               try go_wp2
                               go_ret
                               exact ⟨by first | rfl | (simp [errW_none, errW_some] <;> rfl) | (simp only [← hji121]; first | rfl | (simp [errW_none, errW_some] <;> rfl)) | (simp [*, errW_none, errW_some] <;> rfl) | (rw [HRT.out] <;> rfl) | (simp [HRT.out]; done) | (have h_ := HRT.out; simp [*] at h_ ⊢ <;> first | done | assumption | omega) | (have h_ := HRT.out; simp [*] at h_; done), pB HB.out⟩
                              ·rw [if_neg c124] at H
                               exact absurd H (by simp)
                             ·rw [if_neg c123] at H
                              exact absurd H (by simp)
                            ·rw [if_neg c122] at H
                             exact absurd H (by simp)
                           ·rw [if_neg c120] at H
                            exact absurd H (by simp)
                          ·rw [if_neg c119] at H
                           exact absurd H (by simp)
                         ·rw [if_neg c117] at H
                          have c117b0 : ((rd af a3) == 0) = false := beq_eq_false_iff_ne.mpr c117
                          have c117b1 : ((rd af a3) != 0) = true := bne_iff_ne.mpr c117
                          exact absurd H (by simp)
                        ·rw [if_neg c116] at H
                         exact absurd H (by simp)
                       ·rw [if_neg c115] at H
                        have c115b0 : ((af.length : Int) == (ap.length : Int)) = false := beq_eq_false_iff_ne.mpr c115
                        have c115b1 : ((af.length : Int) != (ap.length : Int)) = true := bne_iff_ne.mpr c115
                        have c115b2 : (af.length == ap.length) = false := by first | simpa using c115 | (simp at c115 ⊢; omega)
                        exact absurd H (by simp)
                      ·rw [if_neg c114] at H
                       have c114b0 : ((aH.length : Int) == (l0.length : Int)) = false := beq_eq_false_iff_ne.mpr c114
                       have c114b1 : ((aH.length : Int) != (l0.length : Int)) = true := bne_iff_ne.mpr c114
                       have c114b2 : (aH.length == l0.length) = false := by first | simpa using c114 | (simp at c114 ⊢; omega)
                       exact absurd H (by simp)
                     ·rw [if_neg c113] at H
                      have c113b0 : (bG == 0) = false := beq_eq_false_iff_ne.mpr c113
                      have c113b1 : (bG != 0) = true := bne_iff_ne.mpr c113
                      exact absurd H (by simp)
                    ·rw [if_neg c112] at H
                     have c112b0 : (bB == 0) = false := beq_eq_false_iff_ne.mpr c112
                     have c112b1 : (bB != 0) = true := bne_iff_ne.mpr c112
                     exact absurd H (by simp)
                   ·rw [if_neg c109] at H
                    exact absurd H (by simp)
                  ·rw [if_neg c106] at H
                   exact absurd H (by simp)
                 ·rw [if_neg c105] at H
                  exact absurd H (by simp)
                ·rw [if_neg c104] at H
                 exact absurd H (by simp)
               ·rw [if_neg c103] at H
                exact absurd H (by simp)
              ·rw [if_neg c102] at H
               have c102b0 : (aT == 6) = false := beq_eq_false_iff_ne.mpr c102
               have c102b1 : (aT != 6) = true := bne_iff_ne.mpr c102
               exact absurd H (by simp)
            ·rw [if_neg c33] at H
             have c33b0 : (aT == bx) = false := beq_eq_false_iff_ne.mpr c33
             have c33b1 : (aT != bx) = true := bne_iff_ne.mpr c33
             exact absurd H (by simp)
   ·rw [if_neg c10] at H
    have c10b0 : (a6 == 0) = false := beq_eq_false_iff_ne.mpr c10
    have c10b1 : (a6 != 0) = true := bne_iff_ne.mpr c10
    clear H
    go_enter Try.func4, Try.ntmps4
    go_wp2_with (first | ((with_reducible refine gate_callee (f := 9) rfl ?_); refine goesE (some 21) rfl rfl Try.func9 (by kernel_rfl) rfl #[] rfl ?_; (with_reducible refine (spigotlaw36_alive.calls k   _ A5.out).mono ?_); rintro e eJ ⟨rfl, hb⟩; refine ⟨_, rfl, ?_⟩; have n0_ := Aside0.mk (below_step (pB HB.out) hb); clear HB; have HB := n0_; clear n0_; (try clear hb); (try clear hb2); (try clear hk); (try clear hi)) | (go_at_call 10; (with_reducible refine (spigotref36_Asked.calls k _ _ l0 a1 a6 _ ?side1 ?side2 A9.out).mono ?_); (case side1 => exact Kd.pC ((Kd.C_below HR0.out HB.out))); (case side2 => exact HC0.out); rintro e w' ⟨rfl, ⟨nd, rfl⟩⟩))
    go_ret
    exact ⟨by first | rfl | (simp [errW_none, errW_some] <;> rfl) | (simp [*, errW_none, errW_some] <;> rfl), pB HB.out⟩
 ·replace c6 := Bool.eq_false_iff.mpr c6
  subst c6
  have H1 : (none) = some true := by rw [if_neg (show ¬ (false = true) by decide)] at H; exact H
  clear H
  have H := H1
  clear H1
  exact absurd H (by simp)

/-- THE ONE PURE STATEMENT of spigotlaw36_ShareScales. -/
def spigotlaw36_ShareScales.Pure : Prop := ∀ (l0 : List (S37)) (a1 : Int) (a2 : Int) (a3 : Int), ((∀ x ∈ l0, ((Lit.int .i64 x.f0).wf = true) ∧ ((Lit.int .i64 x.f1).wf = true)) ∧ l0.length ≤ maxLen) → ((Lit.int .i64 a1).wf = true) → ((Lit.int .i64 a2).wf = true) → ((Lit.int .i64 a3).wf = true) → ∃ k, spigotlaw36_ShareScales.f k l0 a1 a2 a3 = some true

end Go.Proofs.Yteeceppbnkkfpaa.PShare
