-- printed by a program of this session (a turned copy of the kit's print); Lean checks it
import Derived.Test.YtlgfopdindklnaaArenaShort
import Derived.Test.YtlgfopdindklnaaPArenax0
import Derived.Test.YtlgfopdindklnaaPArenax2
import Derived.Test.YtlgfopdindklnaaPArenax4
import Derived.Test.YtlgfopdindklnaaPArenax5
import Derived.Test.YtlgfopdindklnaaPArenax6
import Derived.Test.YtlgfopdindklnaaPArenax7
import Derived.Test.YtlgfopdindklnaaPArenax8
import Derived.Test.YtlgfopdindklnaaPArenax18
namespace Go.Proofs.Ytlgfopdindklnaa.PArena
open Go.RowKit Go.Proofs.YtlgfopdindklnaaW.PrintWords Go.Proofs.YtlgfopdindklnaaW.PrintLast Go.Proofs.YtlgfopdindklnaaW.PrintMore
attribute [local go_sem] max2_int min2_int max_two min_two max_three min_three max_four min_four   -- for this text's walks alone
set_option linter.unusedVariables false
set_option linter.unusedSimpArgs false

/-! ### spigotlaw13_ArenaNames: function 7 -/
def spigotlaw13_ArenaNames.l0 : Nat → List (S36) → Int → Option (Bool)
 | 0, _, _ => none
 | k + 1, x1, x2 => if x2 < (x1.length : Int) then (if 0 ≤ x2 then ((arena_Take.f k ((rd_T36 x1 x2).f0) ((rd_T36 x1 x2).f1) ((rd_T36 x1 x2).f2)).bind fun bt557 => ((arena_Check.f k ((rd_T36 x1 x2).f0) ((rd_T36 x1 x2).f1) ((rd_T36 x1 x2).f2)).bind fun d4 => (if d4 = 8 then (if bt557.2.2.2.2 = 8 then (spigotlaw13_ArenaNames.l0 k x1 (wrap64 (x2 + 1))) else (some false)) else (some false)))) else (none)) else ((arena_New.f k 0).bind fun bt569 => ((arena_New.f k 17).bind fun bt578 => ((arena_New.f k 16).bind fun bt587 => ((some (([(-1)] : List Int) : List Int)).bind fun ax => ((some (([true] : List Bool) : List Bool)).bind fun ay => ((arena_Take.f k ax ay (-1)).bind fun bt603 => ((arena_New.f k 1).bind fun bt613 => ((arena_Give.f k bt613.1 bt613.2.1 bt613.2.2.1 0).bind fun bt622 => ((arena_Give.f k ax ay (-1) 1).bind fun bt631 => ((arena_Give.f k ax ay (-1) (-1)).bind fun bt640 => ((arena_Give.f k ax ay (-1) 0).bind fun bt649 => ((arena_Count.f k ax ay (-1)).bind fun bt658 => ((arena_Count.f k ([] : List Int) ([] : List Bool) 0).bind fun bt661 => ((spigotlaw13_alive.f k).bind fun b8 => (if b8 = true then (if bt569.2.2.2 = 2 then (if bt578.2.2.2 = 2 then (if bt587.2.2.2 = 0 then (if (bt587.1.length : Int) = 16 then (if bt603.2.2.2.2 = 18 then (if bt613.2.2.2 = 0 then (if bt622.2.2.2 = 36 then (if bt631.2.2.2 = 2 then (if bt640.2.2.2 = 2 then (if bt649.2.2.2 = 0 then ((spigotref13_Same.f k bt649.1 bt649.2.1 bt649.2.2.1 bt613.1 bt613.2.1 bt613.2.2.1).bind fun bY => (if bY = true then (if bt658.2.2 = 0 then (if bt658.1 = 1 then (if bt658.2.1 = 0 then (some (bt661.2.2 == 8)) else (some false)) else (some false)) else (some false)) else (some false))) else (some false)) else (some false)) else (some false)) else (some false)) else (some false)) else (some false)) else (some false)) else (some false)) else (some false)) else (some false)) else (none))))))))))))))))
def spigotlaw13_ArenaNames.f (k : Nat)  : Option (Bool) := if 17 ≤ 35184372088832 then (if 17 ≤ 281474976710656 then (if 1 ≤ 281474976710656 then (if 2 ≤ 281474976710656 then (spigotlaw13_ArenaNames.l0 k (([(⟨([] : List Int), ([] : List Bool), 0⟩ : S36), (⟨(List.replicate 17 0), (List.replicate 17 false), 0⟩ : S36), (⟨(([(-1)] : List Int)), ([] : List Bool), 0⟩ : S36), (⟨(([0] : List Int)), (List.replicate 1 false), 0⟩ : S36), (⟨(([(-1)] : List Int)), (List.replicate 1 false), 1⟩ : S36), (⟨(([(-1)] : List Int)), (List.replicate 1 false), (-2)⟩ : S36), (⟨(([(-1), (-1)] : List Int)), (List.replicate 2 false), 0⟩ : S36), (⟨(([(-1)] : List Int)), (([true] : List Bool)), 0⟩ : S36), (⟨(([(-1), 0] : List Int)), (([false, true] : List Bool)), 0⟩ : S36), (⟨(([(-1)] : List Int)), (List.replicate 1 false), (-1)⟩ : S36)] : List (S36))) 0) else (none)) else (none)) else (none)) else (none)
theorem spigotlaw13_ArenaNames.mono_l : ∀ k, (∀ y0 y1, LeO (spigotlaw13_ArenaNames.l0 k y0 y1) (spigotlaw13_ArenaNames.l0 (k + 1) y0 y1))
 | 0 => fun _ _ r h => by simp [spigotlaw13_ArenaNames.l0] at h
 | k + 1 => by
  have ih0 := spigotlaw13_ArenaNames.mono_l k
  ·intro y0 y1
   unfold spigotlaw13_ArenaNames.l0
   repeat' first
   | (with_reducible exact ih0 _ _)
   | (with_reducible exact arena_Check.mono _ _ _ _)
   | (with_reducible exact arena_Count.mono _ _ _ _)
   | (with_reducible exact arena_Give.mono _ _ _ _ _)
   | (with_reducible exact arena_New.mono _ _)
   | (with_reducible exact arena_Take.mono _ _ _ _)
   | (with_reducible exact spigotlaw13_alive.mono _)
   | (with_reducible exact spigotref13_Same.mono _ _ _ _ _ _ _)
   | (with_reducible exact LeO.refl _)
   | (with_reducible exact LeO.none _)
   | (with_reducible refine LeO.ite ?_ ?_)
   | (with_reducible refine LeO.bind ?_ (fun _ => ?_))
   | exact ih0 _ _
   | exact arena_Check.mono _ _ _ _
   | exact arena_Count.mono _ _ _ _
   | exact arena_Give.mono _ _ _ _ _
   | exact arena_New.mono _ _
   | exact arena_Take.mono _ _ _ _
   | exact spigotlaw13_alive.mono _
   | exact spigotref13_Same.mono _ _ _ _ _ _ _
   | exact LeO.none _
   | refine LeO.ite ?_ ?_
   | refine LeO.bind ?_ (fun _ => ?_)
theorem spigotlaw13_ArenaNames.mono : ∀ k, LeO (spigotlaw13_ArenaNames.f k ) (spigotlaw13_ArenaNames.f (k + 1) ) := by
 intro  k
 have ih0 := spigotlaw13_ArenaNames.mono_l k
 unfold spigotlaw13_ArenaNames.f
 repeat' first
   | (with_reducible exact ih0 _ _)
   | (with_reducible exact arena_Check.mono _ _ _ _)
   | (with_reducible exact arena_Count.mono _ _ _ _)
   | (with_reducible exact arena_Give.mono _ _ _ _ _)
   | (with_reducible exact arena_New.mono _ _)
   | (with_reducible exact arena_Take.mono _ _ _ _)
   | (with_reducible exact spigotlaw13_alive.mono _)
   | (with_reducible exact spigotref13_Same.mono _ _ _ _ _ _ _)
   | (with_reducible exact LeO.refl _)
   | (with_reducible exact LeO.none _)
   | (with_reducible refine LeO.ite ?_ ?_)
   | (with_reducible refine LeO.bind ?_ (fun _ => ?_))
   | exact ih0 _ _
   | exact arena_Check.mono _ _ _ _
   | exact arena_Count.mono _ _ _ _
   | exact arena_Give.mono _ _ _ _ _
   | exact arena_New.mono _ _
   | exact arena_Take.mono _ _ _ _
   | exact spigotlaw13_alive.mono _
   | exact spigotref13_Same.mono _ _ _ _ _ _ _
   | exact LeO.none _
   | refine LeO.ite ?_ ?_
   | refine LeO.bind ?_ (fun _ => ?_)
def spigotlaw13_ArenaNames.T1 : Bool × List (List Nat × List Nat) := (true, [([], []), ([], []), ([], []), ([1, 2], [1, 2]), ([], []), ([4], [4]), ([], []), ([], []), ([6, 7], [6, 7]), ([], []), ([], []), ([9, 10], [9, 10]), ([], []), ([], []), ([12, 13], [12, 13]), ([], []), ([], []), ([15, 16], [15, 16]), ([], []), ([], []), ([18, 19], [18, 19]), ([], []), ([], []), ([21, 22], [21, 22]), ([], []), ([], []), ([24, 25], [24, 25]), ([0, 3, 5, 8, 11, 14, 17, 20, 23, 26], [0, 3, 5, 8, 11, 14, 17, 20, 23, 26]), ([27, 0, 1, 2, 3, 4, 5, 6, 7, 8, 9, 10, 11, 12, 13, 14, 15, 16, 17, 18, 19, 20, 21, 22, 23, 24, 25, 26, 27], [27])])
def spigotlaw13_ArenaNames.B1 : List Nat := [0, 0, 0, 6, 0, 16, 0, 0, 192, 0, 0, 1536, 0, 0, 12288, 0, 0, 98304, 0, 0, 786432, 0, 0, 6291456, 0, 0, 50331648, 134217727, 268435455]
theorem spigotlaw13_ArenaNames.tab1 : rtab .any (opsOf Try.f7 1) = spigotlaw13_ArenaNames.T1 := by kernel_rfl
theorem spigotlaw13_ArenaNames.bits1 : waitsOk spigotlaw13_ArenaNames.T1.2 spigotlaw13_ArenaNames.B1 = true := by kernel_rfl
set_option maxHeartbeats 8000000 in
set_option maxRecDepth 100000 in
theorem spigotlaw13_ArenaNames.calls (k : Nat)  (w : World) (h : spigotlaw13_ArenaNames.f k  = some true) :
  Calls Try.prog 7 #[] w fun e w' => e = .returned (.bool true) ∧ Below w.heap.size w w' := by
 have hu36 := Try.underlying36
 have HB := Aside0.mk (Below.refl w.heap.size w)
 have H : (if 17 ≤ 35184372088832 then (if 17 ≤ 281474976710656 then (if 1 ≤ 281474976710656 then (if 2 ≤ 281474976710656 then (spigotlaw13_ArenaNames.l0 k (([(⟨([] : List Int), ([] : List Bool), 0⟩ : S36), (⟨(List.replicate 17 0), (List.replicate 17 false), 0⟩ : S36), (⟨(([(-1)] : List Int)), ([] : List Bool), 0⟩ : S36), (⟨(([0] : List Int)), (List.replicate 1 false), 0⟩ : S36), (⟨(([(-1)] : List Int)), (List.replicate 1 false), 1⟩ : S36), (⟨(([(-1)] : List Int)), (List.replicate 1 false), (-2)⟩ : S36), (⟨(([(-1), (-1)] : List Int)), (List.replicate 2 false), 0⟩ : S36), (⟨(([(-1)] : List Int)), (([true] : List Bool)), 0⟩ : S36), (⟨(([(-1), 0] : List Int)), (([false, true] : List Bool)), 0⟩ : S36), (⟨(([(-1)] : List Int)), (List.replicate 1 false), (-1)⟩ : S36)] : List (S36))) 0) else (none)) else (none)) else (none)) else (none)) = some true := h
 (try clear h)
 by_cases c1 : 17 ≤ 35184372088832
 ·rw [if_pos c1] at H
  have c1b0 := eq_true c1
  have c1b1 : decide (17 ≤ 35184372088832) = true := decide_eq_true c1
  clear c1
  obtain ⟨ez, ec⟩ : ∃ y_ : List Int, y_ = (List.replicate 17 0) := ⟨_, rfl⟩
  replace H : (if 17 ≤ 281474976710656 then (if 1 ≤ 281474976710656 then (if 2 ≤ 281474976710656 then (spigotlaw13_ArenaNames.l0 k (([(⟨([] : List Int), ([] : List Bool), 0⟩ : S36), (⟨ez, (List.replicate 17 false), 0⟩ : S36), (⟨(([(-1)] : List Int)), ([] : List Bool), 0⟩ : S36), (⟨(([0] : List Int)), (List.replicate 1 false), 0⟩ : S36), (⟨(([(-1)] : List Int)), (List.replicate 1 false), 1⟩ : S36), (⟨(([(-1)] : List Int)), (List.replicate 1 false), (-2)⟩ : S36), (⟨(([(-1), (-1)] : List Int)), (List.replicate 2 false), 0⟩ : S36), (⟨(([(-1)] : List Int)), (([true] : List Bool)), 0⟩ : S36), (⟨(([(-1), 0] : List Int)), (([false, true] : List Bool)), 0⟩ : S36), (⟨(([(-1)] : List Int)), (List.replicate 1 false), (-1)⟩ : S36)] : List (S36))) 0) else (none)) else (none)) else (none)) = some true := by first | (rw [ec]; with_reducible exact H) | (have H2_ := (Option.bind_some _ _).symm.trans H; rw [ec]; with_reducible exact H2_) | (have H2_ := (Option.bind_some _ _).symm.trans H; with_reducible exact H2_) | with_reducible exact H | (rw [ec]; exact H) | exact H
  have gy := Aside0.mk ec
  (try clear ec)
  by_cases c2 : 17 ≤ 281474976710656
  ·rw [if_pos c2] at H
   have c2b0 := eq_true c2
   have c2b1 : decide (17 ≤ 281474976710656) = true := decide_eq_true c2
   clear c2
   obtain ⟨cg, ed⟩ : ∃ y_ : List Bool, y_ = (List.replicate 17 false) := ⟨_, rfl⟩
   replace H : (if 1 ≤ 281474976710656 then (if 2 ≤ 281474976710656 then (spigotlaw13_ArenaNames.l0 k (([(⟨([] : List Int), ([] : List Bool), 0⟩ : S36), (⟨ez, cg, 0⟩ : S36), (⟨(([(-1)] : List Int)), ([] : List Bool), 0⟩ : S36), (⟨(([0] : List Int)), (List.replicate 1 false), 0⟩ : S36), (⟨(([(-1)] : List Int)), (List.replicate 1 false), 1⟩ : S36), (⟨(([(-1)] : List Int)), (List.replicate 1 false), (-2)⟩ : S36), (⟨(([(-1), (-1)] : List Int)), (List.replicate 2 false), 0⟩ : S36), (⟨(([(-1)] : List Int)), (([true] : List Bool)), 0⟩ : S36), (⟨(([(-1), 0] : List Int)), (([false, true] : List Bool)), 0⟩ : S36), (⟨(([(-1)] : List Int)), (List.replicate 1 false), (-1)⟩ : S36)] : List (S36))) 0) else (none)) else (none)) = some true := by first | (rw [ed]; with_reducible exact H) | (have H2_ := (Option.bind_some _ _).symm.trans H; rw [ed]; with_reducible exact H2_) | (have H2_ := (Option.bind_some _ _).symm.trans H; with_reducible exact H2_) | with_reducible exact H | (rw [ed]; exact H) | exact H
   have gz := Aside0.mk ed
   (try clear ed)
   obtain ⟨d9, ee⟩ : ∃ y_ : List Int, y_ = (([(-1)] : List Int)) := ⟨_, rfl⟩
   replace H : (if 1 ≤ 281474976710656 then (if 2 ≤ 281474976710656 then (spigotlaw13_ArenaNames.l0 k (([(⟨([] : List Int), ([] : List Bool), 0⟩ : S36), (⟨ez, cg, 0⟩ : S36), (⟨d9, ([] : List Bool), 0⟩ : S36), (⟨(([0] : List Int)), (List.replicate 1 false), 0⟩ : S36), (⟨(([(-1)] : List Int)), (List.replicate 1 false), 1⟩ : S36), (⟨(([(-1)] : List Int)), (List.replicate 1 false), (-2)⟩ : S36), (⟨(([(-1), (-1)] : List Int)), (List.replicate 2 false), 0⟩ : S36), (⟨(([(-1)] : List Int)), (([true] : List Bool)), 0⟩ : S36), (⟨(([(-1), 0] : List Int)), (([false, true] : List Bool)), 0⟩ : S36), (⟨(([(-1)] : List Int)), (List.replicate 1 false), (-1)⟩ : S36)] : List (S36))) 0) else (none)) else (none)) = some true := by first | (rw [ee]; with_reducible exact H) | (have H2_ := (Option.bind_some _ _).symm.trans H; rw [ee]; with_reducible exact H2_) | (have H2_ := (Option.bind_some _ _).symm.trans H; with_reducible exact H2_) | with_reducible exact H | (rw [ee]; exact H) | exact H
   have gA := Aside0.mk ee
   (try clear ee)
   obtain ⟨eA, ef⟩ : ∃ y_ : List Int, y_ = (([0] : List Int)) := ⟨_, rfl⟩
   replace H : (if 1 ≤ 281474976710656 then (if 2 ≤ 281474976710656 then (spigotlaw13_ArenaNames.l0 k (([(⟨([] : List Int), ([] : List Bool), 0⟩ : S36), (⟨ez, cg, 0⟩ : S36), (⟨d9, ([] : List Bool), 0⟩ : S36), (⟨eA, (List.replicate 1 false), 0⟩ : S36), (⟨(([(-1)] : List Int)), (List.replicate 1 false), 1⟩ : S36), (⟨(([(-1)] : List Int)), (List.replicate 1 false), (-2)⟩ : S36), (⟨(([(-1), (-1)] : List Int)), (List.replicate 2 false), 0⟩ : S36), (⟨(([(-1)] : List Int)), (([true] : List Bool)), 0⟩ : S36), (⟨(([(-1), 0] : List Int)), (([false, true] : List Bool)), 0⟩ : S36), (⟨(([(-1)] : List Int)), (List.replicate 1 false), (-1)⟩ : S36)] : List (S36))) 0) else (none)) else (none)) = some true := by first | (rw [ef]; with_reducible exact H) | (have H2_ := (Option.bind_some _ _).symm.trans H; rw [ef]; with_reducible exact H2_) | (have H2_ := (Option.bind_some _ _).symm.trans H; with_reducible exact H2_) | with_reducible exact H | (rw [ef]; exact H) | exact H
   have gB := Aside0.mk ef
   (try clear ef)
   by_cases c3 : 1 ≤ 281474976710656
   ·rw [if_pos c3] at H
    have c3b0 := eq_true c3
    have c3b1 : decide (1 ≤ 281474976710656) = true := decide_eq_true c3
    clear c3
    obtain ⟨cp, eg⟩ : ∃ y_ : List Bool, y_ = (List.replicate 1 false) := ⟨_, rfl⟩
    replace H : (if 2 ≤ 281474976710656 then (spigotlaw13_ArenaNames.l0 k (([(⟨([] : List Int), ([] : List Bool), 0⟩ : S36), (⟨ez, cg, 0⟩ : S36), (⟨d9, ([] : List Bool), 0⟩ : S36), (⟨eA, cp, 0⟩ : S36), (⟨(([(-1)] : List Int)), (List.replicate 1 false), 1⟩ : S36), (⟨(([(-1)] : List Int)), (List.replicate 1 false), (-2)⟩ : S36), (⟨(([(-1), (-1)] : List Int)), (List.replicate 2 false), 0⟩ : S36), (⟨(([(-1)] : List Int)), (([true] : List Bool)), 0⟩ : S36), (⟨(([(-1), 0] : List Int)), (([false, true] : List Bool)), 0⟩ : S36), (⟨(([(-1)] : List Int)), (List.replicate 1 false), (-1)⟩ : S36)] : List (S36))) 0) else (none)) = some true := by first | (rw [eg]; with_reducible exact H) | (have H2_ := (Option.bind_some _ _).symm.trans H; rw [eg]; with_reducible exact H2_) | (have H2_ := (Option.bind_some _ _).symm.trans H; with_reducible exact H2_) | with_reducible exact H | (rw [eg]; exact H) | exact H
    have gC := Aside0.mk eg
    (try clear eg)
    obtain ⟨eB, eh⟩ : ∃ y_ : List Int, y_ = (([(-1)] : List Int)) := ⟨_, rfl⟩
    replace H : (if 2 ≤ 281474976710656 then (spigotlaw13_ArenaNames.l0 k (([(⟨([] : List Int), ([] : List Bool), 0⟩ : S36), (⟨ez, cg, 0⟩ : S36), (⟨d9, ([] : List Bool), 0⟩ : S36), (⟨eA, cp, 0⟩ : S36), (⟨eB, (List.replicate 1 false), 1⟩ : S36), (⟨(([(-1)] : List Int)), (List.replicate 1 false), (-2)⟩ : S36), (⟨(([(-1), (-1)] : List Int)), (List.replicate 2 false), 0⟩ : S36), (⟨(([(-1)] : List Int)), (([true] : List Bool)), 0⟩ : S36), (⟨(([(-1), 0] : List Int)), (([false, true] : List Bool)), 0⟩ : S36), (⟨(([(-1)] : List Int)), (List.replicate 1 false), (-1)⟩ : S36)] : List (S36))) 0) else (none)) = some true := by first | (rw [eh]; with_reducible exact H) | (have H2_ := (Option.bind_some _ _).symm.trans H; rw [eh]; with_reducible exact H2_) | (have H2_ := (Option.bind_some _ _).symm.trans H; with_reducible exact H2_) | with_reducible exact H | (rw [eh]; exact H) | exact H
    have gD := Aside0.mk eh
    (try clear eh)
    obtain ⟨cu, ei⟩ : ∃ y_ : List Bool, y_ = (List.replicate 1 false) := ⟨_, rfl⟩
    replace H : (if 2 ≤ 281474976710656 then (spigotlaw13_ArenaNames.l0 k (([(⟨([] : List Int), ([] : List Bool), 0⟩ : S36), (⟨ez, cg, 0⟩ : S36), (⟨d9, ([] : List Bool), 0⟩ : S36), (⟨eA, cp, 0⟩ : S36), (⟨eB, cu, 1⟩ : S36), (⟨(([(-1)] : List Int)), (List.replicate 1 false), (-2)⟩ : S36), (⟨(([(-1), (-1)] : List Int)), (List.replicate 2 false), 0⟩ : S36), (⟨(([(-1)] : List Int)), (([true] : List Bool)), 0⟩ : S36), (⟨(([(-1), 0] : List Int)), (([false, true] : List Bool)), 0⟩ : S36), (⟨(([(-1)] : List Int)), (List.replicate 1 false), (-1)⟩ : S36)] : List (S36))) 0) else (none)) = some true := by first | (rw [ei]; with_reducible exact H) | (have H2_ := (Option.bind_some _ _).symm.trans H; rw [ei]; with_reducible exact H2_) | (have H2_ := (Option.bind_some _ _).symm.trans H; with_reducible exact H2_) | with_reducible exact H | (rw [ei]; exact H) | exact H
    have gE := Aside0.mk ei
    (try clear ei)
    obtain ⟨eC, ej⟩ : ∃ y_ : List Int, y_ = (([(-1)] : List Int)) := ⟨_, rfl⟩
    replace H : (if 2 ≤ 281474976710656 then (spigotlaw13_ArenaNames.l0 k (([(⟨([] : List Int), ([] : List Bool), 0⟩ : S36), (⟨ez, cg, 0⟩ : S36), (⟨d9, ([] : List Bool), 0⟩ : S36), (⟨eA, cp, 0⟩ : S36), (⟨eB, cu, 1⟩ : S36), (⟨eC, (List.replicate 1 false), (-2)⟩ : S36), (⟨(([(-1), (-1)] : List Int)), (List.replicate 2 false), 0⟩ : S36), (⟨(([(-1)] : List Int)), (([true] : List Bool)), 0⟩ : S36), (⟨(([(-1), 0] : List Int)), (([false, true] : List Bool)), 0⟩ : S36), (⟨(([(-1)] : List Int)), (List.replicate 1 false), (-1)⟩ : S36)] : List (S36))) 0) else (none)) = some true := by first | (rw [ej]; with_reducible exact H) | (have H2_ := (Option.bind_some _ _).symm.trans H; rw [ej]; with_reducible exact H2_) | (have H2_ := (Option.bind_some _ _).symm.trans H; with_reducible exact H2_) | with_reducible exact H | (rw [ej]; exact H) | exact H
    have gF := Aside0.mk ej
    (try clear ej)
    obtain ⟨cB, ek⟩ : ∃ y_ : List Bool, y_ = (List.replicate 1 false) := ⟨_, rfl⟩
    replace H : (if 2 ≤ 281474976710656 then (spigotlaw13_ArenaNames.l0 k (([(⟨([] : List Int), ([] : List Bool), 0⟩ : S36), (⟨ez, cg, 0⟩ : S36), (⟨d9, ([] : List Bool), 0⟩ : S36), (⟨eA, cp, 0⟩ : S36), (⟨eB, cu, 1⟩ : S36), (⟨eC, cB, (-2)⟩ : S36), (⟨(([(-1), (-1)] : List Int)), (List.replicate 2 false), 0⟩ : S36), (⟨(([(-1)] : List Int)), (([true] : List Bool)), 0⟩ : S36), (⟨(([(-1), 0] : List Int)), (([false, true] : List Bool)), 0⟩ : S36), (⟨(([(-1)] : List Int)), (List.replicate 1 false), (-1)⟩ : S36)] : List (S36))) 0) else (none)) = some true := by first | (rw [ek]; with_reducible exact H) | (have H2_ := (Option.bind_some _ _).symm.trans H; rw [ek]; with_reducible exact H2_) | (have H2_ := (Option.bind_some _ _).symm.trans H; with_reducible exact H2_) | with_reducible exact H | (rw [ek]; exact H) | exact H
    have gG := Aside0.mk ek
    (try clear ek)
    obtain ⟨eD, el⟩ : ∃ y_ : List Int, y_ = (([(-1), (-1)] : List Int)) := ⟨_, rfl⟩
    replace H : (if 2 ≤ 281474976710656 then (spigotlaw13_ArenaNames.l0 k (([(⟨([] : List Int), ([] : List Bool), 0⟩ : S36), (⟨ez, cg, 0⟩ : S36), (⟨d9, ([] : List Bool), 0⟩ : S36), (⟨eA, cp, 0⟩ : S36), (⟨eB, cu, 1⟩ : S36), (⟨eC, cB, (-2)⟩ : S36), (⟨eD, (List.replicate 2 false), 0⟩ : S36), (⟨(([(-1)] : List Int)), (([true] : List Bool)), 0⟩ : S36), (⟨(([(-1), 0] : List Int)), (([false, true] : List Bool)), 0⟩ : S36), (⟨(([(-1)] : List Int)), (List.replicate 1 false), (-1)⟩ : S36)] : List (S36))) 0) else (none)) = some true := by first | (rw [el]; with_reducible exact H) | (have H2_ := (Option.bind_some _ _).symm.trans H; rw [el]; with_reducible exact H2_) | (have H2_ := (Option.bind_some _ _).symm.trans H; with_reducible exact H2_) | with_reducible exact H | (rw [el]; exact H) | exact H
    have gH := Aside0.mk el
    (try clear el)
    by_cases c4 : 2 ≤ 281474976710656
    ·rw [if_pos c4] at H
     have c4b0 := eq_true c4
     have c4b1 : decide (2 ≤ 281474976710656) = true := decide_eq_true c4
     clear c4
     obtain ⟨cE, em⟩ : ∃ y_ : List Bool, y_ = (List.replicate 2 false) := ⟨_, rfl⟩
     replace H : (spigotlaw13_ArenaNames.l0 k (([(⟨([] : List Int), ([] : List Bool), 0⟩ : S36), (⟨ez, cg, 0⟩ : S36), (⟨d9, ([] : List Bool), 0⟩ : S36), (⟨eA, cp, 0⟩ : S36), (⟨eB, cu, 1⟩ : S36), (⟨eC, cB, (-2)⟩ : S36), (⟨eD, cE, 0⟩ : S36), (⟨(([(-1)] : List Int)), (([true] : List Bool)), 0⟩ : S36), (⟨(([(-1), 0] : List Int)), (([false, true] : List Bool)), 0⟩ : S36), (⟨(([(-1)] : List Int)), (List.replicate 1 false), (-1)⟩ : S36)] : List (S36))) 0) = some true := by first | (rw [em]; with_reducible exact H) | (have H2_ := (Option.bind_some _ _).symm.trans H; rw [em]; with_reducible exact H2_) | (have H2_ := (Option.bind_some _ _).symm.trans H; with_reducible exact H2_) | with_reducible exact H | (rw [em]; exact H) | exact H
     have gI := Aside0.mk em
     (try clear em)
     obtain ⟨eE, en⟩ : ∃ y_ : List Int, y_ = (([(-1)] : List Int)) := ⟨_, rfl⟩
     replace H : (spigotlaw13_ArenaNames.l0 k (([(⟨([] : List Int), ([] : List Bool), 0⟩ : S36), (⟨ez, cg, 0⟩ : S36), (⟨d9, ([] : List Bool), 0⟩ : S36), (⟨eA, cp, 0⟩ : S36), (⟨eB, cu, 1⟩ : S36), (⟨eC, cB, (-2)⟩ : S36), (⟨eD, cE, 0⟩ : S36), (⟨eE, (([true] : List Bool)), 0⟩ : S36), (⟨(([(-1), 0] : List Int)), (([false, true] : List Bool)), 0⟩ : S36), (⟨(([(-1)] : List Int)), (List.replicate 1 false), (-1)⟩ : S36)] : List (S36))) 0) = some true := by first | (rw [en]; with_reducible exact H) | (have H2_ := (Option.bind_some _ _).symm.trans H; rw [en]; with_reducible exact H2_) | (have H2_ := (Option.bind_some _ _).symm.trans H; with_reducible exact H2_) | with_reducible exact H | (rw [en]; exact H) | exact H
     have gJ := Aside0.mk en
     (try clear en)
     obtain ⟨cJ, eo⟩ : ∃ y_ : List Bool, y_ = (([true] : List Bool)) := ⟨_, rfl⟩
     replace H : (spigotlaw13_ArenaNames.l0 k (([(⟨([] : List Int), ([] : List Bool), 0⟩ : S36), (⟨ez, cg, 0⟩ : S36), (⟨d9, ([] : List Bool), 0⟩ : S36), (⟨eA, cp, 0⟩ : S36), (⟨eB, cu, 1⟩ : S36), (⟨eC, cB, (-2)⟩ : S36), (⟨eD, cE, 0⟩ : S36), (⟨eE, cJ, 0⟩ : S36), (⟨(([(-1), 0] : List Int)), (([false, true] : List Bool)), 0⟩ : S36), (⟨(([(-1)] : List Int)), (List.replicate 1 false), (-1)⟩ : S36)] : List (S36))) 0) = some true := by first | (rw [eo]; with_reducible exact H) | (have H2_ := (Option.bind_some _ _).symm.trans H; rw [eo]; with_reducible exact H2_) | (have H2_ := (Option.bind_some _ _).symm.trans H; with_reducible exact H2_) | with_reducible exact H | (rw [eo]; exact H) | exact H
     have gK := Aside0.mk eo
     (try clear eo)
     obtain ⟨eF, ep⟩ : ∃ y_ : List Int, y_ = (([(-1), 0] : List Int)) := ⟨_, rfl⟩
     replace H : (spigotlaw13_ArenaNames.l0 k (([(⟨([] : List Int), ([] : List Bool), 0⟩ : S36), (⟨ez, cg, 0⟩ : S36), (⟨d9, ([] : List Bool), 0⟩ : S36), (⟨eA, cp, 0⟩ : S36), (⟨eB, cu, 1⟩ : S36), (⟨eC, cB, (-2)⟩ : S36), (⟨eD, cE, 0⟩ : S36), (⟨eE, cJ, 0⟩ : S36), (⟨eF, (([false, true] : List Bool)), 0⟩ : S36), (⟨(([(-1)] : List Int)), (List.replicate 1 false), (-1)⟩ : S36)] : List (S36))) 0) = some true := by first | (rw [ep]; with_reducible exact H) | (have H2_ := (Option.bind_some _ _).symm.trans H; rw [ep]; with_reducible exact H2_) | (have H2_ := (Option.bind_some _ _).symm.trans H; with_reducible exact H2_) | with_reducible exact H | (rw [ep]; exact H) | exact H
     have gL := Aside0.mk ep
     (try clear ep)
     obtain ⟨cQ, eq⟩ : ∃ y_ : List Bool, y_ = (([false, true] : List Bool)) := ⟨_, rfl⟩
     replace H : (spigotlaw13_ArenaNames.l0 k (([(⟨([] : List Int), ([] : List Bool), 0⟩ : S36), (⟨ez, cg, 0⟩ : S36), (⟨d9, ([] : List Bool), 0⟩ : S36), (⟨eA, cp, 0⟩ : S36), (⟨eB, cu, 1⟩ : S36), (⟨eC, cB, (-2)⟩ : S36), (⟨eD, cE, 0⟩ : S36), (⟨eE, cJ, 0⟩ : S36), (⟨eF, cQ, 0⟩ : S36), (⟨(([(-1)] : List Int)), (List.replicate 1 false), (-1)⟩ : S36)] : List (S36))) 0) = some true := by first | (rw [eq]; with_reducible exact H) | (have H2_ := (Option.bind_some _ _).symm.trans H; rw [eq]; with_reducible exact H2_) | (have H2_ := (Option.bind_some _ _).symm.trans H; with_reducible exact H2_) | with_reducible exact H | (rw [eq]; exact H) | exact H
     have gM := Aside0.mk eq
     (try clear eq)
     obtain ⟨eG, er⟩ : ∃ y_ : List Int, y_ = (([(-1)] : List Int)) := ⟨_, rfl⟩
     replace H : (spigotlaw13_ArenaNames.l0 k (([(⟨([] : List Int), ([] : List Bool), 0⟩ : S36), (⟨ez, cg, 0⟩ : S36), (⟨d9, ([] : List Bool), 0⟩ : S36), (⟨eA, cp, 0⟩ : S36), (⟨eB, cu, 1⟩ : S36), (⟨eC, cB, (-2)⟩ : S36), (⟨eD, cE, 0⟩ : S36), (⟨eE, cJ, 0⟩ : S36), (⟨eF, cQ, 0⟩ : S36), (⟨eG, (List.replicate 1 false), (-1)⟩ : S36)] : List (S36))) 0) = some true := by first | (rw [er]; with_reducible exact H) | (have H2_ := (Option.bind_some _ _).symm.trans H; rw [er]; with_reducible exact H2_) | (have H2_ := (Option.bind_some _ _).symm.trans H; with_reducible exact H2_) | with_reducible exact H | (rw [er]; exact H) | exact H
     have gN := Aside0.mk er
     (try clear er)
     obtain ⟨c0, es⟩ : ∃ y_ : List Bool, y_ = (List.replicate 1 false) := ⟨_, rfl⟩
     replace H : (spigotlaw13_ArenaNames.l0 k (([(⟨([] : List Int), ([] : List Bool), 0⟩ : S36), (⟨ez, cg, 0⟩ : S36), (⟨d9, ([] : List Bool), 0⟩ : S36), (⟨eA, cp, 0⟩ : S36), (⟨eB, cu, 1⟩ : S36), (⟨eC, cB, (-2)⟩ : S36), (⟨eD, cE, 0⟩ : S36), (⟨eE, cJ, 0⟩ : S36), (⟨eF, cQ, 0⟩ : S36), (⟨eG, c0, (-1)⟩ : S36)] : List (S36))) 0) = some true := by first | (rw [es]; with_reducible exact H) | (have H2_ := (Option.bind_some _ _).symm.trans H; rw [es]; with_reducible exact H2_) | (have H2_ := (Option.bind_some _ _).symm.trans H; with_reducible exact H2_) | with_reducible exact H | (rw [es]; exact H) | exact H
     have gO := Aside0.mk es
     (try clear es)
     obtain ⟨b4, et⟩ : ∃ y_ : List (S36), y_ = (([(⟨([] : List Int), ([] : List Bool), 0⟩ : S36), (⟨ez, cg, 0⟩ : S36), (⟨d9, ([] : List Bool), 0⟩ : S36), (⟨eA, cp, 0⟩ : S36), (⟨eB, cu, 1⟩ : S36), (⟨eC, cB, (-2)⟩ : S36), (⟨eD, cE, 0⟩ : S36), (⟨eE, cJ, 0⟩ : S36), (⟨eF, cQ, 0⟩ : S36), (⟨eG, c0, (-1)⟩ : S36)] : List (S36))) := ⟨_, rfl⟩
     replace H : (spigotlaw13_ArenaNames.l0 k b4 0) = some true := by first | (rw [et]; with_reducible exact H) | (have H2_ := (Option.bind_some _ _).symm.trans H; rw [et]; with_reducible exact H2_) | (have H2_ := (Option.bind_some _ _).symm.trans H; with_reducible exact H2_) | with_reducible exact H | (rw [et]; exact H) | exact H
     have gP := Aside0.mk et
     (try clear et)
     have H' := Aside0.mk H
     clear H
     go_enter Try.func7, Try.ntmps7
     try go_wp2
     have n0_ := Aside0.mk (below_drew1 HB.out)
     clear HB
     have HB := n0_
     clear n0_
     refine start_ (n := 29) (S := fun w' => True) (ds := []) #[false, false, false, false, false, false, false, false, false, false, false, false, false, false, false, false, false, false, false, false, false, false, false, false, false, false, false, false, false] (by kernel_rfl) rfl rfl trivial (fun hHeld => ?_); refine with_tabW spigotlaw13_ArenaNames.tab1 spigotlaw13_ArenaNames.bits1 (fun HT_ HW_ => ?_)
     generalize w.drew = w5 at HB hHeld ⊢
     refine inv_at [0, 1, 2, 3, 4, 5, 6, 7, 8, 9, 10, 11, 12, 13, 14, 15, 16, 17, 18, 19, 20, 21, 22, 23, 24, 25, 26, 27, 28] (fun a0_ b a w' => ∃ (ey : Value) (aV : Value) (ba : Value) (aW : Value) (aX : Value) (aY : Value) (aZ : Value) (a0 : Value) (a1 : Value) (a2 : Value) (a3 : Value) (a4 : Value) (a5 : Value) (a6 : Value) (a7 : Value) (a8 : Value) (a9 : Value) (aT : Value) (m3_ : Value) (m5_ : Value) (m8_ : Value) (bb : Value) (bc : Value) (bd : Value) (be : Value) (bf : Value) (bg : Value) (bh : Value), a = putSel a0_ b [(0, 32, .agg #[.slice none 0 0, .slice none 0 0, .int .i64 0]), (1, 33, ey), (2, 34, aV), (3, 35, m3_), (4, 36, ba), (5, 37, m5_), (6, 38, aW), (7, 39, aX), (8, 40, m8_), (9, 41, aY), (10, 42, aZ), (11, 43, bb), (12, 44, a0), (13, 45, a1), (14, 46, bc), (15, 47, a2), (16, 48, a3), (17, 49, bd), (18, 50, a4), (19, 51, a5), (20, 52, be), (21, 53, a6), (22, 54, a7), (23, 55, bf), (24, 56, a8), (25, 57, a9), (26, 58, bg), (27, 59, aT), (28, 1, bh)] ∧ (Below w.heap.size w w') ∧ (b 1 = true → b 27 = false → Kd.R (Kd.int .i64) 3 w' w.heap.size (fun _ => True) ey ez) ∧ (b 2 = true → b 27 = false → Kd.R Kd.bool 4 w' w.heap.size (fun _ => True) aV cg) ∧ (b 4 = true → b 27 = false → Kd.R (Kd.int .i64) 3 w' w.heap.size (fun _ => True) ba d9) ∧ (b 6 = true → b 27 = false → Kd.R (Kd.int .i64) 3 w' w.heap.size (fun _ => True) aW eA) ∧ (b 7 = true → b 27 = false → Kd.R Kd.bool 4 w' w.heap.size (fun _ => True) aX cp) ∧ (b 9 = true → b 27 = false → Kd.R (Kd.int .i64) 3 w' w.heap.size (fun _ => True) aY eB) ∧ (b 10 = true → b 27 = false → Kd.R Kd.bool 4 w' w.heap.size (fun _ => True) aZ cu) ∧ (b 12 = true → b 27 = false → Kd.R (Kd.int .i64) 3 w' w.heap.size (fun _ => True) a0 eC) ∧ (b 13 = true → b 27 = false → Kd.R Kd.bool 4 w' w.heap.size (fun _ => True) a1 cB) ∧ (b 15 = true → b 27 = false → Kd.R (Kd.int .i64) 3 w' w.heap.size (fun _ => True) a2 eD) ∧ (b 16 = true → b 27 = false → Kd.R Kd.bool 4 w' w.heap.size (fun _ => True) a3 cE) ∧ (b 18 = true → b 27 = false → Kd.R (Kd.int .i64) 3 w' w.heap.size (fun _ => True) a4 eE) ∧ (b 19 = true → b 27 = false → Kd.R Kd.bool 4 w' w.heap.size (fun _ => True) a5 cJ) ∧ (b 21 = true → b 27 = false → Kd.R (Kd.int .i64) 3 w' w.heap.size (fun _ => True) a6 eF) ∧ (b 22 = true → b 27 = false → Kd.R Kd.bool 4 w' w.heap.size (fun _ => True) a7 cQ) ∧ (b 24 = true → b 27 = false → Kd.R (Kd.int .i64) 3 w' w.heap.size (fun _ => True) a8 eG) ∧ (b 25 = true → b 27 = false → Kd.R Kd.bool 4 w' w.heap.size (fun _ => True) a9 c0) ∧ (b 27 = true → Kd.N k36 36 w' w.heap.size (fun _ => True) aT b4) ∧ (b 3 = true → (m3_ : Value) = .agg #[ey, aV, .int .i64 0]) ∧ (b 5 = true → (m5_ : Value) = .agg #[ba, .slice none 0 0, .int .i64 0]) ∧ (b 8 = true → (m8_ : Value) = .agg #[aW, aX, .int .i64 0]) ∧ (b 11 = true → (bb : Value) = .agg #[aY, aZ, .int .i64 1]) ∧ (b 14 = true → (bc : Value) = .agg #[a0, a1, .int .i64 (-2)]) ∧ (b 17 = true → (bd : Value) = .agg #[a2, a3, .int .i64 0]) ∧ (b 20 = true → (be : Value) = .agg #[a4, a5, .int .i64 0]) ∧ (b 23 = true → (bf : Value) = .agg #[a6, a7, .int .i64 0]) ∧ (b 26 = true → (bg : Value) = .agg #[a8, a9, .int .i64 (-1)]) ∧ (b 28 = true → (bh : Value) = aT)) HT_.out HW_.out (by kernel_rfl) (by kernel_rfl) ?_ ?_ ?_
     ·exact ⟨.bool false, .bool false, .bool false, .bool false, .bool false, .bool false, .bool false, .bool false, .bool false, .bool false, .bool false, .bool false, .bool false, .bool false, .bool false, .bool false, .bool false, .bool false, .bool false, .bool false, .bool false, .bool false, .bool false, .bool false, .bool false, .bool false, .bool false, .bool false, by simp only [putSel, Bool.false_eq_true, if_false], HB.out, fun h_ => absurd h_ (by decide), fun h_ => absurd h_ (by decide), fun h_ => absurd h_ (by decide), fun h_ => absurd h_ (by decide), fun h_ => absurd h_ (by decide), fun h_ => absurd h_ (by decide), fun h_ => absurd h_ (by decide), fun h_ => absurd h_ (by decide), fun h_ => absurd h_ (by decide), fun h_ => absurd h_ (by decide), fun h_ => absurd h_ (by decide), fun h_ => absurd h_ (by decide), fun h_ => absurd h_ (by decide), fun h_ => absurd h_ (by decide), fun h_ => absurd h_ (by decide), fun h_ => absurd h_ (by decide), fun h_ => absurd h_ (by decide), fun h_ => absurd h_ (by decide), fun h_ => absurd h_ (by decide), fun h_ => absurd h_ (by decide), fun h_ => absurd h_ (by decide), fun h_ => absurd h_ (by decide), fun h_ => absurd h_ (by decide), fun h_ => absurd h_ (by decide), fun h_ => absurd h_ (by decide), fun h_ => absurd h_ (by decide), fun h_ => absurd h_ (by decide), fun h_ => absurd h_ (by decide)⟩
     ·skip
      clear HB
      refine steps_cons ?_ ?_
      ·rintro b a w' ⟨ey, aV, ba, aW, aX, aY, aZ, a0, a1, a2, a3, a4, a5, a6, a7, a8, a9, aT, m3_, m5_, m8_, bb, bc, bd, be, bf, bg, bh, ha, Q_HB, ab, ac, ad, ae, af, ag, ah, ai, aj, ak, al, am, an, ao, ap, aq, ar, bi, aO, aN, aP, aC, aD, aE, aF, aG, aH, bC⟩ hb_ hon hoff
       refine ⟨_, rfl, fun K hK => ?_⟩
       replace ha := Aside0.mk ha
       have HB := Aside0.mk Q_HB
       refine value_ (w1 := w') (v := .agg #[.slice none 0 0, .slice none 0 0, .int .i64 0]) (by rfl) rfl ?_ ?_
       ·go_simp
        (try simp only [i64_w])
        try rfl
       refine hK.out _ _ ⟨ey, aV, ba, aW, aX, aY, aZ, a0, a1, a2, a3, a4, a5, a6, a7, a8, a9, aT, m3_, m5_, m8_, bb, bc, bd, be, bf, bg, bh, (by rw [ha.out]; exact putSel_upk 0 hb_ rfl rfl rfl), Q_HB, ab, ac, ad, ae, af, ag, ah, ai, aj, ak, al, am, an, ao, ap, aq, ar, fun h0_ => absurd ((hoff 27 (by kernel_rfl)).symm.trans h0_) (by decide), aO, aN, aP, aC, aD, aE, aF, aG, aH, fun h0_ => absurd ((hoff 28 (by kernel_rfl)).symm.trans h0_) (by decide)⟩
      refine steps_cons ?_ ?_
      ·rintro b a w' ⟨ey, aV, ba, aW, aX, aY, aZ, a0, a1, a2, a3, a4, a5, a6, a7, a8, a9, aT, m3_, m5_, m8_, bb, bc, bd, be, bf, bg, bh, ha, Q_HB, ab, ac, ad, ae, af, ag, ah, ai, aj, ak, al, am, an, ao, ap, aq, ar, bi, aO, aN, aP, aC, aD, aE, aF, aG, aH, bC⟩ hb_ hon hoff
       refine ⟨_, rfl, fun K hK => ?_⟩
       replace ha := Aside0.mk ha
       have HB := Aside0.mk Q_HB
       refine Kd.R_make_step (Kd.int .i64) _ 3 (by rfl) (N := 33) rfl 33 _ _ rfl 17 rfl rfl Try.underlying33 (.int .i64 0) 8 info3 rfl (by decide) (by omega) 0 (ok := fun _ => True) (okp := fun _ => True) rfl (fun _ hk => hk) trivial (by omega) (by omega) (Below.refl _ _) (Nat.le_refl _) ?_
       intro ey w6 ho7 hb hg_ hnew_
       clear hg_ hnew_
       (first | rw [← gy.out] at ho7 | (simp only [Int.reduceToNat] at ho7; rw [← gy.out] at ho7))
       have n0_ := Aside0.mk (Kd.R_lower ho7 (below_size (pB HB.out)))
       have n1_ := Aside0.mk (below_step (pB HB.out) hb)
       have z_HO507 := fun (h0_ : b 2 = true) (h1_ : b 27 = false) => (Rb5 (ac h0_ h1_) hb)
       have z_HO510 := fun (h0_ : b 4 = true) (h1_ : b 27 = false) => (Re5 (ad h0_ h1_) ho7 hb)
       have z_HO513 := fun (h0_ : b 6 = true) (h1_ : b 27 = false) => (Re5 (ae h0_ h1_) ho7 hb)
       have z_HO516 := fun (h0_ : b 7 = true) (h1_ : b 27 = false) => (Rb5 (af h0_ h1_) hb)
       have z_HO519 := fun (h0_ : b 9 = true) (h1_ : b 27 = false) => (Re5 (ag h0_ h1_) ho7 hb)
       have z_HO522 := fun (h0_ : b 10 = true) (h1_ : b 27 = false) => (Rb5 (ah h0_ h1_) hb)
       have z_HO525 := fun (h0_ : b 12 = true) (h1_ : b 27 = false) => (Re5 (ai h0_ h1_) ho7 hb)
       have z_HO528 := fun (h0_ : b 13 = true) (h1_ : b 27 = false) => (Rb5 (aj h0_ h1_) hb)
       have z_HO531 := fun (h0_ : b 15 = true) (h1_ : b 27 = false) => (Re5 (ak h0_ h1_) ho7 hb)
       have z_HO534 := fun (h0_ : b 16 = true) (h1_ : b 27 = false) => (Rb5 (al h0_ h1_) hb)
       have z_HO537 := fun (h0_ : b 18 = true) (h1_ : b 27 = false) => (Re5 (am h0_ h1_) ho7 hb)
       have z_HO540 := fun (h0_ : b 19 = true) (h1_ : b 27 = false) => (Rb5 (an h0_ h1_) hb)
       have z_HO543 := fun (h0_ : b 21 = true) (h1_ : b 27 = false) => (Re5 (ao h0_ h1_) ho7 hb)
       have z_HO546 := fun (h0_ : b 22 = true) (h1_ : b 27 = false) => (Rb5 (ap h0_ h1_) hb)
       have z_HO549 := fun (h0_ : b 24 = true) (h1_ : b 27 = false) => (Re5 (aq h0_ h1_) ho7 hb)
       have z_HO552 := fun (h0_ : b 25 = true) (h1_ : b 27 = false) => (Rb5 (ar h0_ h1_) hb)
       clear HB
       have c7 := n0_
       have HB := n1_
       clear n0_ n1_
       clear hb ho7
       refine hK.out _ _ ⟨ey, aV, ba, aW, aX, aY, aZ, a0, a1, a2, a3, a4, a5, a6, a7, a8, a9, aT, m3_, m5_, m8_, bb, bc, bd, be, bf, bg, bh, (by rw [ha.out]; exact putSel_upk 1 hb_ rfl rfl rfl), (pB HB.out), fun _ _ => (Kd.pR c7.out), z_HO507, z_HO510, z_HO513, z_HO516, z_HO519, z_HO522, z_HO525, z_HO528, z_HO531, z_HO534, z_HO537, z_HO540, z_HO543, z_HO546, z_HO549, z_HO552, fun h0_ => absurd ((hoff 27 (by kernel_rfl)).symm.trans h0_) (by decide), fun h0_ => absurd ((hoff 3 (by kernel_rfl)).symm.trans h0_) (by decide), aN, aP, aC, aD, aE, aF, aG, aH, fun h0_ => absurd ((hoff 28 (by kernel_rfl)).symm.trans h0_) (by decide)⟩
      refine steps_cons ?_ ?_
      ·rintro b a w' ⟨ey, aV, ba, aW, aX, aY, aZ, a0, a1, a2, a3, a4, a5, a6, a7, a8, a9, aT, m3_, m5_, m8_, bb, bc, bd, be, bf, bg, bh, ha, Q_HB, ab, ac, ad, ae, af, ag, ah, ai, aj, ak, al, am, an, ao, ap, aq, ar, bi, aO, aN, aP, aC, aD, aE, aF, aG, aH, bC⟩ hb_ hon hoff
       refine ⟨_, rfl, fun K hK => ?_⟩
       replace ha := Aside0.mk ha
       have HB := Aside0.mk Q_HB
       refine Kd.R_make_step Kd.bool _ 4 (by rfl) (N := 34) rfl 34 _ _ rfl 17 rfl rfl Try.underlying34 (.bool false) 1 info4 rfl (by decide) (by omega) false (ok := fun _ => True) (okp := fun _ => True) rfl (fun _ hk => hk) trivial (by omega) (by omega) (Below.refl _ _) (Nat.le_refl _) ?_
       intro aV w6 ho7 hb hg_ hnew_
       clear hg_ hnew_
       (first | rw [← gz.out] at ho7 | (simp only [Int.reduceToNat] at ho7; rw [← gz.out] at ho7))
       have n0_ := Aside0.mk (Kd.R_lower ho7 (below_size (pB HB.out)))
       have n1_ := Aside0.mk (below_step (pB HB.out) hb)
       have z_HO504 := fun (h0_ : b 1 = true) (h1_ : b 27 = false) => (Rb5 (ab h0_ h1_) hb)
       have z_HO510 := fun (h0_ : b 4 = true) (h1_ : b 27 = false) => (Rb5 (ad h0_ h1_) hb)
       have z_HO513 := fun (h0_ : b 6 = true) (h1_ : b 27 = false) => (Rb5 (ae h0_ h1_) hb)
       have z_HO516 := fun (h0_ : b 7 = true) (h1_ : b 27 = false) => (Re5 (af h0_ h1_) ho7 hb)
       have z_HO519 := fun (h0_ : b 9 = true) (h1_ : b 27 = false) => (Rb5 (ag h0_ h1_) hb)
       have z_HO522 := fun (h0_ : b 10 = true) (h1_ : b 27 = false) => (Re5 (ah h0_ h1_) ho7 hb)
       have z_HO525 := fun (h0_ : b 12 = true) (h1_ : b 27 = false) => (Rb5 (ai h0_ h1_) hb)
       have z_HO528 := fun (h0_ : b 13 = true) (h1_ : b 27 = false) => (Re5 (aj h0_ h1_) ho7 hb)
       have z_HO531 := fun (h0_ : b 15 = true) (h1_ : b 27 = false) => (Rb5 (ak h0_ h1_) hb)
       have z_HO534 := fun (h0_ : b 16 = true) (h1_ : b 27 = false) => (Re5 (al h0_ h1_) ho7 hb)
       have z_HO537 := fun (h0_ : b 18 = true) (h1_ : b 27 = false) => (Rb5 (am h0_ h1_) hb)
       have z_HO540 := fun (h0_ : b 19 = true) (h1_ : b 27 = false) => (Re5 (an h0_ h1_) ho7 hb)
       have z_HO543 := fun (h0_ : b 21 = true) (h1_ : b 27 = false) => (Rb5 (ao h0_ h1_) hb)
       have z_HO546 := fun (h0_ : b 22 = true) (h1_ : b 27 = false) => (Re5 (ap h0_ h1_) ho7 hb)
       have z_HO549 := fun (h0_ : b 24 = true) (h1_ : b 27 = false) => (Rb5 (aq h0_ h1_) hb)
       have z_HO552 := fun (h0_ : b 25 = true) (h1_ : b 27 = false) => (Re5 (ar h0_ h1_) ho7 hb)
       clear HB
       have c8 := n0_
       have HB := n1_
       clear n0_ n1_
       clear hb ho7
       refine hK.out _ _ ⟨ey, aV, ba, aW, aX, aY, aZ, a0, a1, a2, a3, a4, a5, a6, a7, a8, a9, aT, m3_, m5_, m8_, bb, bc, bd, be, bf, bg, bh, (by rw [ha.out]; exact putSel_upk 2 hb_ rfl rfl rfl), (pB HB.out), z_HO504, fun _ _ => (Kd.pR c8.out), z_HO510, z_HO513, z_HO516, z_HO519, z_HO522, z_HO525, z_HO528, z_HO531, z_HO534, z_HO537, z_HO540, z_HO543, z_HO546, z_HO549, z_HO552, fun h0_ => absurd ((hoff 27 (by kernel_rfl)).symm.trans h0_) (by decide), fun h0_ => absurd ((hoff 3 (by kernel_rfl)).symm.trans h0_) (by decide), aN, aP, aC, aD, aE, aF, aG, aH, fun h0_ => absurd ((hoff 28 (by kernel_rfl)).symm.trans h0_) (by decide)⟩
      refine steps_cons ?_ ?_
      ·rintro b a w' ⟨ey, aV, ba, aW, aX, aY, aZ, a0, a1, a2, a3, a4, a5, a6, a7, a8, a9, aT, m3_, m5_, m8_, bb, bc, bd, be, bf, bg, bh, ha, Q_HB, ab, ac, ad, ae, af, ag, ah, ai, aj, ak, al, am, an, ao, ap, aq, ar, bi, aO, aN, aP, aC, aD, aE, aF, aG, aH, bC⟩ hb_ hon hoff
       refine ⟨_, rfl, fun K hK => ?_⟩
       have e33 : a.tmps[33]? = some (ey) := by rw [ha]; exact putSel_on (e := (1, 33, ey)) 1 rfl rfl (hon 1 (by kernel_rfl)) rfl
       have e34 : a.tmps[34]? = some (aV) := by rw [ha]; exact putSel_on (e := (2, 34, aV)) 2 rfl rfl (hon 2 (by kernel_rfl)) rfl
       replace ha := Aside0.mk ha
       have HB := Aside0.mk Q_HB
       have c7 := Aside0.mk (ab (hon 1 (by kernel_rfl)) (hoff 27 (by kernel_rfl)))
       have c8 := Aside0.mk (ac (hon 2 (by kernel_rfl)) (hoff 27 (by kernel_rfl)))
       obtain ⟨gQ, eY, eo_⟩ := Kd.R_slice c7.out
       subst eo_
       obtain ⟨gR, eZ, eo_⟩ := Kd.R_slice c8.out
       subst eo_
       refine value_ (w1 := w') (v := .agg #[.slice gQ ez.length eY, .slice gR cg.length eZ, .int .i64 0]) (by rfl) rfl ?_ ?_
       ·go_simp
        (try simp only [i64_w])
        try rfl
       refine hK.out _ _ ⟨.slice gQ ez.length eY, .slice gR cg.length eZ, ba, aW, aX, aY, aZ, a0, a1, a2, a3, a4, a5, a6, a7, a8, a9, aT, (.agg #[.slice gQ ez.length eY, .slice gR cg.length eZ, .int .i64 0]), m5_, m8_, bb, bc, bd, be, bf, bg, bh, (by rw [ha.out]; exact putSel_upk 3 hb_ rfl rfl rfl), Q_HB, ab, ac, ad, ae, af, ag, ah, ai, aj, ak, al, am, an, ao, ap, aq, ar, fun h0_ => absurd ((hoff 27 (by kernel_rfl)).symm.trans h0_) (by decide), fun _ => rfl, aN, aP, aC, aD, aE, aF, aG, aH, fun h0_ => absurd ((hoff 28 (by kernel_rfl)).symm.trans h0_) (by decide)⟩
      refine steps_cons ?_ ?_
      ·rintro b a w' ⟨ey, aV, ba, aW, aX, aY, aZ, a0, a1, a2, a3, a4, a5, a6, a7, a8, a9, aT, m3_, m5_, m8_, bb, bc, bd, be, bf, bg, bh, ha, Q_HB, ab, ac, ad, ae, af, ag, ah, ai, aj, ak, al, am, an, ao, ap, aq, ar, bi, aO, aN, aP, aC, aD, aE, aF, aG, aH, bC⟩ hb_ hon hoff
       refine ⟨_, rfl, fun K hK => ?_⟩
       replace ha := Aside0.mk ha
       have HB := Aside0.mk Q_HB
       refine Kd.R_lit_step (Kd.int .i64) _ 3 ?hg (N := 36) ?hd (xs := ([(-1)] : List Int)) (inner := [.int .i64 (-1)]) (ok := fun _ => True) (okp := fun _ => True) ?hr ?hp (fun _ hk => hk) trivial (Below.refl _ _) (Nat.le_refl _) (by simp) ?_; (case hd => rfl); (case hg => rfl); (case hr => first | (go_simp; done) | (go_simp; rfl)); (case hp => exact (Reps.one (show Kd.M (Kd.int .i64) _ _ _ (-1) [.int .i64 (-1)] from rfl) (Reps.none _ _)))
       intro ba w6 ho7 hb hg_ hnew_
       clear hg_ hnew_
       (first | rw [← gA.out] at ho7 | (simp only [Int.reduceToNat] at ho7; rw [← gA.out] at ho7))
       have n0_ := Aside0.mk (Kd.R_lower ho7 (below_size (pB HB.out)))
       have n1_ := Aside0.mk (below_step (pB HB.out) hb)
       have z_HO504 := fun (h0_ : b 1 = true) (h1_ : b 27 = false) => (Re5 (ab h0_ h1_) ho7 hb)
       have z_HO507 := fun (h0_ : b 2 = true) (h1_ : b 27 = false) => (Rb5 (ac h0_ h1_) hb)
       have z_HO513 := fun (h0_ : b 6 = true) (h1_ : b 27 = false) => (Re5 (ae h0_ h1_) ho7 hb)
       have z_HO516 := fun (h0_ : b 7 = true) (h1_ : b 27 = false) => (Rb5 (af h0_ h1_) hb)
       have z_HO519 := fun (h0_ : b 9 = true) (h1_ : b 27 = false) => (Re5 (ag h0_ h1_) ho7 hb)
       have z_HO522 := fun (h0_ : b 10 = true) (h1_ : b 27 = false) => (Rb5 (ah h0_ h1_) hb)
       have z_HO525 := fun (h0_ : b 12 = true) (h1_ : b 27 = false) => (Re5 (ai h0_ h1_) ho7 hb)
       have z_HO528 := fun (h0_ : b 13 = true) (h1_ : b 27 = false) => (Rb5 (aj h0_ h1_) hb)
       have z_HO531 := fun (h0_ : b 15 = true) (h1_ : b 27 = false) => (Re5 (ak h0_ h1_) ho7 hb)
       have z_HO534 := fun (h0_ : b 16 = true) (h1_ : b 27 = false) => (Rb5 (al h0_ h1_) hb)
       have z_HO537 := fun (h0_ : b 18 = true) (h1_ : b 27 = false) => (Re5 (am h0_ h1_) ho7 hb)
       have z_HO540 := fun (h0_ : b 19 = true) (h1_ : b 27 = false) => (Rb5 (an h0_ h1_) hb)
       have z_HO543 := fun (h0_ : b 21 = true) (h1_ : b 27 = false) => (Re5 (ao h0_ h1_) ho7 hb)
       have z_HO546 := fun (h0_ : b 22 = true) (h1_ : b 27 = false) => (Rb5 (ap h0_ h1_) hb)
       have z_HO549 := fun (h0_ : b 24 = true) (h1_ : b 27 = false) => (Re5 (aq h0_ h1_) ho7 hb)
       have z_HO552 := fun (h0_ : b 25 = true) (h1_ : b 27 = false) => (Rb5 (ar h0_ h1_) hb)
       clear HB
       have cW := n0_
       have HB := n1_
       clear n0_ n1_
       clear hb ho7
       obtain ⟨Ao8, co8, eo8⟩ := Kd.R_slice cW.out
       (first | subst eo8 | (injection eo8 with f1_ f2_ f3_; have f4_ := f1_.symm; have f5_ := f3_.symm; clear f1_ f2_ f3_; subst f4_; subst f5_))
       refine hK.out _ _ ⟨ey, aV, .slice Ao8 d9.length co8, aW, aX, aY, aZ, a0, a1, a2, a3, a4, a5, a6, a7, a8, a9, aT, m3_, m5_, m8_, bb, bc, bd, be, bf, bg, bh, (by rw [ha.out]; exact putSel_upk 4 hb_ rfl rfl rfl), (pB HB.out), z_HO504, z_HO507, fun _ _ => (Kd.pR cW.out), z_HO513, z_HO516, z_HO519, z_HO522, z_HO525, z_HO528, z_HO531, z_HO534, z_HO537, z_HO540, z_HO543, z_HO546, z_HO549, z_HO552, fun h0_ => absurd ((hoff 27 (by kernel_rfl)).symm.trans h0_) (by decide), aO, fun h0_ => absurd ((hoff 5 (by kernel_rfl)).symm.trans h0_) (by decide), aP, aC, aD, aE, aF, aG, aH, fun h0_ => absurd ((hoff 28 (by kernel_rfl)).symm.trans h0_) (by decide)⟩
      refine steps_cons ?_ ?_
      ·rintro b a w' ⟨ey, aV, ba, aW, aX, aY, aZ, a0, a1, a2, a3, a4, a5, a6, a7, a8, a9, aT, m3_, m5_, m8_, bb, bc, bd, be, bf, bg, bh, ha, Q_HB, ab, ac, ad, ae, af, ag, ah, ai, aj, ak, al, am, an, ao, ap, aq, ar, bi, aO, aN, aP, aC, aD, aE, aF, aG, aH, bC⟩ hb_ hon hoff
       refine ⟨_, rfl, fun K hK => ?_⟩
       have e36 : a.tmps[36]? = some (ba) := by rw [ha]; exact putSel_on (e := (4, 36, ba)) 4 rfl rfl (hon 4 (by kernel_rfl)) rfl
       replace ha := Aside0.mk ha
       have HB := Aside0.mk Q_HB
       have cW := Aside0.mk (ad (hon 4 (by kernel_rfl)) (hoff 27 (by kernel_rfl)))
       obtain ⟨gS, e0, eo_⟩ := Kd.R_slice cW.out
       subst eo_
       refine value_ (w1 := w') (v := .agg #[.slice gS d9.length e0, .slice none 0 0, .int .i64 0]) (by rfl) rfl ?_ ?_
       ·go_simp
        (try simp only [i64_w])
        try rfl
       refine hK.out _ _ ⟨ey, aV, .slice gS d9.length e0, aW, aX, aY, aZ, a0, a1, a2, a3, a4, a5, a6, a7, a8, a9, aT, m3_, (.agg #[.slice gS d9.length e0, .slice none 0 0, .int .i64 0]), m8_, bb, bc, bd, be, bf, bg, bh, (by rw [ha.out]; exact putSel_upk 5 hb_ rfl rfl rfl), Q_HB, ab, ac, ad, ae, af, ag, ah, ai, aj, ak, al, am, an, ao, ap, aq, ar, fun h0_ => absurd ((hoff 27 (by kernel_rfl)).symm.trans h0_) (by decide), aO, fun _ => rfl, aP, aC, aD, aE, aF, aG, aH, fun h0_ => absurd ((hoff 28 (by kernel_rfl)).symm.trans h0_) (by decide)⟩
      refine steps_cons ?_ ?_
      ·rintro b a w' ⟨ey, aV, ba, aW, aX, aY, aZ, a0, a1, a2, a3, a4, a5, a6, a7, a8, a9, aT, m3_, m5_, m8_, bb, bc, bd, be, bf, bg, bh, ha, Q_HB, ab, ac, ad, ae, af, ag, ah, ai, aj, ak, al, am, an, ao, ap, aq, ar, bi, aO, aN, aP, aC, aD, aE, aF, aG, aH, bC⟩ hb_ hon hoff
       refine ⟨_, rfl, fun K hK => ?_⟩
       replace ha := Aside0.mk ha
       have HB := Aside0.mk Q_HB
       refine Kd.R_lit_step (Kd.int .i64) _ 3 ?hg (N := 38) ?hd (xs := ([0] : List Int)) (inner := [.int .i64 0]) (ok := fun _ => True) (okp := fun _ => True) ?hr ?hp (fun _ hk => hk) trivial (Below.refl _ _) (Nat.le_refl _) (by simp) ?_; (case hd => rfl); (case hg => rfl); (case hr => first | (go_simp; done) | (go_simp; rfl)); (case hp => exact (Reps.one (show Kd.M (Kd.int .i64) _ _ _ 0 [.int .i64 0] from rfl) (Reps.none _ _)))
       intro aW w6 ho7 hb hg_ hnew_
       clear hg_ hnew_
       (first | rw [← gB.out] at ho7 | (simp only [Int.reduceToNat] at ho7; rw [← gB.out] at ho7))
       have n0_ := Aside0.mk (Kd.R_lower ho7 (below_size (pB HB.out)))
       have n1_ := Aside0.mk (below_step (pB HB.out) hb)
       have z_HO504 := fun (h0_ : b 1 = true) (h1_ : b 27 = false) => (Re5 (ab h0_ h1_) ho7 hb)
       have z_HO507 := fun (h0_ : b 2 = true) (h1_ : b 27 = false) => (Rb5 (ac h0_ h1_) hb)
       have z_HO510 := fun (h0_ : b 4 = true) (h1_ : b 27 = false) => (Re5 (ad h0_ h1_) ho7 hb)
       have z_HO516 := fun (h0_ : b 7 = true) (h1_ : b 27 = false) => (Rb5 (af h0_ h1_) hb)
       have z_HO519 := fun (h0_ : b 9 = true) (h1_ : b 27 = false) => (Re5 (ag h0_ h1_) ho7 hb)
       have z_HO522 := fun (h0_ : b 10 = true) (h1_ : b 27 = false) => (Rb5 (ah h0_ h1_) hb)
       have z_HO525 := fun (h0_ : b 12 = true) (h1_ : b 27 = false) => (Re5 (ai h0_ h1_) ho7 hb)
       have z_HO528 := fun (h0_ : b 13 = true) (h1_ : b 27 = false) => (Rb5 (aj h0_ h1_) hb)
       have z_HO531 := fun (h0_ : b 15 = true) (h1_ : b 27 = false) => (Re5 (ak h0_ h1_) ho7 hb)
       have z_HO534 := fun (h0_ : b 16 = true) (h1_ : b 27 = false) => (Rb5 (al h0_ h1_) hb)
       have z_HO537 := fun (h0_ : b 18 = true) (h1_ : b 27 = false) => (Re5 (am h0_ h1_) ho7 hb)
       have z_HO540 := fun (h0_ : b 19 = true) (h1_ : b 27 = false) => (Rb5 (an h0_ h1_) hb)
       have z_HO543 := fun (h0_ : b 21 = true) (h1_ : b 27 = false) => (Re5 (ao h0_ h1_) ho7 hb)
       have z_HO546 := fun (h0_ : b 22 = true) (h1_ : b 27 = false) => (Rb5 (ap h0_ h1_) hb)
       have z_HO549 := fun (h0_ : b 24 = true) (h1_ : b 27 = false) => (Re5 (aq h0_ h1_) ho7 hb)
       have z_HO552 := fun (h0_ : b 25 = true) (h1_ : b 27 = false) => (Rb5 (ar h0_ h1_) hb)
       clear HB
       have c9 := n0_
       have HB := n1_
       clear n0_ n1_
       clear hb ho7
       refine hK.out _ _ ⟨ey, aV, ba, aW, aX, aY, aZ, a0, a1, a2, a3, a4, a5, a6, a7, a8, a9, aT, m3_, m5_, m8_, bb, bc, bd, be, bf, bg, bh, (by rw [ha.out]; exact putSel_upk 6 hb_ rfl rfl rfl), (pB HB.out), z_HO504, z_HO507, z_HO510, fun _ _ => (Kd.pR c9.out), z_HO516, z_HO519, z_HO522, z_HO525, z_HO528, z_HO531, z_HO534, z_HO537, z_HO540, z_HO543, z_HO546, z_HO549, z_HO552, fun h0_ => absurd ((hoff 27 (by kernel_rfl)).symm.trans h0_) (by decide), aO, aN, fun h0_ => absurd ((hoff 8 (by kernel_rfl)).symm.trans h0_) (by decide), aC, aD, aE, aF, aG, aH, fun h0_ => absurd ((hoff 28 (by kernel_rfl)).symm.trans h0_) (by decide)⟩
      refine steps_cons ?_ ?_
      ·rintro b a w' ⟨ey, aV, ba, aW, aX, aY, aZ, a0, a1, a2, a3, a4, a5, a6, a7, a8, a9, aT, m3_, m5_, m8_, bb, bc, bd, be, bf, bg, bh, ha, Q_HB, ab, ac, ad, ae, af, ag, ah, ai, aj, ak, al, am, an, ao, ap, aq, ar, bi, aO, aN, aP, aC, aD, aE, aF, aG, aH, bC⟩ hb_ hon hoff
       refine ⟨_, rfl, fun K hK => ?_⟩
       replace ha := Aside0.mk ha
       have HB := Aside0.mk Q_HB
       refine Kd.R_make_step Kd.bool _ 4 (by rfl) (N := 39) rfl 34 _ _ rfl 1 rfl rfl Try.underlying34 (.bool false) 1 info4 rfl (by decide) (by omega) false (ok := fun _ => True) (okp := fun _ => True) rfl (fun _ hk => hk) trivial (by omega) (by omega) (Below.refl _ _) (Nat.le_refl _) ?_
       intro aX w6 ho7 hb hg_ hnew_
       clear hg_ hnew_
       (first | rw [← gC.out] at ho7 | (simp only [Int.reduceToNat] at ho7; rw [← gC.out] at ho7))
       have n0_ := Aside0.mk (Kd.R_lower ho7 (below_size (pB HB.out)))
       have n1_ := Aside0.mk (below_step (pB HB.out) hb)
       have z_HO504 := fun (h0_ : b 1 = true) (h1_ : b 27 = false) => (Rb5 (ab h0_ h1_) hb)
       have z_HO507 := fun (h0_ : b 2 = true) (h1_ : b 27 = false) => (Re5 (ac h0_ h1_) ho7 hb)
       have z_HO510 := fun (h0_ : b 4 = true) (h1_ : b 27 = false) => (Rb5 (ad h0_ h1_) hb)
       have z_HO513 := fun (h0_ : b 6 = true) (h1_ : b 27 = false) => (Rb5 (ae h0_ h1_) hb)
       have z_HO519 := fun (h0_ : b 9 = true) (h1_ : b 27 = false) => (Rb5 (ag h0_ h1_) hb)
       have z_HO522 := fun (h0_ : b 10 = true) (h1_ : b 27 = false) => (Re5 (ah h0_ h1_) ho7 hb)
       have z_HO525 := fun (h0_ : b 12 = true) (h1_ : b 27 = false) => (Rb5 (ai h0_ h1_) hb)
       have z_HO528 := fun (h0_ : b 13 = true) (h1_ : b 27 = false) => (Re5 (aj h0_ h1_) ho7 hb)
       have z_HO531 := fun (h0_ : b 15 = true) (h1_ : b 27 = false) => (Rb5 (ak h0_ h1_) hb)
       have z_HO534 := fun (h0_ : b 16 = true) (h1_ : b 27 = false) => (Re5 (al h0_ h1_) ho7 hb)
       have z_HO537 := fun (h0_ : b 18 = true) (h1_ : b 27 = false) => (Rb5 (am h0_ h1_) hb)
       have z_HO540 := fun (h0_ : b 19 = true) (h1_ : b 27 = false) => (Re5 (an h0_ h1_) ho7 hb)
       have z_HO543 := fun (h0_ : b 21 = true) (h1_ : b 27 = false) => (Rb5 (ao h0_ h1_) hb)
       have z_HO546 := fun (h0_ : b 22 = true) (h1_ : b 27 = false) => (Re5 (ap h0_ h1_) ho7 hb)
       have z_HO549 := fun (h0_ : b 24 = true) (h1_ : b 27 = false) => (Rb5 (aq h0_ h1_) hb)
       have z_HO552 := fun (h0_ : b 25 = true) (h1_ : b 27 = false) => (Re5 (ar h0_ h1_) ho7 hb)
       clear HB
       have da := n0_
       have HB := n1_
       clear n0_ n1_
       clear hb ho7
       refine hK.out _ _ ⟨ey, aV, ba, aW, aX, aY, aZ, a0, a1, a2, a3, a4, a5, a6, a7, a8, a9, aT, m3_, m5_, m8_, bb, bc, bd, be, bf, bg, bh, (by rw [ha.out]; exact putSel_upk 7 hb_ rfl rfl rfl), (pB HB.out), z_HO504, z_HO507, z_HO510, z_HO513, fun _ _ => (Kd.pR da.out), z_HO519, z_HO522, z_HO525, z_HO528, z_HO531, z_HO534, z_HO537, z_HO540, z_HO543, z_HO546, z_HO549, z_HO552, fun h0_ => absurd ((hoff 27 (by kernel_rfl)).symm.trans h0_) (by decide), aO, aN, fun h0_ => absurd ((hoff 8 (by kernel_rfl)).symm.trans h0_) (by decide), aC, aD, aE, aF, aG, aH, fun h0_ => absurd ((hoff 28 (by kernel_rfl)).symm.trans h0_) (by decide)⟩
      refine steps_cons ?_ ?_
      ·rintro b a w' ⟨ey, aV, ba, aW, aX, aY, aZ, a0, a1, a2, a3, a4, a5, a6, a7, a8, a9, aT, m3_, m5_, m8_, bb, bc, bd, be, bf, bg, bh, ha, Q_HB, ab, ac, ad, ae, af, ag, ah, ai, aj, ak, al, am, an, ao, ap, aq, ar, bi, aO, aN, aP, aC, aD, aE, aF, aG, aH, bC⟩ hb_ hon hoff
       refine ⟨_, rfl, fun K hK => ?_⟩
       have e38 : a.tmps[38]? = some (aW) := by rw [ha]; exact putSel_on (e := (6, 38, aW)) 6 rfl rfl (hon 6 (by kernel_rfl)) rfl
       have e39 : a.tmps[39]? = some (aX) := by rw [ha]; exact putSel_on (e := (7, 39, aX)) 7 rfl rfl (hon 7 (by kernel_rfl)) rfl
       replace ha := Aside0.mk ha
       have HB := Aside0.mk Q_HB
       have c9 := Aside0.mk (ae (hon 6 (by kernel_rfl)) (hoff 27 (by kernel_rfl)))
       have da := Aside0.mk (af (hon 7 (by kernel_rfl)) (hoff 27 (by kernel_rfl)))
       obtain ⟨gT, e1, eo_⟩ := Kd.R_slice c9.out
       subst eo_
       obtain ⟨gU, e2, eo_⟩ := Kd.R_slice da.out
       subst eo_
       refine value_ (w1 := w') (v := .agg #[.slice gT eA.length e1, .slice gU cp.length e2, .int .i64 0]) (by rfl) rfl ?_ ?_
       ·go_simp
        (try simp only [i64_w])
        try rfl
       refine hK.out _ _ ⟨ey, aV, ba, .slice gT eA.length e1, .slice gU cp.length e2, aY, aZ, a0, a1, a2, a3, a4, a5, a6, a7, a8, a9, aT, m3_, m5_, (.agg #[.slice gT eA.length e1, .slice gU cp.length e2, .int .i64 0]), bb, bc, bd, be, bf, bg, bh, (by rw [ha.out]; exact putSel_upk 8 hb_ rfl rfl rfl), Q_HB, ab, ac, ad, ae, af, ag, ah, ai, aj, ak, al, am, an, ao, ap, aq, ar, fun h0_ => absurd ((hoff 27 (by kernel_rfl)).symm.trans h0_) (by decide), aO, aN, fun _ => rfl, aC, aD, aE, aF, aG, aH, fun h0_ => absurd ((hoff 28 (by kernel_rfl)).symm.trans h0_) (by decide)⟩
      refine steps_cons ?_ ?_
      ·rintro b a w' ⟨ey, aV, ba, aW, aX, aY, aZ, a0, a1, a2, a3, a4, a5, a6, a7, a8, a9, aT, m3_, m5_, m8_, bb, bc, bd, be, bf, bg, bh, ha, Q_HB, ab, ac, ad, ae, af, ag, ah, ai, aj, ak, al, am, an, ao, ap, aq, ar, bi, aO, aN, aP, aC, aD, aE, aF, aG, aH, bC⟩ hb_ hon hoff
       refine ⟨_, rfl, fun K hK => ?_⟩
       replace ha := Aside0.mk ha
       have HB := Aside0.mk Q_HB
       refine Kd.R_lit_step (Kd.int .i64) _ 3 ?hg (N := 41) ?hd (xs := ([(-1)] : List Int)) (inner := [.int .i64 (-1)]) (ok := fun _ => True) (okp := fun _ => True) ?hr ?hp (fun _ hk => hk) trivial (Below.refl _ _) (Nat.le_refl _) (by simp) ?_; (case hd => rfl); (case hg => rfl); (case hr => first | (go_simp; done) | (go_simp; rfl)); (case hp => exact (Reps.one (show Kd.M (Kd.int .i64) _ _ _ (-1) [.int .i64 (-1)] from rfl) (Reps.none _ _)))
       intro aY w6 ho7 hb hg_ hnew_
       clear hg_ hnew_
       (first | rw [← gD.out] at ho7 | (simp only [Int.reduceToNat] at ho7; rw [← gD.out] at ho7))
       have n0_ := Aside0.mk (Kd.R_lower ho7 (below_size (pB HB.out)))
       have n1_ := Aside0.mk (below_step (pB HB.out) hb)
       have z_HO504 := fun (h0_ : b 1 = true) (h1_ : b 27 = false) => (Re5 (ab h0_ h1_) ho7 hb)
       have z_HO507 := fun (h0_ : b 2 = true) (h1_ : b 27 = false) => (Rb5 (ac h0_ h1_) hb)
       have z_HO510 := fun (h0_ : b 4 = true) (h1_ : b 27 = false) => (Re5 (ad h0_ h1_) ho7 hb)
       have z_HO513 := fun (h0_ : b 6 = true) (h1_ : b 27 = false) => (Re5 (ae h0_ h1_) ho7 hb)
       have z_HO516 := fun (h0_ : b 7 = true) (h1_ : b 27 = false) => (Rb5 (af h0_ h1_) hb)
       have z_HO522 := fun (h0_ : b 10 = true) (h1_ : b 27 = false) => (Rb5 (ah h0_ h1_) hb)
       have z_HO525 := fun (h0_ : b 12 = true) (h1_ : b 27 = false) => (Re5 (ai h0_ h1_) ho7 hb)
       have z_HO528 := fun (h0_ : b 13 = true) (h1_ : b 27 = false) => (Rb5 (aj h0_ h1_) hb)
       have z_HO531 := fun (h0_ : b 15 = true) (h1_ : b 27 = false) => (Re5 (ak h0_ h1_) ho7 hb)
       have z_HO534 := fun (h0_ : b 16 = true) (h1_ : b 27 = false) => (Rb5 (al h0_ h1_) hb)
       have z_HO537 := fun (h0_ : b 18 = true) (h1_ : b 27 = false) => (Re5 (am h0_ h1_) ho7 hb)
       have z_HO540 := fun (h0_ : b 19 = true) (h1_ : b 27 = false) => (Rb5 (an h0_ h1_) hb)
       have z_HO543 := fun (h0_ : b 21 = true) (h1_ : b 27 = false) => (Re5 (ao h0_ h1_) ho7 hb)
       have z_HO546 := fun (h0_ : b 22 = true) (h1_ : b 27 = false) => (Rb5 (ap h0_ h1_) hb)
       have z_HO549 := fun (h0_ : b 24 = true) (h1_ : b 27 = false) => (Re5 (aq h0_ h1_) ho7 hb)
       have z_HO552 := fun (h0_ : b 25 = true) (h1_ : b 27 = false) => (Rb5 (ar h0_ h1_) hb)
       clear HB
       have db := n0_
       have HB := n1_
       clear n0_ n1_
       clear hb ho7
       refine hK.out _ _ ⟨ey, aV, ba, aW, aX, aY, aZ, a0, a1, a2, a3, a4, a5, a6, a7, a8, a9, aT, m3_, m5_, m8_, bb, bc, bd, be, bf, bg, bh, (by rw [ha.out]; exact putSel_upk 9 hb_ rfl rfl rfl), (pB HB.out), z_HO504, z_HO507, z_HO510, z_HO513, z_HO516, fun _ _ => (Kd.pR db.out), z_HO522, z_HO525, z_HO528, z_HO531, z_HO534, z_HO537, z_HO540, z_HO543, z_HO546, z_HO549, z_HO552, fun h0_ => absurd ((hoff 27 (by kernel_rfl)).symm.trans h0_) (by decide), aO, aN, aP, fun h0_ => absurd ((hoff 11 (by kernel_rfl)).symm.trans h0_) (by decide), aD, aE, aF, aG, aH, fun h0_ => absurd ((hoff 28 (by kernel_rfl)).symm.trans h0_) (by decide)⟩
      refine steps_cons ?_ ?_
      ·rintro b a w' ⟨ey, aV, ba, aW, aX, aY, aZ, a0, a1, a2, a3, a4, a5, a6, a7, a8, a9, aT, m3_, m5_, m8_, bb, bc, bd, be, bf, bg, bh, ha, Q_HB, ab, ac, ad, ae, af, ag, ah, ai, aj, ak, al, am, an, ao, ap, aq, ar, bi, aO, aN, aP, aC, aD, aE, aF, aG, aH, bC⟩ hb_ hon hoff
       refine ⟨_, rfl, fun K hK => ?_⟩
       replace ha := Aside0.mk ha
       have HB := Aside0.mk Q_HB
       refine Kd.R_make_step Kd.bool _ 4 (by rfl) (N := 42) rfl 34 _ _ rfl 1 rfl rfl Try.underlying34 (.bool false) 1 info4 rfl (by decide) (by omega) false (ok := fun _ => True) (okp := fun _ => True) rfl (fun _ hk => hk) trivial (by omega) (by omega) (Below.refl _ _) (Nat.le_refl _) ?_
       intro aZ w6 ho7 hb hg_ hnew_
       clear hg_ hnew_
       (first | rw [← gE.out] at ho7 | (simp only [Int.reduceToNat] at ho7; rw [← gE.out] at ho7))
       have n0_ := Aside0.mk (Kd.R_lower ho7 (below_size (pB HB.out)))
       have n1_ := Aside0.mk (below_step (pB HB.out) hb)
       have z_HO504 := fun (h0_ : b 1 = true) (h1_ : b 27 = false) => (Rb5 (ab h0_ h1_) hb)
       have z_HO507 := fun (h0_ : b 2 = true) (h1_ : b 27 = false) => (Re5 (ac h0_ h1_) ho7 hb)
       have z_HO510 := fun (h0_ : b 4 = true) (h1_ : b 27 = false) => (Rb5 (ad h0_ h1_) hb)
       have z_HO513 := fun (h0_ : b 6 = true) (h1_ : b 27 = false) => (Rb5 (ae h0_ h1_) hb)
       have z_HO516 := fun (h0_ : b 7 = true) (h1_ : b 27 = false) => (Re5 (af h0_ h1_) ho7 hb)
       have z_HO519 := fun (h0_ : b 9 = true) (h1_ : b 27 = false) => (Rb5 (ag h0_ h1_) hb)
       have z_HO525 := fun (h0_ : b 12 = true) (h1_ : b 27 = false) => (Rb5 (ai h0_ h1_) hb)
       have z_HO528 := fun (h0_ : b 13 = true) (h1_ : b 27 = false) => (Re5 (aj h0_ h1_) ho7 hb)
       have z_HO531 := fun (h0_ : b 15 = true) (h1_ : b 27 = false) => (Rb5 (ak h0_ h1_) hb)
       have z_HO534 := fun (h0_ : b 16 = true) (h1_ : b 27 = false) => (Re5 (al h0_ h1_) ho7 hb)
       have z_HO537 := fun (h0_ : b 18 = true) (h1_ : b 27 = false) => (Rb5 (am h0_ h1_) hb)
       have z_HO540 := fun (h0_ : b 19 = true) (h1_ : b 27 = false) => (Re5 (an h0_ h1_) ho7 hb)
       have z_HO543 := fun (h0_ : b 21 = true) (h1_ : b 27 = false) => (Rb5 (ao h0_ h1_) hb)
       have z_HO546 := fun (h0_ : b 22 = true) (h1_ : b 27 = false) => (Re5 (ap h0_ h1_) ho7 hb)
       have z_HO549 := fun (h0_ : b 24 = true) (h1_ : b 27 = false) => (Rb5 (aq h0_ h1_) hb)
       have z_HO552 := fun (h0_ : b 25 = true) (h1_ : b 27 = false) => (Re5 (ar h0_ h1_) ho7 hb)
       clear HB
       have dc := n0_
       have HB := n1_
       clear n0_ n1_
       clear hb ho7
       refine hK.out _ _ ⟨ey, aV, ba, aW, aX, aY, aZ, a0, a1, a2, a3, a4, a5, a6, a7, a8, a9, aT, m3_, m5_, m8_, bb, bc, bd, be, bf, bg, bh, (by rw [ha.out]; exact putSel_upk 10 hb_ rfl rfl rfl), (pB HB.out), z_HO504, z_HO507, z_HO510, z_HO513, z_HO516, z_HO519, fun _ _ => (Kd.pR dc.out), z_HO525, z_HO528, z_HO531, z_HO534, z_HO537, z_HO540, z_HO543, z_HO546, z_HO549, z_HO552, fun h0_ => absurd ((hoff 27 (by kernel_rfl)).symm.trans h0_) (by decide), aO, aN, aP, fun h0_ => absurd ((hoff 11 (by kernel_rfl)).symm.trans h0_) (by decide), aD, aE, aF, aG, aH, fun h0_ => absurd ((hoff 28 (by kernel_rfl)).symm.trans h0_) (by decide)⟩
      refine steps_cons ?_ ?_
      ·rintro b a w' ⟨ey, aV, ba, aW, aX, aY, aZ, a0, a1, a2, a3, a4, a5, a6, a7, a8, a9, aT, m3_, m5_, m8_, bb, bc, bd, be, bf, bg, bh, ha, Q_HB, ab, ac, ad, ae, af, ag, ah, ai, aj, ak, al, am, an, ao, ap, aq, ar, bi, aO, aN, aP, aC, aD, aE, aF, aG, aH, bC⟩ hb_ hon hoff
       refine ⟨_, rfl, fun K hK => ?_⟩
       have e41 : a.tmps[41]? = some (aY) := by rw [ha]; exact putSel_on (e := (9, 41, aY)) 9 rfl rfl (hon 9 (by kernel_rfl)) rfl
       have e42 : a.tmps[42]? = some (aZ) := by rw [ha]; exact putSel_on (e := (10, 42, aZ)) 10 rfl rfl (hon 10 (by kernel_rfl)) rfl
       replace ha := Aside0.mk ha
       have HB := Aside0.mk Q_HB
       have db := Aside0.mk (ag (hon 9 (by kernel_rfl)) (hoff 27 (by kernel_rfl)))
       have dc := Aside0.mk (ah (hon 10 (by kernel_rfl)) (hoff 27 (by kernel_rfl)))
       obtain ⟨fa, eJ, eo_⟩ := Kd.R_slice db.out
       subst eo_
       obtain ⟨fb, eK, eo_⟩ := Kd.R_slice dc.out
       subst eo_
       refine value_ (w1 := w') (v := .agg #[.slice fa eB.length eJ, .slice fb cu.length eK, .int .i64 1]) (by rfl) rfl ?_ ?_
       ·go_simp
        (try simp only [i64_w])
        try rfl
       refine hK.out _ _ ⟨ey, aV, ba, aW, aX, .slice fa eB.length eJ, .slice fb cu.length eK, a0, a1, a2, a3, a4, a5, a6, a7, a8, a9, aT, m3_, m5_, m8_, (.agg #[.slice fa eB.length eJ, .slice fb cu.length eK, .int .i64 1]), bc, bd, be, bf, bg, bh, (by rw [ha.out]; exact putSel_upk 11 hb_ rfl rfl rfl), Q_HB, ab, ac, ad, ae, af, ag, ah, ai, aj, ak, al, am, an, ao, ap, aq, ar, fun h0_ => absurd ((hoff 27 (by kernel_rfl)).symm.trans h0_) (by decide), aO, aN, aP, fun _ => rfl, aD, aE, aF, aG, aH, fun h0_ => absurd ((hoff 28 (by kernel_rfl)).symm.trans h0_) (by decide)⟩
      refine steps_cons ?_ ?_
      ·rintro b a w' ⟨ey, aV, ba, aW, aX, aY, aZ, a0, a1, a2, a3, a4, a5, a6, a7, a8, a9, aT, m3_, m5_, m8_, bb, bc, bd, be, bf, bg, bh, ha, Q_HB, ab, ac, ad, ae, af, ag, ah, ai, aj, ak, al, am, an, ao, ap, aq, ar, bi, aO, aN, aP, aC, aD, aE, aF, aG, aH, bC⟩ hb_ hon hoff
       refine ⟨_, rfl, fun K hK => ?_⟩
       replace ha := Aside0.mk ha
       have HB := Aside0.mk Q_HB
       refine Kd.R_lit_step (Kd.int .i64) _ 3 ?hg (N := 44) ?hd (xs := ([(-1)] : List Int)) (inner := [.int .i64 (-1)]) (ok := fun _ => True) (okp := fun _ => True) ?hr ?hp (fun _ hk => hk) trivial (Below.refl _ _) (Nat.le_refl _) (by simp) ?_; (case hd => rfl); (case hg => rfl); (case hr => first | (go_simp; done) | (go_simp; rfl)); (case hp => exact (Reps.one (show Kd.M (Kd.int .i64) _ _ _ (-1) [.int .i64 (-1)] from rfl) (Reps.none _ _)))
       intro a0 w6 ho7 hb hg_ hnew_
       clear hg_ hnew_
       (first | rw [← gF.out] at ho7 | (simp only [Int.reduceToNat] at ho7; rw [← gF.out] at ho7))
       have n0_ := Aside0.mk (Kd.R_lower ho7 (below_size (pB HB.out)))
       have n1_ := Aside0.mk (below_step (pB HB.out) hb)
       have z_HO504 := fun (h0_ : b 1 = true) (h1_ : b 27 = false) => (Re5 (ab h0_ h1_) ho7 hb)
       have z_HO507 := fun (h0_ : b 2 = true) (h1_ : b 27 = false) => (Rb5 (ac h0_ h1_) hb)
       have z_HO510 := fun (h0_ : b 4 = true) (h1_ : b 27 = false) => (Re5 (ad h0_ h1_) ho7 hb)
       have z_HO513 := fun (h0_ : b 6 = true) (h1_ : b 27 = false) => (Re5 (ae h0_ h1_) ho7 hb)
       have z_HO516 := fun (h0_ : b 7 = true) (h1_ : b 27 = false) => (Rb5 (af h0_ h1_) hb)
       have z_HO519 := fun (h0_ : b 9 = true) (h1_ : b 27 = false) => (Re5 (ag h0_ h1_) ho7 hb)
       have z_HO522 := fun (h0_ : b 10 = true) (h1_ : b 27 = false) => (Rb5 (ah h0_ h1_) hb)
       have z_HO528 := fun (h0_ : b 13 = true) (h1_ : b 27 = false) => (Rb5 (aj h0_ h1_) hb)
       have z_HO531 := fun (h0_ : b 15 = true) (h1_ : b 27 = false) => (Re5 (ak h0_ h1_) ho7 hb)
       have z_HO534 := fun (h0_ : b 16 = true) (h1_ : b 27 = false) => (Rb5 (al h0_ h1_) hb)
       have z_HO537 := fun (h0_ : b 18 = true) (h1_ : b 27 = false) => (Re5 (am h0_ h1_) ho7 hb)
       have z_HO540 := fun (h0_ : b 19 = true) (h1_ : b 27 = false) => (Rb5 (an h0_ h1_) hb)
       have z_HO543 := fun (h0_ : b 21 = true) (h1_ : b 27 = false) => (Re5 (ao h0_ h1_) ho7 hb)
       have z_HO546 := fun (h0_ : b 22 = true) (h1_ : b 27 = false) => (Rb5 (ap h0_ h1_) hb)
       have z_HO549 := fun (h0_ : b 24 = true) (h1_ : b 27 = false) => (Re5 (aq h0_ h1_) ho7 hb)
       have z_HO552 := fun (h0_ : b 25 = true) (h1_ : b 27 = false) => (Rb5 (ar h0_ h1_) hb)
       clear HB
       have dd := n0_
       have HB := n1_
       clear n0_ n1_
       clear hb ho7
       refine hK.out _ _ ⟨ey, aV, ba, aW, aX, aY, aZ, a0, a1, a2, a3, a4, a5, a6, a7, a8, a9, aT, m3_, m5_, m8_, bb, bc, bd, be, bf, bg, bh, (by rw [ha.out]; exact putSel_upk 12 hb_ rfl rfl rfl), (pB HB.out), z_HO504, z_HO507, z_HO510, z_HO513, z_HO516, z_HO519, z_HO522, fun _ _ => (Kd.pR dd.out), z_HO528, z_HO531, z_HO534, z_HO537, z_HO540, z_HO543, z_HO546, z_HO549, z_HO552, fun h0_ => absurd ((hoff 27 (by kernel_rfl)).symm.trans h0_) (by decide), aO, aN, aP, aC, fun h0_ => absurd ((hoff 14 (by kernel_rfl)).symm.trans h0_) (by decide), aE, aF, aG, aH, fun h0_ => absurd ((hoff 28 (by kernel_rfl)).symm.trans h0_) (by decide)⟩
      refine steps_cons ?_ ?_
      ·rintro b a w' ⟨ey, aV, ba, aW, aX, aY, aZ, a0, a1, a2, a3, a4, a5, a6, a7, a8, a9, aT, m3_, m5_, m8_, bb, bc, bd, be, bf, bg, bh, ha, Q_HB, ab, ac, ad, ae, af, ag, ah, ai, aj, ak, al, am, an, ao, ap, aq, ar, bi, aO, aN, aP, aC, aD, aE, aF, aG, aH, bC⟩ hb_ hon hoff
       refine ⟨_, rfl, fun K hK => ?_⟩
       replace ha := Aside0.mk ha
       have HB := Aside0.mk Q_HB
       refine Kd.R_make_step Kd.bool _ 4 (by rfl) (N := 45) rfl 34 _ _ rfl 1 rfl rfl Try.underlying34 (.bool false) 1 info4 rfl (by decide) (by omega) false (ok := fun _ => True) (okp := fun _ => True) rfl (fun _ hk => hk) trivial (by omega) (by omega) (Below.refl _ _) (Nat.le_refl _) ?_
       intro a1 w6 ho7 hb hg_ hnew_
       clear hg_ hnew_
       (first | rw [← gG.out] at ho7 | (simp only [Int.reduceToNat] at ho7; rw [← gG.out] at ho7))
       have n0_ := Aside0.mk (Kd.R_lower ho7 (below_size (pB HB.out)))
       have n1_ := Aside0.mk (below_step (pB HB.out) hb)
       have z_HO504 := fun (h0_ : b 1 = true) (h1_ : b 27 = false) => (Rb5 (ab h0_ h1_) hb)
       have z_HO507 := fun (h0_ : b 2 = true) (h1_ : b 27 = false) => (Re5 (ac h0_ h1_) ho7 hb)
       have z_HO510 := fun (h0_ : b 4 = true) (h1_ : b 27 = false) => (Rb5 (ad h0_ h1_) hb)
       have z_HO513 := fun (h0_ : b 6 = true) (h1_ : b 27 = false) => (Rb5 (ae h0_ h1_) hb)
       have z_HO516 := fun (h0_ : b 7 = true) (h1_ : b 27 = false) => (Re5 (af h0_ h1_) ho7 hb)
       have z_HO519 := fun (h0_ : b 9 = true) (h1_ : b 27 = false) => (Rb5 (ag h0_ h1_) hb)
       have z_HO522 := fun (h0_ : b 10 = true) (h1_ : b 27 = false) => (Re5 (ah h0_ h1_) ho7 hb)
       have z_HO525 := fun (h0_ : b 12 = true) (h1_ : b 27 = false) => (Rb5 (ai h0_ h1_) hb)
       have z_HO531 := fun (h0_ : b 15 = true) (h1_ : b 27 = false) => (Rb5 (ak h0_ h1_) hb)
       have z_HO534 := fun (h0_ : b 16 = true) (h1_ : b 27 = false) => (Re5 (al h0_ h1_) ho7 hb)
       have z_HO537 := fun (h0_ : b 18 = true) (h1_ : b 27 = false) => (Rb5 (am h0_ h1_) hb)
       have z_HO540 := fun (h0_ : b 19 = true) (h1_ : b 27 = false) => (Re5 (an h0_ h1_) ho7 hb)
       have z_HO543 := fun (h0_ : b 21 = true) (h1_ : b 27 = false) => (Rb5 (ao h0_ h1_) hb)
       have z_HO546 := fun (h0_ : b 22 = true) (h1_ : b 27 = false) => (Re5 (ap h0_ h1_) ho7 hb)
       have z_HO549 := fun (h0_ : b 24 = true) (h1_ : b 27 = false) => (Rb5 (aq h0_ h1_) hb)
       have z_HO552 := fun (h0_ : b 25 = true) (h1_ : b 27 = false) => (Re5 (ar h0_ h1_) ho7 hb)
       clear HB
       have de := n0_
       have HB := n1_
       clear n0_ n1_
       clear hb ho7
       refine hK.out _ _ ⟨ey, aV, ba, aW, aX, aY, aZ, a0, a1, a2, a3, a4, a5, a6, a7, a8, a9, aT, m3_, m5_, m8_, bb, bc, bd, be, bf, bg, bh, (by rw [ha.out]; exact putSel_upk 13 hb_ rfl rfl rfl), (pB HB.out), z_HO504, z_HO507, z_HO510, z_HO513, z_HO516, z_HO519, z_HO522, z_HO525, fun _ _ => (Kd.pR de.out), z_HO531, z_HO534, z_HO537, z_HO540, z_HO543, z_HO546, z_HO549, z_HO552, fun h0_ => absurd ((hoff 27 (by kernel_rfl)).symm.trans h0_) (by decide), aO, aN, aP, aC, fun h0_ => absurd ((hoff 14 (by kernel_rfl)).symm.trans h0_) (by decide), aE, aF, aG, aH, fun h0_ => absurd ((hoff 28 (by kernel_rfl)).symm.trans h0_) (by decide)⟩
      refine steps_cons ?_ ?_
      ·rintro b a w' ⟨ey, aV, ba, aW, aX, aY, aZ, a0, a1, a2, a3, a4, a5, a6, a7, a8, a9, aT, m3_, m5_, m8_, bb, bc, bd, be, bf, bg, bh, ha, Q_HB, ab, ac, ad, ae, af, ag, ah, ai, aj, ak, al, am, an, ao, ap, aq, ar, bi, aO, aN, aP, aC, aD, aE, aF, aG, aH, bC⟩ hb_ hon hoff
       refine ⟨_, rfl, fun K hK => ?_⟩
       have e44 : a.tmps[44]? = some (a0) := by rw [ha]; exact putSel_on (e := (12, 44, a0)) 12 rfl rfl (hon 12 (by kernel_rfl)) rfl
       have e45 : a.tmps[45]? = some (a1) := by rw [ha]; exact putSel_on (e := (13, 45, a1)) 13 rfl rfl (hon 13 (by kernel_rfl)) rfl
       replace ha := Aside0.mk ha
       have HB := Aside0.mk Q_HB
       have dd := Aside0.mk (ai (hon 12 (by kernel_rfl)) (hoff 27 (by kernel_rfl)))
       have de := Aside0.mk (aj (hon 13 (by kernel_rfl)) (hoff 27 (by kernel_rfl)))
       obtain ⟨fc, eL, eo_⟩ := Kd.R_slice dd.out
       subst eo_
       obtain ⟨fd, eM, eo_⟩ := Kd.R_slice de.out
       subst eo_
       refine value_ (w1 := w') (v := .agg #[.slice fc eC.length eL, .slice fd cB.length eM, .int .i64 (-2)]) (by rfl) rfl ?_ ?_
       ·go_simp
        (try simp only [i64_w])
        try rfl
       refine hK.out _ _ ⟨ey, aV, ba, aW, aX, aY, aZ, .slice fc eC.length eL, .slice fd cB.length eM, a2, a3, a4, a5, a6, a7, a8, a9, aT, m3_, m5_, m8_, bb, (.agg #[.slice fc eC.length eL, .slice fd cB.length eM, .int .i64 (-2)]), bd, be, bf, bg, bh, (by rw [ha.out]; exact putSel_upk 14 hb_ rfl rfl rfl), Q_HB, ab, ac, ad, ae, af, ag, ah, ai, aj, ak, al, am, an, ao, ap, aq, ar, fun h0_ => absurd ((hoff 27 (by kernel_rfl)).symm.trans h0_) (by decide), aO, aN, aP, aC, fun _ => rfl, aE, aF, aG, aH, fun h0_ => absurd ((hoff 28 (by kernel_rfl)).symm.trans h0_) (by decide)⟩
      refine steps_cons ?_ ?_
      ·rintro b a w' ⟨ey, aV, ba, aW, aX, aY, aZ, a0, a1, a2, a3, a4, a5, a6, a7, a8, a9, aT, m3_, m5_, m8_, bb, bc, bd, be, bf, bg, bh, ha, Q_HB, ab, ac, ad, ae, af, ag, ah, ai, aj, ak, al, am, an, ao, ap, aq, ar, bi, aO, aN, aP, aC, aD, aE, aF, aG, aH, bC⟩ hb_ hon hoff
       refine ⟨_, rfl, fun K hK => ?_⟩
       replace ha := Aside0.mk ha
       have HB := Aside0.mk Q_HB
       refine Kd.R_lit_step (Kd.int .i64) _ 3 ?hg (N := 47) ?hd (xs := ([(-1), (-1)] : List Int)) (inner := [.int .i64 (-1), .int .i64 (-1)]) (ok := fun _ => True) (okp := fun _ => True) ?hr ?hp (fun _ hk => hk) trivial (Below.refl _ _) (Nat.le_refl _) (by simp) ?_; (case hd => rfl); (case hg => rfl); (case hr => first | (go_simp; done) | (go_simp; rfl)); (case hp => exact (Reps.one (show Kd.M (Kd.int .i64) _ _ _ (-1) [.int .i64 (-1)] from rfl) (Reps.one (show Kd.M (Kd.int .i64) _ _ _ (-1) [.int .i64 (-1)] from rfl) (Reps.none _ _))))
       intro a2 w6 ho7 hb hg_ hnew_
       clear hg_ hnew_
       (first | rw [← gH.out] at ho7 | (simp only [Int.reduceToNat] at ho7; rw [← gH.out] at ho7))
       have n0_ := Aside0.mk (Kd.R_lower ho7 (below_size (pB HB.out)))
       have n1_ := Aside0.mk (below_step (pB HB.out) hb)
       have z_HO504 := fun (h0_ : b 1 = true) (h1_ : b 27 = false) => (Re5 (ab h0_ h1_) ho7 hb)
       have z_HO507 := fun (h0_ : b 2 = true) (h1_ : b 27 = false) => (Rb5 (ac h0_ h1_) hb)
       have z_HO510 := fun (h0_ : b 4 = true) (h1_ : b 27 = false) => (Re5 (ad h0_ h1_) ho7 hb)
       have z_HO513 := fun (h0_ : b 6 = true) (h1_ : b 27 = false) => (Re5 (ae h0_ h1_) ho7 hb)
       have z_HO516 := fun (h0_ : b 7 = true) (h1_ : b 27 = false) => (Rb5 (af h0_ h1_) hb)
       have z_HO519 := fun (h0_ : b 9 = true) (h1_ : b 27 = false) => (Re5 (ag h0_ h1_) ho7 hb)
       have z_HO522 := fun (h0_ : b 10 = true) (h1_ : b 27 = false) => (Rb5 (ah h0_ h1_) hb)
       have z_HO525 := fun (h0_ : b 12 = true) (h1_ : b 27 = false) => (Re5 (ai h0_ h1_) ho7 hb)
       have z_HO528 := fun (h0_ : b 13 = true) (h1_ : b 27 = false) => (Rb5 (aj h0_ h1_) hb)
       have z_HO534 := fun (h0_ : b 16 = true) (h1_ : b 27 = false) => (Rb5 (al h0_ h1_) hb)
       have z_HO537 := fun (h0_ : b 18 = true) (h1_ : b 27 = false) => (Re5 (am h0_ h1_) ho7 hb)
       have z_HO540 := fun (h0_ : b 19 = true) (h1_ : b 27 = false) => (Rb5 (an h0_ h1_) hb)
       have z_HO543 := fun (h0_ : b 21 = true) (h1_ : b 27 = false) => (Re5 (ao h0_ h1_) ho7 hb)
       have z_HO546 := fun (h0_ : b 22 = true) (h1_ : b 27 = false) => (Rb5 (ap h0_ h1_) hb)
       have z_HO549 := fun (h0_ : b 24 = true) (h1_ : b 27 = false) => (Re5 (aq h0_ h1_) ho7 hb)
       have z_HO552 := fun (h0_ : b 25 = true) (h1_ : b 27 = false) => (Rb5 (ar h0_ h1_) hb)
       clear HB
       have df := n0_
       have HB := n1_
       clear n0_ n1_
       clear hb ho7
       refine hK.out _ _ ⟨ey, aV, ba, aW, aX, aY, aZ, a0, a1, a2, a3, a4, a5, a6, a7, a8, a9, aT, m3_, m5_, m8_, bb, bc, bd, be, bf, bg, bh, (by rw [ha.out]; exact putSel_upk 15 hb_ rfl rfl rfl), (pB HB.out), z_HO504, z_HO507, z_HO510, z_HO513, z_HO516, z_HO519, z_HO522, z_HO525, z_HO528, fun _ _ => (Kd.pR df.out), z_HO534, z_HO537, z_HO540, z_HO543, z_HO546, z_HO549, z_HO552, fun h0_ => absurd ((hoff 27 (by kernel_rfl)).symm.trans h0_) (by decide), aO, aN, aP, aC, aD, fun h0_ => absurd ((hoff 17 (by kernel_rfl)).symm.trans h0_) (by decide), aF, aG, aH, fun h0_ => absurd ((hoff 28 (by kernel_rfl)).symm.trans h0_) (by decide)⟩
      refine steps_cons ?_ ?_
      ·rintro b a w' ⟨ey, aV, ba, aW, aX, aY, aZ, a0, a1, a2, a3, a4, a5, a6, a7, a8, a9, aT, m3_, m5_, m8_, bb, bc, bd, be, bf, bg, bh, ha, Q_HB, ab, ac, ad, ae, af, ag, ah, ai, aj, ak, al, am, an, ao, ap, aq, ar, bi, aO, aN, aP, aC, aD, aE, aF, aG, aH, bC⟩ hb_ hon hoff
       refine ⟨_, rfl, fun K hK => ?_⟩
       replace ha := Aside0.mk ha
       have HB := Aside0.mk Q_HB
       refine Kd.R_make_step Kd.bool _ 4 (by rfl) (N := 48) rfl 34 _ _ rfl 2 rfl rfl Try.underlying34 (.bool false) 1 info4 rfl (by decide) (by omega) false (ok := fun _ => True) (okp := fun _ => True) rfl (fun _ hk => hk) trivial (by omega) (by omega) (Below.refl _ _) (Nat.le_refl _) ?_
       intro a3 w6 ho7 hb hg_ hnew_
       clear hg_ hnew_
       (first | rw [← gI.out] at ho7 | (simp only [Int.reduceToNat] at ho7; rw [← gI.out] at ho7))
       have n0_ := Aside0.mk (Kd.R_lower ho7 (below_size (pB HB.out)))
       have n1_ := Aside0.mk (below_step (pB HB.out) hb)
       have z_HO504 := fun (h0_ : b 1 = true) (h1_ : b 27 = false) => (Rb5 (ab h0_ h1_) hb)
       have z_HO507 := fun (h0_ : b 2 = true) (h1_ : b 27 = false) => (Re5 (ac h0_ h1_) ho7 hb)
       have z_HO510 := fun (h0_ : b 4 = true) (h1_ : b 27 = false) => (Rb5 (ad h0_ h1_) hb)
       have z_HO513 := fun (h0_ : b 6 = true) (h1_ : b 27 = false) => (Rb5 (ae h0_ h1_) hb)
       have z_HO516 := fun (h0_ : b 7 = true) (h1_ : b 27 = false) => (Re5 (af h0_ h1_) ho7 hb)
       have z_HO519 := fun (h0_ : b 9 = true) (h1_ : b 27 = false) => (Rb5 (ag h0_ h1_) hb)
       have z_HO522 := fun (h0_ : b 10 = true) (h1_ : b 27 = false) => (Re5 (ah h0_ h1_) ho7 hb)
       have z_HO525 := fun (h0_ : b 12 = true) (h1_ : b 27 = false) => (Rb5 (ai h0_ h1_) hb)
       have z_HO528 := fun (h0_ : b 13 = true) (h1_ : b 27 = false) => (Re5 (aj h0_ h1_) ho7 hb)
       have z_HO531 := fun (h0_ : b 15 = true) (h1_ : b 27 = false) => (Rb5 (ak h0_ h1_) hb)
       have z_HO537 := fun (h0_ : b 18 = true) (h1_ : b 27 = false) => (Rb5 (am h0_ h1_) hb)
       have z_HO540 := fun (h0_ : b 19 = true) (h1_ : b 27 = false) => (Re5 (an h0_ h1_) ho7 hb)
       have z_HO543 := fun (h0_ : b 21 = true) (h1_ : b 27 = false) => (Rb5 (ao h0_ h1_) hb)
       have z_HO546 := fun (h0_ : b 22 = true) (h1_ : b 27 = false) => (Re5 (ap h0_ h1_) ho7 hb)
       have z_HO549 := fun (h0_ : b 24 = true) (h1_ : b 27 = false) => (Rb5 (aq h0_ h1_) hb)
       have z_HO552 := fun (h0_ : b 25 = true) (h1_ : b 27 = false) => (Re5 (ar h0_ h1_) ho7 hb)
       clear HB
       have dg := n0_
       have HB := n1_
       clear n0_ n1_
       clear hb ho7
       refine hK.out _ _ ⟨ey, aV, ba, aW, aX, aY, aZ, a0, a1, a2, a3, a4, a5, a6, a7, a8, a9, aT, m3_, m5_, m8_, bb, bc, bd, be, bf, bg, bh, (by rw [ha.out]; exact putSel_upk 16 hb_ rfl rfl rfl), (pB HB.out), z_HO504, z_HO507, z_HO510, z_HO513, z_HO516, z_HO519, z_HO522, z_HO525, z_HO528, z_HO531, fun _ _ => (Kd.pR dg.out), z_HO537, z_HO540, z_HO543, z_HO546, z_HO549, z_HO552, fun h0_ => absurd ((hoff 27 (by kernel_rfl)).symm.trans h0_) (by decide), aO, aN, aP, aC, aD, fun h0_ => absurd ((hoff 17 (by kernel_rfl)).symm.trans h0_) (by decide), aF, aG, aH, fun h0_ => absurd ((hoff 28 (by kernel_rfl)).symm.trans h0_) (by decide)⟩
      refine steps_cons ?_ ?_
      ·rintro b a w' ⟨ey, aV, ba, aW, aX, aY, aZ, a0, a1, a2, a3, a4, a5, a6, a7, a8, a9, aT, m3_, m5_, m8_, bb, bc, bd, be, bf, bg, bh, ha, Q_HB, ab, ac, ad, ae, af, ag, ah, ai, aj, ak, al, am, an, ao, ap, aq, ar, bi, aO, aN, aP, aC, aD, aE, aF, aG, aH, bC⟩ hb_ hon hoff
       refine ⟨_, rfl, fun K hK => ?_⟩
       have e47 : a.tmps[47]? = some (a2) := by rw [ha]; exact putSel_on (e := (15, 47, a2)) 15 rfl rfl (hon 15 (by kernel_rfl)) rfl
       have e48 : a.tmps[48]? = some (a3) := by rw [ha]; exact putSel_on (e := (16, 48, a3)) 16 rfl rfl (hon 16 (by kernel_rfl)) rfl
       replace ha := Aside0.mk ha
       have HB := Aside0.mk Q_HB
       have df := Aside0.mk (ak (hon 15 (by kernel_rfl)) (hoff 27 (by kernel_rfl)))
       have dg := Aside0.mk (al (hon 16 (by kernel_rfl)) (hoff 27 (by kernel_rfl)))
       obtain ⟨fe, eN, eo_⟩ := Kd.R_slice df.out
       subst eo_
       obtain ⟨ff, eO, eo_⟩ := Kd.R_slice dg.out
       subst eo_
       refine value_ (w1 := w') (v := .agg #[.slice fe eD.length eN, .slice ff cE.length eO, .int .i64 0]) (by rfl) rfl ?_ ?_
       ·go_simp
        (try simp only [i64_w])
        try rfl
       refine hK.out _ _ ⟨ey, aV, ba, aW, aX, aY, aZ, a0, a1, .slice fe eD.length eN, .slice ff cE.length eO, a4, a5, a6, a7, a8, a9, aT, m3_, m5_, m8_, bb, bc, (.agg #[.slice fe eD.length eN, .slice ff cE.length eO, .int .i64 0]), be, bf, bg, bh, (by rw [ha.out]; exact putSel_upk 17 hb_ rfl rfl rfl), Q_HB, ab, ac, ad, ae, af, ag, ah, ai, aj, ak, al, am, an, ao, ap, aq, ar, fun h0_ => absurd ((hoff 27 (by kernel_rfl)).symm.trans h0_) (by decide), aO, aN, aP, aC, aD, fun _ => rfl, aF, aG, aH, fun h0_ => absurd ((hoff 28 (by kernel_rfl)).symm.trans h0_) (by decide)⟩
      refine steps_cons ?_ ?_
      ·rintro b a w' ⟨ey, aV, ba, aW, aX, aY, aZ, a0, a1, a2, a3, a4, a5, a6, a7, a8, a9, aT, m3_, m5_, m8_, bb, bc, bd, be, bf, bg, bh, ha, Q_HB, ab, ac, ad, ae, af, ag, ah, ai, aj, ak, al, am, an, ao, ap, aq, ar, bi, aO, aN, aP, aC, aD, aE, aF, aG, aH, bC⟩ hb_ hon hoff
       refine ⟨_, rfl, fun K hK => ?_⟩
       replace ha := Aside0.mk ha
       have HB := Aside0.mk Q_HB
       refine Kd.R_lit_step (Kd.int .i64) _ 3 ?hg (N := 50) ?hd (xs := ([(-1)] : List Int)) (inner := [.int .i64 (-1)]) (ok := fun _ => True) (okp := fun _ => True) ?hr ?hp (fun _ hk => hk) trivial (Below.refl _ _) (Nat.le_refl _) (by simp) ?_; (case hd => rfl); (case hg => rfl); (case hr => first | (go_simp; done) | (go_simp; rfl)); (case hp => exact (Reps.one (show Kd.M (Kd.int .i64) _ _ _ (-1) [.int .i64 (-1)] from rfl) (Reps.none _ _)))
       intro a4 w6 ho7 hb hg_ hnew_
       clear hg_ hnew_
       (first | rw [← gJ.out] at ho7 | (simp only [Int.reduceToNat] at ho7; rw [← gJ.out] at ho7))
       have n0_ := Aside0.mk (Kd.R_lower ho7 (below_size (pB HB.out)))
       have n1_ := Aside0.mk (below_step (pB HB.out) hb)
       have z_HO504 := fun (h0_ : b 1 = true) (h1_ : b 27 = false) => (Re5 (ab h0_ h1_) ho7 hb)
       have z_HO507 := fun (h0_ : b 2 = true) (h1_ : b 27 = false) => (Rb5 (ac h0_ h1_) hb)
       have z_HO510 := fun (h0_ : b 4 = true) (h1_ : b 27 = false) => (Re5 (ad h0_ h1_) ho7 hb)
       have z_HO513 := fun (h0_ : b 6 = true) (h1_ : b 27 = false) => (Re5 (ae h0_ h1_) ho7 hb)
       have z_HO516 := fun (h0_ : b 7 = true) (h1_ : b 27 = false) => (Rb5 (af h0_ h1_) hb)
       have z_HO519 := fun (h0_ : b 9 = true) (h1_ : b 27 = false) => (Re5 (ag h0_ h1_) ho7 hb)
       have z_HO522 := fun (h0_ : b 10 = true) (h1_ : b 27 = false) => (Rb5 (ah h0_ h1_) hb)
       have z_HO525 := fun (h0_ : b 12 = true) (h1_ : b 27 = false) => (Re5 (ai h0_ h1_) ho7 hb)
       have z_HO528 := fun (h0_ : b 13 = true) (h1_ : b 27 = false) => (Rb5 (aj h0_ h1_) hb)
       have z_HO531 := fun (h0_ : b 15 = true) (h1_ : b 27 = false) => (Re5 (ak h0_ h1_) ho7 hb)
       have z_HO534 := fun (h0_ : b 16 = true) (h1_ : b 27 = false) => (Rb5 (al h0_ h1_) hb)
       have z_HO540 := fun (h0_ : b 19 = true) (h1_ : b 27 = false) => (Rb5 (an h0_ h1_) hb)
       have z_HO543 := fun (h0_ : b 21 = true) (h1_ : b 27 = false) => (Re5 (ao h0_ h1_) ho7 hb)
       have z_HO546 := fun (h0_ : b 22 = true) (h1_ : b 27 = false) => (Rb5 (ap h0_ h1_) hb)
       have z_HO549 := fun (h0_ : b 24 = true) (h1_ : b 27 = false) => (Re5 (aq h0_ h1_) ho7 hb)
       have z_HO552 := fun (h0_ : b 25 = true) (h1_ : b 27 = false) => (Rb5 (ar h0_ h1_) hb)
       clear HB
       have dh := n0_
       have HB := n1_
       clear n0_ n1_
       clear hb ho7
       refine hK.out _ _ ⟨ey, aV, ba, aW, aX, aY, aZ, a0, a1, a2, a3, a4, a5, a6, a7, a8, a9, aT, m3_, m5_, m8_, bb, bc, bd, be, bf, bg, bh, (by rw [ha.out]; exact putSel_upk 18 hb_ rfl rfl rfl), (pB HB.out), z_HO504, z_HO507, z_HO510, z_HO513, z_HO516, z_HO519, z_HO522, z_HO525, z_HO528, z_HO531, z_HO534, fun _ _ => (Kd.pR dh.out), z_HO540, z_HO543, z_HO546, z_HO549, z_HO552, fun h0_ => absurd ((hoff 27 (by kernel_rfl)).symm.trans h0_) (by decide), aO, aN, aP, aC, aD, aE, fun h0_ => absurd ((hoff 20 (by kernel_rfl)).symm.trans h0_) (by decide), aG, aH, fun h0_ => absurd ((hoff 28 (by kernel_rfl)).symm.trans h0_) (by decide)⟩
      refine steps_cons ?_ ?_
      ·rintro b a w' ⟨ey, aV, ba, aW, aX, aY, aZ, a0, a1, a2, a3, a4, a5, a6, a7, a8, a9, aT, m3_, m5_, m8_, bb, bc, bd, be, bf, bg, bh, ha, Q_HB, ab, ac, ad, ae, af, ag, ah, ai, aj, ak, al, am, an, ao, ap, aq, ar, bi, aO, aN, aP, aC, aD, aE, aF, aG, aH, bC⟩ hb_ hon hoff
       refine ⟨_, rfl, fun K hK => ?_⟩
       replace ha := Aside0.mk ha
       have HB := Aside0.mk Q_HB
       refine Kd.R_lit_step Kd.bool _ 4 ?hg (N := 51) ?hd (xs := ([true] : List Bool)) (inner := [.bool true]) (ok := fun _ => True) (okp := fun _ => True) ?hr ?hp (fun _ hk => hk) trivial (Below.refl _ _) (Nat.le_refl _) (by simp) ?_; (case hd => rfl); (case hg => rfl); (case hr => first | (go_simp; done) | (go_simp; rfl)); (case hp => exact (Reps.one (show Kd.M Kd.bool _ _ _ true [.bool true] from rfl) (Reps.none _ _)))
       intro a5 w6 ho7 hb hg_ hnew_
       clear hg_ hnew_
       (first | rw [← gK.out] at ho7 | (simp only [Int.reduceToNat] at ho7; rw [← gK.out] at ho7))
       have n0_ := Aside0.mk (Kd.R_lower ho7 (below_size (pB HB.out)))
       have n1_ := Aside0.mk (below_step (pB HB.out) hb)
       have z_HO504 := fun (h0_ : b 1 = true) (h1_ : b 27 = false) => (Rb5 (ab h0_ h1_) hb)
       have z_HO507 := fun (h0_ : b 2 = true) (h1_ : b 27 = false) => (Re5 (ac h0_ h1_) ho7 hb)
       have z_HO510 := fun (h0_ : b 4 = true) (h1_ : b 27 = false) => (Rb5 (ad h0_ h1_) hb)
       have z_HO513 := fun (h0_ : b 6 = true) (h1_ : b 27 = false) => (Rb5 (ae h0_ h1_) hb)
       have z_HO516 := fun (h0_ : b 7 = true) (h1_ : b 27 = false) => (Re5 (af h0_ h1_) ho7 hb)
       have z_HO519 := fun (h0_ : b 9 = true) (h1_ : b 27 = false) => (Rb5 (ag h0_ h1_) hb)
       have z_HO522 := fun (h0_ : b 10 = true) (h1_ : b 27 = false) => (Re5 (ah h0_ h1_) ho7 hb)
       have z_HO525 := fun (h0_ : b 12 = true) (h1_ : b 27 = false) => (Rb5 (ai h0_ h1_) hb)
       have z_HO528 := fun (h0_ : b 13 = true) (h1_ : b 27 = false) => (Re5 (aj h0_ h1_) ho7 hb)
       have z_HO531 := fun (h0_ : b 15 = true) (h1_ : b 27 = false) => (Rb5 (ak h0_ h1_) hb)
       have z_HO534 := fun (h0_ : b 16 = true) (h1_ : b 27 = false) => (Re5 (al h0_ h1_) ho7 hb)
       have z_HO537 := fun (h0_ : b 18 = true) (h1_ : b 27 = false) => (Rb5 (am h0_ h1_) hb)
       have z_HO543 := fun (h0_ : b 21 = true) (h1_ : b 27 = false) => (Rb5 (ao h0_ h1_) hb)
       have z_HO546 := fun (h0_ : b 22 = true) (h1_ : b 27 = false) => (Re5 (ap h0_ h1_) ho7 hb)
       have z_HO549 := fun (h0_ : b 24 = true) (h1_ : b 27 = false) => (Rb5 (aq h0_ h1_) hb)
       have z_HO552 := fun (h0_ : b 25 = true) (h1_ : b 27 = false) => (Re5 (ar h0_ h1_) ho7 hb)
       clear HB
       have di := n0_
       have HB := n1_
       clear n0_ n1_
       clear hb ho7
       refine hK.out _ _ ⟨ey, aV, ba, aW, aX, aY, aZ, a0, a1, a2, a3, a4, a5, a6, a7, a8, a9, aT, m3_, m5_, m8_, bb, bc, bd, be, bf, bg, bh, (by rw [ha.out]; exact putSel_upk 19 hb_ rfl rfl rfl), (pB HB.out), z_HO504, z_HO507, z_HO510, z_HO513, z_HO516, z_HO519, z_HO522, z_HO525, z_HO528, z_HO531, z_HO534, z_HO537, fun _ _ => (Kd.pR di.out), z_HO543, z_HO546, z_HO549, z_HO552, fun h0_ => absurd ((hoff 27 (by kernel_rfl)).symm.trans h0_) (by decide), aO, aN, aP, aC, aD, aE, fun h0_ => absurd ((hoff 20 (by kernel_rfl)).symm.trans h0_) (by decide), aG, aH, fun h0_ => absurd ((hoff 28 (by kernel_rfl)).symm.trans h0_) (by decide)⟩
      refine steps_cons ?_ ?_
      ·rintro b a w' ⟨ey, aV, ba, aW, aX, aY, aZ, a0, a1, a2, a3, a4, a5, a6, a7, a8, a9, aT, m3_, m5_, m8_, bb, bc, bd, be, bf, bg, bh, ha, Q_HB, ab, ac, ad, ae, af, ag, ah, ai, aj, ak, al, am, an, ao, ap, aq, ar, bi, aO, aN, aP, aC, aD, aE, aF, aG, aH, bC⟩ hb_ hon hoff
       refine ⟨_, rfl, fun K hK => ?_⟩
       have e50 : a.tmps[50]? = some (a4) := by rw [ha]; exact putSel_on (e := (18, 50, a4)) 18 rfl rfl (hon 18 (by kernel_rfl)) rfl
       have e51 : a.tmps[51]? = some (a5) := by rw [ha]; exact putSel_on (e := (19, 51, a5)) 19 rfl rfl (hon 19 (by kernel_rfl)) rfl
       replace ha := Aside0.mk ha
       have HB := Aside0.mk Q_HB
       have dh := Aside0.mk (am (hon 18 (by kernel_rfl)) (hoff 27 (by kernel_rfl)))
       have di := Aside0.mk (an (hon 19 (by kernel_rfl)) (hoff 27 (by kernel_rfl)))
       obtain ⟨fg, eP, eo_⟩ := Kd.R_slice dh.out
       subst eo_
       obtain ⟨fh, eQ, eo_⟩ := Kd.R_slice di.out
       subst eo_
       refine value_ (w1 := w') (v := .agg #[.slice fg eE.length eP, .slice fh cJ.length eQ, .int .i64 0]) (by rfl) rfl ?_ ?_
       ·go_simp
        (try simp only [i64_w])
        try rfl
       refine hK.out _ _ ⟨ey, aV, ba, aW, aX, aY, aZ, a0, a1, a2, a3, .slice fg eE.length eP, .slice fh cJ.length eQ, a6, a7, a8, a9, aT, m3_, m5_, m8_, bb, bc, bd, (.agg #[.slice fg eE.length eP, .slice fh cJ.length eQ, .int .i64 0]), bf, bg, bh, (by rw [ha.out]; exact putSel_upk 20 hb_ rfl rfl rfl), Q_HB, ab, ac, ad, ae, af, ag, ah, ai, aj, ak, al, am, an, ao, ap, aq, ar, fun h0_ => absurd ((hoff 27 (by kernel_rfl)).symm.trans h0_) (by decide), aO, aN, aP, aC, aD, aE, fun _ => rfl, aG, aH, fun h0_ => absurd ((hoff 28 (by kernel_rfl)).symm.trans h0_) (by decide)⟩
      refine steps_cons ?_ ?_
      ·rintro b a w' ⟨ey, aV, ba, aW, aX, aY, aZ, a0, a1, a2, a3, a4, a5, a6, a7, a8, a9, aT, m3_, m5_, m8_, bb, bc, bd, be, bf, bg, bh, ha, Q_HB, ab, ac, ad, ae, af, ag, ah, ai, aj, ak, al, am, an, ao, ap, aq, ar, bi, aO, aN, aP, aC, aD, aE, aF, aG, aH, bC⟩ hb_ hon hoff
       refine ⟨_, rfl, fun K hK => ?_⟩
       replace ha := Aside0.mk ha
       have HB := Aside0.mk Q_HB
       refine Kd.R_lit_step (Kd.int .i64) _ 3 ?hg (N := 53) ?hd (xs := ([(-1), 0] : List Int)) (inner := [.int .i64 (-1), .int .i64 0]) (ok := fun _ => True) (okp := fun _ => True) ?hr ?hp (fun _ hk => hk) trivial (Below.refl _ _) (Nat.le_refl _) (by simp) ?_; (case hd => rfl); (case hg => rfl); (case hr => first | (go_simp; done) | (go_simp; rfl)); (case hp => exact (Reps.one (show Kd.M (Kd.int .i64) _ _ _ (-1) [.int .i64 (-1)] from rfl) (Reps.one (show Kd.M (Kd.int .i64) _ _ _ 0 [.int .i64 0] from rfl) (Reps.none _ _))))
       intro a6 w6 ho7 hb hg_ hnew_
       clear hg_ hnew_
       (first | rw [← gL.out] at ho7 | (simp only [Int.reduceToNat] at ho7; rw [← gL.out] at ho7))
       have n0_ := Aside0.mk (Kd.R_lower ho7 (below_size (pB HB.out)))
       have n1_ := Aside0.mk (below_step (pB HB.out) hb)
       have z_HO504 := fun (h0_ : b 1 = true) (h1_ : b 27 = false) => (Re5 (ab h0_ h1_) ho7 hb)
       have z_HO507 := fun (h0_ : b 2 = true) (h1_ : b 27 = false) => (Rb5 (ac h0_ h1_) hb)
       have z_HO510 := fun (h0_ : b 4 = true) (h1_ : b 27 = false) => (Re5 (ad h0_ h1_) ho7 hb)
       have z_HO513 := fun (h0_ : b 6 = true) (h1_ : b 27 = false) => (Re5 (ae h0_ h1_) ho7 hb)
       have z_HO516 := fun (h0_ : b 7 = true) (h1_ : b 27 = false) => (Rb5 (af h0_ h1_) hb)
       have z_HO519 := fun (h0_ : b 9 = true) (h1_ : b 27 = false) => (Re5 (ag h0_ h1_) ho7 hb)
       have z_HO522 := fun (h0_ : b 10 = true) (h1_ : b 27 = false) => (Rb5 (ah h0_ h1_) hb)
       have z_HO525 := fun (h0_ : b 12 = true) (h1_ : b 27 = false) => (Re5 (ai h0_ h1_) ho7 hb)
       have z_HO528 := fun (h0_ : b 13 = true) (h1_ : b 27 = false) => (Rb5 (aj h0_ h1_) hb)
       have z_HO531 := fun (h0_ : b 15 = true) (h1_ : b 27 = false) => (Re5 (ak h0_ h1_) ho7 hb)
       have z_HO534 := fun (h0_ : b 16 = true) (h1_ : b 27 = false) => (Rb5 (al h0_ h1_) hb)
       have z_HO537 := fun (h0_ : b 18 = true) (h1_ : b 27 = false) => (Re5 (am h0_ h1_) ho7 hb)
       have z_HO540 := fun (h0_ : b 19 = true) (h1_ : b 27 = false) => (Rb5 (an h0_ h1_) hb)
       have z_HO546 := fun (h0_ : b 22 = true) (h1_ : b 27 = false) => (Rb5 (ap h0_ h1_) hb)
       have z_HO549 := fun (h0_ : b 24 = true) (h1_ : b 27 = false) => (Re5 (aq h0_ h1_) ho7 hb)
       have z_HO552 := fun (h0_ : b 25 = true) (h1_ : b 27 = false) => (Rb5 (ar h0_ h1_) hb)
       clear HB
       have dj := n0_
       have HB := n1_
       clear n0_ n1_
       clear hb ho7
       refine hK.out _ _ ⟨ey, aV, ba, aW, aX, aY, aZ, a0, a1, a2, a3, a4, a5, a6, a7, a8, a9, aT, m3_, m5_, m8_, bb, bc, bd, be, bf, bg, bh, (by rw [ha.out]; exact putSel_upk 21 hb_ rfl rfl rfl), (pB HB.out), z_HO504, z_HO507, z_HO510, z_HO513, z_HO516, z_HO519, z_HO522, z_HO525, z_HO528, z_HO531, z_HO534, z_HO537, z_HO540, fun _ _ => (Kd.pR dj.out), z_HO546, z_HO549, z_HO552, fun h0_ => absurd ((hoff 27 (by kernel_rfl)).symm.trans h0_) (by decide), aO, aN, aP, aC, aD, aE, aF, fun h0_ => absurd ((hoff 23 (by kernel_rfl)).symm.trans h0_) (by decide), aH, fun h0_ => absurd ((hoff 28 (by kernel_rfl)).symm.trans h0_) (by decide)⟩
      refine steps_cons ?_ ?_
      ·rintro b a w' ⟨ey, aV, ba, aW, aX, aY, aZ, a0, a1, a2, a3, a4, a5, a6, a7, a8, a9, aT, m3_, m5_, m8_, bb, bc, bd, be, bf, bg, bh, ha, Q_HB, ab, ac, ad, ae, af, ag, ah, ai, aj, ak, al, am, an, ao, ap, aq, ar, bi, aO, aN, aP, aC, aD, aE, aF, aG, aH, bC⟩ hb_ hon hoff
       refine ⟨_, rfl, fun K hK => ?_⟩
       replace ha := Aside0.mk ha
       have HB := Aside0.mk Q_HB
       refine Kd.R_lit_step Kd.bool _ 4 ?hg (N := 54) ?hd (xs := ([false, true] : List Bool)) (inner := [.bool false, .bool true]) (ok := fun _ => True) (okp := fun _ => True) ?hr ?hp (fun _ hk => hk) trivial (Below.refl _ _) (Nat.le_refl _) (by simp) ?_; (case hd => rfl); (case hg => rfl); (case hr => first | (go_simp; done) | (go_simp; rfl)); (case hp => exact (Reps.one (show Kd.M Kd.bool _ _ _ false [.bool false] from rfl) (Reps.one (show Kd.M Kd.bool _ _ _ true [.bool true] from rfl) (Reps.none _ _))))
       intro a7 w6 ho7 hb hg_ hnew_
       clear hg_ hnew_
       (first | rw [← gM.out] at ho7 | (simp only [Int.reduceToNat] at ho7; rw [← gM.out] at ho7))
       have n0_ := Aside0.mk (Kd.R_lower ho7 (below_size (pB HB.out)))
       have n1_ := Aside0.mk (below_step (pB HB.out) hb)
       have z_HO504 := fun (h0_ : b 1 = true) (h1_ : b 27 = false) => (Rb5 (ab h0_ h1_) hb)
       have z_HO507 := fun (h0_ : b 2 = true) (h1_ : b 27 = false) => (Re5 (ac h0_ h1_) ho7 hb)
       have z_HO510 := fun (h0_ : b 4 = true) (h1_ : b 27 = false) => (Rb5 (ad h0_ h1_) hb)
       have z_HO513 := fun (h0_ : b 6 = true) (h1_ : b 27 = false) => (Rb5 (ae h0_ h1_) hb)
       have z_HO516 := fun (h0_ : b 7 = true) (h1_ : b 27 = false) => (Re5 (af h0_ h1_) ho7 hb)
       have z_HO519 := fun (h0_ : b 9 = true) (h1_ : b 27 = false) => (Rb5 (ag h0_ h1_) hb)
       have z_HO522 := fun (h0_ : b 10 = true) (h1_ : b 27 = false) => (Re5 (ah h0_ h1_) ho7 hb)
       have z_HO525 := fun (h0_ : b 12 = true) (h1_ : b 27 = false) => (Rb5 (ai h0_ h1_) hb)
       have z_HO528 := fun (h0_ : b 13 = true) (h1_ : b 27 = false) => (Re5 (aj h0_ h1_) ho7 hb)
       have z_HO531 := fun (h0_ : b 15 = true) (h1_ : b 27 = false) => (Rb5 (ak h0_ h1_) hb)
       have z_HO534 := fun (h0_ : b 16 = true) (h1_ : b 27 = false) => (Re5 (al h0_ h1_) ho7 hb)
       have z_HO537 := fun (h0_ : b 18 = true) (h1_ : b 27 = false) => (Rb5 (am h0_ h1_) hb)
       have z_HO540 := fun (h0_ : b 19 = true) (h1_ : b 27 = false) => (Re5 (an h0_ h1_) ho7 hb)
       have z_HO543 := fun (h0_ : b 21 = true) (h1_ : b 27 = false) => (Rb5 (ao h0_ h1_) hb)
       have z_HO549 := fun (h0_ : b 24 = true) (h1_ : b 27 = false) => (Rb5 (aq h0_ h1_) hb)
       have z_HO552 := fun (h0_ : b 25 = true) (h1_ : b 27 = false) => (Re5 (ar h0_ h1_) ho7 hb)
       clear HB
       have dk := n0_
       have HB := n1_
       clear n0_ n1_
       clear hb ho7
       refine hK.out _ _ ⟨ey, aV, ba, aW, aX, aY, aZ, a0, a1, a2, a3, a4, a5, a6, a7, a8, a9, aT, m3_, m5_, m8_, bb, bc, bd, be, bf, bg, bh, (by rw [ha.out]; exact putSel_upk 22 hb_ rfl rfl rfl), (pB HB.out), z_HO504, z_HO507, z_HO510, z_HO513, z_HO516, z_HO519, z_HO522, z_HO525, z_HO528, z_HO531, z_HO534, z_HO537, z_HO540, z_HO543, fun _ _ => (Kd.pR dk.out), z_HO549, z_HO552, fun h0_ => absurd ((hoff 27 (by kernel_rfl)).symm.trans h0_) (by decide), aO, aN, aP, aC, aD, aE, aF, fun h0_ => absurd ((hoff 23 (by kernel_rfl)).symm.trans h0_) (by decide), aH, fun h0_ => absurd ((hoff 28 (by kernel_rfl)).symm.trans h0_) (by decide)⟩
      refine steps_cons ?_ ?_
      ·rintro b a w' ⟨ey, aV, ba, aW, aX, aY, aZ, a0, a1, a2, a3, a4, a5, a6, a7, a8, a9, aT, m3_, m5_, m8_, bb, bc, bd, be, bf, bg, bh, ha, Q_HB, ab, ac, ad, ae, af, ag, ah, ai, aj, ak, al, am, an, ao, ap, aq, ar, bi, aO, aN, aP, aC, aD, aE, aF, aG, aH, bC⟩ hb_ hon hoff
       refine ⟨_, rfl, fun K hK => ?_⟩
       have e53 : a.tmps[53]? = some (a6) := by rw [ha]; exact putSel_on (e := (21, 53, a6)) 21 rfl rfl (hon 21 (by kernel_rfl)) rfl
       have e54 : a.tmps[54]? = some (a7) := by rw [ha]; exact putSel_on (e := (22, 54, a7)) 22 rfl rfl (hon 22 (by kernel_rfl)) rfl
       replace ha := Aside0.mk ha
       have HB := Aside0.mk Q_HB
       have dj := Aside0.mk (ao (hon 21 (by kernel_rfl)) (hoff 27 (by kernel_rfl)))
       have dk := Aside0.mk (ap (hon 22 (by kernel_rfl)) (hoff 27 (by kernel_rfl)))
       obtain ⟨fi, eR, eo_⟩ := Kd.R_slice dj.out
       subst eo_
       obtain ⟨fj, eS, eo_⟩ := Kd.R_slice dk.out
       subst eo_
       refine value_ (w1 := w') (v := .agg #[.slice fi eF.length eR, .slice fj cQ.length eS, .int .i64 0]) (by rfl) rfl ?_ ?_
       ·go_simp
        (try simp only [i64_w])
        try rfl
       refine hK.out _ _ ⟨ey, aV, ba, aW, aX, aY, aZ, a0, a1, a2, a3, a4, a5, .slice fi eF.length eR, .slice fj cQ.length eS, a8, a9, aT, m3_, m5_, m8_, bb, bc, bd, be, (.agg #[.slice fi eF.length eR, .slice fj cQ.length eS, .int .i64 0]), bg, bh, (by rw [ha.out]; exact putSel_upk 23 hb_ rfl rfl rfl), Q_HB, ab, ac, ad, ae, af, ag, ah, ai, aj, ak, al, am, an, ao, ap, aq, ar, fun h0_ => absurd ((hoff 27 (by kernel_rfl)).symm.trans h0_) (by decide), aO, aN, aP, aC, aD, aE, aF, fun _ => rfl, aH, fun h0_ => absurd ((hoff 28 (by kernel_rfl)).symm.trans h0_) (by decide)⟩
      refine steps_cons ?_ ?_
      ·rintro b a w' ⟨ey, aV, ba, aW, aX, aY, aZ, a0, a1, a2, a3, a4, a5, a6, a7, a8, a9, aT, m3_, m5_, m8_, bb, bc, bd, be, bf, bg, bh, ha, Q_HB, ab, ac, ad, ae, af, ag, ah, ai, aj, ak, al, am, an, ao, ap, aq, ar, bi, aO, aN, aP, aC, aD, aE, aF, aG, aH, bC⟩ hb_ hon hoff
       refine ⟨_, rfl, fun K hK => ?_⟩
       replace ha := Aside0.mk ha
       have HB := Aside0.mk Q_HB
       refine Kd.R_lit_step (Kd.int .i64) _ 3 ?hg (N := 56) ?hd (xs := ([(-1)] : List Int)) (inner := [.int .i64 (-1)]) (ok := fun _ => True) (okp := fun _ => True) ?hr ?hp (fun _ hk => hk) trivial (Below.refl _ _) (Nat.le_refl _) (by simp) ?_; (case hd => rfl); (case hg => rfl); (case hr => first | (go_simp; done) | (go_simp; rfl)); (case hp => exact (Reps.one (show Kd.M (Kd.int .i64) _ _ _ (-1) [.int .i64 (-1)] from rfl) (Reps.none _ _)))
       intro a8 w6 ho7 hb hg_ hnew_
       clear hg_ hnew_
       (first | rw [← gN.out] at ho7 | (simp only [Int.reduceToNat] at ho7; rw [← gN.out] at ho7))
       have n0_ := Aside0.mk (Kd.R_lower ho7 (below_size (pB HB.out)))
       have n1_ := Aside0.mk (below_step (pB HB.out) hb)
       have z_HO504 := fun (h0_ : b 1 = true) (h1_ : b 27 = false) => (Re5 (ab h0_ h1_) ho7 hb)
       have z_HO507 := fun (h0_ : b 2 = true) (h1_ : b 27 = false) => (Rb5 (ac h0_ h1_) hb)
       have z_HO510 := fun (h0_ : b 4 = true) (h1_ : b 27 = false) => (Re5 (ad h0_ h1_) ho7 hb)
       have z_HO513 := fun (h0_ : b 6 = true) (h1_ : b 27 = false) => (Re5 (ae h0_ h1_) ho7 hb)
       have z_HO516 := fun (h0_ : b 7 = true) (h1_ : b 27 = false) => (Rb5 (af h0_ h1_) hb)
       have z_HO519 := fun (h0_ : b 9 = true) (h1_ : b 27 = false) => (Re5 (ag h0_ h1_) ho7 hb)
       have z_HO522 := fun (h0_ : b 10 = true) (h1_ : b 27 = false) => (Rb5 (ah h0_ h1_) hb)
       have z_HO525 := fun (h0_ : b 12 = true) (h1_ : b 27 = false) => (Re5 (ai h0_ h1_) ho7 hb)
       have z_HO528 := fun (h0_ : b 13 = true) (h1_ : b 27 = false) => (Rb5 (aj h0_ h1_) hb)
       have z_HO531 := fun (h0_ : b 15 = true) (h1_ : b 27 = false) => (Re5 (ak h0_ h1_) ho7 hb)
       have z_HO534 := fun (h0_ : b 16 = true) (h1_ : b 27 = false) => (Rb5 (al h0_ h1_) hb)
       have z_HO537 := fun (h0_ : b 18 = true) (h1_ : b 27 = false) => (Re5 (am h0_ h1_) ho7 hb)
       have z_HO540 := fun (h0_ : b 19 = true) (h1_ : b 27 = false) => (Rb5 (an h0_ h1_) hb)
       have z_HO543 := fun (h0_ : b 21 = true) (h1_ : b 27 = false) => (Re5 (ao h0_ h1_) ho7 hb)
       have z_HO546 := fun (h0_ : b 22 = true) (h1_ : b 27 = false) => (Rb5 (ap h0_ h1_) hb)
       have z_HO552 := fun (h0_ : b 25 = true) (h1_ : b 27 = false) => (Rb5 (ar h0_ h1_) hb)
       clear HB
       have dl := n0_
       have HB := n1_
       clear n0_ n1_
       clear hb ho7
       refine hK.out _ _ ⟨ey, aV, ba, aW, aX, aY, aZ, a0, a1, a2, a3, a4, a5, a6, a7, a8, a9, aT, m3_, m5_, m8_, bb, bc, bd, be, bf, bg, bh, (by rw [ha.out]; exact putSel_upk 24 hb_ rfl rfl rfl), (pB HB.out), z_HO504, z_HO507, z_HO510, z_HO513, z_HO516, z_HO519, z_HO522, z_HO525, z_HO528, z_HO531, z_HO534, z_HO537, z_HO540, z_HO543, z_HO546, fun _ _ => (Kd.pR dl.out), z_HO552, fun h0_ => absurd ((hoff 27 (by kernel_rfl)).symm.trans h0_) (by decide), aO, aN, aP, aC, aD, aE, aF, aG, fun h0_ => absurd ((hoff 26 (by kernel_rfl)).symm.trans h0_) (by decide), fun h0_ => absurd ((hoff 28 (by kernel_rfl)).symm.trans h0_) (by decide)⟩
      refine steps_cons ?_ ?_
      ·rintro b a w' ⟨ey, aV, ba, aW, aX, aY, aZ, a0, a1, a2, a3, a4, a5, a6, a7, a8, a9, aT, m3_, m5_, m8_, bb, bc, bd, be, bf, bg, bh, ha, Q_HB, ab, ac, ad, ae, af, ag, ah, ai, aj, ak, al, am, an, ao, ap, aq, ar, bi, aO, aN, aP, aC, aD, aE, aF, aG, aH, bC⟩ hb_ hon hoff
       refine ⟨_, rfl, fun K hK => ?_⟩
       replace ha := Aside0.mk ha
       have HB := Aside0.mk Q_HB
       refine Kd.R_make_step Kd.bool _ 4 (by rfl) (N := 57) rfl 34 _ _ rfl 1 rfl rfl Try.underlying34 (.bool false) 1 info4 rfl (by decide) (by omega) false (ok := fun _ => True) (okp := fun _ => True) rfl (fun _ hk => hk) trivial (by omega) (by omega) (Below.refl _ _) (Nat.le_refl _) ?_
       intro a9 w6 ho7 hb hg_ hnew_
       clear hg_ hnew_
       (first | rw [← gO.out] at ho7 | (simp only [Int.reduceToNat] at ho7; rw [← gO.out] at ho7))
       have n0_ := Aside0.mk (Kd.R_lower ho7 (below_size (pB HB.out)))
       have n1_ := Aside0.mk (below_step (pB HB.out) hb)
       have z_HO504 := fun (h0_ : b 1 = true) (h1_ : b 27 = false) => (Rb5 (ab h0_ h1_) hb)
       have z_HO507 := fun (h0_ : b 2 = true) (h1_ : b 27 = false) => (Re5 (ac h0_ h1_) ho7 hb)
       have z_HO510 := fun (h0_ : b 4 = true) (h1_ : b 27 = false) => (Rb5 (ad h0_ h1_) hb)
       have z_HO513 := fun (h0_ : b 6 = true) (h1_ : b 27 = false) => (Rb5 (ae h0_ h1_) hb)
       have z_HO516 := fun (h0_ : b 7 = true) (h1_ : b 27 = false) => (Re5 (af h0_ h1_) ho7 hb)
       have z_HO519 := fun (h0_ : b 9 = true) (h1_ : b 27 = false) => (Rb5 (ag h0_ h1_) hb)
       have z_HO522 := fun (h0_ : b 10 = true) (h1_ : b 27 = false) => (Re5 (ah h0_ h1_) ho7 hb)
       have z_HO525 := fun (h0_ : b 12 = true) (h1_ : b 27 = false) => (Rb5 (ai h0_ h1_) hb)
       have z_HO528 := fun (h0_ : b 13 = true) (h1_ : b 27 = false) => (Re5 (aj h0_ h1_) ho7 hb)
       have z_HO531 := fun (h0_ : b 15 = true) (h1_ : b 27 = false) => (Rb5 (ak h0_ h1_) hb)
       have z_HO534 := fun (h0_ : b 16 = true) (h1_ : b 27 = false) => (Re5 (al h0_ h1_) ho7 hb)
       have z_HO537 := fun (h0_ : b 18 = true) (h1_ : b 27 = false) => (Rb5 (am h0_ h1_) hb)
       have z_HO540 := fun (h0_ : b 19 = true) (h1_ : b 27 = false) => (Re5 (an h0_ h1_) ho7 hb)
       have z_HO543 := fun (h0_ : b 21 = true) (h1_ : b 27 = false) => (Rb5 (ao h0_ h1_) hb)
       have z_HO546 := fun (h0_ : b 22 = true) (h1_ : b 27 = false) => (Re5 (ap h0_ h1_) ho7 hb)
       have z_HO549 := fun (h0_ : b 24 = true) (h1_ : b 27 = false) => (Rb5 (aq h0_ h1_) hb)
       clear HB
       have dm := n0_
       have HB := n1_
       clear n0_ n1_
       clear hb ho7
       refine hK.out _ _ ⟨ey, aV, ba, aW, aX, aY, aZ, a0, a1, a2, a3, a4, a5, a6, a7, a8, a9, aT, m3_, m5_, m8_, bb, bc, bd, be, bf, bg, bh, (by rw [ha.out]; exact putSel_upk 25 hb_ rfl rfl rfl), (pB HB.out), z_HO504, z_HO507, z_HO510, z_HO513, z_HO516, z_HO519, z_HO522, z_HO525, z_HO528, z_HO531, z_HO534, z_HO537, z_HO540, z_HO543, z_HO546, z_HO549, fun _ _ => (Kd.pR dm.out), fun h0_ => absurd ((hoff 27 (by kernel_rfl)).symm.trans h0_) (by decide), aO, aN, aP, aC, aD, aE, aF, aG, fun h0_ => absurd ((hoff 26 (by kernel_rfl)).symm.trans h0_) (by decide), fun h0_ => absurd ((hoff 28 (by kernel_rfl)).symm.trans h0_) (by decide)⟩
      refine steps_cons ?_ ?_
      ·rintro b a w' ⟨ey, aV, ba, aW, aX, aY, aZ, a0, a1, a2, a3, a4, a5, a6, a7, a8, a9, aT, m3_, m5_, m8_, bb, bc, bd, be, bf, bg, bh, ha, Q_HB, ab, ac, ad, ae, af, ag, ah, ai, aj, ak, al, am, an, ao, ap, aq, ar, bi, aO, aN, aP, aC, aD, aE, aF, aG, aH, bC⟩ hb_ hon hoff
       refine ⟨_, rfl, fun K hK => ?_⟩
       have e56 : a.tmps[56]? = some (a8) := by rw [ha]; exact putSel_on (e := (24, 56, a8)) 24 rfl rfl (hon 24 (by kernel_rfl)) rfl
       have e57 : a.tmps[57]? = some (a9) := by rw [ha]; exact putSel_on (e := (25, 57, a9)) 25 rfl rfl (hon 25 (by kernel_rfl)) rfl
       replace ha := Aside0.mk ha
       have HB := Aside0.mk Q_HB
       have dl := Aside0.mk (aq (hon 24 (by kernel_rfl)) (hoff 27 (by kernel_rfl)))
       have dm := Aside0.mk (ar (hon 25 (by kernel_rfl)) (hoff 27 (by kernel_rfl)))
       obtain ⟨fk, eT, eo_⟩ := Kd.R_slice dl.out
       subst eo_
       obtain ⟨fl, eU, eo_⟩ := Kd.R_slice dm.out
       subst eo_
       refine value_ (w1 := w') (v := .agg #[.slice fk eG.length eT, .slice fl c0.length eU, .int .i64 (-1)]) (by rfl) rfl ?_ ?_
       ·go_simp
        (try simp only [i64_w])
        try rfl
       refine hK.out _ _ ⟨ey, aV, ba, aW, aX, aY, aZ, a0, a1, a2, a3, a4, a5, a6, a7, .slice fk eG.length eT, .slice fl c0.length eU, aT, m3_, m5_, m8_, bb, bc, bd, be, bf, (.agg #[.slice fk eG.length eT, .slice fl c0.length eU, .int .i64 (-1)]), bh, (by rw [ha.out]; exact putSel_upk 26 hb_ rfl rfl rfl), Q_HB, ab, ac, ad, ae, af, ag, ah, ai, aj, ak, al, am, an, ao, ap, aq, ar, fun h0_ => absurd ((hoff 27 (by kernel_rfl)).symm.trans h0_) (by decide), aO, aN, aP, aC, aD, aE, aF, aG, fun _ => rfl, fun h0_ => absurd ((hoff 28 (by kernel_rfl)).symm.trans h0_) (by decide)⟩
      refine steps_cons ?_ ?_
      ·rintro b a w' ⟨ey, aV, ba, aW, aX, aY, aZ, a0, a1, a2, a3, a4, a5, a6, a7, a8, a9, aT, m3_, m5_, m8_, bb, bc, bd, be, bf, bg, bh, ha, Q_HB, ab, ac, ad, ae, af, ag, ah, ai, aj, ak, al, am, an, ao, ap, aq, ar, bi, aO, aN, aP, aC, aD, aE, aF, aG, aH, bC⟩ hb_ hon hoff
       refine ⟨_, rfl, fun K hK => ?_⟩
       have e32 : a.tmps[32]? = some (.agg #[.slice none 0 0, .slice none 0 0, .int .i64 0]) := by rw [ha]; exact putSel_on (e := (0, 32, .agg #[.slice none 0 0, .slice none 0 0, .int .i64 0])) 0 rfl rfl (hon 0 (by kernel_rfl)) rfl
       have e35 : a.tmps[35]? = some (m3_) := by rw [ha]; exact putSel_on (e := (3, 35, m3_)) 3 rfl rfl (hon 3 (by kernel_rfl)) rfl
       rw [aO (hon 3 (by kernel_rfl))] at e35
       have e37 : a.tmps[37]? = some (m5_) := by rw [ha]; exact putSel_on (e := (5, 37, m5_)) 5 rfl rfl (hon 5 (by kernel_rfl)) rfl
       rw [aN (hon 5 (by kernel_rfl))] at e37
       have e40 : a.tmps[40]? = some (m8_) := by rw [ha]; exact putSel_on (e := (8, 40, m8_)) 8 rfl rfl (hon 8 (by kernel_rfl)) rfl
       rw [aP (hon 8 (by kernel_rfl))] at e40
       have e43 : a.tmps[43]? = some (bb) := by rw [ha]; exact putSel_on (e := (11, 43, bb)) 11 rfl rfl (hon 11 (by kernel_rfl)) rfl
       rw [aC (hon 11 (by kernel_rfl))] at e43
       have e46 : a.tmps[46]? = some (bc) := by rw [ha]; exact putSel_on (e := (14, 46, bc)) 14 rfl rfl (hon 14 (by kernel_rfl)) rfl
       rw [aD (hon 14 (by kernel_rfl))] at e46
       have e49 : a.tmps[49]? = some (bd) := by rw [ha]; exact putSel_on (e := (17, 49, bd)) 17 rfl rfl (hon 17 (by kernel_rfl)) rfl
       rw [aE (hon 17 (by kernel_rfl))] at e49
       have e52 : a.tmps[52]? = some (be) := by rw [ha]; exact putSel_on (e := (20, 52, be)) 20 rfl rfl (hon 20 (by kernel_rfl)) rfl
       rw [aF (hon 20 (by kernel_rfl))] at e52
       have e55 : a.tmps[55]? = some (bf) := by rw [ha]; exact putSel_on (e := (23, 55, bf)) 23 rfl rfl (hon 23 (by kernel_rfl)) rfl
       rw [aG (hon 23 (by kernel_rfl))] at e55
       have e58 : a.tmps[58]? = some (bg) := by rw [ha]; exact putSel_on (e := (26, 58, bg)) 26 rfl rfl (hon 26 (by kernel_rfl)) rfl
       rw [aH (hon 26 (by kernel_rfl))] at e58
       replace ha := Aside0.mk ha
       have HB := Aside0.mk Q_HB
       have c7 := Aside0.mk (ab (hon 1 (by kernel_rfl)) hb_)
       have c8 := Aside0.mk (ac (hon 2 (by kernel_rfl)) hb_)
       have cW := Aside0.mk (ad (hon 4 (by kernel_rfl)) hb_)
       have c9 := Aside0.mk (ae (hon 6 (by kernel_rfl)) hb_)
       have da := Aside0.mk (af (hon 7 (by kernel_rfl)) hb_)
       have db := Aside0.mk (ag (hon 9 (by kernel_rfl)) hb_)
       have dc := Aside0.mk (ah (hon 10 (by kernel_rfl)) hb_)
       have dd := Aside0.mk (ai (hon 12 (by kernel_rfl)) hb_)
       have de := Aside0.mk (aj (hon 13 (by kernel_rfl)) hb_)
       have df := Aside0.mk (ak (hon 15 (by kernel_rfl)) hb_)
       have dg := Aside0.mk (al (hon 16 (by kernel_rfl)) hb_)
       have dh := Aside0.mk (am (hon 18 (by kernel_rfl)) hb_)
       have di := Aside0.mk (an (hon 19 (by kernel_rfl)) hb_)
       have dj := Aside0.mk (ao (hon 21 (by kernel_rfl)) hb_)
       have dk := Aside0.mk (ap (hon 22 (by kernel_rfl)) hb_)
       have dl := Aside0.mk (aq (hon 24 (by kernel_rfl)) hb_)
       have dm := Aside0.mk (ar (hon 25 (by kernel_rfl)) hb_)
       obtain ⟨hq, gh, g2⟩ := Kd.R_slice c8.out
       (first | subst g2 | (injection g2 with f1_ f2_ f3_; have f4_ := f1_.symm; have f5_ := f3_.symm; clear f1_ f2_ f3_; subst f4_; subst f5_))
       obtain ⟨hm, gi, g3⟩ := Kd.R_slice c7.out
       (first | subst g3 | (injection g3 with f1_ f2_ f3_; have f4_ := f1_.symm; have f5_ := f3_.symm; clear f1_ f2_ f3_; subst f4_; subst f5_))
       obtain ⟨hs, gj, g4⟩ := Kd.R_slice cW.out
       (first | subst g4 | (injection g4 with f1_ f2_ f3_; have f4_ := f1_.symm; have f5_ := f3_.symm; clear f1_ f2_ f3_; subst f4_; subst f5_))
       obtain ⟨hu, gl, g5⟩ := Kd.R_slice da.out
       (first | subst g5 | (injection g5 with f1_ f2_ f3_; have f4_ := f1_.symm; have f5_ := f3_.symm; clear f1_ f2_ f3_; subst f4_; subst f5_))
       obtain ⟨ht, gm, g6⟩ := Kd.R_slice c9.out
       (first | subst g6 | (injection g6 with f1_ f2_ f3_; have f4_ := f1_.symm; have f5_ := f3_.symm; clear f1_ f2_ f3_; subst f4_; subst f5_))
       obtain ⟨hx, gn, g7⟩ := Kd.R_slice dc.out
       (first | subst g7 | (injection g7 with f1_ f2_ f3_; have f4_ := f1_.symm; have f5_ := f3_.symm; clear f1_ f2_ f3_; subst f4_; subst f5_))
       obtain ⟨hv, go, g8⟩ := Kd.R_slice db.out
       (first | subst g8 | (injection g8 with f1_ f2_ f3_; have f4_ := f1_.symm; have f5_ := f3_.symm; clear f1_ f2_ f3_; subst f4_; subst f5_))
       obtain ⟨hz, gp, g9⟩ := Kd.R_slice de.out
       (first | subst g9 | (injection g9 with f1_ f2_ f3_; have f4_ := f1_.symm; have f5_ := f3_.symm; clear f1_ f2_ f3_; subst f4_; subst f5_))
       obtain ⟨hy, eV, e3⟩ := Kd.R_slice dd.out
       (first | subst e3 | (injection e3 with f1_ f2_ f3_; have f4_ := f1_.symm; have f5_ := f3_.symm; clear f1_ f2_ f3_; subst f4_; subst f5_))
       obtain ⟨hB, gq, hc⟩ := Kd.R_slice dg.out
       (first | subst hc | (injection hc with f1_ f2_ f3_; have f4_ := f1_.symm; have f5_ := f3_.symm; clear f1_ f2_ f3_; subst f4_; subst f5_))
       obtain ⟨hA, gr, he⟩ := Kd.R_slice df.out
       (first | subst he | (injection he with f1_ f2_ f3_; have f4_ := f1_.symm; have f5_ := f3_.symm; clear f1_ f2_ f3_; subst f4_; subst f5_))
       obtain ⟨eW, ea, e4⟩ := Kd.R_slice di.out
       (first | subst e4 | (injection e4 with f1_ f2_ f3_; have f4_ := f1_.symm; have f5_ := f3_.symm; clear f1_ f2_ f3_; subst f4_; subst f5_))
       obtain ⟨hC, gs, hf⟩ := Kd.R_slice dh.out
       (first | subst hf | (injection hf with f1_ f2_ f3_; have f4_ := f1_.symm; have f5_ := f3_.symm; clear f1_ f2_ f3_; subst f4_; subst f5_))
       obtain ⟨eX, eb, e5⟩ := Kd.R_slice dk.out
       (first | subst e5 | (injection e5 with f1_ f2_ f3_; have f4_ := f1_.symm; have f5_ := f3_.symm; clear f1_ f2_ f3_; subst f4_; subst f5_))
       obtain ⟨hD, gt, hh⟩ := Kd.R_slice dj.out
       (first | subst hh | (injection hh with f1_ f2_ f3_; have f4_ := f1_.symm; have f5_ := f3_.symm; clear f1_ f2_ f3_; subst f4_; subst f5_))
       obtain ⟨hF, gu, hj⟩ := Kd.R_slice dm.out
       (first | subst hj | (injection hj with f1_ f2_ f3_; have f4_ := f1_.symm; have f5_ := f3_.symm; clear f1_ f2_ f3_; subst f4_; subst f5_))
       obtain ⟨hE, gv, hl⟩ := Kd.R_slice dl.out
       (first | subst hl | (injection hl with f1_ f2_ f3_; have f4_ := f1_.symm; have f5_ := f3_.symm; clear f1_ f2_ f3_; subst f4_; subst f5_))
       refine Kd.N_lit_step k36 _ 36 ?hg (N' := 59) ?hd (xs := ([(⟨([] : List Int), ([] : List Bool), 0⟩ : S36), (⟨ez, cg, 0⟩ : S36), (⟨d9, ([] : List Bool), 0⟩ : S36), (⟨eA, cp, 0⟩ : S36), (⟨eB, cu, 1⟩ : S36), (⟨eC, cB, (-2)⟩ : S36), (⟨eD, cE, 0⟩ : S36), (⟨eE, cJ, 0⟩ : S36), (⟨eF, cQ, 0⟩ : S36), (⟨eG, c0, (-1)⟩ : S36)] : List (S36))) (inner := [.slice none 0 0, .slice none 0 0, .int .i64 0, .slice hm ez.length gi, .slice hq cg.length gh, .int .i64 0, .slice hs d9.length gj, .slice none 0 0, .int .i64 0, .slice ht eA.length gm, .slice hu cp.length gl, .int .i64 0, .slice hv eB.length go, .slice hx cu.length gn, .int .i64 1, .slice hy eC.length eV, .slice hz cB.length gp, .int .i64 (-2), .slice hA eD.length gr, .slice hB cE.length gq, .int .i64 0, .slice hC eE.length gs, .slice eW cJ.length ea, .int .i64 0, .slice hD eF.length gt, .slice eX cQ.length eb, .int .i64 0, .slice hE eG.length gv, .slice hF c0.length gu, .int .i64 (-1)]) (ok := (fun _ => True)) (okp := (fun _ => True)) ?hr ?hp (fun _ hk => hk) ((show ∀ k_, w'.heap.size ≤ k_ → (fun _ => True) k_ from fun k_ hk => trivial) _ (Nat.le_refl _)) (Below.refl _ _) (Nat.le_refl _) (by simp) ?_; (case hd => rfl); (case hg => rfl); (case hr => first | (go_simp; done) | (go_simp; rfl)); (case hp => exact (Reps.c3 (show Kd.FK k36 _ _ (⟨([] : List Int), ([] : List Bool), 0⟩ : S36) [.slice none 0 0, .slice none 0 0, .int .i64 0] from (k36_mkF _ _ (⟨([] : List Int), ([] : List Bool), 0⟩ : S36) (Nat.le_refl _) (Kd.F_nil _ _ _) (Nat.le_refl _) (Kd.F_nil _ _ _))) (Reps.c3 (show Kd.FK k36 _ _ (⟨ez, cg, 0⟩ : S36) [.slice hm ez.length gi, .slice hq cg.length gh, .int .i64 0] from (k36_mkF _ _ (⟨ez, cg, 0⟩ : S36) (Kd.R_reads' (Kd.R_mono (ok' := (fun _ => True)) (c7.out) (fun k_ hk => trivial))).2.1 (Kd.R_F (Kd.R_mono (ok' := (fun _ => True)) (c7.out) (fun k_ hk => trivial))) (Kd.R_reads' (Kd.R_mono (ok' := (fun _ => True)) (c8.out) (fun k_ hk => trivial))).2.1 (Kd.R_F (Kd.R_mono (ok' := (fun _ => True)) (c8.out) (fun k_ hk => trivial))))) (Reps.c3 (show Kd.FK k36 _ _ (⟨d9, ([] : List Bool), 0⟩ : S36) [.slice hs d9.length gj, .slice none 0 0, .int .i64 0] from (k36_mkF _ _ (⟨d9, ([] : List Bool), 0⟩ : S36) (Kd.R_reads' (Kd.R_mono (ok' := (fun _ => True)) (cW.out) (fun k_ hk => trivial))).2.1 (Kd.R_F (Kd.R_mono (ok' := (fun _ => True)) (cW.out) (fun k_ hk => trivial))) (Nat.le_refl _) (Kd.F_nil _ _ _))) (Reps.c3 (show Kd.FK k36 _ _ (⟨eA, cp, 0⟩ : S36) [.slice ht eA.length gm, .slice hu cp.length gl, .int .i64 0] from (k36_mkF _ _ (⟨eA, cp, 0⟩ : S36) (Kd.R_reads' (Kd.R_mono (ok' := (fun _ => True)) (c9.out) (fun k_ hk => trivial))).2.1 (Kd.R_F (Kd.R_mono (ok' := (fun _ => True)) (c9.out) (fun k_ hk => trivial))) (Kd.R_reads' (Kd.R_mono (ok' := (fun _ => True)) (da.out) (fun k_ hk => trivial))).2.1 (Kd.R_F (Kd.R_mono (ok' := (fun _ => True)) (da.out) (fun k_ hk => trivial))))) (Reps.c3 (show Kd.FK k36 _ _ (⟨eB, cu, 1⟩ : S36) [.slice hv eB.length go, .slice hx cu.length gn, .int .i64 1] from (k36_mkF _ _ (⟨eB, cu, 1⟩ : S36) (Kd.R_reads' (Kd.R_mono (ok' := (fun _ => True)) (db.out) (fun k_ hk => trivial))).2.1 (Kd.R_F (Kd.R_mono (ok' := (fun _ => True)) (db.out) (fun k_ hk => trivial))) (Kd.R_reads' (Kd.R_mono (ok' := (fun _ => True)) (dc.out) (fun k_ hk => trivial))).2.1 (Kd.R_F (Kd.R_mono (ok' := (fun _ => True)) (dc.out) (fun k_ hk => trivial))))) (Reps.c3 (show Kd.FK k36 _ _ (⟨eC, cB, (-2)⟩ : S36) [.slice hy eC.length eV, .slice hz cB.length gp, .int .i64 (-2)] from (k36_mkF _ _ (⟨eC, cB, (-2)⟩ : S36) (Kd.R_reads' (Kd.R_mono (ok' := (fun _ => True)) (dd.out) (fun k_ hk => trivial))).2.1 (Kd.R_F (Kd.R_mono (ok' := (fun _ => True)) (dd.out) (fun k_ hk => trivial))) (Kd.R_reads' (Kd.R_mono (ok' := (fun _ => True)) (de.out) (fun k_ hk => trivial))).2.1 (Kd.R_F (Kd.R_mono (ok' := (fun _ => True)) (de.out) (fun k_ hk => trivial))))) (Reps.c3 (show Kd.FK k36 _ _ (⟨eD, cE, 0⟩ : S36) [.slice hA eD.length gr, .slice hB cE.length gq, .int .i64 0] from (k36_mkF _ _ (⟨eD, cE, 0⟩ : S36) (Kd.R_reads' (Kd.R_mono (ok' := (fun _ => True)) (df.out) (fun k_ hk => trivial))).2.1 (Kd.R_F (Kd.R_mono (ok' := (fun _ => True)) (df.out) (fun k_ hk => trivial))) (Kd.R_reads' (Kd.R_mono (ok' := (fun _ => True)) (dg.out) (fun k_ hk => trivial))).2.1 (Kd.R_F (Kd.R_mono (ok' := (fun _ => True)) (dg.out) (fun k_ hk => trivial))))) (Reps.c3 (show Kd.FK k36 _ _ (⟨eE, cJ, 0⟩ : S36) [.slice hC eE.length gs, .slice eW cJ.length ea, .int .i64 0] from (k36_mkF _ _ (⟨eE, cJ, 0⟩ : S36) (Kd.R_reads' (Kd.R_mono (ok' := (fun _ => True)) (dh.out) (fun k_ hk => trivial))).2.1 (Kd.R_F (Kd.R_mono (ok' := (fun _ => True)) (dh.out) (fun k_ hk => trivial))) (Kd.R_reads' (Kd.R_mono (ok' := (fun _ => True)) (di.out) (fun k_ hk => trivial))).2.1 (Kd.R_F (Kd.R_mono (ok' := (fun _ => True)) (di.out) (fun k_ hk => trivial))))) (Reps.c3 (show Kd.FK k36 _ _ (⟨eF, cQ, 0⟩ : S36) [.slice hD eF.length gt, .slice eX cQ.length eb, .int .i64 0] from (k36_mkF _ _ (⟨eF, cQ, 0⟩ : S36) (Kd.R_reads' (Kd.R_mono (ok' := (fun _ => True)) (dj.out) (fun k_ hk => trivial))).2.1 (Kd.R_F (Kd.R_mono (ok' := (fun _ => True)) (dj.out) (fun k_ hk => trivial))) (Kd.R_reads' (Kd.R_mono (ok' := (fun _ => True)) (dk.out) (fun k_ hk => trivial))).2.1 (Kd.R_F (Kd.R_mono (ok' := (fun _ => True)) (dk.out) (fun k_ hk => trivial))))) (Reps.c3 (show Kd.FK k36 _ _ (⟨eG, c0, (-1)⟩ : S36) [.slice hE eG.length gv, .slice hF c0.length gu, .int .i64 (-1)] from (k36_mkF _ _ (⟨eG, c0, (-1)⟩ : S36) (Kd.R_reads' (Kd.R_mono (ok' := (fun _ => True)) (dl.out) (fun k_ hk => trivial))).2.1 (Kd.R_F (Kd.R_mono (ok' := (fun _ => True)) (dl.out) (fun k_ hk => trivial))) (Kd.R_reads' (Kd.R_mono (ok' := (fun _ => True)) (dm.out) (fun k_ hk => trivial))).2.1 (Kd.R_F (Kd.R_mono (ok' := (fun _ => True)) (dm.out) (fun k_ hk => trivial))))) (Reps.none _ _))))))))))))
       intro aT w75 ho76 hb hg_ hnew_
       clear hg_ hnew_
       (first | rw [← gP.out] at ho76 | (simp only [Int.reduceToNat] at ho76; rw [← gP.out] at ho76))
       have n0_ := Aside0.mk (Kd.N_lower ho76 (below_size (pB HB.out)))
       have n1_ := Aside0.mk (below_step (pB HB.out) hb)
       clear HB
       (try clear c7)
       (try clear c8)
       (try clear cW)
       (try clear c9)
       (try clear da)
       (try clear db)
       (try clear dc)
       (try clear dd)
       (try clear de)
       (try clear df)
       (try clear dg)
       (try clear dh)
       (try clear di)
       (try clear dj)
       (try clear dk)
       (try clear dl)
       (try clear dm)
       have eI := n0_
       have HB := n1_
       clear n0_ n1_
       clear hb ho76
       refine hK.out _ _ ⟨.slice hm ez.length gi, .slice hq cg.length gh, .slice hs d9.length gj, .slice ht eA.length gm, .slice hu cp.length gl, .slice hv eB.length go, .slice hx cu.length gn, .slice hy eC.length eV, .slice hz cB.length gp, .slice hA eD.length gr, .slice hB cE.length gq, .slice hC eE.length gs, .slice eW cJ.length ea, .slice hD eF.length gt, .slice eX cQ.length eb, .slice hE eG.length gv, .slice hF c0.length gu, aT, m3_, m5_, m8_, bb, bc, bd, be, bf, bg, bh, (by rw [ha.out]; exact putSel_upk 27 hb_ rfl rfl rfl), (pB HB.out), fun _ h1_ => absurd ((up_self b 27).symm.trans h1_) (by decide), fun _ h1_ => absurd ((up_self b 27).symm.trans h1_) (by decide), fun _ h1_ => absurd ((up_self b 27).symm.trans h1_) (by decide), fun _ h1_ => absurd ((up_self b 27).symm.trans h1_) (by decide), fun _ h1_ => absurd ((up_self b 27).symm.trans h1_) (by decide), fun _ h1_ => absurd ((up_self b 27).symm.trans h1_) (by decide), fun _ h1_ => absurd ((up_self b 27).symm.trans h1_) (by decide), fun _ h1_ => absurd ((up_self b 27).symm.trans h1_) (by decide), fun _ h1_ => absurd ((up_self b 27).symm.trans h1_) (by decide), fun _ h1_ => absurd ((up_self b 27).symm.trans h1_) (by decide), fun _ h1_ => absurd ((up_self b 27).symm.trans h1_) (by decide), fun _ h1_ => absurd ((up_self b 27).symm.trans h1_) (by decide), fun _ h1_ => absurd ((up_self b 27).symm.trans h1_) (by decide), fun _ h1_ => absurd ((up_self b 27).symm.trans h1_) (by decide), fun _ h1_ => absurd ((up_self b 27).symm.trans h1_) (by decide), fun _ h1_ => absurd ((up_self b 27).symm.trans h1_) (by decide), fun _ h1_ => absurd ((up_self b 27).symm.trans h1_) (by decide), fun _ => (Kd.pN eI.out), aO, aN, aP, aC, aD, aE, aF, aG, aH, fun h0_ => absurd ((hoff 28 (by kernel_rfl)).symm.trans h0_) (by decide)⟩
      refine steps_cons ?_ ?_
      ·rintro b a w' ⟨ey, aV, ba, aW, aX, aY, aZ, a0, a1, a2, a3, a4, a5, a6, a7, a8, a9, aT, m3_, m5_, m8_, bb, bc, bd, be, bf, bg, bh, ha, Q_HB, ab, ac, ad, ae, af, ag, ah, ai, aj, ak, al, am, an, ao, ap, aq, ar, bi, aO, aN, aP, aC, aD, aE, aF, aG, aH, bC⟩ hb_ hon hoff
       refine ⟨_, rfl, fun K hK => ?_⟩
       have e59 : a.tmps[59]? = some (aT) := by rw [ha]; exact putSel_on (e := (27, 59, aT)) 27 rfl rfl (hon 27 (by kernel_rfl)) rfl
       replace ha := Aside0.mk ha
       have HB := Aside0.mk Q_HB
       have eI := Aside0.mk (bi (hon 27 (by kernel_rfl)))
       refine value_ (w1 := w') (v := aT) (by rfl) rfl ?_ ?_
       ·go_simp
        (try simp only [i64_w])
        try rfl
       refine hK.out _ _ ⟨ey, aV, ba, aW, aX, aY, aZ, a0, a1, a2, a3, a4, a5, a6, a7, a8, a9, aT, m3_, m5_, m8_, bb, bc, bd, be, bf, bg, (aT), (by rw [ha.out]; exact putSel_upk 28 hb_ rfl rfl rfl), Q_HB, fun _ h1_ => absurd ((hon 27 (by kernel_rfl)).symm.trans h1_) (by decide), fun _ h1_ => absurd ((hon 27 (by kernel_rfl)).symm.trans h1_) (by decide), fun _ h1_ => absurd ((hon 27 (by kernel_rfl)).symm.trans h1_) (by decide), fun _ h1_ => absurd ((hon 27 (by kernel_rfl)).symm.trans h1_) (by decide), fun _ h1_ => absurd ((hon 27 (by kernel_rfl)).symm.trans h1_) (by decide), fun _ h1_ => absurd ((hon 27 (by kernel_rfl)).symm.trans h1_) (by decide), fun _ h1_ => absurd ((hon 27 (by kernel_rfl)).symm.trans h1_) (by decide), fun _ h1_ => absurd ((hon 27 (by kernel_rfl)).symm.trans h1_) (by decide), fun _ h1_ => absurd ((hon 27 (by kernel_rfl)).symm.trans h1_) (by decide), fun _ h1_ => absurd ((hon 27 (by kernel_rfl)).symm.trans h1_) (by decide), fun _ h1_ => absurd ((hon 27 (by kernel_rfl)).symm.trans h1_) (by decide), fun _ h1_ => absurd ((hon 27 (by kernel_rfl)).symm.trans h1_) (by decide), fun _ h1_ => absurd ((hon 27 (by kernel_rfl)).symm.trans h1_) (by decide), fun _ h1_ => absurd ((hon 27 (by kernel_rfl)).symm.trans h1_) (by decide), fun _ h1_ => absurd ((hon 27 (by kernel_rfl)).symm.trans h1_) (by decide), fun _ h1_ => absurd ((hon 27 (by kernel_rfl)).symm.trans h1_) (by decide), fun _ h1_ => absurd ((hon 27 (by kernel_rfl)).symm.trans h1_) (by decide), bi, aO, aN, aP, aC, aD, aE, aF, aG, aH, fun _ => rfl⟩
      exact steps_nil
     rintro b a w59 hall ⟨ey, aV, ba, aW, aX, aY, aZ, a0, a1, a2, a3, a4, a5, a6, a7, a8, a9, aT, m3_, m5_, m8_, bb, bc, bd, be, bf, bg, bh, ha, Q_HB, ab, ac, ad, ae, af, ag, ah, ai, aj, ak, al, am, an, ao, ap, aq, ar, bi, aO, aN, aP, aC, aD, aE, aF, aG, aH, bC⟩
     clear HB
     have hb0_ := hall 0 (by kernel_rfl)
     have hb1_ := hall 1 (by kernel_rfl)
     have hb2_ := hall 2 (by kernel_rfl)
     have hb3_ := hall 3 (by kernel_rfl)
     have hb4_ := hall 4 (by kernel_rfl)
     have hb5_ := hall 5 (by kernel_rfl)
     have hb6_ := hall 6 (by kernel_rfl)
     have hb7_ := hall 7 (by kernel_rfl)
     have hb8_ := hall 8 (by kernel_rfl)
     have hb9_ := hall 9 (by kernel_rfl)
     have hb10_ := hall 10 (by kernel_rfl)
     have hb11_ := hall 11 (by kernel_rfl)
     have hb12_ := hall 12 (by kernel_rfl)
     have hb13_ := hall 13 (by kernel_rfl)
     have hb14_ := hall 14 (by kernel_rfl)
     have hb15_ := hall 15 (by kernel_rfl)
     have hb16_ := hall 16 (by kernel_rfl)
     have hb17_ := hall 17 (by kernel_rfl)
     have hb18_ := hall 18 (by kernel_rfl)
     have hb19_ := hall 19 (by kernel_rfl)
     have hb20_ := hall 20 (by kernel_rfl)
     have hb21_ := hall 21 (by kernel_rfl)
     have hb22_ := hall 22 (by kernel_rfl)
     have hb23_ := hall 23 (by kernel_rfl)
     have hb24_ := hall 24 (by kernel_rfl)
     have hb25_ := hall 25 (by kernel_rfl)
     have hb26_ := hall 26 (by kernel_rfl)
     have hb27_ := hall 27 (by kernel_rfl)
     have hb28_ := hall 28 (by kernel_rfl)
     subst ha
     obtain rfl := aO hb3_
     obtain rfl := aN hb5_
     obtain rfl := aP hb8_
     obtain rfl := aC hb11_
     obtain rfl := aD hb14_
     obtain rfl := aE hb17_
     obtain rfl := aF hb20_
     obtain rfl := aG hb23_
     obtain rfl := aH hb26_
     obtain rfl := (bC hb28_).symm
     simp only [putSel, hb0_, hb1_, hb2_, hb3_, hb4_, hb5_, hb6_, hb7_, hb8_, hb9_, hb10_, hb11_, hb12_, hb13_, hb14_, hb15_, hb16_, hb17_, hb18_, hb19_, hb20_, hb21_, hb22_, hb23_, hb24_, hb25_, hb26_, hb27_, hb28_, if_true, Act.put, List.setIfInBounds_toArray, List.set_cons_zero, List.set_cons_succ]
     have HB := Aside0.mk Q_HB
     (try clear Q_HB)
     (try clear ab)
     (try clear ac)
     (try clear ad)
     (try clear ae)
     (try clear af)
     (try clear ag)
     (try clear ah)
     (try clear ai)
     (try clear aj)
     (try clear ak)
     (try clear al)
     (try clear am)
     (try clear an)
     (try clear ao)
     (try clear ap)
     (try clear aq)
     (try clear ar)
     have eI := Aside0.mk (bi hb27_)
     (try clear bi)
     clear hall hb0_ hb1_ hb2_ hb3_ hb4_ hb5_ hb6_ hb7_ hb8_ hb9_ hb10_ hb11_ hb12_ hb13_ hb14_ hb15_ hb16_ hb17_ hb18_ hb19_ hb20_ hb21_ hb22_ hb23_ hb24_ hb25_ hb26_ hb27_ hb28_
     try go_wp2
     go_loopg [2] k (fun kq v2 w' => ∃ (x2_1 : Int), v2 = .int .i64 x2_1 ∧ Aside0 (spigotlaw13_ArenaNames.l0 kq b4 x2_1 = some true) ∧ Aside0 (kq ≤ k) ∧ Aside0 (Kd.N k36 36 w' w.heap.size (fun _ => True) aT b4) ∧ Aside0 (Below w.heap.size w w'))
     case atStart => exact ⟨(0), (by first | rfl | (simp; done) | (simp [*]; done)), H', ⟨Nat.le_refl _⟩, ⟨Kd.pN eI.out⟩, ⟨pB HB.out⟩⟩
     case round =>
      clear H'
      try clear p2
      try clear c3
      obtain ⟨x2_1, rfl, HA, HK1, HO_1, HB⟩ := hrel
      cases gk with
      | zero => exact absurd HA.out (by simp [spigotlaw13_ArenaNames.l0])
      | succ k1 =>
       have H := HA.out
       (try clear HA)
       simp only [spigotlaw13_ArenaNames.l0] at H
       by_cases c60 : x2_1 < (b4.length : Int)
       ·rw [if_pos c60] at H
        have c60b0 : decide (x2_1 < (b4.length : Int)) = true := decide_eq_true c60
        clear c60
        by_cases c61 : 0 ≤ x2_1
        ·rw [if_pos c61] at H
         have c61b0 : decide (0 ≤ x2_1) = true := decide_eq_true c61
         clear c61
         replace H := Option.bind_eq_some_iff.mp H
         obtain ⟨⟨gx, e6, gw, ip, d5⟩, hG, H⟩ := H
         replace H : ((arena_Check.f k1 ((rd_T36 b4 x2_1).f0) ((rd_T36 b4 x2_1).f1) ((rd_T36 b4 x2_1).f2)).bind fun d4 => (if d4 = 8 then (if d5 = 8 then (spigotlaw13_ArenaNames.l0 k1 b4 (wrap64 (x2_1 + 1))) else (some false)) else (some false))) = some true := H
         have A62 := Aside0.mk hG
         (try clear hG)
         replace H := Option.bind_eq_some_iff.mp H
         obtain ⟨d4, hH, H⟩ := H
         replace H : (if d4 = 8 then (if d5 = 8 then (spigotlaw13_ArenaNames.l0 k1 b4 (wrap64 (x2_1 + 1))) else (some false)) else (some false)) = some true := H
         have A63 := Aside0.mk hH
         (try clear hH)
         by_cases c64 : d4 = 8
         ·rw [if_pos c64] at H
          have c64b0 : (d4 == 8) = true := beq_iff_eq.mpr c64
          have c64b1 : (d4 != 8) = false := bne_eq_false_iff_eq.mpr c64
          clear c64
          by_cases c65 : d5 = 8
          ·rw [if_pos c65] at H
           have c65b0 : (d5 == 8) = true := beq_iff_eq.mpr c65
           have c65b1 : (d5 != 8) = false := bne_eq_false_iff_eq.mpr c65
           clear c65
           have H' := Aside0.mk H
           clear H
           obtain ⟨hy, eV, e3⟩ := Kd.N_slice HO_1.out
           subst e3
           have p556 : 0 ≤ (x2_1 : Int) := od
           have q556 : x2_1 < (b4.length : Int) := od
           obtain ⟨ad556, hI, c556_0, hJ, c556_1, e556, gY, gZ, jR, hl556_0, hi556_0, hl556_1, hi556_1⟩ := at_T36 (Kd.N_reads' HO_1.out).2.2 x2_1 p556 q556
           cases e556
           obtain ⟨ce556, hce556, hMe556, hcc556⟩ := Kd.N_get HO_1.out z36 x2_1 p556 (by first | exact q556 | exact od | (have e_ := (Kd.N_reads' HO_1.out).1; omega))
           obtain ⟨ua556_0, uc556_0, ua556_1, uc556_1, rfl, ul556_0, ge556_0, ul556_1, ge556_1⟩ := k36_openF hMe556
           have hv556_0 := hcc556 0 _ rfl
           rw [Nat.add_zero] at hv556_0
           replace hv556_0 := Option.some.inj (hv556_0.symm.trans gY)
           injection hv556_0 with hva_ hvn_ hvc_
           rw [hva_] at ge556_0
           rw [hvc_] at ul556_0
           have HL556_0 := Aside0.mk (show Kd.V (Kd.int .i64) 3 _ w.heap.size _ _ ((rd_T36 b4 x2_1).f0) from Kd.V_mk ul556_0 ge556_0)
           clear hva_ hvn_ hvc_ ge556_0 ul556_0
           have hv556_1 := hcc556 1 _ rfl
           rw [add_field _ _ 1 (by omega)] at hv556_1
           replace hv556_1 := Option.some.inj (hv556_1.symm.trans gZ)
           injection hv556_1 with hva_ hvn_ hvc_
           rw [hva_] at ge556_1
           rw [hvc_] at ul556_1
           have HL556_1 := Aside0.mk (show Kd.V Kd.bool 4 _ w.heap.size _ _ ((rd_T36 b4 x2_1).f1) from Kd.V_mk ul556_1 ge556_1)
           clear hva_ hvn_ hvc_ ge556_1 ul556_1
           clear hcc556 hce556
           have HR556_0 := Aside0.mk hi556_0
           have HC556_0 := Aside0.mk hl556_0
           clear hi556_0 hl556_0
           have HR556_1 := Aside0.mk hi556_1
           have HC556_1 := Aside0.mk hl556_1
           clear hi556_1 hl556_1
           replace p556 := eq_true p556
           replace q556 := eq_true q556
           go_wp2_with (first | ((with_reducible refine gate_callee (f := 25) rfl ?_); refine goesE (some 71) rfl rfl Try.func25 (by kernel_rfl) rfl #[.agg #[.slice hI ((rd_T36 b4 x2_1).f0).length c556_0, .slice hJ ((rd_T36 b4 x2_1).f1).length c556_1, .int .i64 ((rd_T36 b4 x2_1).f2)]] rfl ?_; (with_reducible refine (arena_Take.calls k1 _ _ ((rd_T36 b4 x2_1).f0) _ _ ((rd_T36 b4 x2_1).f1) ((rd_T36 b4 x2_1).f2) gx e6 gw ip d5 _ ?side1 ?side2 ?side3 ?side4 A62.out).mono ?_); (case side1 => exact Kd.pC HR556_0.out); (case side2 => exact HC556_0.out); (case side3 => exact Kd.pC HR556_1.out); (case side4 => exact HC556_1.out); rintro e w67 ⟨v558, lE, rfl, ho0, ho1, hb⟩; refine ⟨_, rfl, ?_⟩; have n0_ := Aside0.mk (Kd.N_mono (Kd.N_told (Kd.N_told (Kd.N_old (Kd.pN HO_1.out) hb) (Kd.R_base ho0)) (Kd.R_base ho1)) (fun _ h_ => h_.1)); have n3_ := Aside0.mk (Kd.R_lower ho0 (below_size (pB HB.out))); have n4_ := Aside0.mk (Kd.R_lower ho1 (below_size (pB HB.out))); have n7_ := Aside0.mk (below_step (pB HB.out) hb); clear HO_1; (try clear HL556_0); (try clear HL556_1); (try clear HR556_0); (try clear HR556_1); clear HB; have HO_1 := n0_; have d6 := n3_; have d7 := n4_; have HB := n7_; clear n0_ n3_ n4_ n7_; (try clear hb); (try clear hb2); (try clear hk); (try clear hi); (try clear ho0); (try clear ho1)) | ((with_reducible refine gate_dst (N := 3) rfl ?_); (try (refine gate_guard (by rfl) ?_; dsimp only)); refine boxE (N := 3) (cs := #[.slice none 0 0, .slice none 0 0, .int .i64 0]) (t := 36) ?_; intro e7 hg w68 hbox hb; have n0_ := Aside0.mk (Kd.N_below (Kd.N_elderB (Kd.pN HO_1.out) e7 (Nat.le_of_eq hg.symm)) hb); have n3_ := Rb1 d6 hb; have n4_ := Rb1 d7 hb; have n7_ := Aside0.mk (below_step (pB HB.out) hb); have n8_ := Aside0.mk (hbox); have n10_ := Aside0.mk (pL HB.out hg); clear HO_1; (try clear HL556_0); (try clear HL556_1); clear d6; clear d7; (try clear HR556_0); (try clear HR556_1); clear HB; have HO_1 := n0_; have d6 := n3_; have d7 := n4_; have HB := n7_; have e8 := n8_; have ls := n10_; clear n0_ n3_ n4_ n7_ n8_ n10_; clear hb hbox hg; obtain ⟨eW, ea, e4⟩ := Kd.R_slice d6.out; subst e4; obtain ⟨hcz70_0, jS, jT, jU, jV, jW⟩ := bk3 e8.out; obtain ⟨eX, eb, e5⟩ := Kd.R_slice d7.out; subst e5) | ((with_reducible refine gate_store (t := 36) (p := 3) rfl ?_); refine store_event (t := 36) (p := 3) (v := ?vo_w72) (w1 := (((w68.setCell ⟨e7, 0, none⟩ (.slice eW gx.length ea)).setCell ⟨e7, 1, none⟩ (.slice eX e6.length eb)).setCell ⟨e7, 2, none⟩ (.int .i64 gw))) ?hg ?ho ?hn ?hr ?_; (case ho => rfl); (case hg => rfl); (case hn => rfl); (case hr => first | (go_simp; done) | (go_simp; rfl)); intro w72 hw; have n0_ : Aside0 (Kd.N k36 36 w72 w.heap.size (fun k_ => some k_ ≠ (.slice eW gx.length ea : Value).ownBlock ∧ some k_ ≠ (.slice eX e6.length eb : Value).ownBlock ∧ k_ ≠ e7) (.slice (some ad556) b4.length eV) b4) := ⟨(by rw [hw]; exact (Kd.pN (Kd.N_mono (Kd.N_far (p := ⟨e7, 2, none⟩) (Kd.N_far (p := ⟨e7, 1, none⟩) (Kd.N_far (p := ⟨e7, 0, none⟩) (Kd.N_mono HO_1.out (fun k_ hk => (⟨hk, hk.2⟩ : _ ∧ k_ ≠ e7))) (fun _ hk => hk.2) (.slice eW gx.length ea)) (fun _ hk => hk.2) (.slice eX e6.length eb)) (fun _ hk => hk.2) (.int .i64 gw)) (fun _ hk => ⟨hk.1.1.1.2, ⟨hk.1.1.2, hk.1.2⟩⟩))))⟩; have n6_ : Aside0 (Below w.heap.size w w72) := ⟨(by rw [hw]; exact (pB HB.out))⟩; (try clear hw); clear HO_1; (try clear HL556_0); (try clear HL556_1); (try clear d6); (try clear d7); (try clear e8); clear HB; have HO_1 := n0_; have HB := n6_; clear n0_ n6_; have p567 : 0 ≤ (x2_1 : Int) := od; have q567 : x2_1 < (b4.length : Int) := od; obtain ⟨ad567, hL, c567_0, hM, c567_1, e567, g0, g1, jX, hl567_0, hi567_0, hl567_1, hi567_1⟩ := at_T36 (Kd.N_reads' HO_1.out).2.2 x2_1 p567 q567; obtain rfl : ad556 = ad567 := (by injection e567); obtain ⟨ce567, hce567, hMe567, hcc567⟩ := Kd.N_get HO_1.out z36 x2_1 p567 (by first | exact q567 | exact od | (have e_ := (Kd.N_reads' HO_1.out).1; omega)); obtain ⟨ua567_0, uc567_0, ua567_1, uc567_1, rfl, ul567_0, ge567_0, ul567_1, ge567_1⟩ := k36_openF hMe567; have hv567_0 := hcc567 0 _ rfl; rw [Nat.add_zero] at hv567_0; replace hv567_0 := Option.some.inj (hv567_0.symm.trans g0); injection hv567_0 with hva_ hvn_ hvc_; rw [hva_] at ge567_0; rw [hvc_] at ul567_0; have HL567_0 := Aside0.mk (show Kd.V (Kd.int .i64) 3 _ w.heap.size _ _ ((rd_T36 b4 x2_1).f0) from Kd.V_mk ul567_0 ge567_0); clear hva_ hvn_ hvc_ ge567_0 ul567_0; have hv567_1 := hcc567 1 _ rfl; rw [add_field _ _ 1 (by omega)] at hv567_1; replace hv567_1 := Option.some.inj (hv567_1.symm.trans g1); injection hv567_1 with hva_ hvn_ hvc_; rw [hva_] at ge567_1; rw [hvc_] at ul567_1; have HL567_1 := Aside0.mk (show Kd.V Kd.bool 4 _ w.heap.size _ _ ((rd_T36 b4 x2_1).f1) from Kd.V_mk ul567_1 ge567_1); clear hva_ hvn_ hvc_ ge567_1 ul567_1; clear hcc567 hce567; have HR567_0 := Aside0.mk hi567_0; have HC567_0 := Aside0.mk hl567_0; clear hi567_0 hl567_0; have HR567_1 := Aside0.mk hi567_1; have HC567_1 := Aside0.mk hl567_1; clear hi567_1 hl567_1; replace p567 := eq_true p567; replace q567 := eq_true q567) | ((with_reducible refine gate_callee (f := 35) rfl ?_); refine goesE (some 79) rfl rfl Try.func35 (by kernel_rfl) rfl #[.agg #[.slice hL ((rd_T36 b4 x2_1).f0).length c567_0, .slice hM ((rd_T36 b4 x2_1).f1).length c567_1, .int .i64 ((rd_T36 b4 x2_1).f2)]] rfl ?_; (with_reducible refine (arena_Check.calls k1 _ _ ((rd_T36 b4 x2_1).f0) _ _ ((rd_T36 b4 x2_1).f1) ((rd_T36 b4 x2_1).f2) d4 _ ?side1 ?side2 ?side3 ?side4 A63.out).mono ?_); (case side1 => exact Kd.pC HR567_0.out); (case side2 => exact HC567_0.out); (case side3 => exact Kd.pC HR567_1.out); (case side4 => exact HC567_1.out); rintro e w73 ⟨rfl, hb⟩; refine ⟨_, rfl, ?_⟩; have n0_ := Aside0.mk (Kd.N_below (Kd.pN HO_1.out) hb); have n12_ := Aside0.mk (below_step (pB HB.out) hb); clear HO_1; (try clear HL556_0); (try clear HL556_1); (try clear d6); (try clear d7); (try clear HL567_0); (try clear HL567_1); (try clear HR556_0); (try clear HR556_1); (try clear e8); (try clear HR567_0); (try clear HR567_1); clear HB; have HO_1 := n0_; have HB := n12_; clear n0_ n12_; (try clear hb); (try clear hb2); (try clear hk); (try clear hi)))
           go_roundg k1
           case measure => have := HK1.out; omega
           case rel => exact ⟨(wrap64 (x2_1 + 1)), (by first | rfl | (simp; done) | (simp [*]; done)), H', ⟨by have := HK1.out; omega⟩, ⟨Kd.pN (Kd.N_mono HO_1.out (fun _ hk => trivial))⟩, ⟨pB HB.out⟩⟩
          ·rw [if_neg c65] at H
           have c65b0 : (d5 == 8) = false := beq_eq_false_iff_ne.mpr c65
           have c65b1 : (d5 != 8) = true := bne_iff_ne.mpr c65
           exact absurd H (by simp)
         ·rw [if_neg c64] at H
          have c64b0 : (d4 == 8) = false := beq_eq_false_iff_ne.mpr c64
          have c64b1 : (d4 != 8) = true := bne_iff_ne.mpr c64
          exact absurd H (by simp)
        ·rw [if_neg c61] at H
         exact absurd H (by simp)
       ·rw [if_neg c60] at H
        have c60b0 : decide (x2_1 < (b4.length : Int)) = false := decide_eq_false c60
        (try clear c60)
        replace H := Option.bind_eq_some_iff.mp H
        obtain ⟨⟨cx, cv, cL, cw⟩, hN, H⟩ := H
        replace H : ((arena_New.f k1 17).bind fun bt578 => ((arena_New.f k1 16).bind fun bt587 => ((some (([(-1)] : List Int) : List Int)).bind fun ax => ((some (([true] : List Bool) : List Bool)).bind fun ay => ((arena_Take.f k1 ax ay (-1)).bind fun bt603 => ((arena_New.f k1 1).bind fun bt613 => ((arena_Give.f k1 bt613.1 bt613.2.1 bt613.2.2.1 0).bind fun bt622 => ((arena_Give.f k1 ax ay (-1) 1).bind fun bt631 => ((arena_Give.f k1 ax ay (-1) (-1)).bind fun bt640 => ((arena_Give.f k1 ax ay (-1) 0).bind fun bt649 => ((arena_Count.f k1 ax ay (-1)).bind fun bt658 => ((arena_Count.f k1 ([] : List Int) ([] : List Bool) 0).bind fun bt661 => ((spigotlaw13_alive.f k1).bind fun b8 => (if b8 = true then (if cw = 2 then (if bt578.2.2.2 = 2 then (if bt587.2.2.2 = 0 then (if (bt587.1.length : Int) = 16 then (if bt603.2.2.2.2 = 18 then (if bt613.2.2.2 = 0 then (if bt622.2.2.2 = 36 then (if bt631.2.2.2 = 2 then (if bt640.2.2.2 = 2 then (if bt649.2.2.2 = 0 then ((spigotref13_Same.f k1 bt649.1 bt649.2.1 bt649.2.2.1 bt613.1 bt613.2.1 bt613.2.2.1).bind fun bY => (if bY = true then (if bt658.2.2 = 0 then (if bt658.1 = 1 then (if bt658.2.1 = 0 then (some (bt661.2.2 == 8)) else (some false)) else (some false)) else (some false)) else (some false))) else (some false)) else (some false)) else (some false)) else (some false)) else (some false)) else (some false)) else (some false)) else (some false)) else (some false)) else (some false)) else (none))))))))))))))) = some true := H
        have A74 := Aside0.mk hN
        (try clear hN)
        replace H := Option.bind_eq_some_iff.mp H
        obtain ⟨⟨cn, cm, cF, cA⟩, hO, H⟩ := H
        replace H : ((arena_New.f k1 16).bind fun bt587 => ((some (([(-1)] : List Int) : List Int)).bind fun ax => ((some (([true] : List Bool) : List Bool)).bind fun ay => ((arena_Take.f k1 ax ay (-1)).bind fun bt603 => ((arena_New.f k1 1).bind fun bt613 => ((arena_Give.f k1 bt613.1 bt613.2.1 bt613.2.2.1 0).bind fun bt622 => ((arena_Give.f k1 ax ay (-1) 1).bind fun bt631 => ((arena_Give.f k1 ax ay (-1) (-1)).bind fun bt640 => ((arena_Give.f k1 ax ay (-1) 0).bind fun bt649 => ((arena_Count.f k1 ax ay (-1)).bind fun bt658 => ((arena_Count.f k1 ([] : List Int) ([] : List Bool) 0).bind fun bt661 => ((spigotlaw13_alive.f k1).bind fun b8 => (if b8 = true then (if cw = 2 then (if cA = 2 then (if bt587.2.2.2 = 0 then (if (bt587.1.length : Int) = 16 then (if bt603.2.2.2.2 = 18 then (if bt613.2.2.2 = 0 then (if bt622.2.2.2 = 36 then (if bt631.2.2.2 = 2 then (if bt640.2.2.2 = 2 then (if bt649.2.2.2 = 0 then ((spigotref13_Same.f k1 bt649.1 bt649.2.1 bt649.2.2.1 bt613.1 bt613.2.1 bt613.2.2.1).bind fun bY => (if bY = true then (if bt658.2.2 = 0 then (if bt658.1 = 1 then (if bt658.2.1 = 0 then (some (bt661.2.2 == 8)) else (some false)) else (some false)) else (some false)) else (some false))) else (some false)) else (some false)) else (some false)) else (some false)) else (some false)) else (some false)) else (some false)) else (some false)) else (some false)) else (some false)) else (none)))))))))))))) = some true := H
        have A75 := Aside0.mk hO
        (try clear hO)
        replace H := Option.bind_eq_some_iff.mp H
        obtain ⟨⟨bH, cl, cD, cC⟩, hP, H⟩ := H
        replace H : ((some (([(-1)] : List Int) : List Int)).bind fun ax => ((some (([true] : List Bool) : List Bool)).bind fun ay => ((arena_Take.f k1 ax ay (-1)).bind fun bt603 => ((arena_New.f k1 1).bind fun bt613 => ((arena_Give.f k1 bt613.1 bt613.2.1 bt613.2.2.1 0).bind fun bt622 => ((arena_Give.f k1 ax ay (-1) 1).bind fun bt631 => ((arena_Give.f k1 ax ay (-1) (-1)).bind fun bt640 => ((arena_Give.f k1 ax ay (-1) 0).bind fun bt649 => ((arena_Count.f k1 ax ay (-1)).bind fun bt658 => ((arena_Count.f k1 ([] : List Int) ([] : List Bool) 0).bind fun bt661 => ((spigotlaw13_alive.f k1).bind fun b8 => (if b8 = true then (if cw = 2 then (if cA = 2 then (if cC = 0 then (if (bH.length : Int) = 16 then (if bt603.2.2.2.2 = 18 then (if bt613.2.2.2 = 0 then (if bt622.2.2.2 = 36 then (if bt631.2.2.2 = 2 then (if bt640.2.2.2 = 2 then (if bt649.2.2.2 = 0 then ((spigotref13_Same.f k1 bt649.1 bt649.2.1 bt649.2.2.1 bt613.1 bt613.2.1 bt613.2.2.1).bind fun bY => (if bY = true then (if bt658.2.2 = 0 then (if bt658.1 = 1 then (if bt658.2.1 = 0 then (some (bt661.2.2 == 8)) else (some false)) else (some false)) else (some false)) else (some false))) else (some false)) else (some false)) else (some false)) else (some false)) else (some false)) else (some false)) else (some false)) else (some false)) else (some false)) else (some false)) else (none))))))))))))) = some true := H
        have A76 := Aside0.mk hP
        (try clear hP)
        obtain ⟨ax, eu⟩ : ∃ y_ : List Int, y_ = (([(-1)] : List Int)) := ⟨_, rfl⟩
        replace H : ((some (([true] : List Bool) : List Bool)).bind fun ay => ((arena_Take.f k1 ax ay (-1)).bind fun bt603 => ((arena_New.f k1 1).bind fun bt613 => ((arena_Give.f k1 bt613.1 bt613.2.1 bt613.2.2.1 0).bind fun bt622 => ((arena_Give.f k1 ax ay (-1) 1).bind fun bt631 => ((arena_Give.f k1 ax ay (-1) (-1)).bind fun bt640 => ((arena_Give.f k1 ax ay (-1) 0).bind fun bt649 => ((arena_Count.f k1 ax ay (-1)).bind fun bt658 => ((arena_Count.f k1 ([] : List Int) ([] : List Bool) 0).bind fun bt661 => ((spigotlaw13_alive.f k1).bind fun b8 => (if b8 = true then (if cw = 2 then (if cA = 2 then (if cC = 0 then (if (bH.length : Int) = 16 then (if bt603.2.2.2.2 = 18 then (if bt613.2.2.2 = 0 then (if bt622.2.2.2 = 36 then (if bt631.2.2.2 = 2 then (if bt640.2.2.2 = 2 then (if bt649.2.2.2 = 0 then ((spigotref13_Same.f k1 bt649.1 bt649.2.1 bt649.2.2.1 bt613.1 bt613.2.1 bt613.2.2.1).bind fun bY => (if bY = true then (if bt658.2.2 = 0 then (if bt658.1 = 1 then (if bt658.2.1 = 0 then (some (bt661.2.2 == 8)) else (some false)) else (some false)) else (some false)) else (some false))) else (some false)) else (some false)) else (some false)) else (some false)) else (some false)) else (some false)) else (some false)) else (some false)) else (some false)) else (some false)) else (none)))))))))))) = some true := by first | (rw [eu]; with_reducible exact H) | (have H2_ := (Option.bind_some _ _).symm.trans H; rw [eu]; with_reducible exact H2_) | (have H2_ := (Option.bind_some _ _).symm.trans H; with_reducible exact H2_) | with_reducible exact H | (rw [eu]; exact H) | exact H
        have gV := Aside0.mk eu
        (try clear eu)
        obtain ⟨ay, ev⟩ : ∃ y_ : List Bool, y_ = (([true] : List Bool)) := ⟨_, rfl⟩
        replace H : ((arena_Take.f k1 ax ay (-1)).bind fun bt603 => ((arena_New.f k1 1).bind fun bt613 => ((arena_Give.f k1 bt613.1 bt613.2.1 bt613.2.2.1 0).bind fun bt622 => ((arena_Give.f k1 ax ay (-1) 1).bind fun bt631 => ((arena_Give.f k1 ax ay (-1) (-1)).bind fun bt640 => ((arena_Give.f k1 ax ay (-1) 0).bind fun bt649 => ((arena_Count.f k1 ax ay (-1)).bind fun bt658 => ((arena_Count.f k1 ([] : List Int) ([] : List Bool) 0).bind fun bt661 => ((spigotlaw13_alive.f k1).bind fun b8 => (if b8 = true then (if cw = 2 then (if cA = 2 then (if cC = 0 then (if (bH.length : Int) = 16 then (if bt603.2.2.2.2 = 18 then (if bt613.2.2.2 = 0 then (if bt622.2.2.2 = 36 then (if bt631.2.2.2 = 2 then (if bt640.2.2.2 = 2 then (if bt649.2.2.2 = 0 then ((spigotref13_Same.f k1 bt649.1 bt649.2.1 bt649.2.2.1 bt613.1 bt613.2.1 bt613.2.2.1).bind fun bY => (if bY = true then (if bt658.2.2 = 0 then (if bt658.1 = 1 then (if bt658.2.1 = 0 then (some (bt661.2.2 == 8)) else (some false)) else (some false)) else (some false)) else (some false))) else (some false)) else (some false)) else (some false)) else (some false)) else (some false)) else (some false)) else (some false)) else (some false)) else (some false)) else (some false)) else (none))))))))))) = some true := by first | (rw [ev]; with_reducible exact H) | (have H2_ := (Option.bind_some _ _).symm.trans H; rw [ev]; with_reducible exact H2_) | (have H2_ := (Option.bind_some _ _).symm.trans H; with_reducible exact H2_) | with_reducible exact H | (rw [ev]; exact H) | exact H
        have gW := Aside0.mk ev
        (try clear ev)
        replace H := Option.bind_eq_some_iff.mp H
        obtain ⟨⟨b0, bZ, ch, iq, cG⟩, hQ, H⟩ := H
        replace H : ((arena_New.f k1 1).bind fun bt613 => ((arena_Give.f k1 bt613.1 bt613.2.1 bt613.2.2.1 0).bind fun bt622 => ((arena_Give.f k1 ax ay (-1) 1).bind fun bt631 => ((arena_Give.f k1 ax ay (-1) (-1)).bind fun bt640 => ((arena_Give.f k1 ax ay (-1) 0).bind fun bt649 => ((arena_Count.f k1 ax ay (-1)).bind fun bt658 => ((arena_Count.f k1 ([] : List Int) ([] : List Bool) 0).bind fun bt661 => ((spigotlaw13_alive.f k1).bind fun b8 => (if b8 = true then (if cw = 2 then (if cA = 2 then (if cC = 0 then (if (bH.length : Int) = 16 then (if cG = 18 then (if bt613.2.2.2 = 0 then (if bt622.2.2.2 = 36 then (if bt631.2.2.2 = 2 then (if bt640.2.2.2 = 2 then (if bt649.2.2.2 = 0 then ((spigotref13_Same.f k1 bt649.1 bt649.2.1 bt649.2.2.1 bt613.1 bt613.2.1 bt613.2.2.1).bind fun bY => (if bY = true then (if bt658.2.2 = 0 then (if bt658.1 = 1 then (if bt658.2.1 = 0 then (some (bt661.2.2 == 8)) else (some false)) else (some false)) else (some false)) else (some false))) else (some false)) else (some false)) else (some false)) else (some false)) else (some false)) else (some false)) else (some false)) else (some false)) else (some false)) else (some false)) else (none)))))))))) = some true := H
        have A77 := Aside0.mk hQ
        (try clear hQ)
        replace H := Option.bind_eq_some_iff.mp H
        obtain ⟨⟨bn, bm, bF, cK⟩, hR, H⟩ := H
        replace H : ((arena_Give.f k1 bn bm bF 0).bind fun bt622 => ((arena_Give.f k1 ax ay (-1) 1).bind fun bt631 => ((arena_Give.f k1 ax ay (-1) (-1)).bind fun bt640 => ((arena_Give.f k1 ax ay (-1) 0).bind fun bt649 => ((arena_Count.f k1 ax ay (-1)).bind fun bt658 => ((arena_Count.f k1 ([] : List Int) ([] : List Bool) 0).bind fun bt661 => ((spigotlaw13_alive.f k1).bind fun b8 => (if b8 = true then (if cw = 2 then (if cA = 2 then (if cC = 0 then (if (bH.length : Int) = 16 then (if cG = 18 then (if cK = 0 then (if bt622.2.2.2 = 36 then (if bt631.2.2.2 = 2 then (if bt640.2.2.2 = 2 then (if bt649.2.2.2 = 0 then ((spigotref13_Same.f k1 bt649.1 bt649.2.1 bt649.2.2.1 bn bm bF).bind fun bY => (if bY = true then (if bt658.2.2 = 0 then (if bt658.1 = 1 then (if bt658.2.1 = 0 then (some (bt661.2.2 == 8)) else (some false)) else (some false)) else (some false)) else (some false))) else (some false)) else (some false)) else (some false)) else (some false)) else (some false)) else (some false)) else (some false)) else (some false)) else (some false)) else (some false)) else (none))))))))) = some true := H
        have A78 := Aside0.mk hR
        (try clear hR)
        replace H := Option.bind_eq_some_iff.mp H
        obtain ⟨⟨bP, bL, bW, cM⟩, hS, H⟩ := H
        replace H : ((arena_Give.f k1 ax ay (-1) 1).bind fun bt631 => ((arena_Give.f k1 ax ay (-1) (-1)).bind fun bt640 => ((arena_Give.f k1 ax ay (-1) 0).bind fun bt649 => ((arena_Count.f k1 ax ay (-1)).bind fun bt658 => ((arena_Count.f k1 ([] : List Int) ([] : List Bool) 0).bind fun bt661 => ((spigotlaw13_alive.f k1).bind fun b8 => (if b8 = true then (if cw = 2 then (if cA = 2 then (if cC = 0 then (if (bH.length : Int) = 16 then (if cG = 18 then (if cK = 0 then (if cM = 36 then (if bt631.2.2.2 = 2 then (if bt640.2.2.2 = 2 then (if bt649.2.2.2 = 0 then ((spigotref13_Same.f k1 bt649.1 bt649.2.1 bt649.2.2.1 bn bm bF).bind fun bY => (if bY = true then (if bt658.2.2 = 0 then (if bt658.1 = 1 then (if bt658.2.1 = 0 then (some (bt661.2.2 == 8)) else (some false)) else (some false)) else (some false)) else (some false))) else (some false)) else (some false)) else (some false)) else (some false)) else (some false)) else (some false)) else (some false)) else (some false)) else (some false)) else (some false)) else (none)))))))) = some true := H
        have A79 := Aside0.mk hS
        (try clear hS)
        replace H := Option.bind_eq_some_iff.mp H
        obtain ⟨⟨bJ, bI, bS, cR⟩, hT, H⟩ := H
        replace H : ((arena_Give.f k1 ax ay (-1) (-1)).bind fun bt640 => ((arena_Give.f k1 ax ay (-1) 0).bind fun bt649 => ((arena_Count.f k1 ax ay (-1)).bind fun bt658 => ((arena_Count.f k1 ([] : List Int) ([] : List Bool) 0).bind fun bt661 => ((spigotlaw13_alive.f k1).bind fun b8 => (if b8 = true then (if cw = 2 then (if cA = 2 then (if cC = 0 then (if (bH.length : Int) = 16 then (if cG = 18 then (if cK = 0 then (if cM = 36 then (if cR = 2 then (if bt640.2.2.2 = 2 then (if bt649.2.2.2 = 0 then ((spigotref13_Same.f k1 bt649.1 bt649.2.1 bt649.2.2.1 bn bm bF).bind fun bY => (if bY = true then (if bt658.2.2 = 0 then (if bt658.1 = 1 then (if bt658.2.1 = 0 then (some (bt661.2.2 == 8)) else (some false)) else (some false)) else (some false)) else (some false))) else (some false)) else (some false)) else (some false)) else (some false)) else (some false)) else (some false)) else (some false)) else (some false)) else (some false)) else (some false)) else (none))))))) = some true := H
        have A80 := Aside0.mk hT
        (try clear hT)
        replace H := Option.bind_eq_some_iff.mp H
        obtain ⟨⟨cd, b9, ci, cT⟩, hU, H⟩ := H
        replace H : ((arena_Give.f k1 ax ay (-1) 0).bind fun bt649 => ((arena_Count.f k1 ax ay (-1)).bind fun bt658 => ((arena_Count.f k1 ([] : List Int) ([] : List Bool) 0).bind fun bt661 => ((spigotlaw13_alive.f k1).bind fun b8 => (if b8 = true then (if cw = 2 then (if cA = 2 then (if cC = 0 then (if (bH.length : Int) = 16 then (if cG = 18 then (if cK = 0 then (if cM = 36 then (if cR = 2 then (if cT = 2 then (if bt649.2.2.2 = 0 then ((spigotref13_Same.f k1 bt649.1 bt649.2.1 bt649.2.2.1 bn bm bF).bind fun bY => (if bY = true then (if bt658.2.2 = 0 then (if bt658.1 = 1 then (if bt658.2.1 = 0 then (some (bt661.2.2 == 8)) else (some false)) else (some false)) else (some false)) else (some false))) else (some false)) else (some false)) else (some false)) else (some false)) else (some false)) else (some false)) else (some false)) else (some false)) else (some false)) else (some false)) else (none)))))) = some true := H
        have A81 := Aside0.mk hU
        (try clear hU)
        replace H := Option.bind_eq_some_iff.mp H
        obtain ⟨⟨cI, cH, cN, c5⟩, hV, H⟩ := H
        replace H : ((arena_Count.f k1 ax ay (-1)).bind fun bt658 => ((arena_Count.f k1 ([] : List Int) ([] : List Bool) 0).bind fun bt661 => ((spigotlaw13_alive.f k1).bind fun b8 => (if b8 = true then (if cw = 2 then (if cA = 2 then (if cC = 0 then (if (bH.length : Int) = 16 then (if cG = 18 then (if cK = 0 then (if cM = 36 then (if cR = 2 then (if cT = 2 then (if c5 = 0 then ((spigotref13_Same.f k1 cI cH cN bn bm bF).bind fun bY => (if bY = true then (if bt658.2.2 = 0 then (if bt658.1 = 1 then (if bt658.2.1 = 0 then (some (bt661.2.2 == 8)) else (some false)) else (some false)) else (some false)) else (some false))) else (some false)) else (some false)) else (some false)) else (some false)) else (some false)) else (some false)) else (some false)) else (some false)) else (some false)) else (some false)) else (none))))) = some true := H
        have A82 := Aside0.mk hV
        (try clear hV)
        replace H := Option.bind_eq_some_iff.mp H
        obtain ⟨⟨c6, cU, cV⟩, hW, H⟩ := H
        replace H : ((arena_Count.f k1 ([] : List Int) ([] : List Bool) 0).bind fun bt661 => ((spigotlaw13_alive.f k1).bind fun b8 => (if b8 = true then (if cw = 2 then (if cA = 2 then (if cC = 0 then (if (bH.length : Int) = 16 then (if cG = 18 then (if cK = 0 then (if cM = 36 then (if cR = 2 then (if cT = 2 then (if c5 = 0 then ((spigotref13_Same.f k1 cI cH cN bn bm bF).bind fun bY => (if bY = true then (if cV = 0 then (if c6 = 1 then (if cU = 0 then (some (bt661.2.2 == 8)) else (some false)) else (some false)) else (some false)) else (some false))) else (some false)) else (some false)) else (some false)) else (some false)) else (some false)) else (some false)) else (some false)) else (some false)) else (some false)) else (some false)) else (none)))) = some true := H
        have A83 := Aside0.mk hW
        (try clear hW)
        replace H := Option.bind_eq_some_iff.mp H
        obtain ⟨⟨md, ir, eH⟩, hX, H⟩ := H
        replace H : ((spigotlaw13_alive.f k1).bind fun b8 => (if b8 = true then (if cw = 2 then (if cA = 2 then (if cC = 0 then (if (bH.length : Int) = 16 then (if cG = 18 then (if cK = 0 then (if cM = 36 then (if cR = 2 then (if cT = 2 then (if c5 = 0 then ((spigotref13_Same.f k1 cI cH cN bn bm bF).bind fun bY => (if bY = true then (if cV = 0 then (if c6 = 1 then (if cU = 0 then (some (eH == 8)) else (some false)) else (some false)) else (some false)) else (some false))) else (some false)) else (some false)) else (some false)) else (some false)) else (some false)) else (some false)) else (some false)) else (some false)) else (some false)) else (some false)) else (none))) = some true := H
        have A84 := Aside0.mk hX
        (try clear hX)
        replace H := Option.bind_eq_some_iff.mp H
        obtain ⟨b8, hY, H⟩ := H
        replace H : (if b8 = true then (if cw = 2 then (if cA = 2 then (if cC = 0 then (if (bH.length : Int) = 16 then (if cG = 18 then (if cK = 0 then (if cM = 36 then (if cR = 2 then (if cT = 2 then (if c5 = 0 then ((spigotref13_Same.f k1 cI cH cN bn bm bF).bind fun bY => (if bY = true then (if cV = 0 then (if c6 = 1 then (if cU = 0 then (some (eH == 8)) else (some false)) else (some false)) else (some false)) else (some false))) else (some false)) else (some false)) else (some false)) else (some false)) else (some false)) else (some false)) else (some false)) else (some false)) else (some false)) else (some false)) else (none)) = some true := H
        have A85 := Aside0.mk hY
        (try clear hY)
        by_cases c86 : b8 = true
        ·subst c86
         have H1 : (if cw = 2 then (if cA = 2 then (if cC = 0 then (if (bH.length : Int) = 16 then (if cG = 18 then (if cK = 0 then (if cM = 36 then (if cR = 2 then (if cT = 2 then (if c5 = 0 then ((spigotref13_Same.f k1 cI cH cN bn bm bF).bind fun bY => (if bY = true then (if cV = 0 then (if c6 = 1 then (if cU = 0 then (some (eH == 8)) else (some false)) else (some false)) else (some false)) else (some false))) else (some false)) else (some false)) else (some false)) else (some false)) else (some false)) else (some false)) else (some false)) else (some false)) else (some false)) else (some false)) = some true := by rw [if_pos rfl] at H; exact H
         clear H
         have H := H1
         clear H1
         by_cases c87 : cw = 2
         ·rw [if_pos c87] at H
          have c87b0 : (cw == 2) = true := beq_iff_eq.mpr c87
          have c87b1 : (cw != 2) = false := bne_eq_false_iff_eq.mpr c87
          clear c87
          by_cases c88 : cA = 2
          ·rw [if_pos c88] at H
           have c88b0 : (cA == 2) = true := beq_iff_eq.mpr c88
           have c88b1 : (cA != 2) = false := bne_eq_false_iff_eq.mpr c88
           clear c88
           by_cases c89 : cC = 0
           ·rw [if_pos c89] at H
            have c89b0 : (cC == 0) = true := beq_iff_eq.mpr c89
            have c89b1 : (cC != 0) = false := bne_eq_false_iff_eq.mpr c89
            clear c89
            by_cases c90 : (bH.length : Int) = 16
            ·rw [if_pos c90] at H
             have c90b0 : ((bH.length : Int) == 16) = true := beq_iff_eq.mpr c90
             have c90b1 : ((bH.length : Int) != 16) = false := bne_eq_false_iff_eq.mpr c90
             clear c90
             by_cases c91 : cG = 18
             ·rw [if_pos c91] at H
              have c91b0 : (cG == 18) = true := beq_iff_eq.mpr c91
              have c91b1 : (cG != 18) = false := bne_eq_false_iff_eq.mpr c91
              clear c91
              by_cases c92 : cK = 0
              ·rw [if_pos c92] at H
               have c92b0 : (cK == 0) = true := beq_iff_eq.mpr c92
               have c92b1 : (cK != 0) = false := bne_eq_false_iff_eq.mpr c92
               clear c92
               by_cases c93 : cM = 36
               ·rw [if_pos c93] at H
                have c93b0 : (cM == 36) = true := beq_iff_eq.mpr c93
                have c93b1 : (cM != 36) = false := bne_eq_false_iff_eq.mpr c93
                clear c93
                by_cases c94 : cR = 2
                ·rw [if_pos c94] at H
                 have c94b0 : (cR == 2) = true := beq_iff_eq.mpr c94
                 have c94b1 : (cR != 2) = false := bne_eq_false_iff_eq.mpr c94
                 clear c94
                 by_cases c95 : cT = 2
                 ·rw [if_pos c95] at H
                  have c95b0 : (cT == 2) = true := beq_iff_eq.mpr c95
                  have c95b1 : (cT != 2) = false := bne_eq_false_iff_eq.mpr c95
                  clear c95
                  by_cases c96 : c5 = 0
                  ·rw [if_pos c96] at H
                   have c96b0 : (c5 == 0) = true := beq_iff_eq.mpr c96
                   have c96b1 : (c5 != 0) = false := bne_eq_false_iff_eq.mpr c96
                   clear c96
                   replace H := Option.bind_eq_some_iff.mp H
                   obtain ⟨bY, hZ, H⟩ := H
                   replace H : (if bY = true then (if cV = 0 then (if c6 = 1 then (if cU = 0 then (some (eH == 8)) else (some false)) else (some false)) else (some false)) else (some false)) = some true := H
                   have A97 := Aside0.mk hZ
                   (try clear hZ)
                   by_cases c98 : bY = true
                   ·subst c98
                    have H1 : (if cV = 0 then (if c6 = 1 then (if cU = 0 then (some (eH == 8)) else (some false)) else (some false)) else (some false)) = some true := by rw [if_pos rfl] at H; exact H
                    clear H
                    have H := H1
                    clear H1
                    by_cases c99 : cV = 0
                    ·rw [if_pos c99] at H
                     have c99b0 : (cV == 0) = true := beq_iff_eq.mpr c99
                     have c99b1 : (cV != 0) = false := bne_eq_false_iff_eq.mpr c99
                     clear c99
                     by_cases c100 : c6 = 1
                     ·rw [if_pos c100] at H
                      have c100b0 : (c6 == 1) = true := beq_iff_eq.mpr c100
                      have c100b1 : (c6 != 1) = false := bne_eq_false_iff_eq.mpr c100
                      clear c100
                      by_cases c101 : cU = 0
                      ·rw [if_pos c101] at H
                       have c101b0 : (cU == 0) = true := beq_iff_eq.mpr c101
                       have c101b1 : (cU != 0) = false := bne_eq_false_iff_eq.mpr c101
                       clear c101
                       have HRT := Aside0.mk (Option.some.inj H)
                       clear H
                       obtain ⟨Ao102, lt, h0⟩ := Kd.N_slice HO_1.out
                       subst h0
                       go_wp2_with (first | ((with_reducible refine gate_callee (f := 28) rfl ?_); refine goesE (some 86) rfl rfl Try.func28 (by kernel_rfl) rfl #[.int .i64 0] rfl ?_; (with_reducible refine (arena_New.calls k1 0 cx cv cL cw _ A74.out).mono ?_); rintro e lF ⟨v570, lG, rfl, ho0, ho1, hb⟩; refine ⟨_, rfl, ?_⟩; have n1_ := Aside0.mk (Kd.R_lower ho0 (below_size (pB HB.out))); have n2_ := Aside0.mk (Kd.R_lower ho1 (below_size (pB HB.out))); have n3_ := Aside0.mk (below_step (pB HB.out) hb); (try clear HO_1); clear HB; have az := n1_; have aA := n2_; have HB := n3_; clear n1_ n2_ n3_; (try clear hb); (try clear hb2); (try clear hk); (try clear hi); (try clear ho0); (try clear ho1)) | ((with_reducible refine gate_dst (N := 6) rfl ?_); (try (refine gate_guard (by rfl) ?_; dsimp only)); refine boxE (N := 6) (cs := #[.slice none 0 0, .slice none 0 0, .int .i64 0]) (t := 36) ?_; intro cX hg lH hbox hb; have n1_ := Rb1 az hb; have n2_ := Rb1 aA hb; have n3_ := Aside0.mk (below_step (pB HB.out) hb); have n4_ := Aside0.mk (hbox); have n6_ := Aside0.mk (pL HB.out hg); (try clear HO_1); clear az; clear aA; clear HB; have az := n1_; have aA := n2_; have HB := n3_; have aa := n4_; have lu := n6_; clear n1_ n2_ n3_ n4_ n6_; clear hb hbox hg; obtain ⟨ck, cf, h1⟩ := Kd.R_slice az.out; subst h1; obtain ⟨hcz106_0, iu, iv, iw, ix, iy⟩ := bk3 aa.out; obtain ⟨co, cj, h2⟩ := Kd.R_slice aA.out; subst h2) | ((with_reducible refine gate_callee (f := 28) rfl ?_); refine goesE (some 90) rfl rfl Try.func28 (by kernel_rfl) rfl #[.int .i64 17] rfl ?_; (with_reducible refine (arena_New.calls k1 17 cn cm cF cA _ A75.out).mono ?_); rintro e lI ⟨v579, lJ, rfl, ho0, ho1, hb⟩; refine ⟨_, rfl, ?_⟩; have n1_ := Re2 (Far3 az.out aa.out (.slice ck cx.length cf) (.slice co cv.length cj) (.int .i64 cL)) ho0 hb; have n2_ := Re2 (Far3 aA.out aa.out (.slice ck cx.length cf) (.slice co cv.length cj) (.int .i64 cL)) ho1 hb; have n3_ := Aside0.mk (Kd.R_lower (Kd.R_new' ho0 (Kd.R_lt (Kd.pR ((Far3 az.out aa.out (.slice ck cx.length cf) (.slice co cv.length cj) (.int .i64 cL)))))) (below_size (pB HB.out))); have n4_ := Aside0.mk (Kd.R_lower (Kd.R_new' ho1 (Kd.R_lt (Kd.pR ((Far3 aA.out aa.out (.slice ck cx.length cf) (.slice co cv.length cj) (.int .i64 cL)))))) (below_size (pB HB.out))); have n5_ := Aside0.mk (blk_below (g := cX) (o := .cells #[.slice ck cx.length cf, .slice co cv.length cj, .int .i64 cL] 36 (0, 0)) (by (with_reducible repeat (first | refine blk_drewN ?_ _ | refine blk_drew ?_ | refine blk_alloc ?_ _)); refine blk_put (cs := #[.slice ck cx.length cf, .slice co cv.length cj, .int .i64 0]) ?_ 2 _ rfl; (with_reducible repeat (first | refine blk_drewN ?_ _ | refine blk_drew ?_ | refine blk_alloc ?_ _)); refine blk_put (cs := #[.slice ck cx.length cf, .slice none 0 0, .int .i64 0]) ?_ 1 _ rfl; (with_reducible repeat (first | refine blk_drewN ?_ _ | refine blk_drew ?_ | refine blk_alloc ?_ _)); refine blk_put (cs := #[.slice none 0 0, .slice none 0 0, .int .i64 0]) ?_ 0 _ rfl; (with_reducible repeat (first | refine blk_drewN ?_ _ | refine blk_drew ?_ | refine blk_alloc ?_ _)); exact aa.out) hb); have n6_ := Aside0.mk (below_step (pB HB.out) hb); (try clear HO_1); clear az; clear aA; clear aa; clear HB; have az := n1_; have aA := n2_; have aI := n3_; have aJ := n4_; have aa := n5_; have HB := n6_; clear n1_ n2_ n3_ n4_ n5_ n6_; (try clear hb); (try clear hb2); (try clear hk); (try clear hi); (try clear ho0); (try clear ho1)) | ((with_reducible refine gate_dst (N := 8) rfl ?_); (try (refine gate_guard (by rfl) ?_; dsimp only)); refine boxE (N := 8) (cs := #[.slice none 0 0, .slice none 0 0, .int .i64 0]) (t := 36) ?_; intro dn hg lK hbox hb; have n1_ := Rb1 az hb; have n2_ := Rb1 aA hb; have n3_ := Rb1 aI hb; have n4_ := Rb1 aJ hb; have n5_ := Aside0.mk (blk_below (pK aa.out) hb); have n6_ := Aside0.mk (below_step (pB HB.out) hb); have n7_ := Aside0.mk (hbox); have n9_ := Aside0.mk (pL HB.out hg); have n10_ := Aside0.mk (pNl aa.out hg); have n11_ := Aside0.mk (pNg aa.out hg); (try clear HO_1); clear az; clear aA; clear aI; clear aJ; clear aa; clear HB; have az := n1_; have aA := n2_; have aI := n3_; have aJ := n4_; have aa := n5_; have HB := n6_; have av := n7_; have lv := n9_; have dp := n10_; have fm := n11_; clear n1_ n2_ n3_ n4_ n5_ n6_ n7_ n9_ n10_ n11_; clear hb hbox hg; obtain ⟨cb, b5, h3⟩ := Kd.R_slice aI.out; subst h3; have jY := fm.out; have jZ := dp.out; obtain ⟨hcz112_0, iz, iA, iB, iC, iD⟩ := bk3 av.out; obtain ⟨ce, ca, h4⟩ := Kd.R_slice aJ.out; subst h4) | ((with_reducible refine gate_callee (f := 28) rfl ?_); refine goesE (some 94) rfl rfl Try.func28 (by kernel_rfl) rfl #[.int .i64 16] rfl ?_; (with_reducible refine (arena_New.calls k1 16 bH cl cD cC _ A76.out).mono ?_); rintro e lL ⟨v588, lM, rfl, ho0, ho1, hb⟩; refine ⟨_, rfl, ?_⟩; have n1_ := Re2 (Far3 az.out av.out (.slice cb cn.length b5) (.slice ce cm.length ca) (.int .i64 cF)) ho0 hb; have n2_ := Re2 (Far3 aA.out av.out (.slice cb cn.length b5) (.slice ce cm.length ca) (.int .i64 cF)) ho1 hb; have n3_ := Re2 (Far3 aI.out av.out (.slice cb cn.length b5) (.slice ce cm.length ca) (.int .i64 cF)) ho0 hb; have n4_ := Re2 (Far3 aJ.out av.out (.slice cb cn.length b5) (.slice ce cm.length ca) (.int .i64 cF)) ho1 hb; have n5_ := Aside0.mk (Kd.R_lower (Kd.R_new' (Kd.R_new' ho0 (Kd.R_lt (Kd.pR ((Far3 az.out av.out (.slice cb cn.length b5) (.slice ce cm.length ca) (.int .i64 cF)))))) (Kd.R_lt (Kd.pR ((Far3 aI.out av.out (.slice cb cn.length b5) (.slice ce cm.length ca) (.int .i64 cF)))))) (below_size (pB HB.out))); have n6_ := Aside0.mk (Kd.R_lower (Kd.R_new' (Kd.R_new' ho1 (Kd.R_lt (Kd.pR ((Far3 aA.out av.out (.slice cb cn.length b5) (.slice ce cm.length ca) (.int .i64 cF)))))) (Kd.R_lt (Kd.pR ((Far3 aJ.out av.out (.slice cb cn.length b5) (.slice ce cm.length ca) (.int .i64 cF)))))) (below_size (pB HB.out))); have n7_ := Aside0.mk (blk_below (g := cX) (o := .cells #[.slice ck cx.length cf, .slice co cv.length cj, .int .i64 cL] 36 (0, 0)) (by (with_reducible repeat (first | refine blk_drewN ?_ _ | refine blk_drew ?_ | refine blk_alloc ?_ _)); refine blk_far ?_ dp.out _; (with_reducible repeat (first | refine blk_drewN ?_ _ | refine blk_drew ?_ | refine blk_alloc ?_ _)); refine blk_far ?_ dp.out _; (with_reducible repeat (first | refine blk_drewN ?_ _ | refine blk_drew ?_ | refine blk_alloc ?_ _)); refine blk_far ?_ dp.out _; (with_reducible repeat (first | refine blk_drewN ?_ _ | refine blk_drew ?_ | refine blk_alloc ?_ _)); exact aa.out) hb); have n8_ := Aside0.mk (blk_below (g := dn) (o := .cells #[.slice cb cn.length b5, .slice ce cm.length ca, .int .i64 cF] 36 (0, 0)) (by (with_reducible repeat (first | refine blk_drewN ?_ _ | refine blk_drew ?_ | refine blk_alloc ?_ _)); refine blk_put (cs := #[.slice cb cn.length b5, .slice ce cm.length ca, .int .i64 0]) ?_ 2 _ rfl; (with_reducible repeat (first | refine blk_drewN ?_ _ | refine blk_drew ?_ | refine blk_alloc ?_ _)); refine blk_put (cs := #[.slice cb cn.length b5, .slice none 0 0, .int .i64 0]) ?_ 1 _ rfl; (with_reducible repeat (first | refine blk_drewN ?_ _ | refine blk_drew ?_ | refine blk_alloc ?_ _)); refine blk_put (cs := #[.slice none 0 0, .slice none 0 0, .int .i64 0]) ?_ 0 _ rfl; (with_reducible repeat (first | refine blk_drewN ?_ _ | refine blk_drew ?_ | refine blk_alloc ?_ _)); exact av.out) hb); have n9_ := Aside0.mk (below_step (pB HB.out) hb); (try clear HO_1); clear az; clear aA; clear aI; clear aJ; clear aa; clear av; clear HB; have az := n1_; have aA := n2_; have aI := n3_; have aJ := n4_; have aR := n5_; have aS := n6_; have aa := n7_; have av := n8_; have HB := n9_; clear n1_ n2_ n3_ n4_ n5_ n6_ n7_ n8_ n9_; (try clear hb); (try clear hb2); (try clear hk); (try clear hi); (try clear ho0); (try clear ho1)) | ((with_reducible refine gate_dst (N := 10) rfl ?_); (try (refine gate_guard (by rfl) ?_; dsimp only)); refine boxE (N := 10) (cs := #[.slice none 0 0, .slice none 0 0, .int .i64 0]) (t := 36) ?_; intro dq hg lN hbox hb; have n1_ := Rb1 az hb; have n2_ := Rb1 aA hb; have n3_ := Rb1 aI hb; have n4_ := Rb1 aJ hb; have n5_ := Rb1 aR hb; have n6_ := Rb1 aS hb; have n7_ := Aside0.mk (blk_below (pK aa.out) hb); have n8_ := Aside0.mk (blk_below (pK av.out) hb); have n9_ := Aside0.mk (below_step (pB HB.out) hb); have n10_ := Aside0.mk (hbox); have n12_ := Aside0.mk (pL HB.out hg); have n13_ := Aside0.mk (pNl aa.out hg); have n14_ := Aside0.mk (pNg aa.out hg); have n15_ := Aside0.mk (pNl av.out hg); have n16_ := Aside0.mk (pNg av.out hg); (try clear HO_1); clear az; clear aA; clear aI; clear aJ; clear aR; clear aS; clear aa; clear av; clear HB; have az := n1_; have aA := n2_; have aI := n3_; have aJ := n4_; have aR := n5_; have aS := n6_; have aa := n7_; have av := n8_; have HB := n9_; have au := n10_; have lw := n12_; have dr := n13_; have fn := n14_; have dt := n15_; have fo := n16_; clear n1_ n2_ n3_ n4_ n5_ n6_ n7_ n8_ n9_ n10_ n12_ n13_ n14_ n15_ n16_; clear hb hbox hg; obtain ⟨b7, b1, h5⟩ := Kd.R_slice aR.out; subst h5; have j0 := fn.out; have j1 := dr.out; have j2 := fo.out; have j3 := dt.out; obtain ⟨hcz119_0, iE, iF, iG, iH, iI⟩ := bk3 au.out; obtain ⟨cc, b6, h6⟩ := Kd.R_slice aS.out; subst h6) | ((with_reducible refine gate_dst (N := 97) rfl ?_); (try (refine gate_guard (by rfl) ?_; dsimp only)); refine Kd.R_lit (Kd.int .i64) _ 3 ?hg (N := 97) ?hd (xs := ([(-1)] : List Int)) (inner := [.int .i64 (-1)]) (ok := fun _ => True) (okp := fun _ => True) ?hr ?hp (fun _ hk => hk) trivial (Below.refl _ _) (Nat.le_refl _) (by simp) ?_; (case hd => rfl); (case hg => rfl); (case hr => first | (go_simp; done) | (go_simp; rfl)); (case hp => exact (Reps.one (show Kd.M (Kd.int .i64) _ _ _ (-1) [.int .i64 (-1)] from rfl) (Reps.none _ _))); intro lO lP ho122 hb hg_ hnew_; clear hg_ hnew_; (first | rw [← gV.out] at ho122 | (simp only [Int.reduceToNat] at ho122; rw [← gV.out] at ho122)); have n1_ := Re2 (Far3 az.out au.out (.slice b7 bH.length b1) (.slice cc cl.length b6) (.int .i64 cD)) ho122 hb; have n2_ := Aside0.mk (Kd.R_below (Kd.pR ((Far3 aA.out au.out (.slice b7 bH.length b1) (.slice cc cl.length b6) (.int .i64 cD)))) hb); have n3_ := Re2 (Far3 aI.out au.out (.slice b7 bH.length b1) (.slice cc cl.length b6) (.int .i64 cD)) ho122 hb; have n4_ := Aside0.mk (Kd.R_below (Kd.pR ((Far3 aJ.out au.out (.slice b7 bH.length b1) (.slice cc cl.length b6) (.int .i64 cD)))) hb); have n5_ := Re2 (Far3 aR.out au.out (.slice b7 bH.length b1) (.slice cc cl.length b6) (.int .i64 cD)) ho122 hb; have n6_ := Aside0.mk (Kd.R_below (Kd.pR ((Far3 aS.out au.out (.slice b7 bH.length b1) (.slice cc cl.length b6) (.int .i64 cD)))) hb); have n7_ := Aside0.mk (Kd.R_lower (Kd.R_new' (Kd.R_new' (Kd.R_new' ho122 (Kd.R_lt (Kd.pR ((Far3 az.out au.out (.slice b7 bH.length b1) (.slice cc cl.length b6) (.int .i64 cD)))))) (Kd.R_lt (Kd.pR ((Far3 aI.out au.out (.slice b7 bH.length b1) (.slice cc cl.length b6) (.int .i64 cD)))))) (Kd.R_lt (Kd.pR ((Far3 aR.out au.out (.slice b7 bH.length b1) (.slice cc cl.length b6) (.int .i64 cD)))))) (below_size (pB HB.out))); have n8_ := Aside0.mk (blk_below (g := cX) (o := .cells #[.slice ck cx.length cf, .slice co cv.length cj, .int .i64 cL] 36 (0, 0)) (by (with_reducible repeat (first | refine blk_drewN ?_ _ | refine blk_drew ?_ | refine blk_alloc ?_ _)); refine blk_far ?_ dr.out _; (with_reducible repeat (first | refine blk_drewN ?_ _ | refine blk_drew ?_ | refine blk_alloc ?_ _)); refine blk_far ?_ dr.out _; (with_reducible repeat (first | refine blk_drewN ?_ _ | refine blk_drew ?_ | refine blk_alloc ?_ _)); refine blk_far ?_ dr.out _; (with_reducible repeat (first | refine blk_drewN ?_ _ | refine blk_drew ?_ | refine blk_alloc ?_ _)); exact aa.out) hb); have n9_ := Aside0.mk (blk_below (g := dn) (o := .cells #[.slice cb cn.length b5, .slice ce cm.length ca, .int .i64 cF] 36 (0, 0)) (by (with_reducible repeat (first | refine blk_drewN ?_ _ | refine blk_drew ?_ | refine blk_alloc ?_ _)); refine blk_far ?_ dt.out _; (with_reducible repeat (first | refine blk_drewN ?_ _ | refine blk_drew ?_ | refine blk_alloc ?_ _)); refine blk_far ?_ dt.out _; (with_reducible repeat (first | refine blk_drewN ?_ _ | refine blk_drew ?_ | refine blk_alloc ?_ _)); refine blk_far ?_ dt.out _; (with_reducible repeat (first | refine blk_drewN ?_ _ | refine blk_drew ?_ | refine blk_alloc ?_ _)); exact av.out) hb); have n10_ := Aside0.mk (blk_below (g := dq) (o := .cells #[.slice b7 bH.length b1, .slice cc cl.length b6, .int .i64 cD] 36 (0, 0)) (by (with_reducible repeat (first | refine blk_drewN ?_ _ | refine blk_drew ?_ | refine blk_alloc ?_ _)); refine blk_put (cs := #[.slice b7 bH.length b1, .slice cc cl.length b6, .int .i64 0]) ?_ 2 _ rfl; (with_reducible repeat (first | refine blk_drewN ?_ _ | refine blk_drew ?_ | refine blk_alloc ?_ _)); refine blk_put (cs := #[.slice b7 bH.length b1, .slice none 0 0, .int .i64 0]) ?_ 1 _ rfl; (with_reducible repeat (first | refine blk_drewN ?_ _ | refine blk_drew ?_ | refine blk_alloc ?_ _)); refine blk_put (cs := #[.slice none 0 0, .slice none 0 0, .int .i64 0]) ?_ 0 _ rfl; (with_reducible repeat (first | refine blk_drewN ?_ _ | refine blk_drew ?_ | refine blk_alloc ?_ _)); exact au.out) hb); have n11_ := Aside0.mk (below_step (pB HB.out) hb); (try clear HO_1); clear az; clear aA; clear aI; clear aJ; clear aR; clear aS; clear aa; clear av; clear au; clear HB; have az := n1_; have aA := n2_; have aI := n3_; have aJ := n4_; have aR := n5_; have aS := n6_; have aK := n7_; have aa := n8_; have av := n9_; have au := n10_; have HB := n11_; clear n1_ n2_ n3_ n4_ n5_ n6_ n7_ n8_ n9_ n10_ n11_; clear hb ho122) | ((with_reducible refine gate_dst (N := 98) rfl ?_); (try (refine gate_guard (by rfl) ?_; dsimp only)); refine Kd.R_lit Kd.bool _ 4 ?hg (N := 98) ?hd (xs := ([true] : List Bool)) (inner := [.bool true]) (ok := fun _ => True) (okp := fun _ => True) ?hr ?hp (fun _ hk => hk) trivial (Below.refl _ _) (Nat.le_refl _) (by simp) ?_; (case hd => rfl); (case hg => rfl); (case hr => first | (go_simp; done) | (go_simp; rfl)); (case hp => exact (Reps.one (show Kd.M Kd.bool _ _ _ true [.bool true] from rfl) (Reps.none _ _))); intro lQ lR ho124 hb hg_ hnew_; clear hg_ hnew_; (first | rw [← gW.out] at ho124 | (simp only [Int.reduceToNat] at ho124; rw [← gW.out] at ho124)); have n1_ := Rb1 az hb; have n2_ := Re1 aA ho124 hb; have n3_ := Rb1 aI hb; have n4_ := Re1 aJ ho124 hb; have n5_ := Rb1 aR hb; have n6_ := Re1 aS ho124 hb; have n7_ := Rb1 aK hb; have n8_ := Aside0.mk (Kd.R_lower (Kd.R_new' (Kd.R_new' (Kd.R_new' ho124 (Kd.R_lt (Kd.pR aA.out))) (Kd.R_lt (Kd.pR aJ.out))) (Kd.R_lt (Kd.pR aS.out))) (below_size (pB HB.out))); have n9_ := Aside0.mk (blk_below (pK aa.out) hb); have n10_ := Aside0.mk (blk_below (pK av.out) hb); have n11_ := Aside0.mk (blk_below (pK au.out) hb); have n12_ := Aside0.mk (below_step (pB HB.out) hb); (try clear HO_1); clear az; clear aA; clear aI; clear aJ; clear aR; clear aS; clear aK; clear aa; clear av; clear au; clear HB; have az := n1_; have aA := n2_; have aI := n3_; have aJ := n4_; have aR := n5_; have aS := n6_; have aK := n7_; have aM := n8_; have aa := n9_; have av := n10_; have au := n11_; have HB := n12_; clear n1_ n2_ n3_ n4_ n5_ n6_ n7_ n8_ n9_ n10_ n11_ n12_; clear hb ho124; obtain ⟨bQ, bD, h7⟩ := Kd.R_slice aM.out; subst h7; obtain ⟨bM, bz, h8⟩ := Kd.R_slice aK.out; subst h8) | ((with_reducible refine gate_dst (N := 12) rfl ?_); (try (refine gate_guard (by rfl) ?_; dsimp only)); refine boxE (N := 12) (cs := #[.slice none 0 0, .slice none 0 0, .int .i64 0]) (t := 36) ?_; intro d8 hg lS hbox hb; have n1_ := Rb1 az hb; have n2_ := Rb1 aA hb; have n3_ := Rb1 aI hb; have n4_ := Rb1 aJ hb; have n5_ := Rb1 aR hb; have n6_ := Rb1 aS hb; have n7_ := Rb1 aK hb; have n8_ := Rb1 aM hb; have n9_ := Aside0.mk (blk_below (pK aa.out) hb); have n10_ := Aside0.mk (blk_below (pK av.out) hb); have n11_ := Aside0.mk (blk_below (pK au.out) hb); have n12_ := Aside0.mk (below_step (pB HB.out) hb); have n13_ := Aside0.mk (hbox); have n15_ := Aside0.mk (pL HB.out hg); have n16_ := Aside0.mk (pNl aa.out hg); have n17_ := Aside0.mk (pNg aa.out hg); have n18_ := Aside0.mk (pNl av.out hg); have n19_ := Aside0.mk (pNg av.out hg); have n20_ := Aside0.mk (pNl au.out hg); have n21_ := Aside0.mk (pNg au.out hg); (try clear HO_1); clear az; clear aA; clear aI; clear aJ; clear aR; clear aS; clear aK; clear aM; clear aa; clear av; clear au; clear HB; have az := n1_; have aA := n2_; have aI := n3_; have aJ := n4_; have aR := n5_; have aS := n6_; have aK := n7_; have aM := n8_; have aa := n9_; have av := n10_; have au := n11_; have HB := n12_; have aw := n13_; have lx := n15_; have du := n16_; have fp := n17_; have dv := n18_; have fq := n19_; have dw := n20_; have fr := n21_; clear n1_ n2_ n3_ n4_ n5_ n6_ n7_ n8_ n9_ n10_ n11_ n12_ n13_ n15_ n16_ n17_ n18_ n19_ n20_ n21_; clear hb hbox hg; have j4 := fp.out; have j5 := du.out; have j6 := fq.out; have j7 := dv.out; have j8 := fr.out; have j9 := dw.out; obtain ⟨hcz131_0, iJ, iK, iL, iM, iN⟩ := bk3 aw.out) | ((with_reducible refine gate_callee (f := 25) rfl ?_); refine goesE (some 102) rfl rfl Try.func25 (by kernel_rfl) rfl #[.agg #[.slice bM ax.length bz, .slice bQ ay.length bD, .int .i64 (-1)]] rfl ?_; (with_reducible refine (arena_Take.calls k1 _ _ ax _ _ ay (-1) b0 bZ ch iq cG _ ?side1 ?side2 ?side3 ?side4 A77.out).mono ?_); (case side1 => refine (Kd.R_reads' (e := 3) (base := w.heap.size) (ok := fun k_ => (((True ∧ some k_ ≠ (.slice ck cx.length cf : Value).ownBlock) ∧ some k_ ≠ (.slice cb cn.length b5 : Value).ownBlock) ∧ some k_ ≠ (.slice b7 bH.length b1 : Value).ownBlock)) (n := ax.length) (c := bz) ?_).2.2; exact (Kd.pR ((Far3 aK.out aw.out (.slice bM ax.length bz) (.slice bQ ay.length bD) (.int .i64 (-1)))))); (case side2 => exact (Kd.R_reads' aK.out).2.1); (case side3 => refine (Kd.R_reads' (e := 4) (base := w.heap.size) (ok := fun k_ => (((True ∧ some k_ ≠ (.slice co cv.length cj : Value).ownBlock) ∧ some k_ ≠ (.slice ce cm.length ca : Value).ownBlock) ∧ some k_ ≠ (.slice cc cl.length b6 : Value).ownBlock)) (n := ay.length) (c := bD) ?_).2.2; exact (Kd.pR ((Far3 aM.out aw.out (.slice bM ax.length bz) (.slice bQ ay.length bD) (.int .i64 (-1)))))); (case side4 => exact (Kd.R_reads' aM.out).2.1); rintro e lT ⟨v604, lU, rfl, ho0, ho1, hb⟩; refine ⟨_, rfl, ?_⟩; have n1_ := Re2 (Far3 az.out aw.out (.slice bM ax.length bz) (.slice bQ ay.length bD) (.int .i64 (-1))) ho0 hb; have n2_ := Re2 (Far3 aA.out aw.out (.slice bM ax.length bz) (.slice bQ ay.length bD) (.int .i64 (-1))) ho1 hb; have n3_ := Re2 (Far3 aI.out aw.out (.slice bM ax.length bz) (.slice bQ ay.length bD) (.int .i64 (-1))) ho0 hb; have n4_ := Re2 (Far3 aJ.out aw.out (.slice bM ax.length bz) (.slice bQ ay.length bD) (.int .i64 (-1))) ho1 hb; have n5_ := Re2 (Far3 aR.out aw.out (.slice bM ax.length bz) (.slice bQ ay.length bD) (.int .i64 (-1))) ho0 hb; have n6_ := Re2 (Far3 aS.out aw.out (.slice bM ax.length bz) (.slice bQ ay.length bD) (.int .i64 (-1))) ho1 hb; have n7_ := Re2 (Far3 aK.out aw.out (.slice bM ax.length bz) (.slice bQ ay.length bD) (.int .i64 (-1))) ho0 hb; have n8_ := Re2 (Far3 aM.out aw.out (.slice bM ax.length bz) (.slice bQ ay.length bD) (.int .i64 (-1))) ho1 hb; have n9_ := Aside0.mk (Kd.R_lower (Kd.R_new' (Kd.R_new' (Kd.R_new' (Kd.R_new' ho0 (Kd.R_lt (Kd.pR ((Far3 az.out aw.out (.slice bM ax.length bz) (.slice bQ ay.length bD) (.int .i64 (-1))))))) (Kd.R_lt (Kd.pR ((Far3 aI.out aw.out (.slice bM ax.length bz) (.slice bQ ay.length bD) (.int .i64 (-1))))))) (Kd.R_lt (Kd.pR ((Far3 aR.out aw.out (.slice bM ax.length bz) (.slice bQ ay.length bD) (.int .i64 (-1))))))) (Kd.R_lt (Kd.pR ((Far3 aK.out aw.out (.slice bM ax.length bz) (.slice bQ ay.length bD) (.int .i64 (-1))))))) (below_size (pB HB.out))); have n10_ := Aside0.mk (Kd.R_lower (Kd.R_new' (Kd.R_new' (Kd.R_new' (Kd.R_new' ho1 (Kd.R_lt (Kd.pR ((Far3 aA.out aw.out (.slice bM ax.length bz) (.slice bQ ay.length bD) (.int .i64 (-1))))))) (Kd.R_lt (Kd.pR ((Far3 aJ.out aw.out (.slice bM ax.length bz) (.slice bQ ay.length bD) (.int .i64 (-1))))))) (Kd.R_lt (Kd.pR ((Far3 aS.out aw.out (.slice bM ax.length bz) (.slice bQ ay.length bD) (.int .i64 (-1))))))) (Kd.R_lt (Kd.pR ((Far3 aM.out aw.out (.slice bM ax.length bz) (.slice bQ ay.length bD) (.int .i64 (-1))))))) (below_size (pB HB.out))); have n11_ := Aside0.mk (blk_below (g := cX) (o := .cells #[.slice ck cx.length cf, .slice co cv.length cj, .int .i64 cL] 36 (0, 0)) (by (with_reducible repeat (first | refine blk_drewN ?_ _ | refine blk_drew ?_ | refine blk_alloc ?_ _)); refine blk_far ?_ du.out _; (with_reducible repeat (first | refine blk_drewN ?_ _ | refine blk_drew ?_ | refine blk_alloc ?_ _)); refine blk_far ?_ du.out _; (with_reducible repeat (first | refine blk_drewN ?_ _ | refine blk_drew ?_ | refine blk_alloc ?_ _)); refine blk_far ?_ du.out _; (with_reducible repeat (first | refine blk_drewN ?_ _ | refine blk_drew ?_ | refine blk_alloc ?_ _)); exact aa.out) hb); have n12_ := Aside0.mk (blk_below (g := dn) (o := .cells #[.slice cb cn.length b5, .slice ce cm.length ca, .int .i64 cF] 36 (0, 0)) (by (with_reducible repeat (first | refine blk_drewN ?_ _ | refine blk_drew ?_ | refine blk_alloc ?_ _)); refine blk_far ?_ dv.out _; (with_reducible repeat (first | refine blk_drewN ?_ _ | refine blk_drew ?_ | refine blk_alloc ?_ _)); refine blk_far ?_ dv.out _; (with_reducible repeat (first | refine blk_drewN ?_ _ | refine blk_drew ?_ | refine blk_alloc ?_ _)); refine blk_far ?_ dv.out _; (with_reducible repeat (first | refine blk_drewN ?_ _ | refine blk_drew ?_ | refine blk_alloc ?_ _)); exact av.out) hb); have n13_ := Aside0.mk (blk_below (g := dq) (o := .cells #[.slice b7 bH.length b1, .slice cc cl.length b6, .int .i64 cD] 36 (0, 0)) (by (with_reducible repeat (first | refine blk_drewN ?_ _ | refine blk_drew ?_ | refine blk_alloc ?_ _)); refine blk_far ?_ dw.out _; (with_reducible repeat (first | refine blk_drewN ?_ _ | refine blk_drew ?_ | refine blk_alloc ?_ _)); refine blk_far ?_ dw.out _; (with_reducible repeat (first | refine blk_drewN ?_ _ | refine blk_drew ?_ | refine blk_alloc ?_ _)); refine blk_far ?_ dw.out _; (with_reducible repeat (first | refine blk_drewN ?_ _ | refine blk_drew ?_ | refine blk_alloc ?_ _)); exact au.out) hb); have n14_ := Aside0.mk (blk_below (g := d8) (o := .cells #[.slice bM ax.length bz, .slice bQ ay.length bD, .int .i64 (-1)] 36 (0, 0)) (by (with_reducible repeat (first | refine blk_drewN ?_ _ | refine blk_drew ?_ | refine blk_alloc ?_ _)); refine blk_put (cs := #[.slice bM ax.length bz, .slice bQ ay.length bD, .int .i64 0]) ?_ 2 _ rfl; (with_reducible repeat (first | refine blk_drewN ?_ _ | refine blk_drew ?_ | refine blk_alloc ?_ _)); refine blk_put (cs := #[.slice bM ax.length bz, .slice none 0 0, .int .i64 0]) ?_ 1 _ rfl; (with_reducible repeat (first | refine blk_drewN ?_ _ | refine blk_drew ?_ | refine blk_alloc ?_ _)); refine blk_put (cs := #[.slice none 0 0, .slice none 0 0, .int .i64 0]) ?_ 0 _ rfl; (with_reducible repeat (first | refine blk_drewN ?_ _ | refine blk_drew ?_ | refine blk_alloc ?_ _)); exact aw.out) hb); have n15_ := Aside0.mk (below_step (pB HB.out) hb); (try clear HO_1); clear az; clear aA; clear aI; clear aJ; clear aR; clear aS; clear aK; clear aM; clear aa; clear av; clear au; clear aw; clear HB; have az := n1_; have aA := n2_; have aI := n3_; have aJ := n4_; have aR := n5_; have aS := n6_; have aK := n7_; have aM := n8_; have bq := n9_; have br := n10_; have aa := n11_; have av := n12_; have au := n13_; have aw := n14_; have HB := n15_; clear n1_ n2_ n3_ n4_ n5_ n6_ n7_ n8_ n9_ n10_ n11_ n12_ n13_ n14_ n15_; (try clear hb); (try clear hb2); (try clear hk); (try clear hi); (try clear ho0); (try clear ho1)) | ((with_reducible refine gate_dst (N := 13) rfl ?_); (try (refine gate_guard (by rfl) ?_; dsimp only)); refine boxE (N := 13) (cs := #[.slice none 0 0, .slice none 0 0, .int .i64 0]) (t := 36) ?_; intro ew hg lV hbox hb; have n1_ := Rb1 az hb; have n2_ := Rb1 aA hb; have n3_ := Rb1 aI hb; have n4_ := Rb1 aJ hb; have n5_ := Rb1 aR hb; have n6_ := Rb1 aS hb; have n7_ := Rb1 aK hb; have n8_ := Rb1 aM hb; have n9_ := Rb1 bq hb; have n10_ := Rb1 br hb; have n11_ := Aside0.mk (blk_below (pK aa.out) hb); have n12_ := Aside0.mk (blk_below (pK av.out) hb); have n13_ := Aside0.mk (blk_below (pK au.out) hb); have n14_ := Aside0.mk (blk_below (pK aw.out) hb); have n15_ := Aside0.mk (below_step (pB HB.out) hb); have n16_ := Aside0.mk (hbox); have n18_ := Aside0.mk (pL HB.out hg); have n19_ := Aside0.mk (pNl aa.out hg); have n20_ := Aside0.mk (pNg aa.out hg); have n21_ := Aside0.mk (pNl av.out hg); have n22_ := Aside0.mk (pNg av.out hg); have n23_ := Aside0.mk (pNl au.out hg); have n24_ := Aside0.mk (pNg au.out hg); have n25_ := Aside0.mk (pNl aw.out hg); have n26_ := Aside0.mk (pNg aw.out hg); (try clear HO_1); clear az; clear aA; clear aI; clear aJ; clear aR; clear aS; clear aK; clear aM; clear bq; clear br; clear aa; clear av; clear au; clear aw; clear HB; have az := n1_; have aA := n2_; have aI := n3_; have aJ := n4_; have aR := n5_; have aS := n6_; have aK := n7_; have aM := n8_; have bq := n9_; have br := n10_; have aa := n11_; have av := n12_; have au := n13_; have aw := n14_; have HB := n15_; have aL := n16_; have ly := n18_; have dx := n19_; have fs := n20_; have dy := n21_; have ft := n22_; have dz := n23_; have fu := n24_; have dA := n25_; have fv := n26_; clear n1_ n2_ n3_ n4_ n5_ n6_ n7_ n8_ n9_ n10_ n11_ n12_ n13_ n14_ n15_ n16_ n18_ n19_ n20_ n21_ n22_ n23_ n24_ n25_ n26_; clear hb hbox hg; obtain ⟨bO, bK, h9⟩ := Kd.R_slice bq.out; subst h9; have ka := fs.out; have kb := dx.out; have kc := ft.out; have kd := dy.out; have ke := fu.out; have kf := dz.out; have kg := fv.out; have kh := dA.out; obtain ⟨hcz139_0, iO, iP, iQ, iR, iS⟩ := bk3 aL.out; obtain ⟨bR, bN, ia⟩ := Kd.R_slice br.out; subst ia) | ((with_reducible refine gate_callee (f := 28) rfl ?_); refine goesE (some 107) rfl rfl Try.func28 (by kernel_rfl) rfl #[.int .i64 1] rfl ?_; (with_reducible refine (arena_New.calls k1 1 bn bm bF cK _ A78.out).mono ?_); rintro e lW ⟨v614, lX, rfl, ho0, ho1, hb⟩; refine ⟨_, rfl, ?_⟩; have n1_ := Re2 (Far3 az.out aL.out (.slice bO b0.length bK) (.slice bR bZ.length bN) (.int .i64 ch)) ho0 hb; have n2_ := Re2 (Far3 aA.out aL.out (.slice bO b0.length bK) (.slice bR bZ.length bN) (.int .i64 ch)) ho1 hb; have n3_ := Re2 (Far3 aI.out aL.out (.slice bO b0.length bK) (.slice bR bZ.length bN) (.int .i64 ch)) ho0 hb; have n4_ := Re2 (Far3 aJ.out aL.out (.slice bO b0.length bK) (.slice bR bZ.length bN) (.int .i64 ch)) ho1 hb; have n5_ := Re2 (Far3 aR.out aL.out (.slice bO b0.length bK) (.slice bR bZ.length bN) (.int .i64 ch)) ho0 hb; have n6_ := Re2 (Far3 aS.out aL.out (.slice bO b0.length bK) (.slice bR bZ.length bN) (.int .i64 ch)) ho1 hb; have n7_ := Re2 (Far3 aK.out aL.out (.slice bO b0.length bK) (.slice bR bZ.length bN) (.int .i64 ch)) ho0 hb; have n8_ := Re2 (Far3 aM.out aL.out (.slice bO b0.length bK) (.slice bR bZ.length bN) (.int .i64 ch)) ho1 hb; have n9_ := Re2 (Far3 bq.out aL.out (.slice bO b0.length bK) (.slice bR bZ.length bN) (.int .i64 ch)) ho0 hb; have n10_ := Re2 (Far3 br.out aL.out (.slice bO b0.length bK) (.slice bR bZ.length bN) (.int .i64 ch)) ho1 hb; have n11_ := Aside0.mk (Kd.R_lower (Kd.R_new' (Kd.R_new' (Kd.R_new' (Kd.R_new' (Kd.R_new' ho0 (Kd.R_lt (Kd.pR ((Far3 az.out aL.out (.slice bO b0.length bK) (.slice bR bZ.length bN) (.int .i64 ch)))))) (Kd.R_lt (Kd.pR ((Far3 aI.out aL.out (.slice bO b0.length bK) (.slice bR bZ.length bN) (.int .i64 ch)))))) (Kd.R_lt (Kd.pR ((Far3 aR.out aL.out (.slice bO b0.length bK) (.slice bR bZ.length bN) (.int .i64 ch)))))) (Kd.R_lt (Kd.pR ((Far3 aK.out aL.out (.slice bO b0.length bK) (.slice bR bZ.length bN) (.int .i64 ch)))))) (Kd.R_lt (Kd.pR ((Far3 bq.out aL.out (.slice bO b0.length bK) (.slice bR bZ.length bN) (.int .i64 ch)))))) (below_size (pB HB.out))); have n12_ := Aside0.mk (Kd.R_lower (Kd.R_new' (Kd.R_new' (Kd.R_new' (Kd.R_new' (Kd.R_new' ho1 (Kd.R_lt (Kd.pR ((Far3 aA.out aL.out (.slice bO b0.length bK) (.slice bR bZ.length bN) (.int .i64 ch)))))) (Kd.R_lt (Kd.pR ((Far3 aJ.out aL.out (.slice bO b0.length bK) (.slice bR bZ.length bN) (.int .i64 ch)))))) (Kd.R_lt (Kd.pR ((Far3 aS.out aL.out (.slice bO b0.length bK) (.slice bR bZ.length bN) (.int .i64 ch)))))) (Kd.R_lt (Kd.pR ((Far3 aM.out aL.out (.slice bO b0.length bK) (.slice bR bZ.length bN) (.int .i64 ch)))))) (Kd.R_lt (Kd.pR ((Far3 br.out aL.out (.slice bO b0.length bK) (.slice bR bZ.length bN) (.int .i64 ch)))))) (below_size (pB HB.out))); have n13_ := Aside0.mk (blk_below (g := cX) (o := .cells #[.slice ck cx.length cf, .slice co cv.length cj, .int .i64 cL] 36 (0, 0)) (by (with_reducible repeat (first | refine blk_drewN ?_ _ | refine blk_drew ?_ | refine blk_alloc ?_ _)); refine blk_far ?_ dx.out _; (with_reducible repeat (first | refine blk_drewN ?_ _ | refine blk_drew ?_ | refine blk_alloc ?_ _)); refine blk_far ?_ dx.out _; (with_reducible repeat (first | refine blk_drewN ?_ _ | refine blk_drew ?_ | refine blk_alloc ?_ _)); refine blk_far ?_ dx.out _; (with_reducible repeat (first | refine blk_drewN ?_ _ | refine blk_drew ?_ | refine blk_alloc ?_ _)); exact aa.out) hb); have n14_ := Aside0.mk (blk_below (g := dn) (o := .cells #[.slice cb cn.length b5, .slice ce cm.length ca, .int .i64 cF] 36 (0, 0)) (by (with_reducible repeat (first | refine blk_drewN ?_ _ | refine blk_drew ?_ | refine blk_alloc ?_ _)); refine blk_far ?_ dy.out _; (with_reducible repeat (first | refine blk_drewN ?_ _ | refine blk_drew ?_ | refine blk_alloc ?_ _)); refine blk_far ?_ dy.out _; (with_reducible repeat (first | refine blk_drewN ?_ _ | refine blk_drew ?_ | refine blk_alloc ?_ _)); refine blk_far ?_ dy.out _; (with_reducible repeat (first | refine blk_drewN ?_ _ | refine blk_drew ?_ | refine blk_alloc ?_ _)); exact av.out) hb); have n15_ := Aside0.mk (blk_below (g := dq) (o := .cells #[.slice b7 bH.length b1, .slice cc cl.length b6, .int .i64 cD] 36 (0, 0)) (by (with_reducible repeat (first | refine blk_drewN ?_ _ | refine blk_drew ?_ | refine blk_alloc ?_ _)); refine blk_far ?_ dz.out _; (with_reducible repeat (first | refine blk_drewN ?_ _ | refine blk_drew ?_ | refine blk_alloc ?_ _)); refine blk_far ?_ dz.out _; (with_reducible repeat (first | refine blk_drewN ?_ _ | refine blk_drew ?_ | refine blk_alloc ?_ _)); refine blk_far ?_ dz.out _; (with_reducible repeat (first | refine blk_drewN ?_ _ | refine blk_drew ?_ | refine blk_alloc ?_ _)); exact au.out) hb); have n16_ := Aside0.mk (blk_below (g := d8) (o := .cells #[.slice bM ax.length bz, .slice bQ ay.length bD, .int .i64 (-1)] 36 (0, 0)) (by (with_reducible repeat (first | refine blk_drewN ?_ _ | refine blk_drew ?_ | refine blk_alloc ?_ _)); refine blk_far ?_ dA.out _; (with_reducible repeat (first | refine blk_drewN ?_ _ | refine blk_drew ?_ | refine blk_alloc ?_ _)); refine blk_far ?_ dA.out _; (with_reducible repeat (first | refine blk_drewN ?_ _ | refine blk_drew ?_ | refine blk_alloc ?_ _)); refine blk_far ?_ dA.out _; (with_reducible repeat (first | refine blk_drewN ?_ _ | refine blk_drew ?_ | refine blk_alloc ?_ _)); exact aw.out) hb); have n17_ := Aside0.mk (blk_below (g := ew) (o := .cells #[.slice bO b0.length bK, .slice bR bZ.length bN, .int .i64 ch] 36 (0, 0)) (by (with_reducible repeat (first | refine blk_drewN ?_ _ | refine blk_drew ?_ | refine blk_alloc ?_ _)); refine blk_put (cs := #[.slice bO b0.length bK, .slice bR bZ.length bN, .int .i64 0]) ?_ 2 _ rfl; (with_reducible repeat (first | refine blk_drewN ?_ _ | refine blk_drew ?_ | refine blk_alloc ?_ _)); refine blk_put (cs := #[.slice bO b0.length bK, .slice none 0 0, .int .i64 0]) ?_ 1 _ rfl; (with_reducible repeat (first | refine blk_drewN ?_ _ | refine blk_drew ?_ | refine blk_alloc ?_ _)); refine blk_put (cs := #[.slice none 0 0, .slice none 0 0, .int .i64 0]) ?_ 0 _ rfl; (with_reducible repeat (first | refine blk_drewN ?_ _ | refine blk_drew ?_ | refine blk_alloc ?_ _)); exact aL.out) hb); have n18_ := Aside0.mk (below_step (pB HB.out) hb); (try clear HO_1); clear az; clear aA; clear aI; clear aJ; clear aR; clear aS; clear aK; clear aM; clear bq; clear br; clear aa; clear av; clear au; clear aw; clear aL; clear HB; have az := n1_; have aA := n2_; have aI := n3_; have aJ := n4_; have aR := n5_; have aS := n6_; have aK := n7_; have aM := n8_; have bq := n9_; have br := n10_; have bj := n11_; have bk := n12_; have aa := n13_; have av := n14_; have au := n15_; have aw := n16_; have aL := n17_; have HB := n18_; clear n1_ n2_ n3_ n4_ n5_ n6_ n7_ n8_ n9_ n10_ n11_ n12_ n13_ n14_ n15_ n16_ n17_ n18_; (try clear hb); (try clear hb2); (try clear hk); (try clear hi); (try clear ho0); (try clear ho1)) | ((with_reducible refine gate_dst (N := 16) rfl ?_); (try (refine gate_guard (by rfl) ?_; dsimp only)); refine boxE (N := 16) (cs := #[.slice none 0 0, .slice none 0 0, .int .i64 0]) (t := 36) ?_; intro ex hg lY hbox hb; have n1_ := Rb1 az hb; have n2_ := Rb1 aA hb; have n3_ := Rb1 aI hb; have n4_ := Rb1 aJ hb; have n5_ := Rb1 aR hb; have n6_ := Rb1 aS hb; have n7_ := Rb1 aK hb; have n8_ := Rb1 aM hb; have n9_ := Rb1 bq hb; have n10_ := Rb1 br hb; have n11_ := Rb1 bj hb; have n12_ := Rb1 bk hb; have n13_ := Aside0.mk (blk_below (pK aa.out) hb); have n14_ := Aside0.mk (blk_below (pK av.out) hb); have n15_ := Aside0.mk (blk_below (pK au.out) hb); have n16_ := Aside0.mk (blk_below (pK aw.out) hb); have n17_ := Aside0.mk (blk_below (pK aL.out) hb); have n18_ := Aside0.mk (below_step (pB HB.out) hb); have n19_ := Aside0.mk (hbox); have n21_ := Aside0.mk (pL HB.out hg); have n22_ := Aside0.mk (pNl aa.out hg); have n23_ := Aside0.mk (pNg aa.out hg); have n24_ := Aside0.mk (pNl av.out hg); have n25_ := Aside0.mk (pNg av.out hg); have n26_ := Aside0.mk (pNl au.out hg); have n27_ := Aside0.mk (pNg au.out hg); have n28_ := Aside0.mk (pNl aw.out hg); have n29_ := Aside0.mk (pNg aw.out hg); have n30_ := Aside0.mk (pNl aL.out hg); have n31_ := Aside0.mk (pNg aL.out hg); (try clear HO_1); clear az; clear aA; clear aI; clear aJ; clear aR; clear aS; clear aK; clear aM; clear bq; clear br; clear bj; clear bk; clear aa; clear av; clear au; clear aw; clear aL; clear HB; have az := n1_; have aA := n2_; have aI := n3_; have aJ := n4_; have aR := n5_; have aS := n6_; have aK := n7_; have aM := n8_; have bq := n9_; have br := n10_; have bj := n11_; have bk := n12_; have aa := n13_; have av := n14_; have au := n15_; have aw := n16_; have aL := n17_; have HB := n18_; have aB := n19_; have lz := n21_; have dB := n22_; have fw := n23_; have dC := n24_; have fy := n25_; have dD := n26_; have fz := n27_; have dE := n28_; have fA := n29_; have dF := n30_; have fB := n31_; clear n1_ n2_ n3_ n4_ n5_ n6_ n7_ n8_ n9_ n10_ n11_ n12_ n13_ n14_ n15_ n16_ n17_ n18_ n19_ n21_ n22_ n23_ n24_ n25_ n26_ n27_ n28_ n29_ n30_ n31_; clear hb hbox hg; obtain ⟨bA, bs, ib⟩ := Kd.R_slice bj.out; subst ib; have ki := fw.out; have kj := dB.out; have kk := fy.out; have kl := dC.out; have km := fz.out; have kn := dD.out; have ko := fA.out; have kp := dE.out; have kr := fB.out; have ks := dF.out; obtain ⟨hcz149_0, iT, iU, iV, iW, iX⟩ := bk3 aB.out; obtain ⟨bE, bv, ic⟩ := Kd.R_slice bk.out; subst ic) | ((with_reducible refine gate_callee (f := 26) rfl ?_); refine goesE (some 112) rfl rfl Try.func26 (by kernel_rfl) rfl #[.agg #[.slice bA bn.length bs, .slice bE bm.length bv, .int .i64 bF], .int .i64 0] rfl ?_; (with_reducible refine (arena_Give.calls k1 _ _ bn _ _ bm bF 0 bP bL bW cM _ ?side1 ?side2 ?side3 ?side4 A79.out).mono ?_); (case side1 => refine (Kd.R_reads' (e := 3) (base := w.heap.size) (ok := fun k_ => (((((True ∧ some k_ ≠ (.slice ck cx.length cf : Value).ownBlock) ∧ some k_ ≠ (.slice cb cn.length b5 : Value).ownBlock) ∧ some k_ ≠ (.slice b7 bH.length b1 : Value).ownBlock) ∧ some k_ ≠ (.slice bM ax.length bz : Value).ownBlock) ∧ some k_ ≠ (.slice bO b0.length bK : Value).ownBlock)) (n := bn.length) (c := bs) ?_).2.2; exact (Kd.pR ((Far3 bj.out aB.out (.slice bA bn.length bs) (.slice bE bm.length bv) (.int .i64 bF))))); (case side2 => exact (Kd.R_reads' bj.out).2.1); (case side3 => refine (Kd.R_reads' (e := 4) (base := w.heap.size) (ok := fun k_ => (((((True ∧ some k_ ≠ (.slice co cv.length cj : Value).ownBlock) ∧ some k_ ≠ (.slice ce cm.length ca : Value).ownBlock) ∧ some k_ ≠ (.slice cc cl.length b6 : Value).ownBlock) ∧ some k_ ≠ (.slice bQ ay.length bD : Value).ownBlock) ∧ some k_ ≠ (.slice bR bZ.length bN : Value).ownBlock)) (n := bm.length) (c := bv) ?_).2.2; exact (Kd.pR ((Far3 bk.out aB.out (.slice bA bn.length bs) (.slice bE bm.length bv) (.int .i64 bF))))); (case side4 => exact (Kd.R_reads' bk.out).2.1); rintro e lZ ⟨v623, l1, rfl, ho0, ho1, hb⟩; refine ⟨_, rfl, ?_⟩; have n1_ := Re2 (Far3 az.out aB.out (.slice bA bn.length bs) (.slice bE bm.length bv) (.int .i64 bF)) ho0 hb; have n2_ := Re2 (Far3 aA.out aB.out (.slice bA bn.length bs) (.slice bE bm.length bv) (.int .i64 bF)) ho1 hb; have n3_ := Re2 (Far3 aI.out aB.out (.slice bA bn.length bs) (.slice bE bm.length bv) (.int .i64 bF)) ho0 hb; have n4_ := Re2 (Far3 aJ.out aB.out (.slice bA bn.length bs) (.slice bE bm.length bv) (.int .i64 bF)) ho1 hb; have n5_ := Re2 (Far3 aR.out aB.out (.slice bA bn.length bs) (.slice bE bm.length bv) (.int .i64 bF)) ho0 hb; have n6_ := Re2 (Far3 aS.out aB.out (.slice bA bn.length bs) (.slice bE bm.length bv) (.int .i64 bF)) ho1 hb; have n7_ := Re2 (Far3 aK.out aB.out (.slice bA bn.length bs) (.slice bE bm.length bv) (.int .i64 bF)) ho0 hb; have n8_ := Re2 (Far3 aM.out aB.out (.slice bA bn.length bs) (.slice bE bm.length bv) (.int .i64 bF)) ho1 hb; have n9_ := Re2 (Far3 bq.out aB.out (.slice bA bn.length bs) (.slice bE bm.length bv) (.int .i64 bF)) ho0 hb; have n10_ := Re2 (Far3 br.out aB.out (.slice bA bn.length bs) (.slice bE bm.length bv) (.int .i64 bF)) ho1 hb; have n11_ := Re2 (Far3 bj.out aB.out (.slice bA bn.length bs) (.slice bE bm.length bv) (.int .i64 bF)) ho0 hb; have n12_ := Re2 (Far3 bk.out aB.out (.slice bA bn.length bs) (.slice bE bm.length bv) (.int .i64 bF)) ho1 hb; have n13_ := Aside0.mk (Kd.R_lower (Kd.R_new' (Kd.R_new' (Kd.R_new' (Kd.R_new' (Kd.R_new' (Kd.R_new' ho0 (Kd.R_lt (Kd.pR ((Far3 az.out aB.out (.slice bA bn.length bs) (.slice bE bm.length bv) (.int .i64 bF)))))) (Kd.R_lt (Kd.pR ((Far3 aI.out aB.out (.slice bA bn.length bs) (.slice bE bm.length bv) (.int .i64 bF)))))) (Kd.R_lt (Kd.pR ((Far3 aR.out aB.out (.slice bA bn.length bs) (.slice bE bm.length bv) (.int .i64 bF)))))) (Kd.R_lt (Kd.pR ((Far3 aK.out aB.out (.slice bA bn.length bs) (.slice bE bm.length bv) (.int .i64 bF)))))) (Kd.R_lt (Kd.pR ((Far3 bq.out aB.out (.slice bA bn.length bs) (.slice bE bm.length bv) (.int .i64 bF)))))) (Kd.R_lt (Kd.pR ((Far3 bj.out aB.out (.slice bA bn.length bs) (.slice bE bm.length bv) (.int .i64 bF)))))) (below_size (pB HB.out))); have n14_ := Aside0.mk (Kd.R_lower (Kd.R_new' (Kd.R_new' (Kd.R_new' (Kd.R_new' (Kd.R_new' (Kd.R_new' ho1 (Kd.R_lt (Kd.pR ((Far3 aA.out aB.out (.slice bA bn.length bs) (.slice bE bm.length bv) (.int .i64 bF)))))) (Kd.R_lt (Kd.pR ((Far3 aJ.out aB.out (.slice bA bn.length bs) (.slice bE bm.length bv) (.int .i64 bF)))))) (Kd.R_lt (Kd.pR ((Far3 aS.out aB.out (.slice bA bn.length bs) (.slice bE bm.length bv) (.int .i64 bF)))))) (Kd.R_lt (Kd.pR ((Far3 aM.out aB.out (.slice bA bn.length bs) (.slice bE bm.length bv) (.int .i64 bF)))))) (Kd.R_lt (Kd.pR ((Far3 br.out aB.out (.slice bA bn.length bs) (.slice bE bm.length bv) (.int .i64 bF)))))) (Kd.R_lt (Kd.pR ((Far3 bk.out aB.out (.slice bA bn.length bs) (.slice bE bm.length bv) (.int .i64 bF)))))) (below_size (pB HB.out))); have n15_ := Aside0.mk (blk_below (g := cX) (o := .cells #[.slice ck cx.length cf, .slice co cv.length cj, .int .i64 cL] 36 (0, 0)) (by (with_reducible repeat (first | refine blk_drewN ?_ _ | refine blk_drew ?_ | refine blk_alloc ?_ _)); refine blk_far ?_ dB.out _; (with_reducible repeat (first | refine blk_drewN ?_ _ | refine blk_drew ?_ | refine blk_alloc ?_ _)); refine blk_far ?_ dB.out _; (with_reducible repeat (first | refine blk_drewN ?_ _ | refine blk_drew ?_ | refine blk_alloc ?_ _)); refine blk_far ?_ dB.out _; (with_reducible repeat (first | refine blk_drewN ?_ _ | refine blk_drew ?_ | refine blk_alloc ?_ _)); exact aa.out) hb); have n16_ := Aside0.mk (blk_below (g := dn) (o := .cells #[.slice cb cn.length b5, .slice ce cm.length ca, .int .i64 cF] 36 (0, 0)) (by (with_reducible repeat (first | refine blk_drewN ?_ _ | refine blk_drew ?_ | refine blk_alloc ?_ _)); refine blk_far ?_ dC.out _; (with_reducible repeat (first | refine blk_drewN ?_ _ | refine blk_drew ?_ | refine blk_alloc ?_ _)); refine blk_far ?_ dC.out _; (with_reducible repeat (first | refine blk_drewN ?_ _ | refine blk_drew ?_ | refine blk_alloc ?_ _)); refine blk_far ?_ dC.out _; (with_reducible repeat (first | refine blk_drewN ?_ _ | refine blk_drew ?_ | refine blk_alloc ?_ _)); exact av.out) hb); have n17_ := Aside0.mk (blk_below (g := dq) (o := .cells #[.slice b7 bH.length b1, .slice cc cl.length b6, .int .i64 cD] 36 (0, 0)) (by (with_reducible repeat (first | refine blk_drewN ?_ _ | refine blk_drew ?_ | refine blk_alloc ?_ _)); refine blk_far ?_ dD.out _; (with_reducible repeat (first | refine blk_drewN ?_ _ | refine blk_drew ?_ | refine blk_alloc ?_ _)); refine blk_far ?_ dD.out _; (with_reducible repeat (first | refine blk_drewN ?_ _ | refine blk_drew ?_ | refine blk_alloc ?_ _)); refine blk_far ?_ dD.out _; (with_reducible repeat (first | refine blk_drewN ?_ _ | refine blk_drew ?_ | refine blk_alloc ?_ _)); exact au.out) hb); have n18_ := Aside0.mk (blk_below (g := d8) (o := .cells #[.slice bM ax.length bz, .slice bQ ay.length bD, .int .i64 (-1)] 36 (0, 0)) (by (with_reducible repeat (first | refine blk_drewN ?_ _ | refine blk_drew ?_ | refine blk_alloc ?_ _)); refine blk_far ?_ dE.out _; (with_reducible repeat (first | refine blk_drewN ?_ _ | refine blk_drew ?_ | refine blk_alloc ?_ _)); refine blk_far ?_ dE.out _; (with_reducible repeat (first | refine blk_drewN ?_ _ | refine blk_drew ?_ | refine blk_alloc ?_ _)); refine blk_far ?_ dE.out _; (with_reducible repeat (first | refine blk_drewN ?_ _ | refine blk_drew ?_ | refine blk_alloc ?_ _)); exact aw.out) hb); have n19_ := Aside0.mk (blk_below (g := ew) (o := .cells #[.slice bO b0.length bK, .slice bR bZ.length bN, .int .i64 ch] 36 (0, 0)) (by (with_reducible repeat (first | refine blk_drewN ?_ _ | refine blk_drew ?_ | refine blk_alloc ?_ _)); refine blk_far ?_ dF.out _; (with_reducible repeat (first | refine blk_drewN ?_ _ | refine blk_drew ?_ | refine blk_alloc ?_ _)); refine blk_far ?_ dF.out _; (with_reducible repeat (first | refine blk_drewN ?_ _ | refine blk_drew ?_ | refine blk_alloc ?_ _)); refine blk_far ?_ dF.out _; (with_reducible repeat (first | refine blk_drewN ?_ _ | refine blk_drew ?_ | refine blk_alloc ?_ _)); exact aL.out) hb); have n20_ := Aside0.mk (blk_below (g := ex) (o := .cells #[.slice bA bn.length bs, .slice bE bm.length bv, .int .i64 bF] 36 (0, 0)) (by (with_reducible repeat (first | refine blk_drewN ?_ _ | refine blk_drew ?_ | refine blk_alloc ?_ _)); refine blk_put (cs := #[.slice bA bn.length bs, .slice bE bm.length bv, .int .i64 0]) ?_ 2 _ rfl; (with_reducible repeat (first | refine blk_drewN ?_ _ | refine blk_drew ?_ | refine blk_alloc ?_ _)); refine blk_put (cs := #[.slice bA bn.length bs, .slice none 0 0, .int .i64 0]) ?_ 1 _ rfl; (with_reducible repeat (first | refine blk_drewN ?_ _ | refine blk_drew ?_ | refine blk_alloc ?_ _)); refine blk_put (cs := #[.slice none 0 0, .slice none 0 0, .int .i64 0]) ?_ 0 _ rfl; (with_reducible repeat (first | refine blk_drewN ?_ _ | refine blk_drew ?_ | refine blk_alloc ?_ _)); exact aB.out) hb); have n21_ := Aside0.mk (below_step (pB HB.out) hb); (try clear HO_1); clear az; clear aA; clear aI; clear aJ; clear aR; clear aS; clear aK; clear aM; clear bq; clear br; clear bj; clear bk; clear aa; clear av; clear au; clear aw; clear aL; clear aB; clear HB; have az := n1_; have aA := n2_; have aI := n3_; have aJ := n4_; have aR := n5_; have aS := n6_; have aK := n7_; have aM := n8_; have bq := n9_; have br := n10_; have bj := n11_; have bk := n12_; have b2 := n13_; have b3 := n14_; have aa := n15_; have av := n16_; have au := n17_; have aw := n18_; have aL := n19_; have aB := n20_; have HB := n21_; clear n1_ n2_ n3_ n4_ n5_ n6_ n7_ n8_ n9_ n10_ n11_ n12_ n13_ n14_ n15_ n16_ n17_ n18_ n19_ n20_ n21_; (try clear hb); (try clear hb2); (try clear hk); (try clear hi); (try clear ho0); (try clear ho1)) | ((with_reducible refine gate_dst (N := 18) rfl ?_); (try (refine gate_guard (by rfl) ?_; dsimp only)); refine boxE (N := 18) (cs := #[.slice none 0 0, .slice none 0 0, .int .i64 0]) (t := 36) ?_; intro e9 hg l2 hbox hb; have n1_ := Rb1 az hb; have n2_ := Rb1 aA hb; have n3_ := Rb1 aI hb; have n4_ := Rb1 aJ hb; have n5_ := Rb1 aR hb; have n6_ := Rb1 aS hb; have n7_ := Rb1 aK hb; have n8_ := Rb1 aM hb; have n9_ := Rb1 bq hb; have n10_ := Rb1 br hb; have n11_ := Rb1 bj hb; have n12_ := Rb1 bk hb; have n13_ := Rb1 b2 hb; have n14_ := Rb1 b3 hb; have n15_ := Aside0.mk (blk_below (pK aa.out) hb); have n16_ := Aside0.mk (blk_below (pK av.out) hb); have n17_ := Aside0.mk (blk_below (pK au.out) hb); have n18_ := Aside0.mk (blk_below (pK aw.out) hb); have n19_ := Aside0.mk (blk_below (pK aL.out) hb); have n20_ := Aside0.mk (blk_below (pK aB.out) hb); have n21_ := Aside0.mk (below_step (pB HB.out) hb); have n22_ := Aside0.mk (hbox); have n24_ := Aside0.mk (pL HB.out hg); have n25_ := Aside0.mk (pNl aa.out hg); have n26_ := Aside0.mk (pNg aa.out hg); have n27_ := Aside0.mk (pNl av.out hg); have n28_ := Aside0.mk (pNg av.out hg); have n29_ := Aside0.mk (pNl au.out hg); have n30_ := Aside0.mk (pNg au.out hg); have n31_ := Aside0.mk (pNl aw.out hg); have n32_ := Aside0.mk (pNg aw.out hg); have n33_ := Aside0.mk (pNl aL.out hg); have n34_ := Aside0.mk (pNg aL.out hg); have n35_ := Aside0.mk (pNl aB.out hg); have n36_ := Aside0.mk (pNg aB.out hg); (try clear HO_1); clear az; clear aA; clear aI; clear aJ; clear aR; clear aS; clear aK; clear aM; clear bq; clear br; clear bj; clear bk; clear b2; clear b3; clear aa; clear av; clear au; clear aw; clear aL; clear aB; clear HB; have az := n1_; have aA := n2_; have aI := n3_; have aJ := n4_; have aR := n5_; have aS := n6_; have aK := n7_; have aM := n8_; have bq := n9_; have br := n10_; have bj := n11_; have bk := n12_; have b2 := n13_; have b3 := n14_; have aa := n15_; have av := n16_; have au := n17_; have aw := n18_; have aL := n19_; have aB := n20_; have HB := n21_; have aQ := n22_; have lA := n24_; have dG := n25_; have fC := n26_; have dH := n27_; have fD := n28_; have dI := n29_; have fE := n30_; have dJ := n31_; have fF := n32_; have dK := n33_; have fG := n34_; have dL := n35_; have fH := n36_; clear n1_ n2_ n3_ n4_ n5_ n6_ n7_ n8_ n9_ n10_ n11_ n12_ n13_ n14_ n15_ n16_ n17_ n18_ n19_ n20_ n21_ n22_ n24_ n25_ n26_ n27_ n28_ n29_ n30_ n31_ n32_ n33_ n34_ n35_ n36_; clear hb hbox hg; obtain ⟨bx, bt, id⟩ := Kd.R_slice b2.out; subst id; have kt := fC.out; have ku := dG.out; have kv := fD.out; have kw := dH.out; have kx := fE.out; have ky := dI.out; have kz := fF.out; have kA := dJ.out; have kB := fG.out; have kC := dK.out; have kD := fH.out; have kE := dL.out; obtain ⟨hcz160_0, iY, iZ, i0, i1, i2⟩ := bk3 aQ.out; obtain ⟨bB, bw, ie⟩ := Kd.R_slice b3.out; subst ie; obtain ⟨hcz162_0, i3, i4, i5, i6, i7⟩ := bk3 aw.out) | ((with_reducible refine gate_callee (f := 26) rfl ?_); refine goesE (some 117) rfl rfl Try.func26 (by kernel_rfl) rfl #[.agg #[.slice bM ax.length bz, .slice bQ ay.length bD, .int .i64 (-1)], .int .i64 1] rfl ?_; (with_reducible refine (arena_Give.calls k1 _ _ ax _ _ ay (-1) 1 bJ bI bS cR _ ?side1 ?side2 ?side3 ?side4 A80.out).mono ?_); (case side1 => refine (Kd.R_reads' (e := 3) (base := w.heap.size) (ok := fun k_ => ((((((True ∧ some k_ ≠ (.slice ck cx.length cf : Value).ownBlock) ∧ some k_ ≠ (.slice cb cn.length b5 : Value).ownBlock) ∧ some k_ ≠ (.slice b7 bH.length b1 : Value).ownBlock) ∧ some k_ ≠ (.slice bO b0.length bK : Value).ownBlock) ∧ some k_ ≠ (.slice bA bn.length bs : Value).ownBlock) ∧ some k_ ≠ (.slice bx bP.length bt : Value).ownBlock)) (n := ax.length) (c := bz) ?_).2.2; exact (Kd.pR ((Far3 aK.out aQ.out (.slice bx bP.length bt) (.slice bB bL.length bw) (.int .i64 bW))))); (case side2 => exact (Kd.R_reads' aK.out).2.1); (case side3 => refine (Kd.R_reads' (e := 4) (base := w.heap.size) (ok := fun k_ => ((((((True ∧ some k_ ≠ (.slice co cv.length cj : Value).ownBlock) ∧ some k_ ≠ (.slice ce cm.length ca : Value).ownBlock) ∧ some k_ ≠ (.slice cc cl.length b6 : Value).ownBlock) ∧ some k_ ≠ (.slice bR bZ.length bN : Value).ownBlock) ∧ some k_ ≠ (.slice bE bm.length bv : Value).ownBlock) ∧ some k_ ≠ (.slice bB bL.length bw : Value).ownBlock)) (n := ay.length) (c := bD) ?_).2.2; exact (Kd.pR ((Far3 aM.out aQ.out (.slice bx bP.length bt) (.slice bB bL.length bw) (.int .i64 bW))))); (case side4 => exact (Kd.R_reads' aM.out).2.1); rintro e l3 ⟨v632, l4, rfl, ho0, ho1, hb⟩; refine ⟨_, rfl, ?_⟩; have n1_ := Re2 (Far3 az.out aQ.out (.slice bx bP.length bt) (.slice bB bL.length bw) (.int .i64 bW)) ho0 hb; have n2_ := Re2 (Far3 aA.out aQ.out (.slice bx bP.length bt) (.slice bB bL.length bw) (.int .i64 bW)) ho1 hb; have n3_ := Re2 (Far3 aI.out aQ.out (.slice bx bP.length bt) (.slice bB bL.length bw) (.int .i64 bW)) ho0 hb; have n4_ := Re2 (Far3 aJ.out aQ.out (.slice bx bP.length bt) (.slice bB bL.length bw) (.int .i64 bW)) ho1 hb; have n5_ := Re2 (Far3 aR.out aQ.out (.slice bx bP.length bt) (.slice bB bL.length bw) (.int .i64 bW)) ho0 hb; have n6_ := Re2 (Far3 aS.out aQ.out (.slice bx bP.length bt) (.slice bB bL.length bw) (.int .i64 bW)) ho1 hb; have n7_ := Re2 (Far3 aK.out aQ.out (.slice bx bP.length bt) (.slice bB bL.length bw) (.int .i64 bW)) ho0 hb; have n8_ := Re2 (Far3 aM.out aQ.out (.slice bx bP.length bt) (.slice bB bL.length bw) (.int .i64 bW)) ho1 hb; have n9_ := Re2 (Far3 bq.out aQ.out (.slice bx bP.length bt) (.slice bB bL.length bw) (.int .i64 bW)) ho0 hb; have n10_ := Re2 (Far3 br.out aQ.out (.slice bx bP.length bt) (.slice bB bL.length bw) (.int .i64 bW)) ho1 hb; have n11_ := Re2 (Far3 bj.out aQ.out (.slice bx bP.length bt) (.slice bB bL.length bw) (.int .i64 bW)) ho0 hb; have n12_ := Re2 (Far3 bk.out aQ.out (.slice bx bP.length bt) (.slice bB bL.length bw) (.int .i64 bW)) ho1 hb; have n13_ := Re2 (Far3 b2.out aQ.out (.slice bx bP.length bt) (.slice bB bL.length bw) (.int .i64 bW)) ho0 hb; have n14_ := Re2 (Far3 b3.out aQ.out (.slice bx bP.length bt) (.slice bB bL.length bw) (.int .i64 bW)) ho1 hb; have n15_ := Aside0.mk (Kd.R_lower (Kd.R_new' (Kd.R_new' (Kd.R_new' (Kd.R_new' (Kd.R_new' (Kd.R_new' (Kd.R_new' ho0 (Kd.R_lt (Kd.pR ((Far3 az.out aQ.out (.slice bx bP.length bt) (.slice bB bL.length bw) (.int .i64 bW)))))) (Kd.R_lt (Kd.pR ((Far3 aI.out aQ.out (.slice bx bP.length bt) (.slice bB bL.length bw) (.int .i64 bW)))))) (Kd.R_lt (Kd.pR ((Far3 aR.out aQ.out (.slice bx bP.length bt) (.slice bB bL.length bw) (.int .i64 bW)))))) (Kd.R_lt (Kd.pR ((Far3 aK.out aQ.out (.slice bx bP.length bt) (.slice bB bL.length bw) (.int .i64 bW)))))) (Kd.R_lt (Kd.pR ((Far3 bq.out aQ.out (.slice bx bP.length bt) (.slice bB bL.length bw) (.int .i64 bW)))))) (Kd.R_lt (Kd.pR ((Far3 bj.out aQ.out (.slice bx bP.length bt) (.slice bB bL.length bw) (.int .i64 bW)))))) (Kd.R_lt (Kd.pR ((Far3 b2.out aQ.out (.slice bx bP.length bt) (.slice bB bL.length bw) (.int .i64 bW)))))) (below_size (pB HB.out))); have n16_ := Aside0.mk (Kd.R_lower (Kd.R_new' (Kd.R_new' (Kd.R_new' (Kd.R_new' (Kd.R_new' (Kd.R_new' (Kd.R_new' ho1 (Kd.R_lt (Kd.pR ((Far3 aA.out aQ.out (.slice bx bP.length bt) (.slice bB bL.length bw) (.int .i64 bW)))))) (Kd.R_lt (Kd.pR ((Far3 aJ.out aQ.out (.slice bx bP.length bt) (.slice bB bL.length bw) (.int .i64 bW)))))) (Kd.R_lt (Kd.pR ((Far3 aS.out aQ.out (.slice bx bP.length bt) (.slice bB bL.length bw) (.int .i64 bW)))))) (Kd.R_lt (Kd.pR ((Far3 aM.out aQ.out (.slice bx bP.length bt) (.slice bB bL.length bw) (.int .i64 bW)))))) (Kd.R_lt (Kd.pR ((Far3 br.out aQ.out (.slice bx bP.length bt) (.slice bB bL.length bw) (.int .i64 bW)))))) (Kd.R_lt (Kd.pR ((Far3 bk.out aQ.out (.slice bx bP.length bt) (.slice bB bL.length bw) (.int .i64 bW)))))) (Kd.R_lt (Kd.pR ((Far3 b3.out aQ.out (.slice bx bP.length bt) (.slice bB bL.length bw) (.int .i64 bW)))))) (below_size (pB HB.out))); have n17_ := Aside0.mk (blk_below (g := cX) (o := .cells #[.slice ck cx.length cf, .slice co cv.length cj, .int .i64 cL] 36 (0, 0)) (by (with_reducible repeat (first | refine blk_drewN ?_ _ | refine blk_drew ?_ | refine blk_alloc ?_ _)); refine blk_far ?_ dG.out _; (with_reducible repeat (first | refine blk_drewN ?_ _ | refine blk_drew ?_ | refine blk_alloc ?_ _)); refine blk_far ?_ dG.out _; (with_reducible repeat (first | refine blk_drewN ?_ _ | refine blk_drew ?_ | refine blk_alloc ?_ _)); refine blk_far ?_ dG.out _; (with_reducible repeat (first | refine blk_drewN ?_ _ | refine blk_drew ?_ | refine blk_alloc ?_ _)); exact aa.out) hb); have n18_ := Aside0.mk (blk_below (g := dn) (o := .cells #[.slice cb cn.length b5, .slice ce cm.length ca, .int .i64 cF] 36 (0, 0)) (by (with_reducible repeat (first | refine blk_drewN ?_ _ | refine blk_drew ?_ | refine blk_alloc ?_ _)); refine blk_far ?_ dH.out _; (with_reducible repeat (first | refine blk_drewN ?_ _ | refine blk_drew ?_ | refine blk_alloc ?_ _)); refine blk_far ?_ dH.out _; (with_reducible repeat (first | refine blk_drewN ?_ _ | refine blk_drew ?_ | refine blk_alloc ?_ _)); refine blk_far ?_ dH.out _; (with_reducible repeat (first | refine blk_drewN ?_ _ | refine blk_drew ?_ | refine blk_alloc ?_ _)); exact av.out) hb); have n19_ := Aside0.mk (blk_below (g := dq) (o := .cells #[.slice b7 bH.length b1, .slice cc cl.length b6, .int .i64 cD] 36 (0, 0)) (by (with_reducible repeat (first | refine blk_drewN ?_ _ | refine blk_drew ?_ | refine blk_alloc ?_ _)); refine blk_far ?_ dI.out _; (with_reducible repeat (first | refine blk_drewN ?_ _ | refine blk_drew ?_ | refine blk_alloc ?_ _)); refine blk_far ?_ dI.out _; (with_reducible repeat (first | refine blk_drewN ?_ _ | refine blk_drew ?_ | refine blk_alloc ?_ _)); refine blk_far ?_ dI.out _; (with_reducible repeat (first | refine blk_drewN ?_ _ | refine blk_drew ?_ | refine blk_alloc ?_ _)); exact au.out) hb); have n20_ := Aside0.mk (blk_below (g := d8) (o := .cells #[.slice bM ax.length bz, .slice bQ ay.length bD, .int .i64 (-1)] 36 (0, 0)) (by (with_reducible repeat (first | refine blk_drewN ?_ _ | refine blk_drew ?_ | refine blk_alloc ?_ _)); refine blk_far ?_ dJ.out _; (with_reducible repeat (first | refine blk_drewN ?_ _ | refine blk_drew ?_ | refine blk_alloc ?_ _)); refine blk_far ?_ dJ.out _; (with_reducible repeat (first | refine blk_drewN ?_ _ | refine blk_drew ?_ | refine blk_alloc ?_ _)); refine blk_far ?_ dJ.out _; (with_reducible repeat (first | refine blk_drewN ?_ _ | refine blk_drew ?_ | refine blk_alloc ?_ _)); exact aw.out) hb); have n21_ := Aside0.mk (blk_below (g := ew) (o := .cells #[.slice bO b0.length bK, .slice bR bZ.length bN, .int .i64 ch] 36 (0, 0)) (by (with_reducible repeat (first | refine blk_drewN ?_ _ | refine blk_drew ?_ | refine blk_alloc ?_ _)); refine blk_far ?_ dK.out _; (with_reducible repeat (first | refine blk_drewN ?_ _ | refine blk_drew ?_ | refine blk_alloc ?_ _)); refine blk_far ?_ dK.out _; (with_reducible repeat (first | refine blk_drewN ?_ _ | refine blk_drew ?_ | refine blk_alloc ?_ _)); refine blk_far ?_ dK.out _; (with_reducible repeat (first | refine blk_drewN ?_ _ | refine blk_drew ?_ | refine blk_alloc ?_ _)); exact aL.out) hb); have n22_ := Aside0.mk (blk_below (g := ex) (o := .cells #[.slice bA bn.length bs, .slice bE bm.length bv, .int .i64 bF] 36 (0, 0)) (by (with_reducible repeat (first | refine blk_drewN ?_ _ | refine blk_drew ?_ | refine blk_alloc ?_ _)); refine blk_far ?_ dL.out _; (with_reducible repeat (first | refine blk_drewN ?_ _ | refine blk_drew ?_ | refine blk_alloc ?_ _)); refine blk_far ?_ dL.out _; (with_reducible repeat (first | refine blk_drewN ?_ _ | refine blk_drew ?_ | refine blk_alloc ?_ _)); refine blk_far ?_ dL.out _; (with_reducible repeat (first | refine blk_drewN ?_ _ | refine blk_drew ?_ | refine blk_alloc ?_ _)); exact aB.out) hb); have n23_ := Aside0.mk (blk_below (g := e9) (o := .cells #[.slice bx bP.length bt, .slice bB bL.length bw, .int .i64 bW] 36 (0, 0)) (by (with_reducible repeat (first | refine blk_drewN ?_ _ | refine blk_drew ?_ | refine blk_alloc ?_ _)); refine blk_put (cs := #[.slice bx bP.length bt, .slice bB bL.length bw, .int .i64 0]) ?_ 2 _ rfl; (with_reducible repeat (first | refine blk_drewN ?_ _ | refine blk_drew ?_ | refine blk_alloc ?_ _)); refine blk_put (cs := #[.slice bx bP.length bt, .slice none 0 0, .int .i64 0]) ?_ 1 _ rfl; (with_reducible repeat (first | refine blk_drewN ?_ _ | refine blk_drew ?_ | refine blk_alloc ?_ _)); refine blk_put (cs := #[.slice none 0 0, .slice none 0 0, .int .i64 0]) ?_ 0 _ rfl; (with_reducible repeat (first | refine blk_drewN ?_ _ | refine blk_drew ?_ | refine blk_alloc ?_ _)); exact aQ.out) hb); have n24_ := Aside0.mk (below_step (pB HB.out) hb); (try clear HO_1); clear az; clear aA; clear aI; clear aJ; clear aR; clear aS; clear aK; clear aM; clear bq; clear br; clear bj; clear bk; clear b2; clear b3; clear aa; clear av; clear au; clear aw; clear aL; clear aB; clear aQ; clear HB; have az := n1_; have aA := n2_; have aI := n3_; have aJ := n4_; have aR := n5_; have aS := n6_; have aK := n7_; have aM := n8_; have bq := n9_; have br := n10_; have bj := n11_; have bk := n12_; have b2 := n13_; have b3 := n14_; have cq := n15_; have cr := n16_; have aa := n17_; have av := n18_; have au := n19_; have aw := n20_; have aL := n21_; have aB := n22_; have aQ := n23_; have HB := n24_; clear n1_ n2_ n3_ n4_ n5_ n6_ n7_ n8_ n9_ n10_ n11_ n12_ n13_ n14_ n15_ n16_ n17_ n18_ n19_ n20_ n21_ n22_ n23_ n24_; (try clear hb); (try clear hb2); (try clear hk); (try clear hi); (try clear ho0); (try clear ho1)) | ((with_reducible refine gate_dst (N := 20) rfl ?_); (try (refine gate_guard (by rfl) ?_; dsimp only)); refine boxE (N := 20) (cs := #[.slice none 0 0, .slice none 0 0, .int .i64 0]) (t := 36) ?_; intro gX hg l5 hbox hb; have n1_ := Rb1 az hb; have n2_ := Rb1 aA hb; have n3_ := Rb1 aI hb; have n4_ := Rb1 aJ hb; have n5_ := Rb1 aR hb; have n6_ := Rb1 aS hb; have n7_ := Rb1 aK hb; have n8_ := Rb1 aM hb; have n9_ := Rb1 bq hb; have n10_ := Rb1 br hb; have n11_ := Rb1 bj hb; have n12_ := Rb1 bk hb; have n13_ := Rb1 b2 hb; have n14_ := Rb1 b3 hb; have n15_ := Rb1 cq hb; have n16_ := Rb1 cr hb; have n17_ := Aside0.mk (blk_below (pK aa.out) hb); have n18_ := Aside0.mk (blk_below (pK av.out) hb); have n19_ := Aside0.mk (blk_below (pK au.out) hb); have n20_ := Aside0.mk (blk_below (pK aw.out) hb); have n21_ := Aside0.mk (blk_below (pK aL.out) hb); have n22_ := Aside0.mk (blk_below (pK aB.out) hb); have n23_ := Aside0.mk (blk_below (pK aQ.out) hb); have n24_ := Aside0.mk (below_step (pB HB.out) hb); have n25_ := Aside0.mk (hbox); have n27_ := Aside0.mk (pL HB.out hg); have n28_ := Aside0.mk (pNl aa.out hg); have n29_ := Aside0.mk (pNg aa.out hg); have n30_ := Aside0.mk (pNl av.out hg); have n31_ := Aside0.mk (pNg av.out hg); have n32_ := Aside0.mk (pNl au.out hg); have n33_ := Aside0.mk (pNg au.out hg); have n34_ := Aside0.mk (pNl aw.out hg); have n35_ := Aside0.mk (pNg aw.out hg); have n36_ := Aside0.mk (pNl aL.out hg); have n37_ := Aside0.mk (pNg aL.out hg); have n38_ := Aside0.mk (pNl aB.out hg); have n39_ := Aside0.mk (pNg aB.out hg); have n40_ := Aside0.mk (pNl aQ.out hg); have n41_ := Aside0.mk (pNg aQ.out hg); (try clear HO_1); clear az; clear aA; clear aI; clear aJ; clear aR; clear aS; clear aK; clear aM; clear bq; clear br; clear bj; clear bk; clear b2; clear b3; clear cq; clear cr; clear aa; clear av; clear au; clear aw; clear aL; clear aB; clear aQ; clear HB; have az := n1_; have aA := n2_; have aI := n3_; have aJ := n4_; have aR := n5_; have aS := n6_; have aK := n7_; have aM := n8_; have bq := n9_; have br := n10_; have bj := n11_; have bk := n12_; have b2 := n13_; have b3 := n14_; have cq := n15_; have cr := n16_; have aa := n17_; have av := n18_; have au := n19_; have aw := n20_; have aL := n21_; have aB := n22_; have aQ := n23_; have HB := n24_; have aU := n25_; have lB := n27_; have dM := n28_; have fI := n29_; have dN := n30_; have fJ := n31_; have dO := n32_; have fK := n33_; have dP := n34_; have fL := n35_; have dQ := n36_; have fM := n37_; have dR := n38_; have fN := n39_; have dS := n40_; have fO := n41_; clear n1_ n2_ n3_ n4_ n5_ n6_ n7_ n8_ n9_ n10_ n11_ n12_ n13_ n14_ n15_ n16_ n17_ n18_ n19_ n20_ n21_ n22_ n23_ n24_ n25_ n27_ n28_ n29_ n30_ n31_ n32_ n33_ n34_ n35_ n36_ n37_ n38_ n39_ n40_ n41_; clear hb hbox hg; obtain ⟨bp, bl, ig⟩ := Kd.R_slice cq.out; subst ig; have kF := fI.out; have kG := dM.out; have kH := fJ.out; have kI := dN.out; have kJ := fK.out; have kK := dO.out; have kL := fL.out; have kM := dP.out; have kN := fM.out; have kO := dQ.out; have kP := fN.out; have kQ := dR.out; have kR := fO.out; have kS := dS.out; obtain ⟨hcz173_0, i8, i9, ja, jb, jc⟩ := bk3 aU.out; obtain ⟨bu, bo, ih⟩ := Kd.R_slice cr.out; subst ih; obtain ⟨hcz175_0, jd, je, jf, jg, jh⟩ := bk3 aw.out) | ((with_reducible refine gate_callee (f := 26) rfl ?_); refine goesE (some 122) rfl rfl Try.func26 (by kernel_rfl) rfl #[.agg #[.slice bM ax.length bz, .slice bQ ay.length bD, .int .i64 (-1)], .int .i64 (-1)] rfl ?_; (with_reducible refine (arena_Give.calls k1 _ _ ax _ _ ay (-1) (-1) cd b9 ci cT _ ?side1 ?side2 ?side3 ?side4 A81.out).mono ?_); (case side1 => refine (Kd.R_reads' (e := 3) (base := w.heap.size) (ok := fun k_ => (((((((True ∧ some k_ ≠ (.slice ck cx.length cf : Value).ownBlock) ∧ some k_ ≠ (.slice cb cn.length b5 : Value).ownBlock) ∧ some k_ ≠ (.slice b7 bH.length b1 : Value).ownBlock) ∧ some k_ ≠ (.slice bO b0.length bK : Value).ownBlock) ∧ some k_ ≠ (.slice bA bn.length bs : Value).ownBlock) ∧ some k_ ≠ (.slice bx bP.length bt : Value).ownBlock) ∧ some k_ ≠ (.slice bp bJ.length bl : Value).ownBlock)) (n := ax.length) (c := bz) ?_).2.2; exact (Kd.pR ((Far3 aK.out aU.out (.slice bp bJ.length bl) (.slice bu bI.length bo) (.int .i64 bS))))); (case side2 => exact (Kd.R_reads' aK.out).2.1); (case side3 => refine (Kd.R_reads' (e := 4) (base := w.heap.size) (ok := fun k_ => (((((((True ∧ some k_ ≠ (.slice co cv.length cj : Value).ownBlock) ∧ some k_ ≠ (.slice ce cm.length ca : Value).ownBlock) ∧ some k_ ≠ (.slice cc cl.length b6 : Value).ownBlock) ∧ some k_ ≠ (.slice bR bZ.length bN : Value).ownBlock) ∧ some k_ ≠ (.slice bE bm.length bv : Value).ownBlock) ∧ some k_ ≠ (.slice bB bL.length bw : Value).ownBlock) ∧ some k_ ≠ (.slice bu bI.length bo : Value).ownBlock)) (n := ay.length) (c := bD) ?_).2.2; exact (Kd.pR ((Far3 aM.out aU.out (.slice bp bJ.length bl) (.slice bu bI.length bo) (.int .i64 bS))))); (case side4 => exact (Kd.R_reads' aM.out).2.1); rintro e l6 ⟨v641, l7, rfl, ho0, ho1, hb⟩; refine ⟨_, rfl, ?_⟩; have n1_ := Re2 (Far3 az.out aU.out (.slice bp bJ.length bl) (.slice bu bI.length bo) (.int .i64 bS)) ho0 hb; have n2_ := Re2 (Far3 aA.out aU.out (.slice bp bJ.length bl) (.slice bu bI.length bo) (.int .i64 bS)) ho1 hb; have n3_ := Re2 (Far3 aI.out aU.out (.slice bp bJ.length bl) (.slice bu bI.length bo) (.int .i64 bS)) ho0 hb; have n4_ := Re2 (Far3 aJ.out aU.out (.slice bp bJ.length bl) (.slice bu bI.length bo) (.int .i64 bS)) ho1 hb; have n5_ := Re2 (Far3 aR.out aU.out (.slice bp bJ.length bl) (.slice bu bI.length bo) (.int .i64 bS)) ho0 hb; have n6_ := Re2 (Far3 aS.out aU.out (.slice bp bJ.length bl) (.slice bu bI.length bo) (.int .i64 bS)) ho1 hb; have n7_ := Re2 (Far3 aK.out aU.out (.slice bp bJ.length bl) (.slice bu bI.length bo) (.int .i64 bS)) ho0 hb; have n8_ := Re2 (Far3 aM.out aU.out (.slice bp bJ.length bl) (.slice bu bI.length bo) (.int .i64 bS)) ho1 hb; have n9_ := Re2 (Far3 bq.out aU.out (.slice bp bJ.length bl) (.slice bu bI.length bo) (.int .i64 bS)) ho0 hb; have n10_ := Re2 (Far3 br.out aU.out (.slice bp bJ.length bl) (.slice bu bI.length bo) (.int .i64 bS)) ho1 hb; have n11_ := Re2 (Far3 bj.out aU.out (.slice bp bJ.length bl) (.slice bu bI.length bo) (.int .i64 bS)) ho0 hb; have n12_ := Re2 (Far3 bk.out aU.out (.slice bp bJ.length bl) (.slice bu bI.length bo) (.int .i64 bS)) ho1 hb; have n13_ := Re2 (Far3 b2.out aU.out (.slice bp bJ.length bl) (.slice bu bI.length bo) (.int .i64 bS)) ho0 hb; have n14_ := Re2 (Far3 b3.out aU.out (.slice bp bJ.length bl) (.slice bu bI.length bo) (.int .i64 bS)) ho1 hb; have n15_ := Re2 (Far3 cq.out aU.out (.slice bp bJ.length bl) (.slice bu bI.length bo) (.int .i64 bS)) ho0 hb; have n16_ := Re2 (Far3 cr.out aU.out (.slice bp bJ.length bl) (.slice bu bI.length bo) (.int .i64 bS)) ho1 hb; have n17_ := Aside0.mk (Kd.R_lower (Kd.R_new' (Kd.R_new' (Kd.R_new' (Kd.R_new' (Kd.R_new' (Kd.R_new' (Kd.R_new' (Kd.R_new' ho0 (Kd.R_lt (Kd.pR ((Far3 az.out aU.out (.slice bp bJ.length bl) (.slice bu bI.length bo) (.int .i64 bS)))))) (Kd.R_lt (Kd.pR ((Far3 aI.out aU.out (.slice bp bJ.length bl) (.slice bu bI.length bo) (.int .i64 bS)))))) (Kd.R_lt (Kd.pR ((Far3 aR.out aU.out (.slice bp bJ.length bl) (.slice bu bI.length bo) (.int .i64 bS)))))) (Kd.R_lt (Kd.pR ((Far3 aK.out aU.out (.slice bp bJ.length bl) (.slice bu bI.length bo) (.int .i64 bS)))))) (Kd.R_lt (Kd.pR ((Far3 bq.out aU.out (.slice bp bJ.length bl) (.slice bu bI.length bo) (.int .i64 bS)))))) (Kd.R_lt (Kd.pR ((Far3 bj.out aU.out (.slice bp bJ.length bl) (.slice bu bI.length bo) (.int .i64 bS)))))) (Kd.R_lt (Kd.pR ((Far3 b2.out aU.out (.slice bp bJ.length bl) (.slice bu bI.length bo) (.int .i64 bS)))))) (Kd.R_lt (Kd.pR ((Far3 cq.out aU.out (.slice bp bJ.length bl) (.slice bu bI.length bo) (.int .i64 bS)))))) (below_size (pB HB.out))); have n18_ := Aside0.mk (Kd.R_lower (Kd.R_new' (Kd.R_new' (Kd.R_new' (Kd.R_new' (Kd.R_new' (Kd.R_new' (Kd.R_new' (Kd.R_new' ho1 (Kd.R_lt (Kd.pR ((Far3 aA.out aU.out (.slice bp bJ.length bl) (.slice bu bI.length bo) (.int .i64 bS)))))) (Kd.R_lt (Kd.pR ((Far3 aJ.out aU.out (.slice bp bJ.length bl) (.slice bu bI.length bo) (.int .i64 bS)))))) (Kd.R_lt (Kd.pR ((Far3 aS.out aU.out (.slice bp bJ.length bl) (.slice bu bI.length bo) (.int .i64 bS)))))) (Kd.R_lt (Kd.pR ((Far3 aM.out aU.out (.slice bp bJ.length bl) (.slice bu bI.length bo) (.int .i64 bS)))))) (Kd.R_lt (Kd.pR ((Far3 br.out aU.out (.slice bp bJ.length bl) (.slice bu bI.length bo) (.int .i64 bS)))))) (Kd.R_lt (Kd.pR ((Far3 bk.out aU.out (.slice bp bJ.length bl) (.slice bu bI.length bo) (.int .i64 bS)))))) (Kd.R_lt (Kd.pR ((Far3 b3.out aU.out (.slice bp bJ.length bl) (.slice bu bI.length bo) (.int .i64 bS)))))) (Kd.R_lt (Kd.pR ((Far3 cr.out aU.out (.slice bp bJ.length bl) (.slice bu bI.length bo) (.int .i64 bS)))))) (below_size (pB HB.out))); have n19_ := Aside0.mk (blk_below (g := cX) (o := .cells #[.slice ck cx.length cf, .slice co cv.length cj, .int .i64 cL] 36 (0, 0)) (by (with_reducible repeat (first | refine blk_drewN ?_ _ | refine blk_drew ?_ | refine blk_alloc ?_ _)); refine blk_far ?_ dM.out _; (with_reducible repeat (first | refine blk_drewN ?_ _ | refine blk_drew ?_ | refine blk_alloc ?_ _)); refine blk_far ?_ dM.out _; (with_reducible repeat (first | refine blk_drewN ?_ _ | refine blk_drew ?_ | refine blk_alloc ?_ _)); refine blk_far ?_ dM.out _; (with_reducible repeat (first | refine blk_drewN ?_ _ | refine blk_drew ?_ | refine blk_alloc ?_ _)); exact aa.out) hb); have n20_ := Aside0.mk (blk_below (g := dn) (o := .cells #[.slice cb cn.length b5, .slice ce cm.length ca, .int .i64 cF] 36 (0, 0)) (by (with_reducible repeat (first | refine blk_drewN ?_ _ | refine blk_drew ?_ | refine blk_alloc ?_ _)); refine blk_far ?_ dN.out _; (with_reducible repeat (first | refine blk_drewN ?_ _ | refine blk_drew ?_ | refine blk_alloc ?_ _)); refine blk_far ?_ dN.out _; (with_reducible repeat (first | refine blk_drewN ?_ _ | refine blk_drew ?_ | refine blk_alloc ?_ _)); refine blk_far ?_ dN.out _; (with_reducible repeat (first | refine blk_drewN ?_ _ | refine blk_drew ?_ | refine blk_alloc ?_ _)); exact av.out) hb); have n21_ := Aside0.mk (blk_below (g := dq) (o := .cells #[.slice b7 bH.length b1, .slice cc cl.length b6, .int .i64 cD] 36 (0, 0)) (by (with_reducible repeat (first | refine blk_drewN ?_ _ | refine blk_drew ?_ | refine blk_alloc ?_ _)); refine blk_far ?_ dO.out _; (with_reducible repeat (first | refine blk_drewN ?_ _ | refine blk_drew ?_ | refine blk_alloc ?_ _)); refine blk_far ?_ dO.out _; (with_reducible repeat (first | refine blk_drewN ?_ _ | refine blk_drew ?_ | refine blk_alloc ?_ _)); refine blk_far ?_ dO.out _; (with_reducible repeat (first | refine blk_drewN ?_ _ | refine blk_drew ?_ | refine blk_alloc ?_ _)); exact au.out) hb); have n22_ := Aside0.mk (blk_below (g := d8) (o := .cells #[.slice bM ax.length bz, .slice bQ ay.length bD, .int .i64 (-1)] 36 (0, 0)) (by (with_reducible repeat (first | refine blk_drewN ?_ _ | refine blk_drew ?_ | refine blk_alloc ?_ _)); refine blk_far ?_ dP.out _; (with_reducible repeat (first | refine blk_drewN ?_ _ | refine blk_drew ?_ | refine blk_alloc ?_ _)); refine blk_far ?_ dP.out _; (with_reducible repeat (first | refine blk_drewN ?_ _ | refine blk_drew ?_ | refine blk_alloc ?_ _)); refine blk_far ?_ dP.out _; (with_reducible repeat (first | refine blk_drewN ?_ _ | refine blk_drew ?_ | refine blk_alloc ?_ _)); exact aw.out) hb); have n23_ := Aside0.mk (blk_below (g := ew) (o := .cells #[.slice bO b0.length bK, .slice bR bZ.length bN, .int .i64 ch] 36 (0, 0)) (by (with_reducible repeat (first | refine blk_drewN ?_ _ | refine blk_drew ?_ | refine blk_alloc ?_ _)); refine blk_far ?_ dQ.out _; (with_reducible repeat (first | refine blk_drewN ?_ _ | refine blk_drew ?_ | refine blk_alloc ?_ _)); refine blk_far ?_ dQ.out _; (with_reducible repeat (first | refine blk_drewN ?_ _ | refine blk_drew ?_ | refine blk_alloc ?_ _)); refine blk_far ?_ dQ.out _; (with_reducible repeat (first | refine blk_drewN ?_ _ | refine blk_drew ?_ | refine blk_alloc ?_ _)); exact aL.out) hb); have n24_ := Aside0.mk (blk_below (g := ex) (o := .cells #[.slice bA bn.length bs, .slice bE bm.length bv, .int .i64 bF] 36 (0, 0)) (by (with_reducible repeat (first | refine blk_drewN ?_ _ | refine blk_drew ?_ | refine blk_alloc ?_ _)); refine blk_far ?_ dR.out _; (with_reducible repeat (first | refine blk_drewN ?_ _ | refine blk_drew ?_ | refine blk_alloc ?_ _)); refine blk_far ?_ dR.out _; (with_reducible repeat (first | refine blk_drewN ?_ _ | refine blk_drew ?_ | refine blk_alloc ?_ _)); refine blk_far ?_ dR.out _; (with_reducible repeat (first | refine blk_drewN ?_ _ | refine blk_drew ?_ | refine blk_alloc ?_ _)); exact aB.out) hb); have n25_ := Aside0.mk (blk_below (g := e9) (o := .cells #[.slice bx bP.length bt, .slice bB bL.length bw, .int .i64 bW] 36 (0, 0)) (by (with_reducible repeat (first | refine blk_drewN ?_ _ | refine blk_drew ?_ | refine blk_alloc ?_ _)); refine blk_far ?_ dS.out _; (with_reducible repeat (first | refine blk_drewN ?_ _ | refine blk_drew ?_ | refine blk_alloc ?_ _)); refine blk_far ?_ dS.out _; (with_reducible repeat (first | refine blk_drewN ?_ _ | refine blk_drew ?_ | refine blk_alloc ?_ _)); refine blk_far ?_ dS.out _; (with_reducible repeat (first | refine blk_drewN ?_ _ | refine blk_drew ?_ | refine blk_alloc ?_ _)); exact aQ.out) hb); have n26_ := Aside0.mk (blk_below (g := gX) (o := .cells #[.slice bp bJ.length bl, .slice bu bI.length bo, .int .i64 bS] 36 (0, 0)) (by (with_reducible repeat (first | refine blk_drewN ?_ _ | refine blk_drew ?_ | refine blk_alloc ?_ _)); refine blk_put (cs := #[.slice bp bJ.length bl, .slice bu bI.length bo, .int .i64 0]) ?_ 2 _ rfl; (with_reducible repeat (first | refine blk_drewN ?_ _ | refine blk_drew ?_ | refine blk_alloc ?_ _)); refine blk_put (cs := #[.slice bp bJ.length bl, .slice none 0 0, .int .i64 0]) ?_ 1 _ rfl; (with_reducible repeat (first | refine blk_drewN ?_ _ | refine blk_drew ?_ | refine blk_alloc ?_ _)); refine blk_put (cs := #[.slice none 0 0, .slice none 0 0, .int .i64 0]) ?_ 0 _ rfl; (with_reducible repeat (first | refine blk_drewN ?_ _ | refine blk_drew ?_ | refine blk_alloc ?_ _)); exact aU.out) hb); have n27_ := Aside0.mk (below_step (pB HB.out) hb); (try clear HO_1); clear az; clear aA; clear aI; clear aJ; clear aR; clear aS; clear aK; clear aM; clear bq; clear br; clear bj; clear bk; clear b2; clear b3; clear cq; clear cr; clear aa; clear av; clear au; clear aw; clear aL; clear aB; clear aQ; clear aU; clear HB; have az := n1_; have aA := n2_; have aI := n3_; have aJ := n4_; have aR := n5_; have aS := n6_; have aK := n7_; have aM := n8_; have bq := n9_; have br := n10_; have bj := n11_; have bk := n12_; have b2 := n13_; have b3 := n14_; have cq := n15_; have cr := n16_; have cO := n17_; have cP := n18_; have aa := n19_; have av := n20_; have au := n21_; have aw := n22_; have aL := n23_; have aB := n24_; have aQ := n25_; have aU := n26_; have HB := n27_; clear n1_ n2_ n3_ n4_ n5_ n6_ n7_ n8_ n9_ n10_ n11_ n12_ n13_ n14_ n15_ n16_ n17_ n18_ n19_ n20_ n21_ n22_ n23_ n24_ n25_ n26_ n27_; (try clear hb); (try clear hb2); (try clear hk); (try clear hi); (try clear ho0); (try clear ho1)) | ((with_reducible refine gate_dst (N := 22) rfl ?_); (try (refine gate_guard (by rfl) ?_; dsimp only)); refine boxE (N := 22) (cs := #[.slice none 0 0, .slice none 0 0, .int .i64 0]) (t := 36) ?_; intro ii hg l8 hbox hb; have n1_ := Rb1 az hb; have n2_ := Rb1 aA hb; have n3_ := Rb1 aI hb; have n4_ := Rb1 aJ hb; have n5_ := Rb1 aR hb; have n6_ := Rb1 aS hb; have n7_ := Rb1 aK hb; have n8_ := Rb1 aM hb; have n9_ := Rb1 bq hb; have n10_ := Rb1 br hb; have n11_ := Rb1 bj hb; have n12_ := Rb1 bk hb; have n13_ := Rb1 b2 hb; have n14_ := Rb1 b3 hb; have n15_ := Rb1 cq hb; have n16_ := Rb1 cr hb; have n17_ := Rb1 cO hb; have n18_ := Rb1 cP hb; have n19_ := Aside0.mk (blk_below (pK aa.out) hb); have n20_ := Aside0.mk (blk_below (pK av.out) hb); have n21_ := Aside0.mk (blk_below (pK au.out) hb); have n22_ := Aside0.mk (blk_below (pK aw.out) hb); have n23_ := Aside0.mk (blk_below (pK aL.out) hb); have n24_ := Aside0.mk (blk_below (pK aB.out) hb); have n25_ := Aside0.mk (blk_below (pK aQ.out) hb); have n26_ := Aside0.mk (blk_below (pK aU.out) hb); have n27_ := Aside0.mk (below_step (pB HB.out) hb); have n28_ := Aside0.mk (hbox); have n30_ := Aside0.mk (pL HB.out hg); have n31_ := Aside0.mk (pNl aa.out hg); have n32_ := Aside0.mk (pNg aa.out hg); have n33_ := Aside0.mk (pNl av.out hg); have n34_ := Aside0.mk (pNg av.out hg); have n35_ := Aside0.mk (pNl au.out hg); have n36_ := Aside0.mk (pNg au.out hg); have n37_ := Aside0.mk (pNl aw.out hg); have n38_ := Aside0.mk (pNg aw.out hg); have n39_ := Aside0.mk (pNl aL.out hg); have n40_ := Aside0.mk (pNg aL.out hg); have n41_ := Aside0.mk (pNl aB.out hg); have n42_ := Aside0.mk (pNg aB.out hg); have n43_ := Aside0.mk (pNl aQ.out hg); have n44_ := Aside0.mk (pNg aQ.out hg); have n45_ := Aside0.mk (pNl aU.out hg); have n46_ := Aside0.mk (pNg aU.out hg); (try clear HO_1); clear az; clear aA; clear aI; clear aJ; clear aR; clear aS; clear aK; clear aM; clear bq; clear br; clear bj; clear bk; clear b2; clear b3; clear cq; clear cr; clear cO; clear cP; clear aa; clear av; clear au; clear aw; clear aL; clear aB; clear aQ; clear aU; clear HB; have az := n1_; have aA := n2_; have aI := n3_; have aJ := n4_; have aR := n5_; have aS := n6_; have aK := n7_; have aM := n8_; have bq := n9_; have br := n10_; have bj := n11_; have bk := n12_; have b2 := n13_; have b3 := n14_; have cq := n15_; have cr := n16_; have cO := n17_; have cP := n18_; have aa := n19_; have av := n20_; have au := n21_; have aw := n22_; have aL := n23_; have aB := n24_; have aQ := n25_; have aU := n26_; have HB := n27_; have bG := n28_; have lC := n30_; have dT := n31_; have fP := n32_; have dU := n33_; have fQ := n34_; have dV := n35_; have fR := n36_; have dW := n37_; have fS := n38_; have dX := n39_; have fT := n40_; have dY := n41_; have fU := n42_; have dZ := n43_; have fV := n44_; have d0 := n45_; have fW := n46_; clear n1_ n2_ n3_ n4_ n5_ n6_ n7_ n8_ n9_ n10_ n11_ n12_ n13_ n14_ n15_ n16_ n17_ n18_ n19_ n20_ n21_ n22_ n23_ n24_ n25_ n26_ n27_ n28_ n30_ n31_ n32_ n33_ n34_ n35_ n36_ n37_ n38_ n39_ n40_ n41_ n42_ n43_ n44_ n45_ n46_; clear hb hbox hg; obtain ⟨bV, bT, ij⟩ := Kd.R_slice cO.out; subst ij; have kT := fP.out; have kU := dT.out; have kV := fQ.out; have kW := dU.out; have kX := fR.out; have kY := dV.out; have kZ := fS.out; have k0 := dW.out; have k2 := fT.out; have k3 := dX.out; have k4 := fU.out; have k5 := dY.out; have k6 := fV.out; have k7 := dZ.out; have k8 := fW.out; have k9 := d0.out; obtain ⟨hcz187_0, ji, jj, jk, jl, jm⟩ := bk3 bG.out; obtain ⟨bX, bU, ik⟩ := Kd.R_slice cP.out; subst ik; obtain ⟨hcz189_0, jn, jo, jp, jq, jr⟩ := bk3 aw.out) | ((with_reducible refine gate_callee (f := 26) rfl ?_); refine goesE (some 127) rfl rfl Try.func26 (by kernel_rfl) rfl #[.agg #[.slice bM ax.length bz, .slice bQ ay.length bD, .int .i64 (-1)], .int .i64 0] rfl ?_; (with_reducible refine (arena_Give.calls k1 _ _ ax _ _ ay (-1) 0 cI cH cN c5 _ ?side1 ?side2 ?side3 ?side4 A82.out).mono ?_); (case side1 => refine (Kd.R_reads' (e := 3) (base := w.heap.size) (ok := fun k_ => ((((((((True ∧ some k_ ≠ (.slice ck cx.length cf : Value).ownBlock) ∧ some k_ ≠ (.slice cb cn.length b5 : Value).ownBlock) ∧ some k_ ≠ (.slice b7 bH.length b1 : Value).ownBlock) ∧ some k_ ≠ (.slice bO b0.length bK : Value).ownBlock) ∧ some k_ ≠ (.slice bA bn.length bs : Value).ownBlock) ∧ some k_ ≠ (.slice bx bP.length bt : Value).ownBlock) ∧ some k_ ≠ (.slice bp bJ.length bl : Value).ownBlock) ∧ some k_ ≠ (.slice bV cd.length bT : Value).ownBlock)) (n := ax.length) (c := bz) ?_).2.2; exact (Kd.pR ((Far3 aK.out bG.out (.slice bV cd.length bT) (.slice bX b9.length bU) (.int .i64 ci))))); (case side2 => exact (Kd.R_reads' aK.out).2.1); (case side3 => refine (Kd.R_reads' (e := 4) (base := w.heap.size) (ok := fun k_ => ((((((((True ∧ some k_ ≠ (.slice co cv.length cj : Value).ownBlock) ∧ some k_ ≠ (.slice ce cm.length ca : Value).ownBlock) ∧ some k_ ≠ (.slice cc cl.length b6 : Value).ownBlock) ∧ some k_ ≠ (.slice bR bZ.length bN : Value).ownBlock) ∧ some k_ ≠ (.slice bE bm.length bv : Value).ownBlock) ∧ some k_ ≠ (.slice bB bL.length bw : Value).ownBlock) ∧ some k_ ≠ (.slice bu bI.length bo : Value).ownBlock) ∧ some k_ ≠ (.slice bX b9.length bU : Value).ownBlock)) (n := ay.length) (c := bD) ?_).2.2; exact (Kd.pR ((Far3 aM.out bG.out (.slice bV cd.length bT) (.slice bX b9.length bU) (.int .i64 ci))))); (case side4 => exact (Kd.R_reads' aM.out).2.1); rintro e l9 ⟨v650, ma, rfl, ho0, ho1, hb⟩; refine ⟨_, rfl, ?_⟩; have n7_ := Re2 (Far3 aK.out bG.out (.slice bV cd.length bT) (.slice bX b9.length bU) (.int .i64 ci)) ho0 hb; have n8_ := Re2 (Far3 aM.out bG.out (.slice bV cd.length bT) (.slice bX b9.length bU) (.int .i64 ci)) ho1 hb; have n11_ := Re2 (Far3 bj.out bG.out (.slice bV cd.length bT) (.slice bX b9.length bU) (.int .i64 ci)) ho0 hb; have n12_ := Re2 (Far3 bk.out bG.out (.slice bV cd.length bT) (.slice bX b9.length bU) (.int .i64 ci)) ho1 hb; have n19_ := Aside0.mk (Kd.R_lower (Kd.R_new' (Kd.R_new' (Kd.R_new' (Kd.R_new' (Kd.R_new' (Kd.R_new' (Kd.R_new' (Kd.R_new' (Kd.R_new' ho0 (Kd.R_lt (Kd.pR ((Far3 az.out bG.out (.slice bV cd.length bT) (.slice bX b9.length bU) (.int .i64 ci)))))) (Kd.R_lt (Kd.pR ((Far3 aI.out bG.out (.slice bV cd.length bT) (.slice bX b9.length bU) (.int .i64 ci)))))) (Kd.R_lt (Kd.pR ((Far3 aR.out bG.out (.slice bV cd.length bT) (.slice bX b9.length bU) (.int .i64 ci)))))) (Kd.R_lt (Kd.pR ((Far3 aK.out bG.out (.slice bV cd.length bT) (.slice bX b9.length bU) (.int .i64 ci)))))) (Kd.R_lt (Kd.pR ((Far3 bq.out bG.out (.slice bV cd.length bT) (.slice bX b9.length bU) (.int .i64 ci)))))) (Kd.R_lt (Kd.pR ((Far3 bj.out bG.out (.slice bV cd.length bT) (.slice bX b9.length bU) (.int .i64 ci)))))) (Kd.R_lt (Kd.pR ((Far3 b2.out bG.out (.slice bV cd.length bT) (.slice bX b9.length bU) (.int .i64 ci)))))) (Kd.R_lt (Kd.pR ((Far3 cq.out bG.out (.slice bV cd.length bT) (.slice bX b9.length bU) (.int .i64 ci)))))) (Kd.R_lt (Kd.pR ((Far3 cO.out bG.out (.slice bV cd.length bT) (.slice bX b9.length bU) (.int .i64 ci)))))) (below_size (pB HB.out))); have n20_ := Aside0.mk (Kd.R_lower (Kd.R_new' (Kd.R_new' (Kd.R_new' (Kd.R_new' (Kd.R_new' (Kd.R_new' (Kd.R_new' (Kd.R_new' (Kd.R_new' ho1 (Kd.R_lt (Kd.pR ((Far3 aA.out bG.out (.slice bV cd.length bT) (.slice bX b9.length bU) (.int .i64 ci)))))) (Kd.R_lt (Kd.pR ((Far3 aJ.out bG.out (.slice bV cd.length bT) (.slice bX b9.length bU) (.int .i64 ci)))))) (Kd.R_lt (Kd.pR ((Far3 aS.out bG.out (.slice bV cd.length bT) (.slice bX b9.length bU) (.int .i64 ci)))))) (Kd.R_lt (Kd.pR ((Far3 aM.out bG.out (.slice bV cd.length bT) (.slice bX b9.length bU) (.int .i64 ci)))))) (Kd.R_lt (Kd.pR ((Far3 br.out bG.out (.slice bV cd.length bT) (.slice bX b9.length bU) (.int .i64 ci)))))) (Kd.R_lt (Kd.pR ((Far3 bk.out bG.out (.slice bV cd.length bT) (.slice bX b9.length bU) (.int .i64 ci)))))) (Kd.R_lt (Kd.pR ((Far3 b3.out bG.out (.slice bV cd.length bT) (.slice bX b9.length bU) (.int .i64 ci)))))) (Kd.R_lt (Kd.pR ((Far3 cr.out bG.out (.slice bV cd.length bT) (.slice bX b9.length bU) (.int .i64 ci)))))) (Kd.R_lt (Kd.pR ((Far3 cP.out bG.out (.slice bV cd.length bT) (.slice bX b9.length bU) (.int .i64 ci)))))) (below_size (pB HB.out))); have n21_ := Aside0.mk (blk_below (g := cX) (o := .cells #[.slice ck cx.length cf, .slice co cv.length cj, .int .i64 cL] 36 (0, 0)) (by (with_reducible repeat (first | refine blk_drewN ?_ _ | refine blk_drew ?_ | refine blk_alloc ?_ _)); refine blk_far ?_ dT.out _; (with_reducible repeat (first | refine blk_drewN ?_ _ | refine blk_drew ?_ | refine blk_alloc ?_ _)); refine blk_far ?_ dT.out _; (with_reducible repeat (first | refine blk_drewN ?_ _ | refine blk_drew ?_ | refine blk_alloc ?_ _)); refine blk_far ?_ dT.out _; (with_reducible repeat (first | refine blk_drewN ?_ _ | refine blk_drew ?_ | refine blk_alloc ?_ _)); exact aa.out) hb); have n22_ := Aside0.mk (blk_below (g := dn) (o := .cells #[.slice cb cn.length b5, .slice ce cm.length ca, .int .i64 cF] 36 (0, 0)) (by (with_reducible repeat (first | refine blk_drewN ?_ _ | refine blk_drew ?_ | refine blk_alloc ?_ _)); refine blk_far ?_ dU.out _; (with_reducible repeat (first | refine blk_drewN ?_ _ | refine blk_drew ?_ | refine blk_alloc ?_ _)); refine blk_far ?_ dU.out _; (with_reducible repeat (first | refine blk_drewN ?_ _ | refine blk_drew ?_ | refine blk_alloc ?_ _)); refine blk_far ?_ dU.out _; (with_reducible repeat (first | refine blk_drewN ?_ _ | refine blk_drew ?_ | refine blk_alloc ?_ _)); exact av.out) hb); have n23_ := Aside0.mk (blk_below (g := dq) (o := .cells #[.slice b7 bH.length b1, .slice cc cl.length b6, .int .i64 cD] 36 (0, 0)) (by (with_reducible repeat (first | refine blk_drewN ?_ _ | refine blk_drew ?_ | refine blk_alloc ?_ _)); refine blk_far ?_ dV.out _; (with_reducible repeat (first | refine blk_drewN ?_ _ | refine blk_drew ?_ | refine blk_alloc ?_ _)); refine blk_far ?_ dV.out _; (with_reducible repeat (first | refine blk_drewN ?_ _ | refine blk_drew ?_ | refine blk_alloc ?_ _)); refine blk_far ?_ dV.out _; (with_reducible repeat (first | refine blk_drewN ?_ _ | refine blk_drew ?_ | refine blk_alloc ?_ _)); exact au.out) hb); have n24_ := Aside0.mk (blk_below (g := d8) (o := .cells #[.slice bM ax.length bz, .slice bQ ay.length bD, .int .i64 (-1)] 36 (0, 0)) (by (with_reducible repeat (first | refine blk_drewN ?_ _ | refine blk_drew ?_ | refine blk_alloc ?_ _)); refine blk_far ?_ dW.out _; (with_reducible repeat (first | refine blk_drewN ?_ _ | refine blk_drew ?_ | refine blk_alloc ?_ _)); refine blk_far ?_ dW.out _; (with_reducible repeat (first | refine blk_drewN ?_ _ | refine blk_drew ?_ | refine blk_alloc ?_ _)); refine blk_far ?_ dW.out _; (with_reducible repeat (first | refine blk_drewN ?_ _ | refine blk_drew ?_ | refine blk_alloc ?_ _)); exact aw.out) hb); have n25_ := Aside0.mk (blk_below (g := ew) (o := .cells #[.slice bO b0.length bK, .slice bR bZ.length bN, .int .i64 ch] 36 (0, 0)) (by (with_reducible repeat (first | refine blk_drewN ?_ _ | refine blk_drew ?_ | refine blk_alloc ?_ _)); refine blk_far ?_ dX.out _; (with_reducible repeat (first | refine blk_drewN ?_ _ | refine blk_drew ?_ | refine blk_alloc ?_ _)); refine blk_far ?_ dX.out _; (with_reducible repeat (first | refine blk_drewN ?_ _ | refine blk_drew ?_ | refine blk_alloc ?_ _)); refine blk_far ?_ dX.out _; (with_reducible repeat (first | refine blk_drewN ?_ _ | refine blk_drew ?_ | refine blk_alloc ?_ _)); exact aL.out) hb); have n26_ := Aside0.mk (blk_below (g := ex) (o := .cells #[.slice bA bn.length bs, .slice bE bm.length bv, .int .i64 bF] 36 (0, 0)) (by (with_reducible repeat (first | refine blk_drewN ?_ _ | refine blk_drew ?_ | refine blk_alloc ?_ _)); refine blk_far ?_ dY.out _; (with_reducible repeat (first | refine blk_drewN ?_ _ | refine blk_drew ?_ | refine blk_alloc ?_ _)); refine blk_far ?_ dY.out _; (with_reducible repeat (first | refine blk_drewN ?_ _ | refine blk_drew ?_ | refine blk_alloc ?_ _)); refine blk_far ?_ dY.out _; (with_reducible repeat (first | refine blk_drewN ?_ _ | refine blk_drew ?_ | refine blk_alloc ?_ _)); exact aB.out) hb); have n27_ := Aside0.mk (blk_below (g := e9) (o := .cells #[.slice bx bP.length bt, .slice bB bL.length bw, .int .i64 bW] 36 (0, 0)) (by (with_reducible repeat (first | refine blk_drewN ?_ _ | refine blk_drew ?_ | refine blk_alloc ?_ _)); refine blk_far ?_ dZ.out _; (with_reducible repeat (first | refine blk_drewN ?_ _ | refine blk_drew ?_ | refine blk_alloc ?_ _)); refine blk_far ?_ dZ.out _; (with_reducible repeat (first | refine blk_drewN ?_ _ | refine blk_drew ?_ | refine blk_alloc ?_ _)); refine blk_far ?_ dZ.out _; (with_reducible repeat (first | refine blk_drewN ?_ _ | refine blk_drew ?_ | refine blk_alloc ?_ _)); exact aQ.out) hb); have n28_ := Aside0.mk (blk_below (g := gX) (o := .cells #[.slice bp bJ.length bl, .slice bu bI.length bo, .int .i64 bS] 36 (0, 0)) (by (with_reducible repeat (first | refine blk_drewN ?_ _ | refine blk_drew ?_ | refine blk_alloc ?_ _)); refine blk_far ?_ d0.out _; (with_reducible repeat (first | refine blk_drewN ?_ _ | refine blk_drew ?_ | refine blk_alloc ?_ _)); refine blk_far ?_ d0.out _; (with_reducible repeat (first | refine blk_drewN ?_ _ | refine blk_drew ?_ | refine blk_alloc ?_ _)); refine blk_far ?_ d0.out _; (with_reducible repeat (first | refine blk_drewN ?_ _ | refine blk_drew ?_ | refine blk_alloc ?_ _)); exact aU.out) hb); have n29_ := Aside0.mk (blk_below (g := ii) (o := .cells #[.slice bV cd.length bT, .slice bX b9.length bU, .int .i64 ci] 36 (0, 0)) (by (with_reducible repeat (first | refine blk_drewN ?_ _ | refine blk_drew ?_ | refine blk_alloc ?_ _)); refine blk_put (cs := #[.slice bV cd.length bT, .slice bX b9.length bU, .int .i64 0]) ?_ 2 _ rfl; (with_reducible repeat (first | refine blk_drewN ?_ _ | refine blk_drew ?_ | refine blk_alloc ?_ _)); refine blk_put (cs := #[.slice bV cd.length bT, .slice none 0 0, .int .i64 0]) ?_ 1 _ rfl; (with_reducible repeat (first | refine blk_drewN ?_ _ | refine blk_drew ?_ | refine blk_alloc ?_ _)); refine blk_put (cs := #[.slice none 0 0, .slice none 0 0, .int .i64 0]) ?_ 0 _ rfl; (with_reducible repeat (first | refine blk_drewN ?_ _ | refine blk_drew ?_ | refine blk_alloc ?_ _)); exact bG.out) hb); have n30_ := Aside0.mk (below_step (pB HB.out) hb); (try clear HO_1); (try clear az); (try clear aA); (try clear aI); (try clear aJ); (try clear aR); (try clear aS); clear aK; clear aM; (try clear bq); (try clear br); clear bj; clear bk; (try clear b2); (try clear b3); (try clear cq); (try clear cr); (try clear cO); (try clear cP); clear aa; clear av; clear au; clear aw; clear aL; clear aB; clear aQ; clear aU; clear bG; clear HB; have aK := n7_; have aM := n8_; have bj := n11_; have bk := n12_; have cy := n19_; have cz := n20_; have aa := n21_; have av := n22_; have au := n23_; have aw := n24_; have aL := n25_; have aB := n26_; have aQ := n27_; have aU := n28_; have bG := n29_; have HB := n30_; clear n7_ n8_ n11_ n12_ n19_ n20_ n21_ n22_ n23_ n24_ n25_ n26_ n27_ n28_ n29_ n30_; (try clear hb); (try clear hb2); (try clear hk); (try clear hi); (try clear ho0); (try clear ho1)) | ((with_reducible refine gate_dst (N := 24) rfl ?_); (try (refine gate_guard (by rfl) ?_; dsimp only)); refine boxE (N := 24) (cs := #[.slice none 0 0, .slice none 0 0, .int .i64 0]) (t := 36) ?_; intro il hg mb hbox hb; have n7_ := Rb1 aK hb; have n8_ := Rb1 aM hb; have n11_ := Rb1 bj hb; have n12_ := Rb1 bk hb; have n19_ := Rb1 cy hb; have n20_ := Rb1 cz hb; have n23_ := Aside0.mk (blk_below (pK au.out) hb); have n24_ := Aside0.mk (blk_below (pK aw.out) hb); have n26_ := Aside0.mk (blk_below (pK aB.out) hb); have n30_ := Aside0.mk (below_step (pB HB.out) hb); have n31_ := Aside0.mk (hbox); have n33_ := Aside0.mk (pL HB.out hg); have n34_ := Aside0.mk (pNl aa.out hg); have n35_ := Aside0.mk (pNg aa.out hg); have n36_ := Aside0.mk (pNl av.out hg); have n37_ := Aside0.mk (pNg av.out hg); have n38_ := Aside0.mk (pNl au.out hg); have n39_ := Aside0.mk (pNg au.out hg); have n40_ := Aside0.mk (pNl aw.out hg); have n41_ := Aside0.mk (pNg aw.out hg); have n42_ := Aside0.mk (pNl aL.out hg); have n43_ := Aside0.mk (pNg aL.out hg); have n44_ := Aside0.mk (pNl aB.out hg); have n45_ := Aside0.mk (pNg aB.out hg); have n46_ := Aside0.mk (pNl aQ.out hg); have n47_ := Aside0.mk (pNg aQ.out hg); have n48_ := Aside0.mk (pNl aU.out hg); have n49_ := Aside0.mk (pNg aU.out hg); have n50_ := Aside0.mk (pNl bG.out hg); have n51_ := Aside0.mk (pNg bG.out hg); (try clear HO_1); (try clear az); (try clear aA); (try clear aI); (try clear aJ); (try clear aR); (try clear aS); clear aK; clear aM; (try clear bq); (try clear br); clear bj; clear bk; (try clear b2); (try clear b3); (try clear cq); (try clear cr); (try clear cO); (try clear cP); clear cy; clear cz; (try clear aa); (try clear av); clear au; clear aw; (try clear aL); clear aB; (try clear aQ); (try clear aU); (try clear bG); clear HB; have aK := n7_; have aM := n8_; have bj := n11_; have bk := n12_; have cy := n19_; have cz := n20_; have au := n23_; have aw := n24_; have aB := n26_; have HB := n30_; have ct := n31_; have lD := n33_; have fX := n34_; have fY := n35_; have fZ := n36_; have f3 := n37_; have d1 := n38_; have f4 := n39_; have f5 := n40_; have f6 := n41_; have f8 := n42_; have f9 := n43_; have d2 := n44_; have ga := n45_; have gb := n46_; have gc := n47_; have gd := n48_; have ge := n49_; have gf := n50_; have gg := n51_; clear n7_ n8_ n11_ n12_ n19_ n20_ n23_ n24_ n26_ n30_ n31_ n33_ n34_ n35_ n36_ n37_ n38_ n39_ n40_ n41_ n42_ n43_ n44_ n45_ n46_ n47_ n48_ n49_ n50_ n51_; clear hb hbox hg; obtain ⟨cZ, cS, im⟩ := Kd.R_slice cy.out; subst im; have la := fY.out; have lb := fX.out; have lc := f3.out; have ld := fZ.out; have le := f4.out; have lf := d1.out; have lg := f6.out; have lh := f5.out; have li := f9.out; have lj := f8.out; have lk := ga.out; have ll := d2.out; have lm := gc.out; have ln := gb.out; have lo := ge.out; have lp := gd.out; have lq := gg.out; have lr := gf.out; obtain ⟨hcz202_0, js, jt, ju, jv, jw⟩ := bk3 ct.out; obtain ⟨d3, cY, io⟩ := Kd.R_slice cz.out; subst io; obtain ⟨hcz204_0, jx, jy, jz, jA, jB⟩ := bk3 aw.out) | ((with_reducible refine gate_callee (f := 33) rfl ?_); refine goesE (some 132) rfl rfl Try.func33 (by kernel_rfl) rfl #[.agg #[.slice bM ax.length bz, .slice bQ ay.length bD, .int .i64 (-1)]] rfl ?_; (with_reducible refine (arena_Count.calls k1 _ _ ax _ _ ay (-1) c6 cU cV _ ?side1 ?side2 ?side3 ?side4 A83.out).mono ?_); (case side1 => refine (Kd.R_reads' (e := 3) (base := w.heap.size) (ok := fun k_ => (((((((((True ∧ some k_ ≠ (.slice ck cx.length cf : Value).ownBlock) ∧ some k_ ≠ (.slice cb cn.length b5 : Value).ownBlock) ∧ some k_ ≠ (.slice b7 bH.length b1 : Value).ownBlock) ∧ some k_ ≠ (.slice bO b0.length bK : Value).ownBlock) ∧ some k_ ≠ (.slice bA bn.length bs : Value).ownBlock) ∧ some k_ ≠ (.slice bx bP.length bt : Value).ownBlock) ∧ some k_ ≠ (.slice bp bJ.length bl : Value).ownBlock) ∧ some k_ ≠ (.slice bV cd.length bT : Value).ownBlock) ∧ some k_ ≠ (.slice cZ cI.length cS : Value).ownBlock)) (n := ax.length) (c := bz) ?_).2.2; exact (Kd.pR ((Far3 aK.out ct.out (.slice cZ cI.length cS) (.slice d3 cH.length cY) (.int .i64 cN))))); (case side2 => exact (Kd.R_reads' aK.out).2.1); (case side3 => refine (Kd.R_reads' (e := 4) (base := w.heap.size) (ok := fun k_ => (((((((((True ∧ some k_ ≠ (.slice co cv.length cj : Value).ownBlock) ∧ some k_ ≠ (.slice ce cm.length ca : Value).ownBlock) ∧ some k_ ≠ (.slice cc cl.length b6 : Value).ownBlock) ∧ some k_ ≠ (.slice bR bZ.length bN : Value).ownBlock) ∧ some k_ ≠ (.slice bE bm.length bv : Value).ownBlock) ∧ some k_ ≠ (.slice bB bL.length bw : Value).ownBlock) ∧ some k_ ≠ (.slice bu bI.length bo : Value).ownBlock) ∧ some k_ ≠ (.slice bX b9.length bU : Value).ownBlock) ∧ some k_ ≠ (.slice d3 cH.length cY : Value).ownBlock)) (n := ay.length) (c := bD) ?_).2.2; exact (Kd.pR ((Far3 aM.out ct.out (.slice cZ cI.length cS) (.slice d3 cH.length cY) (.int .i64 cN))))); (case side4 => exact (Kd.R_reads' aM.out).2.1); rintro e mc ⟨rfl, hb⟩; refine ⟨_, rfl, ?_⟩; have n11_ := Aside0.mk (Kd.R_below (Kd.pR ((Far3 bj.out ct.out (.slice cZ cI.length cS) (.slice d3 cH.length cY) (.int .i64 cN)))) hb); have n12_ := Aside0.mk (Kd.R_below (Kd.pR ((Far3 bk.out ct.out (.slice cZ cI.length cS) (.slice d3 cH.length cY) (.int .i64 cN)))) hb); have n19_ := Aside0.mk (Kd.R_below (Kd.pR ((Far3 cy.out ct.out (.slice cZ cI.length cS) (.slice d3 cH.length cY) (.int .i64 cN)))) hb); have n20_ := Aside0.mk (Kd.R_below (Kd.pR ((Far3 cz.out ct.out (.slice cZ cI.length cS) (.slice d3 cH.length cY) (.int .i64 cN)))) hb); have n23_ := Aside0.mk (blk_below (g := dq) (o := .cells #[.slice b7 bH.length b1, .slice cc cl.length b6, .int .i64 cD] 36 (0, 0)) (by (with_reducible repeat (first | refine blk_drewN ?_ _ | refine blk_drew ?_ | refine blk_alloc ?_ _)); refine blk_far ?_ d1.out _; (with_reducible repeat (first | refine blk_drewN ?_ _ | refine blk_drew ?_ | refine blk_alloc ?_ _)); refine blk_far ?_ d1.out _; (with_reducible repeat (first | refine blk_drewN ?_ _ | refine blk_drew ?_ | refine blk_alloc ?_ _)); refine blk_far ?_ d1.out _; (with_reducible repeat (first | refine blk_drewN ?_ _ | refine blk_drew ?_ | refine blk_alloc ?_ _)); exact au.out) hb); have n26_ := Aside0.mk (blk_below (g := ex) (o := .cells #[.slice bA bn.length bs, .slice bE bm.length bv, .int .i64 bF] 36 (0, 0)) (by (with_reducible repeat (first | refine blk_drewN ?_ _ | refine blk_drew ?_ | refine blk_alloc ?_ _)); refine blk_far ?_ d2.out _; (with_reducible repeat (first | refine blk_drewN ?_ _ | refine blk_drew ?_ | refine blk_alloc ?_ _)); refine blk_far ?_ d2.out _; (with_reducible repeat (first | refine blk_drewN ?_ _ | refine blk_drew ?_ | refine blk_alloc ?_ _)); refine blk_far ?_ d2.out _; (with_reducible repeat (first | refine blk_drewN ?_ _ | refine blk_drew ?_ | refine blk_alloc ?_ _)); exact aB.out) hb); have n30_ := Aside0.mk (blk_below (g := il) (o := .cells #[.slice cZ cI.length cS, .slice d3 cH.length cY, .int .i64 cN] 36 (0, 0)) (by (with_reducible repeat (first | refine blk_drewN ?_ _ | refine blk_drew ?_ | refine blk_alloc ?_ _)); refine blk_put (cs := #[.slice cZ cI.length cS, .slice d3 cH.length cY, .int .i64 0]) ?_ 2 _ rfl; (with_reducible repeat (first | refine blk_drewN ?_ _ | refine blk_drew ?_ | refine blk_alloc ?_ _)); refine blk_put (cs := #[.slice cZ cI.length cS, .slice none 0 0, .int .i64 0]) ?_ 1 _ rfl; (with_reducible repeat (first | refine blk_drewN ?_ _ | refine blk_drew ?_ | refine blk_alloc ?_ _)); refine blk_put (cs := #[.slice none 0 0, .slice none 0 0, .int .i64 0]) ?_ 0 _ rfl; (with_reducible repeat (first | refine blk_drewN ?_ _ | refine blk_drew ?_ | refine blk_alloc ?_ _)); exact ct.out) hb); have n31_ := Aside0.mk (below_step (pB HB.out) hb); (try clear HO_1); (try clear az); (try clear aA); (try clear aI); (try clear aJ); (try clear aR); (try clear aS); (try clear aK); (try clear aM); (try clear bq); (try clear br); clear bj; clear bk; (try clear b2); (try clear b3); (try clear cq); (try clear cr); (try clear cO); (try clear cP); clear cy; clear cz; (try clear aa); (try clear av); clear au; (try clear aw); (try clear aL); clear aB; (try clear aQ); (try clear aU); (try clear bG); clear ct; clear HB; have bj := n11_; have bk := n12_; have cy := n19_; have cz := n20_; have au := n23_; have aB := n26_; have ct := n30_; have HB := n31_; clear n11_ n12_ n19_ n20_ n23_ n26_ n30_ n31_; (try clear hb); (try clear hb2); (try clear hk); (try clear hi)) | ((with_reducible refine gate_callee (f := 33) rfl ?_); refine goesE (some 138) rfl rfl Try.func33 (by kernel_rfl) rfl #[.agg #[.slice none 0 0, .slice none 0 0, .int .i64 0]] rfl ?_; (refine (arena_Count.calls k1 _ _ ([] : List Int) _ _ ([] : List Bool) 0 md ir eH _ ?side1 ?side2 ?side3 ?side4 A84.out).mono ?_); (case side1 => exact Kd.C_nil _ _); (case side2 => exact Nat.le_refl _); (case side3 => exact Kd.C_nil _ _); (case side4 => exact Nat.le_refl _); rintro e me ⟨rfl, hb⟩; refine ⟨_, rfl, ?_⟩; have n11_ := Rb1 bj hb; have n12_ := Rb1 bk hb; have n19_ := Rb1 cy hb; have n20_ := Rb1 cz hb; have n23_ := Aside0.mk (blk_below (pK au.out) hb); have n26_ := Aside0.mk (blk_below (pK aB.out) hb); have n30_ := Aside0.mk (blk_below (pK ct.out) hb); have n31_ := Aside0.mk (below_step (pB HB.out) hb); (try clear HO_1); (try clear az); (try clear aA); (try clear aI); (try clear aJ); (try clear aR); (try clear aS); (try clear aK); (try clear aM); (try clear bq); (try clear br); clear bj; clear bk; (try clear b2); (try clear b3); (try clear cq); (try clear cr); (try clear cO); (try clear cP); clear cy; clear cz; (try clear aa); (try clear av); clear au; (try clear aw); (try clear aL); clear aB; (try clear aQ); (try clear aU); (try clear bG); clear ct; clear HB; have bj := n11_; have bk := n12_; have cy := n19_; have cz := n20_; have au := n23_; have aB := n26_; have ct := n30_; have HB := n31_; clear n11_ n12_ n19_ n20_ n23_ n26_ n30_ n31_; (try clear hb); (try clear hb2); (try clear hk); (try clear hi)) | (go_at_call 22; (with_reducible refine (spigotlaw13_alive.calls k1   _ A85.out).mono ?_); rintro e mf ⟨rfl, hb⟩; have n11_ := Rb1 bj hb; have n12_ := Rb1 bk hb; have n19_ := Rb1 cy hb; have n20_ := Rb1 cz hb; have n23_ := Aside0.mk (blk_below (pK au.out) hb); have n26_ := Aside0.mk (blk_below (pK aB.out) hb); have n30_ := Aside0.mk (blk_below (pK ct.out) hb); have n31_ := Aside0.mk (below_step (pB HB.out) hb); (try clear HO_1); (try clear az); (try clear aA); (try clear aI); (try clear aJ); (try clear aR); (try clear aS); (try clear aK); (try clear aM); (try clear bq); (try clear br); clear bj; clear bk; (try clear b2); (try clear b3); (try clear cq); (try clear cr); (try clear cO); (try clear cP); clear cy; clear cz; (try clear aa); (try clear av); clear au; (try clear aw); (try clear aL); clear aB; (try clear aQ); (try clear aU); (try clear bG); clear ct; clear HB; have bj := n11_; have bk := n12_; have cy := n19_; have cz := n20_; have au := n23_; have aB := n26_; have ct := n30_; have HB := n31_; clear n11_ n12_ n19_ n20_ n23_ n26_ n30_ n31_; (try clear hb); (try clear hb2); (try clear hk); (try clear hi); obtain ⟨hcz208_0, jC, jD, jE, jF, jG⟩ := bk3 au.out; obtain ⟨hcz209_0, jH, jI, jJ, jK, jL⟩ := bk3 ct.out; obtain ⟨hcz210_0, jM, jN, jO, jP, jQ⟩ := bk3 aB.out) | (go_at_call 27; (with_reducible refine (spigotref13_Same.calls k1 _ _ cI _ _ cH cN _ _ bn _ _ bm bF true _ ?side1 ?side2 ?side3 ?side4 ?side5 ?side6 ?side7 ?side8 A97.out).mono ?_); (case side1 => exact Kd.pC ((Kd.R_reads' cy.out).2.2)); (case side2 => exact (Kd.R_reads' cy.out).2.1); (case side3 => exact Kd.pC ((Kd.R_reads' cz.out).2.2)); (case side4 => exact (Kd.R_reads' cz.out).2.1); (case side5 => exact Kd.pC ((Kd.R_reads' bj.out).2.2)); (case side6 => exact (Kd.R_reads' bj.out).2.1); (case side7 => exact Kd.pC ((Kd.R_reads' bk.out).2.2)); (case side8 => exact (Kd.R_reads' bk.out).2.1); rintro e mg ⟨rfl, hb⟩; have n31_ := Aside0.mk (below_step (pB HB.out) hb); (try clear HO_1); (try clear az); (try clear aA); (try clear aI); (try clear aJ); (try clear aR); (try clear aS); (try clear aK); (try clear aM); (try clear bq); (try clear br); (try clear bj); (try clear bk); (try clear b2); (try clear b3); (try clear cq); (try clear cr); (try clear cO); (try clear cP); (try clear cy); (try clear cz); (try clear aa); (try clear av); (try clear au); (try clear aw); (try clear aL); (try clear aB); (try clear aQ); (try clear aU); (try clear bG); (try clear ct); clear HB; have HB := n31_; clear n31_; (try clear hb); (try clear hb2); (try clear hk); (try clear hi)))
                       go_ret
                       exact ⟨by first | rfl | (simp [errW_none, errW_some] <;> rfl) | (simp [*, errW_none, errW_some] <;> rfl) | (rw [HRT.out] <;> rfl) | (simp [HRT.out]; done) | (have h_ := HRT.out; simp [*] at h_ ⊢ <;> first | done | assumption | omega) | (have h_ := HRT.out; simp [*] at h_; done), pB HB.out⟩
                      ·rw [if_neg c101] at H
                       have c101b0 : (cU == 0) = false := beq_eq_false_iff_ne.mpr c101
                       have c101b1 : (cU != 0) = true := bne_iff_ne.mpr c101
                       exact absurd H (by simp)
                     ·rw [if_neg c100] at H
                      have c100b0 : (c6 == 1) = false := beq_eq_false_iff_ne.mpr c100
                      have c100b1 : (c6 != 1) = true := bne_iff_ne.mpr c100
                      exact absurd H (by simp)
                    ·rw [if_neg c99] at H
                     have c99b0 : (cV == 0) = false := beq_eq_false_iff_ne.mpr c99
                     have c99b1 : (cV != 0) = true := bne_iff_ne.mpr c99
                     exact absurd H (by simp)
                   ·replace c98 := Bool.eq_false_iff.mpr c98
                    subst c98
                    have H1 : (some false) = some true := by rw [if_neg (show ¬ (false = true) by decide)] at H; exact H
                    clear H
                    have H := H1
                    clear H1
                    exact absurd H (by simp)
                  ·rw [if_neg c96] at H
                   have c96b0 : (c5 == 0) = false := beq_eq_false_iff_ne.mpr c96
                   have c96b1 : (c5 != 0) = true := bne_iff_ne.mpr c96
                   exact absurd H (by simp)
                 ·rw [if_neg c95] at H
                  have c95b0 : (cT == 2) = false := beq_eq_false_iff_ne.mpr c95
                  have c95b1 : (cT != 2) = true := bne_iff_ne.mpr c95
                  exact absurd H (by simp)
                ·rw [if_neg c94] at H
                 have c94b0 : (cR == 2) = false := beq_eq_false_iff_ne.mpr c94
                 have c94b1 : (cR != 2) = true := bne_iff_ne.mpr c94
                 exact absurd H (by simp)
               ·rw [if_neg c93] at H
                have c93b0 : (cM == 36) = false := beq_eq_false_iff_ne.mpr c93
                have c93b1 : (cM != 36) = true := bne_iff_ne.mpr c93
                exact absurd H (by simp)
              ·rw [if_neg c92] at H
               have c92b0 : (cK == 0) = false := beq_eq_false_iff_ne.mpr c92
               have c92b1 : (cK != 0) = true := bne_iff_ne.mpr c92
               exact absurd H (by simp)
             ·rw [if_neg c91] at H
              have c91b0 : (cG == 18) = false := beq_eq_false_iff_ne.mpr c91
              have c91b1 : (cG != 18) = true := bne_iff_ne.mpr c91
              exact absurd H (by simp)
            ·rw [if_neg c90] at H
             have c90b0 : ((bH.length : Int) == 16) = false := beq_eq_false_iff_ne.mpr c90
             have c90b1 : ((bH.length : Int) != 16) = true := bne_iff_ne.mpr c90
             exact absurd H (by simp)
           ·rw [if_neg c89] at H
            have c89b0 : (cC == 0) = false := beq_eq_false_iff_ne.mpr c89
            have c89b1 : (cC != 0) = true := bne_iff_ne.mpr c89
            exact absurd H (by simp)
          ·rw [if_neg c88] at H
           have c88b0 : (cA == 2) = false := beq_eq_false_iff_ne.mpr c88
           have c88b1 : (cA != 2) = true := bne_iff_ne.mpr c88
           exact absurd H (by simp)
         ·rw [if_neg c87] at H
          have c87b0 : (cw == 2) = false := beq_eq_false_iff_ne.mpr c87
          have c87b1 : (cw != 2) = true := bne_iff_ne.mpr c87
          exact absurd H (by simp)
        ·replace c86 := Bool.eq_false_iff.mpr c86
         subst c86
         have H1 : (none) = some true := by rw [if_neg (show ¬ (false = true) by decide)] at H; exact H
         clear H
         have H := H1
         clear H1
         exact absurd H (by simp)
    ·rw [if_neg c4] at H
     exact absurd H (by simp)
   ·rw [if_neg c3] at H
    exact absurd H (by simp)
  ·rw [if_neg c2] at H
   exact absurd H (by simp)
 ·rw [if_neg c1] at H
  exact absurd H (by simp)

/-- THE ONE PURE STATEMENT of spigotlaw13_ArenaNames. -/
def spigotlaw13_ArenaNames.Pure : Prop := ∃ k, spigotlaw13_ArenaNames.f k  = some true

end Go.Proofs.Ytlgfopdindklnaa.PArena
