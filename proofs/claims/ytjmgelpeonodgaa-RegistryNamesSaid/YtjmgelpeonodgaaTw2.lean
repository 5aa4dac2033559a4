/- Twins of the functions with bounded rounds, printed by a program of this session. -/
import Derived.Test.YtjmgelpeonodgaaTwP
namespace Go.Proofs.Ytjmgelpeonodgaa.PM
set_option linter.unusedSimpArgs false
set_option linter.unusedVariables false
open Go Go.Proofs
/-! ### spigotref03_CheckLimit -/
noncomputable def spigotref03_CheckLimit.step (mm_ : Nat) (KK_ : ((Option (Int × Unit)))) : ((Option (Int × Unit))) := ((
  some (0, ())))
noncomputable def spigotref03_CheckLimit.K (mm_ : Nat) : Nat → ((Option (Int × Unit)))
  | 0 => (( none))
  | nn_ + 1 => spigotref03_CheckLimit.step mm_ (spigotref03_CheckLimit.K mm_ nn_)
theorem spigotref03_CheckLimit.step_le (mm_ : Nat) (KK_ : ((Option (Int × Unit)))) (hh_ : (Le (KK_ ) (spigotref03_CheckLimit.L1 ))) : (Le ((spigotref03_CheckLimit.step mm_ KK_) ) (spigotref03_CheckLimit.L1 )) := by
  refine  by rw [spigotref03_CheckLimit.L1_eq]; dsimp only [spigotref03_CheckLimit.step]; (repeat' (with_reducible first | exact hh_  | exact Le.refl _ | refine Le.cond ?_ ?_ | refine Le.bind ?_ fun _ => ?_))
theorem spigotref03_CheckLimit.K_le (mm_ : Nat) : ∀ nn_, (Le ((spigotref03_CheckLimit.K mm_ nn_) ) (spigotref03_CheckLimit.L1 ))
  | 0 =>  Le.none _
  | nn_ + 1 => spigotref03_CheckLimit.step_le mm_ (spigotref03_CheckLimit.K mm_ nn_) (spigotref03_CheckLimit.K_le mm_ nn_)
noncomputable def spigotref03_CheckLimit.G (mm_ : Nat) (l : t0.den) : Option (Int × Unit) :=
  bif (decide ((l.1 : Int) < 1)) then
    some (8, ())
  else
    bif (decide ((l.1 : Int) > 1000000000)) then
      some (8, ())
    else
      bif (decide ((l.2.1 : Int) < 0)) then
        some (8, ())
      else
        bif (decide ((l.2.1 : Int) > 1000000000)) then
          some (8, ())
        else
          bif (decide ((l.2.2.1 : Int) < 1)) then
            some (8, ())
          else
            bif (decide ((l.2.2.1 : Int) > 1000000000)) then
              some (8, ())
            else
              (spigotref03_CheckLimit.K mm_ mm_)
theorem spigotref03_CheckLimit.G_le (mm_ : Nat) (l : t0.den) : Le (spigotref03_CheckLimit.G mm_ l) (spigotref03_CheckLimit.F l) := by
  rw [spigotref03_CheckLimit.F_eq]; unfold spigotref03_CheckLimit.G; (repeat' (with_reducible first | exact (spigotref03_CheckLimit.K_le mm_ mm_)  | exact Le.refl _ | refine Le.cond ?_ ?_ | refine Le.bind ?_ fun _ => ?_))
/-! ### spigotref18_Limited -/
noncomputable def spigotref18_Limited.step (mm_ : Nat) (KK_ : (Int → (List t0.den) → (Option (Bool × Unit))) × (Int → (List t0.den) → (Option (Bool × Unit))) × (Int → (List t0.den) → (Option (Bool × Unit)))) : (Int → (List t0.den) → (Option (Bool × Unit))) × (Int → (List t0.den) → (Option (Bool × Unit))) × (Int → (List t0.den) → (Option (Bool × Unit))) := ((fun (i : Int) (b0 : (List t0.den)) =>
  bif (decide ((i : Int) < 3)) then
    KK_.2.1 i b0
  else
    some (true, ())),
(fun (i : Int) (b0 : (List t0.den)) =>
  bif (decide ((0 : Int) ≤ i ∧ (i : Int) < 3)) then
    ((spigotref03_CheckLimit.G mm_) (List.getD b0 (Int.toNat i) (0, 0, 0, ()))).bind fun r0 =>
    bif (r0.1 != 0) then
      some (false, ())
    else
      KK_.2.2 i b0
  else none),
(fun (i : Int) (b0 : (List t0.den)) =>
  KK_.1 (IntKind.wrap .i64 (i + 1)) b0))
noncomputable def spigotref18_Limited.K (mm_ : Nat) : Nat → (Int → (List t0.den) → (Option (Bool × Unit))) × (Int → (List t0.den) → (Option (Bool × Unit))) × (Int → (List t0.den) → (Option (Bool × Unit)))
  | 0 => ((fun _ _ => none), (fun _ _ => none), (fun _ _ => none))
  | nn_ + 1 => spigotref18_Limited.step mm_ (spigotref18_Limited.K mm_ nn_)
theorem spigotref18_Limited.step_le (mm_ : Nat) (KK_ : (Int → (List t0.den) → (Option (Bool × Unit))) × (Int → (List t0.den) → (Option (Bool × Unit))) × (Int → (List t0.den) → (Option (Bool × Unit)))) (hh_ : (∀ i b0, Le (KK_.1 i b0) (spigotref18_Limited.L1 i b0)) ∧ (∀ i b0, Le (KK_.2.1 i b0) (spigotref18_Limited.L2 i b0)) ∧ (∀ i b0, Le (KK_.2.2 i b0) (spigotref18_Limited.L3 i b0))) : (∀ i b0, Le ((spigotref18_Limited.step mm_ KK_).1 i b0) (spigotref18_Limited.L1 i b0)) ∧ (∀ i b0, Le ((spigotref18_Limited.step mm_ KK_).2.1 i b0) (spigotref18_Limited.L2 i b0)) ∧ (∀ i b0, Le ((spigotref18_Limited.step mm_ KK_).2.2 i b0) (spigotref18_Limited.L3 i b0)) := by
  refine ⟨fun i b0 => by rw [spigotref18_Limited.L1_eq]; dsimp only [spigotref18_Limited.step]; (repeat' (with_reducible first | exact hh_.1 _ _ | exact hh_.2.1 _ _ | exact hh_.2.2 _ _ | exact spigotref03_CheckLimit.G_le mm_ _ | exact Le.refl _ | refine Le.cond ?_ ?_ | refine Le.bind ?_ fun _ => ?_)),
    fun i b0 => by rw [spigotref18_Limited.L2_eq]; dsimp only [spigotref18_Limited.step]; (repeat' (with_reducible first | exact hh_.1 _ _ | exact hh_.2.1 _ _ | exact hh_.2.2 _ _ | exact spigotref03_CheckLimit.G_le mm_ _ | exact Le.refl _ | refine Le.cond ?_ ?_ | refine Le.bind ?_ fun _ => ?_)),
    fun i b0 => by rw [spigotref18_Limited.L3_eq]; dsimp only [spigotref18_Limited.step]; (repeat' (with_reducible first | exact hh_.1 _ _ | exact hh_.2.1 _ _ | exact hh_.2.2 _ _ | exact spigotref03_CheckLimit.G_le mm_ _ | exact Le.refl _ | refine Le.cond ?_ ?_ | refine Le.bind ?_ fun _ => ?_))⟩
theorem spigotref18_Limited.K_le (mm_ : Nat) : ∀ nn_, (∀ i b0, Le ((spigotref18_Limited.K mm_ nn_).1 i b0) (spigotref18_Limited.L1 i b0)) ∧ (∀ i b0, Le ((spigotref18_Limited.K mm_ nn_).2.1 i b0) (spigotref18_Limited.L2 i b0)) ∧ (∀ i b0, Le ((spigotref18_Limited.K mm_ nn_).2.2 i b0) (spigotref18_Limited.L3 i b0))
  | 0 => ⟨fun _ _ => Le.none _, fun _ _ => Le.none _, fun _ _ => Le.none _⟩
  | nn_ + 1 => spigotref18_Limited.step_le mm_ (spigotref18_Limited.K mm_ nn_) (spigotref18_Limited.K_le mm_ nn_)
noncomputable def spigotref18_Limited.G (mm_ : Nat) (l : (List t0.den)) : Option (Bool × Unit) :=
  (spigotref18_Limited.K mm_ mm_).1 0 l
theorem spigotref18_Limited.G_le (mm_ : Nat) (l : (List t0.den)) : Le (spigotref18_Limited.G mm_ l) (spigotref18_Limited.F l) := by
  rw [spigotref18_Limited.F_eq]; unfold spigotref18_Limited.G; (repeat' (with_reducible first | exact (spigotref18_Limited.K_le mm_ mm_).1 _ _ | exact (spigotref18_Limited.K_le mm_ mm_).2.1 _ _ | exact (spigotref18_Limited.K_le mm_ mm_).2.2 _ _ | exact spigotref03_CheckLimit.G_le mm_ _ | exact Le.refl _ | refine Le.cond ?_ ?_ | refine Le.bind ?_ fun _ => ?_))
/-! ### spigotref03_Full -/
noncomputable def spigotref03_Full.step (mm_ : Nat) (KK_ : (Int → Int → Int → Int → (Option (t1.den × Int × Unit)))) : (Int → Int → Int → Int → (Option (t1.den × Int × Unit))) := ((fun (at_ : Int) (b0 : Int) (b02 : Int) (b03 : Int) =>
  some (((b0, b02, b03, ()), b0, 0, at_, ()), 0, ())))
noncomputable def spigotref03_Full.K (mm_ : Nat) : Nat → (Int → Int → Int → Int → (Option (t1.den × Int × Unit)))
  | 0 => ((fun _ _ _ _ => none))
  | nn_ + 1 => spigotref03_Full.step mm_ (spigotref03_Full.K mm_ nn_)
theorem spigotref03_Full.step_le (mm_ : Nat) (KK_ : (Int → Int → Int → Int → (Option (t1.den × Int × Unit)))) (hh_ : (∀ at_ b0 b02 b03, Le (KK_ at_ b0 b02 b03) (spigotref03_Full.L1 at_ b0 b02 b03))) : (∀ at_ b0 b02 b03, Le ((spigotref03_Full.step mm_ KK_) at_ b0 b02 b03) (spigotref03_Full.L1 at_ b0 b02 b03)) := by
  refine fun at_ b0 b02 b03 => by rw [spigotref03_Full.L1_eq]; dsimp only [spigotref03_Full.step]; (repeat' (with_reducible first | exact hh_ _ _ _ _ | exact spigotref03_CheckLimit.G_le mm_ _ | exact Le.refl _ | refine Le.cond ?_ ?_ | refine Le.bind ?_ fun _ => ?_))
theorem spigotref03_Full.K_le (mm_ : Nat) : ∀ nn_, (∀ at_ b0 b02 b03, Le ((spigotref03_Full.K mm_ nn_) at_ b0 b02 b03) (spigotref03_Full.L1 at_ b0 b02 b03))
  | 0 => fun _ _ _ _ => Le.none _
  | nn_ + 1 => spigotref03_Full.step_le mm_ (spigotref03_Full.K mm_ nn_) (spigotref03_Full.K_le mm_ nn_)
noncomputable def spigotref03_Full.G (mm_ : Nat) (l : t0.den) (at_ : Int) : Option (t1.den × Int × Unit) :=
  ((spigotref03_CheckLimit.G mm_) l).bind fun r0 =>
  bif (r0.1 != 0) then
    ((spigotref03_CheckLimit.G mm_) l).bind fun r1 =>
    some (((0, 0, 0, ()), 0, 0, 0, ()), r1.1, ())
  else
    (spigotref03_Full.K mm_ mm_) at_ l.1 l.2.1 l.2.2.1
theorem spigotref03_Full.G_le (mm_ : Nat) (l : t0.den) (at_ : Int) : Le (spigotref03_Full.G mm_ l at_) (spigotref03_Full.F l at_) := by
  rw [spigotref03_Full.F_eq]; unfold spigotref03_Full.G; (repeat' (with_reducible first | exact (spigotref03_Full.K_le mm_ mm_) _ _ _ _ | exact spigotref03_CheckLimit.G_le mm_ _ | exact Le.refl _ | refine Le.cond ?_ ?_ | refine Le.bind ?_ fun _ => ?_))
/-! ### spigotref13_New -/
noncomputable def spigotref13_New.step (mm_ : Nat) (KK_ : (Int → (List Int) → (List Bool) → (Option (t2.den × Int × Unit))) × (Int → Int → (List Int) → (List Bool) → (List Int) → (List Bool) → (Option (t2.den × Int × Unit))) × (Int → Int → (List Int) → (List Bool) → (List Int) → (List Bool) → (Option (t2.den × Int × Unit))) × (Int → Int → (List Int) → (List Bool) → (List Int) → (List Bool) → (Option (t2.den × Int × Unit)))) : (Int → (List Int) → (List Bool) → (Option (t2.den × Int × Unit))) × (Int → Int → (List Int) → (List Bool) → (List Int) → (List Bool) → (Option (t2.den × Int × Unit))) × (Int → Int → (List Int) → (List Bool) → (List Int) → (List Bool) → (Option (t2.den × Int × Unit))) × (Int → Int → (List Int) → (List Bool) → (List Int) → (List Bool) → (Option (t2.den × Int × Unit))) := ((fun (n : Int) (l1 : (List Int)) (l2 : (List Bool)) =>
  KK_.2.1 n 0 l1 l2 ([] : List Int) ([] : List Bool)),
(fun (n : Int) (i : Int) (l2 : (List Int)) (l3 : (List Bool)) (l4 : (List Int)) (l5 : (List Bool)) =>
  bif (decide ((i : Int) < n)) then
    KK_.2.2.1 n i l2 l3 l4 l5
  else
    some ((l4, l5, 0, ()), 0, ())),
(fun (n : Int) (i : Int) (l2 : (List Int)) (l3 : (List Bool)) (l4 : (List Int)) (l5 : (List Bool)) =>
  bif (decide (((IntKind.wrap .i64 (i + 1)) : Int) < n)) then
    bif (lim ((List.length l4) + (List.length ([(IntKind.wrap .i64 (i + 1))] : List Int))) (.int .i64)) then
      KK_.2.2.2 n i l2 l3 (l4 ++ ([(IntKind.wrap .i64 (i + 1))] : List Int)) l5
    else none
  else
    bif (lim ((List.length l4) + (List.length ([(-1)] : List Int))) (.int .i64)) then
      KK_.2.2.2 n i l2 l3 (l4 ++ ([(-1)] : List Int)) l5
    else none),
(fun (n : Int) (i : Int) (l2 : (List Int)) (l3 : (List Bool)) (l4 : (List Int)) (l5 : (List Bool)) =>
  bif (lim ((List.length l5) + (List.length ([false] : List Bool))) .bool) then
    KK_.2.1 n (IntKind.wrap .i64 (i + 1)) l2 l3 l4 (l5 ++ ([false] : List Bool))
  else none))
noncomputable def spigotref13_New.K (mm_ : Nat) : Nat → (Int → (List Int) → (List Bool) → (Option (t2.den × Int × Unit))) × (Int → Int → (List Int) → (List Bool) → (List Int) → (List Bool) → (Option (t2.den × Int × Unit))) × (Int → Int → (List Int) → (List Bool) → (List Int) → (List Bool) → (Option (t2.den × Int × Unit))) × (Int → Int → (List Int) → (List Bool) → (List Int) → (List Bool) → (Option (t2.den × Int × Unit)))
  | 0 => ((fun _ _ _ => none), (fun _ _ _ _ _ _ => none), (fun _ _ _ _ _ _ => none), (fun _ _ _ _ _ _ => none))
  | nn_ + 1 => spigotref13_New.step mm_ (spigotref13_New.K mm_ nn_)
theorem spigotref13_New.step_le (mm_ : Nat) (KK_ : (Int → (List Int) → (List Bool) → (Option (t2.den × Int × Unit))) × (Int → Int → (List Int) → (List Bool) → (List Int) → (List Bool) → (Option (t2.den × Int × Unit))) × (Int → Int → (List Int) → (List Bool) → (List Int) → (List Bool) → (Option (t2.den × Int × Unit))) × (Int → Int → (List Int) → (List Bool) → (List Int) → (List Bool) → (Option (t2.den × Int × Unit)))) (hh_ : (∀ n l1 l2, Le (KK_.1 n l1 l2) (spigotref13_New.L1 n l1 l2)) ∧ (∀ n i l2 l3 l4 l5, Le (KK_.2.1 n i l2 l3 l4 l5) (spigotref13_New.L2 n i l2 l3 l4 l5)) ∧ (∀ n i l2 l3 l4 l5, Le (KK_.2.2.1 n i l2 l3 l4 l5) (spigotref13_New.L3 n i l2 l3 l4 l5)) ∧ (∀ n i l2 l3 l4 l5, Le (KK_.2.2.2 n i l2 l3 l4 l5) (spigotref13_New.L4 n i l2 l3 l4 l5))) : (∀ n l1 l2, Le ((spigotref13_New.step mm_ KK_).1 n l1 l2) (spigotref13_New.L1 n l1 l2)) ∧ (∀ n i l2 l3 l4 l5, Le ((spigotref13_New.step mm_ KK_).2.1 n i l2 l3 l4 l5) (spigotref13_New.L2 n i l2 l3 l4 l5)) ∧ (∀ n i l2 l3 l4 l5, Le ((spigotref13_New.step mm_ KK_).2.2.1 n i l2 l3 l4 l5) (spigotref13_New.L3 n i l2 l3 l4 l5)) ∧ (∀ n i l2 l3 l4 l5, Le ((spigotref13_New.step mm_ KK_).2.2.2 n i l2 l3 l4 l5) (spigotref13_New.L4 n i l2 l3 l4 l5)) := by
  refine ⟨fun n l1 l2 => by rw [spigotref13_New.L1_eq]; dsimp only [spigotref13_New.step]; (repeat' (with_reducible first | exact hh_.1 _ _ _ | exact hh_.2.1 _ _ _ _ _ _ | exact hh_.2.2.1 _ _ _ _ _ _ | exact hh_.2.2.2 _ _ _ _ _ _  | exact Le.refl _ | refine Le.cond ?_ ?_ | refine Le.bind ?_ fun _ => ?_)),
    fun n i l2 l3 l4 l5 => by rw [spigotref13_New.L2_eq]; dsimp only [spigotref13_New.step]; (repeat' (with_reducible first | exact hh_.1 _ _ _ | exact hh_.2.1 _ _ _ _ _ _ | exact hh_.2.2.1 _ _ _ _ _ _ | exact hh_.2.2.2 _ _ _ _ _ _  | exact Le.refl _ | refine Le.cond ?_ ?_ | refine Le.bind ?_ fun _ => ?_)),
    fun n i l2 l3 l4 l5 => by rw [spigotref13_New.L3_eq]; dsimp only [spigotref13_New.step]; (repeat' (with_reducible first | exact hh_.1 _ _ _ | exact hh_.2.1 _ _ _ _ _ _ | exact hh_.2.2.1 _ _ _ _ _ _ | exact hh_.2.2.2 _ _ _ _ _ _  | exact Le.refl _ | refine Le.cond ?_ ?_ | refine Le.bind ?_ fun _ => ?_)),
    fun n i l2 l3 l4 l5 => by rw [spigotref13_New.L4_eq]; dsimp only [spigotref13_New.step]; (repeat' (with_reducible first | exact hh_.1 _ _ _ | exact hh_.2.1 _ _ _ _ _ _ | exact hh_.2.2.1 _ _ _ _ _ _ | exact hh_.2.2.2 _ _ _ _ _ _  | exact Le.refl _ | refine Le.cond ?_ ?_ | refine Le.bind ?_ fun _ => ?_))⟩
theorem spigotref13_New.K_le (mm_ : Nat) : ∀ nn_, (∀ n l1 l2, Le ((spigotref13_New.K mm_ nn_).1 n l1 l2) (spigotref13_New.L1 n l1 l2)) ∧ (∀ n i l2 l3 l4 l5, Le ((spigotref13_New.K mm_ nn_).2.1 n i l2 l3 l4 l5) (spigotref13_New.L2 n i l2 l3 l4 l5)) ∧ (∀ n i l2 l3 l4 l5, Le ((spigotref13_New.K mm_ nn_).2.2.1 n i l2 l3 l4 l5) (spigotref13_New.L3 n i l2 l3 l4 l5)) ∧ (∀ n i l2 l3 l4 l5, Le ((spigotref13_New.K mm_ nn_).2.2.2 n i l2 l3 l4 l5) (spigotref13_New.L4 n i l2 l3 l4 l5))
  | 0 => ⟨fun _ _ _ => Le.none _, fun _ _ _ _ _ _ => Le.none _, fun _ _ _ _ _ _ => Le.none _, fun _ _ _ _ _ _ => Le.none _⟩
  | nn_ + 1 => spigotref13_New.step_le mm_ (spigotref13_New.K mm_ nn_) (spigotref13_New.K_le mm_ nn_)
noncomputable def spigotref13_New.G (mm_ : Nat) (n : Int) : Option (t2.den × Int × Unit) :=
  bif (decide ((n : Int) < 1)) then
    some ((([] : List Int), ([] : List Bool), 0, ()), 2, ())
  else
    bif (decide ((n : Int) > 16)) then
      some ((([] : List Int), ([] : List Bool), 0, ()), 2, ())
    else
      (spigotref13_New.K mm_ mm_).1 n ([] : List Int) ([] : List Bool)
theorem spigotref13_New.G_le (mm_ : Nat) (n : Int) : Le (spigotref13_New.G mm_ n) (spigotref13_New.F n) := by
  rw [spigotref13_New.F_eq]; unfold spigotref13_New.G; (repeat' (with_reducible first | exact (spigotref13_New.K_le mm_ mm_).1 _ _ _ | exact (spigotref13_New.K_le mm_ mm_).2.1 _ _ _ _ _ _ | exact (spigotref13_New.K_le mm_ mm_).2.2.1 _ _ _ _ _ _ | exact (spigotref13_New.K_le mm_ mm_).2.2.2 _ _ _ _ _ _  | exact Le.refl _ | refine Le.cond ?_ ?_ | refine Le.bind ?_ fun _ => ?_))
/-! ### spigotref15_Made -/
noncomputable def spigotref15_Made.step (mm_ : Nat) (KK_ : (Int → (List Int) → Int → (List Int) → (List Int) → (Option (t4.den × Unit))) × (Int → (List Int) → Int → (List Int) → (List Int) → (Option (t4.den × Unit))) × ((List Int) → Int → Int → Int → (List Int) → (List Int) → (List Int) → (Option (t4.den × Unit))) × ((List Int) → Int → Int → Int → (List Int) → (List Int) → (List Int) → (Option (t4.den × Unit))) × ((List Int) → Int → Int → Int → (List Int) → (List Int) → (List Int) → (Option (t4.den × Unit)))) : (Int → (List Int) → Int → (List Int) → (List Int) → (Option (t4.den × Unit))) × (Int → (List Int) → Int → (List Int) → (List Int) → (Option (t4.den × Unit))) × ((List Int) → Int → Int → Int → (List Int) → (List Int) → (List Int) → (Option (t4.den × Unit))) × ((List Int) → Int → Int → Int → (List Int) → (List Int) → (List Int) → (Option (t4.den × Unit))) × ((List Int) → Int → Int → Int → (List Int) → (List Int) → (List Int) → (Option (t4.den × Unit))) := ((fun (n : Int) (l : (List Int)) (i : Int) (l2 : (List Int)) (l4 : (List Int)) =>
  bif (decide ((i : Int) < n)) then
    KK_.2.1 n l i l2 l4
  else
    KK_.2.2.1 l 0 (-1) (-1) l2 l4 l4),
(fun (n : Int) (l : (List Int)) (i : Int) (l2 : (List Int)) (l4 : (List Int)) =>
  bif (lim ((List.length l4) + (List.length ([(-1)] : List Int))) (.int .i64)) then
    bif (lim ((List.length l4) + (List.length ([(-1)] : List Int))) (.int .i64)) then
      KK_.1 n l (IntKind.wrap .i64 (i + 1)) l2 (l4 ++ ([(-1)] : List Int))
    else none
  else none),
(fun (l : (List Int)) (i : Int) (b1 : Int) (b12 : Int) (l2 : (List Int)) (l4 : (List Int)) (l5 : (List Int)) =>
  bif (decide ((i : Int) < ((List.length l : Int)))) then
    KK_.2.2.2.1 l i b1 b12 l2 l4 l5
  else
    some ((l4, l5, b1, b12, ()), ())),
(fun (l : (List Int)) (i : Int) (b1 : Int) (b12 : Int) (l2 : (List Int)) (l4 : (List Int)) (l5 : (List Int)) =>
  bif (i == 0) then
    bif (decide ((0 : Int) ≤ i ∧ (i : Int) < ((List.length l : Int)))) then
      KK_.2.2.2.2 l i (List.getD l (Int.toNat i) 0) b12 l2 l4 l5
    else none
  else
    bif (decide ((0 : Int) ≤ i ∧ (i : Int) < ((List.length l : Int)))) then
      bif (decide ((0 : Int) ≤ (IntKind.wrap .i64 (i - 1)) ∧ ((IntKind.wrap .i64 (i - 1)) : Int) < ((List.length l : Int)))) then
        bif (decide ((0 : Int) ≤ (List.getD l (Int.toNat i) 0) ∧ ((List.getD l (Int.toNat i) 0) : Int) < ((List.length l4 : Int)))) then
          bif (decide ((0 : Int) ≤ (IntKind.wrap .i64 (i - 1)) ∧ ((IntKind.wrap .i64 (i - 1)) : Int) < ((List.length l : Int)))) then
            bif (decide ((0 : Int) ≤ i ∧ (i : Int) < ((List.length l : Int)))) then
              bif (decide ((0 : Int) ≤ (List.getD l (Int.toNat (IntKind.wrap .i64 (i - 1))) 0) ∧ ((List.getD l (Int.toNat (IntKind.wrap .i64 (i - 1))) 0) : Int) < ((List.length l5 : Int)))) then
                KK_.2.2.2.2 l i b1 b12 l2 (List.set l4 (Int.toNat (List.getD l (Int.toNat i) 0)) (List.getD l (Int.toNat (IntKind.wrap .i64 (i - 1))) 0)) (List.set l5 (Int.toNat (List.getD l (Int.toNat (IntKind.wrap .i64 (i - 1))) 0)) (List.getD l (Int.toNat i) 0))
              else none
            else none
          else none
        else none
      else none
    else none),
(fun (l : (List Int)) (i : Int) (b1 : Int) (b12 : Int) (l2 : (List Int)) (l4 : (List Int)) (l5 : (List Int)) =>
  bif (decide ((0 : Int) ≤ i ∧ (i : Int) < ((List.length l : Int)))) then
    KK_.2.2.1 l (IntKind.wrap .i64 (i + 1)) b1 (List.getD l (Int.toNat i) 0) l2 l4 l5
  else none))
noncomputable def spigotref15_Made.K (mm_ : Nat) : Nat → (Int → (List Int) → Int → (List Int) → (List Int) → (Option (t4.den × Unit))) × (Int → (List Int) → Int → (List Int) → (List Int) → (Option (t4.den × Unit))) × ((List Int) → Int → Int → Int → (List Int) → (List Int) → (List Int) → (Option (t4.den × Unit))) × ((List Int) → Int → Int → Int → (List Int) → (List Int) → (List Int) → (Option (t4.den × Unit))) × ((List Int) → Int → Int → Int → (List Int) → (List Int) → (List Int) → (Option (t4.den × Unit)))
  | 0 => ((fun _ _ _ _ _ => none), (fun _ _ _ _ _ => none), (fun _ _ _ _ _ _ _ => none), (fun _ _ _ _ _ _ _ => none), (fun _ _ _ _ _ _ _ => none))
  | nn_ + 1 => spigotref15_Made.step mm_ (spigotref15_Made.K mm_ nn_)
theorem spigotref15_Made.step_le (mm_ : Nat) (KK_ : (Int → (List Int) → Int → (List Int) → (List Int) → (Option (t4.den × Unit))) × (Int → (List Int) → Int → (List Int) → (List Int) → (Option (t4.den × Unit))) × ((List Int) → Int → Int → Int → (List Int) → (List Int) → (List Int) → (Option (t4.den × Unit))) × ((List Int) → Int → Int → Int → (List Int) → (List Int) → (List Int) → (Option (t4.den × Unit))) × ((List Int) → Int → Int → Int → (List Int) → (List Int) → (List Int) → (Option (t4.den × Unit)))) (hh_ : (∀ n l i l2 l4, Le (KK_.1 n l i l2 l4) (spigotref15_Made.L1 n l i l2 l4)) ∧ (∀ n l i l2 l4, Le (KK_.2.1 n l i l2 l4) (spigotref15_Made.L2 n l i l2 l4)) ∧ (∀ l i b1 b12 l2 l4 l5, Le (KK_.2.2.1 l i b1 b12 l2 l4 l5) (spigotref15_Made.L3 l i b1 b12 l2 l4 l5)) ∧ (∀ l i b1 b12 l2 l4 l5, Le (KK_.2.2.2.1 l i b1 b12 l2 l4 l5) (spigotref15_Made.L4 l i b1 b12 l2 l4 l5)) ∧ (∀ l i b1 b12 l2 l4 l5, Le (KK_.2.2.2.2 l i b1 b12 l2 l4 l5) (spigotref15_Made.L5 l i b1 b12 l2 l4 l5))) : (∀ n l i l2 l4, Le ((spigotref15_Made.step mm_ KK_).1 n l i l2 l4) (spigotref15_Made.L1 n l i l2 l4)) ∧ (∀ n l i l2 l4, Le ((spigotref15_Made.step mm_ KK_).2.1 n l i l2 l4) (spigotref15_Made.L2 n l i l2 l4)) ∧ (∀ l i b1 b12 l2 l4 l5, Le ((spigotref15_Made.step mm_ KK_).2.2.1 l i b1 b12 l2 l4 l5) (spigotref15_Made.L3 l i b1 b12 l2 l4 l5)) ∧ (∀ l i b1 b12 l2 l4 l5, Le ((spigotref15_Made.step mm_ KK_).2.2.2.1 l i b1 b12 l2 l4 l5) (spigotref15_Made.L4 l i b1 b12 l2 l4 l5)) ∧ (∀ l i b1 b12 l2 l4 l5, Le ((spigotref15_Made.step mm_ KK_).2.2.2.2 l i b1 b12 l2 l4 l5) (spigotref15_Made.L5 l i b1 b12 l2 l4 l5)) := by
  refine ⟨fun n l i l2 l4 => by rw [spigotref15_Made.L1_eq]; dsimp only [spigotref15_Made.step]; (repeat' (with_reducible first | exact hh_.1 _ _ _ _ _ | exact hh_.2.1 _ _ _ _ _ | exact hh_.2.2.1 _ _ _ _ _ _ _ | exact hh_.2.2.2.1 _ _ _ _ _ _ _ | exact hh_.2.2.2.2 _ _ _ _ _ _ _  | exact Le.refl _ | refine Le.cond ?_ ?_ | refine Le.bind ?_ fun _ => ?_)),
    fun n l i l2 l4 => by rw [spigotref15_Made.L2_eq]; dsimp only [spigotref15_Made.step]; (repeat' (with_reducible first | exact hh_.1 _ _ _ _ _ | exact hh_.2.1 _ _ _ _ _ | exact hh_.2.2.1 _ _ _ _ _ _ _ | exact hh_.2.2.2.1 _ _ _ _ _ _ _ | exact hh_.2.2.2.2 _ _ _ _ _ _ _  | exact Le.refl _ | refine Le.cond ?_ ?_ | refine Le.bind ?_ fun _ => ?_)),
    fun l i b1 b12 l2 l4 l5 => by rw [spigotref15_Made.L3_eq]; dsimp only [spigotref15_Made.step]; (repeat' (with_reducible first | exact hh_.1 _ _ _ _ _ | exact hh_.2.1 _ _ _ _ _ | exact hh_.2.2.1 _ _ _ _ _ _ _ | exact hh_.2.2.2.1 _ _ _ _ _ _ _ | exact hh_.2.2.2.2 _ _ _ _ _ _ _  | exact Le.refl _ | refine Le.cond ?_ ?_ | refine Le.bind ?_ fun _ => ?_)),
    fun l i b1 b12 l2 l4 l5 => by rw [spigotref15_Made.L4_eq]; dsimp only [spigotref15_Made.step]; (repeat' (with_reducible first | exact hh_.1 _ _ _ _ _ | exact hh_.2.1 _ _ _ _ _ | exact hh_.2.2.1 _ _ _ _ _ _ _ | exact hh_.2.2.2.1 _ _ _ _ _ _ _ | exact hh_.2.2.2.2 _ _ _ _ _ _ _  | exact Le.refl _ | refine Le.cond ?_ ?_ | refine Le.bind ?_ fun _ => ?_)),
    fun l i b1 b12 l2 l4 l5 => by rw [spigotref15_Made.L5_eq]; dsimp only [spigotref15_Made.step]; (repeat' (with_reducible first | exact hh_.1 _ _ _ _ _ | exact hh_.2.1 _ _ _ _ _ | exact hh_.2.2.1 _ _ _ _ _ _ _ | exact hh_.2.2.2.1 _ _ _ _ _ _ _ | exact hh_.2.2.2.2 _ _ _ _ _ _ _  | exact Le.refl _ | refine Le.cond ?_ ?_ | refine Le.bind ?_ fun _ => ?_))⟩
theorem spigotref15_Made.K_le (mm_ : Nat) : ∀ nn_, (∀ n l i l2 l4, Le ((spigotref15_Made.K mm_ nn_).1 n l i l2 l4) (spigotref15_Made.L1 n l i l2 l4)) ∧ (∀ n l i l2 l4, Le ((spigotref15_Made.K mm_ nn_).2.1 n l i l2 l4) (spigotref15_Made.L2 n l i l2 l4)) ∧ (∀ l i b1 b12 l2 l4 l5, Le ((spigotref15_Made.K mm_ nn_).2.2.1 l i b1 b12 l2 l4 l5) (spigotref15_Made.L3 l i b1 b12 l2 l4 l5)) ∧ (∀ l i b1 b12 l2 l4 l5, Le ((spigotref15_Made.K mm_ nn_).2.2.2.1 l i b1 b12 l2 l4 l5) (spigotref15_Made.L4 l i b1 b12 l2 l4 l5)) ∧ (∀ l i b1 b12 l2 l4 l5, Le ((spigotref15_Made.K mm_ nn_).2.2.2.2 l i b1 b12 l2 l4 l5) (spigotref15_Made.L5 l i b1 b12 l2 l4 l5))
  | 0 => ⟨fun _ _ _ _ _ => Le.none _, fun _ _ _ _ _ => Le.none _, fun _ _ _ _ _ _ _ => Le.none _, fun _ _ _ _ _ _ _ => Le.none _, fun _ _ _ _ _ _ _ => Le.none _⟩
  | nn_ + 1 => spigotref15_Made.step_le mm_ (spigotref15_Made.K mm_ nn_) (spigotref15_Made.K_le mm_ nn_)
noncomputable def spigotref15_Made.G (mm_ : Nat) (n : Int) (l : (List Int)) : Option (t4.den × Unit) :=
  (spigotref15_Made.K mm_ mm_).1 n l 0 ([] : List Int) ([] : List Int)
theorem spigotref15_Made.G_le (mm_ : Nat) (n : Int) (l : (List Int)) : Le (spigotref15_Made.G mm_ n l) (spigotref15_Made.F n l) := by
  rw [spigotref15_Made.F_eq]; unfold spigotref15_Made.G; (repeat' (with_reducible first | exact (spigotref15_Made.K_le mm_ mm_).1 _ _ _ _ _ | exact (spigotref15_Made.K_le mm_ mm_).2.1 _ _ _ _ _ | exact (spigotref15_Made.K_le mm_ mm_).2.2.1 _ _ _ _ _ _ _ | exact (spigotref15_Made.K_le mm_ mm_).2.2.2.1 _ _ _ _ _ _ _ | exact (spigotref15_Made.K_le mm_ mm_).2.2.2.2 _ _ _ _ _ _ _  | exact Le.refl _ | refine Le.cond ?_ ?_ | refine Le.bind ?_ fun _ => ?_))
/-! ### spigotref15_New -/
noncomputable def spigotref15_New.step (mm_ : Nat) (KK_ : (Int → (List Int) → (Option (t4.den × Int × Unit)))) : (Int → (List Int) → (Option (t4.den × Int × Unit))) := ((fun (n : Int) (l1 : (List Int)) =>
  ((spigotref15_Made.G mm_) n ([] : List Int)).bind fun r0 =>
  some (r0.1, 0, ())))
noncomputable def spigotref15_New.K (mm_ : Nat) : Nat → (Int → (List Int) → (Option (t4.den × Int × Unit)))
  | 0 => ((fun _ _ => none))
  | nn_ + 1 => spigotref15_New.step mm_ (spigotref15_New.K mm_ nn_)
theorem spigotref15_New.step_le (mm_ : Nat) (KK_ : (Int → (List Int) → (Option (t4.den × Int × Unit)))) (hh_ : (∀ n l1, Le (KK_ n l1) (spigotref15_New.L1 n l1))) : (∀ n l1, Le ((spigotref15_New.step mm_ KK_) n l1) (spigotref15_New.L1 n l1)) := by
  refine fun n l1 => by rw [spigotref15_New.L1_eq]; dsimp only [spigotref15_New.step]; (repeat' (with_reducible first | exact hh_ _ _ | exact spigotref15_Made.G_le mm_ _ _ | exact Le.refl _ | refine Le.cond ?_ ?_ | refine Le.bind ?_ fun _ => ?_))
theorem spigotref15_New.K_le (mm_ : Nat) : ∀ nn_, (∀ n l1, Le ((spigotref15_New.K mm_ nn_) n l1) (spigotref15_New.L1 n l1))
  | 0 => fun _ _ => Le.none _
  | nn_ + 1 => spigotref15_New.step_le mm_ (spigotref15_New.K mm_ nn_) (spigotref15_New.K_le mm_ nn_)
noncomputable def spigotref15_New.G (mm_ : Nat) (n : Int) : Option (t4.den × Int × Unit) :=
  bif (decide ((n : Int) < 1)) then
    some ((([] : List Int), ([] : List Int), 0, 0, ()), 2, ())
  else
    bif (decide ((n : Int) > 16)) then
      some ((([] : List Int), ([] : List Int), 0, 0, ()), 2, ())
    else
      (spigotref15_New.K mm_ mm_) n ([] : List Int)
theorem spigotref15_New.G_le (mm_ : Nat) (n : Int) : Le (spigotref15_New.G mm_ n) (spigotref15_New.F n) := by
  rw [spigotref15_New.F_eq]; unfold spigotref15_New.G; (repeat' (with_reducible first | exact (spigotref15_New.K_le mm_ mm_) _ _ | exact spigotref15_Made.G_le mm_ _ _ | exact Le.refl _ | refine Le.cond ?_ ?_ | refine Le.bind ?_ fun _ => ?_))
/-! ### spigotref16_New -/
noncomputable def spigotref16_New.step (mm_ : Nat) (KK_ : (Int → (List Int) → (List t1.den) → (List Int) → (List Bool) → (List t3.den) → (Option (t5.den × Int × Unit)))) : (Int → (List Int) → (List t1.den) → (List Int) → (List Bool) → (List t3.den) → (Option (t5.den × Int × Unit))) := ((fun (n : Int) (l1 : (List Int)) (l2 : (List t1.den)) (l3 : (List Int)) (l4 : (List Bool)) (l5 : (List t3.den)) =>
  bif (decide ((0 : Int) ≤ n ∧ (n : Int) ≤ n) && (lim (Int.toNat n) (.int .u32))) then
    bif (decide ((0 : Int) ≤ n ∧ (n : Int) ≤ n) && (lim (Int.toNat n) t1)) then
      bif (decide ((0 : Int) ≤ 16 ∧ (16 : Int) ≤ 16) && (lim (Int.toNat 16) t3)) then
        ((spigotref13_New.G mm_) n).bind fun r0 =>
        ((spigotref15_New.G mm_) n).bind fun r1 =>
        some ((n, (List.replicate (Int.toNat n) (0 : Int)), (List.replicate (Int.toNat n) ((0, 0, 0, ()), 0, 0, 0, ())), r0.1, (List.replicate (Int.toNat 16) (0, 0, false, ())), r1.1, ()), 0, ())
      else none
    else none
  else none))
noncomputable def spigotref16_New.K (mm_ : Nat) : Nat → (Int → (List Int) → (List t1.den) → (List Int) → (List Bool) → (List t3.den) → (Option (t5.den × Int × Unit)))
  | 0 => ((fun _ _ _ _ _ _ => none))
  | nn_ + 1 => spigotref16_New.step mm_ (spigotref16_New.K mm_ nn_)
theorem spigotref16_New.step_le (mm_ : Nat) (KK_ : (Int → (List Int) → (List t1.den) → (List Int) → (List Bool) → (List t3.den) → (Option (t5.den × Int × Unit)))) (hh_ : (∀ n l1 l2 l3 l4 l5, Le (KK_ n l1 l2 l3 l4 l5) (spigotref16_New.L1 n l1 l2 l3 l4 l5))) : (∀ n l1 l2 l3 l4 l5, Le ((spigotref16_New.step mm_ KK_) n l1 l2 l3 l4 l5) (spigotref16_New.L1 n l1 l2 l3 l4 l5)) := by
  refine fun n l1 l2 l3 l4 l5 => by rw [spigotref16_New.L1_eq]; dsimp only [spigotref16_New.step]; (repeat' (with_reducible first | exact hh_ _ _ _ _ _ _ | exact spigotref13_New.G_le mm_ _ | exact spigotref15_New.G_le mm_ _ | exact Le.refl _ | refine Le.cond ?_ ?_ | refine Le.bind ?_ fun _ => ?_))
theorem spigotref16_New.K_le (mm_ : Nat) : ∀ nn_, (∀ n l1 l2 l3 l4 l5, Le ((spigotref16_New.K mm_ nn_) n l1 l2 l3 l4 l5) (spigotref16_New.L1 n l1 l2 l3 l4 l5))
  | 0 => fun _ _ _ _ _ _ => Le.none _
  | nn_ + 1 => spigotref16_New.step_le mm_ (spigotref16_New.K mm_ nn_) (spigotref16_New.K_le mm_ nn_)
noncomputable def spigotref16_New.G (mm_ : Nat) (n : Int) : Option (t5.den × Int × Unit) :=
  bif (decide ((n : Int) < 1)) then
    some ((0, ([] : List Int), ([] : List t1.den), (([] : List Int), ([] : List Bool), 0, ()), ([] : List t3.den), (([] : List Int), ([] : List Int), 0, 0, ()), ()), 2, ())
  else
    bif (decide ((n : Int) > 8)) then
      some ((0, ([] : List Int), ([] : List t1.den), (([] : List Int), ([] : List Bool), 0, ()), ([] : List t3.den), (([] : List Int), ([] : List Int), 0, 0, ()), ()), 2, ())
    else
      (spigotref16_New.K mm_ mm_) n ([] : List Int) ([] : List t1.den) ([] : List Int) ([] : List Bool) ([] : List t3.den)
theorem spigotref16_New.G_le (mm_ : Nat) (n : Int) : Le (spigotref16_New.G mm_ n) (spigotref16_New.F n) := by
  rw [spigotref16_New.F_eq]; unfold spigotref16_New.G; (repeat' (with_reducible first | exact (spigotref16_New.K_le mm_ mm_) _ _ _ _ _ _ | exact spigotref13_New.G_le mm_ _ | exact spigotref15_New.G_le mm_ _ | exact Le.refl _ | refine Le.cond ?_ ?_ | refine Le.bind ?_ fun _ => ?_))
/-! ### spigotref18_New -/
noncomputable def spigotref18_New.step (mm_ : Nat) (KK_ : (Int → Int → (List t0.den) → (List t0.den) → Int → Int → Int → Int → Int → Int → Int → Int → (List Int) → (List t1.den) → (List Int) → (List Bool) → (List t3.den) → (List Int) → (List t1.den) → (List Int) → (List Bool) → (List t3.den) → (List Int) → (List Int) → (List Int) → (List t1.den) → (List Int) → (List Bool) → (List t3.den) → (List Int) → (List Int) → (Option (t7.den × Int × Unit))) × (Int → Int → (List t0.den) → (List t0.den) → Int → Int → Int → Int → Int → Int → Int → Int → (List Int) → (List t1.den) → (List Int) → (List Bool) → (List t3.den) → (List Int) → (List t1.den) → (List Int) → (List Bool) → (List t3.den) → (List Int) → (List Int) → (List Int) → (List t1.den) → (List Int) → (List Bool) → (List t3.den) → (List Int) → (List Int) → (Option (t7.den × Int × Unit)))) : (Int → Int → (List t0.den) → (List t0.den) → Int → Int → Int → Int → Int → Int → Int → Int → (List Int) → (List t1.den) → (List Int) → (List Bool) → (List t3.den) → (List Int) → (List t1.den) → (List Int) → (List Bool) → (List t3.den) → (List Int) → (List Int) → (List Int) → (List t1.den) → (List Int) → (List Bool) → (List t3.den) → (List Int) → (List Int) → (Option (t7.den × Int × Unit))) × (Int → Int → (List t0.den) → (List t0.den) → Int → Int → Int → Int → Int → Int → Int → Int → (List Int) → (List t1.den) → (List Int) → (List Bool) → (List t3.den) → (List Int) → (List t1.den) → (List Int) → (List Bool) → (List t3.den) → (List Int) → (List Int) → (List Int) → (List t1.den) → (List Int) → (List Bool) → (List t3.den) → (List Int) → (List Int) → (Option (t7.den × Int × Unit))) := ((fun (tenant : Int) (tick : Int) (b0 : (List t0.den)) (b1 : (List t0.den)) (b2 : Int) (b22 : Int) (b23 : Int) (b24 : Int) (b3 : Int) (b32 : Int) (b33 : Int) (b34 : Int) (l4 : (List Int)) (l5 : (List t1.den)) (l6 : (List Int)) (l7 : (List Bool)) (l8 : (List t3.den)) (l19 : (List Int)) (l20 : (List t1.den)) (l21 : (List Int)) (l22 : (List Bool)) (l23 : (List t3.den)) (l24 : (List Int)) (l25 : (List Int)) (l26 : (List Int)) (l27 : (List t1.den)) (l28 : (List Int)) (l29 : (List Bool)) (l30 : (List t3.den)) (l31 : (List Int)) (l32 : (List Int)) =>
  ((spigotref18_Limited.G mm_) b0).bind fun r0 =>
  bif (!r0.1) then
    some ((0, (List.replicate 3 (0, 0, 0, ())), ((0, 0, 0, ()), 0, 0, 0, ()), (0, ([] : List Int), ([] : List t1.den), (([] : List Int), ([] : List Bool), 0, ()), ([] : List t3.den), (([] : List Int), ([] : List Int), 0, 0, ()), ()), (0, ([] : List Int), ([] : List t1.den), (([] : List Int), ([] : List Bool), 0, ()), ([] : List t3.den), (([] : List Int), ([] : List Int), 0, 0, ()), ()), ([] : List Int), (0, 0, 0, ()), ()), 8, ())
  else
    KK_.2 tenant tick b0 b1 b2 b22 b23 b24 b3 b32 b33 b34 l4 l5 l6 l7 l8 l19 l20 l21 l22 l23 l24 l25 l26 l27 l28 l29 l30 l31 l32),
(fun (tenant : Int) (tick : Int) (b0 : (List t0.den)) (b1 : (List t0.den)) (b2 : Int) (b22 : Int) (b23 : Int) (b24 : Int) (b3 : Int) (b32 : Int) (b33 : Int) (b34 : Int) (l4 : (List Int)) (l5 : (List t1.den)) (l6 : (List Int)) (l7 : (List Bool)) (l8 : (List t3.den)) (l19 : (List Int)) (l20 : (List t1.den)) (l21 : (List Int)) (l22 : (List Bool)) (l23 : (List t3.den)) (l24 : (List Int)) (l25 : (List Int)) (l26 : (List Int)) (l27 : (List t1.den)) (l28 : (List Int)) (l29 : (List Bool)) (l30 : (List t3.den)) (l31 : (List Int)) (l32 : (List Int)) =>
  bif (decide ((0 : Int) ≤ 0 ∧ (0 : Int) < 3)) then
    ((spigotref03_Full.G mm_) (List.getD b0 (Int.toNat 0) (0, 0, 0, ())) tick).bind fun r0 =>
    some ((tenant, b0, r0.1, (b2, l19, l20, (l21, l22, b22, ()), l23, (l24, l25, b23, b24, ()), ()), (b3, l26, l27, (l28, l29, b32, ()), l30, (l31, l32, b33, b34, ()), ()), ([] : List Int), (0, 0, 0, ()), ()), 0, ())
  else none))
noncomputable def spigotref18_New.K (mm_ : Nat) : Nat → (Int → Int → (List t0.den) → (List t0.den) → Int → Int → Int → Int → Int → Int → Int → Int → (List Int) → (List t1.den) → (List Int) → (List Bool) → (List t3.den) → (List Int) → (List t1.den) → (List Int) → (List Bool) → (List t3.den) → (List Int) → (List Int) → (List Int) → (List t1.den) → (List Int) → (List Bool) → (List t3.den) → (List Int) → (List Int) → (Option (t7.den × Int × Unit))) × (Int → Int → (List t0.den) → (List t0.den) → Int → Int → Int → Int → Int → Int → Int → Int → (List Int) → (List t1.den) → (List Int) → (List Bool) → (List t3.den) → (List Int) → (List t1.den) → (List Int) → (List Bool) → (List t3.den) → (List Int) → (List Int) → (List Int) → (List t1.den) → (List Int) → (List Bool) → (List t3.den) → (List Int) → (List Int) → (Option (t7.den × Int × Unit)))
  | 0 => ((fun _ _ _ _ _ _ _ _ _ _ _ _ _ _ _ _ _ _ _ _ _ _ _ _ _ _ _ _ _ _ _ => none), (fun _ _ _ _ _ _ _ _ _ _ _ _ _ _ _ _ _ _ _ _ _ _ _ _ _ _ _ _ _ _ _ => none))
  | nn_ + 1 => spigotref18_New.step mm_ (spigotref18_New.K mm_ nn_)
theorem spigotref18_New.step_le (mm_ : Nat) (KK_ : (Int → Int → (List t0.den) → (List t0.den) → Int → Int → Int → Int → Int → Int → Int → Int → (List Int) → (List t1.den) → (List Int) → (List Bool) → (List t3.den) → (List Int) → (List t1.den) → (List Int) → (List Bool) → (List t3.den) → (List Int) → (List Int) → (List Int) → (List t1.den) → (List Int) → (List Bool) → (List t3.den) → (List Int) → (List Int) → (Option (t7.den × Int × Unit))) × (Int → Int → (List t0.den) → (List t0.den) → Int → Int → Int → Int → Int → Int → Int → Int → (List Int) → (List t1.den) → (List Int) → (List Bool) → (List t3.den) → (List Int) → (List t1.den) → (List Int) → (List Bool) → (List t3.den) → (List Int) → (List Int) → (List Int) → (List t1.den) → (List Int) → (List Bool) → (List t3.den) → (List Int) → (List Int) → (Option (t7.den × Int × Unit)))) (hh_ : (∀ tenant tick b0 b1 b2 b22 b23 b24 b3 b32 b33 b34 l4 l5 l6 l7 l8 l19 l20 l21 l22 l23 l24 l25 l26 l27 l28 l29 l30 l31 l32, Le (KK_.1 tenant tick b0 b1 b2 b22 b23 b24 b3 b32 b33 b34 l4 l5 l6 l7 l8 l19 l20 l21 l22 l23 l24 l25 l26 l27 l28 l29 l30 l31 l32) (spigotref18_New.L1 tenant tick b0 b1 b2 b22 b23 b24 b3 b32 b33 b34 l4 l5 l6 l7 l8 l19 l20 l21 l22 l23 l24 l25 l26 l27 l28 l29 l30 l31 l32)) ∧ (∀ tenant tick b0 b1 b2 b22 b23 b24 b3 b32 b33 b34 l4 l5 l6 l7 l8 l19 l20 l21 l22 l23 l24 l25 l26 l27 l28 l29 l30 l31 l32, Le (KK_.2 tenant tick b0 b1 b2 b22 b23 b24 b3 b32 b33 b34 l4 l5 l6 l7 l8 l19 l20 l21 l22 l23 l24 l25 l26 l27 l28 l29 l30 l31 l32) (spigotref18_New.L2 tenant tick b0 b1 b2 b22 b23 b24 b3 b32 b33 b34 l4 l5 l6 l7 l8 l19 l20 l21 l22 l23 l24 l25 l26 l27 l28 l29 l30 l31 l32))) : (∀ tenant tick b0 b1 b2 b22 b23 b24 b3 b32 b33 b34 l4 l5 l6 l7 l8 l19 l20 l21 l22 l23 l24 l25 l26 l27 l28 l29 l30 l31 l32, Le ((spigotref18_New.step mm_ KK_).1 tenant tick b0 b1 b2 b22 b23 b24 b3 b32 b33 b34 l4 l5 l6 l7 l8 l19 l20 l21 l22 l23 l24 l25 l26 l27 l28 l29 l30 l31 l32) (spigotref18_New.L1 tenant tick b0 b1 b2 b22 b23 b24 b3 b32 b33 b34 l4 l5 l6 l7 l8 l19 l20 l21 l22 l23 l24 l25 l26 l27 l28 l29 l30 l31 l32)) ∧ (∀ tenant tick b0 b1 b2 b22 b23 b24 b3 b32 b33 b34 l4 l5 l6 l7 l8 l19 l20 l21 l22 l23 l24 l25 l26 l27 l28 l29 l30 l31 l32, Le ((spigotref18_New.step mm_ KK_).2 tenant tick b0 b1 b2 b22 b23 b24 b3 b32 b33 b34 l4 l5 l6 l7 l8 l19 l20 l21 l22 l23 l24 l25 l26 l27 l28 l29 l30 l31 l32) (spigotref18_New.L2 tenant tick b0 b1 b2 b22 b23 b24 b3 b32 b33 b34 l4 l5 l6 l7 l8 l19 l20 l21 l22 l23 l24 l25 l26 l27 l28 l29 l30 l31 l32)) := by
  refine ⟨fun tenant tick b0 b1 b2 b22 b23 b24 b3 b32 b33 b34 l4 l5 l6 l7 l8 l19 l20 l21 l22 l23 l24 l25 l26 l27 l28 l29 l30 l31 l32 => by rw [spigotref18_New.L1_eq]; dsimp only [spigotref18_New.step]; (repeat' (with_reducible first | exact hh_.1 _ _ _ _ _ _ _ _ _ _ _ _ _ _ _ _ _ _ _ _ _ _ _ _ _ _ _ _ _ _ _ | exact hh_.2 _ _ _ _ _ _ _ _ _ _ _ _ _ _ _ _ _ _ _ _ _ _ _ _ _ _ _ _ _ _ _ | exact spigotref18_Limited.G_le mm_ _ | exact spigotref03_Full.G_le mm_ _ _ | exact spigotref16_New.G_le mm_ _ | exact Le.refl _ | refine Le.cond ?_ ?_ | refine Le.bind ?_ fun _ => ?_)),
    fun tenant tick b0 b1 b2 b22 b23 b24 b3 b32 b33 b34 l4 l5 l6 l7 l8 l19 l20 l21 l22 l23 l24 l25 l26 l27 l28 l29 l30 l31 l32 => by rw [spigotref18_New.L2_eq]; dsimp only [spigotref18_New.step]; (repeat' (with_reducible first | exact hh_.1 _ _ _ _ _ _ _ _ _ _ _ _ _ _ _ _ _ _ _ _ _ _ _ _ _ _ _ _ _ _ _ | exact hh_.2 _ _ _ _ _ _ _ _ _ _ _ _ _ _ _ _ _ _ _ _ _ _ _ _ _ _ _ _ _ _ _ | exact spigotref18_Limited.G_le mm_ _ | exact spigotref03_Full.G_le mm_ _ _ | exact spigotref16_New.G_le mm_ _ | exact Le.refl _ | refine Le.cond ?_ ?_ | refine Le.bind ?_ fun _ => ?_))⟩
theorem spigotref18_New.K_le (mm_ : Nat) : ∀ nn_, (∀ tenant tick b0 b1 b2 b22 b23 b24 b3 b32 b33 b34 l4 l5 l6 l7 l8 l19 l20 l21 l22 l23 l24 l25 l26 l27 l28 l29 l30 l31 l32, Le ((spigotref18_New.K mm_ nn_).1 tenant tick b0 b1 b2 b22 b23 b24 b3 b32 b33 b34 l4 l5 l6 l7 l8 l19 l20 l21 l22 l23 l24 l25 l26 l27 l28 l29 l30 l31 l32) (spigotref18_New.L1 tenant tick b0 b1 b2 b22 b23 b24 b3 b32 b33 b34 l4 l5 l6 l7 l8 l19 l20 l21 l22 l23 l24 l25 l26 l27 l28 l29 l30 l31 l32)) ∧ (∀ tenant tick b0 b1 b2 b22 b23 b24 b3 b32 b33 b34 l4 l5 l6 l7 l8 l19 l20 l21 l22 l23 l24 l25 l26 l27 l28 l29 l30 l31 l32, Le ((spigotref18_New.K mm_ nn_).2 tenant tick b0 b1 b2 b22 b23 b24 b3 b32 b33 b34 l4 l5 l6 l7 l8 l19 l20 l21 l22 l23 l24 l25 l26 l27 l28 l29 l30 l31 l32) (spigotref18_New.L2 tenant tick b0 b1 b2 b22 b23 b24 b3 b32 b33 b34 l4 l5 l6 l7 l8 l19 l20 l21 l22 l23 l24 l25 l26 l27 l28 l29 l30 l31 l32))
  | 0 => ⟨fun _ _ _ _ _ _ _ _ _ _ _ _ _ _ _ _ _ _ _ _ _ _ _ _ _ _ _ _ _ _ _ => Le.none _, fun _ _ _ _ _ _ _ _ _ _ _ _ _ _ _ _ _ _ _ _ _ _ _ _ _ _ _ _ _ _ _ => Le.none _⟩
  | nn_ + 1 => spigotref18_New.step_le mm_ (spigotref18_New.K mm_ nn_) (spigotref18_New.K_le mm_ nn_)
noncomputable def spigotref18_New.G (mm_ : Nat) (tenant : Int) (l : (List t0.den)) (users : Int) (ends : Int) (tick : Int) : Option (t7.den × Int × Unit) :=
  ((spigotref16_New.G mm_) users).bind fun r0 =>
  ((spigotref16_New.G mm_) ends).bind fun r1 =>
  bif (decide ((tenant : Int) ≥ 16)) then
    some ((0, (List.replicate 3 (0, 0, 0, ())), ((0, 0, 0, ()), 0, 0, 0, ()), (0, ([] : List Int), ([] : List t1.den), (([] : List Int), ([] : List Bool), 0, ()), ([] : List t3.den), (([] : List Int), ([] : List Int), 0, 0, ()), ()), (0, ([] : List Int), ([] : List t1.den), (([] : List Int), ([] : List Bool), 0, ()), ([] : List t3.den), (([] : List Int), ([] : List Int), 0, 0, ()), ()), ([] : List Int), (0, 0, 0, ()), ()), 2, ())
  else
    bif (r0.2.1 != 0) then
      some ((0, (List.replicate 3 (0, 0, 0, ())), ((0, 0, 0, ()), 0, 0, 0, ()), (0, ([] : List Int), ([] : List t1.den), (([] : List Int), ([] : List Bool), 0, ()), ([] : List t3.den), (([] : List Int), ([] : List Int), 0, 0, ()), ()), (0, ([] : List Int), ([] : List t1.den), (([] : List Int), ([] : List Bool), 0, ()), ([] : List t3.den), (([] : List Int), ([] : List Int), 0, 0, ()), ()), ([] : List Int), (0, 0, 0, ()), ()), 2, ())
    else
      bif (r1.2.1 != 0) then
        some ((0, (List.replicate 3 (0, 0, 0, ())), ((0, 0, 0, ()), 0, 0, 0, ()), (0, ([] : List Int), ([] : List t1.den), (([] : List Int), ([] : List Bool), 0, ()), ([] : List t3.den), (([] : List Int), ([] : List Int), 0, 0, ()), ()), (0, ([] : List Int), ([] : List t1.den), (([] : List Int), ([] : List Bool), 0, ()), ([] : List t3.den), (([] : List Int), ([] : List Int), 0, 0, ()), ()), ([] : List Int), (0, 0, 0, ()), ()), 2, ())
      else
        (spigotref18_New.K mm_ mm_).1 tenant tick l (List.replicate 3 (0, 0, 0, ())) r0.1.1 r0.1.2.2.2.1.2.2.1 r0.1.2.2.2.2.2.1.2.2.1 r0.1.2.2.2.2.2.1.2.2.2.1 r1.1.1 r1.1.2.2.2.1.2.2.1 r1.1.2.2.2.2.2.1.2.2.1 r1.1.2.2.2.2.2.1.2.2.2.1 ([] : List Int) ([] : List t1.den) ([] : List Int) ([] : List Bool) ([] : List t3.den) r0.1.2.1 r0.1.2.2.1 r0.1.2.2.2.1.1 r0.1.2.2.2.1.2.1 r0.1.2.2.2.2.1 r0.1.2.2.2.2.2.1.1 r0.1.2.2.2.2.2.1.2.1 r1.1.2.1 r1.1.2.2.1 r1.1.2.2.2.1.1 r1.1.2.2.2.1.2.1 r1.1.2.2.2.2.1 r1.1.2.2.2.2.2.1.1 r1.1.2.2.2.2.2.1.2.1
theorem spigotref18_New.G_le (mm_ : Nat) (tenant : Int) (l : (List t0.den)) (users : Int) (ends : Int) (tick : Int) : Le (spigotref18_New.G mm_ tenant l users ends tick) (spigotref18_New.F tenant l users ends tick) := by
  rw [spigotref18_New.F_eq]; unfold spigotref18_New.G; (repeat' (with_reducible first | exact (spigotref18_New.K_le mm_ mm_).1 _ _ _ _ _ _ _ _ _ _ _ _ _ _ _ _ _ _ _ _ _ _ _ _ _ _ _ _ _ _ _ | exact (spigotref18_New.K_le mm_ mm_).2 _ _ _ _ _ _ _ _ _ _ _ _ _ _ _ _ _ _ _ _ _ _ _ _ _ _ _ _ _ _ _ | exact spigotref18_Limited.G_le mm_ _ | exact spigotref03_Full.G_le mm_ _ _ | exact spigotref16_New.G_le mm_ _ | exact Le.refl _ | refine Le.cond ?_ ?_ | refine Le.bind ?_ fun _ => ?_))
/-! ### spigotlaw19_of -/
noncomputable def spigotlaw19_of.G (mm_ : Nat) (tenant : Int) : Option (t7.den × Unit) :=
  ((spigotref18_New.G mm_) tenant ([(4, 1, 1, ()), (3, 1, 1, ()), (2, 1, 1, ())] : List t0.den) 2 2 0).bind fun r0 =>
  some (r0.1, ())
theorem spigotlaw19_of.G_le (mm_ : Nat) (tenant : Int) : Le (spigotlaw19_of.G mm_ tenant) (spigotlaw19_of.F tenant) := by
  rw [spigotlaw19_of.F_eq]; unfold spigotlaw19_of.G; (repeat' (with_reducible first  | exact spigotref18_New.G_le mm_ _ _ _ _ _ | exact Le.refl _ | refine Le.cond ?_ ?_ | refine Le.bind ?_ fun _ => ?_))
/-! ### registry_Check -/
noncomputable def registry_Check.step (mm_ : Nat) (KK_ : ((List t7.den) → (Option (Int × Unit))) × ((List t7.den) → Int → Int → (Option (Int × Unit))) × ((List t7.den) → Int → Int → (Option (Int × Unit))) × ((List t7.den) → Int → Int → (Option (Int × Unit)))) : ((List t7.den) → (Option (Int × Unit))) × ((List t7.den) → Int → Int → (Option (Int × Unit))) × ((List t7.den) → Int → Int → (Option (Int × Unit))) × ((List t7.den) → Int → Int → (Option (Int × Unit))) := ((fun (l : (List t7.den)) =>
  KK_.2.1 l ((List.length l : Int)) 0),
(fun (l : (List t7.den)) (t9_ : Int) (t10_ : Int) =>
  bif (decide ((t10_ : Int) < t9_)) then
    KK_.2.2.1 l t9_ t10_
  else
    some (0, ())),
(fun (l : (List t7.den)) (t9_ : Int) (t10_ : Int) =>
  bif (decide ((0 : Int) ≤ t10_ ∧ (t10_ : Int) < ((List.length l : Int)))) then
    ((part_Check.G mm_) (List.getD l (Int.toNat t10_) (0, (List.replicate 3 (0, 0, 0, ())), ((0, 0, 0, ()), 0, 0, 0, ()), (0, ([] : List Int), ([] : List t1.den), (([] : List Int), ([] : List Bool), 0, ()), ([] : List t3.den), (([] : List Int), ([] : List Int), 0, 0, ()), ()), (0, ([] : List Int), ([] : List t1.den), (([] : List Int), ([] : List Bool), 0, ()), ([] : List t3.den), (([] : List Int), ([] : List Int), 0, 0, ()), ()), ([] : List Int), (0, 0, 0, ()), ()))).bind fun r0 =>
    bif (r0.1 != 0) then
      some (8, ())
    else
      bif (decide ((t10_ : Int) > 0)) then
        bif (decide ((0 : Int) ≤ (IntKind.wrap .i64 (t10_ - 1)) ∧ ((IntKind.wrap .i64 (t10_ - 1)) : Int) < ((List.length l : Int)))) then
          bif (decide ((((List.getD l (Int.toNat (IntKind.wrap .i64 (t10_ - 1))) (0, (List.replicate 3 (0, 0, 0, ())), ((0, 0, 0, ()), 0, 0, 0, ()), (0, ([] : List Int), ([] : List t1.den), (([] : List Int), ([] : List Bool), 0, ()), ([] : List t3.den), (([] : List Int), ([] : List Int), 0, 0, ()), ()), (0, ([] : List Int), ([] : List t1.den), (([] : List Int), ([] : List Bool), 0, ()), ([] : List t3.den), (([] : List Int), ([] : List Int), 0, 0, ()), ()), ([] : List Int), (0, 0, 0, ()), ())).1) : Int) ≥ ((List.getD l (Int.toNat t10_) (0, (List.replicate 3 (0, 0, 0, ())), ((0, 0, 0, ()), 0, 0, 0, ()), (0, ([] : List Int), ([] : List t1.den), (([] : List Int), ([] : List Bool), 0, ()), ([] : List t3.den), (([] : List Int), ([] : List Int), 0, 0, ()), ()), (0, ([] : List Int), ([] : List t1.den), (([] : List Int), ([] : List Bool), 0, ()), ([] : List t3.den), (([] : List Int), ([] : List Int), 0, 0, ()), ()), ([] : List Int), (0, 0, 0, ()), ())).1))) then
            some (8, ())
          else
            KK_.2.2.2 l t9_ t10_
        else none
      else
        KK_.2.2.2 l t9_ t10_
  else none),
(fun (l : (List t7.den)) (t9_ : Int) (t10_ : Int) =>
  KK_.2.1 l t9_ (IntKind.wrap .i64 (t10_ + 1))))
noncomputable def registry_Check.K (mm_ : Nat) : Nat → ((List t7.den) → (Option (Int × Unit))) × ((List t7.den) → Int → Int → (Option (Int × Unit))) × ((List t7.den) → Int → Int → (Option (Int × Unit))) × ((List t7.den) → Int → Int → (Option (Int × Unit)))
  | 0 => ((fun _ => none), (fun _ _ _ => none), (fun _ _ _ => none), (fun _ _ _ => none))
  | nn_ + 1 => registry_Check.step mm_ (registry_Check.K mm_ nn_)
theorem registry_Check.step_le (mm_ : Nat) (KK_ : ((List t7.den) → (Option (Int × Unit))) × ((List t7.den) → Int → Int → (Option (Int × Unit))) × ((List t7.den) → Int → Int → (Option (Int × Unit))) × ((List t7.den) → Int → Int → (Option (Int × Unit)))) (hh_ : (∀ l, Le (KK_.1 l) (registry_Check.L1 l)) ∧ (∀ l t9_ t10_, Le (KK_.2.1 l t9_ t10_) (registry_Check.L2 l t9_ t10_)) ∧ (∀ l t9_ t10_, Le (KK_.2.2.1 l t9_ t10_) (registry_Check.L3 l t9_ t10_)) ∧ (∀ l t9_ t10_, Le (KK_.2.2.2 l t9_ t10_) (registry_Check.L4 l t9_ t10_))) : (∀ l, Le ((registry_Check.step mm_ KK_).1 l) (registry_Check.L1 l)) ∧ (∀ l t9_ t10_, Le ((registry_Check.step mm_ KK_).2.1 l t9_ t10_) (registry_Check.L2 l t9_ t10_)) ∧ (∀ l t9_ t10_, Le ((registry_Check.step mm_ KK_).2.2.1 l t9_ t10_) (registry_Check.L3 l t9_ t10_)) ∧ (∀ l t9_ t10_, Le ((registry_Check.step mm_ KK_).2.2.2 l t9_ t10_) (registry_Check.L4 l t9_ t10_)) := by
  refine ⟨fun l => by rw [registry_Check.L1_eq]; dsimp only [registry_Check.step]; (repeat' (with_reducible first | exact hh_.1 _ | exact hh_.2.1 _ _ _ | exact hh_.2.2.1 _ _ _ | exact hh_.2.2.2 _ _ _ | exact part_Check.G_le mm_ _ | exact Le.refl _ | refine Le.cond ?_ ?_ | refine Le.bind ?_ fun _ => ?_)),
    fun l t9_ t10_ => by rw [registry_Check.L2_eq]; dsimp only [registry_Check.step]; (repeat' (with_reducible first | exact hh_.1 _ | exact hh_.2.1 _ _ _ | exact hh_.2.2.1 _ _ _ | exact hh_.2.2.2 _ _ _ | exact part_Check.G_le mm_ _ | exact Le.refl _ | refine Le.cond ?_ ?_ | refine Le.bind ?_ fun _ => ?_)),
    fun l t9_ t10_ => by rw [registry_Check.L3_eq]; dsimp only [registry_Check.step]; (repeat' (with_reducible first | exact hh_.1 _ | exact hh_.2.1 _ _ _ | exact hh_.2.2.1 _ _ _ | exact hh_.2.2.2 _ _ _ | exact part_Check.G_le mm_ _ | exact Le.refl _ | refine Le.cond ?_ ?_ | refine Le.bind ?_ fun _ => ?_)),
    fun l t9_ t10_ => by rw [registry_Check.L4_eq]; dsimp only [registry_Check.step]; (repeat' (with_reducible first | exact hh_.1 _ | exact hh_.2.1 _ _ _ | exact hh_.2.2.1 _ _ _ | exact hh_.2.2.2 _ _ _ | exact part_Check.G_le mm_ _ | exact Le.refl _ | refine Le.cond ?_ ?_ | refine Le.bind ?_ fun _ => ?_))⟩
theorem registry_Check.K_le (mm_ : Nat) : ∀ nn_, (∀ l, Le ((registry_Check.K mm_ nn_).1 l) (registry_Check.L1 l)) ∧ (∀ l t9_ t10_, Le ((registry_Check.K mm_ nn_).2.1 l t9_ t10_) (registry_Check.L2 l t9_ t10_)) ∧ (∀ l t9_ t10_, Le ((registry_Check.K mm_ nn_).2.2.1 l t9_ t10_) (registry_Check.L3 l t9_ t10_)) ∧ (∀ l t9_ t10_, Le ((registry_Check.K mm_ nn_).2.2.2 l t9_ t10_) (registry_Check.L4 l t9_ t10_))
  | 0 => ⟨fun _ => Le.none _, fun _ _ _ => Le.none _, fun _ _ _ => Le.none _, fun _ _ _ => Le.none _⟩
  | nn_ + 1 => registry_Check.step_le mm_ (registry_Check.K mm_ nn_) (registry_Check.K_le mm_ nn_)
noncomputable def registry_Check.G (mm_ : Nat) (l : (List t7.den)) : Option (Int × Unit) :=
  bif (decide ((((List.length l : Int)) : Int) > 8)) then
    some (4, ())
  else
    (registry_Check.K mm_ mm_).1 l
theorem registry_Check.G_le (mm_ : Nat) (l : (List t7.den)) : Le (registry_Check.G mm_ l) (registry_Check.F l) := by
  rw [registry_Check.F_eq]; unfold registry_Check.G; (repeat' (with_reducible first | exact (registry_Check.K_le mm_ mm_).1 _ | exact (registry_Check.K_le mm_ mm_).2.1 _ _ _ | exact (registry_Check.K_le mm_ mm_).2.2.1 _ _ _ | exact (registry_Check.K_le mm_ mm_).2.2.2 _ _ _ | exact part_Check.G_le mm_ _ | exact Le.refl _ | refine Le.cond ?_ ?_ | refine Le.bind ?_ fun _ => ?_))
/-! ### cmp_isNaN -/
noncomputable def cmp_isNaN.G (mm_ : Nat) (x : Int) : Option (Bool × Unit) :=
  some ((x != x), ())
theorem cmp_isNaN.G_le (mm_ : Nat) (x : Int) : Le (cmp_isNaN.G mm_ x) (cmp_isNaN.F x) := by
  rw [cmp_isNaN.F_eq]; unfold cmp_isNaN.G; (repeat' (with_reducible first   | exact Le.refl _ | refine Le.cond ?_ ?_ | refine Le.bind ?_ fun _ => ?_))
/-! ### cmp_Compare -/
noncomputable def cmp_Compare.step (mm_ : Nat) (KK_ : ((Option (Int × Unit))) × (Int → Int → Bool → (Option (Int × Unit))) × (Int → Int → (Option (Int × Unit))) × (Int → Int → (Option (Int × Unit))) × ((Option (Int × Unit)))) : ((Option (Int × Unit))) × (Int → Int → Bool → (Option (Int × Unit))) × (Int → Int → (Option (Int × Unit))) × (Int → Int → (Option (Int × Unit))) × ((Option (Int × Unit))) := ((
  some ((-1), ())),
(fun (x : Int) (y : Int) (yNaN : Bool) =>
  bif yNaN then
    some (1, ())
  else
    KK_.2.2.1 x y),
(fun (x : Int) (y : Int) =>
  bif (decide ((x : Int) < y)) then
    some ((-1), ())
  else
    KK_.2.2.2.1 x y),
(fun (x : Int) (y : Int) =>
  bif (decide ((x : Int) > y)) then
    some (1, ())
  else
    KK_.2.2.2.2),
(
  some (0, ())))
noncomputable def cmp_Compare.K (mm_ : Nat) : Nat → ((Option (Int × Unit))) × (Int → Int → Bool → (Option (Int × Unit))) × (Int → Int → (Option (Int × Unit))) × (Int → Int → (Option (Int × Unit))) × ((Option (Int × Unit)))
  | 0 => (( none), (fun _ _ _ => none), (fun _ _ => none), (fun _ _ => none), ( none))
  | nn_ + 1 => cmp_Compare.step mm_ (cmp_Compare.K mm_ nn_)
theorem cmp_Compare.step_le (mm_ : Nat) (KK_ : ((Option (Int × Unit))) × (Int → Int → Bool → (Option (Int × Unit))) × (Int → Int → (Option (Int × Unit))) × (Int → Int → (Option (Int × Unit))) × ((Option (Int × Unit)))) (hh_ : (Le (KK_.1 ) (cmp_Compare.L1 )) ∧ (∀ x y yNaN, Le (KK_.2.1 x y yNaN) (cmp_Compare.L2 x y yNaN)) ∧ (∀ x y, Le (KK_.2.2.1 x y) (cmp_Compare.L3 x y)) ∧ (∀ x y, Le (KK_.2.2.2.1 x y) (cmp_Compare.L4 x y)) ∧ (Le (KK_.2.2.2.2 ) (cmp_Compare.L5 ))) : (Le ((cmp_Compare.step mm_ KK_).1 ) (cmp_Compare.L1 )) ∧ (∀ x y yNaN, Le ((cmp_Compare.step mm_ KK_).2.1 x y yNaN) (cmp_Compare.L2 x y yNaN)) ∧ (∀ x y, Le ((cmp_Compare.step mm_ KK_).2.2.1 x y) (cmp_Compare.L3 x y)) ∧ (∀ x y, Le ((cmp_Compare.step mm_ KK_).2.2.2.1 x y) (cmp_Compare.L4 x y)) ∧ (Le ((cmp_Compare.step mm_ KK_).2.2.2.2 ) (cmp_Compare.L5 )) := by
  refine ⟨ by rw [cmp_Compare.L1_eq]; dsimp only [cmp_Compare.step]; (repeat' (with_reducible first | exact hh_.1 | exact hh_.2.1 _ _ _ | exact hh_.2.2.1 _ _ | exact hh_.2.2.2.1 _ _ | exact hh_.2.2.2.2 | exact cmp_isNaN.G_le mm_ _ | exact Le.refl _ | refine Le.cond ?_ ?_ | refine Le.bind ?_ fun _ => ?_)),
    fun x y yNaN => by rw [cmp_Compare.L2_eq]; dsimp only [cmp_Compare.step]; (repeat' (with_reducible first | exact hh_.1 | exact hh_.2.1 _ _ _ | exact hh_.2.2.1 _ _ | exact hh_.2.2.2.1 _ _ | exact hh_.2.2.2.2 | exact cmp_isNaN.G_le mm_ _ | exact Le.refl _ | refine Le.cond ?_ ?_ | refine Le.bind ?_ fun _ => ?_)),
    fun x y => by rw [cmp_Compare.L3_eq]; dsimp only [cmp_Compare.step]; (repeat' (with_reducible first | exact hh_.1 | exact hh_.2.1 _ _ _ | exact hh_.2.2.1 _ _ | exact hh_.2.2.2.1 _ _ | exact hh_.2.2.2.2 | exact cmp_isNaN.G_le mm_ _ | exact Le.refl _ | refine Le.cond ?_ ?_ | refine Le.bind ?_ fun _ => ?_)),
    fun x y => by rw [cmp_Compare.L4_eq]; dsimp only [cmp_Compare.step]; (repeat' (with_reducible first | exact hh_.1 | exact hh_.2.1 _ _ _ | exact hh_.2.2.1 _ _ | exact hh_.2.2.2.1 _ _ | exact hh_.2.2.2.2 | exact cmp_isNaN.G_le mm_ _ | exact Le.refl _ | refine Le.cond ?_ ?_ | refine Le.bind ?_ fun _ => ?_)),
     by rw [cmp_Compare.L5_eq]; dsimp only [cmp_Compare.step]; (repeat' (with_reducible first | exact hh_.1 | exact hh_.2.1 _ _ _ | exact hh_.2.2.1 _ _ | exact hh_.2.2.2.1 _ _ | exact hh_.2.2.2.2 | exact cmp_isNaN.G_le mm_ _ | exact Le.refl _ | refine Le.cond ?_ ?_ | refine Le.bind ?_ fun _ => ?_))⟩
theorem cmp_Compare.K_le (mm_ : Nat) : ∀ nn_, (Le ((cmp_Compare.K mm_ nn_).1 ) (cmp_Compare.L1 )) ∧ (∀ x y yNaN, Le ((cmp_Compare.K mm_ nn_).2.1 x y yNaN) (cmp_Compare.L2 x y yNaN)) ∧ (∀ x y, Le ((cmp_Compare.K mm_ nn_).2.2.1 x y) (cmp_Compare.L3 x y)) ∧ (∀ x y, Le ((cmp_Compare.K mm_ nn_).2.2.2.1 x y) (cmp_Compare.L4 x y)) ∧ (Le ((cmp_Compare.K mm_ nn_).2.2.2.2 ) (cmp_Compare.L5 ))
  | 0 => ⟨ Le.none _, fun _ _ _ => Le.none _, fun _ _ => Le.none _, fun _ _ => Le.none _,  Le.none _⟩
  | nn_ + 1 => cmp_Compare.step_le mm_ (cmp_Compare.K mm_ nn_) (cmp_Compare.K_le mm_ nn_)
noncomputable def cmp_Compare.G (mm_ : Nat) (x : Int) (y : Int) : Option (Int × Unit) :=
  ((cmp_isNaN.G mm_) x).bind fun r0 =>
  ((cmp_isNaN.G mm_) y).bind fun r1 =>
  bif r0.1 then
    bif r1.1 then
      some (0, ())
    else
      (cmp_Compare.K mm_ mm_).1
  else
    (cmp_Compare.K mm_ mm_).2.1 x y r1.1
theorem cmp_Compare.G_le (mm_ : Nat) (x : Int) (y : Int) : Le (cmp_Compare.G mm_ x y) (cmp_Compare.F x y) := by
  rw [cmp_Compare.F_eq]; unfold cmp_Compare.G; (repeat' (with_reducible first | exact (cmp_Compare.K_le mm_ mm_).1 | exact (cmp_Compare.K_le mm_ mm_).2.1 _ _ _ | exact (cmp_Compare.K_le mm_ mm_).2.2.1 _ _ | exact (cmp_Compare.K_le mm_ mm_).2.2.2.1 _ _ | exact (cmp_Compare.K_le mm_ mm_).2.2.2.2 | exact cmp_isNaN.G_le mm_ _ | exact Le.refl _ | refine Le.cond ?_ ?_ | refine Le.bind ?_ fun _ => ?_))
/-! ### registry_find_1 -/
noncomputable def registry_find_1.G (mm_ : Nat) (p : t7.den) (t : Int) : Option (Int × Unit) :=
  ((cmp_Compare.G mm_) p.1 t).bind fun r0 =>
  some (r0.1, ())
theorem registry_find_1.G_le (mm_ : Nat) (p : t7.den) (t : Int) : Le (registry_find_1.G mm_ p t) (registry_find_1.F p t) := by
  rw [registry_find_1.F_eq]; unfold registry_find_1.G; (repeat' (with_reducible first  | exact cmp_Compare.G_le mm_ _ _ | exact Le.refl _ | refine Le.cond ?_ ?_ | refine Le.bind ?_ fun _ => ?_))
/-! ### slices_BinarySearchFunc -/
noncomputable def slices_BinarySearchFunc.step (mm_ : Nat) (KK_ : ((List t7.den) → Int → Int → Int → Int → (Option (Int × Bool × Unit))) × ((List t7.den) → Int → Int → Int → Int → (Option (Int × Bool × Unit))) × ((List t7.den) → Int → Int → Int → Int → (Option (Int × Bool × Unit)))) : ((List t7.den) → Int → Int → Int → Int → (Option (Int × Bool × Unit))) × ((List t7.den) → Int → Int → Int → Int → (Option (Int × Bool × Unit))) × ((List t7.den) → Int → Int → Int → Int → (Option (Int × Bool × Unit))) := ((fun (x : (List t7.den)) (target : Int) (n : Int) (i : Int) (j : Int) =>
  bif (decide ((i : Int) < j)) then
    KK_.2.1 x target n i j
  else
    bif (decide ((i : Int) < n)) then
      bif (decide ((0 : Int) ≤ i ∧ (i : Int) < ((List.length x : Int)))) then
        ((registry_find_1.G mm_) (List.getD x (Int.toNat i) (0, (List.replicate 3 (0, 0, 0, ())), ((0, 0, 0, ()), 0, 0, 0, ()), (0, ([] : List Int), ([] : List t1.den), (([] : List Int), ([] : List Bool), 0, ()), ([] : List t3.den), (([] : List Int), ([] : List Int), 0, 0, ()), ()), (0, ([] : List Int), ([] : List t1.den), (([] : List Int), ([] : List Bool), 0, ()), ([] : List t3.den), (([] : List Int), ([] : List Int), 0, 0, ()), ()), ([] : List Int), (0, 0, 0, ()), ())) target).bind fun r0 =>
        some (i, (r0.1 == 0), ())
      else none
    else
      some (i, false, ())),
(fun (x : (List t7.den)) (target : Int) (n : Int) (i : Int) (j : Int) =>
  bif (decide ((0 : Int) ≤ 1)) then
    bif (decide ((0 : Int) ≤ (IntKind.wrap .i64 (Int.fdiv (IntKind.wrap .u64 (IntKind.wrap .i64 (i + j))) (2 ^ min (Int.toNat 1) (IntKind.bits .u64)))) ∧ ((IntKind.wrap .i64 (Int.fdiv (IntKind.wrap .u64 (IntKind.wrap .i64 (i + j))) (2 ^ min (Int.toNat 1) (IntKind.bits .u64)))) : Int) < ((List.length x : Int)))) then
      ((registry_find_1.G mm_) (List.getD x (Int.toNat (IntKind.wrap .i64 (Int.fdiv (IntKind.wrap .u64 (IntKind.wrap .i64 (i + j))) (2 ^ min (Int.toNat 1) (IntKind.bits .u64))))) (0, (List.replicate 3 (0, 0, 0, ())), ((0, 0, 0, ()), 0, 0, 0, ()), (0, ([] : List Int), ([] : List t1.den), (([] : List Int), ([] : List Bool), 0, ()), ([] : List t3.den), (([] : List Int), ([] : List Int), 0, 0, ()), ()), (0, ([] : List Int), ([] : List t1.den), (([] : List Int), ([] : List Bool), 0, ()), ([] : List t3.den), (([] : List Int), ([] : List Int), 0, 0, ()), ()), ([] : List Int), (0, 0, 0, ()), ())) target).bind fun r0 =>
      bif (decide ((r0.1 : Int) < 0)) then
        KK_.2.2 x target n (IntKind.wrap .i64 ((IntKind.wrap .i64 (Int.fdiv (IntKind.wrap .u64 (IntKind.wrap .i64 (i + j))) (2 ^ min (Int.toNat 1) (IntKind.bits .u64)))) + 1)) j
      else
        KK_.2.2 x target n i (IntKind.wrap .i64 (Int.fdiv (IntKind.wrap .u64 (IntKind.wrap .i64 (i + j))) (2 ^ min (Int.toNat 1) (IntKind.bits .u64))))
    else none
  else none),
(fun (x : (List t7.den)) (target : Int) (n : Int) (i : Int) (j : Int) =>
  KK_.1 x target n i j))
noncomputable def slices_BinarySearchFunc.K (mm_ : Nat) : Nat → ((List t7.den) → Int → Int → Int → Int → (Option (Int × Bool × Unit))) × ((List t7.den) → Int → Int → Int → Int → (Option (Int × Bool × Unit))) × ((List t7.den) → Int → Int → Int → Int → (Option (Int × Bool × Unit)))
  | 0 => ((fun _ _ _ _ _ => none), (fun _ _ _ _ _ => none), (fun _ _ _ _ _ => none))
  | nn_ + 1 => slices_BinarySearchFunc.step mm_ (slices_BinarySearchFunc.K mm_ nn_)
theorem slices_BinarySearchFunc.step_le (mm_ : Nat) (KK_ : ((List t7.den) → Int → Int → Int → Int → (Option (Int × Bool × Unit))) × ((List t7.den) → Int → Int → Int → Int → (Option (Int × Bool × Unit))) × ((List t7.den) → Int → Int → Int → Int → (Option (Int × Bool × Unit)))) (hh_ : (∀ x target n i j, Le (KK_.1 x target n i j) (slices_BinarySearchFunc.L1 x target n i j)) ∧ (∀ x target n i j, Le (KK_.2.1 x target n i j) (slices_BinarySearchFunc.L2 x target n i j)) ∧ (∀ x target n i j, Le (KK_.2.2 x target n i j) (slices_BinarySearchFunc.L3 x target n i j))) : (∀ x target n i j, Le ((slices_BinarySearchFunc.step mm_ KK_).1 x target n i j) (slices_BinarySearchFunc.L1 x target n i j)) ∧ (∀ x target n i j, Le ((slices_BinarySearchFunc.step mm_ KK_).2.1 x target n i j) (slices_BinarySearchFunc.L2 x target n i j)) ∧ (∀ x target n i j, Le ((slices_BinarySearchFunc.step mm_ KK_).2.2 x target n i j) (slices_BinarySearchFunc.L3 x target n i j)) := by
  refine ⟨fun x target n i j => by rw [slices_BinarySearchFunc.L1_eq]; dsimp only [slices_BinarySearchFunc.step]; (repeat' (with_reducible first | exact hh_.1 _ _ _ _ _ | exact hh_.2.1 _ _ _ _ _ | exact hh_.2.2 _ _ _ _ _ | exact registry_find_1.G_le mm_ _ _ | exact Le.refl _ | refine Le.cond ?_ ?_ | refine Le.bind ?_ fun _ => ?_)),
    fun x target n i j => by rw [slices_BinarySearchFunc.L2_eq]; dsimp only [slices_BinarySearchFunc.step]; (repeat' (with_reducible first | exact hh_.1 _ _ _ _ _ | exact hh_.2.1 _ _ _ _ _ | exact hh_.2.2 _ _ _ _ _ | exact registry_find_1.G_le mm_ _ _ | exact Le.refl _ | refine Le.cond ?_ ?_ | refine Le.bind ?_ fun _ => ?_)),
    fun x target n i j => by rw [slices_BinarySearchFunc.L3_eq]; dsimp only [slices_BinarySearchFunc.step]; (repeat' (with_reducible first | exact hh_.1 _ _ _ _ _ | exact hh_.2.1 _ _ _ _ _ | exact hh_.2.2 _ _ _ _ _ | exact registry_find_1.G_le mm_ _ _ | exact Le.refl _ | refine Le.cond ?_ ?_ | refine Le.bind ?_ fun _ => ?_))⟩
theorem slices_BinarySearchFunc.K_le (mm_ : Nat) : ∀ nn_, (∀ x target n i j, Le ((slices_BinarySearchFunc.K mm_ nn_).1 x target n i j) (slices_BinarySearchFunc.L1 x target n i j)) ∧ (∀ x target n i j, Le ((slices_BinarySearchFunc.K mm_ nn_).2.1 x target n i j) (slices_BinarySearchFunc.L2 x target n i j)) ∧ (∀ x target n i j, Le ((slices_BinarySearchFunc.K mm_ nn_).2.2 x target n i j) (slices_BinarySearchFunc.L3 x target n i j))
  | 0 => ⟨fun _ _ _ _ _ => Le.none _, fun _ _ _ _ _ => Le.none _, fun _ _ _ _ _ => Le.none _⟩
  | nn_ + 1 => slices_BinarySearchFunc.step_le mm_ (slices_BinarySearchFunc.K mm_ nn_) (slices_BinarySearchFunc.K_le mm_ nn_)
noncomputable def slices_BinarySearchFunc.G (mm_ : Nat) (x : (List t7.den)) (target : Int) : Option (Int × Bool × Unit) :=
  (slices_BinarySearchFunc.K mm_ mm_).1 x target ((List.length x : Int)) 0 ((List.length x : Int))
theorem slices_BinarySearchFunc.G_le (mm_ : Nat) (x : (List t7.den)) (target : Int) : Le (slices_BinarySearchFunc.G mm_ x target) (slices_BinarySearchFunc.F x target) := by
  rw [slices_BinarySearchFunc.F_eq]; unfold slices_BinarySearchFunc.G; (repeat' (with_reducible first | exact (slices_BinarySearchFunc.K_le mm_ mm_).1 _ _ _ _ _ | exact (slices_BinarySearchFunc.K_le mm_ mm_).2.1 _ _ _ _ _ | exact (slices_BinarySearchFunc.K_le mm_ mm_).2.2 _ _ _ _ _ | exact registry_find_1.G_le mm_ _ _ | exact Le.refl _ | refine Le.cond ?_ ?_ | refine Le.bind ?_ fun _ => ?_))
/-! ### registry_find -/
noncomputable def registry_find.G (mm_ : Nat) (l : (List t7.den)) (tenant : Int) : Option (Int × Bool × Unit) :=
  ((slices_BinarySearchFunc.G mm_) l tenant).bind fun r0 =>
  some (r0.1, r0.2.1, ())
theorem registry_find.G_le (mm_ : Nat) (l : (List t7.den)) (tenant : Int) : Le (registry_find.G mm_ l tenant) (registry_find.F l tenant) := by
  rw [registry_find.F_eq]; unfold registry_find.G; (repeat' (with_reducible first  | exact slices_BinarySearchFunc.G_le mm_ _ _ | exact Le.refl _ | refine Le.cond ?_ ?_ | refine Le.bind ?_ fun _ => ?_))
/-! ### registry_twin -/
noncomputable def registry_twin.G (mm_ : Nat) (t : t5.den) : Option (t5.den × Unit) :=
  bif (lim (List.length t.2.1) (.int .u32)) then
    bif (lim (List.length t.2.2.1) t1) then
      bif (lim (List.length t.2.2.2.2.1) t3) then
        bif (lim (List.length t.2.2.2.1.1) (.int .i64)) then
          bif (lim (List.length t.2.2.2.1.2.1) .bool) then
            bif (lim (List.length t.2.2.2.2.2.1.1) (.int .i64)) then
              bif (lim (List.length t.2.2.2.2.2.1.2.1) (.int .i64)) then
                some (t, ())
              else none
            else none
          else none
        else none
      else none
    else none
  else none
theorem registry_twin.G_le (mm_ : Nat) (t : t5.den) : Le (registry_twin.G mm_ t) (registry_twin.F t) := by
  rw [registry_twin.F_eq]; unfold registry_twin.G; (repeat' (with_reducible first   | exact Le.refl _ | refine Le.cond ?_ ?_ | refine Le.bind ?_ fun _ => ?_))
/-! ### registry_copied -/
noncomputable def registry_copied.G (mm_ : Nat) (p : t7.den) : Option (t7.den × Unit) :=
  ((registry_twin.G mm_) p.2.2.2.1).bind fun r0 =>
  ((registry_twin.G mm_) p.2.2.2.2.1).bind fun r1 =>
  bif (lim (List.length p.2.2.2.2.2.1) (.int .u32)) then
    some ((p.1, p.2.1, p.2.2.1, r0.1, r1.1, p.2.2.2.2.2.1, p.2.2.2.2.2.2.1, ()), ())
  else none
theorem registry_copied.G_le (mm_ : Nat) (p : t7.den) : Le (registry_copied.G mm_ p) (registry_copied.F p) := by
  rw [registry_copied.F_eq]; unfold registry_copied.G; (repeat' (with_reducible first  | exact registry_twin.G_le mm_ _ | exact Le.refl _ | refine Le.cond ?_ ?_ | refine Le.bind ?_ fun _ => ?_))
/-! ### registry_all -/
noncomputable def registry_all.step (mm_ : Nat) (KK_ : ((List t7.den) → Int → Int → (List t7.den) → (Option ((List t7.den) × Unit))) × ((List t7.den) → Int → Int → (List t7.den) → (Option ((List t7.den) × Unit)))) : ((List t7.den) → Int → Int → (List t7.den) → (Option ((List t7.den) × Unit))) × ((List t7.den) → Int → Int → (List t7.den) → (Option ((List t7.den) × Unit))) := ((fun (t6_ : (List t7.den)) (t7_ : Int) (t8_ : Int) (l0 : (List t7.den)) =>
  bif (decide ((t8_ : Int) < t7_)) then
    KK_.2 t6_ t7_ t8_ l0
  else
    some (l0, ())),
(fun (t6_ : (List t7.den)) (t7_ : Int) (t8_ : Int) (l0 : (List t7.den)) =>
  bif (decide ((0 : Int) ≤ t8_ ∧ (t8_ : Int) < ((List.length t6_ : Int)))) then
    ((registry_copied.G mm_) (List.getD t6_ (Int.toNat t8_) (0, (List.replicate 3 (0, 0, 0, ())), ((0, 0, 0, ()), 0, 0, 0, ()), (0, ([] : List Int), ([] : List t1.den), (([] : List Int), ([] : List Bool), 0, ()), ([] : List t3.den), (([] : List Int), ([] : List Int), 0, 0, ()), ()), (0, ([] : List Int), ([] : List t1.den), (([] : List Int), ([] : List Bool), 0, ()), ([] : List t3.den), (([] : List Int), ([] : List Int), 0, 0, ()), ()), ([] : List Int), (0, 0, 0, ()), ()))).bind fun r0 =>
    bif (lim ((List.length l0) + (List.length ([r0.1] : List t7.den))) t7) then
      KK_.1 t6_ t7_ (IntKind.wrap .i64 (t8_ + 1)) (l0 ++ ([r0.1] : List t7.den))
    else none
  else none))
noncomputable def registry_all.K (mm_ : Nat) : Nat → ((List t7.den) → Int → Int → (List t7.den) → (Option ((List t7.den) × Unit))) × ((List t7.den) → Int → Int → (List t7.den) → (Option ((List t7.den) × Unit)))
  | 0 => ((fun _ _ _ _ => none), (fun _ _ _ _ => none))
  | nn_ + 1 => registry_all.step mm_ (registry_all.K mm_ nn_)
theorem registry_all.step_le (mm_ : Nat) (KK_ : ((List t7.den) → Int → Int → (List t7.den) → (Option ((List t7.den) × Unit))) × ((List t7.den) → Int → Int → (List t7.den) → (Option ((List t7.den) × Unit)))) (hh_ : (∀ t6_ t7_ t8_ l0, Le (KK_.1 t6_ t7_ t8_ l0) (registry_all.L1 t6_ t7_ t8_ l0)) ∧ (∀ t6_ t7_ t8_ l0, Le (KK_.2 t6_ t7_ t8_ l0) (registry_all.L2 t6_ t7_ t8_ l0))) : (∀ t6_ t7_ t8_ l0, Le ((registry_all.step mm_ KK_).1 t6_ t7_ t8_ l0) (registry_all.L1 t6_ t7_ t8_ l0)) ∧ (∀ t6_ t7_ t8_ l0, Le ((registry_all.step mm_ KK_).2 t6_ t7_ t8_ l0) (registry_all.L2 t6_ t7_ t8_ l0)) := by
  refine ⟨fun t6_ t7_ t8_ l0 => by rw [registry_all.L1_eq]; dsimp only [registry_all.step]; (repeat' (with_reducible first | exact hh_.1 _ _ _ _ | exact hh_.2 _ _ _ _ | exact registry_copied.G_le mm_ _ | exact Le.refl _ | refine Le.cond ?_ ?_ | refine Le.bind ?_ fun _ => ?_)),
    fun t6_ t7_ t8_ l0 => by rw [registry_all.L2_eq]; dsimp only [registry_all.step]; (repeat' (with_reducible first | exact hh_.1 _ _ _ _ | exact hh_.2 _ _ _ _ | exact registry_copied.G_le mm_ _ | exact Le.refl _ | refine Le.cond ?_ ?_ | refine Le.bind ?_ fun _ => ?_))⟩
theorem registry_all.K_le (mm_ : Nat) : ∀ nn_, (∀ t6_ t7_ t8_ l0, Le ((registry_all.K mm_ nn_).1 t6_ t7_ t8_ l0) (registry_all.L1 t6_ t7_ t8_ l0)) ∧ (∀ t6_ t7_ t8_ l0, Le ((registry_all.K mm_ nn_).2 t6_ t7_ t8_ l0) (registry_all.L2 t6_ t7_ t8_ l0))
  | 0 => ⟨fun _ _ _ _ => Le.none _, fun _ _ _ _ => Le.none _⟩
  | nn_ + 1 => registry_all.step_le mm_ (registry_all.K mm_ nn_) (registry_all.K_le mm_ nn_)
noncomputable def registry_all.G (mm_ : Nat) (l : (List t7.den)) : Option ((List t7.den) × Unit) :=
  (registry_all.K mm_ mm_).1 l ((List.length l : Int)) 0 ([] : List t7.den)
theorem registry_all.G_le (mm_ : Nat) (l : (List t7.den)) : Le (registry_all.G mm_ l) (registry_all.F l) := by
  rw [registry_all.F_eq]; unfold registry_all.G; (repeat' (with_reducible first | exact (registry_all.K_le mm_ mm_).1 _ _ _ _ | exact (registry_all.K_le mm_ mm_).2 _ _ _ _ | exact registry_copied.G_le mm_ _ | exact Le.refl _ | refine Le.cond ?_ ?_ | refine Le.bind ?_ fun _ => ?_))
/-! ### registry_Put -/
noncomputable def registry_Put.step (mm_ : Nat) (KK_ : ((List t7.den) → Int → (List t0.den) → Int → Int → Int → Int → Int → Int → Int → (List Int) → (List t1.den) → (List Int) → (List Bool) → Int → (List t3.den) → (List Int) → (List Int) → Int → Int → Int → (List Int) → (List t1.den) → (List Int) → (List Bool) → Int → (List t3.den) → (List Int) → (List Int) → Int → Int → (List Int) → Int → Int → Int → (Option ((List t7.den) × Int × Unit))) × ((List t7.den) → Int → (List t0.den) → Int → Int → Int → Int → Int → Int → Int → (List Int) → (List t1.den) → (List Int) → (List Bool) → Int → (List t3.den) → (List Int) → (List Int) → Int → Int → Int → (List Int) → (List t1.den) → (List Int) → (List Bool) → Int → (List t3.den) → (List Int) → (List Int) → Int → Int → (List Int) → Int → Int → Int → (Option ((List t7.den) × Int × Unit))) × ((List t7.den) → Int → Int → (List t0.den) → Int → Int → Int → Int → Int → Int → Int → (List Int) → (List t1.den) → (List Int) → (List Bool) → Int → (List t3.den) → (List Int) → (List Int) → Int → Int → Int → (List Int) → (List t1.den) → (List Int) → (List Bool) → Int → (List t3.den) → (List Int) → (List Int) → Int → Int → (List Int) → Int → Int → Int → (Option ((List t7.den) × Int × Unit))) × ((List t7.den) → Int → Int → (List t0.den) → Int → Int → Int → Int → Int → Int → Int → (List Int) → (List t1.den) → (List Int) → (List Bool) → Int → (List t3.den) → (List Int) → (List Int) → Int → Int → Int → (List Int) → (List t1.den) → (List Int) → (List Bool) → Int → (List t3.den) → (List Int) → (List Int) → Int → Int → (List Int) → Int → Int → Int → (Option ((List t7.den) × Int × Unit)))) : ((List t7.den) → Int → (List t0.den) → Int → Int → Int → Int → Int → Int → Int → (List Int) → (List t1.den) → (List Int) → (List Bool) → Int → (List t3.den) → (List Int) → (List Int) → Int → Int → Int → (List Int) → (List t1.den) → (List Int) → (List Bool) → Int → (List t3.den) → (List Int) → (List Int) → Int → Int → (List Int) → Int → Int → Int → (Option ((List t7.den) × Int × Unit))) × ((List t7.den) → Int → (List t0.den) → Int → Int → Int → Int → Int → Int → Int → (List Int) → (List t1.den) → (List Int) → (List Bool) → Int → (List t3.den) → (List Int) → (List Int) → Int → Int → Int → (List Int) → (List t1.den) → (List Int) → (List Bool) → Int → (List t3.den) → (List Int) → (List Int) → Int → Int → (List Int) → Int → Int → Int → (Option ((List t7.den) × Int × Unit))) × ((List t7.den) → Int → Int → (List t0.den) → Int → Int → Int → Int → Int → Int → Int → (List Int) → (List t1.den) → (List Int) → (List Bool) → Int → (List t3.den) → (List Int) → (List Int) → Int → Int → Int → (List Int) → (List t1.den) → (List Int) → (List Bool) → Int → (List t3.den) → (List Int) → (List Int) → Int → Int → (List Int) → Int → Int → Int → (Option ((List t7.den) × Int × Unit))) × ((List t7.den) → Int → Int → (List t0.den) → Int → Int → Int → Int → Int → Int → Int → (List Int) → (List t1.den) → (List Int) → (List Bool) → Int → (List t3.den) → (List Int) → (List Int) → Int → Int → Int → (List Int) → (List t1.den) → (List Int) → (List Bool) → Int → (List t3.den) → (List Int) → (List Int) → Int → Int → (List Int) → Int → Int → Int → (Option ((List t7.den) × Int × Unit))) := ((fun (l : (List t7.den)) (b0 : Int) (b02 : (List t0.den)) (b03 : Int) (b04 : Int) (b05 : Int) (b06 : Int) (b07 : Int) (b08 : Int) (b09 : Int) (b010 : (List Int)) (b011 : (List t1.den)) (b012 : (List Int)) (b013 : (List Bool)) (b014 : Int) (b015 : (List t3.den)) (b016 : (List Int)) (b017 : (List Int)) (b018 : Int) (b019 : Int) (b020 : Int) (b021 : (List Int)) (b022 : (List t1.den)) (b023 : (List Int)) (b024 : (List Bool)) (b025 : Int) (b026 : (List t3.den)) (b027 : (List Int)) (b028 : (List Int)) (b029 : Int) (b030 : Int) (b031 : (List Int)) (b032 : Int) (b033 : Int) (b034 : Int) =>
  ((part_Check.G mm_) (b0, b02, ((b03, b04, b05, ()), b06, b07, b08, ()), (b09, b010, b011, (b012, b013, b014, ()), b015, (b016, b017, b018, b019, ()), ()), (b020, b021, b022, (b023, b024, b025, ()), b026, (b027, b028, b029, b030, ()), ()), b031, (b032, b033, b034, ()), ())).bind fun r0 =>
  bif (r0.1 != 0) then
    some (([] : List t7.den), 8, ())
  else
    KK_.2.1 l b0 b02 b03 b04 b05 b06 b07 b08 b09 b010 b011 b012 b013 b014 b015 b016 b017 b018 b019 b020 b021 b022 b023 b024 b025 b026 b027 b028 b029 b030 b031 b032 b033 b034),
(fun (l : (List t7.den)) (b0 : Int) (b02 : (List t0.den)) (b03 : Int) (b04 : Int) (b05 : Int) (b06 : Int) (b07 : Int) (b08 : Int) (b09 : Int) (b010 : (List Int)) (b011 : (List t1.den)) (b012 : (List Int)) (b013 : (List Bool)) (b014 : Int) (b015 : (List t3.den)) (b016 : (List Int)) (b017 : (List Int)) (b018 : Int) (b019 : Int) (b020 : Int) (b021 : (List Int)) (b022 : (List t1.den)) (b023 : (List Int)) (b024 : (List Bool)) (b025 : Int) (b026 : (List t3.den)) (b027 : (List Int)) (b028 : (List Int)) (b029 : Int) (b030 : Int) (b031 : (List Int)) (b032 : Int) (b033 : Int) (b034 : Int) =>
  ((registry_find.G mm_) l b0).bind fun r0 =>
  bif r0.2.1 then
    some (([] : List t7.den), 14, ())
  else
    KK_.2.2.1 l r0.1 b0 b02 b03 b04 b05 b06 b07 b08 b09 b010 b011 b012 b013 b014 b015 b016 b017 b018 b019 b020 b021 b022 b023 b024 b025 b026 b027 b028 b029 b030 b031 b032 b033 b034),
(fun (l : (List t7.den)) (i : Int) (b0 : Int) (b02 : (List t0.den)) (b03 : Int) (b04 : Int) (b05 : Int) (b06 : Int) (b07 : Int) (b08 : Int) (b09 : Int) (b010 : (List Int)) (b011 : (List t1.den)) (b012 : (List Int)) (b013 : (List Bool)) (b014 : Int) (b015 : (List t3.den)) (b016 : (List Int)) (b017 : (List Int)) (b018 : Int) (b019 : Int) (b020 : Int) (b021 : (List Int)) (b022 : (List t1.den)) (b023 : (List Int)) (b024 : (List Bool)) (b025 : Int) (b026 : (List t3.den)) (b027 : (List Int)) (b028 : (List Int)) (b029 : Int) (b030 : Int) (b031 : (List Int)) (b032 : Int) (b033 : Int) (b034 : Int) =>
  bif (((List.length l : Int)) == 8) then
    some (([] : List t7.den), 18, ())
  else
    KK_.2.2.2 l i b0 b02 b03 b04 b05 b06 b07 b08 b09 b010 b011 b012 b013 b014 b015 b016 b017 b018 b019 b020 b021 b022 b023 b024 b025 b026 b027 b028 b029 b030 b031 b032 b033 b034),
(fun (l : (List t7.den)) (i : Int) (b0 : Int) (b02 : (List t0.den)) (b03 : Int) (b04 : Int) (b05 : Int) (b06 : Int) (b07 : Int) (b08 : Int) (b09 : Int) (b010 : (List Int)) (b011 : (List t1.den)) (b012 : (List Int)) (b013 : (List Bool)) (b014 : Int) (b015 : (List t3.den)) (b016 : (List Int)) (b017 : (List Int)) (b018 : Int) (b019 : Int) (b020 : Int) (b021 : (List Int)) (b022 : (List t1.den)) (b023 : (List Int)) (b024 : (List Bool)) (b025 : Int) (b026 : (List t3.den)) (b027 : (List Int)) (b028 : (List Int)) (b029 : Int) (b030 : Int) (b031 : (List Int)) (b032 : Int) (b033 : Int) (b034 : Int) =>
  ((registry_all.G mm_) l).bind fun r0 =>
  ((registry_copied.G mm_) (b0, b02, ((b03, b04, b05, ()), b06, b07, b08, ()), (b09, b010, b011, (b012, b013, b014, ()), b015, (b016, b017, b018, b019, ()), ()), (b020, b021, b022, (b023, b024, b025, ()), b026, (b027, b028, b029, b030, ()), ()), b031, (b032, b033, b034, ()), ())).bind fun r1 =>
  bif (decide ((0 : Int) ≤ i ∧ (i : Int) ≤ (List.length r0.1 : Int)) && lim (List.length r0.1 + List.length ([r1.1] : List t7.den)) t7) then
    some ((((List.take (Int.toNat i) r0.1) ++ ([r1.1] : List t7.den)) ++ (List.drop (Int.toNat i) r0.1)), 0, ())
  else none))
noncomputable def registry_Put.K (mm_ : Nat) : Nat → ((List t7.den) → Int → (List t0.den) → Int → Int → Int → Int → Int → Int → Int → (List Int) → (List t1.den) → (List Int) → (List Bool) → Int → (List t3.den) → (List Int) → (List Int) → Int → Int → Int → (List Int) → (List t1.den) → (List Int) → (List Bool) → Int → (List t3.den) → (List Int) → (List Int) → Int → Int → (List Int) → Int → Int → Int → (Option ((List t7.den) × Int × Unit))) × ((List t7.den) → Int → (List t0.den) → Int → Int → Int → Int → Int → Int → Int → (List Int) → (List t1.den) → (List Int) → (List Bool) → Int → (List t3.den) → (List Int) → (List Int) → Int → Int → Int → (List Int) → (List t1.den) → (List Int) → (List Bool) → Int → (List t3.den) → (List Int) → (List Int) → Int → Int → (List Int) → Int → Int → Int → (Option ((List t7.den) × Int × Unit))) × ((List t7.den) → Int → Int → (List t0.den) → Int → Int → Int → Int → Int → Int → Int → (List Int) → (List t1.den) → (List Int) → (List Bool) → Int → (List t3.den) → (List Int) → (List Int) → Int → Int → Int → (List Int) → (List t1.den) → (List Int) → (List Bool) → Int → (List t3.den) → (List Int) → (List Int) → Int → Int → (List Int) → Int → Int → Int → (Option ((List t7.den) × Int × Unit))) × ((List t7.den) → Int → Int → (List t0.den) → Int → Int → Int → Int → Int → Int → Int → (List Int) → (List t1.den) → (List Int) → (List Bool) → Int → (List t3.den) → (List Int) → (List Int) → Int → Int → Int → (List Int) → (List t1.den) → (List Int) → (List Bool) → Int → (List t3.den) → (List Int) → (List Int) → Int → Int → (List Int) → Int → Int → Int → (Option ((List t7.den) × Int × Unit)))
  | 0 => ((fun _ _ _ _ _ _ _ _ _ _ _ _ _ _ _ _ _ _ _ _ _ _ _ _ _ _ _ _ _ _ _ _ _ _ _ => none), (fun _ _ _ _ _ _ _ _ _ _ _ _ _ _ _ _ _ _ _ _ _ _ _ _ _ _ _ _ _ _ _ _ _ _ _ => none), (fun _ _ _ _ _ _ _ _ _ _ _ _ _ _ _ _ _ _ _ _ _ _ _ _ _ _ _ _ _ _ _ _ _ _ _ _ => none), (fun _ _ _ _ _ _ _ _ _ _ _ _ _ _ _ _ _ _ _ _ _ _ _ _ _ _ _ _ _ _ _ _ _ _ _ _ => none))
  | nn_ + 1 => registry_Put.step mm_ (registry_Put.K mm_ nn_)
theorem registry_Put.step_le (mm_ : Nat) (KK_ : ((List t7.den) → Int → (List t0.den) → Int → Int → Int → Int → Int → Int → Int → (List Int) → (List t1.den) → (List Int) → (List Bool) → Int → (List t3.den) → (List Int) → (List Int) → Int → Int → Int → (List Int) → (List t1.den) → (List Int) → (List Bool) → Int → (List t3.den) → (List Int) → (List Int) → Int → Int → (List Int) → Int → Int → Int → (Option ((List t7.den) × Int × Unit))) × ((List t7.den) → Int → (List t0.den) → Int → Int → Int → Int → Int → Int → Int → (List Int) → (List t1.den) → (List Int) → (List Bool) → Int → (List t3.den) → (List Int) → (List Int) → Int → Int → Int → (List Int) → (List t1.den) → (List Int) → (List Bool) → Int → (List t3.den) → (List Int) → (List Int) → Int → Int → (List Int) → Int → Int → Int → (Option ((List t7.den) × Int × Unit))) × ((List t7.den) → Int → Int → (List t0.den) → Int → Int → Int → Int → Int → Int → Int → (List Int) → (List t1.den) → (List Int) → (List Bool) → Int → (List t3.den) → (List Int) → (List Int) → Int → Int → Int → (List Int) → (List t1.den) → (List Int) → (List Bool) → Int → (List t3.den) → (List Int) → (List Int) → Int → Int → (List Int) → Int → Int → Int → (Option ((List t7.den) × Int × Unit))) × ((List t7.den) → Int → Int → (List t0.den) → Int → Int → Int → Int → Int → Int → Int → (List Int) → (List t1.den) → (List Int) → (List Bool) → Int → (List t3.den) → (List Int) → (List Int) → Int → Int → Int → (List Int) → (List t1.den) → (List Int) → (List Bool) → Int → (List t3.den) → (List Int) → (List Int) → Int → Int → (List Int) → Int → Int → Int → (Option ((List t7.den) × Int × Unit)))) (hh_ : (∀ l b0 b02 b03 b04 b05 b06 b07 b08 b09 b010 b011 b012 b013 b014 b015 b016 b017 b018 b019 b020 b021 b022 b023 b024 b025 b026 b027 b028 b029 b030 b031 b032 b033 b034, Le (KK_.1 l b0 b02 b03 b04 b05 b06 b07 b08 b09 b010 b011 b012 b013 b014 b015 b016 b017 b018 b019 b020 b021 b022 b023 b024 b025 b026 b027 b028 b029 b030 b031 b032 b033 b034) (registry_Put.L1 l b0 b02 b03 b04 b05 b06 b07 b08 b09 b010 b011 b012 b013 b014 b015 b016 b017 b018 b019 b020 b021 b022 b023 b024 b025 b026 b027 b028 b029 b030 b031 b032 b033 b034)) ∧ (∀ l b0 b02 b03 b04 b05 b06 b07 b08 b09 b010 b011 b012 b013 b014 b015 b016 b017 b018 b019 b020 b021 b022 b023 b024 b025 b026 b027 b028 b029 b030 b031 b032 b033 b034, Le (KK_.2.1 l b0 b02 b03 b04 b05 b06 b07 b08 b09 b010 b011 b012 b013 b014 b015 b016 b017 b018 b019 b020 b021 b022 b023 b024 b025 b026 b027 b028 b029 b030 b031 b032 b033 b034) (registry_Put.L2 l b0 b02 b03 b04 b05 b06 b07 b08 b09 b010 b011 b012 b013 b014 b015 b016 b017 b018 b019 b020 b021 b022 b023 b024 b025 b026 b027 b028 b029 b030 b031 b032 b033 b034)) ∧ (∀ l i b0 b02 b03 b04 b05 b06 b07 b08 b09 b010 b011 b012 b013 b014 b015 b016 b017 b018 b019 b020 b021 b022 b023 b024 b025 b026 b027 b028 b029 b030 b031 b032 b033 b034, Le (KK_.2.2.1 l i b0 b02 b03 b04 b05 b06 b07 b08 b09 b010 b011 b012 b013 b014 b015 b016 b017 b018 b019 b020 b021 b022 b023 b024 b025 b026 b027 b028 b029 b030 b031 b032 b033 b034) (registry_Put.L3 l i b0 b02 b03 b04 b05 b06 b07 b08 b09 b010 b011 b012 b013 b014 b015 b016 b017 b018 b019 b020 b021 b022 b023 b024 b025 b026 b027 b028 b029 b030 b031 b032 b033 b034)) ∧ (∀ l i b0 b02 b03 b04 b05 b06 b07 b08 b09 b010 b011 b012 b013 b014 b015 b016 b017 b018 b019 b020 b021 b022 b023 b024 b025 b026 b027 b028 b029 b030 b031 b032 b033 b034, Le (KK_.2.2.2 l i b0 b02 b03 b04 b05 b06 b07 b08 b09 b010 b011 b012 b013 b014 b015 b016 b017 b018 b019 b020 b021 b022 b023 b024 b025 b026 b027 b028 b029 b030 b031 b032 b033 b034) (registry_Put.L4 l i b0 b02 b03 b04 b05 b06 b07 b08 b09 b010 b011 b012 b013 b014 b015 b016 b017 b018 b019 b020 b021 b022 b023 b024 b025 b026 b027 b028 b029 b030 b031 b032 b033 b034))) : (∀ l b0 b02 b03 b04 b05 b06 b07 b08 b09 b010 b011 b012 b013 b014 b015 b016 b017 b018 b019 b020 b021 b022 b023 b024 b025 b026 b027 b028 b029 b030 b031 b032 b033 b034, Le ((registry_Put.step mm_ KK_).1 l b0 b02 b03 b04 b05 b06 b07 b08 b09 b010 b011 b012 b013 b014 b015 b016 b017 b018 b019 b020 b021 b022 b023 b024 b025 b026 b027 b028 b029 b030 b031 b032 b033 b034) (registry_Put.L1 l b0 b02 b03 b04 b05 b06 b07 b08 b09 b010 b011 b012 b013 b014 b015 b016 b017 b018 b019 b020 b021 b022 b023 b024 b025 b026 b027 b028 b029 b030 b031 b032 b033 b034)) ∧ (∀ l b0 b02 b03 b04 b05 b06 b07 b08 b09 b010 b011 b012 b013 b014 b015 b016 b017 b018 b019 b020 b021 b022 b023 b024 b025 b026 b027 b028 b029 b030 b031 b032 b033 b034, Le ((registry_Put.step mm_ KK_).2.1 l b0 b02 b03 b04 b05 b06 b07 b08 b09 b010 b011 b012 b013 b014 b015 b016 b017 b018 b019 b020 b021 b022 b023 b024 b025 b026 b027 b028 b029 b030 b031 b032 b033 b034) (registry_Put.L2 l b0 b02 b03 b04 b05 b06 b07 b08 b09 b010 b011 b012 b013 b014 b015 b016 b017 b018 b019 b020 b021 b022 b023 b024 b025 b026 b027 b028 b029 b030 b031 b032 b033 b034)) ∧ (∀ l i b0 b02 b03 b04 b05 b06 b07 b08 b09 b010 b011 b012 b013 b014 b015 b016 b017 b018 b019 b020 b021 b022 b023 b024 b025 b026 b027 b028 b029 b030 b031 b032 b033 b034, Le ((registry_Put.step mm_ KK_).2.2.1 l i b0 b02 b03 b04 b05 b06 b07 b08 b09 b010 b011 b012 b013 b014 b015 b016 b017 b018 b019 b020 b021 b022 b023 b024 b025 b026 b027 b028 b029 b030 b031 b032 b033 b034) (registry_Put.L3 l i b0 b02 b03 b04 b05 b06 b07 b08 b09 b010 b011 b012 b013 b014 b015 b016 b017 b018 b019 b020 b021 b022 b023 b024 b025 b026 b027 b028 b029 b030 b031 b032 b033 b034)) ∧ (∀ l i b0 b02 b03 b04 b05 b06 b07 b08 b09 b010 b011 b012 b013 b014 b015 b016 b017 b018 b019 b020 b021 b022 b023 b024 b025 b026 b027 b028 b029 b030 b031 b032 b033 b034, Le ((registry_Put.step mm_ KK_).2.2.2 l i b0 b02 b03 b04 b05 b06 b07 b08 b09 b010 b011 b012 b013 b014 b015 b016 b017 b018 b019 b020 b021 b022 b023 b024 b025 b026 b027 b028 b029 b030 b031 b032 b033 b034) (registry_Put.L4 l i b0 b02 b03 b04 b05 b06 b07 b08 b09 b010 b011 b012 b013 b014 b015 b016 b017 b018 b019 b020 b021 b022 b023 b024 b025 b026 b027 b028 b029 b030 b031 b032 b033 b034)) := by
  refine ⟨fun l b0 b02 b03 b04 b05 b06 b07 b08 b09 b010 b011 b012 b013 b014 b015 b016 b017 b018 b019 b020 b021 b022 b023 b024 b025 b026 b027 b028 b029 b030 b031 b032 b033 b034 => by rw [registry_Put.L1_eq]; dsimp only [registry_Put.step]; (repeat' (with_reducible first | exact hh_.1 _ _ _ _ _ _ _ _ _ _ _ _ _ _ _ _ _ _ _ _ _ _ _ _ _ _ _ _ _ _ _ _ _ _ _ | exact hh_.2.1 _ _ _ _ _ _ _ _ _ _ _ _ _ _ _ _ _ _ _ _ _ _ _ _ _ _ _ _ _ _ _ _ _ _ _ | exact hh_.2.2.1 _ _ _ _ _ _ _ _ _ _ _ _ _ _ _ _ _ _ _ _ _ _ _ _ _ _ _ _ _ _ _ _ _ _ _ _ | exact hh_.2.2.2 _ _ _ _ _ _ _ _ _ _ _ _ _ _ _ _ _ _ _ _ _ _ _ _ _ _ _ _ _ _ _ _ _ _ _ _ | exact part_Check.G_le mm_ _ | exact registry_find.G_le mm_ _ _ | exact registry_all.G_le mm_ _ | exact registry_copied.G_le mm_ _ | exact registry_Check.G_le mm_ _ | exact Le.refl _ | refine Le.cond ?_ ?_ | refine Le.bind ?_ fun _ => ?_)),
    fun l b0 b02 b03 b04 b05 b06 b07 b08 b09 b010 b011 b012 b013 b014 b015 b016 b017 b018 b019 b020 b021 b022 b023 b024 b025 b026 b027 b028 b029 b030 b031 b032 b033 b034 => by rw [registry_Put.L2_eq]; dsimp only [registry_Put.step]; (repeat' (with_reducible first | exact hh_.1 _ _ _ _ _ _ _ _ _ _ _ _ _ _ _ _ _ _ _ _ _ _ _ _ _ _ _ _ _ _ _ _ _ _ _ | exact hh_.2.1 _ _ _ _ _ _ _ _ _ _ _ _ _ _ _ _ _ _ _ _ _ _ _ _ _ _ _ _ _ _ _ _ _ _ _ | exact hh_.2.2.1 _ _ _ _ _ _ _ _ _ _ _ _ _ _ _ _ _ _ _ _ _ _ _ _ _ _ _ _ _ _ _ _ _ _ _ _ | exact hh_.2.2.2 _ _ _ _ _ _ _ _ _ _ _ _ _ _ _ _ _ _ _ _ _ _ _ _ _ _ _ _ _ _ _ _ _ _ _ _ | exact part_Check.G_le mm_ _ | exact registry_find.G_le mm_ _ _ | exact registry_all.G_le mm_ _ | exact registry_copied.G_le mm_ _ | exact registry_Check.G_le mm_ _ | exact Le.refl _ | refine Le.cond ?_ ?_ | refine Le.bind ?_ fun _ => ?_)),
    fun l i b0 b02 b03 b04 b05 b06 b07 b08 b09 b010 b011 b012 b013 b014 b015 b016 b017 b018 b019 b020 b021 b022 b023 b024 b025 b026 b027 b028 b029 b030 b031 b032 b033 b034 => by rw [registry_Put.L3_eq]; dsimp only [registry_Put.step]; (repeat' (with_reducible first | exact hh_.1 _ _ _ _ _ _ _ _ _ _ _ _ _ _ _ _ _ _ _ _ _ _ _ _ _ _ _ _ _ _ _ _ _ _ _ | exact hh_.2.1 _ _ _ _ _ _ _ _ _ _ _ _ _ _ _ _ _ _ _ _ _ _ _ _ _ _ _ _ _ _ _ _ _ _ _ | exact hh_.2.2.1 _ _ _ _ _ _ _ _ _ _ _ _ _ _ _ _ _ _ _ _ _ _ _ _ _ _ _ _ _ _ _ _ _ _ _ _ | exact hh_.2.2.2 _ _ _ _ _ _ _ _ _ _ _ _ _ _ _ _ _ _ _ _ _ _ _ _ _ _ _ _ _ _ _ _ _ _ _ _ | exact part_Check.G_le mm_ _ | exact registry_find.G_le mm_ _ _ | exact registry_all.G_le mm_ _ | exact registry_copied.G_le mm_ _ | exact registry_Check.G_le mm_ _ | exact Le.refl _ | refine Le.cond ?_ ?_ | refine Le.bind ?_ fun _ => ?_)),
    fun l i b0 b02 b03 b04 b05 b06 b07 b08 b09 b010 b011 b012 b013 b014 b015 b016 b017 b018 b019 b020 b021 b022 b023 b024 b025 b026 b027 b028 b029 b030 b031 b032 b033 b034 => by rw [registry_Put.L4_eq]; dsimp only [registry_Put.step]; (repeat' (with_reducible first | exact hh_.1 _ _ _ _ _ _ _ _ _ _ _ _ _ _ _ _ _ _ _ _ _ _ _ _ _ _ _ _ _ _ _ _ _ _ _ | exact hh_.2.1 _ _ _ _ _ _ _ _ _ _ _ _ _ _ _ _ _ _ _ _ _ _ _ _ _ _ _ _ _ _ _ _ _ _ _ | exact hh_.2.2.1 _ _ _ _ _ _ _ _ _ _ _ _ _ _ _ _ _ _ _ _ _ _ _ _ _ _ _ _ _ _ _ _ _ _ _ _ | exact hh_.2.2.2 _ _ _ _ _ _ _ _ _ _ _ _ _ _ _ _ _ _ _ _ _ _ _ _ _ _ _ _ _ _ _ _ _ _ _ _ | exact part_Check.G_le mm_ _ | exact registry_find.G_le mm_ _ _ | exact registry_all.G_le mm_ _ | exact registry_copied.G_le mm_ _ | exact registry_Check.G_le mm_ _ | exact Le.refl _ | refine Le.cond ?_ ?_ | refine Le.bind ?_ fun _ => ?_))⟩
theorem registry_Put.K_le (mm_ : Nat) : ∀ nn_, (∀ l b0 b02 b03 b04 b05 b06 b07 b08 b09 b010 b011 b012 b013 b014 b015 b016 b017 b018 b019 b020 b021 b022 b023 b024 b025 b026 b027 b028 b029 b030 b031 b032 b033 b034, Le ((registry_Put.K mm_ nn_).1 l b0 b02 b03 b04 b05 b06 b07 b08 b09 b010 b011 b012 b013 b014 b015 b016 b017 b018 b019 b020 b021 b022 b023 b024 b025 b026 b027 b028 b029 b030 b031 b032 b033 b034) (registry_Put.L1 l b0 b02 b03 b04 b05 b06 b07 b08 b09 b010 b011 b012 b013 b014 b015 b016 b017 b018 b019 b020 b021 b022 b023 b024 b025 b026 b027 b028 b029 b030 b031 b032 b033 b034)) ∧ (∀ l b0 b02 b03 b04 b05 b06 b07 b08 b09 b010 b011 b012 b013 b014 b015 b016 b017 b018 b019 b020 b021 b022 b023 b024 b025 b026 b027 b028 b029 b030 b031 b032 b033 b034, Le ((registry_Put.K mm_ nn_).2.1 l b0 b02 b03 b04 b05 b06 b07 b08 b09 b010 b011 b012 b013 b014 b015 b016 b017 b018 b019 b020 b021 b022 b023 b024 b025 b026 b027 b028 b029 b030 b031 b032 b033 b034) (registry_Put.L2 l b0 b02 b03 b04 b05 b06 b07 b08 b09 b010 b011 b012 b013 b014 b015 b016 b017 b018 b019 b020 b021 b022 b023 b024 b025 b026 b027 b028 b029 b030 b031 b032 b033 b034)) ∧ (∀ l i b0 b02 b03 b04 b05 b06 b07 b08 b09 b010 b011 b012 b013 b014 b015 b016 b017 b018 b019 b020 b021 b022 b023 b024 b025 b026 b027 b028 b029 b030 b031 b032 b033 b034, Le ((registry_Put.K mm_ nn_).2.2.1 l i b0 b02 b03 b04 b05 b06 b07 b08 b09 b010 b011 b012 b013 b014 b015 b016 b017 b018 b019 b020 b021 b022 b023 b024 b025 b026 b027 b028 b029 b030 b031 b032 b033 b034) (registry_Put.L3 l i b0 b02 b03 b04 b05 b06 b07 b08 b09 b010 b011 b012 b013 b014 b015 b016 b017 b018 b019 b020 b021 b022 b023 b024 b025 b026 b027 b028 b029 b030 b031 b032 b033 b034)) ∧ (∀ l i b0 b02 b03 b04 b05 b06 b07 b08 b09 b010 b011 b012 b013 b014 b015 b016 b017 b018 b019 b020 b021 b022 b023 b024 b025 b026 b027 b028 b029 b030 b031 b032 b033 b034, Le ((registry_Put.K mm_ nn_).2.2.2 l i b0 b02 b03 b04 b05 b06 b07 b08 b09 b010 b011 b012 b013 b014 b015 b016 b017 b018 b019 b020 b021 b022 b023 b024 b025 b026 b027 b028 b029 b030 b031 b032 b033 b034) (registry_Put.L4 l i b0 b02 b03 b04 b05 b06 b07 b08 b09 b010 b011 b012 b013 b014 b015 b016 b017 b018 b019 b020 b021 b022 b023 b024 b025 b026 b027 b028 b029 b030 b031 b032 b033 b034))
  | 0 => ⟨fun _ _ _ _ _ _ _ _ _ _ _ _ _ _ _ _ _ _ _ _ _ _ _ _ _ _ _ _ _ _ _ _ _ _ _ => Le.none _, fun _ _ _ _ _ _ _ _ _ _ _ _ _ _ _ _ _ _ _ _ _ _ _ _ _ _ _ _ _ _ _ _ _ _ _ => Le.none _, fun _ _ _ _ _ _ _ _ _ _ _ _ _ _ _ _ _ _ _ _ _ _ _ _ _ _ _ _ _ _ _ _ _ _ _ _ => Le.none _, fun _ _ _ _ _ _ _ _ _ _ _ _ _ _ _ _ _ _ _ _ _ _ _ _ _ _ _ _ _ _ _ _ _ _ _ _ => Le.none _⟩
  | nn_ + 1 => registry_Put.step_le mm_ (registry_Put.K mm_ nn_) (registry_Put.K_le mm_ nn_)
noncomputable def registry_Put.G (mm_ : Nat) (l : (List t7.den)) (p : t7.den) : Option ((List t7.den) × Int × Unit) :=
  ((registry_Check.G mm_) l).bind fun r0 =>
  bif (r0.1 != 0) then
    some (([] : List t7.den), r0.1, ())
  else
    (registry_Put.K mm_ mm_).1 l p.1 p.2.1 p.2.2.1.1.1 p.2.2.1.1.2.1 p.2.2.1.1.2.2.1 p.2.2.1.2.1 p.2.2.1.2.2.1 p.2.2.1.2.2.2.1 p.2.2.2.1.1 p.2.2.2.1.2.1 p.2.2.2.1.2.2.1 p.2.2.2.1.2.2.2.1.1 p.2.2.2.1.2.2.2.1.2.1 p.2.2.2.1.2.2.2.1.2.2.1 p.2.2.2.1.2.2.2.2.1 p.2.2.2.1.2.2.2.2.2.1.1 p.2.2.2.1.2.2.2.2.2.1.2.1 p.2.2.2.1.2.2.2.2.2.1.2.2.1 p.2.2.2.1.2.2.2.2.2.1.2.2.2.1 p.2.2.2.2.1.1 p.2.2.2.2.1.2.1 p.2.2.2.2.1.2.2.1 p.2.2.2.2.1.2.2.2.1.1 p.2.2.2.2.1.2.2.2.1.2.1 p.2.2.2.2.1.2.2.2.1.2.2.1 p.2.2.2.2.1.2.2.2.2.1 p.2.2.2.2.1.2.2.2.2.2.1.1 p.2.2.2.2.1.2.2.2.2.2.1.2.1 p.2.2.2.2.1.2.2.2.2.2.1.2.2.1 p.2.2.2.2.1.2.2.2.2.2.1.2.2.2.1 p.2.2.2.2.2.1 p.2.2.2.2.2.2.1.1 p.2.2.2.2.2.2.1.2.1 p.2.2.2.2.2.2.1.2.2.1
theorem registry_Put.G_le (mm_ : Nat) (l : (List t7.den)) (p : t7.den) : Le (registry_Put.G mm_ l p) (registry_Put.F l p) := by
  rw [registry_Put.F_eq]; unfold registry_Put.G; (repeat' (with_reducible first | exact (registry_Put.K_le mm_ mm_).1 _ _ _ _ _ _ _ _ _ _ _ _ _ _ _ _ _ _ _ _ _ _ _ _ _ _ _ _ _ _ _ _ _ _ _ | exact (registry_Put.K_le mm_ mm_).2.1 _ _ _ _ _ _ _ _ _ _ _ _ _ _ _ _ _ _ _ _ _ _ _ _ _ _ _ _ _ _ _ _ _ _ _ | exact (registry_Put.K_le mm_ mm_).2.2.1 _ _ _ _ _ _ _ _ _ _ _ _ _ _ _ _ _ _ _ _ _ _ _ _ _ _ _ _ _ _ _ _ _ _ _ _ | exact (registry_Put.K_le mm_ mm_).2.2.2 _ _ _ _ _ _ _ _ _ _ _ _ _ _ _ _ _ _ _ _ _ _ _ _ _ _ _ _ _ _ _ _ _ _ _ _ | exact part_Check.G_le mm_ _ | exact registry_find.G_le mm_ _ _ | exact registry_all.G_le mm_ _ | exact registry_copied.G_le mm_ _ | exact registry_Check.G_le mm_ _ | exact Le.refl _ | refine Le.cond ?_ ?_ | refine Le.bind ?_ fun _ => ?_))
/-! ### registry_Replace -/
noncomputable def registry_Replace.step (mm_ : Nat) (KK_ : ((List t7.den) → Int → (List t0.den) → Int → Int → Int → Int → Int → Int → Int → (List Int) → (List t1.den) → (List Int) → (List Bool) → Int → (List t3.den) → (List Int) → (List Int) → Int → Int → Int → (List Int) → (List t1.den) → (List Int) → (List Bool) → Int → (List t3.den) → (List Int) → (List Int) → Int → Int → (List Int) → Int → Int → Int → (Option ((List t7.den) × Int × Unit))) × ((List t7.den) → Int → (List t0.den) → Int → Int → Int → Int → Int → Int → Int → (List Int) → (List t1.den) → (List Int) → (List Bool) → Int → (List t3.den) → (List Int) → (List Int) → Int → Int → Int → (List Int) → (List t1.den) → (List Int) → (List Bool) → Int → (List t3.den) → (List Int) → (List Int) → Int → Int → (List Int) → Int → Int → Int → (Option ((List t7.den) × Int × Unit))) × ((List t7.den) → Int → Int → (List t0.den) → Int → Int → Int → Int → Int → Int → Int → (List Int) → (List t1.den) → (List Int) → (List Bool) → Int → (List t3.den) → (List Int) → (List Int) → Int → Int → Int → (List Int) → (List t1.den) → (List Int) → (List Bool) → Int → (List t3.den) → (List Int) → (List Int) → Int → Int → (List Int) → Int → Int → Int → (Option ((List t7.den) × Int × Unit)))) : ((List t7.den) → Int → (List t0.den) → Int → Int → Int → Int → Int → Int → Int → (List Int) → (List t1.den) → (List Int) → (List Bool) → Int → (List t3.den) → (List Int) → (List Int) → Int → Int → Int → (List Int) → (List t1.den) → (List Int) → (List Bool) → Int → (List t3.den) → (List Int) → (List Int) → Int → Int → (List Int) → Int → Int → Int → (Option ((List t7.den) × Int × Unit))) × ((List t7.den) → Int → (List t0.den) → Int → Int → Int → Int → Int → Int → Int → (List Int) → (List t1.den) → (List Int) → (List Bool) → Int → (List t3.den) → (List Int) → (List Int) → Int → Int → Int → (List Int) → (List t1.den) → (List Int) → (List Bool) → Int → (List t3.den) → (List Int) → (List Int) → Int → Int → (List Int) → Int → Int → Int → (Option ((List t7.den) × Int × Unit))) × ((List t7.den) → Int → Int → (List t0.den) → Int → Int → Int → Int → Int → Int → Int → (List Int) → (List t1.den) → (List Int) → (List Bool) → Int → (List t3.den) → (List Int) → (List Int) → Int → Int → Int → (List Int) → (List t1.den) → (List Int) → (List Bool) → Int → (List t3.den) → (List Int) → (List Int) → Int → Int → (List Int) → Int → Int → Int → (Option ((List t7.den) × Int × Unit))) := ((fun (l : (List t7.den)) (b0 : Int) (b02 : (List t0.den)) (b03 : Int) (b04 : Int) (b05 : Int) (b06 : Int) (b07 : Int) (b08 : Int) (b09 : Int) (b010 : (List Int)) (b011 : (List t1.den)) (b012 : (List Int)) (b013 : (List Bool)) (b014 : Int) (b015 : (List t3.den)) (b016 : (List Int)) (b017 : (List Int)) (b018 : Int) (b019 : Int) (b020 : Int) (b021 : (List Int)) (b022 : (List t1.den)) (b023 : (List Int)) (b024 : (List Bool)) (b025 : Int) (b026 : (List t3.den)) (b027 : (List Int)) (b028 : (List Int)) (b029 : Int) (b030 : Int) (b031 : (List Int)) (b032 : Int) (b033 : Int) (b034 : Int) =>
  ((part_Check.G mm_) (b0, b02, ((b03, b04, b05, ()), b06, b07, b08, ()), (b09, b010, b011, (b012, b013, b014, ()), b015, (b016, b017, b018, b019, ()), ()), (b020, b021, b022, (b023, b024, b025, ()), b026, (b027, b028, b029, b030, ()), ()), b031, (b032, b033, b034, ()), ())).bind fun r0 =>
  bif (r0.1 != 0) then
    some (([] : List t7.den), 8, ())
  else
    KK_.2.1 l b0 b02 b03 b04 b05 b06 b07 b08 b09 b010 b011 b012 b013 b014 b015 b016 b017 b018 b019 b020 b021 b022 b023 b024 b025 b026 b027 b028 b029 b030 b031 b032 b033 b034),
(fun (l : (List t7.den)) (b0 : Int) (b02 : (List t0.den)) (b03 : Int) (b04 : Int) (b05 : Int) (b06 : Int) (b07 : Int) (b08 : Int) (b09 : Int) (b010 : (List Int)) (b011 : (List t1.den)) (b012 : (List Int)) (b013 : (List Bool)) (b014 : Int) (b015 : (List t3.den)) (b016 : (List Int)) (b017 : (List Int)) (b018 : Int) (b019 : Int) (b020 : Int) (b021 : (List Int)) (b022 : (List t1.den)) (b023 : (List Int)) (b024 : (List Bool)) (b025 : Int) (b026 : (List t3.den)) (b027 : (List Int)) (b028 : (List Int)) (b029 : Int) (b030 : Int) (b031 : (List Int)) (b032 : Int) (b033 : Int) (b034 : Int) =>
  ((registry_find.G mm_) l b0).bind fun r0 =>
  bif (!r0.2.1) then
    some (([] : List t7.den), 6, ())
  else
    KK_.2.2 l r0.1 b0 b02 b03 b04 b05 b06 b07 b08 b09 b010 b011 b012 b013 b014 b015 b016 b017 b018 b019 b020 b021 b022 b023 b024 b025 b026 b027 b028 b029 b030 b031 b032 b033 b034),
(fun (l : (List t7.den)) (i : Int) (b0 : Int) (b02 : (List t0.den)) (b03 : Int) (b04 : Int) (b05 : Int) (b06 : Int) (b07 : Int) (b08 : Int) (b09 : Int) (b010 : (List Int)) (b011 : (List t1.den)) (b012 : (List Int)) (b013 : (List Bool)) (b014 : Int) (b015 : (List t3.den)) (b016 : (List Int)) (b017 : (List Int)) (b018 : Int) (b019 : Int) (b020 : Int) (b021 : (List Int)) (b022 : (List t1.den)) (b023 : (List Int)) (b024 : (List Bool)) (b025 : Int) (b026 : (List t3.den)) (b027 : (List Int)) (b028 : (List Int)) (b029 : Int) (b030 : Int) (b031 : (List Int)) (b032 : Int) (b033 : Int) (b034 : Int) =>
  ((registry_all.G mm_) l).bind fun r0 =>
  ((registry_copied.G mm_) (b0, b02, ((b03, b04, b05, ()), b06, b07, b08, ()), (b09, b010, b011, (b012, b013, b014, ()), b015, (b016, b017, b018, b019, ()), ()), (b020, b021, b022, (b023, b024, b025, ()), b026, (b027, b028, b029, b030, ()), ()), b031, (b032, b033, b034, ()), ())).bind fun r1 =>
  bif (decide ((0 : Int) ≤ i ∧ (i : Int) < ((List.length r0.1 : Int)))) then
    some ((List.set r0.1 (Int.toNat i) r1.1), 0, ())
  else none))
noncomputable def registry_Replace.K (mm_ : Nat) : Nat → ((List t7.den) → Int → (List t0.den) → Int → Int → Int → Int → Int → Int → Int → (List Int) → (List t1.den) → (List Int) → (List Bool) → Int → (List t3.den) → (List Int) → (List Int) → Int → Int → Int → (List Int) → (List t1.den) → (List Int) → (List Bool) → Int → (List t3.den) → (List Int) → (List Int) → Int → Int → (List Int) → Int → Int → Int → (Option ((List t7.den) × Int × Unit))) × ((List t7.den) → Int → (List t0.den) → Int → Int → Int → Int → Int → Int → Int → (List Int) → (List t1.den) → (List Int) → (List Bool) → Int → (List t3.den) → (List Int) → (List Int) → Int → Int → Int → (List Int) → (List t1.den) → (List Int) → (List Bool) → Int → (List t3.den) → (List Int) → (List Int) → Int → Int → (List Int) → Int → Int → Int → (Option ((List t7.den) × Int × Unit))) × ((List t7.den) → Int → Int → (List t0.den) → Int → Int → Int → Int → Int → Int → Int → (List Int) → (List t1.den) → (List Int) → (List Bool) → Int → (List t3.den) → (List Int) → (List Int) → Int → Int → Int → (List Int) → (List t1.den) → (List Int) → (List Bool) → Int → (List t3.den) → (List Int) → (List Int) → Int → Int → (List Int) → Int → Int → Int → (Option ((List t7.den) × Int × Unit)))
  | 0 => ((fun _ _ _ _ _ _ _ _ _ _ _ _ _ _ _ _ _ _ _ _ _ _ _ _ _ _ _ _ _ _ _ _ _ _ _ => none), (fun _ _ _ _ _ _ _ _ _ _ _ _ _ _ _ _ _ _ _ _ _ _ _ _ _ _ _ _ _ _ _ _ _ _ _ => none), (fun _ _ _ _ _ _ _ _ _ _ _ _ _ _ _ _ _ _ _ _ _ _ _ _ _ _ _ _ _ _ _ _ _ _ _ _ => none))
  | nn_ + 1 => registry_Replace.step mm_ (registry_Replace.K mm_ nn_)
theorem registry_Replace.step_le (mm_ : Nat) (KK_ : ((List t7.den) → Int → (List t0.den) → Int → Int → Int → Int → Int → Int → Int → (List Int) → (List t1.den) → (List Int) → (List Bool) → Int → (List t3.den) → (List Int) → (List Int) → Int → Int → Int → (List Int) → (List t1.den) → (List Int) → (List Bool) → Int → (List t3.den) → (List Int) → (List Int) → Int → Int → (List Int) → Int → Int → Int → (Option ((List t7.den) × Int × Unit))) × ((List t7.den) → Int → (List t0.den) → Int → Int → Int → Int → Int → Int → Int → (List Int) → (List t1.den) → (List Int) → (List Bool) → Int → (List t3.den) → (List Int) → (List Int) → Int → Int → Int → (List Int) → (List t1.den) → (List Int) → (List Bool) → Int → (List t3.den) → (List Int) → (List Int) → Int → Int → (List Int) → Int → Int → Int → (Option ((List t7.den) × Int × Unit))) × ((List t7.den) → Int → Int → (List t0.den) → Int → Int → Int → Int → Int → Int → Int → (List Int) → (List t1.den) → (List Int) → (List Bool) → Int → (List t3.den) → (List Int) → (List Int) → Int → Int → Int → (List Int) → (List t1.den) → (List Int) → (List Bool) → Int → (List t3.den) → (List Int) → (List Int) → Int → Int → (List Int) → Int → Int → Int → (Option ((List t7.den) × Int × Unit)))) (hh_ : (∀ l b0 b02 b03 b04 b05 b06 b07 b08 b09 b010 b011 b012 b013 b014 b015 b016 b017 b018 b019 b020 b021 b022 b023 b024 b025 b026 b027 b028 b029 b030 b031 b032 b033 b034, Le (KK_.1 l b0 b02 b03 b04 b05 b06 b07 b08 b09 b010 b011 b012 b013 b014 b015 b016 b017 b018 b019 b020 b021 b022 b023 b024 b025 b026 b027 b028 b029 b030 b031 b032 b033 b034) (registry_Replace.L1 l b0 b02 b03 b04 b05 b06 b07 b08 b09 b010 b011 b012 b013 b014 b015 b016 b017 b018 b019 b020 b021 b022 b023 b024 b025 b026 b027 b028 b029 b030 b031 b032 b033 b034)) ∧ (∀ l b0 b02 b03 b04 b05 b06 b07 b08 b09 b010 b011 b012 b013 b014 b015 b016 b017 b018 b019 b020 b021 b022 b023 b024 b025 b026 b027 b028 b029 b030 b031 b032 b033 b034, Le (KK_.2.1 l b0 b02 b03 b04 b05 b06 b07 b08 b09 b010 b011 b012 b013 b014 b015 b016 b017 b018 b019 b020 b021 b022 b023 b024 b025 b026 b027 b028 b029 b030 b031 b032 b033 b034) (registry_Replace.L2 l b0 b02 b03 b04 b05 b06 b07 b08 b09 b010 b011 b012 b013 b014 b015 b016 b017 b018 b019 b020 b021 b022 b023 b024 b025 b026 b027 b028 b029 b030 b031 b032 b033 b034)) ∧ (∀ l i b0 b02 b03 b04 b05 b06 b07 b08 b09 b010 b011 b012 b013 b014 b015 b016 b017 b018 b019 b020 b021 b022 b023 b024 b025 b026 b027 b028 b029 b030 b031 b032 b033 b034, Le (KK_.2.2 l i b0 b02 b03 b04 b05 b06 b07 b08 b09 b010 b011 b012 b013 b014 b015 b016 b017 b018 b019 b020 b021 b022 b023 b024 b025 b026 b027 b028 b029 b030 b031 b032 b033 b034) (registry_Replace.L3 l i b0 b02 b03 b04 b05 b06 b07 b08 b09 b010 b011 b012 b013 b014 b015 b016 b017 b018 b019 b020 b021 b022 b023 b024 b025 b026 b027 b028 b029 b030 b031 b032 b033 b034))) : (∀ l b0 b02 b03 b04 b05 b06 b07 b08 b09 b010 b011 b012 b013 b014 b015 b016 b017 b018 b019 b020 b021 b022 b023 b024 b025 b026 b027 b028 b029 b030 b031 b032 b033 b034, Le ((registry_Replace.step mm_ KK_).1 l b0 b02 b03 b04 b05 b06 b07 b08 b09 b010 b011 b012 b013 b014 b015 b016 b017 b018 b019 b020 b021 b022 b023 b024 b025 b026 b027 b028 b029 b030 b031 b032 b033 b034) (registry_Replace.L1 l b0 b02 b03 b04 b05 b06 b07 b08 b09 b010 b011 b012 b013 b014 b015 b016 b017 b018 b019 b020 b021 b022 b023 b024 b025 b026 b027 b028 b029 b030 b031 b032 b033 b034)) ∧ (∀ l b0 b02 b03 b04 b05 b06 b07 b08 b09 b010 b011 b012 b013 b014 b015 b016 b017 b018 b019 b020 b021 b022 b023 b024 b025 b026 b027 b028 b029 b030 b031 b032 b033 b034, Le ((registry_Replace.step mm_ KK_).2.1 l b0 b02 b03 b04 b05 b06 b07 b08 b09 b010 b011 b012 b013 b014 b015 b016 b017 b018 b019 b020 b021 b022 b023 b024 b025 b026 b027 b028 b029 b030 b031 b032 b033 b034) (registry_Replace.L2 l b0 b02 b03 b04 b05 b06 b07 b08 b09 b010 b011 b012 b013 b014 b015 b016 b017 b018 b019 b020 b021 b022 b023 b024 b025 b026 b027 b028 b029 b030 b031 b032 b033 b034)) ∧ (∀ l i b0 b02 b03 b04 b05 b06 b07 b08 b09 b010 b011 b012 b013 b014 b015 b016 b017 b018 b019 b020 b021 b022 b023 b024 b025 b026 b027 b028 b029 b030 b031 b032 b033 b034, Le ((registry_Replace.step mm_ KK_).2.2 l i b0 b02 b03 b04 b05 b06 b07 b08 b09 b010 b011 b012 b013 b014 b015 b016 b017 b018 b019 b020 b021 b022 b023 b024 b025 b026 b027 b028 b029 b030 b031 b032 b033 b034) (registry_Replace.L3 l i b0 b02 b03 b04 b05 b06 b07 b08 b09 b010 b011 b012 b013 b014 b015 b016 b017 b018 b019 b020 b021 b022 b023 b024 b025 b026 b027 b028 b029 b030 b031 b032 b033 b034)) := by
  refine ⟨fun l b0 b02 b03 b04 b05 b06 b07 b08 b09 b010 b011 b012 b013 b014 b015 b016 b017 b018 b019 b020 b021 b022 b023 b024 b025 b026 b027 b028 b029 b030 b031 b032 b033 b034 => by rw [registry_Replace.L1_eq]; dsimp only [registry_Replace.step]; (repeat' (with_reducible first | exact hh_.1 _ _ _ _ _ _ _ _ _ _ _ _ _ _ _ _ _ _ _ _ _ _ _ _ _ _ _ _ _ _ _ _ _ _ _ | exact hh_.2.1 _ _ _ _ _ _ _ _ _ _ _ _ _ _ _ _ _ _ _ _ _ _ _ _ _ _ _ _ _ _ _ _ _ _ _ | exact hh_.2.2 _ _ _ _ _ _ _ _ _ _ _ _ _ _ _ _ _ _ _ _ _ _ _ _ _ _ _ _ _ _ _ _ _ _ _ _ | exact part_Check.G_le mm_ _ | exact registry_find.G_le mm_ _ _ | exact registry_all.G_le mm_ _ | exact registry_copied.G_le mm_ _ | exact registry_Check.G_le mm_ _ | exact Le.refl _ | refine Le.cond ?_ ?_ | refine Le.bind ?_ fun _ => ?_)),
    fun l b0 b02 b03 b04 b05 b06 b07 b08 b09 b010 b011 b012 b013 b014 b015 b016 b017 b018 b019 b020 b021 b022 b023 b024 b025 b026 b027 b028 b029 b030 b031 b032 b033 b034 => by rw [registry_Replace.L2_eq]; dsimp only [registry_Replace.step]; (repeat' (with_reducible first | exact hh_.1 _ _ _ _ _ _ _ _ _ _ _ _ _ _ _ _ _ _ _ _ _ _ _ _ _ _ _ _ _ _ _ _ _ _ _ | exact hh_.2.1 _ _ _ _ _ _ _ _ _ _ _ _ _ _ _ _ _ _ _ _ _ _ _ _ _ _ _ _ _ _ _ _ _ _ _ | exact hh_.2.2 _ _ _ _ _ _ _ _ _ _ _ _ _ _ _ _ _ _ _ _ _ _ _ _ _ _ _ _ _ _ _ _ _ _ _ _ | exact part_Check.G_le mm_ _ | exact registry_find.G_le mm_ _ _ | exact registry_all.G_le mm_ _ | exact registry_copied.G_le mm_ _ | exact registry_Check.G_le mm_ _ | exact Le.refl _ | refine Le.cond ?_ ?_ | refine Le.bind ?_ fun _ => ?_)),
    fun l i b0 b02 b03 b04 b05 b06 b07 b08 b09 b010 b011 b012 b013 b014 b015 b016 b017 b018 b019 b020 b021 b022 b023 b024 b025 b026 b027 b028 b029 b030 b031 b032 b033 b034 => by rw [registry_Replace.L3_eq]; dsimp only [registry_Replace.step]; (repeat' (with_reducible first | exact hh_.1 _ _ _ _ _ _ _ _ _ _ _ _ _ _ _ _ _ _ _ _ _ _ _ _ _ _ _ _ _ _ _ _ _ _ _ | exact hh_.2.1 _ _ _ _ _ _ _ _ _ _ _ _ _ _ _ _ _ _ _ _ _ _ _ _ _ _ _ _ _ _ _ _ _ _ _ | exact hh_.2.2 _ _ _ _ _ _ _ _ _ _ _ _ _ _ _ _ _ _ _ _ _ _ _ _ _ _ _ _ _ _ _ _ _ _ _ _ | exact part_Check.G_le mm_ _ | exact registry_find.G_le mm_ _ _ | exact registry_all.G_le mm_ _ | exact registry_copied.G_le mm_ _ | exact registry_Check.G_le mm_ _ | exact Le.refl _ | refine Le.cond ?_ ?_ | refine Le.bind ?_ fun _ => ?_))⟩
theorem registry_Replace.K_le (mm_ : Nat) : ∀ nn_, (∀ l b0 b02 b03 b04 b05 b06 b07 b08 b09 b010 b011 b012 b013 b014 b015 b016 b017 b018 b019 b020 b021 b022 b023 b024 b025 b026 b027 b028 b029 b030 b031 b032 b033 b034, Le ((registry_Replace.K mm_ nn_).1 l b0 b02 b03 b04 b05 b06 b07 b08 b09 b010 b011 b012 b013 b014 b015 b016 b017 b018 b019 b020 b021 b022 b023 b024 b025 b026 b027 b028 b029 b030 b031 b032 b033 b034) (registry_Replace.L1 l b0 b02 b03 b04 b05 b06 b07 b08 b09 b010 b011 b012 b013 b014 b015 b016 b017 b018 b019 b020 b021 b022 b023 b024 b025 b026 b027 b028 b029 b030 b031 b032 b033 b034)) ∧ (∀ l b0 b02 b03 b04 b05 b06 b07 b08 b09 b010 b011 b012 b013 b014 b015 b016 b017 b018 b019 b020 b021 b022 b023 b024 b025 b026 b027 b028 b029 b030 b031 b032 b033 b034, Le ((registry_Replace.K mm_ nn_).2.1 l b0 b02 b03 b04 b05 b06 b07 b08 b09 b010 b011 b012 b013 b014 b015 b016 b017 b018 b019 b020 b021 b022 b023 b024 b025 b026 b027 b028 b029 b030 b031 b032 b033 b034) (registry_Replace.L2 l b0 b02 b03 b04 b05 b06 b07 b08 b09 b010 b011 b012 b013 b014 b015 b016 b017 b018 b019 b020 b021 b022 b023 b024 b025 b026 b027 b028 b029 b030 b031 b032 b033 b034)) ∧ (∀ l i b0 b02 b03 b04 b05 b06 b07 b08 b09 b010 b011 b012 b013 b014 b015 b016 b017 b018 b019 b020 b021 b022 b023 b024 b025 b026 b027 b028 b029 b030 b031 b032 b033 b034, Le ((registry_Replace.K mm_ nn_).2.2 l i b0 b02 b03 b04 b05 b06 b07 b08 b09 b010 b011 b012 b013 b014 b015 b016 b017 b018 b019 b020 b021 b022 b023 b024 b025 b026 b027 b028 b029 b030 b031 b032 b033 b034) (registry_Replace.L3 l i b0 b02 b03 b04 b05 b06 b07 b08 b09 b010 b011 b012 b013 b014 b015 b016 b017 b018 b019 b020 b021 b022 b023 b024 b025 b026 b027 b028 b029 b030 b031 b032 b033 b034))
  | 0 => ⟨fun _ _ _ _ _ _ _ _ _ _ _ _ _ _ _ _ _ _ _ _ _ _ _ _ _ _ _ _ _ _ _ _ _ _ _ => Le.none _, fun _ _ _ _ _ _ _ _ _ _ _ _ _ _ _ _ _ _ _ _ _ _ _ _ _ _ _ _ _ _ _ _ _ _ _ => Le.none _, fun _ _ _ _ _ _ _ _ _ _ _ _ _ _ _ _ _ _ _ _ _ _ _ _ _ _ _ _ _ _ _ _ _ _ _ _ => Le.none _⟩
  | nn_ + 1 => registry_Replace.step_le mm_ (registry_Replace.K mm_ nn_) (registry_Replace.K_le mm_ nn_)
noncomputable def registry_Replace.G (mm_ : Nat) (l : (List t7.den)) (p : t7.den) : Option ((List t7.den) × Int × Unit) :=
  ((registry_Check.G mm_) l).bind fun r0 =>
  bif (r0.1 != 0) then
    some (([] : List t7.den), r0.1, ())
  else
    (registry_Replace.K mm_ mm_).1 l p.1 p.2.1 p.2.2.1.1.1 p.2.2.1.1.2.1 p.2.2.1.1.2.2.1 p.2.2.1.2.1 p.2.2.1.2.2.1 p.2.2.1.2.2.2.1 p.2.2.2.1.1 p.2.2.2.1.2.1 p.2.2.2.1.2.2.1 p.2.2.2.1.2.2.2.1.1 p.2.2.2.1.2.2.2.1.2.1 p.2.2.2.1.2.2.2.1.2.2.1 p.2.2.2.1.2.2.2.2.1 p.2.2.2.1.2.2.2.2.2.1.1 p.2.2.2.1.2.2.2.2.2.1.2.1 p.2.2.2.1.2.2.2.2.2.1.2.2.1 p.2.2.2.1.2.2.2.2.2.1.2.2.2.1 p.2.2.2.2.1.1 p.2.2.2.2.1.2.1 p.2.2.2.2.1.2.2.1 p.2.2.2.2.1.2.2.2.1.1 p.2.2.2.2.1.2.2.2.1.2.1 p.2.2.2.2.1.2.2.2.1.2.2.1 p.2.2.2.2.1.2.2.2.2.1 p.2.2.2.2.1.2.2.2.2.2.1.1 p.2.2.2.2.1.2.2.2.2.2.1.2.1 p.2.2.2.2.1.2.2.2.2.2.1.2.2.1 p.2.2.2.2.1.2.2.2.2.2.1.2.2.2.1 p.2.2.2.2.2.1 p.2.2.2.2.2.2.1.1 p.2.2.2.2.2.2.1.2.1 p.2.2.2.2.2.2.1.2.2.1
theorem registry_Replace.G_le (mm_ : Nat) (l : (List t7.den)) (p : t7.den) : Le (registry_Replace.G mm_ l p) (registry_Replace.F l p) := by
  rw [registry_Replace.F_eq]; unfold registry_Replace.G; (repeat' (with_reducible first | exact (registry_Replace.K_le mm_ mm_).1 _ _ _ _ _ _ _ _ _ _ _ _ _ _ _ _ _ _ _ _ _ _ _ _ _ _ _ _ _ _ _ _ _ _ _ | exact (registry_Replace.K_le mm_ mm_).2.1 _ _ _ _ _ _ _ _ _ _ _ _ _ _ _ _ _ _ _ _ _ _ _ _ _ _ _ _ _ _ _ _ _ _ _ | exact (registry_Replace.K_le mm_ mm_).2.2 _ _ _ _ _ _ _ _ _ _ _ _ _ _ _ _ _ _ _ _ _ _ _ _ _ _ _ _ _ _ _ _ _ _ _ _ | exact part_Check.G_le mm_ _ | exact registry_find.G_le mm_ _ _ | exact registry_all.G_le mm_ _ | exact registry_copied.G_le mm_ _ | exact registry_Check.G_le mm_ _ | exact Le.refl _ | refine Le.cond ?_ ?_ | refine Le.bind ?_ fun _ => ?_))
/-! ### registry_Find -/
noncomputable def registry_Find.step (mm_ : Nat) (KK_ : ((List t7.den) → Int → (Option (Int × Int × Unit))) × (Int → (Option (Int × Int × Unit)))) : ((List t7.den) → Int → (Option (Int × Int × Unit))) × (Int → (Option (Int × Int × Unit))) := ((fun (l : (List t7.den)) (tenant : Int) =>
  ((registry_find.G mm_) l tenant).bind fun r0 =>
  bif (!r0.2.1) then
    some (0, 6, ())
  else
    KK_.2 r0.1),
(fun (i : Int) =>
  some (i, 0, ())))
noncomputable def registry_Find.K (mm_ : Nat) : Nat → ((List t7.den) → Int → (Option (Int × Int × Unit))) × (Int → (Option (Int × Int × Unit)))
  | 0 => ((fun _ _ => none), (fun _ => none))
  | nn_ + 1 => registry_Find.step mm_ (registry_Find.K mm_ nn_)
theorem registry_Find.step_le (mm_ : Nat) (KK_ : ((List t7.den) → Int → (Option (Int × Int × Unit))) × (Int → (Option (Int × Int × Unit)))) (hh_ : (∀ l tenant, Le (KK_.1 l tenant) (registry_Find.L1 l tenant)) ∧ (∀ i, Le (KK_.2 i) (registry_Find.L2 i))) : (∀ l tenant, Le ((registry_Find.step mm_ KK_).1 l tenant) (registry_Find.L1 l tenant)) ∧ (∀ i, Le ((registry_Find.step mm_ KK_).2 i) (registry_Find.L2 i)) := by
  refine ⟨fun l tenant => by rw [registry_Find.L1_eq]; dsimp only [registry_Find.step]; (repeat' (with_reducible first | exact hh_.1 _ _ | exact hh_.2 _ | exact registry_find.G_le mm_ _ _ | exact registry_Check.G_le mm_ _ | exact Le.refl _ | refine Le.cond ?_ ?_ | refine Le.bind ?_ fun _ => ?_)),
    fun i => by rw [registry_Find.L2_eq]; dsimp only [registry_Find.step]; (repeat' (with_reducible first | exact hh_.1 _ _ | exact hh_.2 _ | exact registry_find.G_le mm_ _ _ | exact registry_Check.G_le mm_ _ | exact Le.refl _ | refine Le.cond ?_ ?_ | refine Le.bind ?_ fun _ => ?_))⟩
theorem registry_Find.K_le (mm_ : Nat) : ∀ nn_, (∀ l tenant, Le ((registry_Find.K mm_ nn_).1 l tenant) (registry_Find.L1 l tenant)) ∧ (∀ i, Le ((registry_Find.K mm_ nn_).2 i) (registry_Find.L2 i))
  | 0 => ⟨fun _ _ => Le.none _, fun _ => Le.none _⟩
  | nn_ + 1 => registry_Find.step_le mm_ (registry_Find.K mm_ nn_) (registry_Find.K_le mm_ nn_)
noncomputable def registry_Find.G (mm_ : Nat) (l : (List t7.den)) (tenant : Int) : Option (Int × Int × Unit) :=
  ((registry_Check.G mm_) l).bind fun r0 =>
  bif (r0.1 != 0) then
    some (0, r0.1, ())
  else
    (registry_Find.K mm_ mm_).1 l tenant
theorem registry_Find.G_le (mm_ : Nat) (l : (List t7.den)) (tenant : Int) : Le (registry_Find.G mm_ l tenant) (registry_Find.F l tenant) := by
  rw [registry_Find.F_eq]; unfold registry_Find.G; (repeat' (with_reducible first | exact (registry_Find.K_le mm_ mm_).1 _ _ | exact (registry_Find.K_le mm_ mm_).2 _ | exact registry_find.G_le mm_ _ _ | exact registry_Check.G_le mm_ _ | exact Le.refl _ | refine Le.cond ?_ ?_ | refine Le.bind ?_ fun _ => ?_))
/-! ### registry_Drop -/
noncomputable def registry_Drop.step (mm_ : Nat) (KK_ : ((List t7.den) → Int → (Option ((List t7.den) × Int × Unit)))) : ((List t7.den) → Int → (Option ((List t7.den) × Int × Unit))) := ((fun (l : (List t7.den)) (i : Int) =>
  ((registry_all.G mm_) l).bind fun r0 =>
  bif (decide ((0 : Int) ≤ i ∧ (i : Int) ≤ (IntKind.wrap .i64 (i + 1)) ∧ ((IntKind.wrap .i64 (i + 1)) : Int) ≤ (List.length r0.1 : Int))) then
    some (((List.take (Int.toNat i) r0.1) ++ (List.drop (Int.toNat (IntKind.wrap .i64 (i + 1))) r0.1)), 0, ())
  else none))
noncomputable def registry_Drop.K (mm_ : Nat) : Nat → ((List t7.den) → Int → (Option ((List t7.den) × Int × Unit)))
  | 0 => ((fun _ _ => none))
  | nn_ + 1 => registry_Drop.step mm_ (registry_Drop.K mm_ nn_)
theorem registry_Drop.step_le (mm_ : Nat) (KK_ : ((List t7.den) → Int → (Option ((List t7.den) × Int × Unit)))) (hh_ : (∀ l i, Le (KK_ l i) (registry_Drop.L1 l i))) : (∀ l i, Le ((registry_Drop.step mm_ KK_) l i) (registry_Drop.L1 l i)) := by
  refine fun l i => by rw [registry_Drop.L1_eq]; dsimp only [registry_Drop.step]; (repeat' (with_reducible first | exact hh_ _ _ | exact registry_all.G_le mm_ _ | exact registry_Find.G_le mm_ _ _ | exact Le.refl _ | refine Le.cond ?_ ?_ | refine Le.bind ?_ fun _ => ?_))
theorem registry_Drop.K_le (mm_ : Nat) : ∀ nn_, (∀ l i, Le ((registry_Drop.K mm_ nn_) l i) (registry_Drop.L1 l i))
  | 0 => fun _ _ => Le.none _
  | nn_ + 1 => registry_Drop.step_le mm_ (registry_Drop.K mm_ nn_) (registry_Drop.K_le mm_ nn_)
noncomputable def registry_Drop.G (mm_ : Nat) (l : (List t7.den)) (tenant : Int) : Option ((List t7.den) × Int × Unit) :=
  ((registry_Find.G mm_) l tenant).bind fun r0 =>
  bif (r0.2.1 != 0) then
    some (([] : List t7.den), r0.2.1, ())
  else
    (registry_Drop.K mm_ mm_) l r0.1
theorem registry_Drop.G_le (mm_ : Nat) (l : (List t7.den)) (tenant : Int) : Le (registry_Drop.G mm_ l tenant) (registry_Drop.F l tenant) := by
  rw [registry_Drop.F_eq]; unfold registry_Drop.G; (repeat' (with_reducible first | exact (registry_Drop.K_le mm_ mm_) _ _ | exact registry_all.G_le mm_ _ | exact registry_Find.G_le mm_ _ _ | exact Le.refl _ | refine Le.cond ?_ ?_ | refine Le.bind ?_ fun _ => ?_))
/-! ### registry_Tenants -/
noncomputable def registry_Tenants.step (mm_ : Nat) (KK_ : ((List t7.den) → (Option ((List Int) × Int × Unit))) × ((List t7.den) → Int → Int → (List Int) → (Option ((List Int) × Int × Unit))) × ((List t7.den) → Int → Int → (List Int) → (Option ((List Int) × Int × Unit)))) : ((List t7.den) → (Option ((List Int) × Int × Unit))) × ((List t7.den) → Int → Int → (List Int) → (Option ((List Int) × Int × Unit))) × ((List t7.den) → Int → Int → (List Int) → (Option ((List Int) × Int × Unit))) := ((fun (l : (List t7.den)) =>
  KK_.2.1 l ((List.length l : Int)) 0 ([] : List Int)),
(fun (t13_ : (List t7.den)) (t14_ : Int) (t15_ : Int) (l0 : (List Int)) =>
  bif (decide ((t15_ : Int) < t14_)) then
    KK_.2.2 t13_ t14_ t15_ l0
  else
    some (l0, 0, ())),
(fun (t13_ : (List t7.den)) (t14_ : Int) (t15_ : Int) (l0 : (List Int)) =>
  bif (decide ((0 : Int) ≤ t15_ ∧ (t15_ : Int) < ((List.length t13_ : Int)))) then
    bif (lim ((List.length l0) + (List.length ([(List.getD t13_ (Int.toNat t15_) (0, (List.replicate 3 (0, 0, 0, ())), ((0, 0, 0, ()), 0, 0, 0, ()), (0, ([] : List Int), ([] : List t1.den), (([] : List Int), ([] : List Bool), 0, ()), ([] : List t3.den), (([] : List Int), ([] : List Int), 0, 0, ()), ()), (0, ([] : List Int), ([] : List t1.den), (([] : List Int), ([] : List Bool), 0, ()), ([] : List t3.den), (([] : List Int), ([] : List Int), 0, 0, ()), ()), ([] : List Int), (0, 0, 0, ()), ())).1] : List Int))) (.int .u32)) then
      KK_.2.1 t13_ t14_ (IntKind.wrap .i64 (t15_ + 1)) (l0 ++ ([(List.getD t13_ (Int.toNat t15_) (0, (List.replicate 3 (0, 0, 0, ())), ((0, 0, 0, ()), 0, 0, 0, ()), (0, ([] : List Int), ([] : List t1.den), (([] : List Int), ([] : List Bool), 0, ()), ([] : List t3.den), (([] : List Int), ([] : List Int), 0, 0, ()), ()), (0, ([] : List Int), ([] : List t1.den), (([] : List Int), ([] : List Bool), 0, ()), ([] : List t3.den), (([] : List Int), ([] : List Int), 0, 0, ()), ()), ([] : List Int), (0, 0, 0, ()), ())).1] : List Int))
    else none
  else none))
noncomputable def registry_Tenants.K (mm_ : Nat) : Nat → ((List t7.den) → (Option ((List Int) × Int × Unit))) × ((List t7.den) → Int → Int → (List Int) → (Option ((List Int) × Int × Unit))) × ((List t7.den) → Int → Int → (List Int) → (Option ((List Int) × Int × Unit)))
  | 0 => ((fun _ => none), (fun _ _ _ _ => none), (fun _ _ _ _ => none))
  | nn_ + 1 => registry_Tenants.step mm_ (registry_Tenants.K mm_ nn_)
theorem registry_Tenants.step_le (mm_ : Nat) (KK_ : ((List t7.den) → (Option ((List Int) × Int × Unit))) × ((List t7.den) → Int → Int → (List Int) → (Option ((List Int) × Int × Unit))) × ((List t7.den) → Int → Int → (List Int) → (Option ((List Int) × Int × Unit)))) (hh_ : (∀ l, Le (KK_.1 l) (registry_Tenants.L1 l)) ∧ (∀ t13_ t14_ t15_ l0, Le (KK_.2.1 t13_ t14_ t15_ l0) (registry_Tenants.L2 t13_ t14_ t15_ l0)) ∧ (∀ t13_ t14_ t15_ l0, Le (KK_.2.2 t13_ t14_ t15_ l0) (registry_Tenants.L3 t13_ t14_ t15_ l0))) : (∀ l, Le ((registry_Tenants.step mm_ KK_).1 l) (registry_Tenants.L1 l)) ∧ (∀ t13_ t14_ t15_ l0, Le ((registry_Tenants.step mm_ KK_).2.1 t13_ t14_ t15_ l0) (registry_Tenants.L2 t13_ t14_ t15_ l0)) ∧ (∀ t13_ t14_ t15_ l0, Le ((registry_Tenants.step mm_ KK_).2.2 t13_ t14_ t15_ l0) (registry_Tenants.L3 t13_ t14_ t15_ l0)) := by
  refine ⟨fun l => by rw [registry_Tenants.L1_eq]; dsimp only [registry_Tenants.step]; (repeat' (with_reducible first | exact hh_.1 _ | exact hh_.2.1 _ _ _ _ | exact hh_.2.2 _ _ _ _ | exact registry_Check.G_le mm_ _ | exact Le.refl _ | refine Le.cond ?_ ?_ | refine Le.bind ?_ fun _ => ?_)),
    fun t13_ t14_ t15_ l0 => by rw [registry_Tenants.L2_eq]; dsimp only [registry_Tenants.step]; (repeat' (with_reducible first | exact hh_.1 _ | exact hh_.2.1 _ _ _ _ | exact hh_.2.2 _ _ _ _ | exact registry_Check.G_le mm_ _ | exact Le.refl _ | refine Le.cond ?_ ?_ | refine Le.bind ?_ fun _ => ?_)),
    fun t13_ t14_ t15_ l0 => by rw [registry_Tenants.L3_eq]; dsimp only [registry_Tenants.step]; (repeat' (with_reducible first | exact hh_.1 _ | exact hh_.2.1 _ _ _ _ | exact hh_.2.2 _ _ _ _ | exact registry_Check.G_le mm_ _ | exact Le.refl _ | refine Le.cond ?_ ?_ | refine Le.bind ?_ fun _ => ?_))⟩
theorem registry_Tenants.K_le (mm_ : Nat) : ∀ nn_, (∀ l, Le ((registry_Tenants.K mm_ nn_).1 l) (registry_Tenants.L1 l)) ∧ (∀ t13_ t14_ t15_ l0, Le ((registry_Tenants.K mm_ nn_).2.1 t13_ t14_ t15_ l0) (registry_Tenants.L2 t13_ t14_ t15_ l0)) ∧ (∀ t13_ t14_ t15_ l0, Le ((registry_Tenants.K mm_ nn_).2.2 t13_ t14_ t15_ l0) (registry_Tenants.L3 t13_ t14_ t15_ l0))
  | 0 => ⟨fun _ => Le.none _, fun _ _ _ _ => Le.none _, fun _ _ _ _ => Le.none _⟩
  | nn_ + 1 => registry_Tenants.step_le mm_ (registry_Tenants.K mm_ nn_) (registry_Tenants.K_le mm_ nn_)
noncomputable def registry_Tenants.G (mm_ : Nat) (l : (List t7.den)) : Option ((List Int) × Int × Unit) :=
  ((registry_Check.G mm_) l).bind fun r0 =>
  bif (r0.1 != 0) then
    some (([] : List Int), r0.1, ())
  else
    (registry_Tenants.K mm_ mm_).1 l
theorem registry_Tenants.G_le (mm_ : Nat) (l : (List t7.den)) : Le (registry_Tenants.G mm_ l) (registry_Tenants.F l) := by
  rw [registry_Tenants.F_eq]; unfold registry_Tenants.G; (repeat' (with_reducible first | exact (registry_Tenants.K_le mm_ mm_).1 _ | exact (registry_Tenants.K_le mm_ mm_).2.1 _ _ _ _ | exact (registry_Tenants.K_le mm_ mm_).2.2 _ _ _ _ | exact registry_Check.G_le mm_ _ | exact Le.refl _ | refine Le.cond ?_ ?_ | refine Le.bind ?_ fun _ => ?_))
/-! ### spigotref16_SameKeys -/
noncomputable def spigotref16_SameKeys.step (mm_ : Nat) (KK_ : ((List Int) → (List Int) → (Option (Bool × Unit))) × ((List Int) → (List Int) → Int → (Option (Bool × Unit))) × ((List Int) → (List Int) → Int → (Option (Bool × Unit))) × ((List Int) → (List Int) → Int → (Option (Bool × Unit)))) : ((List Int) → (List Int) → (Option (Bool × Unit))) × ((List Int) → (List Int) → Int → (Option (Bool × Unit))) × ((List Int) → (List Int) → Int → (Option (Bool × Unit))) × ((List Int) → (List Int) → Int → (Option (Bool × Unit))) := ((fun (a : (List Int)) (b : (List Int)) =>
  KK_.2.1 a b 0),
(fun (a : (List Int)) (b : (List Int)) (i : Int) =>
  bif (decide ((i : Int) < ((List.length a : Int)))) then
    KK_.2.2.1 a b i
  else
    some (true, ())),
(fun (a : (List Int)) (b : (List Int)) (i : Int) =>
  bif (decide ((0 : Int) ≤ i ∧ (i : Int) < ((List.length a : Int)))) then
    bif (decide ((0 : Int) ≤ i ∧ (i : Int) < ((List.length b : Int)))) then
      bif ((List.getD a (Int.toNat i) 0) != (List.getD b (Int.toNat i) 0)) then
        some (false, ())
      else
        KK_.2.2.2 a b i
    else none
  else none),
(fun (a : (List Int)) (b : (List Int)) (i : Int) =>
  KK_.2.1 a b (IntKind.wrap .i64 (i + 1))))
noncomputable def spigotref16_SameKeys.K (mm_ : Nat) : Nat → ((List Int) → (List Int) → (Option (Bool × Unit))) × ((List Int) → (List Int) → Int → (Option (Bool × Unit))) × ((List Int) → (List Int) → Int → (Option (Bool × Unit))) × ((List Int) → (List Int) → Int → (Option (Bool × Unit)))
  | 0 => ((fun _ _ => none), (fun _ _ _ => none), (fun _ _ _ => none), (fun _ _ _ => none))
  | nn_ + 1 => spigotref16_SameKeys.step mm_ (spigotref16_SameKeys.K mm_ nn_)
theorem spigotref16_SameKeys.step_le (mm_ : Nat) (KK_ : ((List Int) → (List Int) → (Option (Bool × Unit))) × ((List Int) → (List Int) → Int → (Option (Bool × Unit))) × ((List Int) → (List Int) → Int → (Option (Bool × Unit))) × ((List Int) → (List Int) → Int → (Option (Bool × Unit)))) (hh_ : (∀ a b, Le (KK_.1 a b) (spigotref16_SameKeys.L1 a b)) ∧ (∀ a b i, Le (KK_.2.1 a b i) (spigotref16_SameKeys.L2 a b i)) ∧ (∀ a b i, Le (KK_.2.2.1 a b i) (spigotref16_SameKeys.L3 a b i)) ∧ (∀ a b i, Le (KK_.2.2.2 a b i) (spigotref16_SameKeys.L4 a b i))) : (∀ a b, Le ((spigotref16_SameKeys.step mm_ KK_).1 a b) (spigotref16_SameKeys.L1 a b)) ∧ (∀ a b i, Le ((spigotref16_SameKeys.step mm_ KK_).2.1 a b i) (spigotref16_SameKeys.L2 a b i)) ∧ (∀ a b i, Le ((spigotref16_SameKeys.step mm_ KK_).2.2.1 a b i) (spigotref16_SameKeys.L3 a b i)) ∧ (∀ a b i, Le ((spigotref16_SameKeys.step mm_ KK_).2.2.2 a b i) (spigotref16_SameKeys.L4 a b i)) := by
  refine ⟨fun a b => by rw [spigotref16_SameKeys.L1_eq]; dsimp only [spigotref16_SameKeys.step]; (repeat' (with_reducible first | exact hh_.1 _ _ | exact hh_.2.1 _ _ _ | exact hh_.2.2.1 _ _ _ | exact hh_.2.2.2 _ _ _  | exact Le.refl _ | refine Le.cond ?_ ?_ | refine Le.bind ?_ fun _ => ?_)),
    fun a b i => by rw [spigotref16_SameKeys.L2_eq]; dsimp only [spigotref16_SameKeys.step]; (repeat' (with_reducible first | exact hh_.1 _ _ | exact hh_.2.1 _ _ _ | exact hh_.2.2.1 _ _ _ | exact hh_.2.2.2 _ _ _  | exact Le.refl _ | refine Le.cond ?_ ?_ | refine Le.bind ?_ fun _ => ?_)),
    fun a b i => by rw [spigotref16_SameKeys.L3_eq]; dsimp only [spigotref16_SameKeys.step]; (repeat' (with_reducible first | exact hh_.1 _ _ | exact hh_.2.1 _ _ _ | exact hh_.2.2.1 _ _ _ | exact hh_.2.2.2 _ _ _  | exact Le.refl _ | refine Le.cond ?_ ?_ | refine Le.bind ?_ fun _ => ?_)),
    fun a b i => by rw [spigotref16_SameKeys.L4_eq]; dsimp only [spigotref16_SameKeys.step]; (repeat' (with_reducible first | exact hh_.1 _ _ | exact hh_.2.1 _ _ _ | exact hh_.2.2.1 _ _ _ | exact hh_.2.2.2 _ _ _  | exact Le.refl _ | refine Le.cond ?_ ?_ | refine Le.bind ?_ fun _ => ?_))⟩
theorem spigotref16_SameKeys.K_le (mm_ : Nat) : ∀ nn_, (∀ a b, Le ((spigotref16_SameKeys.K mm_ nn_).1 a b) (spigotref16_SameKeys.L1 a b)) ∧ (∀ a b i, Le ((spigotref16_SameKeys.K mm_ nn_).2.1 a b i) (spigotref16_SameKeys.L2 a b i)) ∧ (∀ a b i, Le ((spigotref16_SameKeys.K mm_ nn_).2.2.1 a b i) (spigotref16_SameKeys.L3 a b i)) ∧ (∀ a b i, Le ((spigotref16_SameKeys.K mm_ nn_).2.2.2 a b i) (spigotref16_SameKeys.L4 a b i))
  | 0 => ⟨fun _ _ => Le.none _, fun _ _ _ => Le.none _, fun _ _ _ => Le.none _, fun _ _ _ => Le.none _⟩
  | nn_ + 1 => spigotref16_SameKeys.step_le mm_ (spigotref16_SameKeys.K mm_ nn_) (spigotref16_SameKeys.K_le mm_ nn_)
noncomputable def spigotref16_SameKeys.G (mm_ : Nat) (a : (List Int)) (b : (List Int)) : Option (Bool × Unit) :=
  bif (((List.length a : Int)) != ((List.length b : Int))) then
    some (false, ())
  else
    (spigotref16_SameKeys.K mm_ mm_).1 a b
theorem spigotref16_SameKeys.G_le (mm_ : Nat) (a : (List Int)) (b : (List Int)) : Le (spigotref16_SameKeys.G mm_ a b) (spigotref16_SameKeys.F a b) := by
  rw [spigotref16_SameKeys.F_eq]; unfold spigotref16_SameKeys.G; (repeat' (with_reducible first | exact (spigotref16_SameKeys.K_le mm_ mm_).1 _ _ | exact (spigotref16_SameKeys.K_le mm_ mm_).2.1 _ _ _ | exact (spigotref16_SameKeys.K_le mm_ mm_).2.2.1 _ _ _ | exact (spigotref16_SameKeys.K_le mm_ mm_).2.2.2 _ _ _  | exact Le.refl _ | refine Le.cond ?_ ?_ | refine Le.bind ?_ fun _ => ?_))
/-! ### spigotlaw19_alive -/
noncomputable def spigotlaw19_alive.G (mm_ : Nat)  : Option (Bool × Unit) :=
  ((spigotlaw19_of.G mm_) 3).bind fun r0 =>
  ((registry_Put.G mm_) ([] : List t7.den) r0.1).bind fun r1 =>
  ((spigotlaw19_of.G mm_) 1).bind fun r2 =>
  ((registry_Put.G mm_) r1.1 r2.1).bind fun r3 =>
  ((spigotlaw19_of.G mm_) 9).bind fun r4 =>
  ((registry_Put.G mm_) r3.1 r4.1).bind fun r5 =>
  ((registry_Tenants.G mm_) r5.1).bind fun r6 =>
  ((registry_Drop.G mm_) r5.1 3).bind fun r7 =>
  ((registry_Find.G mm_) r7.1 9).bind fun r8 =>
  bif (r1.2.1 == 0) then
    bif (r3.2.1 == 0) then
      bif (r5.2.1 == 0) then
        bif (r6.2.1 == 0) then
          bif (r7.2.1 == 0) then
            bif (r8.2.1 == 0) then
              ((spigotref16_SameKeys.G mm_) r6.1 ([1, 3, 9] : List Int)).bind fun r9 =>
              bif r9.1 then
                some ((r8.1 == 1), ())
              else
                some (false, ())
            else
              some (false, ())
          else
            some (false, ())
        else
          some (false, ())
      else
        some (false, ())
    else
      some (false, ())
  else
    some (false, ())
theorem spigotlaw19_alive.G_le (mm_ : Nat)  : Le (spigotlaw19_alive.G mm_ ) (spigotlaw19_alive.F) := by
  rw [spigotlaw19_alive.F_eq]; unfold spigotlaw19_alive.G; (repeat' (with_reducible first  | exact spigotlaw19_of.G_le mm_ _ | exact registry_Put.G_le mm_ _ _ | exact registry_Tenants.G_le mm_ _ | exact registry_Drop.G_le mm_ _ _ | exact registry_Find.G_le mm_ _ _ | exact spigotref16_SameKeys.G_le mm_ _ _ | exact Le.refl _ | refine Le.cond ?_ ?_ | refine Le.bind ?_ fun _ => ?_))
/-! ### spigotlaw19_RegistryNames -/
noncomputable def spigotlaw19_RegistryNames.step (mm_ : Nat) (KK_ : (Int → (List t7.den) → (Option (Bool × Unit))) × (Int → (List t7.den) → (Option (Bool × Unit))) × (Int → (List t7.den) → (List (List t7.den)) → (Option (Bool × Unit))) × (Int → (List t7.den) → (List (List t7.den)) → (Option (Bool × Unit))) × (Int → (List t7.den) → (List (List t7.den)) → (Option (Bool × Unit)))) : (Int → (List t7.den) → (Option (Bool × Unit))) × (Int → (List t7.den) → (Option (Bool × Unit))) × (Int → (List t7.den) → (List (List t7.den)) → (Option (Bool × Unit))) × (Int → (List t7.den) → (List (List t7.den)) → (Option (Bool × Unit))) × (Int → (List t7.den) → (List (List t7.den)) → (Option (Bool × Unit))) := ((fun (i : Int) (l0 : (List t7.den)) =>
  bif (decide ((i : Int) < 8)) then
    KK_.2.1 i l0
  else
    ((spigotlaw19_of.G mm_) 1).bind fun r0 =>
    ((spigotlaw19_of.G mm_) 1).bind fun r1 =>
    ((spigotlaw19_of.G mm_) 2).bind fun r2 =>
    ((spigotlaw19_of.G mm_) 1).bind fun r3 =>
    KK_.2.2.1 0 l0 ([([(0, (List.replicate 3 (0, 0, 0, ())), ((0, 0, 0, ()), 0, 0, 0, ()), (0, ([] : List Int), ([] : List t1.den), (([] : List Int), ([] : List Bool), 0, ()), ([] : List t3.den), (([] : List Int), ([] : List Int), 0, 0, ()), ()), (0, ([] : List Int), ([] : List t1.den), (([] : List Int), ([] : List Bool), 0, ()), ([] : List t3.den), (([] : List Int), ([] : List Int), 0, 0, ()), ()), ([] : List Int), (0, 0, 0, ()), ())] : List t7.den), ([r0.1, r1.1] : List t7.den), ([r2.1, r3.1] : List t7.den)] : List (List t7.den))),
(fun (i : Int) (l0 : (List t7.den)) =>
  ((spigotlaw19_of.G mm_) (IntKind.wrap .u32 i)).bind fun r0 =>
  bif (lim ((List.length l0) + (List.length ([r0.1] : List t7.den))) t7) then
    KK_.1 (IntKind.wrap .i64 (i + 1)) (l0 ++ ([r0.1] : List t7.den))
  else none),
(fun (i : Int) (l0 : (List t7.den)) (l1 : (List (List t7.den))) =>
  bif (decide ((i : Int) < ((List.length l1 : Int)))) then
    KK_.2.2.2.1 i l0 l1
  else
    bif (decide ((0 : Int) ≤ 9 ∧ (9 : Int) ≤ 9) && (lim (Int.toNat 9) t7)) then
      ((registry_Check.G mm_) (List.replicate (Int.toNat 9) (0, (List.replicate 3 (0, 0, 0, ())), ((0, 0, 0, ()), 0, 0, 0, ()), (0, ([] : List Int), ([] : List t1.den), (([] : List Int), ([] : List Bool), 0, ()), ([] : List t3.den), (([] : List Int), ([] : List Int), 0, 0, ()), ()), (0, ([] : List Int), ([] : List t1.den), (([] : List Int), ([] : List Bool), 0, ()), ([] : List t3.den), (([] : List Int), ([] : List Int), 0, 0, ()), ()), ([] : List Int), (0, 0, 0, ()), ()))).bind fun r0 =>
      ((spigotlaw19_of.G mm_) 8).bind fun r1 =>
      ((registry_Put.G mm_) l0 r1.1).bind fun r2 =>
      ((spigotlaw19_of.G mm_) 7).bind fun r3 =>
      ((registry_Put.G mm_) l0 r3.1).bind fun r4 =>
      ((registry_Put.G mm_) l0 (0, (List.replicate 3 (0, 0, 0, ())), ((0, 0, 0, ()), 0, 0, 0, ()), (0, ([] : List Int), ([] : List t1.den), (([] : List Int), ([] : List Bool), 0, ()), ([] : List t3.den), (([] : List Int), ([] : List Int), 0, 0, ()), ()), (0, ([] : List Int), ([] : List t1.den), (([] : List Int), ([] : List Bool), 0, ()), ([] : List t3.den), (([] : List Int), ([] : List Int), 0, 0, ()), ()), ([] : List Int), (0, 0, 0, ()), ())).bind fun r5 =>
      ((spigotlaw19_of.G mm_) 8).bind fun r6 =>
      ((registry_Replace.G mm_) l0 r6.1).bind fun r7 =>
      ((registry_Replace.G mm_) ([] : List t7.den) (0, (List.replicate 3 (0, 0, 0, ())), ((0, 0, 0, ()), 0, 0, 0, ()), (0, ([] : List Int), ([] : List t1.den), (([] : List Int), ([] : List Bool), 0, ()), ([] : List t3.den), (([] : List Int), ([] : List Int), 0, 0, ()), ()), (0, ([] : List Int), ([] : List t1.den), (([] : List Int), ([] : List Bool), 0, ()), ([] : List t3.den), (([] : List Int), ([] : List Int), 0, 0, ()), ()), ([] : List Int), (0, 0, 0, ()), ())).bind fun r8 =>
      ((registry_Drop.G mm_) l0 4294967295).bind fun r9 =>
      ((registry_Find.G mm_) ([] : List t7.den) 0).bind fun r10 =>
      ((registry_Tenants.G mm_) ([] : List t7.den)).bind fun r11 =>
      ((registry_Find.G mm_) l0 7).bind fun r12 =>
      ((spigotlaw19_of.G mm_) 5).bind fun r13 =>
      ((registry_Drop.G mm_) ([r13.1] : List t7.den) 5).bind fun r14 =>
      (spigotlaw19_alive.G mm_).bind fun r15 =>
      bif r15.1 then
        bif (r0.1 == 4) then
          bif (r2.2.1 == 18) then
            bif (r4.2.1 == 14) then
              bif (r5.2.1 == 8) then
                bif (r7.2.1 == 6) then
                  bif (r8.2.1 == 8) then
                    bif (r9.2.1 == 6) then
                      bif (r10.2.1 == 6) then
                        bif (r11.2.1 == 0) then
                          bif (((List.length r11.1 : Int)) == 0) then
                            bif (r12.2.1 == 0) then
                              bif (r12.1 == 7) then
                                bif (r14.2.1 == 0) then
                                  some ((((List.length r14.1 : Int)) == 0), ())
                                else
                                  some (false, ())
                              else
                                some (false, ())
                            else
                              some (false, ())
                          else
                            some (false, ())
                        else
                          some (false, ())
                      else
                        some (false, ())
                    else
                      some (false, ())
                  else
                    some (false, ())
                else
                  some (false, ())
              else
                some (false, ())
            else
              some (false, ())
          else
            some (false, ())
        else
          some (false, ())
      else
        some (false, ())
    else none),
(fun (i : Int) (l0 : (List t7.den)) (l1 : (List (List t7.den))) =>
  bif (decide ((0 : Int) ≤ i ∧ (i : Int) < ((List.length l1 : Int)))) then
    ((registry_Find.G mm_) (List.getD l1 (Int.toNat i) ([] : List t7.den)) 1).bind fun r0 =>
    bif (decide ((0 : Int) ≤ i ∧ (i : Int) < ((List.length l1 : Int)))) then
      ((registry_Check.G mm_) (List.getD l1 (Int.toNat i) ([] : List t7.den))).bind fun r1 =>
      bif (r1.1 != 8) then
        some (false, ())
      else
        bif (r0.2.1 != 8) then
          some (false, ())
        else
          KK_.2.2.2.2 i l0 l1
    else none
  else none),
(fun (i : Int) (l0 : (List t7.den)) (l1 : (List (List t7.den))) =>
  KK_.2.2.1 (IntKind.wrap .i64 (i + 1)) l0 l1))
noncomputable def spigotlaw19_RegistryNames.K (mm_ : Nat) : Nat → (Int → (List t7.den) → (Option (Bool × Unit))) × (Int → (List t7.den) → (Option (Bool × Unit))) × (Int → (List t7.den) → (List (List t7.den)) → (Option (Bool × Unit))) × (Int → (List t7.den) → (List (List t7.den)) → (Option (Bool × Unit))) × (Int → (List t7.den) → (List (List t7.den)) → (Option (Bool × Unit)))
  | 0 => ((fun _ _ => none), (fun _ _ => none), (fun _ _ _ => none), (fun _ _ _ => none), (fun _ _ _ => none))
  | nn_ + 1 => spigotlaw19_RegistryNames.step mm_ (spigotlaw19_RegistryNames.K mm_ nn_)
theorem spigotlaw19_RegistryNames.step_le (mm_ : Nat) (KK_ : (Int → (List t7.den) → (Option (Bool × Unit))) × (Int → (List t7.den) → (Option (Bool × Unit))) × (Int → (List t7.den) → (List (List t7.den)) → (Option (Bool × Unit))) × (Int → (List t7.den) → (List (List t7.den)) → (Option (Bool × Unit))) × (Int → (List t7.den) → (List (List t7.den)) → (Option (Bool × Unit)))) (hh_ : (∀ i l0, Le (KK_.1 i l0) (spigotlaw19_RegistryNames.L1 i l0)) ∧ (∀ i l0, Le (KK_.2.1 i l0) (spigotlaw19_RegistryNames.L2 i l0)) ∧ (∀ i l0 l1, Le (KK_.2.2.1 i l0 l1) (spigotlaw19_RegistryNames.L3 i l0 l1)) ∧ (∀ i l0 l1, Le (KK_.2.2.2.1 i l0 l1) (spigotlaw19_RegistryNames.L4 i l0 l1)) ∧ (∀ i l0 l1, Le (KK_.2.2.2.2 i l0 l1) (spigotlaw19_RegistryNames.L5 i l0 l1))) : (∀ i l0, Le ((spigotlaw19_RegistryNames.step mm_ KK_).1 i l0) (spigotlaw19_RegistryNames.L1 i l0)) ∧ (∀ i l0, Le ((spigotlaw19_RegistryNames.step mm_ KK_).2.1 i l0) (spigotlaw19_RegistryNames.L2 i l0)) ∧ (∀ i l0 l1, Le ((spigotlaw19_RegistryNames.step mm_ KK_).2.2.1 i l0 l1) (spigotlaw19_RegistryNames.L3 i l0 l1)) ∧ (∀ i l0 l1, Le ((spigotlaw19_RegistryNames.step mm_ KK_).2.2.2.1 i l0 l1) (spigotlaw19_RegistryNames.L4 i l0 l1)) ∧ (∀ i l0 l1, Le ((spigotlaw19_RegistryNames.step mm_ KK_).2.2.2.2 i l0 l1) (spigotlaw19_RegistryNames.L5 i l0 l1)) := by
  refine ⟨fun i l0 => by rw [spigotlaw19_RegistryNames.L1_eq]; dsimp only [spigotlaw19_RegistryNames.step]; (repeat' (with_reducible first | exact hh_.1 _ _ | exact hh_.2.1 _ _ | exact hh_.2.2.1 _ _ _ | exact hh_.2.2.2.1 _ _ _ | exact hh_.2.2.2.2 _ _ _ | exact spigotlaw19_of.G_le mm_ _ | exact registry_Check.G_le mm_ _ | exact registry_Put.G_le mm_ _ _ | exact registry_Replace.G_le mm_ _ _ | exact registry_Drop.G_le mm_ _ _ | exact registry_Find.G_le mm_ _ _ | exact registry_Tenants.G_le mm_ _ | exact spigotlaw19_alive.G_le mm_ | exact Le.refl _ | refine Le.cond ?_ ?_ | refine Le.bind ?_ fun _ => ?_)),
    fun i l0 => by rw [spigotlaw19_RegistryNames.L2_eq]; dsimp only [spigotlaw19_RegistryNames.step]; (repeat' (with_reducible first | exact hh_.1 _ _ | exact hh_.2.1 _ _ | exact hh_.2.2.1 _ _ _ | exact hh_.2.2.2.1 _ _ _ | exact hh_.2.2.2.2 _ _ _ | exact spigotlaw19_of.G_le mm_ _ | exact registry_Check.G_le mm_ _ | exact registry_Put.G_le mm_ _ _ | exact registry_Replace.G_le mm_ _ _ | exact registry_Drop.G_le mm_ _ _ | exact registry_Find.G_le mm_ _ _ | exact registry_Tenants.G_le mm_ _ | exact spigotlaw19_alive.G_le mm_ | exact Le.refl _ | refine Le.cond ?_ ?_ | refine Le.bind ?_ fun _ => ?_)),
    fun i l0 l1 => by rw [spigotlaw19_RegistryNames.L3_eq]; dsimp only [spigotlaw19_RegistryNames.step]; (repeat' (with_reducible first | exact hh_.1 _ _ | exact hh_.2.1 _ _ | exact hh_.2.2.1 _ _ _ | exact hh_.2.2.2.1 _ _ _ | exact hh_.2.2.2.2 _ _ _ | exact spigotlaw19_of.G_le mm_ _ | exact registry_Check.G_le mm_ _ | exact registry_Put.G_le mm_ _ _ | exact registry_Replace.G_le mm_ _ _ | exact registry_Drop.G_le mm_ _ _ | exact registry_Find.G_le mm_ _ _ | exact registry_Tenants.G_le mm_ _ | exact spigotlaw19_alive.G_le mm_ | exact Le.refl _ | refine Le.cond ?_ ?_ | refine Le.bind ?_ fun _ => ?_)),
    fun i l0 l1 => by rw [spigotlaw19_RegistryNames.L4_eq]; dsimp only [spigotlaw19_RegistryNames.step]; (repeat' (with_reducible first | exact hh_.1 _ _ | exact hh_.2.1 _ _ | exact hh_.2.2.1 _ _ _ | exact hh_.2.2.2.1 _ _ _ | exact hh_.2.2.2.2 _ _ _ | exact spigotlaw19_of.G_le mm_ _ | exact registry_Check.G_le mm_ _ | exact registry_Put.G_le mm_ _ _ | exact registry_Replace.G_le mm_ _ _ | exact registry_Drop.G_le mm_ _ _ | exact registry_Find.G_le mm_ _ _ | exact registry_Tenants.G_le mm_ _ | exact spigotlaw19_alive.G_le mm_ | exact Le.refl _ | refine Le.cond ?_ ?_ | refine Le.bind ?_ fun _ => ?_)),
    fun i l0 l1 => by rw [spigotlaw19_RegistryNames.L5_eq]; dsimp only [spigotlaw19_RegistryNames.step]; (repeat' (with_reducible first | exact hh_.1 _ _ | exact hh_.2.1 _ _ | exact hh_.2.2.1 _ _ _ | exact hh_.2.2.2.1 _ _ _ | exact hh_.2.2.2.2 _ _ _ | exact spigotlaw19_of.G_le mm_ _ | exact registry_Check.G_le mm_ _ | exact registry_Put.G_le mm_ _ _ | exact registry_Replace.G_le mm_ _ _ | exact registry_Drop.G_le mm_ _ _ | exact registry_Find.G_le mm_ _ _ | exact registry_Tenants.G_le mm_ _ | exact spigotlaw19_alive.G_le mm_ | exact Le.refl _ | refine Le.cond ?_ ?_ | refine Le.bind ?_ fun _ => ?_))⟩
theorem spigotlaw19_RegistryNames.K_le (mm_ : Nat) : ∀ nn_, (∀ i l0, Le ((spigotlaw19_RegistryNames.K mm_ nn_).1 i l0) (spigotlaw19_RegistryNames.L1 i l0)) ∧ (∀ i l0, Le ((spigotlaw19_RegistryNames.K mm_ nn_).2.1 i l0) (spigotlaw19_RegistryNames.L2 i l0)) ∧ (∀ i l0 l1, Le ((spigotlaw19_RegistryNames.K mm_ nn_).2.2.1 i l0 l1) (spigotlaw19_RegistryNames.L3 i l0 l1)) ∧ (∀ i l0 l1, Le ((spigotlaw19_RegistryNames.K mm_ nn_).2.2.2.1 i l0 l1) (spigotlaw19_RegistryNames.L4 i l0 l1)) ∧ (∀ i l0 l1, Le ((spigotlaw19_RegistryNames.K mm_ nn_).2.2.2.2 i l0 l1) (spigotlaw19_RegistryNames.L5 i l0 l1))
  | 0 => ⟨fun _ _ => Le.none _, fun _ _ => Le.none _, fun _ _ _ => Le.none _, fun _ _ _ => Le.none _, fun _ _ _ => Le.none _⟩
  | nn_ + 1 => spigotlaw19_RegistryNames.step_le mm_ (spigotlaw19_RegistryNames.K mm_ nn_) (spigotlaw19_RegistryNames.K_le mm_ nn_)
noncomputable def spigotlaw19_RegistryNames.G (mm_ : Nat)  : Option (Bool × Unit) :=
  (spigotlaw19_RegistryNames.K mm_ mm_).1 0 ([] : List t7.den)
theorem spigotlaw19_RegistryNames.G_le (mm_ : Nat)  : Le (spigotlaw19_RegistryNames.G mm_ ) (spigotlaw19_RegistryNames.F) := by
  rw [spigotlaw19_RegistryNames.F_eq]; unfold spigotlaw19_RegistryNames.G; (repeat' (with_reducible first | exact (spigotlaw19_RegistryNames.K_le mm_ mm_).1 _ _ | exact (spigotlaw19_RegistryNames.K_le mm_ mm_).2.1 _ _ | exact (spigotlaw19_RegistryNames.K_le mm_ mm_).2.2.1 _ _ _ | exact (spigotlaw19_RegistryNames.K_le mm_ mm_).2.2.2.1 _ _ _ | exact (spigotlaw19_RegistryNames.K_le mm_ mm_).2.2.2.2 _ _ _ | exact spigotlaw19_of.G_le mm_ _ | exact registry_Check.G_le mm_ _ | exact registry_Put.G_le mm_ _ _ | exact registry_Replace.G_le mm_ _ _ | exact registry_Drop.G_le mm_ _ _ | exact registry_Find.G_le mm_ _ _ | exact registry_Tenants.G_le mm_ _ | exact spigotlaw19_alive.G_le mm_ | exact Le.refl _ | refine Le.cond ?_ ?_ | refine Le.bind ?_ fun _ => ?_))
end Go.Proofs.Ytjmgelpeonodgaa.PM
