/- Twins of the functions with bounded rounds, printed by a program of this session. -/
import Derived.Test.YtjmgelpeonodgaaLe
import Derived.Test.YtjmgelpeonodgaaZpm
namespace Go.Proofs.Ytjmgelpeonodgaa.PM
set_option linter.unusedSimpArgs false
set_option linter.unusedVariables false
open Go Go.Proofs
/-! ### bucket_CheckLimit -/
noncomputable def bucket_CheckLimit.step (mm_ : Nat) (KK_ : ((Option (Int × Unit)))) : ((Option (Int × Unit))) := ((
  some (0, ())))
noncomputable def bucket_CheckLimit.K (mm_ : Nat) : Nat → ((Option (Int × Unit)))
  | 0 => (( none))
  | nn_ + 1 => bucket_CheckLimit.step mm_ (bucket_CheckLimit.K mm_ nn_)
theorem bucket_CheckLimit.step_le (mm_ : Nat) (KK_ : ((Option (Int × Unit)))) (hh_ : (Le (KK_ ) (bucket_CheckLimit.L1 ))) : (Le ((bucket_CheckLimit.step mm_ KK_) ) (bucket_CheckLimit.L1 )) := by
  refine  by rw [bucket_CheckLimit.L1_eq]; dsimp only [bucket_CheckLimit.step]; (repeat' (with_reducible first | exact hh_  | exact Le.refl _ | refine Le.cond ?_ ?_ | refine Le.bind ?_ fun _ => ?_))
theorem bucket_CheckLimit.K_le (mm_ : Nat) : ∀ nn_, (Le ((bucket_CheckLimit.K mm_ nn_) ) (bucket_CheckLimit.L1 ))
  | 0 =>  Le.none _
  | nn_ + 1 => bucket_CheckLimit.step_le mm_ (bucket_CheckLimit.K mm_ nn_) (bucket_CheckLimit.K_le mm_ nn_)
noncomputable def bucket_CheckLimit.G (mm_ : Nat) (l : t0.den) : Option (Int × Unit) :=
  bif (decide ((l.1 : Int) < 1)) then
    some (8, ())
  else
    bif (decide ((l.1 : Int) > 1000000000)) then
      some (8, ())
    else
      bif (decide ((l.2.1 : Int) < 0)) then
        some (8, ())
      else
        bif (decide ((l.2.1 : Int) > 1000000000)) then
          some (8, ())
        else
          bif (decide ((l.2.2.1 : Int) < 1)) then
            some (8, ())
          else
            bif (decide ((l.2.2.1 : Int) > 1000000000)) then
              some (8, ())
            else
              (bucket_CheckLimit.K mm_ mm_)
theorem bucket_CheckLimit.G_le (mm_ : Nat) (l : t0.den) : Le (bucket_CheckLimit.G mm_ l) (bucket_CheckLimit.F l) := by
  rw [bucket_CheckLimit.F_eq]; unfold bucket_CheckLimit.G; (repeat' (with_reducible first | exact (bucket_CheckLimit.K_le mm_ mm_)  | exact Le.refl _ | refine Le.cond ?_ ?_ | refine Le.bind ?_ fun _ => ?_))
/-! ### part_valid -/
noncomputable def part_valid.step (mm_ : Nat) (KK_ : ((List t0.den) → Int → (Option (Bool × Unit))) × ((List t0.den) → Int → (Option (Bool × Unit))) × ((List t0.den) → Int → (Option (Bool × Unit)))) : ((List t0.den) → Int → (Option (Bool × Unit))) × ((List t0.den) → Int → (Option (Bool × Unit))) × ((List t0.den) → Int → (Option (Bool × Unit))) := ((fun (t5_ : (List t0.den)) (t6_ : Int) =>
  bif (decide ((t6_ : Int) < 3)) then
    KK_.2.1 t5_ t6_
  else
    some (true, ())),
(fun (t5_ : (List t0.den)) (t6_ : Int) =>
  bif (decide ((0 : Int) ≤ t6_ ∧ (t6_ : Int) < 3)) then
    ((bucket_CheckLimit.G mm_) (List.getD t5_ (Int.toNat t6_) (0, 0, 0, ()))).bind fun r0 =>
    bif (r0.1 != 0) then
      some (false, ())
    else
      KK_.2.2 t5_ t6_
  else none),
(fun (t5_ : (List t0.den)) (t6_ : Int) =>
  KK_.1 t5_ (IntKind.wrap .i64 (t6_ + 1))))
noncomputable def part_valid.K (mm_ : Nat) : Nat → ((List t0.den) → Int → (Option (Bool × Unit))) × ((List t0.den) → Int → (Option (Bool × Unit))) × ((List t0.den) → Int → (Option (Bool × Unit)))
  | 0 => ((fun _ _ => none), (fun _ _ => none), (fun _ _ => none))
  | nn_ + 1 => part_valid.step mm_ (part_valid.K mm_ nn_)
theorem part_valid.step_le (mm_ : Nat) (KK_ : ((List t0.den) → Int → (Option (Bool × Unit))) × ((List t0.den) → Int → (Option (Bool × Unit))) × ((List t0.den) → Int → (Option (Bool × Unit)))) (hh_ : (∀ t5_ t6_, Le (KK_.1 t5_ t6_) (part_valid.L1 t5_ t6_)) ∧ (∀ t5_ t6_, Le (KK_.2.1 t5_ t6_) (part_valid.L2 t5_ t6_)) ∧ (∀ t5_ t6_, Le (KK_.2.2 t5_ t6_) (part_valid.L3 t5_ t6_))) : (∀ t5_ t6_, Le ((part_valid.step mm_ KK_).1 t5_ t6_) (part_valid.L1 t5_ t6_)) ∧ (∀ t5_ t6_, Le ((part_valid.step mm_ KK_).2.1 t5_ t6_) (part_valid.L2 t5_ t6_)) ∧ (∀ t5_ t6_, Le ((part_valid.step mm_ KK_).2.2 t5_ t6_) (part_valid.L3 t5_ t6_)) := by
  refine ⟨fun t5_ t6_ => by rw [part_valid.L1_eq]; dsimp only [part_valid.step]; (repeat' (with_reducible first | exact hh_.1 _ _ | exact hh_.2.1 _ _ | exact hh_.2.2 _ _ | exact bucket_CheckLimit.G_le mm_ _ | exact Le.refl _ | refine Le.cond ?_ ?_ | refine Le.bind ?_ fun _ => ?_)),
    fun t5_ t6_ => by rw [part_valid.L2_eq]; dsimp only [part_valid.step]; (repeat' (with_reducible first | exact hh_.1 _ _ | exact hh_.2.1 _ _ | exact hh_.2.2 _ _ | exact bucket_CheckLimit.G_le mm_ _ | exact Le.refl _ | refine Le.cond ?_ ?_ | refine Le.bind ?_ fun _ => ?_)),
    fun t5_ t6_ => by rw [part_valid.L3_eq]; dsimp only [part_valid.step]; (repeat' (with_reducible first | exact hh_.1 _ _ | exact hh_.2.1 _ _ | exact hh_.2.2 _ _ | exact bucket_CheckLimit.G_le mm_ _ | exact Le.refl _ | refine Le.cond ?_ ?_ | refine Le.bind ?_ fun _ => ?_))⟩
theorem part_valid.K_le (mm_ : Nat) : ∀ nn_, (∀ t5_ t6_, Le ((part_valid.K mm_ nn_).1 t5_ t6_) (part_valid.L1 t5_ t6_)) ∧ (∀ t5_ t6_, Le ((part_valid.K mm_ nn_).2.1 t5_ t6_) (part_valid.L2 t5_ t6_)) ∧ (∀ t5_ t6_, Le ((part_valid.K mm_ nn_).2.2 t5_ t6_) (part_valid.L3 t5_ t6_))
  | 0 => ⟨fun _ _ => Le.none _, fun _ _ => Le.none _, fun _ _ => Le.none _⟩
  | nn_ + 1 => part_valid.step_le mm_ (part_valid.K mm_ nn_) (part_valid.K_le mm_ nn_)
noncomputable def part_valid.G (mm_ : Nat) (l : (List t0.den)) : Option (Bool × Unit) :=
  (part_valid.K mm_ mm_).1 l 0
theorem part_valid.G_le (mm_ : Nat) (l : (List t0.den)) : Le (part_valid.G mm_ l) (part_valid.F l) := by
  rw [part_valid.F_eq]; unfold part_valid.G; (repeat' (with_reducible first | exact (part_valid.K_le mm_ mm_).1 _ _ | exact (part_valid.K_le mm_ mm_).2.1 _ _ | exact (part_valid.K_le mm_ mm_).2.2 _ _ | exact bucket_CheckLimit.G_le mm_ _ | exact Le.refl _ | refine Le.cond ?_ ?_ | refine Le.bind ?_ fun _ => ?_))
/-! ### bucket_Check -/
noncomputable def bucket_Check.step (mm_ : Nat) (KK_ : (Int → Int → Int → Int → Int → Int → (Option (Int × Unit))) × ((Option (Int × Unit)))) : (Int → Int → Int → Int → Int → Int → (Option (Int × Unit))) × ((Option (Int × Unit))) := ((fun (b0 : Int) (b02 : Int) (b03 : Int) (b04 : Int) (b05 : Int) (b06 : Int) =>
  bif (decide ((b04 : Int) < 0)) then
    some (8, ())
  else
    bif (decide (((IntKind.wrap .i64 (b0 - b04)) : Int) < 0)) then
      some (8, ())
    else
      bif (decide ((b05 : Int) < 0)) then
        some (8, ())
      else
        bif (decide ((b05 : Int) ≥ b03)) then
          some (8, ())
        else
          bif ((IntKind.wrap .i64 (b0 - b04)) == 0) then
            bif (decide ((b05 : Int) > 0)) then
              some (8, ())
            else
              KK_.2
          else
            KK_.2),
(
  some (0, ())))
noncomputable def bucket_Check.K (mm_ : Nat) : Nat → (Int → Int → Int → Int → Int → Int → (Option (Int × Unit))) × ((Option (Int × Unit)))
  | 0 => ((fun _ _ _ _ _ _ => none), ( none))
  | nn_ + 1 => bucket_Check.step mm_ (bucket_Check.K mm_ nn_)
theorem bucket_Check.step_le (mm_ : Nat) (KK_ : (Int → Int → Int → Int → Int → Int → (Option (Int × Unit))) × ((Option (Int × Unit)))) (hh_ : (∀ b0 b02 b03 b04 b05 b06, Le (KK_.1 b0 b02 b03 b04 b05 b06) (bucket_Check.L1 b0 b02 b03 b04 b05 b06)) ∧ (Le (KK_.2 ) (bucket_Check.L2 ))) : (∀ b0 b02 b03 b04 b05 b06, Le ((bucket_Check.step mm_ KK_).1 b0 b02 b03 b04 b05 b06) (bucket_Check.L1 b0 b02 b03 b04 b05 b06)) ∧ (Le ((bucket_Check.step mm_ KK_).2 ) (bucket_Check.L2 )) := by
  refine ⟨fun b0 b02 b03 b04 b05 b06 => by rw [bucket_Check.L1_eq]; dsimp only [bucket_Check.step]; (repeat' (with_reducible first | exact hh_.1 _ _ _ _ _ _ | exact hh_.2 | exact bucket_CheckLimit.G_le mm_ _ | exact Le.refl _ | refine Le.cond ?_ ?_ | refine Le.bind ?_ fun _ => ?_)),
     by rw [bucket_Check.L2_eq]; dsimp only [bucket_Check.step]; (repeat' (with_reducible first | exact hh_.1 _ _ _ _ _ _ | exact hh_.2 | exact bucket_CheckLimit.G_le mm_ _ | exact Le.refl _ | refine Le.cond ?_ ?_ | refine Le.bind ?_ fun _ => ?_))⟩
theorem bucket_Check.K_le (mm_ : Nat) : ∀ nn_, (∀ b0 b02 b03 b04 b05 b06, Le ((bucket_Check.K mm_ nn_).1 b0 b02 b03 b04 b05 b06) (bucket_Check.L1 b0 b02 b03 b04 b05 b06)) ∧ (Le ((bucket_Check.K mm_ nn_).2 ) (bucket_Check.L2 ))
  | 0 => ⟨fun _ _ _ _ _ _ => Le.none _,  Le.none _⟩
  | nn_ + 1 => bucket_Check.step_le mm_ (bucket_Check.K mm_ nn_) (bucket_Check.K_le mm_ nn_)
noncomputable def bucket_Check.G (mm_ : Nat) (b : t1.den) : Option (Int × Unit) :=
  ((bucket_CheckLimit.G mm_) b.1).bind fun r0 =>
  bif (r0.1 != 0) then
    some (r0.1, ())
  else
    (bucket_Check.K mm_ mm_).1 b.1.1 b.1.2.1 b.1.2.2.1 b.2.1 b.2.2.1 b.2.2.2.1
theorem bucket_Check.G_le (mm_ : Nat) (b : t1.den) : Le (bucket_Check.G mm_ b) (bucket_Check.F b) := by
  rw [bucket_Check.F_eq]; unfold bucket_Check.G; (repeat' (with_reducible first | exact (bucket_Check.K_le mm_ mm_).1 _ _ _ _ _ _ | exact (bucket_Check.K_le mm_ mm_).2 | exact bucket_CheckLimit.G_le mm_ _ | exact Le.refl _ | refine Le.cond ?_ ?_ | refine Le.bind ?_ fun _ => ?_))
/-! ### lru_Check -/
noncomputable def lru_Check.step (mm_ : Nat) (KK_ : (Int → (List Int) → (List Int) → Int → Int → (Option (Int × Unit))) × (Int → Int → Int → (List Int) → (List Int) → Int → Int → (List Bool) → (Option (Int × Unit))) × (Int → Int → Int → (List Int) → (List Int) → Int → Int → (List Bool) → (Option (Int × Unit))) × (Int → Int → Int → (List Int) → (List Int) → Int → Int → (List Bool) → (Option (Int × Unit))) × (Int → Int → Int → (List Int) → (List Int) → Int → Int → (List Bool) → (Option (Int × Unit))) × ((Option (Int × Unit))) × (Int → Int → Int → (List Int) → (List Int) → Int → Int → (List Bool) → (Option (Int × Unit))) × (Int → Int → (List Int) → (List Int) → Int → Int → (List Bool) → (Option (Int × Unit)))) : (Int → (List Int) → (List Int) → Int → Int → (Option (Int × Unit))) × (Int → Int → Int → (List Int) → (List Int) → Int → Int → (List Bool) → (Option (Int × Unit))) × (Int → Int → Int → (List Int) → (List Int) → Int → Int → (List Bool) → (Option (Int × Unit))) × (Int → Int → Int → (List Int) → (List Int) → Int → Int → (List Bool) → (Option (Int × Unit))) × (Int → Int → Int → (List Int) → (List Int) → Int → Int → (List Bool) → (Option (Int × Unit))) × ((Option (Int × Unit))) × (Int → Int → Int → (List Int) → (List Int) → Int → Int → (List Bool) → (Option (Int × Unit))) × (Int → Int → (List Int) → (List Int) → Int → Int → (List Bool) → (Option (Int × Unit))) := ((fun (n : Int) (b0 : (List Int)) (b02 : (List Int)) (b03 : Int) (b04 : Int) =>
  bif (decide ((0 : Int) ≤ n ∧ (n : Int) ≤ n) && (lim (Int.toNat n) .bool)) then
    KK_.2.1 n (-1) b03 b0 b02 b03 b04 (List.replicate (Int.toNat n) false)
  else none),
(fun (n : Int) (last : Int) (i : Int) (b0 : (List Int)) (b02 : (List Int)) (b03 : Int) (b04 : Int) (l1 : (List Bool)) =>
  bif (i != (-1)) then
    KK_.2.2.1 n last i b0 b02 b03 b04 l1
  else
    KK_.2.2.2.1 last ((List.length l1 : Int)) 0 b0 b02 b03 b04 l1),
(fun (n : Int) (last : Int) (i : Int) (b0 : (List Int)) (b02 : (List Int)) (b03 : Int) (b04 : Int) (l1 : (List Bool)) =>
  bif (decide ((i : Int) < 0)) then
    some (8, ())
  else
    bif (decide ((i : Int) ≥ n)) then
      some (8, ())
    else
      bif (decide ((0 : Int) ≤ i ∧ (i : Int) < ((List.length l1 : Int)))) then
        bif (List.getD l1 (Int.toNat i) false) then
          some (8, ())
        else
          bif (decide ((0 : Int) ≤ i ∧ (i : Int) < ((List.length b0 : Int)))) then
            bif ((List.getD b0 (Int.toNat i) 0) != last) then
              some (8, ())
            else
              KK_.2.2.2.2.2.2.2 n i b0 b02 b03 b04 l1
          else none
      else none),
(fun (last : Int) (t63_ : Int) (t64_ : Int) (b0 : (List Int)) (b02 : (List Int)) (b03 : Int) (b04 : Int) (l1 : (List Bool)) =>
  bif (decide ((t64_ : Int) < t63_)) then
    KK_.2.2.2.2.1 last t63_ t64_ b0 b02 b03 b04 l1
  else
    bif (b04 != last) then
      some (8, ())
    else
      KK_.2.2.2.2.2.1),
(fun (last : Int) (t63_ : Int) (t64_ : Int) (b0 : (List Int)) (b02 : (List Int)) (b03 : Int) (b04 : Int) (l1 : (List Bool)) =>
  bif (decide ((0 : Int) ≤ t64_ ∧ (t64_ : Int) < ((List.length l1 : Int)))) then
    bif (!(List.getD l1 (Int.toNat t64_) false)) then
      bif (decide ((0 : Int) ≤ t64_ ∧ (t64_ : Int) < ((List.length b0 : Int)))) then
        bif ((List.getD b0 (Int.toNat t64_) 0) != (-1)) then
          some (8, ())
        else
          bif (decide ((0 : Int) ≤ t64_ ∧ (t64_ : Int) < ((List.length b02 : Int)))) then
            bif ((List.getD b02 (Int.toNat t64_) 0) != (-1)) then
              some (8, ())
            else
              KK_.2.2.2.2.2.2.1 last t63_ t64_ b0 b02 b03 b04 l1
          else none
      else none
    else
      KK_.2.2.2.2.2.2.1 last t63_ t64_ b0 b02 b03 b04 l1
  else none),
(
  some (0, ())),
(fun (last : Int) (t63_ : Int) (t64_ : Int) (b0 : (List Int)) (b02 : (List Int)) (b03 : Int) (b04 : Int) (l1 : (List Bool)) =>
  KK_.2.2.2.1 last t63_ (IntKind.wrap .i64 (t64_ + 1)) b0 b02 b03 b04 l1),
(fun (n : Int) (i : Int) (b0 : (List Int)) (b02 : (List Int)) (b03 : Int) (b04 : Int) (l1 : (List Bool)) =>
  bif (decide ((0 : Int) ≤ i ∧ (i : Int) < ((List.length l1 : Int)))) then
    bif (decide ((0 : Int) ≤ i ∧ (i : Int) < ((List.length b02 : Int)))) then
      KK_.2.1 n i (List.getD b02 (Int.toNat i) 0) b0 b02 b03 b04 (List.set l1 (Int.toNat i) true)
    else none
  else none))
noncomputable def lru_Check.K (mm_ : Nat) : Nat → (Int → (List Int) → (List Int) → Int → Int → (Option (Int × Unit))) × (Int → Int → Int → (List Int) → (List Int) → Int → Int → (List Bool) → (Option (Int × Unit))) × (Int → Int → Int → (List Int) → (List Int) → Int → Int → (List Bool) → (Option (Int × Unit))) × (Int → Int → Int → (List Int) → (List Int) → Int → Int → (List Bool) → (Option (Int × Unit))) × (Int → Int → Int → (List Int) → (List Int) → Int → Int → (List Bool) → (Option (Int × Unit))) × ((Option (Int × Unit))) × (Int → Int → Int → (List Int) → (List Int) → Int → Int → (List Bool) → (Option (Int × Unit))) × (Int → Int → (List Int) → (List Int) → Int → Int → (List Bool) → (Option (Int × Unit)))
  | 0 => ((fun _ _ _ _ _ => none), (fun _ _ _ _ _ _ _ _ => none), (fun _ _ _ _ _ _ _ _ => none), (fun _ _ _ _ _ _ _ _ => none), (fun _ _ _ _ _ _ _ _ => none), ( none), (fun _ _ _ _ _ _ _ _ => none), (fun _ _ _ _ _ _ _ => none))
  | nn_ + 1 => lru_Check.step mm_ (lru_Check.K mm_ nn_)
theorem lru_Check.step_le (mm_ : Nat) (KK_ : (Int → (List Int) → (List Int) → Int → Int → (Option (Int × Unit))) × (Int → Int → Int → (List Int) → (List Int) → Int → Int → (List Bool) → (Option (Int × Unit))) × (Int → Int → Int → (List Int) → (List Int) → Int → Int → (List Bool) → (Option (Int × Unit))) × (Int → Int → Int → (List Int) → (List Int) → Int → Int → (List Bool) → (Option (Int × Unit))) × (Int → Int → Int → (List Int) → (List Int) → Int → Int → (List Bool) → (Option (Int × Unit))) × ((Option (Int × Unit))) × (Int → Int → Int → (List Int) → (List Int) → Int → Int → (List Bool) → (Option (Int × Unit))) × (Int → Int → (List Int) → (List Int) → Int → Int → (List Bool) → (Option (Int × Unit)))) (hh_ : (∀ n b0 b02 b03 b04, Le (KK_.1 n b0 b02 b03 b04) (lru_Check.L1 n b0 b02 b03 b04)) ∧ (∀ n last i b0 b02 b03 b04 l1, Le (KK_.2.1 n last i b0 b02 b03 b04 l1) (lru_Check.L2 n last i b0 b02 b03 b04 l1)) ∧ (∀ n last i b0 b02 b03 b04 l1, Le (KK_.2.2.1 n last i b0 b02 b03 b04 l1) (lru_Check.L3 n last i b0 b02 b03 b04 l1)) ∧ (∀ last t63_ t64_ b0 b02 b03 b04 l1, Le (KK_.2.2.2.1 last t63_ t64_ b0 b02 b03 b04 l1) (lru_Check.L4 last t63_ t64_ b0 b02 b03 b04 l1)) ∧ (∀ last t63_ t64_ b0 b02 b03 b04 l1, Le (KK_.2.2.2.2.1 last t63_ t64_ b0 b02 b03 b04 l1) (lru_Check.L5 last t63_ t64_ b0 b02 b03 b04 l1)) ∧ (Le (KK_.2.2.2.2.2.1 ) (lru_Check.L6 )) ∧ (∀ last t63_ t64_ b0 b02 b03 b04 l1, Le (KK_.2.2.2.2.2.2.1 last t63_ t64_ b0 b02 b03 b04 l1) (lru_Check.L7 last t63_ t64_ b0 b02 b03 b04 l1)) ∧ (∀ n i b0 b02 b03 b04 l1, Le (KK_.2.2.2.2.2.2.2 n i b0 b02 b03 b04 l1) (lru_Check.L8 n i b0 b02 b03 b04 l1))) : (∀ n b0 b02 b03 b04, Le ((lru_Check.step mm_ KK_).1 n b0 b02 b03 b04) (lru_Check.L1 n b0 b02 b03 b04)) ∧ (∀ n last i b0 b02 b03 b04 l1, Le ((lru_Check.step mm_ KK_).2.1 n last i b0 b02 b03 b04 l1) (lru_Check.L2 n last i b0 b02 b03 b04 l1)) ∧ (∀ n last i b0 b02 b03 b04 l1, Le ((lru_Check.step mm_ KK_).2.2.1 n last i b0 b02 b03 b04 l1) (lru_Check.L3 n last i b0 b02 b03 b04 l1)) ∧ (∀ last t63_ t64_ b0 b02 b03 b04 l1, Le ((lru_Check.step mm_ KK_).2.2.2.1 last t63_ t64_ b0 b02 b03 b04 l1) (lru_Check.L4 last t63_ t64_ b0 b02 b03 b04 l1)) ∧ (∀ last t63_ t64_ b0 b02 b03 b04 l1, Le ((lru_Check.step mm_ KK_).2.2.2.2.1 last t63_ t64_ b0 b02 b03 b04 l1) (lru_Check.L5 last t63_ t64_ b0 b02 b03 b04 l1)) ∧ (Le ((lru_Check.step mm_ KK_).2.2.2.2.2.1 ) (lru_Check.L6 )) ∧ (∀ last t63_ t64_ b0 b02 b03 b04 l1, Le ((lru_Check.step mm_ KK_).2.2.2.2.2.2.1 last t63_ t64_ b0 b02 b03 b04 l1) (lru_Check.L7 last t63_ t64_ b0 b02 b03 b04 l1)) ∧ (∀ n i b0 b02 b03 b04 l1, Le ((lru_Check.step mm_ KK_).2.2.2.2.2.2.2 n i b0 b02 b03 b04 l1) (lru_Check.L8 n i b0 b02 b03 b04 l1)) := by
  refine ⟨fun n b0 b02 b03 b04 => by rw [lru_Check.L1_eq]; dsimp only [lru_Check.step]; (repeat' (with_reducible first | exact hh_.1 _ _ _ _ _ | exact hh_.2.1 _ _ _ _ _ _ _ _ | exact hh_.2.2.1 _ _ _ _ _ _ _ _ | exact hh_.2.2.2.1 _ _ _ _ _ _ _ _ | exact hh_.2.2.2.2.1 _ _ _ _ _ _ _ _ | exact hh_.2.2.2.2.2.1 | exact hh_.2.2.2.2.2.2.1 _ _ _ _ _ _ _ _ | exact hh_.2.2.2.2.2.2.2 _ _ _ _ _ _ _  | exact Le.refl _ | refine Le.cond ?_ ?_ | refine Le.bind ?_ fun _ => ?_)),
    fun n last i b0 b02 b03 b04 l1 => by rw [lru_Check.L2_eq]; dsimp only [lru_Check.step]; (repeat' (with_reducible first | exact hh_.1 _ _ _ _ _ | exact hh_.2.1 _ _ _ _ _ _ _ _ | exact hh_.2.2.1 _ _ _ _ _ _ _ _ | exact hh_.2.2.2.1 _ _ _ _ _ _ _ _ | exact hh_.2.2.2.2.1 _ _ _ _ _ _ _ _ | exact hh_.2.2.2.2.2.1 | exact hh_.2.2.2.2.2.2.1 _ _ _ _ _ _ _ _ | exact hh_.2.2.2.2.2.2.2 _ _ _ _ _ _ _  | exact Le.refl _ | refine Le.cond ?_ ?_ | refine Le.bind ?_ fun _ => ?_)),
    fun n last i b0 b02 b03 b04 l1 => by rw [lru_Check.L3_eq]; dsimp only [lru_Check.step]; (repeat' (with_reducible first | exact hh_.1 _ _ _ _ _ | exact hh_.2.1 _ _ _ _ _ _ _ _ | exact hh_.2.2.1 _ _ _ _ _ _ _ _ | exact hh_.2.2.2.1 _ _ _ _ _ _ _ _ | exact hh_.2.2.2.2.1 _ _ _ _ _ _ _ _ | exact hh_.2.2.2.2.2.1 | exact hh_.2.2.2.2.2.2.1 _ _ _ _ _ _ _ _ | exact hh_.2.2.2.2.2.2.2 _ _ _ _ _ _ _  | exact Le.refl _ | refine Le.cond ?_ ?_ | refine Le.bind ?_ fun _ => ?_)),
    fun last t63_ t64_ b0 b02 b03 b04 l1 => by rw [lru_Check.L4_eq]; dsimp only [lru_Check.step]; (repeat' (with_reducible first | exact hh_.1 _ _ _ _ _ | exact hh_.2.1 _ _ _ _ _ _ _ _ | exact hh_.2.2.1 _ _ _ _ _ _ _ _ | exact hh_.2.2.2.1 _ _ _ _ _ _ _ _ | exact hh_.2.2.2.2.1 _ _ _ _ _ _ _ _ | exact hh_.2.2.2.2.2.1 | exact hh_.2.2.2.2.2.2.1 _ _ _ _ _ _ _ _ | exact hh_.2.2.2.2.2.2.2 _ _ _ _ _ _ _  | exact Le.refl _ | refine Le.cond ?_ ?_ | refine Le.bind ?_ fun _ => ?_)),
    fun last t63_ t64_ b0 b02 b03 b04 l1 => by rw [lru_Check.L5_eq]; dsimp only [lru_Check.step]; (repeat' (with_reducible first | exact hh_.1 _ _ _ _ _ | exact hh_.2.1 _ _ _ _ _ _ _ _ | exact hh_.2.2.1 _ _ _ _ _ _ _ _ | exact hh_.2.2.2.1 _ _ _ _ _ _ _ _ | exact hh_.2.2.2.2.1 _ _ _ _ _ _ _ _ | exact hh_.2.2.2.2.2.1 | exact hh_.2.2.2.2.2.2.1 _ _ _ _ _ _ _ _ | exact hh_.2.2.2.2.2.2.2 _ _ _ _ _ _ _  | exact Le.refl _ | refine Le.cond ?_ ?_ | refine Le.bind ?_ fun _ => ?_)),
     by rw [lru_Check.L6_eq]; dsimp only [lru_Check.step]; (repeat' (with_reducible first | exact hh_.1 _ _ _ _ _ | exact hh_.2.1 _ _ _ _ _ _ _ _ | exact hh_.2.2.1 _ _ _ _ _ _ _ _ | exact hh_.2.2.2.1 _ _ _ _ _ _ _ _ | exact hh_.2.2.2.2.1 _ _ _ _ _ _ _ _ | exact hh_.2.2.2.2.2.1 | exact hh_.2.2.2.2.2.2.1 _ _ _ _ _ _ _ _ | exact hh_.2.2.2.2.2.2.2 _ _ _ _ _ _ _  | exact Le.refl _ | refine Le.cond ?_ ?_ | refine Le.bind ?_ fun _ => ?_)),
    fun last t63_ t64_ b0 b02 b03 b04 l1 => by rw [lru_Check.L7_eq]; dsimp only [lru_Check.step]; (repeat' (with_reducible first | exact hh_.1 _ _ _ _ _ | exact hh_.2.1 _ _ _ _ _ _ _ _ | exact hh_.2.2.1 _ _ _ _ _ _ _ _ | exact hh_.2.2.2.1 _ _ _ _ _ _ _ _ | exact hh_.2.2.2.2.1 _ _ _ _ _ _ _ _ | exact hh_.2.2.2.2.2.1 | exact hh_.2.2.2.2.2.2.1 _ _ _ _ _ _ _ _ | exact hh_.2.2.2.2.2.2.2 _ _ _ _ _ _ _  | exact Le.refl _ | refine Le.cond ?_ ?_ | refine Le.bind ?_ fun _ => ?_)),
    fun n i b0 b02 b03 b04 l1 => by rw [lru_Check.L8_eq]; dsimp only [lru_Check.step]; (repeat' (with_reducible first | exact hh_.1 _ _ _ _ _ | exact hh_.2.1 _ _ _ _ _ _ _ _ | exact hh_.2.2.1 _ _ _ _ _ _ _ _ | exact hh_.2.2.2.1 _ _ _ _ _ _ _ _ | exact hh_.2.2.2.2.1 _ _ _ _ _ _ _ _ | exact hh_.2.2.2.2.2.1 | exact hh_.2.2.2.2.2.2.1 _ _ _ _ _ _ _ _ | exact hh_.2.2.2.2.2.2.2 _ _ _ _ _ _ _  | exact Le.refl _ | refine Le.cond ?_ ?_ | refine Le.bind ?_ fun _ => ?_))⟩
theorem lru_Check.K_le (mm_ : Nat) : ∀ nn_, (∀ n b0 b02 b03 b04, Le ((lru_Check.K mm_ nn_).1 n b0 b02 b03 b04) (lru_Check.L1 n b0 b02 b03 b04)) ∧ (∀ n last i b0 b02 b03 b04 l1, Le ((lru_Check.K mm_ nn_).2.1 n last i b0 b02 b03 b04 l1) (lru_Check.L2 n last i b0 b02 b03 b04 l1)) ∧ (∀ n last i b0 b02 b03 b04 l1, Le ((lru_Check.K mm_ nn_).2.2.1 n last i b0 b02 b03 b04 l1) (lru_Check.L3 n last i b0 b02 b03 b04 l1)) ∧ (∀ last t63_ t64_ b0 b02 b03 b04 l1, Le ((lru_Check.K mm_ nn_).2.2.2.1 last t63_ t64_ b0 b02 b03 b04 l1) (lru_Check.L4 last t63_ t64_ b0 b02 b03 b04 l1)) ∧ (∀ last t63_ t64_ b0 b02 b03 b04 l1, Le ((lru_Check.K mm_ nn_).2.2.2.2.1 last t63_ t64_ b0 b02 b03 b04 l1) (lru_Check.L5 last t63_ t64_ b0 b02 b03 b04 l1)) ∧ (Le ((lru_Check.K mm_ nn_).2.2.2.2.2.1 ) (lru_Check.L6 )) ∧ (∀ last t63_ t64_ b0 b02 b03 b04 l1, Le ((lru_Check.K mm_ nn_).2.2.2.2.2.2.1 last t63_ t64_ b0 b02 b03 b04 l1) (lru_Check.L7 last t63_ t64_ b0 b02 b03 b04 l1)) ∧ (∀ n i b0 b02 b03 b04 l1, Le ((lru_Check.K mm_ nn_).2.2.2.2.2.2.2 n i b0 b02 b03 b04 l1) (lru_Check.L8 n i b0 b02 b03 b04 l1))
  | 0 => ⟨fun _ _ _ _ _ => Le.none _, fun _ _ _ _ _ _ _ _ => Le.none _, fun _ _ _ _ _ _ _ _ => Le.none _, fun _ _ _ _ _ _ _ _ => Le.none _, fun _ _ _ _ _ _ _ _ => Le.none _,  Le.none _, fun _ _ _ _ _ _ _ _ => Le.none _, fun _ _ _ _ _ _ _ => Le.none _⟩
  | nn_ + 1 => lru_Check.step_le mm_ (lru_Check.K mm_ nn_) (lru_Check.K_le mm_ nn_)
noncomputable def lru_Check.G (mm_ : Nat) (o : t4.den) : Option (Int × Unit) :=
  bif (decide ((((List.length o.1 : Int)) : Int) < 1)) then
    some (8, ())
  else
    bif (decide ((((List.length o.1 : Int)) : Int) > 16)) then
      some (8, ())
    else
      bif (((List.length o.2.1 : Int)) != ((List.length o.1 : Int))) then
        some (8, ())
      else
        (lru_Check.K mm_ mm_).1 ((List.length o.1 : Int)) o.1 o.2.1 o.2.2.1 o.2.2.2.1
theorem lru_Check.G_le (mm_ : Nat) (o : t4.den) : Le (lru_Check.G mm_ o) (lru_Check.F o) := by
  rw [lru_Check.F_eq]; unfold lru_Check.G; (repeat' (with_reducible first | exact (lru_Check.K_le mm_ mm_).1 _ _ _ _ _ | exact (lru_Check.K_le mm_ mm_).2.1 _ _ _ _ _ _ _ _ | exact (lru_Check.K_le mm_ mm_).2.2.1 _ _ _ _ _ _ _ _ | exact (lru_Check.K_le mm_ mm_).2.2.2.1 _ _ _ _ _ _ _ _ | exact (lru_Check.K_le mm_ mm_).2.2.2.2.1 _ _ _ _ _ _ _ _ | exact (lru_Check.K_le mm_ mm_).2.2.2.2.2.1 | exact (lru_Check.K_le mm_ mm_).2.2.2.2.2.2.1 _ _ _ _ _ _ _ _ | exact (lru_Check.K_le mm_ mm_).2.2.2.2.2.2.2 _ _ _ _ _ _ _  | exact Le.refl _ | refine Le.cond ?_ ?_ | refine Le.bind ?_ fun _ => ?_))
/-! ### lru_List -/
noncomputable def lru_List.step (mm_ : Nat) (KK_ : ((List Int) → (List Int) → Int → Int → (Option ((List Int) × Int × Unit))) × (Int → (List Int) → (List Int) → Int → Int → (List Int) → (Option ((List Int) × Int × Unit))) × (Int → (List Int) → (List Int) → Int → Int → (List Int) → (Option ((List Int) × Int × Unit)))) : ((List Int) → (List Int) → Int → Int → (Option ((List Int) × Int × Unit))) × (Int → (List Int) → (List Int) → Int → Int → (List Int) → (Option ((List Int) × Int × Unit))) × (Int → (List Int) → (List Int) → Int → Int → (List Int) → (Option ((List Int) × Int × Unit))) := ((fun (b0 : (List Int)) (b02 : (List Int)) (b03 : Int) (b04 : Int) =>
  KK_.2.1 b03 b0 b02 b03 b04 ([] : List Int)),
(fun (i : Int) (b0 : (List Int)) (b02 : (List Int)) (b03 : Int) (b04 : Int) (l1 : (List Int)) =>
  bif (i != (-1)) then
    KK_.2.2 i b0 b02 b03 b04 l1
  else
    some (l1, 0, ())),
(fun (i : Int) (b0 : (List Int)) (b02 : (List Int)) (b03 : Int) (b04 : Int) (l1 : (List Int)) =>
  bif (lim ((List.length l1) + (List.length ([i] : List Int))) (.int .i64)) then
    bif (decide ((0 : Int) ≤ i ∧ (i : Int) < ((List.length b02 : Int)))) then
      KK_.2.1 (List.getD b02 (Int.toNat i) 0) b0 b02 b03 b04 (l1 ++ ([i] : List Int))
    else none
  else none))
noncomputable def lru_List.K (mm_ : Nat) : Nat → ((List Int) → (List Int) → Int → Int → (Option ((List Int) × Int × Unit))) × (Int → (List Int) → (List Int) → Int → Int → (List Int) → (Option ((List Int) × Int × Unit))) × (Int → (List Int) → (List Int) → Int → Int → (List Int) → (Option ((List Int) × Int × Unit)))
  | 0 => ((fun _ _ _ _ => none), (fun _ _ _ _ _ _ => none), (fun _ _ _ _ _ _ => none))
  | nn_ + 1 => lru_List.step mm_ (lru_List.K mm_ nn_)
theorem lru_List.step_le (mm_ : Nat) (KK_ : ((List Int) → (List Int) → Int → Int → (Option ((List Int) × Int × Unit))) × (Int → (List Int) → (List Int) → Int → Int → (List Int) → (Option ((List Int) × Int × Unit))) × (Int → (List Int) → (List Int) → Int → Int → (List Int) → (Option ((List Int) × Int × Unit)))) (hh_ : (∀ b0 b02 b03 b04, Le (KK_.1 b0 b02 b03 b04) (lru_List.L1 b0 b02 b03 b04)) ∧ (∀ i b0 b02 b03 b04 l1, Le (KK_.2.1 i b0 b02 b03 b04 l1) (lru_List.L2 i b0 b02 b03 b04 l1)) ∧ (∀ i b0 b02 b03 b04 l1, Le (KK_.2.2 i b0 b02 b03 b04 l1) (lru_List.L3 i b0 b02 b03 b04 l1))) : (∀ b0 b02 b03 b04, Le ((lru_List.step mm_ KK_).1 b0 b02 b03 b04) (lru_List.L1 b0 b02 b03 b04)) ∧ (∀ i b0 b02 b03 b04 l1, Le ((lru_List.step mm_ KK_).2.1 i b0 b02 b03 b04 l1) (lru_List.L2 i b0 b02 b03 b04 l1)) ∧ (∀ i b0 b02 b03 b04 l1, Le ((lru_List.step mm_ KK_).2.2 i b0 b02 b03 b04 l1) (lru_List.L3 i b0 b02 b03 b04 l1)) := by
  refine ⟨fun b0 b02 b03 b04 => by rw [lru_List.L1_eq]; dsimp only [lru_List.step]; (repeat' (with_reducible first | exact hh_.1 _ _ _ _ | exact hh_.2.1 _ _ _ _ _ _ | exact hh_.2.2 _ _ _ _ _ _ | exact lru_Check.G_le mm_ _ | exact Le.refl _ | refine Le.cond ?_ ?_ | refine Le.bind ?_ fun _ => ?_)),
    fun i b0 b02 b03 b04 l1 => by rw [lru_List.L2_eq]; dsimp only [lru_List.step]; (repeat' (with_reducible first | exact hh_.1 _ _ _ _ | exact hh_.2.1 _ _ _ _ _ _ | exact hh_.2.2 _ _ _ _ _ _ | exact lru_Check.G_le mm_ _ | exact Le.refl _ | refine Le.cond ?_ ?_ | refine Le.bind ?_ fun _ => ?_)),
    fun i b0 b02 b03 b04 l1 => by rw [lru_List.L3_eq]; dsimp only [lru_List.step]; (repeat' (with_reducible first | exact hh_.1 _ _ _ _ | exact hh_.2.1 _ _ _ _ _ _ | exact hh_.2.2 _ _ _ _ _ _ | exact lru_Check.G_le mm_ _ | exact Le.refl _ | refine Le.cond ?_ ?_ | refine Le.bind ?_ fun _ => ?_))⟩
theorem lru_List.K_le (mm_ : Nat) : ∀ nn_, (∀ b0 b02 b03 b04, Le ((lru_List.K mm_ nn_).1 b0 b02 b03 b04) (lru_List.L1 b0 b02 b03 b04)) ∧ (∀ i b0 b02 b03 b04 l1, Le ((lru_List.K mm_ nn_).2.1 i b0 b02 b03 b04 l1) (lru_List.L2 i b0 b02 b03 b04 l1)) ∧ (∀ i b0 b02 b03 b04 l1, Le ((lru_List.K mm_ nn_).2.2 i b0 b02 b03 b04 l1) (lru_List.L3 i b0 b02 b03 b04 l1))
  | 0 => ⟨fun _ _ _ _ => Le.none _, fun _ _ _ _ _ _ => Le.none _, fun _ _ _ _ _ _ => Le.none _⟩
  | nn_ + 1 => lru_List.step_le mm_ (lru_List.K mm_ nn_) (lru_List.K_le mm_ nn_)
noncomputable def lru_List.G (mm_ : Nat) (o : t4.den) : Option ((List Int) × Int × Unit) :=
  ((lru_Check.G mm_) o).bind fun r0 =>
  bif (r0.1 != 0) then
    some (([] : List Int), r0.1, ())
  else
    (lru_List.K mm_ mm_).1 o.1 o.2.1 o.2.2.1 o.2.2.2.1
theorem lru_List.G_le (mm_ : Nat) (o : t4.den) : Le (lru_List.G mm_ o) (lru_List.F o) := by
  rw [lru_List.F_eq]; unfold lru_List.G; (repeat' (with_reducible first | exact (lru_List.K_le mm_ mm_).1 _ _ _ _ | exact (lru_List.K_le mm_ mm_).2.1 _ _ _ _ _ _ | exact (lru_List.K_le mm_ mm_).2.2 _ _ _ _ _ _ | exact lru_Check.G_le mm_ _ | exact Le.refl _ | refine Le.cond ?_ ?_ | refine Le.bind ?_ fun _ => ?_))
/-! ### slices_Index -/
noncomputable def slices_Index.step (mm_ : Nat) (KK_ : ((List Int) → Int → Int → Int → (Option (Int × Unit))) × ((List Int) → Int → Int → Int → (Option (Int × Unit))) × ((List Int) → Int → Int → Int → (Option (Int × Unit)))) : ((List Int) → Int → Int → Int → (Option (Int × Unit))) × ((List Int) → Int → Int → Int → (Option (Int × Unit))) × ((List Int) → Int → Int → Int → (Option (Int × Unit))) := ((fun (s : (List Int)) (v : Int) (t7_ : Int) (t8_ : Int) =>
  bif (decide ((t8_ : Int) < t7_)) then
    KK_.2.1 s v t7_ t8_
  else
    some ((-1), ())),
(fun (s : (List Int)) (v : Int) (t7_ : Int) (t8_ : Int) =>
  bif (decide ((0 : Int) ≤ t8_ ∧ (t8_ : Int) < ((List.length s : Int)))) then
    bif (v == (List.getD s (Int.toNat t8_) 0)) then
      some (t8_, ())
    else
      KK_.2.2 s v t7_ t8_
  else none),
(fun (s : (List Int)) (v : Int) (t7_ : Int) (t8_ : Int) =>
  KK_.1 s v t7_ (IntKind.wrap .i64 (t8_ + 1))))
noncomputable def slices_Index.K (mm_ : Nat) : Nat → ((List Int) → Int → Int → Int → (Option (Int × Unit))) × ((List Int) → Int → Int → Int → (Option (Int × Unit))) × ((List Int) → Int → Int → Int → (Option (Int × Unit)))
  | 0 => ((fun _ _ _ _ => none), (fun _ _ _ _ => none), (fun _ _ _ _ => none))
  | nn_ + 1 => slices_Index.step mm_ (slices_Index.K mm_ nn_)
theorem slices_Index.step_le (mm_ : Nat) (KK_ : ((List Int) → Int → Int → Int → (Option (Int × Unit))) × ((List Int) → Int → Int → Int → (Option (Int × Unit))) × ((List Int) → Int → Int → Int → (Option (Int × Unit)))) (hh_ : (∀ s v t7_ t8_, Le (KK_.1 s v t7_ t8_) (slices_Index.L1 s v t7_ t8_)) ∧ (∀ s v t7_ t8_, Le (KK_.2.1 s v t7_ t8_) (slices_Index.L2 s v t7_ t8_)) ∧ (∀ s v t7_ t8_, Le (KK_.2.2 s v t7_ t8_) (slices_Index.L3 s v t7_ t8_))) : (∀ s v t7_ t8_, Le ((slices_Index.step mm_ KK_).1 s v t7_ t8_) (slices_Index.L1 s v t7_ t8_)) ∧ (∀ s v t7_ t8_, Le ((slices_Index.step mm_ KK_).2.1 s v t7_ t8_) (slices_Index.L2 s v t7_ t8_)) ∧ (∀ s v t7_ t8_, Le ((slices_Index.step mm_ KK_).2.2 s v t7_ t8_) (slices_Index.L3 s v t7_ t8_)) := by
  refine ⟨fun s v t7_ t8_ => by rw [slices_Index.L1_eq]; dsimp only [slices_Index.step]; (repeat' (with_reducible first | exact hh_.1 _ _ _ _ | exact hh_.2.1 _ _ _ _ | exact hh_.2.2 _ _ _ _  | exact Le.refl _ | refine Le.cond ?_ ?_ | refine Le.bind ?_ fun _ => ?_)),
    fun s v t7_ t8_ => by rw [slices_Index.L2_eq]; dsimp only [slices_Index.step]; (repeat' (with_reducible first | exact hh_.1 _ _ _ _ | exact hh_.2.1 _ _ _ _ | exact hh_.2.2 _ _ _ _  | exact Le.refl _ | refine Le.cond ?_ ?_ | refine Le.bind ?_ fun _ => ?_)),
    fun s v t7_ t8_ => by rw [slices_Index.L3_eq]; dsimp only [slices_Index.step]; (repeat' (with_reducible first | exact hh_.1 _ _ _ _ | exact hh_.2.1 _ _ _ _ | exact hh_.2.2 _ _ _ _  | exact Le.refl _ | refine Le.cond ?_ ?_ | refine Le.bind ?_ fun _ => ?_))⟩
theorem slices_Index.K_le (mm_ : Nat) : ∀ nn_, (∀ s v t7_ t8_, Le ((slices_Index.K mm_ nn_).1 s v t7_ t8_) (slices_Index.L1 s v t7_ t8_)) ∧ (∀ s v t7_ t8_, Le ((slices_Index.K mm_ nn_).2.1 s v t7_ t8_) (slices_Index.L2 s v t7_ t8_)) ∧ (∀ s v t7_ t8_, Le ((slices_Index.K mm_ nn_).2.2 s v t7_ t8_) (slices_Index.L3 s v t7_ t8_))
  | 0 => ⟨fun _ _ _ _ => Le.none _, fun _ _ _ _ => Le.none _, fun _ _ _ _ => Le.none _⟩
  | nn_ + 1 => slices_Index.step_le mm_ (slices_Index.K mm_ nn_) (slices_Index.K_le mm_ nn_)
noncomputable def slices_Index.G (mm_ : Nat) (s : (List Int)) (v : Int) : Option (Int × Unit) :=
  (slices_Index.K mm_ mm_).1 s v ((List.length s : Int)) 0
theorem slices_Index.G_le (mm_ : Nat) (s : (List Int)) (v : Int) : Le (slices_Index.G mm_ s v) (slices_Index.F s v) := by
  rw [slices_Index.F_eq]; unfold slices_Index.G; (repeat' (with_reducible first | exact (slices_Index.K_le mm_ mm_).1 _ _ _ _ | exact (slices_Index.K_le mm_ mm_).2.1 _ _ _ _ | exact (slices_Index.K_le mm_ mm_).2.2 _ _ _ _  | exact Le.refl _ | refine Le.cond ?_ ?_ | refine Le.bind ?_ fun _ => ?_))
/-! ### slices_Contains -/
noncomputable def slices_Contains.G (mm_ : Nat) (s : (List Int)) (v : Int) : Option (Bool × Unit) :=
  ((slices_Index.G mm_) s v).bind fun r0 =>
  some ((decide ((r0.1 : Int) ≥ 0)), ())
theorem slices_Contains.G_le (mm_ : Nat) (s : (List Int)) (v : Int) : Le (slices_Contains.G mm_ s v) (slices_Contains.F s v) := by
  rw [slices_Contains.F_eq]; unfold slices_Contains.G; (repeat' (with_reducible first  | exact slices_Index.G_le mm_ _ _ | exact Le.refl _ | refine Le.cond ?_ ?_ | refine Le.bind ?_ fun _ => ?_))
/-! ### probe_wrap -/
noncomputable def probe_wrap.G (mm_ : Nat) (i : Int) : Option (Int × Unit) :=
  some ((bits .and .i64 i 15), ())
theorem probe_wrap.G_le (mm_ : Nat) (i : Int) : Le (probe_wrap.G mm_ i) (probe_wrap.F i) := by
  rw [probe_wrap.F_eq]; unfold probe_wrap.G; (repeat' (with_reducible first   | exact Le.refl _ | refine Le.cond ?_ ?_ | refine Le.bind ?_ fun _ => ?_))
/-! ### probe_Home -/
noncomputable def probe_Home.G (mm_ : Nat) (key : Int) : Option (Int × Unit) :=
  bif (decide ((0 : Int) ≤ 28)) then
    some ((IntKind.wrap .i64 (Int.fdiv (IntKind.wrap .u32 (key * 2654435769)) (2 ^ min (Int.toNat 28) (IntKind.bits .u32)))), ())
  else none
theorem probe_Home.G_le (mm_ : Nat) (key : Int) : Le (probe_Home.G mm_ key) (probe_Home.F key) := by
  rw [probe_Home.F_eq]; unfold probe_Home.G; (repeat' (with_reducible first   | exact Le.refl _ | refine Le.cond ?_ ?_ | refine Le.bind ?_ fun _ => ?_))
/-! ### probe_look -/
noncomputable def probe_look.step (mm_ : Nat) (KK_ : ((List t3.den) → Int → Int → Int → (Option (Int × Int × Unit))) × ((List t3.den) → Int → Int → Int → (Option (Int × Int × Unit)))) : ((List t3.den) → Int → Int → Int → (Option (Int × Int × Unit))) × ((List t3.den) → Int → Int → Int → (Option (Int × Int × Unit))) := ((fun (x : (List t3.den)) (key : Int) (i : Int) (steps : Int) =>
  bif (decide ((0 : Int) ≤ i ∧ (i : Int) < ((List.length x : Int)))) then
    bif (((List.getD x (Int.toNat i) (0, 0, false, ())).2).2).1 then
      bif (decide ((0 : Int) ≤ i ∧ (i : Int) < ((List.length x : Int)))) then
        bif ((List.getD x (Int.toNat i) (0, 0, false, ())).1 != key) then
          KK_.2 x key i steps
        else
          some (i, (IntKind.wrap .i64 (steps + 1)), ())
      else none
    else
      some (i, (IntKind.wrap .i64 (steps + 1)), ())
  else none),
(fun (x : (List t3.den)) (key : Int) (i : Int) (steps : Int) =>
  ((probe_wrap.G mm_) (IntKind.wrap .i64 (i + 1))).bind fun r0 =>
  KK_.1 x key r0.1 (IntKind.wrap .i64 (steps + 1))))
noncomputable def probe_look.K (mm_ : Nat) : Nat → ((List t3.den) → Int → Int → Int → (Option (Int × Int × Unit))) × ((List t3.den) → Int → Int → Int → (Option (Int × Int × Unit)))
  | 0 => ((fun _ _ _ _ => none), (fun _ _ _ _ => none))
  | nn_ + 1 => probe_look.step mm_ (probe_look.K mm_ nn_)
theorem probe_look.step_le (mm_ : Nat) (KK_ : ((List t3.den) → Int → Int → Int → (Option (Int × Int × Unit))) × ((List t3.den) → Int → Int → Int → (Option (Int × Int × Unit)))) (hh_ : (∀ x key i steps, Le (KK_.1 x key i steps) (probe_look.L1 x key i steps)) ∧ (∀ x key i steps, Le (KK_.2 x key i steps) (probe_look.L2 x key i steps))) : (∀ x key i steps, Le ((probe_look.step mm_ KK_).1 x key i steps) (probe_look.L1 x key i steps)) ∧ (∀ x key i steps, Le ((probe_look.step mm_ KK_).2 x key i steps) (probe_look.L2 x key i steps)) := by
  refine ⟨fun x key i steps => by rw [probe_look.L1_eq]; dsimp only [probe_look.step]; (repeat' (with_reducible first | exact hh_.1 _ _ _ _ | exact hh_.2 _ _ _ _ | exact probe_wrap.G_le mm_ _ | exact probe_Home.G_le mm_ _ | exact Le.refl _ | refine Le.cond ?_ ?_ | refine Le.bind ?_ fun _ => ?_)),
    fun x key i steps => by rw [probe_look.L2_eq]; dsimp only [probe_look.step]; (repeat' (with_reducible first | exact hh_.1 _ _ _ _ | exact hh_.2 _ _ _ _ | exact probe_wrap.G_le mm_ _ | exact probe_Home.G_le mm_ _ | exact Le.refl _ | refine Le.cond ?_ ?_ | refine Le.bind ?_ fun _ => ?_))⟩
theorem probe_look.K_le (mm_ : Nat) : ∀ nn_, (∀ x key i steps, Le ((probe_look.K mm_ nn_).1 x key i steps) (probe_look.L1 x key i steps)) ∧ (∀ x key i steps, Le ((probe_look.K mm_ nn_).2 x key i steps) (probe_look.L2 x key i steps))
  | 0 => ⟨fun _ _ _ _ => Le.none _, fun _ _ _ _ => Le.none _⟩
  | nn_ + 1 => probe_look.step_le mm_ (probe_look.K mm_ nn_) (probe_look.K_le mm_ nn_)
noncomputable def probe_look.G (mm_ : Nat) (x : (List t3.den)) (key : Int) : Option (Int × Int × Unit) :=
  ((probe_Home.G mm_) key).bind fun r0 =>
  (probe_look.K mm_ mm_).1 x key r0.1 0
theorem probe_look.G_le (mm_ : Nat) (x : (List t3.den)) (key : Int) : Le (probe_look.G mm_ x key) (probe_look.F x key) := by
  rw [probe_look.F_eq]; unfold probe_look.G; (repeat' (with_reducible first | exact (probe_look.K_le mm_ mm_).1 _ _ _ _ | exact (probe_look.K_le mm_ mm_).2 _ _ _ _ | exact probe_wrap.G_le mm_ _ | exact probe_Home.G_le mm_ _ | exact Le.refl _ | refine Le.cond ?_ ?_ | refine Le.bind ?_ fun _ => ?_))
/-! ### probe_Check -/
noncomputable def probe_Check.step (mm_ : Nat) (KK_ : ((List t3.den) → (Option (Int × Unit))) × ((List t3.den) → Int → Int → Int → (Option (Int × Unit))) × ((List t3.den) → Int → Int → Int → (Option (Int × Unit))) × ((List t3.den) → (Option (Int × Unit))) × ((List t3.den) → Int → (Option (Int × Unit))) × ((List t3.den) → Int → (Option (Int × Unit))) × ((List t3.den) → Int → Int → Int → Bool → (Option (Int × Unit))) × ((List t3.den) → Int → (Option (Int × Unit))) × ((List t3.den) → Int → Int → Int → (Option (Int × Unit)))) : ((List t3.den) → (Option (Int × Unit))) × ((List t3.den) → Int → Int → Int → (Option (Int × Unit))) × ((List t3.den) → Int → Int → Int → (Option (Int × Unit))) × ((List t3.den) → (Option (Int × Unit))) × ((List t3.den) → Int → (Option (Int × Unit))) × ((List t3.den) → Int → (Option (Int × Unit))) × ((List t3.den) → Int → Int → Int → Bool → (Option (Int × Unit))) × ((List t3.den) → Int → (Option (Int × Unit))) × ((List t3.den) → Int → Int → Int → (Option (Int × Unit))) := ((fun (x : (List t3.den)) =>
  KK_.2.1 x 0 ((List.length x : Int)) 0),
(fun (x : (List t3.den)) (n : Int) (t14_ : Int) (t15_ : Int) =>
  bif (decide ((t15_ : Int) < t14_)) then
    KK_.2.2.1 x n t14_ t15_
  else
    bif (decide ((n : Int) > 12)) then
      some (8, ())
    else
      KK_.2.2.2.1 x),
(fun (x : (List t3.den)) (n : Int) (t14_ : Int) (t15_ : Int) =>
  bif (decide ((0 : Int) ≤ t15_ ∧ (t15_ : Int) < ((List.length x : Int)))) then
    bif (((List.getD x (Int.toNat t15_) (0, 0, false, ())).2).2).1 then
      KK_.2.2.2.2.2.2.2.2 x (IntKind.wrap .i64 (n + 1)) t14_ t15_
    else
      KK_.2.2.2.2.2.2.2.2 x n t14_ t15_
  else none),
(fun (x : (List t3.den)) =>
  KK_.2.2.2.2.1 x 0),
(fun (x : (List t3.den)) (t26_ : Int) =>
  bif (decide ((t26_ : Int) < 16)) then
    KK_.2.2.2.2.2.1 x t26_
  else
    some (0, ())),
(fun (x : (List t3.den)) (t26_ : Int) =>
  bif (decide ((0 : Int) ≤ t26_ ∧ (t26_ : Int) < ((List.length x : Int)))) then
    bif (!((((List.getD x (Int.toNat t26_) (0, 0, false, ())).2).2).1)) then
      bif (!(Ty.beq t3 (List.getD x (Int.toNat t26_) (0, 0, false, ())) (0, 0, false, ()))) then
        some (8, ())
      else
        bif (((List.getD x (Int.toNat t26_) (0, 0, false, ())).2).2).1 then
          bif (decide (((((List.getD x (Int.toNat t26_) (0, 0, false, ())).2).1) : Int) < 0)) then
            some (8, ())
          else
            bif (decide (((((List.getD x (Int.toNat t26_) (0, 0, false, ())).2).1) : Int) ≥ 16)) then
              some (8, ())
            else
              KK_.2.2.2.2.2.2.1 x t26_ ((List.getD x (Int.toNat t26_) (0, 0, false, ())).1) (((List.getD x (Int.toNat t26_) (0, 0, false, ())).2).1) ((((List.getD x (Int.toNat t26_) (0, 0, false, ())).2).2).1)
        else
          KK_.2.2.2.2.2.2.1 x t26_ ((List.getD x (Int.toNat t26_) (0, 0, false, ())).1) (((List.getD x (Int.toNat t26_) (0, 0, false, ())).2).1) ((((List.getD x (Int.toNat t26_) (0, 0, false, ())).2).2).1)
    else
      bif (((List.getD x (Int.toNat t26_) (0, 0, false, ())).2).2).1 then
        bif (decide (((((List.getD x (Int.toNat t26_) (0, 0, false, ())).2).1) : Int) < 0)) then
          some (8, ())
        else
          bif (decide (((((List.getD x (Int.toNat t26_) (0, 0, false, ())).2).1) : Int) ≥ 16)) then
            some (8, ())
          else
            KK_.2.2.2.2.2.2.1 x t26_ ((List.getD x (Int.toNat t26_) (0, 0, false, ())).1) (((List.getD x (Int.toNat t26_) (0, 0, false, ())).2).1) ((((List.getD x (Int.toNat t26_) (0, 0, false, ())).2).2).1)
      else
        KK_.2.2.2.2.2.2.1 x t26_ ((List.getD x (Int.toNat t26_) (0, 0, false, ())).1) (((List.getD x (Int.toNat t26_) (0, 0, false, ())).2).1) ((((List.getD x (Int.toNat t26_) (0, 0, false, ())).2).2).1)
  else none),
(fun (x : (List t3.den)) (i : Int) (b0 : Int) (b02 : Int) (b03 : Bool) =>
  ((probe_look.G mm_) x b0).bind fun r0 =>
  bif b03 then
    bif (r0.1 != i) then
      some (8, ())
    else
      KK_.2.2.2.2.2.2.2.1 x i
  else
    KK_.2.2.2.2.2.2.2.1 x i),
(fun (x : (List t3.den)) (t26_ : Int) =>
  KK_.2.2.2.2.1 x (IntKind.wrap .i64 (t26_ + 1))),
(fun (x : (List t3.den)) (n : Int) (t14_ : Int) (t15_ : Int) =>
  KK_.2.1 x n t14_ (IntKind.wrap .i64 (t15_ + 1))))
noncomputable def probe_Check.K (mm_ : Nat) : Nat → ((List t3.den) → (Option (Int × Unit))) × ((List t3.den) → Int → Int → Int → (Option (Int × Unit))) × ((List t3.den) → Int → Int → Int → (Option (Int × Unit))) × ((List t3.den) → (Option (Int × Unit))) × ((List t3.den) → Int → (Option (Int × Unit))) × ((List t3.den) → Int → (Option (Int × Unit))) × ((List t3.den) → Int → Int → Int → Bool → (Option (Int × Unit))) × ((List t3.den) → Int → (Option (Int × Unit))) × ((List t3.den) → Int → Int → Int → (Option (Int × Unit)))
  | 0 => ((fun _ => none), (fun _ _ _ _ => none), (fun _ _ _ _ => none), (fun _ => none), (fun _ _ => none), (fun _ _ => none), (fun _ _ _ _ _ => none), (fun _ _ => none), (fun _ _ _ _ => none))
  | nn_ + 1 => probe_Check.step mm_ (probe_Check.K mm_ nn_)
theorem probe_Check.step_le (mm_ : Nat) (KK_ : ((List t3.den) → (Option (Int × Unit))) × ((List t3.den) → Int → Int → Int → (Option (Int × Unit))) × ((List t3.den) → Int → Int → Int → (Option (Int × Unit))) × ((List t3.den) → (Option (Int × Unit))) × ((List t3.den) → Int → (Option (Int × Unit))) × ((List t3.den) → Int → (Option (Int × Unit))) × ((List t3.den) → Int → Int → Int → Bool → (Option (Int × Unit))) × ((List t3.den) → Int → (Option (Int × Unit))) × ((List t3.den) → Int → Int → Int → (Option (Int × Unit)))) (hh_ : (∀ x, Le (KK_.1 x) (probe_Check.L1 x)) ∧ (∀ x n t14_ t15_, Le (KK_.2.1 x n t14_ t15_) (probe_Check.L2 x n t14_ t15_)) ∧ (∀ x n t14_ t15_, Le (KK_.2.2.1 x n t14_ t15_) (probe_Check.L3 x n t14_ t15_)) ∧ (∀ x, Le (KK_.2.2.2.1 x) (probe_Check.L4 x)) ∧ (∀ x t26_, Le (KK_.2.2.2.2.1 x t26_) (probe_Check.L5 x t26_)) ∧ (∀ x t26_, Le (KK_.2.2.2.2.2.1 x t26_) (probe_Check.L6 x t26_)) ∧ (∀ x i b0 b02 b03, Le (KK_.2.2.2.2.2.2.1 x i b0 b02 b03) (probe_Check.L7 x i b0 b02 b03)) ∧ (∀ x t26_, Le (KK_.2.2.2.2.2.2.2.1 x t26_) (probe_Check.L8 x t26_)) ∧ (∀ x n t14_ t15_, Le (KK_.2.2.2.2.2.2.2.2 x n t14_ t15_) (probe_Check.L9 x n t14_ t15_))) : (∀ x, Le ((probe_Check.step mm_ KK_).1 x) (probe_Check.L1 x)) ∧ (∀ x n t14_ t15_, Le ((probe_Check.step mm_ KK_).2.1 x n t14_ t15_) (probe_Check.L2 x n t14_ t15_)) ∧ (∀ x n t14_ t15_, Le ((probe_Check.step mm_ KK_).2.2.1 x n t14_ t15_) (probe_Check.L3 x n t14_ t15_)) ∧ (∀ x, Le ((probe_Check.step mm_ KK_).2.2.2.1 x) (probe_Check.L4 x)) ∧ (∀ x t26_, Le ((probe_Check.step mm_ KK_).2.2.2.2.1 x t26_) (probe_Check.L5 x t26_)) ∧ (∀ x t26_, Le ((probe_Check.step mm_ KK_).2.2.2.2.2.1 x t26_) (probe_Check.L6 x t26_)) ∧ (∀ x i b0 b02 b03, Le ((probe_Check.step mm_ KK_).2.2.2.2.2.2.1 x i b0 b02 b03) (probe_Check.L7 x i b0 b02 b03)) ∧ (∀ x t26_, Le ((probe_Check.step mm_ KK_).2.2.2.2.2.2.2.1 x t26_) (probe_Check.L8 x t26_)) ∧ (∀ x n t14_ t15_, Le ((probe_Check.step mm_ KK_).2.2.2.2.2.2.2.2 x n t14_ t15_) (probe_Check.L9 x n t14_ t15_)) := by
  refine ⟨fun x => by rw [probe_Check.L1_eq]; dsimp only [probe_Check.step]; (repeat' (with_reducible first | exact hh_.1 _ | exact hh_.2.1 _ _ _ _ | exact hh_.2.2.1 _ _ _ _ | exact hh_.2.2.2.1 _ | exact hh_.2.2.2.2.1 _ _ | exact hh_.2.2.2.2.2.1 _ _ | exact hh_.2.2.2.2.2.2.1 _ _ _ _ _ | exact hh_.2.2.2.2.2.2.2.1 _ _ | exact hh_.2.2.2.2.2.2.2.2 _ _ _ _ | exact probe_look.G_le mm_ _ _ | exact Le.refl _ | refine Le.cond ?_ ?_ | refine Le.bind ?_ fun _ => ?_)),
    fun x n t14_ t15_ => by rw [probe_Check.L2_eq]; dsimp only [probe_Check.step]; (repeat' (with_reducible first | exact hh_.1 _ | exact hh_.2.1 _ _ _ _ | exact hh_.2.2.1 _ _ _ _ | exact hh_.2.2.2.1 _ | exact hh_.2.2.2.2.1 _ _ | exact hh_.2.2.2.2.2.1 _ _ | exact hh_.2.2.2.2.2.2.1 _ _ _ _ _ | exact hh_.2.2.2.2.2.2.2.1 _ _ | exact hh_.2.2.2.2.2.2.2.2 _ _ _ _ | exact probe_look.G_le mm_ _ _ | exact Le.refl _ | refine Le.cond ?_ ?_ | refine Le.bind ?_ fun _ => ?_)),
    fun x n t14_ t15_ => by rw [probe_Check.L3_eq]; dsimp only [probe_Check.step]; (repeat' (with_reducible first | exact hh_.1 _ | exact hh_.2.1 _ _ _ _ | exact hh_.2.2.1 _ _ _ _ | exact hh_.2.2.2.1 _ | exact hh_.2.2.2.2.1 _ _ | exact hh_.2.2.2.2.2.1 _ _ | exact hh_.2.2.2.2.2.2.1 _ _ _ _ _ | exact hh_.2.2.2.2.2.2.2.1 _ _ | exact hh_.2.2.2.2.2.2.2.2 _ _ _ _ | exact probe_look.G_le mm_ _ _ | exact Le.refl _ | refine Le.cond ?_ ?_ | refine Le.bind ?_ fun _ => ?_)),
    fun x => by rw [probe_Check.L4_eq]; dsimp only [probe_Check.step]; (repeat' (with_reducible first | exact hh_.1 _ | exact hh_.2.1 _ _ _ _ | exact hh_.2.2.1 _ _ _ _ | exact hh_.2.2.2.1 _ | exact hh_.2.2.2.2.1 _ _ | exact hh_.2.2.2.2.2.1 _ _ | exact hh_.2.2.2.2.2.2.1 _ _ _ _ _ | exact hh_.2.2.2.2.2.2.2.1 _ _ | exact hh_.2.2.2.2.2.2.2.2 _ _ _ _ | exact probe_look.G_le mm_ _ _ | exact Le.refl _ | refine Le.cond ?_ ?_ | refine Le.bind ?_ fun _ => ?_)),
    fun x t26_ => by rw [probe_Check.L5_eq]; dsimp only [probe_Check.step]; (repeat' (with_reducible first | exact hh_.1 _ | exact hh_.2.1 _ _ _ _ | exact hh_.2.2.1 _ _ _ _ | exact hh_.2.2.2.1 _ | exact hh_.2.2.2.2.1 _ _ | exact hh_.2.2.2.2.2.1 _ _ | exact hh_.2.2.2.2.2.2.1 _ _ _ _ _ | exact hh_.2.2.2.2.2.2.2.1 _ _ | exact hh_.2.2.2.2.2.2.2.2 _ _ _ _ | exact probe_look.G_le mm_ _ _ | exact Le.refl _ | refine Le.cond ?_ ?_ | refine Le.bind ?_ fun _ => ?_)),
    fun x t26_ => by rw [probe_Check.L6_eq]; dsimp only [probe_Check.step]; (repeat' (with_reducible first | exact hh_.1 _ | exact hh_.2.1 _ _ _ _ | exact hh_.2.2.1 _ _ _ _ | exact hh_.2.2.2.1 _ | exact hh_.2.2.2.2.1 _ _ | exact hh_.2.2.2.2.2.1 _ _ | exact hh_.2.2.2.2.2.2.1 _ _ _ _ _ | exact hh_.2.2.2.2.2.2.2.1 _ _ | exact hh_.2.2.2.2.2.2.2.2 _ _ _ _ | exact probe_look.G_le mm_ _ _ | exact Le.refl _ | refine Le.cond ?_ ?_ | refine Le.bind ?_ fun _ => ?_)),
    fun x i b0 b02 b03 => by rw [probe_Check.L7_eq]; dsimp only [probe_Check.step]; (repeat' (with_reducible first | exact hh_.1 _ | exact hh_.2.1 _ _ _ _ | exact hh_.2.2.1 _ _ _ _ | exact hh_.2.2.2.1 _ | exact hh_.2.2.2.2.1 _ _ | exact hh_.2.2.2.2.2.1 _ _ | exact hh_.2.2.2.2.2.2.1 _ _ _ _ _ | exact hh_.2.2.2.2.2.2.2.1 _ _ | exact hh_.2.2.2.2.2.2.2.2 _ _ _ _ | exact probe_look.G_le mm_ _ _ | exact Le.refl _ | refine Le.cond ?_ ?_ | refine Le.bind ?_ fun _ => ?_)),
    fun x t26_ => by rw [probe_Check.L8_eq]; dsimp only [probe_Check.step]; (repeat' (with_reducible first | exact hh_.1 _ | exact hh_.2.1 _ _ _ _ | exact hh_.2.2.1 _ _ _ _ | exact hh_.2.2.2.1 _ | exact hh_.2.2.2.2.1 _ _ | exact hh_.2.2.2.2.2.1 _ _ | exact hh_.2.2.2.2.2.2.1 _ _ _ _ _ | exact hh_.2.2.2.2.2.2.2.1 _ _ | exact hh_.2.2.2.2.2.2.2.2 _ _ _ _ | exact probe_look.G_le mm_ _ _ | exact Le.refl _ | refine Le.cond ?_ ?_ | refine Le.bind ?_ fun _ => ?_)),
    fun x n t14_ t15_ => by rw [probe_Check.L9_eq]; dsimp only [probe_Check.step]; (repeat' (with_reducible first | exact hh_.1 _ | exact hh_.2.1 _ _ _ _ | exact hh_.2.2.1 _ _ _ _ | exact hh_.2.2.2.1 _ | exact hh_.2.2.2.2.1 _ _ | exact hh_.2.2.2.2.2.1 _ _ | exact hh_.2.2.2.2.2.2.1 _ _ _ _ _ | exact hh_.2.2.2.2.2.2.2.1 _ _ | exact hh_.2.2.2.2.2.2.2.2 _ _ _ _ | exact probe_look.G_le mm_ _ _ | exact Le.refl _ | refine Le.cond ?_ ?_ | refine Le.bind ?_ fun _ => ?_))⟩
theorem probe_Check.K_le (mm_ : Nat) : ∀ nn_, (∀ x, Le ((probe_Check.K mm_ nn_).1 x) (probe_Check.L1 x)) ∧ (∀ x n t14_ t15_, Le ((probe_Check.K mm_ nn_).2.1 x n t14_ t15_) (probe_Check.L2 x n t14_ t15_)) ∧ (∀ x n t14_ t15_, Le ((probe_Check.K mm_ nn_).2.2.1 x n t14_ t15_) (probe_Check.L3 x n t14_ t15_)) ∧ (∀ x, Le ((probe_Check.K mm_ nn_).2.2.2.1 x) (probe_Check.L4 x)) ∧ (∀ x t26_, Le ((probe_Check.K mm_ nn_).2.2.2.2.1 x t26_) (probe_Check.L5 x t26_)) ∧ (∀ x t26_, Le ((probe_Check.K mm_ nn_).2.2.2.2.2.1 x t26_) (probe_Check.L6 x t26_)) ∧ (∀ x i b0 b02 b03, Le ((probe_Check.K mm_ nn_).2.2.2.2.2.2.1 x i b0 b02 b03) (probe_Check.L7 x i b0 b02 b03)) ∧ (∀ x t26_, Le ((probe_Check.K mm_ nn_).2.2.2.2.2.2.2.1 x t26_) (probe_Check.L8 x t26_)) ∧ (∀ x n t14_ t15_, Le ((probe_Check.K mm_ nn_).2.2.2.2.2.2.2.2 x n t14_ t15_) (probe_Check.L9 x n t14_ t15_))
  | 0 => ⟨fun _ => Le.none _, fun _ _ _ _ => Le.none _, fun _ _ _ _ => Le.none _, fun _ => Le.none _, fun _ _ => Le.none _, fun _ _ => Le.none _, fun _ _ _ _ _ => Le.none _, fun _ _ => Le.none _, fun _ _ _ _ => Le.none _⟩
  | nn_ + 1 => probe_Check.step_le mm_ (probe_Check.K mm_ nn_) (probe_Check.K_le mm_ nn_)
noncomputable def probe_Check.G (mm_ : Nat) (x : (List t3.den)) : Option (Int × Unit) :=
  bif (((List.length x : Int)) != 16) then
    some (8, ())
  else
    (probe_Check.K mm_ mm_).1 x
theorem probe_Check.G_le (mm_ : Nat) (x : (List t3.den)) : Le (probe_Check.G mm_ x) (probe_Check.F x) := by
  rw [probe_Check.F_eq]; unfold probe_Check.G; (repeat' (with_reducible first | exact (probe_Check.K_le mm_ mm_).1 _ | exact (probe_Check.K_le mm_ mm_).2.1 _ _ _ _ | exact (probe_Check.K_le mm_ mm_).2.2.1 _ _ _ _ | exact (probe_Check.K_le mm_ mm_).2.2.2.1 _ | exact (probe_Check.K_le mm_ mm_).2.2.2.2.1 _ _ | exact (probe_Check.K_le mm_ mm_).2.2.2.2.2.1 _ _ | exact (probe_Check.K_le mm_ mm_).2.2.2.2.2.2.1 _ _ _ _ _ | exact (probe_Check.K_le mm_ mm_).2.2.2.2.2.2.2.1 _ _ | exact (probe_Check.K_le mm_ mm_).2.2.2.2.2.2.2.2 _ _ _ _ | exact probe_look.G_le mm_ _ _ | exact Le.refl _ | refine Le.cond ?_ ?_ | refine Le.bind ?_ fun _ => ?_))
/-! ### probe_Find -/
noncomputable def probe_Find.step (mm_ : Nat) (KK_ : ((List t3.den) → Int → (Option (Int × Int × Unit))) × ((List t3.den) → Int → (Option (Int × Int × Unit)))) : ((List t3.den) → Int → (Option (Int × Int × Unit))) × ((List t3.den) → Int → (Option (Int × Int × Unit))) := ((fun (x : (List t3.den)) (key : Int) =>
  ((probe_look.G mm_) x key).bind fun r0 =>
  bif (decide ((0 : Int) ≤ r0.1 ∧ (r0.1 : Int) < ((List.length x : Int)))) then
    bif (!((((List.getD x (Int.toNat r0.1) (0, 0, false, ())).2).2).1)) then
      some (0, 6, ())
    else
      KK_.2 x r0.1
  else none),
(fun (x : (List t3.den)) (i : Int) =>
  bif (decide ((0 : Int) ≤ i ∧ (i : Int) < ((List.length x : Int)))) then
    some (((List.getD x (Int.toNat i) (0, 0, false, ())).2).1, 0, ())
  else none))
noncomputable def probe_Find.K (mm_ : Nat) : Nat → ((List t3.den) → Int → (Option (Int × Int × Unit))) × ((List t3.den) → Int → (Option (Int × Int × Unit)))
  | 0 => ((fun _ _ => none), (fun _ _ => none))
  | nn_ + 1 => probe_Find.step mm_ (probe_Find.K mm_ nn_)
theorem probe_Find.step_le (mm_ : Nat) (KK_ : ((List t3.den) → Int → (Option (Int × Int × Unit))) × ((List t3.den) → Int → (Option (Int × Int × Unit)))) (hh_ : (∀ x key, Le (KK_.1 x key) (probe_Find.L1 x key)) ∧ (∀ x i, Le (KK_.2 x i) (probe_Find.L2 x i))) : (∀ x key, Le ((probe_Find.step mm_ KK_).1 x key) (probe_Find.L1 x key)) ∧ (∀ x i, Le ((probe_Find.step mm_ KK_).2 x i) (probe_Find.L2 x i)) := by
  refine ⟨fun x key => by rw [probe_Find.L1_eq]; dsimp only [probe_Find.step]; (repeat' (with_reducible first | exact hh_.1 _ _ | exact hh_.2 _ _ | exact probe_look.G_le mm_ _ _ | exact probe_Check.G_le mm_ _ | exact Le.refl _ | refine Le.cond ?_ ?_ | refine Le.bind ?_ fun _ => ?_)),
    fun x i => by rw [probe_Find.L2_eq]; dsimp only [probe_Find.step]; (repeat' (with_reducible first | exact hh_.1 _ _ | exact hh_.2 _ _ | exact probe_look.G_le mm_ _ _ | exact probe_Check.G_le mm_ _ | exact Le.refl _ | refine Le.cond ?_ ?_ | refine Le.bind ?_ fun _ => ?_))⟩
theorem probe_Find.K_le (mm_ : Nat) : ∀ nn_, (∀ x key, Le ((probe_Find.K mm_ nn_).1 x key) (probe_Find.L1 x key)) ∧ (∀ x i, Le ((probe_Find.K mm_ nn_).2 x i) (probe_Find.L2 x i))
  | 0 => ⟨fun _ _ => Le.none _, fun _ _ => Le.none _⟩
  | nn_ + 1 => probe_Find.step_le mm_ (probe_Find.K mm_ nn_) (probe_Find.K_le mm_ nn_)
noncomputable def probe_Find.G (mm_ : Nat) (x : (List t3.den)) (key : Int) : Option (Int × Int × Unit) :=
  ((probe_Check.G mm_) x).bind fun r0 =>
  bif (r0.1 != 0) then
    some (0, r0.1, ())
  else
    (probe_Find.K mm_ mm_).1 x key
theorem probe_Find.G_le (mm_ : Nat) (x : (List t3.den)) (key : Int) : Le (probe_Find.G mm_ x key) (probe_Find.F x key) := by
  rw [probe_Find.F_eq]; unfold probe_Find.G; (repeat' (with_reducible first | exact (probe_Find.K_le mm_ mm_).1 _ _ | exact (probe_Find.K_le mm_ mm_).2 _ _ | exact probe_look.G_le mm_ _ _ | exact probe_Check.G_le mm_ _ | exact Le.refl _ | refine Le.cond ?_ ?_ | refine Le.bind ?_ fun _ => ?_))
/-! ### arena_Check -/
noncomputable def arena_Check.step (mm_ : Nat) (KK_ : (Int → (List Int) → (List Bool) → Int → (Option (Int × Unit))) × (Int → Int → (List Int) → (List Bool) → Int → (List Bool) → (Option (Int × Unit))) × (Int → Int → (List Int) → (List Bool) → Int → (List Bool) → (Option (Int × Unit))) × ((List Bool) → Int → Int → (List Int) → Int → (List Bool) → (Option (Int × Unit))) × ((List Bool) → Int → Int → (List Int) → Int → (List Bool) → (Option (Int × Unit))) × ((List Bool) → Int → Int → (List Int) → Int → (List Bool) → (Option (Int × Unit))) × (Int → Int → (List Int) → (List Bool) → Int → (List Bool) → (Option (Int × Unit)))) : (Int → (List Int) → (List Bool) → Int → (Option (Int × Unit))) × (Int → Int → (List Int) → (List Bool) → Int → (List Bool) → (Option (Int × Unit))) × (Int → Int → (List Int) → (List Bool) → Int → (List Bool) → (Option (Int × Unit))) × ((List Bool) → Int → Int → (List Int) → Int → (List Bool) → (Option (Int × Unit))) × ((List Bool) → Int → Int → (List Int) → Int → (List Bool) → (Option (Int × Unit))) × ((List Bool) → Int → Int → (List Int) → Int → (List Bool) → (Option (Int × Unit))) × (Int → Int → (List Int) → (List Bool) → Int → (List Bool) → (Option (Int × Unit))) := ((fun (n : Int) (b0 : (List Int)) (b02 : (List Bool)) (b03 : Int) =>
  bif (lim (List.length b02) .bool) then
    KK_.2.1 n b03 b0 b02 b03 b02
  else none),
(fun (n : Int) (i : Int) (b0 : (List Int)) (b02 : (List Bool)) (b03 : Int) (l1 : (List Bool)) =>
  bif (i != (-1)) then
    KK_.2.2.1 n i b0 b02 b03 l1
  else
    KK_.2.2.2.1 b02 ((List.length b02 : Int)) 0 b0 b03 l1),
(fun (n : Int) (i : Int) (b0 : (List Int)) (b02 : (List Bool)) (b03 : Int) (l1 : (List Bool)) =>
  bif (decide ((i : Int) < 0)) then
    some (8, ())
  else
    bif (decide ((i : Int) ≥ n)) then
      some (8, ())
    else
      bif (decide ((0 : Int) ≤ i ∧ (i : Int) < ((List.length l1 : Int)))) then
        bif (List.getD l1 (Int.toNat i) false) then
          some (8, ())
        else
          KK_.2.2.2.2.2.2 n i b0 b02 b03 l1
      else none),
(fun (t53_ : (List Bool)) (t54_ : Int) (t55_ : Int) (b0 : (List Int)) (b02 : Int) (l1 : (List Bool)) =>
  bif (decide ((t55_ : Int) < t54_)) then
    KK_.2.2.2.2.1 t53_ t54_ t55_ b0 b02 l1
  else
    some (0, ())),
(fun (t53_ : (List Bool)) (t54_ : Int) (t55_ : Int) (b0 : (List Int)) (b02 : Int) (l1 : (List Bool)) =>
  bif (decide ((0 : Int) ≤ t55_ ∧ (t55_ : Int) < ((List.length t53_ : Int)))) then
    bif (decide ((0 : Int) ≤ t55_ ∧ (t55_ : Int) < ((List.length l1 : Int)))) then
      bif (!(List.getD l1 (Int.toNat t55_) false)) then
        some (8, ())
      else
        bif (List.getD t53_ (Int.toNat t55_) false) then
          bif (decide ((0 : Int) ≤ t55_ ∧ (t55_ : Int) < ((List.length b0 : Int)))) then
            bif ((List.getD b0 (Int.toNat t55_) 0) != (-1)) then
              some (8, ())
            else
              KK_.2.2.2.2.2.1 t53_ t54_ t55_ b0 b02 l1
          else none
        else
          KK_.2.2.2.2.2.1 t53_ t54_ t55_ b0 b02 l1
    else none
  else none),
(fun (t53_ : (List Bool)) (t54_ : Int) (t55_ : Int) (b0 : (List Int)) (b02 : Int) (l1 : (List Bool)) =>
  KK_.2.2.2.1 t53_ t54_ (IntKind.wrap .i64 (t55_ + 1)) b0 b02 l1),
(fun (n : Int) (i : Int) (b0 : (List Int)) (b02 : (List Bool)) (b03 : Int) (l1 : (List Bool)) =>
  bif (decide ((0 : Int) ≤ i ∧ (i : Int) < ((List.length l1 : Int)))) then
    bif (decide ((0 : Int) ≤ i ∧ (i : Int) < ((List.length b0 : Int)))) then
      KK_.2.1 n (List.getD b0 (Int.toNat i) 0) b0 b02 b03 (List.set l1 (Int.toNat i) true)
    else none
  else none))
noncomputable def arena_Check.K (mm_ : Nat) : Nat → (Int → (List Int) → (List Bool) → Int → (Option (Int × Unit))) × (Int → Int → (List Int) → (List Bool) → Int → (List Bool) → (Option (Int × Unit))) × (Int → Int → (List Int) → (List Bool) → Int → (List Bool) → (Option (Int × Unit))) × ((List Bool) → Int → Int → (List Int) → Int → (List Bool) → (Option (Int × Unit))) × ((List Bool) → Int → Int → (List Int) → Int → (List Bool) → (Option (Int × Unit))) × ((List Bool) → Int → Int → (List Int) → Int → (List Bool) → (Option (Int × Unit))) × (Int → Int → (List Int) → (List Bool) → Int → (List Bool) → (Option (Int × Unit)))
  | 0 => ((fun _ _ _ _ => none), (fun _ _ _ _ _ _ => none), (fun _ _ _ _ _ _ => none), (fun _ _ _ _ _ _ => none), (fun _ _ _ _ _ _ => none), (fun _ _ _ _ _ _ => none), (fun _ _ _ _ _ _ => none))
  | nn_ + 1 => arena_Check.step mm_ (arena_Check.K mm_ nn_)
theorem arena_Check.step_le (mm_ : Nat) (KK_ : (Int → (List Int) → (List Bool) → Int → (Option (Int × Unit))) × (Int → Int → (List Int) → (List Bool) → Int → (List Bool) → (Option (Int × Unit))) × (Int → Int → (List Int) → (List Bool) → Int → (List Bool) → (Option (Int × Unit))) × ((List Bool) → Int → Int → (List Int) → Int → (List Bool) → (Option (Int × Unit))) × ((List Bool) → Int → Int → (List Int) → Int → (List Bool) → (Option (Int × Unit))) × ((List Bool) → Int → Int → (List Int) → Int → (List Bool) → (Option (Int × Unit))) × (Int → Int → (List Int) → (List Bool) → Int → (List Bool) → (Option (Int × Unit)))) (hh_ : (∀ n b0 b02 b03, Le (KK_.1 n b0 b02 b03) (arena_Check.L1 n b0 b02 b03)) ∧ (∀ n i b0 b02 b03 l1, Le (KK_.2.1 n i b0 b02 b03 l1) (arena_Check.L2 n i b0 b02 b03 l1)) ∧ (∀ n i b0 b02 b03 l1, Le (KK_.2.2.1 n i b0 b02 b03 l1) (arena_Check.L3 n i b0 b02 b03 l1)) ∧ (∀ t53_ t54_ t55_ b0 b02 l1, Le (KK_.2.2.2.1 t53_ t54_ t55_ b0 b02 l1) (arena_Check.L4 t53_ t54_ t55_ b0 b02 l1)) ∧ (∀ t53_ t54_ t55_ b0 b02 l1, Le (KK_.2.2.2.2.1 t53_ t54_ t55_ b0 b02 l1) (arena_Check.L5 t53_ t54_ t55_ b0 b02 l1)) ∧ (∀ t53_ t54_ t55_ b0 b02 l1, Le (KK_.2.2.2.2.2.1 t53_ t54_ t55_ b0 b02 l1) (arena_Check.L6 t53_ t54_ t55_ b0 b02 l1)) ∧ (∀ n i b0 b02 b03 l1, Le (KK_.2.2.2.2.2.2 n i b0 b02 b03 l1) (arena_Check.L7 n i b0 b02 b03 l1))) : (∀ n b0 b02 b03, Le ((arena_Check.step mm_ KK_).1 n b0 b02 b03) (arena_Check.L1 n b0 b02 b03)) ∧ (∀ n i b0 b02 b03 l1, Le ((arena_Check.step mm_ KK_).2.1 n i b0 b02 b03 l1) (arena_Check.L2 n i b0 b02 b03 l1)) ∧ (∀ n i b0 b02 b03 l1, Le ((arena_Check.step mm_ KK_).2.2.1 n i b0 b02 b03 l1) (arena_Check.L3 n i b0 b02 b03 l1)) ∧ (∀ t53_ t54_ t55_ b0 b02 l1, Le ((arena_Check.step mm_ KK_).2.2.2.1 t53_ t54_ t55_ b0 b02 l1) (arena_Check.L4 t53_ t54_ t55_ b0 b02 l1)) ∧ (∀ t53_ t54_ t55_ b0 b02 l1, Le ((arena_Check.step mm_ KK_).2.2.2.2.1 t53_ t54_ t55_ b0 b02 l1) (arena_Check.L5 t53_ t54_ t55_ b0 b02 l1)) ∧ (∀ t53_ t54_ t55_ b0 b02 l1, Le ((arena_Check.step mm_ KK_).2.2.2.2.2.1 t53_ t54_ t55_ b0 b02 l1) (arena_Check.L6 t53_ t54_ t55_ b0 b02 l1)) ∧ (∀ n i b0 b02 b03 l1, Le ((arena_Check.step mm_ KK_).2.2.2.2.2.2 n i b0 b02 b03 l1) (arena_Check.L7 n i b0 b02 b03 l1)) := by
  refine ⟨fun n b0 b02 b03 => by rw [arena_Check.L1_eq]; dsimp only [arena_Check.step]; (repeat' (with_reducible first | exact hh_.1 _ _ _ _ | exact hh_.2.1 _ _ _ _ _ _ | exact hh_.2.2.1 _ _ _ _ _ _ | exact hh_.2.2.2.1 _ _ _ _ _ _ | exact hh_.2.2.2.2.1 _ _ _ _ _ _ | exact hh_.2.2.2.2.2.1 _ _ _ _ _ _ | exact hh_.2.2.2.2.2.2 _ _ _ _ _ _  | exact Le.refl _ | refine Le.cond ?_ ?_ | refine Le.bind ?_ fun _ => ?_)),
    fun n i b0 b02 b03 l1 => by rw [arena_Check.L2_eq]; dsimp only [arena_Check.step]; (repeat' (with_reducible first | exact hh_.1 _ _ _ _ | exact hh_.2.1 _ _ _ _ _ _ | exact hh_.2.2.1 _ _ _ _ _ _ | exact hh_.2.2.2.1 _ _ _ _ _ _ | exact hh_.2.2.2.2.1 _ _ _ _ _ _ | exact hh_.2.2.2.2.2.1 _ _ _ _ _ _ | exact hh_.2.2.2.2.2.2 _ _ _ _ _ _  | exact Le.refl _ | refine Le.cond ?_ ?_ | refine Le.bind ?_ fun _ => ?_)),
    fun n i b0 b02 b03 l1 => by rw [arena_Check.L3_eq]; dsimp only [arena_Check.step]; (repeat' (with_reducible first | exact hh_.1 _ _ _ _ | exact hh_.2.1 _ _ _ _ _ _ | exact hh_.2.2.1 _ _ _ _ _ _ | exact hh_.2.2.2.1 _ _ _ _ _ _ | exact hh_.2.2.2.2.1 _ _ _ _ _ _ | exact hh_.2.2.2.2.2.1 _ _ _ _ _ _ | exact hh_.2.2.2.2.2.2 _ _ _ _ _ _  | exact Le.refl _ | refine Le.cond ?_ ?_ | refine Le.bind ?_ fun _ => ?_)),
    fun t53_ t54_ t55_ b0 b02 l1 => by rw [arena_Check.L4_eq]; dsimp only [arena_Check.step]; (repeat' (with_reducible first | exact hh_.1 _ _ _ _ | exact hh_.2.1 _ _ _ _ _ _ | exact hh_.2.2.1 _ _ _ _ _ _ | exact hh_.2.2.2.1 _ _ _ _ _ _ | exact hh_.2.2.2.2.1 _ _ _ _ _ _ | exact hh_.2.2.2.2.2.1 _ _ _ _ _ _ | exact hh_.2.2.2.2.2.2 _ _ _ _ _ _  | exact Le.refl _ | refine Le.cond ?_ ?_ | refine Le.bind ?_ fun _ => ?_)),
    fun t53_ t54_ t55_ b0 b02 l1 => by rw [arena_Check.L5_eq]; dsimp only [arena_Check.step]; (repeat' (with_reducible first | exact hh_.1 _ _ _ _ | exact hh_.2.1 _ _ _ _ _ _ | exact hh_.2.2.1 _ _ _ _ _ _ | exact hh_.2.2.2.1 _ _ _ _ _ _ | exact hh_.2.2.2.2.1 _ _ _ _ _ _ | exact hh_.2.2.2.2.2.1 _ _ _ _ _ _ | exact hh_.2.2.2.2.2.2 _ _ _ _ _ _  | exact Le.refl _ | refine Le.cond ?_ ?_ | refine Le.bind ?_ fun _ => ?_)),
    fun t53_ t54_ t55_ b0 b02 l1 => by rw [arena_Check.L6_eq]; dsimp only [arena_Check.step]; (repeat' (with_reducible first | exact hh_.1 _ _ _ _ | exact hh_.2.1 _ _ _ _ _ _ | exact hh_.2.2.1 _ _ _ _ _ _ | exact hh_.2.2.2.1 _ _ _ _ _ _ | exact hh_.2.2.2.2.1 _ _ _ _ _ _ | exact hh_.2.2.2.2.2.1 _ _ _ _ _ _ | exact hh_.2.2.2.2.2.2 _ _ _ _ _ _  | exact Le.refl _ | refine Le.cond ?_ ?_ | refine Le.bind ?_ fun _ => ?_)),
    fun n i b0 b02 b03 l1 => by rw [arena_Check.L7_eq]; dsimp only [arena_Check.step]; (repeat' (with_reducible first | exact hh_.1 _ _ _ _ | exact hh_.2.1 _ _ _ _ _ _ | exact hh_.2.2.1 _ _ _ _ _ _ | exact hh_.2.2.2.1 _ _ _ _ _ _ | exact hh_.2.2.2.2.1 _ _ _ _ _ _ | exact hh_.2.2.2.2.2.1 _ _ _ _ _ _ | exact hh_.2.2.2.2.2.2 _ _ _ _ _ _  | exact Le.refl _ | refine Le.cond ?_ ?_ | refine Le.bind ?_ fun _ => ?_))⟩
theorem arena_Check.K_le (mm_ : Nat) : ∀ nn_, (∀ n b0 b02 b03, Le ((arena_Check.K mm_ nn_).1 n b0 b02 b03) (arena_Check.L1 n b0 b02 b03)) ∧ (∀ n i b0 b02 b03 l1, Le ((arena_Check.K mm_ nn_).2.1 n i b0 b02 b03 l1) (arena_Check.L2 n i b0 b02 b03 l1)) ∧ (∀ n i b0 b02 b03 l1, Le ((arena_Check.K mm_ nn_).2.2.1 n i b0 b02 b03 l1) (arena_Check.L3 n i b0 b02 b03 l1)) ∧ (∀ t53_ t54_ t55_ b0 b02 l1, Le ((arena_Check.K mm_ nn_).2.2.2.1 t53_ t54_ t55_ b0 b02 l1) (arena_Check.L4 t53_ t54_ t55_ b0 b02 l1)) ∧ (∀ t53_ t54_ t55_ b0 b02 l1, Le ((arena_Check.K mm_ nn_).2.2.2.2.1 t53_ t54_ t55_ b0 b02 l1) (arena_Check.L5 t53_ t54_ t55_ b0 b02 l1)) ∧ (∀ t53_ t54_ t55_ b0 b02 l1, Le ((arena_Check.K mm_ nn_).2.2.2.2.2.1 t53_ t54_ t55_ b0 b02 l1) (arena_Check.L6 t53_ t54_ t55_ b0 b02 l1)) ∧ (∀ n i b0 b02 b03 l1, Le ((arena_Check.K mm_ nn_).2.2.2.2.2.2 n i b0 b02 b03 l1) (arena_Check.L7 n i b0 b02 b03 l1))
  | 0 => ⟨fun _ _ _ _ => Le.none _, fun _ _ _ _ _ _ => Le.none _, fun _ _ _ _ _ _ => Le.none _, fun _ _ _ _ _ _ => Le.none _, fun _ _ _ _ _ _ => Le.none _, fun _ _ _ _ _ _ => Le.none _, fun _ _ _ _ _ _ => Le.none _⟩
  | nn_ + 1 => arena_Check.step_le mm_ (arena_Check.K mm_ nn_) (arena_Check.K_le mm_ nn_)
noncomputable def arena_Check.G (mm_ : Nat) (a : t2.den) : Option (Int × Unit) :=
  bif (decide ((((List.length a.1 : Int)) : Int) < 1)) then
    some (8, ())
  else
    bif (decide ((((List.length a.1 : Int)) : Int) > 16)) then
      some (8, ())
    else
      bif (((List.length a.2.1 : Int)) != ((List.length a.1 : Int))) then
        some (8, ())
      else
        (arena_Check.K mm_ mm_).1 ((List.length a.1 : Int)) a.1 a.2.1 a.2.2.1
theorem arena_Check.G_le (mm_ : Nat) (a : t2.den) : Le (arena_Check.G mm_ a) (arena_Check.F a) := by
  rw [arena_Check.F_eq]; unfold arena_Check.G; (repeat' (with_reducible first | exact (arena_Check.K_le mm_ mm_).1 _ _ _ _ | exact (arena_Check.K_le mm_ mm_).2.1 _ _ _ _ _ _ | exact (arena_Check.K_le mm_ mm_).2.2.1 _ _ _ _ _ _ | exact (arena_Check.K_le mm_ mm_).2.2.2.1 _ _ _ _ _ _ | exact (arena_Check.K_le mm_ mm_).2.2.2.2.1 _ _ _ _ _ _ | exact (arena_Check.K_le mm_ mm_).2.2.2.2.2.1 _ _ _ _ _ _ | exact (arena_Check.K_le mm_ mm_).2.2.2.2.2.2 _ _ _ _ _ _  | exact Le.refl _ | refine Le.cond ?_ ?_ | refine Le.bind ?_ fun _ => ?_))
/-! ### table_Check -/
noncomputable def table_Check.step (mm_ : Nat) (KK_ : (Int → (List Int) → (List t1.den) → (List Int) → (List Bool) → Int → (List t3.den) → (List Int) → (List Int) → Int → Int → (Option (Int × Unit))) × (Int → (List Int) → (List t1.den) → (List Int) → (List Bool) → Int → (List t3.den) → (List Int) → (List Int) → Int → Int → (List Int) → (Option (Int × Unit))) × (Int → (List Bool) → Int → Int → Int → (List Int) → (List t1.den) → (List Int) → Int → (List t3.den) → (List Int) → (List Int) → Int → Int → (List Int) → (Option (Int × Unit))) × (Int → (List Bool) → Int → Int → Int → (List Int) → (List t1.den) → (List Int) → Int → (List t3.den) → (List Int) → (List Int) → Int → Int → (List Int) → (Option (Int × Unit))) × (Int → (List t3.den) → Int → Int → (Option (Int × Unit))) × (Int → (List t3.den) → Int → Int → (Option (Int × Unit))) × ((Option (Int × Unit))) × (Int → (List t3.den) → Int → Int → (Option (Int × Unit))) × (Int → Int → Bool → (List Bool) → Int → Int → (List Int) → (List t1.den) → (List Int) → Int → (List t3.den) → (List Int) → (List Int) → Int → Int → (List Int) → (Option (Int × Unit))) × (Int → Int → (List Bool) → Int → Int → (List Int) → (List t1.den) → (List Int) → Int → (List t3.den) → (List Int) → (List Int) → Int → Int → (List Int) → (Option (Int × Unit))) × (Int → (List Bool) → Int → Int → Int → (List Int) → (List t1.den) → (List Int) → Int → (List t3.den) → (List Int) → (List Int) → Int → Int → (List Int) → (Option (Int × Unit)))) : (Int → (List Int) → (List t1.den) → (List Int) → (List Bool) → Int → (List t3.den) → (List Int) → (List Int) → Int → Int → (Option (Int × Unit))) × (Int → (List Int) → (List t1.den) → (List Int) → (List Bool) → Int → (List t3.den) → (List Int) → (List Int) → Int → Int → (List Int) → (Option (Int × Unit))) × (Int → (List Bool) → Int → Int → Int → (List Int) → (List t1.den) → (List Int) → Int → (List t3.den) → (List Int) → (List Int) → Int → Int → (List Int) → (Option (Int × Unit))) × (Int → (List Bool) → Int → Int → Int → (List Int) → (List t1.den) → (List Int) → Int → (List t3.den) → (List Int) → (List Int) → Int → Int → (List Int) → (Option (Int × Unit))) × (Int → (List t3.den) → Int → Int → (Option (Int × Unit))) × (Int → (List t3.den) → Int → Int → (Option (Int × Unit))) × ((Option (Int × Unit))) × (Int → (List t3.den) → Int → Int → (Option (Int × Unit))) × (Int → Int → Bool → (List Bool) → Int → Int → (List Int) → (List t1.den) → (List Int) → Int → (List t3.den) → (List Int) → (List Int) → Int → Int → (List Int) → (Option (Int × Unit))) × (Int → Int → (List Bool) → Int → Int → (List Int) → (List t1.den) → (List Int) → Int → (List t3.den) → (List Int) → (List Int) → Int → Int → (List Int) → (Option (Int × Unit))) × (Int → (List Bool) → Int → Int → Int → (List Int) → (List t1.den) → (List Int) → Int → (List t3.den) → (List Int) → (List Int) → Int → Int → (List Int) → (Option (Int × Unit))) := ((fun (b0 : Int) (b02 : (List Int)) (b03 : (List t1.den)) (b04 : (List Int)) (b05 : (List Bool)) (b06 : Int) (b07 : (List t3.den)) (b08 : (List Int)) (b09 : (List Int)) (b010 : Int) (b011 : Int) =>
  ((lru_List.G mm_) (b08, b09, b010, b011, ())).bind fun r0 =>
  bif (r0.2.1 != 0) then
    some (8, ())
  else
    KK_.2.1 b0 b02 b03 b04 b05 b06 b07 b08 b09 b010 b011 r0.1),
(fun (b0 : Int) (b02 : (List Int)) (b03 : (List t1.den)) (b04 : (List Int)) (b05 : (List Bool)) (b06 : Int) (b07 : (List t3.den)) (b08 : (List Int)) (b09 : (List Int)) (b010 : Int) (b011 : Int) (l1 : (List Int)) =>
  KK_.2.2.1 0 b05 ((List.length b05 : Int)) 0 b0 b02 b03 b04 b06 b07 b08 b09 b010 b011 l1),
(fun (used : Int) (t68_ : (List Bool)) (t69_ : Int) (t70_ : Int) (b0 : Int) (b02 : (List Int)) (b03 : (List t1.den)) (b04 : (List Int)) (b05 : Int) (b06 : (List t3.den)) (b07 : (List Int)) (b08 : (List Int)) (b09 : Int) (b010 : Int) (l1 : (List Int)) =>
  bif (decide ((t70_ : Int) < t69_)) then
    KK_.2.2.2.1 used t68_ t69_ t70_ b0 b02 b03 b04 b05 b06 b07 b08 b09 b010 l1
  else
    KK_.2.2.2.2.1 used b06 ((List.length b06 : Int)) 0),
(fun (used : Int) (t68_ : (List Bool)) (t69_ : Int) (t70_ : Int) (b0 : Int) (b02 : (List Int)) (b03 : (List t1.den)) (b04 : (List Int)) (b05 : Int) (b06 : (List t3.den)) (b07 : (List Int)) (b08 : (List Int)) (b09 : Int) (b010 : Int) (l1 : (List Int)) =>
  bif (decide ((0 : Int) ≤ t70_ ∧ (t70_ : Int) < ((List.length t68_ : Int)))) then
    ((slices_Contains.G mm_) l1 t70_).bind fun r0 =>
    bif (!((List.getD t68_ (Int.toNat t70_) false) == r0.1)) then
      some (8, ())
    else
      bif (!(List.getD t68_ (Int.toNat t70_) false)) then
        bif (decide ((0 : Int) ≤ t70_ ∧ (t70_ : Int) < ((List.length b02 : Int)))) then
          bif ((List.getD b02 (Int.toNat t70_) 0) != 0) then
            some (8, ())
          else
            bif (decide ((0 : Int) ≤ t70_ ∧ (t70_ : Int) < ((List.length b03 : Int)))) then
              bif (!(Ty.beq t1 (List.getD b03 (Int.toNat t70_) ((0, 0, 0, ()), 0, 0, 0, ())) ((0, 0, 0, ()), 0, 0, 0, ()))) then
                some (8, ())
              else
                KK_.2.2.2.2.2.2.2.2.1 used t70_ (List.getD t68_ (Int.toNat t70_) false) t68_ t69_ b0 b02 b03 b04 b05 b06 b07 b08 b09 b010 l1
            else none
        else none
      else
        KK_.2.2.2.2.2.2.2.2.1 used t70_ (List.getD t68_ (Int.toNat t70_) false) t68_ t69_ b0 b02 b03 b04 b05 b06 b07 b08 b09 b010 l1
  else none),
(fun (used : Int) (t134_ : (List t3.den)) (t135_ : Int) (t136_ : Int) =>
  bif (decide ((t136_ : Int) < t135_)) then
    KK_.2.2.2.2.2.1 used t134_ t135_ t136_
  else
    bif (used != 0) then
      some (8, ())
    else
      KK_.2.2.2.2.2.2.1),
(fun (used : Int) (t134_ : (List t3.den)) (t135_ : Int) (t136_ : Int) =>
  bif (decide ((0 : Int) ≤ t136_ ∧ (t136_ : Int) < ((List.length t134_ : Int)))) then
    bif (((List.getD t134_ (Int.toNat t136_) (0, 0, false, ())).2).2).1 then
      KK_.2.2.2.2.2.2.2.1 (IntKind.wrap .i64 (used - 1)) t134_ t135_ t136_
    else
      KK_.2.2.2.2.2.2.2.1 used t134_ t135_ t136_
  else none),
(
  some (0, ())),
(fun (used : Int) (t134_ : (List t3.den)) (t135_ : Int) (t136_ : Int) =>
  KK_.2.2.2.2.1 used t134_ t135_ (IntKind.wrap .i64 (t136_ + 1))),
(fun (used : Int) (i : Int) (is_ : Bool) (t68_ : (List Bool)) (t69_ : Int) (b0 : Int) (b02 : (List Int)) (b03 : (List t1.den)) (b04 : (List Int)) (b05 : Int) (b06 : (List t3.den)) (b07 : (List Int)) (b08 : (List Int)) (b09 : Int) (b010 : Int) (l1 : (List Int)) =>
  bif (!is_) then
    KK_.2.2.1 used t68_ t69_ (IntKind.wrap .i64 (i + 1)) b0 b02 b03 b04 b05 b06 b07 b08 b09 b010 l1
  else
    KK_.2.2.2.2.2.2.2.2.2.1 used i t68_ t69_ b0 b02 b03 b04 b05 b06 b07 b08 b09 b010 l1),
(fun (used : Int) (i : Int) (t68_ : (List Bool)) (t69_ : Int) (b0 : Int) (b02 : (List Int)) (b03 : (List t1.den)) (b04 : (List Int)) (b05 : Int) (b06 : (List t3.den)) (b07 : (List Int)) (b08 : (List Int)) (b09 : Int) (b010 : Int) (l1 : (List Int)) =>
  bif (decide ((0 : Int) ≤ i ∧ (i : Int) < ((List.length b02 : Int)))) then
    ((probe_Find.G mm_) b06 (List.getD b02 (Int.toNat i) 0)).bind fun r0 =>
    bif (r0.2.1 != 0) then
      some (8, ())
    else
      bif (r0.1 != i) then
        some (8, ())
      else
        bif (decide ((0 : Int) ≤ i ∧ (i : Int) < ((List.length b03 : Int)))) then
          ((bucket_Check.G mm_) (List.getD b03 (Int.toNat i) ((0, 0, 0, ()), 0, 0, 0, ()))).bind fun r1 =>
          bif (r1.1 != 0) then
            some (8, ())
          else
            KK_.2.2.2.2.2.2.2.2.2.2 (IntKind.wrap .i64 (used + 1)) t68_ t69_ i b0 b02 b03 b04 b05 b06 b07 b08 b09 b010 l1
        else none
  else none),
(fun (used : Int) (t68_ : (List Bool)) (t69_ : Int) (t70_ : Int) (b0 : Int) (b02 : (List Int)) (b03 : (List t1.den)) (b04 : (List Int)) (b05 : Int) (b06 : (List t3.den)) (b07 : (List Int)) (b08 : (List Int)) (b09 : Int) (b010 : Int) (l1 : (List Int)) =>
  KK_.2.2.1 used t68_ t69_ (IntKind.wrap .i64 (t70_ + 1)) b0 b02 b03 b04 b05 b06 b07 b08 b09 b010 l1))
noncomputable def table_Check.K (mm_ : Nat) : Nat → (Int → (List Int) → (List t1.den) → (List Int) → (List Bool) → Int → (List t3.den) → (List Int) → (List Int) → Int → Int → (Option (Int × Unit))) × (Int → (List Int) → (List t1.den) → (List Int) → (List Bool) → Int → (List t3.den) → (List Int) → (List Int) → Int → Int → (List Int) → (Option (Int × Unit))) × (Int → (List Bool) → Int → Int → Int → (List Int) → (List t1.den) → (List Int) → Int → (List t3.den) → (List Int) → (List Int) → Int → Int → (List Int) → (Option (Int × Unit))) × (Int → (List Bool) → Int → Int → Int → (List Int) → (List t1.den) → (List Int) → Int → (List t3.den) → (List Int) → (List Int) → Int → Int → (List Int) → (Option (Int × Unit))) × (Int → (List t3.den) → Int → Int → (Option (Int × Unit))) × (Int → (List t3.den) → Int → Int → (Option (Int × Unit))) × ((Option (Int × Unit))) × (Int → (List t3.den) → Int → Int → (Option (Int × Unit))) × (Int → Int → Bool → (List Bool) → Int → Int → (List Int) → (List t1.den) → (List Int) → Int → (List t3.den) → (List Int) → (List Int) → Int → Int → (List Int) → (Option (Int × Unit))) × (Int → Int → (List Bool) → Int → Int → (List Int) → (List t1.den) → (List Int) → Int → (List t3.den) → (List Int) → (List Int) → Int → Int → (List Int) → (Option (Int × Unit))) × (Int → (List Bool) → Int → Int → Int → (List Int) → (List t1.den) → (List Int) → Int → (List t3.den) → (List Int) → (List Int) → Int → Int → (List Int) → (Option (Int × Unit)))
  | 0 => ((fun _ _ _ _ _ _ _ _ _ _ _ => none), (fun _ _ _ _ _ _ _ _ _ _ _ _ => none), (fun _ _ _ _ _ _ _ _ _ _ _ _ _ _ _ => none), (fun _ _ _ _ _ _ _ _ _ _ _ _ _ _ _ => none), (fun _ _ _ _ => none), (fun _ _ _ _ => none), ( none), (fun _ _ _ _ => none), (fun _ _ _ _ _ _ _ _ _ _ _ _ _ _ _ _ => none), (fun _ _ _ _ _ _ _ _ _ _ _ _ _ _ _ => none), (fun _ _ _ _ _ _ _ _ _ _ _ _ _ _ _ => none))
  | nn_ + 1 => table_Check.step mm_ (table_Check.K mm_ nn_)
theorem table_Check.step_le (mm_ : Nat) (KK_ : (Int → (List Int) → (List t1.den) → (List Int) → (List Bool) → Int → (List t3.den) → (List Int) → (List Int) → Int → Int → (Option (Int × Unit))) × (Int → (List Int) → (List t1.den) → (List Int) → (List Bool) → Int → (List t3.den) → (List Int) → (List Int) → Int → Int → (List Int) → (Option (Int × Unit))) × (Int → (List Bool) → Int → Int → Int → (List Int) → (List t1.den) → (List Int) → Int → (List t3.den) → (List Int) → (List Int) → Int → Int → (List Int) → (Option (Int × Unit))) × (Int → (List Bool) → Int → Int → Int → (List Int) → (List t1.den) → (List Int) → Int → (List t3.den) → (List Int) → (List Int) → Int → Int → (List Int) → (Option (Int × Unit))) × (Int → (List t3.den) → Int → Int → (Option (Int × Unit))) × (Int → (List t3.den) → Int → Int → (Option (Int × Unit))) × ((Option (Int × Unit))) × (Int → (List t3.den) → Int → Int → (Option (Int × Unit))) × (Int → Int → Bool → (List Bool) → Int → Int → (List Int) → (List t1.den) → (List Int) → Int → (List t3.den) → (List Int) → (List Int) → Int → Int → (List Int) → (Option (Int × Unit))) × (Int → Int → (List Bool) → Int → Int → (List Int) → (List t1.den) → (List Int) → Int → (List t3.den) → (List Int) → (List Int) → Int → Int → (List Int) → (Option (Int × Unit))) × (Int → (List Bool) → Int → Int → Int → (List Int) → (List t1.den) → (List Int) → Int → (List t3.den) → (List Int) → (List Int) → Int → Int → (List Int) → (Option (Int × Unit)))) (hh_ : (∀ b0 b02 b03 b04 b05 b06 b07 b08 b09 b010 b011, Le (KK_.1 b0 b02 b03 b04 b05 b06 b07 b08 b09 b010 b011) (table_Check.L1 b0 b02 b03 b04 b05 b06 b07 b08 b09 b010 b011)) ∧ (∀ b0 b02 b03 b04 b05 b06 b07 b08 b09 b010 b011 l1, Le (KK_.2.1 b0 b02 b03 b04 b05 b06 b07 b08 b09 b010 b011 l1) (table_Check.L2 b0 b02 b03 b04 b05 b06 b07 b08 b09 b010 b011 l1)) ∧ (∀ used t68_ t69_ t70_ b0 b02 b03 b04 b05 b06 b07 b08 b09 b010 l1, Le (KK_.2.2.1 used t68_ t69_ t70_ b0 b02 b03 b04 b05 b06 b07 b08 b09 b010 l1) (table_Check.L3 used t68_ t69_ t70_ b0 b02 b03 b04 b05 b06 b07 b08 b09 b010 l1)) ∧ (∀ used t68_ t69_ t70_ b0 b02 b03 b04 b05 b06 b07 b08 b09 b010 l1, Le (KK_.2.2.2.1 used t68_ t69_ t70_ b0 b02 b03 b04 b05 b06 b07 b08 b09 b010 l1) (table_Check.L4 used t68_ t69_ t70_ b0 b02 b03 b04 b05 b06 b07 b08 b09 b010 l1)) ∧ (∀ used t134_ t135_ t136_, Le (KK_.2.2.2.2.1 used t134_ t135_ t136_) (table_Check.L5 used t134_ t135_ t136_)) ∧ (∀ used t134_ t135_ t136_, Le (KK_.2.2.2.2.2.1 used t134_ t135_ t136_) (table_Check.L6 used t134_ t135_ t136_)) ∧ (Le (KK_.2.2.2.2.2.2.1 ) (table_Check.L7 )) ∧ (∀ used t134_ t135_ t136_, Le (KK_.2.2.2.2.2.2.2.1 used t134_ t135_ t136_) (table_Check.L8 used t134_ t135_ t136_)) ∧ (∀ used i is_ t68_ t69_ b0 b02 b03 b04 b05 b06 b07 b08 b09 b010 l1, Le (KK_.2.2.2.2.2.2.2.2.1 used i is_ t68_ t69_ b0 b02 b03 b04 b05 b06 b07 b08 b09 b010 l1) (table_Check.L9 used i is_ t68_ t69_ b0 b02 b03 b04 b05 b06 b07 b08 b09 b010 l1)) ∧ (∀ used i t68_ t69_ b0 b02 b03 b04 b05 b06 b07 b08 b09 b010 l1, Le (KK_.2.2.2.2.2.2.2.2.2.1 used i t68_ t69_ b0 b02 b03 b04 b05 b06 b07 b08 b09 b010 l1) (table_Check.L10 used i t68_ t69_ b0 b02 b03 b04 b05 b06 b07 b08 b09 b010 l1)) ∧ (∀ used t68_ t69_ t70_ b0 b02 b03 b04 b05 b06 b07 b08 b09 b010 l1, Le (KK_.2.2.2.2.2.2.2.2.2.2 used t68_ t69_ t70_ b0 b02 b03 b04 b05 b06 b07 b08 b09 b010 l1) (table_Check.L11 used t68_ t69_ t70_ b0 b02 b03 b04 b05 b06 b07 b08 b09 b010 l1))) : (∀ b0 b02 b03 b04 b05 b06 b07 b08 b09 b010 b011, Le ((table_Check.step mm_ KK_).1 b0 b02 b03 b04 b05 b06 b07 b08 b09 b010 b011) (table_Check.L1 b0 b02 b03 b04 b05 b06 b07 b08 b09 b010 b011)) ∧ (∀ b0 b02 b03 b04 b05 b06 b07 b08 b09 b010 b011 l1, Le ((table_Check.step mm_ KK_).2.1 b0 b02 b03 b04 b05 b06 b07 b08 b09 b010 b011 l1) (table_Check.L2 b0 b02 b03 b04 b05 b06 b07 b08 b09 b010 b011 l1)) ∧ (∀ used t68_ t69_ t70_ b0 b02 b03 b04 b05 b06 b07 b08 b09 b010 l1, Le ((table_Check.step mm_ KK_).2.2.1 used t68_ t69_ t70_ b0 b02 b03 b04 b05 b06 b07 b08 b09 b010 l1) (table_Check.L3 used t68_ t69_ t70_ b0 b02 b03 b04 b05 b06 b07 b08 b09 b010 l1)) ∧ (∀ used t68_ t69_ t70_ b0 b02 b03 b04 b05 b06 b07 b08 b09 b010 l1, Le ((table_Check.step mm_ KK_).2.2.2.1 used t68_ t69_ t70_ b0 b02 b03 b04 b05 b06 b07 b08 b09 b010 l1) (table_Check.L4 used t68_ t69_ t70_ b0 b02 b03 b04 b05 b06 b07 b08 b09 b010 l1)) ∧ (∀ used t134_ t135_ t136_, Le ((table_Check.step mm_ KK_).2.2.2.2.1 used t134_ t135_ t136_) (table_Check.L5 used t134_ t135_ t136_)) ∧ (∀ used t134_ t135_ t136_, Le ((table_Check.step mm_ KK_).2.2.2.2.2.1 used t134_ t135_ t136_) (table_Check.L6 used t134_ t135_ t136_)) ∧ (Le ((table_Check.step mm_ KK_).2.2.2.2.2.2.1 ) (table_Check.L7 )) ∧ (∀ used t134_ t135_ t136_, Le ((table_Check.step mm_ KK_).2.2.2.2.2.2.2.1 used t134_ t135_ t136_) (table_Check.L8 used t134_ t135_ t136_)) ∧ (∀ used i is_ t68_ t69_ b0 b02 b03 b04 b05 b06 b07 b08 b09 b010 l1, Le ((table_Check.step mm_ KK_).2.2.2.2.2.2.2.2.1 used i is_ t68_ t69_ b0 b02 b03 b04 b05 b06 b07 b08 b09 b010 l1) (table_Check.L9 used i is_ t68_ t69_ b0 b02 b03 b04 b05 b06 b07 b08 b09 b010 l1)) ∧ (∀ used i t68_ t69_ b0 b02 b03 b04 b05 b06 b07 b08 b09 b010 l1, Le ((table_Check.step mm_ KK_).2.2.2.2.2.2.2.2.2.1 used i t68_ t69_ b0 b02 b03 b04 b05 b06 b07 b08 b09 b010 l1) (table_Check.L10 used i t68_ t69_ b0 b02 b03 b04 b05 b06 b07 b08 b09 b010 l1)) ∧ (∀ used t68_ t69_ t70_ b0 b02 b03 b04 b05 b06 b07 b08 b09 b010 l1, Le ((table_Check.step mm_ KK_).2.2.2.2.2.2.2.2.2.2 used t68_ t69_ t70_ b0 b02 b03 b04 b05 b06 b07 b08 b09 b010 l1) (table_Check.L11 used t68_ t69_ t70_ b0 b02 b03 b04 b05 b06 b07 b08 b09 b010 l1)) := by
  refine ⟨fun b0 b02 b03 b04 b05 b06 b07 b08 b09 b010 b011 => by rw [table_Check.L1_eq]; dsimp only [table_Check.step]; (repeat' (with_reducible first | exact hh_.1 _ _ _ _ _ _ _ _ _ _ _ | exact hh_.2.1 _ _ _ _ _ _ _ _ _ _ _ _ | exact hh_.2.2.1 _ _ _ _ _ _ _ _ _ _ _ _ _ _ _ | exact hh_.2.2.2.1 _ _ _ _ _ _ _ _ _ _ _ _ _ _ _ | exact hh_.2.2.2.2.1 _ _ _ _ | exact hh_.2.2.2.2.2.1 _ _ _ _ | exact hh_.2.2.2.2.2.2.1 | exact hh_.2.2.2.2.2.2.2.1 _ _ _ _ | exact hh_.2.2.2.2.2.2.2.2.1 _ _ _ _ _ _ _ _ _ _ _ _ _ _ _ _ | exact hh_.2.2.2.2.2.2.2.2.2.1 _ _ _ _ _ _ _ _ _ _ _ _ _ _ _ | exact hh_.2.2.2.2.2.2.2.2.2.2 _ _ _ _ _ _ _ _ _ _ _ _ _ _ _ | exact lru_List.G_le mm_ _ | exact slices_Contains.G_le mm_ _ _ | exact probe_Find.G_le mm_ _ _ | exact bucket_Check.G_le mm_ _ | exact arena_Check.G_le mm_ _ | exact probe_Check.G_le mm_ _ | exact Le.refl _ | refine Le.cond ?_ ?_ | refine Le.bind ?_ fun _ => ?_)),
    fun b0 b02 b03 b04 b05 b06 b07 b08 b09 b010 b011 l1 => by rw [table_Check.L2_eq]; dsimp only [table_Check.step]; (repeat' (with_reducible first | exact hh_.1 _ _ _ _ _ _ _ _ _ _ _ | exact hh_.2.1 _ _ _ _ _ _ _ _ _ _ _ _ | exact hh_.2.2.1 _ _ _ _ _ _ _ _ _ _ _ _ _ _ _ | exact hh_.2.2.2.1 _ _ _ _ _ _ _ _ _ _ _ _ _ _ _ | exact hh_.2.2.2.2.1 _ _ _ _ | exact hh_.2.2.2.2.2.1 _ _ _ _ | exact hh_.2.2.2.2.2.2.1 | exact hh_.2.2.2.2.2.2.2.1 _ _ _ _ | exact hh_.2.2.2.2.2.2.2.2.1 _ _ _ _ _ _ _ _ _ _ _ _ _ _ _ _ | exact hh_.2.2.2.2.2.2.2.2.2.1 _ _ _ _ _ _ _ _ _ _ _ _ _ _ _ | exact hh_.2.2.2.2.2.2.2.2.2.2 _ _ _ _ _ _ _ _ _ _ _ _ _ _ _ | exact lru_List.G_le mm_ _ | exact slices_Contains.G_le mm_ _ _ | exact probe_Find.G_le mm_ _ _ | exact bucket_Check.G_le mm_ _ | exact arena_Check.G_le mm_ _ | exact probe_Check.G_le mm_ _ | exact Le.refl _ | refine Le.cond ?_ ?_ | refine Le.bind ?_ fun _ => ?_)),
    fun used t68_ t69_ t70_ b0 b02 b03 b04 b05 b06 b07 b08 b09 b010 l1 => by rw [table_Check.L3_eq]; dsimp only [table_Check.step]; (repeat' (with_reducible first | exact hh_.1 _ _ _ _ _ _ _ _ _ _ _ | exact hh_.2.1 _ _ _ _ _ _ _ _ _ _ _ _ | exact hh_.2.2.1 _ _ _ _ _ _ _ _ _ _ _ _ _ _ _ | exact hh_.2.2.2.1 _ _ _ _ _ _ _ _ _ _ _ _ _ _ _ | exact hh_.2.2.2.2.1 _ _ _ _ | exact hh_.2.2.2.2.2.1 _ _ _ _ | exact hh_.2.2.2.2.2.2.1 | exact hh_.2.2.2.2.2.2.2.1 _ _ _ _ | exact hh_.2.2.2.2.2.2.2.2.1 _ _ _ _ _ _ _ _ _ _ _ _ _ _ _ _ | exact hh_.2.2.2.2.2.2.2.2.2.1 _ _ _ _ _ _ _ _ _ _ _ _ _ _ _ | exact hh_.2.2.2.2.2.2.2.2.2.2 _ _ _ _ _ _ _ _ _ _ _ _ _ _ _ | exact lru_List.G_le mm_ _ | exact slices_Contains.G_le mm_ _ _ | exact probe_Find.G_le mm_ _ _ | exact bucket_Check.G_le mm_ _ | exact arena_Check.G_le mm_ _ | exact probe_Check.G_le mm_ _ | exact Le.refl _ | refine Le.cond ?_ ?_ | refine Le.bind ?_ fun _ => ?_)),
    fun used t68_ t69_ t70_ b0 b02 b03 b04 b05 b06 b07 b08 b09 b010 l1 => by rw [table_Check.L4_eq]; dsimp only [table_Check.step]; (repeat' (with_reducible first | exact hh_.1 _ _ _ _ _ _ _ _ _ _ _ | exact hh_.2.1 _ _ _ _ _ _ _ _ _ _ _ _ | exact hh_.2.2.1 _ _ _ _ _ _ _ _ _ _ _ _ _ _ _ | exact hh_.2.2.2.1 _ _ _ _ _ _ _ _ _ _ _ _ _ _ _ | exact hh_.2.2.2.2.1 _ _ _ _ | exact hh_.2.2.2.2.2.1 _ _ _ _ | exact hh_.2.2.2.2.2.2.1 | exact hh_.2.2.2.2.2.2.2.1 _ _ _ _ | exact hh_.2.2.2.2.2.2.2.2.1 _ _ _ _ _ _ _ _ _ _ _ _ _ _ _ _ | exact hh_.2.2.2.2.2.2.2.2.2.1 _ _ _ _ _ _ _ _ _ _ _ _ _ _ _ | exact hh_.2.2.2.2.2.2.2.2.2.2 _ _ _ _ _ _ _ _ _ _ _ _ _ _ _ | exact lru_List.G_le mm_ _ | exact slices_Contains.G_le mm_ _ _ | exact probe_Find.G_le mm_ _ _ | exact bucket_Check.G_le mm_ _ | exact arena_Check.G_le mm_ _ | exact probe_Check.G_le mm_ _ | exact Le.refl _ | refine Le.cond ?_ ?_ | refine Le.bind ?_ fun _ => ?_)),
    fun used t134_ t135_ t136_ => by rw [table_Check.L5_eq]; dsimp only [table_Check.step]; (repeat' (with_reducible first | exact hh_.1 _ _ _ _ _ _ _ _ _ _ _ | exact hh_.2.1 _ _ _ _ _ _ _ _ _ _ _ _ | exact hh_.2.2.1 _ _ _ _ _ _ _ _ _ _ _ _ _ _ _ | exact hh_.2.2.2.1 _ _ _ _ _ _ _ _ _ _ _ _ _ _ _ | exact hh_.2.2.2.2.1 _ _ _ _ | exact hh_.2.2.2.2.2.1 _ _ _ _ | exact hh_.2.2.2.2.2.2.1 | exact hh_.2.2.2.2.2.2.2.1 _ _ _ _ | exact hh_.2.2.2.2.2.2.2.2.1 _ _ _ _ _ _ _ _ _ _ _ _ _ _ _ _ | exact hh_.2.2.2.2.2.2.2.2.2.1 _ _ _ _ _ _ _ _ _ _ _ _ _ _ _ | exact hh_.2.2.2.2.2.2.2.2.2.2 _ _ _ _ _ _ _ _ _ _ _ _ _ _ _ | exact lru_List.G_le mm_ _ | exact slices_Contains.G_le mm_ _ _ | exact probe_Find.G_le mm_ _ _ | exact bucket_Check.G_le mm_ _ | exact arena_Check.G_le mm_ _ | exact probe_Check.G_le mm_ _ | exact Le.refl _ | refine Le.cond ?_ ?_ | refine Le.bind ?_ fun _ => ?_)),
    fun used t134_ t135_ t136_ => by rw [table_Check.L6_eq]; dsimp only [table_Check.step]; (repeat' (with_reducible first | exact hh_.1 _ _ _ _ _ _ _ _ _ _ _ | exact hh_.2.1 _ _ _ _ _ _ _ _ _ _ _ _ | exact hh_.2.2.1 _ _ _ _ _ _ _ _ _ _ _ _ _ _ _ | exact hh_.2.2.2.1 _ _ _ _ _ _ _ _ _ _ _ _ _ _ _ | exact hh_.2.2.2.2.1 _ _ _ _ | exact hh_.2.2.2.2.2.1 _ _ _ _ | exact hh_.2.2.2.2.2.2.1 | exact hh_.2.2.2.2.2.2.2.1 _ _ _ _ | exact hh_.2.2.2.2.2.2.2.2.1 _ _ _ _ _ _ _ _ _ _ _ _ _ _ _ _ | exact hh_.2.2.2.2.2.2.2.2.2.1 _ _ _ _ _ _ _ _ _ _ _ _ _ _ _ | exact hh_.2.2.2.2.2.2.2.2.2.2 _ _ _ _ _ _ _ _ _ _ _ _ _ _ _ | exact lru_List.G_le mm_ _ | exact slices_Contains.G_le mm_ _ _ | exact probe_Find.G_le mm_ _ _ | exact bucket_Check.G_le mm_ _ | exact arena_Check.G_le mm_ _ | exact probe_Check.G_le mm_ _ | exact Le.refl _ | refine Le.cond ?_ ?_ | refine Le.bind ?_ fun _ => ?_)),
     by rw [table_Check.L7_eq]; dsimp only [table_Check.step]; (repeat' (with_reducible first | exact hh_.1 _ _ _ _ _ _ _ _ _ _ _ | exact hh_.2.1 _ _ _ _ _ _ _ _ _ _ _ _ | exact hh_.2.2.1 _ _ _ _ _ _ _ _ _ _ _ _ _ _ _ | exact hh_.2.2.2.1 _ _ _ _ _ _ _ _ _ _ _ _ _ _ _ | exact hh_.2.2.2.2.1 _ _ _ _ | exact hh_.2.2.2.2.2.1 _ _ _ _ | exact hh_.2.2.2.2.2.2.1 | exact hh_.2.2.2.2.2.2.2.1 _ _ _ _ | exact hh_.2.2.2.2.2.2.2.2.1 _ _ _ _ _ _ _ _ _ _ _ _ _ _ _ _ | exact hh_.2.2.2.2.2.2.2.2.2.1 _ _ _ _ _ _ _ _ _ _ _ _ _ _ _ | exact hh_.2.2.2.2.2.2.2.2.2.2 _ _ _ _ _ _ _ _ _ _ _ _ _ _ _ | exact lru_List.G_le mm_ _ | exact slices_Contains.G_le mm_ _ _ | exact probe_Find.G_le mm_ _ _ | exact bucket_Check.G_le mm_ _ | exact arena_Check.G_le mm_ _ | exact probe_Check.G_le mm_ _ | exact Le.refl _ | refine Le.cond ?_ ?_ | refine Le.bind ?_ fun _ => ?_)),
    fun used t134_ t135_ t136_ => by rw [table_Check.L8_eq]; dsimp only [table_Check.step]; (repeat' (with_reducible first | exact hh_.1 _ _ _ _ _ _ _ _ _ _ _ | exact hh_.2.1 _ _ _ _ _ _ _ _ _ _ _ _ | exact hh_.2.2.1 _ _ _ _ _ _ _ _ _ _ _ _ _ _ _ | exact hh_.2.2.2.1 _ _ _ _ _ _ _ _ _ _ _ _ _ _ _ | exact hh_.2.2.2.2.1 _ _ _ _ | exact hh_.2.2.2.2.2.1 _ _ _ _ | exact hh_.2.2.2.2.2.2.1 | exact hh_.2.2.2.2.2.2.2.1 _ _ _ _ | exact hh_.2.2.2.2.2.2.2.2.1 _ _ _ _ _ _ _ _ _ _ _ _ _ _ _ _ | exact hh_.2.2.2.2.2.2.2.2.2.1 _ _ _ _ _ _ _ _ _ _ _ _ _ _ _ | exact hh_.2.2.2.2.2.2.2.2.2.2 _ _ _ _ _ _ _ _ _ _ _ _ _ _ _ | exact lru_List.G_le mm_ _ | exact slices_Contains.G_le mm_ _ _ | exact probe_Find.G_le mm_ _ _ | exact bucket_Check.G_le mm_ _ | exact arena_Check.G_le mm_ _ | exact probe_Check.G_le mm_ _ | exact Le.refl _ | refine Le.cond ?_ ?_ | refine Le.bind ?_ fun _ => ?_)),
    fun used i is_ t68_ t69_ b0 b02 b03 b04 b05 b06 b07 b08 b09 b010 l1 => by rw [table_Check.L9_eq]; dsimp only [table_Check.step]; (repeat' (with_reducible first | exact hh_.1 _ _ _ _ _ _ _ _ _ _ _ | exact hh_.2.1 _ _ _ _ _ _ _ _ _ _ _ _ | exact hh_.2.2.1 _ _ _ _ _ _ _ _ _ _ _ _ _ _ _ | exact hh_.2.2.2.1 _ _ _ _ _ _ _ _ _ _ _ _ _ _ _ | exact hh_.2.2.2.2.1 _ _ _ _ | exact hh_.2.2.2.2.2.1 _ _ _ _ | exact hh_.2.2.2.2.2.2.1 | exact hh_.2.2.2.2.2.2.2.1 _ _ _ _ | exact hh_.2.2.2.2.2.2.2.2.1 _ _ _ _ _ _ _ _ _ _ _ _ _ _ _ _ | exact hh_.2.2.2.2.2.2.2.2.2.1 _ _ _ _ _ _ _ _ _ _ _ _ _ _ _ | exact hh_.2.2.2.2.2.2.2.2.2.2 _ _ _ _ _ _ _ _ _ _ _ _ _ _ _ | exact lru_List.G_le mm_ _ | exact slices_Contains.G_le mm_ _ _ | exact probe_Find.G_le mm_ _ _ | exact bucket_Check.G_le mm_ _ | exact arena_Check.G_le mm_ _ | exact probe_Check.G_le mm_ _ | exact Le.refl _ | refine Le.cond ?_ ?_ | refine Le.bind ?_ fun _ => ?_)),
    fun used i t68_ t69_ b0 b02 b03 b04 b05 b06 b07 b08 b09 b010 l1 => by rw [table_Check.L10_eq]; dsimp only [table_Check.step]; (repeat' (with_reducible first | exact hh_.1 _ _ _ _ _ _ _ _ _ _ _ | exact hh_.2.1 _ _ _ _ _ _ _ _ _ _ _ _ | exact hh_.2.2.1 _ _ _ _ _ _ _ _ _ _ _ _ _ _ _ | exact hh_.2.2.2.1 _ _ _ _ _ _ _ _ _ _ _ _ _ _ _ | exact hh_.2.2.2.2.1 _ _ _ _ | exact hh_.2.2.2.2.2.1 _ _ _ _ | exact hh_.2.2.2.2.2.2.1 | exact hh_.2.2.2.2.2.2.2.1 _ _ _ _ | exact hh_.2.2.2.2.2.2.2.2.1 _ _ _ _ _ _ _ _ _ _ _ _ _ _ _ _ | exact hh_.2.2.2.2.2.2.2.2.2.1 _ _ _ _ _ _ _ _ _ _ _ _ _ _ _ | exact hh_.2.2.2.2.2.2.2.2.2.2 _ _ _ _ _ _ _ _ _ _ _ _ _ _ _ | exact lru_List.G_le mm_ _ | exact slices_Contains.G_le mm_ _ _ | exact probe_Find.G_le mm_ _ _ | exact bucket_Check.G_le mm_ _ | exact arena_Check.G_le mm_ _ | exact probe_Check.G_le mm_ _ | exact Le.refl _ | refine Le.cond ?_ ?_ | refine Le.bind ?_ fun _ => ?_)),
    fun used t68_ t69_ t70_ b0 b02 b03 b04 b05 b06 b07 b08 b09 b010 l1 => by rw [table_Check.L11_eq]; dsimp only [table_Check.step]; (repeat' (with_reducible first | exact hh_.1 _ _ _ _ _ _ _ _ _ _ _ | exact hh_.2.1 _ _ _ _ _ _ _ _ _ _ _ _ | exact hh_.2.2.1 _ _ _ _ _ _ _ _ _ _ _ _ _ _ _ | exact hh_.2.2.2.1 _ _ _ _ _ _ _ _ _ _ _ _ _ _ _ | exact hh_.2.2.2.2.1 _ _ _ _ | exact hh_.2.2.2.2.2.1 _ _ _ _ | exact hh_.2.2.2.2.2.2.1 | exact hh_.2.2.2.2.2.2.2.1 _ _ _ _ | exact hh_.2.2.2.2.2.2.2.2.1 _ _ _ _ _ _ _ _ _ _ _ _ _ _ _ _ | exact hh_.2.2.2.2.2.2.2.2.2.1 _ _ _ _ _ _ _ _ _ _ _ _ _ _ _ | exact hh_.2.2.2.2.2.2.2.2.2.2 _ _ _ _ _ _ _ _ _ _ _ _ _ _ _ | exact lru_List.G_le mm_ _ | exact slices_Contains.G_le mm_ _ _ | exact probe_Find.G_le mm_ _ _ | exact bucket_Check.G_le mm_ _ | exact arena_Check.G_le mm_ _ | exact probe_Check.G_le mm_ _ | exact Le.refl _ | refine Le.cond ?_ ?_ | refine Le.bind ?_ fun _ => ?_))⟩
theorem table_Check.K_le (mm_ : Nat) : ∀ nn_, (∀ b0 b02 b03 b04 b05 b06 b07 b08 b09 b010 b011, Le ((table_Check.K mm_ nn_).1 b0 b02 b03 b04 b05 b06 b07 b08 b09 b010 b011) (table_Check.L1 b0 b02 b03 b04 b05 b06 b07 b08 b09 b010 b011)) ∧ (∀ b0 b02 b03 b04 b05 b06 b07 b08 b09 b010 b011 l1, Le ((table_Check.K mm_ nn_).2.1 b0 b02 b03 b04 b05 b06 b07 b08 b09 b010 b011 l1) (table_Check.L2 b0 b02 b03 b04 b05 b06 b07 b08 b09 b010 b011 l1)) ∧ (∀ used t68_ t69_ t70_ b0 b02 b03 b04 b05 b06 b07 b08 b09 b010 l1, Le ((table_Check.K mm_ nn_).2.2.1 used t68_ t69_ t70_ b0 b02 b03 b04 b05 b06 b07 b08 b09 b010 l1) (table_Check.L3 used t68_ t69_ t70_ b0 b02 b03 b04 b05 b06 b07 b08 b09 b010 l1)) ∧ (∀ used t68_ t69_ t70_ b0 b02 b03 b04 b05 b06 b07 b08 b09 b010 l1, Le ((table_Check.K mm_ nn_).2.2.2.1 used t68_ t69_ t70_ b0 b02 b03 b04 b05 b06 b07 b08 b09 b010 l1) (table_Check.L4 used t68_ t69_ t70_ b0 b02 b03 b04 b05 b06 b07 b08 b09 b010 l1)) ∧ (∀ used t134_ t135_ t136_, Le ((table_Check.K mm_ nn_).2.2.2.2.1 used t134_ t135_ t136_) (table_Check.L5 used t134_ t135_ t136_)) ∧ (∀ used t134_ t135_ t136_, Le ((table_Check.K mm_ nn_).2.2.2.2.2.1 used t134_ t135_ t136_) (table_Check.L6 used t134_ t135_ t136_)) ∧ (Le ((table_Check.K mm_ nn_).2.2.2.2.2.2.1 ) (table_Check.L7 )) ∧ (∀ used t134_ t135_ t136_, Le ((table_Check.K mm_ nn_).2.2.2.2.2.2.2.1 used t134_ t135_ t136_) (table_Check.L8 used t134_ t135_ t136_)) ∧ (∀ used i is_ t68_ t69_ b0 b02 b03 b04 b05 b06 b07 b08 b09 b010 l1, Le ((table_Check.K mm_ nn_).2.2.2.2.2.2.2.2.1 used i is_ t68_ t69_ b0 b02 b03 b04 b05 b06 b07 b08 b09 b010 l1) (table_Check.L9 used i is_ t68_ t69_ b0 b02 b03 b04 b05 b06 b07 b08 b09 b010 l1)) ∧ (∀ used i t68_ t69_ b0 b02 b03 b04 b05 b06 b07 b08 b09 b010 l1, Le ((table_Check.K mm_ nn_).2.2.2.2.2.2.2.2.2.1 used i t68_ t69_ b0 b02 b03 b04 b05 b06 b07 b08 b09 b010 l1) (table_Check.L10 used i t68_ t69_ b0 b02 b03 b04 b05 b06 b07 b08 b09 b010 l1)) ∧ (∀ used t68_ t69_ t70_ b0 b02 b03 b04 b05 b06 b07 b08 b09 b010 l1, Le ((table_Check.K mm_ nn_).2.2.2.2.2.2.2.2.2.2 used t68_ t69_ t70_ b0 b02 b03 b04 b05 b06 b07 b08 b09 b010 l1) (table_Check.L11 used t68_ t69_ t70_ b0 b02 b03 b04 b05 b06 b07 b08 b09 b010 l1))
  | 0 => ⟨fun _ _ _ _ _ _ _ _ _ _ _ => Le.none _, fun _ _ _ _ _ _ _ _ _ _ _ _ => Le.none _, fun _ _ _ _ _ _ _ _ _ _ _ _ _ _ _ => Le.none _, fun _ _ _ _ _ _ _ _ _ _ _ _ _ _ _ => Le.none _, fun _ _ _ _ => Le.none _, fun _ _ _ _ => Le.none _,  Le.none _, fun _ _ _ _ => Le.none _, fun _ _ _ _ _ _ _ _ _ _ _ _ _ _ _ _ => Le.none _, fun _ _ _ _ _ _ _ _ _ _ _ _ _ _ _ => Le.none _, fun _ _ _ _ _ _ _ _ _ _ _ _ _ _ _ => Le.none _⟩
  | nn_ + 1 => table_Check.step_le mm_ (table_Check.K mm_ nn_) (table_Check.K_le mm_ nn_)
noncomputable def table_Check.G (mm_ : Nat) (t : t5.den) : Option (Int × Unit) :=
  bif (decide ((t.1 : Int) < 1)) then
    some (8, ())
  else
    bif (decide ((t.1 : Int) > 8)) then
      some (8, ())
    else
      bif (!(Ty.beq (.arr 4 (.int .i64)) ([((List.length t.2.1 : Int)), ((List.length t.2.2.1 : Int)), ((List.length t.2.2.2.1.1 : Int)), ((List.length t.2.2.2.2.2.1.1 : Int))] : List Int) ([t.1, t.1, t.1, t.1] : List Int))) then
        some (8, ())
      else
        ((arena_Check.G mm_) t.2.2.2.1).bind fun r0 =>
        bif (r0.1 != 0) then
          some (8, ())
        else
          ((probe_Check.G mm_) t.2.2.2.2.1).bind fun r1 =>
          bif (r1.1 != 0) then
            some (8, ())
          else
            (table_Check.K mm_ mm_).1 t.1 t.2.1 t.2.2.1 t.2.2.2.1.1 t.2.2.2.1.2.1 t.2.2.2.1.2.2.1 t.2.2.2.2.1 t.2.2.2.2.2.1.1 t.2.2.2.2.2.1.2.1 t.2.2.2.2.2.1.2.2.1 t.2.2.2.2.2.1.2.2.2.1
theorem table_Check.G_le (mm_ : Nat) (t : t5.den) : Le (table_Check.G mm_ t) (table_Check.F t) := by
  rw [table_Check.F_eq]; unfold table_Check.G; (repeat' (with_reducible first | exact (table_Check.K_le mm_ mm_).1 _ _ _ _ _ _ _ _ _ _ _ | exact (table_Check.K_le mm_ mm_).2.1 _ _ _ _ _ _ _ _ _ _ _ _ | exact (table_Check.K_le mm_ mm_).2.2.1 _ _ _ _ _ _ _ _ _ _ _ _ _ _ _ | exact (table_Check.K_le mm_ mm_).2.2.2.1 _ _ _ _ _ _ _ _ _ _ _ _ _ _ _ | exact (table_Check.K_le mm_ mm_).2.2.2.2.1 _ _ _ _ | exact (table_Check.K_le mm_ mm_).2.2.2.2.2.1 _ _ _ _ | exact (table_Check.K_le mm_ mm_).2.2.2.2.2.2.1 | exact (table_Check.K_le mm_ mm_).2.2.2.2.2.2.2.1 _ _ _ _ | exact (table_Check.K_le mm_ mm_).2.2.2.2.2.2.2.2.1 _ _ _ _ _ _ _ _ _ _ _ _ _ _ _ _ | exact (table_Check.K_le mm_ mm_).2.2.2.2.2.2.2.2.2.1 _ _ _ _ _ _ _ _ _ _ _ _ _ _ _ | exact (table_Check.K_le mm_ mm_).2.2.2.2.2.2.2.2.2.2 _ _ _ _ _ _ _ _ _ _ _ _ _ _ _ | exact lru_List.G_le mm_ _ | exact slices_Contains.G_le mm_ _ _ | exact probe_Find.G_le mm_ _ _ | exact bucket_Check.G_le mm_ _ | exact arena_Check.G_le mm_ _ | exact probe_Check.G_le mm_ _ | exact Le.refl _ | refine Le.cond ?_ ?_ | refine Le.bind ?_ fun _ => ?_))
/-! ### part_Check -/
noncomputable def part_Check.step (mm_ : Nat) (KK_ : (t7.den → Int → (Option (Int × Unit))) × (t7.den → (List Int) → Int → Int → Int → (Option (Int × Unit))) × (t7.den → (List Int) → Int → Int → Int → (Option (Int × Unit))) × (t7.den → (List Int) → Int → Int → Int → (Option (Int × Unit))) × (t7.den → Int → (List t0.den) → (Option (Int × Unit)))) : (t7.den → Int → (Option (Int × Unit))) × (t7.den → (List Int) → Int → Int → Int → (Option (Int × Unit))) × (t7.den → (List Int) → Int → Int → Int → (Option (Int × Unit))) × (t7.den → (List Int) → Int → Int → Int → (Option (Int × Unit))) × (t7.den → Int → (List t0.den) → (Option (Int × Unit))) := ((fun (p : t7.den) (b0 : Int) =>
  KK_.2.1 p p.2.2.2.2.2.1 ((List.length p.2.2.2.2.2.1 : Int)) 0 b0),
(fun (p : t7.den) (t84_ : (List Int)) (t85_ : Int) (t86_ : Int) (b0 : Int) =>
  bif (decide ((t86_ : Int) < t85_)) then
    KK_.2.2.1 p t84_ t85_ t86_ b0
  else
    some (0, ())),
(fun (p : t7.den) (t84_ : (List Int)) (t85_ : Int) (t86_ : Int) (b0 : Int) =>
  bif (decide ((0 : Int) ≤ t86_ ∧ (t86_ : Int) < ((List.length t84_ : Int)))) then
    bif (decide ((t86_ : Int) > 0)) then
      bif (decide ((0 : Int) ≤ (IntKind.wrap .i64 (t86_ - 1)) ∧ ((IntKind.wrap .i64 (t86_ - 1)) : Int) < ((List.length p.2.2.2.2.2.1 : Int)))) then
        bif (decide (((List.getD p.2.2.2.2.2.1 (Int.toNat (IntKind.wrap .i64 (t86_ - 1))) 0) : Int) ≥ (List.getD t84_ (Int.toNat t86_) 0))) then
          some (8, ())
        else
          KK_.2.2.2.1 p t84_ t85_ t86_ b0
      else none
    else
      KK_.2.2.2.1 p t84_ t85_ t86_ b0
  else none),
(fun (p : t7.den) (t84_ : (List Int)) (t85_ : Int) (t86_ : Int) (b0 : Int) =>
  KK_.2.1 p t84_ t85_ (IntKind.wrap .i64 (t86_ + 1)) b0),
(fun (p : t7.den) (n : Int) (same : (List t0.den)) =>
  bif (!(Ty.beq (.arr 3 t0) same p.2.1)) then
    some (8, ())
  else
    bif (decide ((((List.length p.2.2.2.2.2.1 : Int)) : Int) > 8)) then
      some (8, ())
    else
      KK_.1 p n))
noncomputable def part_Check.K (mm_ : Nat) : Nat → (t7.den → Int → (Option (Int × Unit))) × (t7.den → (List Int) → Int → Int → Int → (Option (Int × Unit))) × (t7.den → (List Int) → Int → Int → Int → (Option (Int × Unit))) × (t7.den → (List Int) → Int → Int → Int → (Option (Int × Unit))) × (t7.den → Int → (List t0.den) → (Option (Int × Unit)))
  | 0 => ((fun _ _ => none), (fun _ _ _ _ _ => none), (fun _ _ _ _ _ => none), (fun _ _ _ _ _ => none), (fun _ _ _ => none))
  | nn_ + 1 => part_Check.step mm_ (part_Check.K mm_ nn_)
theorem part_Check.step_le (mm_ : Nat) (KK_ : (t7.den → Int → (Option (Int × Unit))) × (t7.den → (List Int) → Int → Int → Int → (Option (Int × Unit))) × (t7.den → (List Int) → Int → Int → Int → (Option (Int × Unit))) × (t7.den → (List Int) → Int → Int → Int → (Option (Int × Unit))) × (t7.den → Int → (List t0.den) → (Option (Int × Unit)))) (hh_ : (∀ p b0, Le (KK_.1 p b0) (part_Check.L2 p b0)) ∧ (∀ p t84_ t85_ t86_ b0, Le (KK_.2.1 p t84_ t85_ t86_ b0) (part_Check.L3 p t84_ t85_ t86_ b0)) ∧ (∀ p t84_ t85_ t86_ b0, Le (KK_.2.2.1 p t84_ t85_ t86_ b0) (part_Check.L4 p t84_ t85_ t86_ b0)) ∧ (∀ p t84_ t85_ t86_ b0, Le (KK_.2.2.2.1 p t84_ t85_ t86_ b0) (part_Check.L5 p t84_ t85_ t86_ b0)) ∧ (∀ p n same, Le (KK_.2.2.2.2 p n same) (part_Check.T p n same))) : (∀ p b0, Le ((part_Check.step mm_ KK_).1 p b0) (part_Check.L2 p b0)) ∧ (∀ p t84_ t85_ t86_ b0, Le ((part_Check.step mm_ KK_).2.1 p t84_ t85_ t86_ b0) (part_Check.L3 p t84_ t85_ t86_ b0)) ∧ (∀ p t84_ t85_ t86_ b0, Le ((part_Check.step mm_ KK_).2.2.1 p t84_ t85_ t86_ b0) (part_Check.L4 p t84_ t85_ t86_ b0)) ∧ (∀ p t84_ t85_ t86_ b0, Le ((part_Check.step mm_ KK_).2.2.2.1 p t84_ t85_ t86_ b0) (part_Check.L5 p t84_ t85_ t86_ b0)) ∧ (∀ p n same, Le ((part_Check.step mm_ KK_).2.2.2.2 p n same) (part_Check.T p n same)) := by
  refine ⟨fun p b0 => by rw [part_Check.L2_eq]; dsimp only [part_Check.step]; (repeat' (with_reducible first | exact hh_.1 _ _ | exact hh_.2.1 _ _ _ _ _ | exact hh_.2.2.1 _ _ _ _ _ | exact hh_.2.2.2.1 _ _ _ _ _ | exact hh_.2.2.2.2 _ _ _  | exact Le.refl _ | refine Le.cond ?_ ?_ | refine Le.bind ?_ fun _ => ?_)),
    fun p t84_ t85_ t86_ b0 => by rw [part_Check.L3_eq]; dsimp only [part_Check.step]; (repeat' (with_reducible first | exact hh_.1 _ _ | exact hh_.2.1 _ _ _ _ _ | exact hh_.2.2.1 _ _ _ _ _ | exact hh_.2.2.2.1 _ _ _ _ _ | exact hh_.2.2.2.2 _ _ _  | exact Le.refl _ | refine Le.cond ?_ ?_ | refine Le.bind ?_ fun _ => ?_)),
    fun p t84_ t85_ t86_ b0 => by rw [part_Check.L4_eq]; dsimp only [part_Check.step]; (repeat' (with_reducible first | exact hh_.1 _ _ | exact hh_.2.1 _ _ _ _ _ | exact hh_.2.2.1 _ _ _ _ _ | exact hh_.2.2.2.1 _ _ _ _ _ | exact hh_.2.2.2.2 _ _ _  | exact Le.refl _ | refine Le.cond ?_ ?_ | refine Le.bind ?_ fun _ => ?_)),
    fun p t84_ t85_ t86_ b0 => by rw [part_Check.L5_eq]; dsimp only [part_Check.step]; (repeat' (with_reducible first | exact hh_.1 _ _ | exact hh_.2.1 _ _ _ _ _ | exact hh_.2.2.1 _ _ _ _ _ | exact hh_.2.2.2.1 _ _ _ _ _ | exact hh_.2.2.2.2 _ _ _  | exact Le.refl _ | refine Le.cond ?_ ?_ | refine Le.bind ?_ fun _ => ?_)),
    fun p n same => by rw [part_Check.T_eq]; dsimp only [part_Check.step]; (repeat' (with_reducible first | exact hh_.1 _ _ | exact hh_.2.1 _ _ _ _ _ | exact hh_.2.2.1 _ _ _ _ _ | exact hh_.2.2.2.1 _ _ _ _ _ | exact hh_.2.2.2.2 _ _ _  | exact Le.refl _ | refine Le.cond ?_ ?_ | refine Le.bind ?_ fun _ => ?_))⟩
theorem part_Check.K_le (mm_ : Nat) : ∀ nn_, (∀ p b0, Le ((part_Check.K mm_ nn_).1 p b0) (part_Check.L2 p b0)) ∧ (∀ p t84_ t85_ t86_ b0, Le ((part_Check.K mm_ nn_).2.1 p t84_ t85_ t86_ b0) (part_Check.L3 p t84_ t85_ t86_ b0)) ∧ (∀ p t84_ t85_ t86_ b0, Le ((part_Check.K mm_ nn_).2.2.1 p t84_ t85_ t86_ b0) (part_Check.L4 p t84_ t85_ t86_ b0)) ∧ (∀ p t84_ t85_ t86_ b0, Le ((part_Check.K mm_ nn_).2.2.2.1 p t84_ t85_ t86_ b0) (part_Check.L5 p t84_ t85_ t86_ b0)) ∧ (∀ p n same, Le ((part_Check.K mm_ nn_).2.2.2.2 p n same) (part_Check.T p n same))
  | 0 => ⟨fun _ _ => Le.none _, fun _ _ _ _ _ => Le.none _, fun _ _ _ _ _ => Le.none _, fun _ _ _ _ _ => Le.none _, fun _ _ _ => Le.none _⟩
  | nn_ + 1 => part_Check.step_le mm_ (part_Check.K mm_ nn_) (part_Check.K_le mm_ nn_)
end Go.Proofs.Ytjmgelpeonodgaa.PM
