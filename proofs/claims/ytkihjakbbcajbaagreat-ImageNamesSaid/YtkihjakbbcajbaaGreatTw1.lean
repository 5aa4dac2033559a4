/- Twins of the functions with bounded rounds, printed by a program of this session. -/
import Derived.Test.YtkihjakbbcajbaaGreatLe
import Derived.Test.YtkihjakbbcajbaaGreatZpm
namespace Go.Proofs.YtkihjakbbcajbaaGreat.PM
set_option linter.unusedSimpArgs false
set_option linter.unusedVariables false
open Go Go.Proofs
noncomputable section
/-! ### bucket_CheckLimit -/
@[reducible] def bucket_CheckLimit.KT : Type := ((Option (Int × Unit)))
@[reducible] def bucket_CheckLimit.Ok (KK_ : bucket_CheckLimit.KT) : Prop := (Le (KK_ ) (bucket_CheckLimit.L1 ))
def bucket_CheckLimit.step (mm_ : Nat) (KK_ : bucket_CheckLimit.KT) : bucket_CheckLimit.KT := ((
 some (0, ())))
def bucket_CheckLimit.K (mm_ : Nat) : Nat → bucket_CheckLimit.KT
| 0 => (( none))
| nn_ + 1 => bucket_CheckLimit.step mm_ (bucket_CheckLimit.K mm_ nn_)
theorem bucket_CheckLimit.step_le (mm_ : Nat) (KK_ : bucket_CheckLimit.KT) (hh_ : bucket_CheckLimit.Ok KK_) : bucket_CheckLimit.Ok (bucket_CheckLimit.step mm_ KK_) := by
 change Le _ _
 refine ?_
 rw [bucket_CheckLimit.L1_eq]
 all_goals dsimp only [bucket_CheckLimit.step]
 all_goals (repeat' (with_reducible first | exact hh_  | exact Le.refl _ | refine Le.cond ?_ ?_ | refine Le.bind ?_ fun _ => ?_))
theorem bucket_CheckLimit.K_le (mm_ : Nat) : ∀ nn_, bucket_CheckLimit.Ok (bucket_CheckLimit.K mm_ nn_)
| 0 =>  Le.none _
| nn_ + 1 => bucket_CheckLimit.step_le mm_ (bucket_CheckLimit.K mm_ nn_) (bucket_CheckLimit.K_le mm_ nn_)
def bucket_CheckLimit.G (mm_ : Nat) (l : t0.den) : Option (Int × Unit) :=
 bif (decide ((l.1 : Int) < 1)) then
 some (8, ())
 else
 bif (decide ((l.1 : Int) > 1000000000)) then
 some (8, ())
 else
 bif (decide ((l.2.1 : Int) < 0)) then
  some (8, ())
 else
  bif (decide ((l.2.1 : Int) > 1000000000)) then
  some (8, ())
  else
  bif (decide ((l.2.2.1 : Int) < 1)) then
   some (8, ())
  else
   bif (decide ((l.2.2.1 : Int) > 1000000000)) then
   some (8, ())
   else
   (bucket_CheckLimit.K mm_ mm_)
theorem bucket_CheckLimit.G_le (mm_ : Nat) (l : t0.den) : Le (bucket_CheckLimit.G mm_ l) (bucket_CheckLimit.F l) := by
 rw [bucket_CheckLimit.F_eq]; unfold bucket_CheckLimit.G; (repeat' (with_reducible first | exact (bucket_CheckLimit.K_le mm_ mm_)  | exact Le.refl _ | refine Le.cond ?_ ?_ | refine Le.bind ?_ fun _ => ?_))
/-! ### part_valid -/
@[reducible] def part_valid.KT : Type := ((List t0.den) → Int → (Option (Bool × Unit))) × ((List t0.den) → Int → (Option (Bool × Unit))) × ((List t0.den) → Int → (Option (Bool × Unit)))
@[reducible] def part_valid.Ok (KK_ : part_valid.KT) : Prop := (∀ t5_ t6_, Le (KK_.1 t5_ t6_) (part_valid.L1 t5_ t6_)) ∧ (∀ t5_ t6_, Le (KK_.2.1 t5_ t6_) (part_valid.L2 t5_ t6_)) ∧ (∀ t5_ t6_, Le (KK_.2.2 t5_ t6_) (part_valid.L3 t5_ t6_))
def part_valid.step (mm_ : Nat) (KK_ : part_valid.KT) : part_valid.KT := ((fun t5_ t6_ =>
 bif (decide ((t6_ : Int) < 3)) then
 KK_.2.1 t5_ t6_
 else
 some (true, ())),
(fun t5_ t6_ =>
 bif (decide ((0 : Int) ≤ t6_ ∧ (t6_ : Int) < 3)) then
 ((bucket_CheckLimit.G mm_) (List.getD t5_ (Int.toNat t6_) (0, 0, 0, ()))).bind fun r0 =>
 bif (r0.1 != 0) then
 some (false, ())
 else
 KK_.2.2 t5_ t6_
 else none),
(fun t5_ t6_ =>
 KK_.1 t5_ (IntKind.wrap .i64 (t6_ + 1))))
def part_valid.K (mm_ : Nat) : Nat → part_valid.KT
| 0 => ((fun _ _ => none), (fun _ _ => none), (fun _ _ => none))
| nn_ + 1 => part_valid.step mm_ (part_valid.K mm_ nn_)
theorem part_valid.step_le (mm_ : Nat) (KK_ : part_valid.KT) (hh_ : part_valid.Ok KK_) : part_valid.Ok (part_valid.step mm_ KK_) := by
 refine ⟨fun _ _ => ?_, fun _ _ => ?_, fun _ _ => ?_⟩
 rw [part_valid.L1_eq]; rotate_left
 rw [part_valid.L2_eq]; rotate_left
 rw [part_valid.L3_eq]; rotate_left
 all_goals dsimp only [part_valid.step]
 all_goals (repeat' (with_reducible first | exact hh_.1 _ _ | exact hh_.2.1 _ _ | exact hh_.2.2 _ _ | exact bucket_CheckLimit.G_le mm_ _ | exact Le.refl _ | refine Le.cond ?_ ?_ | refine Le.bind ?_ fun _ => ?_))
theorem part_valid.K_le (mm_ : Nat) : ∀ nn_, part_valid.Ok (part_valid.K mm_ nn_)
| 0 => ⟨fun _ _ => Le.none _, fun _ _ => Le.none _, fun _ _ => Le.none _⟩
| nn_ + 1 => part_valid.step_le mm_ (part_valid.K mm_ nn_) (part_valid.K_le mm_ nn_)
def part_valid.G (mm_ : Nat) (l : List t0.den) : Option (Bool × Unit) :=
 (part_valid.K mm_ mm_).1 l 0
theorem part_valid.G_le (mm_ : Nat) (l : List t0.den) : Le (part_valid.G mm_ l) (part_valid.F l) := by
 rw [part_valid.F_eq]; unfold part_valid.G; (repeat' (with_reducible first | exact (part_valid.K_le mm_ mm_).1 _ _ | exact (part_valid.K_le mm_ mm_).2.1 _ _ | exact (part_valid.K_le mm_ mm_).2.2 _ _ | exact bucket_CheckLimit.G_le mm_ _ | exact Le.refl _ | refine Le.cond ?_ ?_ | refine Le.bind ?_ fun _ => ?_))
/-! ### bucket_Check -/
@[reducible] def bucket_Check.KT : Type := (Int → Int → Int → Int → Int → Int → (Option (Int × Unit))) × ((Option (Int × Unit)))
@[reducible] def bucket_Check.Ok (KK_ : bucket_Check.KT) : Prop := (∀ b0 b02 b03 b04 b05 b06, Le (KK_.1 b0 b02 b03 b04 b05 b06) (bucket_Check.L1 b0 b02 b03 b04 b05 b06)) ∧ (Le (KK_.2 ) (bucket_Check.L2 ))
def bucket_Check.step (mm_ : Nat) (KK_ : bucket_Check.KT) : bucket_Check.KT := ((fun b0 b02 b03 b04 b05 b06 =>
 bif (decide ((b04 : Int) < 0)) then
 some (8, ())
 else
 bif (decide (((IntKind.wrap .i64 (b0 - b04)) : Int) < 0)) then
 some (8, ())
 else
 bif (decide ((b05 : Int) < 0)) then
  some (8, ())
 else
  bif (decide ((b05 : Int) ≥ b03)) then
  some (8, ())
  else
  bif ((IntKind.wrap .i64 (b0 - b04)) == 0) then
   bif (decide ((b05 : Int) > 0)) then
   some (8, ())
   else
   KK_.2
  else
   KK_.2),
(
 some (0, ())))
def bucket_Check.K (mm_ : Nat) : Nat → bucket_Check.KT
| 0 => ((fun _ _ _ _ _ _ => none), ( none))
| nn_ + 1 => bucket_Check.step mm_ (bucket_Check.K mm_ nn_)
theorem bucket_Check.step_le (mm_ : Nat) (KK_ : bucket_Check.KT) (hh_ : bucket_Check.Ok KK_) : bucket_Check.Ok (bucket_Check.step mm_ KK_) := by
 refine ⟨fun _ _ _ _ _ _ => ?_, ?_⟩
 rw [bucket_Check.L1_eq]; rotate_left
 rw [bucket_Check.L2_eq]; rotate_left
 all_goals dsimp only [bucket_Check.step]
 all_goals (repeat' (with_reducible first | exact hh_.1 _ _ _ _ _ _ | exact hh_.2 | exact bucket_CheckLimit.G_le mm_ _ | exact Le.refl _ | refine Le.cond ?_ ?_ | refine Le.bind ?_ fun _ => ?_))
theorem bucket_Check.K_le (mm_ : Nat) : ∀ nn_, bucket_Check.Ok (bucket_Check.K mm_ nn_)
| 0 => ⟨fun _ _ _ _ _ _ => Le.none _,  Le.none _⟩
| nn_ + 1 => bucket_Check.step_le mm_ (bucket_Check.K mm_ nn_) (bucket_Check.K_le mm_ nn_)
def bucket_Check.G (mm_ : Nat) (b : t1.den) : Option (Int × Unit) :=
 ((bucket_CheckLimit.G mm_) b.1).bind fun r0 =>
 bif (r0.1 != 0) then
 some (r0.1, ())
 else
 (bucket_Check.K mm_ mm_).1 b.1.1 b.1.2.1 b.1.2.2.1 b.2.1 b.2.2.1 b.2.2.2.1
theorem bucket_Check.G_le (mm_ : Nat) (b : t1.den) : Le (bucket_Check.G mm_ b) (bucket_Check.F b) := by
 rw [bucket_Check.F_eq]; unfold bucket_Check.G; (repeat' (with_reducible first | exact (bucket_Check.K_le mm_ mm_).1 _ _ _ _ _ _ | exact (bucket_Check.K_le mm_ mm_).2 | exact bucket_CheckLimit.G_le mm_ _ | exact Le.refl _ | refine Le.cond ?_ ?_ | refine Le.bind ?_ fun _ => ?_))
/-! ### lru_Check -/
@[reducible] def lru_Check.KT : Type := (Int → (List Int) → (List Int) → Int → Int → (Option (Int × Unit))) × (Int → Int → Int → (List Int) → (List Int) → Int → Int → (List Bool) → (Option (Int × Unit))) × (Int → Int → Int → (List Int) → (List Int) → Int → Int → (List Bool) → (Option (Int × Unit))) × (Int → Int → Int → (List Int) → (List Int) → Int → Int → (List Bool) → (Option (Int × Unit))) × (Int → Int → Int → (List Int) → (List Int) → Int → Int → (List Bool) → (Option (Int × Unit))) × ((Option (Int × Unit))) × (Int → Int → Int → (List Int) → (List Int) → Int → Int → (List Bool) → (Option (Int × Unit))) × (Int → Int → (List Int) → (List Int) → Int → Int → (List Bool) → (Option (Int × Unit)))
@[reducible] def lru_Check.Ok (KK_ : lru_Check.KT) : Prop := (∀ n b0 b02 b03 b04, Le (KK_.1 n b0 b02 b03 b04) (lru_Check.L1 n b0 b02 b03 b04)) ∧ (∀ n last i b0 b02 b03 b04 l1, Le (KK_.2.1 n last i b0 b02 b03 b04 l1) (lru_Check.L2 n last i b0 b02 b03 b04 l1)) ∧ (∀ n last i b0 b02 b03 b04 l1, Le (KK_.2.2.1 n last i b0 b02 b03 b04 l1) (lru_Check.L3 n last i b0 b02 b03 b04 l1)) ∧ (∀ last t63_ t64_ b0 b02 b03 b04 l1, Le (KK_.2.2.2.1 last t63_ t64_ b0 b02 b03 b04 l1) (lru_Check.L4 last t63_ t64_ b0 b02 b03 b04 l1)) ∧ (∀ last t63_ t64_ b0 b02 b03 b04 l1, Le (KK_.2.2.2.2.1 last t63_ t64_ b0 b02 b03 b04 l1) (lru_Check.L5 last t63_ t64_ b0 b02 b03 b04 l1)) ∧ (Le (KK_.2.2.2.2.2.1 ) (lru_Check.L6 )) ∧ (∀ last t63_ t64_ b0 b02 b03 b04 l1, Le (KK_.2.2.2.2.2.2.1 last t63_ t64_ b0 b02 b03 b04 l1) (lru_Check.L7 last t63_ t64_ b0 b02 b03 b04 l1)) ∧ (∀ n i b0 b02 b03 b04 l1, Le (KK_.2.2.2.2.2.2.2 n i b0 b02 b03 b04 l1) (lru_Check.L8 n i b0 b02 b03 b04 l1))
def lru_Check.step (mm_ : Nat) (KK_ : lru_Check.KT) : lru_Check.KT := ((fun n b0 b02 b03 b04 =>
 bif (decide ((0 : Int) ≤ n ∧ (n : Int) ≤ n) && (lim (Int.toNat n) .bool)) then
 KK_.2.1 n (-1) b03 b0 b02 b03 b04 (List.replicate (Int.toNat n) false)
 else none),
(fun n last i b0 b02 b03 b04 l1 =>
 bif (i != (-1)) then
 KK_.2.2.1 n last i b0 b02 b03 b04 l1
 else
 KK_.2.2.2.1 last ((List.length l1 : Int)) 0 b0 b02 b03 b04 l1),
(fun n last i b0 b02 b03 b04 l1 =>
 bif (decide ((i : Int) < 0)) then
 some (8, ())
 else
 bif (decide ((i : Int) ≥ n)) then
 some (8, ())
 else
 bif (decide ((0 : Int) ≤ i ∧ (i : Int) < ((List.length l1 : Int)))) then
  bif (List.getD l1 (Int.toNat i) false) then
  some (8, ())
  else
  bif (decide ((0 : Int) ≤ i ∧ (i : Int) < ((List.length b0 : Int)))) then
   bif ((List.getD b0 (Int.toNat i) 0) != last) then
   some (8, ())
   else
   KK_.2.2.2.2.2.2.2 n i b0 b02 b03 b04 l1
  else none
 else none),
(fun last t63_ t64_ b0 b02 b03 b04 l1 =>
 bif (decide ((t64_ : Int) < t63_)) then
 KK_.2.2.2.2.1 last t63_ t64_ b0 b02 b03 b04 l1
 else
 bif (b04 != last) then
 some (8, ())
 else
 KK_.2.2.2.2.2.1),
(fun last t63_ t64_ b0 b02 b03 b04 l1 =>
 bif (decide ((0 : Int) ≤ t64_ ∧ (t64_ : Int) < ((List.length l1 : Int)))) then
 bif (!(List.getD l1 (Int.toNat t64_) false)) then
 bif (decide ((0 : Int) ≤ t64_ ∧ (t64_ : Int) < ((List.length b0 : Int)))) then
  bif ((List.getD b0 (Int.toNat t64_) 0) != (-1)) then
  some (8, ())
  else
  bif (decide ((0 : Int) ≤ t64_ ∧ (t64_ : Int) < ((List.length b02 : Int)))) then
   bif ((List.getD b02 (Int.toNat t64_) 0) != (-1)) then
   some (8, ())
   else
   KK_.2.2.2.2.2.2.1 last t63_ t64_ b0 b02 b03 b04 l1
  else none
 else none
 else
 KK_.2.2.2.2.2.2.1 last t63_ t64_ b0 b02 b03 b04 l1
 else none),
(
 some (0, ())),
(fun last t63_ t64_ b0 b02 b03 b04 l1 =>
 KK_.2.2.2.1 last t63_ (IntKind.wrap .i64 (t64_ + 1)) b0 b02 b03 b04 l1),
(fun n i b0 b02 b03 b04 l1 =>
 bif (decide ((0 : Int) ≤ i ∧ (i : Int) < ((List.length l1 : Int)))) then
 bif (decide ((0 : Int) ≤ i ∧ (i : Int) < ((List.length b02 : Int)))) then
 KK_.2.1 n i (List.getD b02 (Int.toNat i) 0) b0 b02 b03 b04 (List.set l1 (Int.toNat i) true)
 else none
 else none))
def lru_Check.K (mm_ : Nat) : Nat → lru_Check.KT
| 0 => ((fun _ _ _ _ _ => none), (fun _ _ _ _ _ _ _ _ => none), (fun _ _ _ _ _ _ _ _ => none), (fun _ _ _ _ _ _ _ _ => none), (fun _ _ _ _ _ _ _ _ => none), ( none), (fun _ _ _ _ _ _ _ _ => none), (fun _ _ _ _ _ _ _ => none))
| nn_ + 1 => lru_Check.step mm_ (lru_Check.K mm_ nn_)
theorem lru_Check.step_le (mm_ : Nat) (KK_ : lru_Check.KT) (hh_ : lru_Check.Ok KK_) : lru_Check.Ok (lru_Check.step mm_ KK_) := by
 refine ⟨fun _ _ _ _ _ => ?_, fun _ _ _ _ _ _ _ _ => ?_, fun _ _ _ _ _ _ _ _ => ?_, fun _ _ _ _ _ _ _ _ => ?_, fun _ _ _ _ _ _ _ _ => ?_, ?_, fun _ _ _ _ _ _ _ _ => ?_, fun _ _ _ _ _ _ _ => ?_⟩
 rw [lru_Check.L1_eq]; rotate_left
 rw [lru_Check.L2_eq]; rotate_left
 rw [lru_Check.L3_eq]; rotate_left
 rw [lru_Check.L4_eq]; rotate_left
 rw [lru_Check.L5_eq]; rotate_left
 rw [lru_Check.L6_eq]; rotate_left
 rw [lru_Check.L7_eq]; rotate_left
 rw [lru_Check.L8_eq]; rotate_left
 all_goals dsimp only [lru_Check.step]
 all_goals (repeat' (with_reducible first | exact hh_.1 _ _ _ _ _ | exact hh_.2.1 _ _ _ _ _ _ _ _ | exact hh_.2.2.1 _ _ _ _ _ _ _ _ | exact hh_.2.2.2.1 _ _ _ _ _ _ _ _ | exact hh_.2.2.2.2.1 _ _ _ _ _ _ _ _ | exact hh_.2.2.2.2.2.1 | exact hh_.2.2.2.2.2.2.1 _ _ _ _ _ _ _ _ | exact hh_.2.2.2.2.2.2.2 _ _ _ _ _ _ _  | exact Le.refl _ | refine Le.cond ?_ ?_ | refine Le.bind ?_ fun _ => ?_))
theorem lru_Check.K_le (mm_ : Nat) : ∀ nn_, lru_Check.Ok (lru_Check.K mm_ nn_)
| 0 => ⟨fun _ _ _ _ _ => Le.none _, fun _ _ _ _ _ _ _ _ => Le.none _, fun _ _ _ _ _ _ _ _ => Le.none _, fun _ _ _ _ _ _ _ _ => Le.none _, fun _ _ _ _ _ _ _ _ => Le.none _,  Le.none _, fun _ _ _ _ _ _ _ _ => Le.none _, fun _ _ _ _ _ _ _ => Le.none _⟩
| nn_ + 1 => lru_Check.step_le mm_ (lru_Check.K mm_ nn_) (lru_Check.K_le mm_ nn_)
def lru_Check.G (mm_ : Nat) (o : t4.den) : Option (Int × Unit) :=
 bif (decide ((((List.length o.1 : Int)) : Int) < 1)) then
 some (8, ())
 else
 bif (decide ((((List.length o.1 : Int)) : Int) > 16)) then
 some (8, ())
 else
 bif (((List.length o.2.1 : Int)) != ((List.length o.1 : Int))) then
  some (8, ())
 else
  (lru_Check.K mm_ mm_).1 ((List.length o.1 : Int)) o.1 o.2.1 o.2.2.1 o.2.2.2.1
theorem lru_Check.G_le (mm_ : Nat) (o : t4.den) : Le (lru_Check.G mm_ o) (lru_Check.F o) := by
 rw [lru_Check.F_eq]; unfold lru_Check.G; (repeat' (with_reducible first | exact (lru_Check.K_le mm_ mm_).1 _ _ _ _ _ | exact (lru_Check.K_le mm_ mm_).2.1 _ _ _ _ _ _ _ _ | exact (lru_Check.K_le mm_ mm_).2.2.1 _ _ _ _ _ _ _ _ | exact (lru_Check.K_le mm_ mm_).2.2.2.1 _ _ _ _ _ _ _ _ | exact (lru_Check.K_le mm_ mm_).2.2.2.2.1 _ _ _ _ _ _ _ _ | exact (lru_Check.K_le mm_ mm_).2.2.2.2.2.1 | exact (lru_Check.K_le mm_ mm_).2.2.2.2.2.2.1 _ _ _ _ _ _ _ _ | exact (lru_Check.K_le mm_ mm_).2.2.2.2.2.2.2 _ _ _ _ _ _ _  | exact Le.refl _ | refine Le.cond ?_ ?_ | refine Le.bind ?_ fun _ => ?_))
/-! ### lru_List -/
@[reducible] def lru_List.KT : Type := ((List Int) → (List Int) → Int → Int → (Option ((List Int) × Int × Unit))) × (Int → (List Int) → (List Int) → Int → Int → (List Int) → (Option ((List Int) × Int × Unit))) × (Int → (List Int) → (List Int) → Int → Int → (List Int) → (Option ((List Int) × Int × Unit)))
@[reducible] def lru_List.Ok (KK_ : lru_List.KT) : Prop := (∀ b0 b02 b03 b04, Le (KK_.1 b0 b02 b03 b04) (lru_List.L1 b0 b02 b03 b04)) ∧ (∀ i b0 b02 b03 b04 l1, Le (KK_.2.1 i b0 b02 b03 b04 l1) (lru_List.L2 i b0 b02 b03 b04 l1)) ∧ (∀ i b0 b02 b03 b04 l1, Le (KK_.2.2 i b0 b02 b03 b04 l1) (lru_List.L3 i b0 b02 b03 b04 l1))
def lru_List.step (mm_ : Nat) (KK_ : lru_List.KT) : lru_List.KT := ((fun b0 b02 b03 b04 =>
 KK_.2.1 b03 b0 b02 b03 b04 ([] : List Int)),
(fun i b0 b02 b03 b04 l1 =>
 bif (i != (-1)) then
 KK_.2.2 i b0 b02 b03 b04 l1
 else
 some (l1, 0, ())),
(fun i b0 b02 b03 b04 l1 =>
 bif (lim ((List.length l1) + (List.length ([i] : List Int))) (.int .i64)) then
 bif (decide ((0 : Int) ≤ i ∧ (i : Int) < ((List.length b02 : Int)))) then
 KK_.2.1 (List.getD b02 (Int.toNat i) 0) b0 b02 b03 b04 (l1 ++ ([i] : List Int))
 else none
 else none))
def lru_List.K (mm_ : Nat) : Nat → lru_List.KT
| 0 => ((fun _ _ _ _ => none), (fun _ _ _ _ _ _ => none), (fun _ _ _ _ _ _ => none))
| nn_ + 1 => lru_List.step mm_ (lru_List.K mm_ nn_)
theorem lru_List.step_le (mm_ : Nat) (KK_ : lru_List.KT) (hh_ : lru_List.Ok KK_) : lru_List.Ok (lru_List.step mm_ KK_) := by
 refine ⟨fun _ _ _ _ => ?_, fun _ _ _ _ _ _ => ?_, fun _ _ _ _ _ _ => ?_⟩
 rw [lru_List.L1_eq]; rotate_left
 rw [lru_List.L2_eq]; rotate_left
 rw [lru_List.L3_eq]; rotate_left
 all_goals dsimp only [lru_List.step]
 all_goals (repeat' (with_reducible first | exact hh_.1 _ _ _ _ | exact hh_.2.1 _ _ _ _ _ _ | exact hh_.2.2 _ _ _ _ _ _ | exact lru_Check.G_le mm_ _ | exact Le.refl _ | refine Le.cond ?_ ?_ | refine Le.bind ?_ fun _ => ?_))
theorem lru_List.K_le (mm_ : Nat) : ∀ nn_, lru_List.Ok (lru_List.K mm_ nn_)
| 0 => ⟨fun _ _ _ _ => Le.none _, fun _ _ _ _ _ _ => Le.none _, fun _ _ _ _ _ _ => Le.none _⟩
| nn_ + 1 => lru_List.step_le mm_ (lru_List.K mm_ nn_) (lru_List.K_le mm_ nn_)
def lru_List.G (mm_ : Nat) (o : t4.den) : Option ((List Int) × Int × Unit) :=
 ((lru_Check.G mm_) o).bind fun r0 =>
 bif (r0.1 != 0) then
 some (([] : List Int), r0.1, ())
 else
 (lru_List.K mm_ mm_).1 o.1 o.2.1 o.2.2.1 o.2.2.2.1
theorem lru_List.G_le (mm_ : Nat) (o : t4.den) : Le (lru_List.G mm_ o) (lru_List.F o) := by
 rw [lru_List.F_eq]; unfold lru_List.G; (repeat' (with_reducible first | exact (lru_List.K_le mm_ mm_).1 _ _ _ _ | exact (lru_List.K_le mm_ mm_).2.1 _ _ _ _ _ _ | exact (lru_List.K_le mm_ mm_).2.2 _ _ _ _ _ _ | exact lru_Check.G_le mm_ _ | exact Le.refl _ | refine Le.cond ?_ ?_ | refine Le.bind ?_ fun _ => ?_))
/-! ### slices_Index -/
@[reducible] def slices_Index.KT : Type := ((List Int) → Int → Int → Int → (Option (Int × Unit))) × ((List Int) → Int → Int → Int → (Option (Int × Unit))) × ((List Int) → Int → Int → Int → (Option (Int × Unit)))
@[reducible] def slices_Index.Ok (KK_ : slices_Index.KT) : Prop := (∀ s v t7_ t8_, Le (KK_.1 s v t7_ t8_) (slices_Index.L1 s v t7_ t8_)) ∧ (∀ s v t7_ t8_, Le (KK_.2.1 s v t7_ t8_) (slices_Index.L2 s v t7_ t8_)) ∧ (∀ s v t7_ t8_, Le (KK_.2.2 s v t7_ t8_) (slices_Index.L3 s v t7_ t8_))
def slices_Index.step (mm_ : Nat) (KK_ : slices_Index.KT) : slices_Index.KT := ((fun s v t7_ t8_ =>
 bif (decide ((t8_ : Int) < t7_)) then
 KK_.2.1 s v t7_ t8_
 else
 some ((-1), ())),
(fun s v t7_ t8_ =>
 bif (decide ((0 : Int) ≤ t8_ ∧ (t8_ : Int) < ((List.length s : Int)))) then
 bif (v == (List.getD s (Int.toNat t8_) 0)) then
 some (t8_, ())
 else
 KK_.2.2 s v t7_ t8_
 else none),
(fun s v t7_ t8_ =>
 KK_.1 s v t7_ (IntKind.wrap .i64 (t8_ + 1))))
def slices_Index.K (mm_ : Nat) : Nat → slices_Index.KT
| 0 => ((fun _ _ _ _ => none), (fun _ _ _ _ => none), (fun _ _ _ _ => none))
| nn_ + 1 => slices_Index.step mm_ (slices_Index.K mm_ nn_)
theorem slices_Index.step_le (mm_ : Nat) (KK_ : slices_Index.KT) (hh_ : slices_Index.Ok KK_) : slices_Index.Ok (slices_Index.step mm_ KK_) := by
 refine ⟨fun _ _ _ _ => ?_, fun _ _ _ _ => ?_, fun _ _ _ _ => ?_⟩
 rw [slices_Index.L1_eq]; rotate_left
 rw [slices_Index.L2_eq]; rotate_left
 rw [slices_Index.L3_eq]; rotate_left
 all_goals dsimp only [slices_Index.step]
 all_goals (repeat' (with_reducible first | exact hh_.1 _ _ _ _ | exact hh_.2.1 _ _ _ _ | exact hh_.2.2 _ _ _ _  | exact Le.refl _ | refine Le.cond ?_ ?_ | refine Le.bind ?_ fun _ => ?_))
theorem slices_Index.K_le (mm_ : Nat) : ∀ nn_, slices_Index.Ok (slices_Index.K mm_ nn_)
| 0 => ⟨fun _ _ _ _ => Le.none _, fun _ _ _ _ => Le.none _, fun _ _ _ _ => Le.none _⟩
| nn_ + 1 => slices_Index.step_le mm_ (slices_Index.K mm_ nn_) (slices_Index.K_le mm_ nn_)
def slices_Index.G (mm_ : Nat) (s : List Int) (v : Int) : Option (Int × Unit) :=
 (slices_Index.K mm_ mm_).1 s v ((List.length s : Int)) 0
theorem slices_Index.G_le (mm_ : Nat) (s : List Int) (v : Int) : Le (slices_Index.G mm_ s v) (slices_Index.F s v) := by
 rw [slices_Index.F_eq]; unfold slices_Index.G; (repeat' (with_reducible first | exact (slices_Index.K_le mm_ mm_).1 _ _ _ _ | exact (slices_Index.K_le mm_ mm_).2.1 _ _ _ _ | exact (slices_Index.K_le mm_ mm_).2.2 _ _ _ _  | exact Le.refl _ | refine Le.cond ?_ ?_ | refine Le.bind ?_ fun _ => ?_))
/-! ### slices_Contains -/
def slices_Contains.G (mm_ : Nat) (s : List Int) (v : Int) : Option (Bool × Unit) :=
 ((slices_Index.G mm_) s v).bind fun r0 =>
 some ((decide ((r0.1 : Int) ≥ 0)), ())
theorem slices_Contains.G_le (mm_ : Nat) (s : List Int) (v : Int) : Le (slices_Contains.G mm_ s v) (slices_Contains.F s v) := by
 rw [slices_Contains.F_eq]; unfold slices_Contains.G; (repeat' (with_reducible first  | exact slices_Index.G_le mm_ _ _ | exact Le.refl _ | refine Le.cond ?_ ?_ | refine Le.bind ?_ fun _ => ?_))
/-! ### probe_wrap -/
def probe_wrap.G (mm_ : Nat) (i : Int) : Option (Int × Unit) :=
 some ((bits .and .i64 i 15), ())
theorem probe_wrap.G_le (mm_ : Nat) (i : Int) : Le (probe_wrap.G mm_ i) (probe_wrap.F i) := by
 rw [probe_wrap.F_eq]; unfold probe_wrap.G; (repeat' (with_reducible first   | exact Le.refl _ | refine Le.cond ?_ ?_ | refine Le.bind ?_ fun _ => ?_))
/-! ### probe_Home -/
def probe_Home.G (mm_ : Nat) (key : Int) : Option (Int × Unit) :=
 bif (decide ((0 : Int) ≤ 28)) then
 some ((IntKind.wrap .i64 (Int.fdiv (IntKind.wrap .u32 (key * 2654435769)) (2 ^ min (Int.toNat 28) (IntKind.bits .u32)))), ())
 else none
theorem probe_Home.G_le (mm_ : Nat) (key : Int) : Le (probe_Home.G mm_ key) (probe_Home.F key) := by
 rw [probe_Home.F_eq]; unfold probe_Home.G; (repeat' (with_reducible first   | exact Le.refl _ | refine Le.cond ?_ ?_ | refine Le.bind ?_ fun _ => ?_))
/-! ### probe_look -/
@[reducible] def probe_look.KT : Type := ((List t3.den) → Int → Int → Int → (Option (Int × Int × Unit))) × ((List t3.den) → Int → Int → Int → (Option (Int × Int × Unit)))
@[reducible] def probe_look.Ok (KK_ : probe_look.KT) : Prop := (∀ x key i steps, Le (KK_.1 x key i steps) (probe_look.L1 x key i steps)) ∧ (∀ x key i steps, Le (KK_.2 x key i steps) (probe_look.L2 x key i steps))
def probe_look.step (mm_ : Nat) (KK_ : probe_look.KT) : probe_look.KT := ((fun x key i steps =>
 bif (decide ((0 : Int) ≤ i ∧ (i : Int) < ((List.length x : Int)))) then
 bif (((List.getD x (Int.toNat i) (0, 0, false, ())).2).2).1 then
 bif (decide ((0 : Int) ≤ i ∧ (i : Int) < ((List.length x : Int)))) then
  bif ((List.getD x (Int.toNat i) (0, 0, false, ())).1 != key) then
  KK_.2 x key i steps
  else
  some (i, (IntKind.wrap .i64 (steps + 1)), ())
 else none
 else
 some (i, (IntKind.wrap .i64 (steps + 1)), ())
 else none),
(fun x key i steps =>
 ((probe_wrap.G mm_) (IntKind.wrap .i64 (i + 1))).bind fun r0 =>
 KK_.1 x key r0.1 (IntKind.wrap .i64 (steps + 1))))
def probe_look.K (mm_ : Nat) : Nat → probe_look.KT
| 0 => ((fun _ _ _ _ => none), (fun _ _ _ _ => none))
| nn_ + 1 => probe_look.step mm_ (probe_look.K mm_ nn_)
theorem probe_look.step_le (mm_ : Nat) (KK_ : probe_look.KT) (hh_ : probe_look.Ok KK_) : probe_look.Ok (probe_look.step mm_ KK_) := by
 refine ⟨fun _ _ _ _ => ?_, fun _ _ _ _ => ?_⟩
 rw [probe_look.L1_eq]; rotate_left
 rw [probe_look.L2_eq]; rotate_left
 all_goals dsimp only [probe_look.step]
 all_goals (repeat' (with_reducible first | exact hh_.1 _ _ _ _ | exact hh_.2 _ _ _ _ | exact probe_wrap.G_le mm_ _ | exact probe_Home.G_le mm_ _ | exact Le.refl _ | refine Le.cond ?_ ?_ | refine Le.bind ?_ fun _ => ?_))
theorem probe_look.K_le (mm_ : Nat) : ∀ nn_, probe_look.Ok (probe_look.K mm_ nn_)
| 0 => ⟨fun _ _ _ _ => Le.none _, fun _ _ _ _ => Le.none _⟩
| nn_ + 1 => probe_look.step_le mm_ (probe_look.K mm_ nn_) (probe_look.K_le mm_ nn_)
def probe_look.G (mm_ : Nat) (x : List t3.den) (key : Int) : Option (Int × Int × Unit) :=
 ((probe_Home.G mm_) key).bind fun r0 =>
 (probe_look.K mm_ mm_).1 x key r0.1 0
theorem probe_look.G_le (mm_ : Nat) (x : List t3.den) (key : Int) : Le (probe_look.G mm_ x key) (probe_look.F x key) := by
 rw [probe_look.F_eq]; unfold probe_look.G; (repeat' (with_reducible first | exact (probe_look.K_le mm_ mm_).1 _ _ _ _ | exact (probe_look.K_le mm_ mm_).2 _ _ _ _ | exact probe_wrap.G_le mm_ _ | exact probe_Home.G_le mm_ _ | exact Le.refl _ | refine Le.cond ?_ ?_ | refine Le.bind ?_ fun _ => ?_))
/-! ### probe_Check -/
@[reducible] def probe_Check.KT : Type := ((List t3.den) → (Option (Int × Unit))) × ((List t3.den) → Int → Int → Int → (Option (Int × Unit))) × ((List t3.den) → Int → Int → Int → (Option (Int × Unit))) × ((List t3.den) → (Option (Int × Unit))) × ((List t3.den) → Int → (Option (Int × Unit))) × ((List t3.den) → Int → (Option (Int × Unit))) × ((List t3.den) → Int → Int → Int → Bool → (Option (Int × Unit))) × ((List t3.den) → Int → (Option (Int × Unit))) × ((List t3.den) → Int → Int → Int → (Option (Int × Unit)))
@[reducible] def probe_Check.Ok (KK_ : probe_Check.KT) : Prop := (∀ x, Le (KK_.1 x) (probe_Check.L1 x)) ∧ (∀ x n t14_ t15_, Le (KK_.2.1 x n t14_ t15_) (probe_Check.L2 x n t14_ t15_)) ∧ (∀ x n t14_ t15_, Le (KK_.2.2.1 x n t14_ t15_) (probe_Check.L3 x n t14_ t15_)) ∧ (∀ x, Le (KK_.2.2.2.1 x) (probe_Check.L4 x)) ∧ (∀ x t26_, Le (KK_.2.2.2.2.1 x t26_) (probe_Check.L5 x t26_)) ∧ (∀ x t26_, Le (KK_.2.2.2.2.2.1 x t26_) (probe_Check.L6 x t26_)) ∧ (∀ x i b0 b02 b03, Le (KK_.2.2.2.2.2.2.1 x i b0 b02 b03) (probe_Check.L7 x i b0 b02 b03)) ∧ (∀ x t26_, Le (KK_.2.2.2.2.2.2.2.1 x t26_) (probe_Check.L8 x t26_)) ∧ (∀ x n t14_ t15_, Le (KK_.2.2.2.2.2.2.2.2 x n t14_ t15_) (probe_Check.L9 x n t14_ t15_))
def probe_Check.step (mm_ : Nat) (KK_ : probe_Check.KT) : probe_Check.KT := ((fun x =>
 KK_.2.1 x 0 ((List.length x : Int)) 0),
(fun x n t14_ t15_ =>
 bif (decide ((t15_ : Int) < t14_)) then
 KK_.2.2.1 x n t14_ t15_
 else
 bif (decide ((n : Int) > 12)) then
 some (8, ())
 else
 KK_.2.2.2.1 x),
(fun x n t14_ t15_ =>
 bif (decide ((0 : Int) ≤ t15_ ∧ (t15_ : Int) < ((List.length x : Int)))) then
 bif (((List.getD x (Int.toNat t15_) (0, 0, false, ())).2).2).1 then
 KK_.2.2.2.2.2.2.2.2 x (IntKind.wrap .i64 (n + 1)) t14_ t15_
 else
 KK_.2.2.2.2.2.2.2.2 x n t14_ t15_
 else none),
(fun x =>
 KK_.2.2.2.2.1 x 0),
(fun x t26_ =>
 bif (decide ((t26_ : Int) < 16)) then
 KK_.2.2.2.2.2.1 x t26_
 else
 some (0, ())),
(fun x t26_ =>
 bif (decide ((0 : Int) ≤ t26_ ∧ (t26_ : Int) < ((List.length x : Int)))) then
 bif (!((((List.getD x (Int.toNat t26_) (0, 0, false, ())).2).2).1)) then
 bif (!(Ty.beq t3 (List.getD x (Int.toNat t26_) (0, 0, false, ())) (0, 0, false, ()))) then
  some (8, ())
 else
  bif (((List.getD x (Int.toNat t26_) (0, 0, false, ())).2).2).1 then
  bif (decide (((((List.getD x (Int.toNat t26_) (0, 0, false, ())).2).1) : Int) < 0)) then
   some (8, ())
  else
   bif (decide (((((List.getD x (Int.toNat t26_) (0, 0, false, ())).2).1) : Int) ≥ 16)) then
   some (8, ())
   else
   KK_.2.2.2.2.2.2.1 x t26_ ((List.getD x (Int.toNat t26_) (0, 0, false, ())).1) (((List.getD x (Int.toNat t26_) (0, 0, false, ())).2).1) ((((List.getD x (Int.toNat t26_) (0, 0, false, ())).2).2).1)
  else
  KK_.2.2.2.2.2.2.1 x t26_ ((List.getD x (Int.toNat t26_) (0, 0, false, ())).1) (((List.getD x (Int.toNat t26_) (0, 0, false, ())).2).1) ((((List.getD x (Int.toNat t26_) (0, 0, false, ())).2).2).1)
 else
 bif (((List.getD x (Int.toNat t26_) (0, 0, false, ())).2).2).1 then
  bif (decide (((((List.getD x (Int.toNat t26_) (0, 0, false, ())).2).1) : Int) < 0)) then
  some (8, ())
  else
  bif (decide (((((List.getD x (Int.toNat t26_) (0, 0, false, ())).2).1) : Int) ≥ 16)) then
   some (8, ())
  else
   KK_.2.2.2.2.2.2.1 x t26_ ((List.getD x (Int.toNat t26_) (0, 0, false, ())).1) (((List.getD x (Int.toNat t26_) (0, 0, false, ())).2).1) ((((List.getD x (Int.toNat t26_) (0, 0, false, ())).2).2).1)
 else
  KK_.2.2.2.2.2.2.1 x t26_ ((List.getD x (Int.toNat t26_) (0, 0, false, ())).1) (((List.getD x (Int.toNat t26_) (0, 0, false, ())).2).1) ((((List.getD x (Int.toNat t26_) (0, 0, false, ())).2).2).1)
 else none),
(fun x i b0 b02 b03 =>
 ((probe_look.G mm_) x b0).bind fun r0 =>
 bif b03 then
 bif (r0.1 != i) then
 some (8, ())
 else
 KK_.2.2.2.2.2.2.2.1 x i
 else
 KK_.2.2.2.2.2.2.2.1 x i),
(fun x t26_ =>
 KK_.2.2.2.2.1 x (IntKind.wrap .i64 (t26_ + 1))),
(fun x n t14_ t15_ =>
 KK_.2.1 x n t14_ (IntKind.wrap .i64 (t15_ + 1))))
def probe_Check.K (mm_ : Nat) : Nat → probe_Check.KT
| 0 => ((fun _ => none), (fun _ _ _ _ => none), (fun _ _ _ _ => none), (fun _ => none), (fun _ _ => none), (fun _ _ => none), (fun _ _ _ _ _ => none), (fun _ _ => none), (fun _ _ _ _ => none))
| nn_ + 1 => probe_Check.step mm_ (probe_Check.K mm_ nn_)
theorem probe_Check.step_le (mm_ : Nat) (KK_ : probe_Check.KT) (hh_ : probe_Check.Ok KK_) : probe_Check.Ok (probe_Check.step mm_ KK_) := by
 refine ⟨fun _ => ?_, fun _ _ _ _ => ?_, fun _ _ _ _ => ?_, fun _ => ?_, fun _ _ => ?_, fun _ _ => ?_, fun _ _ _ _ _ => ?_, fun _ _ => ?_, fun _ _ _ _ => ?_⟩
 rw [probe_Check.L1_eq]; rotate_left
 rw [probe_Check.L2_eq]; rotate_left
 rw [probe_Check.L3_eq]; rotate_left
 rw [probe_Check.L4_eq]; rotate_left
 rw [probe_Check.L5_eq]; rotate_left
 rw [probe_Check.L6_eq]; rotate_left
 rw [probe_Check.L7_eq]; rotate_left
 rw [probe_Check.L8_eq]; rotate_left
 rw [probe_Check.L9_eq]; rotate_left
 all_goals dsimp only [probe_Check.step]
 all_goals (repeat' (with_reducible first | exact hh_.1 _ | exact hh_.2.1 _ _ _ _ | exact hh_.2.2.1 _ _ _ _ | exact hh_.2.2.2.1 _ | exact hh_.2.2.2.2.1 _ _ | exact hh_.2.2.2.2.2.1 _ _ | exact hh_.2.2.2.2.2.2.1 _ _ _ _ _ | exact hh_.2.2.2.2.2.2.2.1 _ _ | exact hh_.2.2.2.2.2.2.2.2 _ _ _ _ | exact probe_look.G_le mm_ _ _ | exact Le.refl _ | refine Le.cond ?_ ?_ | refine Le.bind ?_ fun _ => ?_))
theorem probe_Check.K_le (mm_ : Nat) : ∀ nn_, probe_Check.Ok (probe_Check.K mm_ nn_)
| 0 => ⟨fun _ => Le.none _, fun _ _ _ _ => Le.none _, fun _ _ _ _ => Le.none _, fun _ => Le.none _, fun _ _ => Le.none _, fun _ _ => Le.none _, fun _ _ _ _ _ => Le.none _, fun _ _ => Le.none _, fun _ _ _ _ => Le.none _⟩
| nn_ + 1 => probe_Check.step_le mm_ (probe_Check.K mm_ nn_) (probe_Check.K_le mm_ nn_)
def probe_Check.G (mm_ : Nat) (x : List t3.den) : Option (Int × Unit) :=
 bif (((List.length x : Int)) != 16) then
 some (8, ())
 else
 (probe_Check.K mm_ mm_).1 x
theorem probe_Check.G_le (mm_ : Nat) (x : List t3.den) : Le (probe_Check.G mm_ x) (probe_Check.F x) := by
 rw [probe_Check.F_eq]; unfold probe_Check.G; (repeat' (with_reducible first | exact (probe_Check.K_le mm_ mm_).1 _ | exact (probe_Check.K_le mm_ mm_).2.1 _ _ _ _ | exact (probe_Check.K_le mm_ mm_).2.2.1 _ _ _ _ | exact (probe_Check.K_le mm_ mm_).2.2.2.1 _ | exact (probe_Check.K_le mm_ mm_).2.2.2.2.1 _ _ | exact (probe_Check.K_le mm_ mm_).2.2.2.2.2.1 _ _ | exact (probe_Check.K_le mm_ mm_).2.2.2.2.2.2.1 _ _ _ _ _ | exact (probe_Check.K_le mm_ mm_).2.2.2.2.2.2.2.1 _ _ | exact (probe_Check.K_le mm_ mm_).2.2.2.2.2.2.2.2 _ _ _ _ | exact probe_look.G_le mm_ _ _ | exact Le.refl _ | refine Le.cond ?_ ?_ | refine Le.bind ?_ fun _ => ?_))
/-! ### probe_Find -/
@[reducible] def probe_Find.KT : Type := ((List t3.den) → Int → (Option (Int × Int × Unit))) × ((List t3.den) → Int → (Option (Int × Int × Unit)))
@[reducible] def probe_Find.Ok (KK_ : probe_Find.KT) : Prop := (∀ x key, Le (KK_.1 x key) (probe_Find.L1 x key)) ∧ (∀ x i, Le (KK_.2 x i) (probe_Find.L2 x i))
def probe_Find.step (mm_ : Nat) (KK_ : probe_Find.KT) : probe_Find.KT := ((fun x key =>
 ((probe_look.G mm_) x key).bind fun r0 =>
 bif (decide ((0 : Int) ≤ r0.1 ∧ (r0.1 : Int) < ((List.length x : Int)))) then
 bif (!((((List.getD x (Int.toNat r0.1) (0, 0, false, ())).2).2).1)) then
 some (0, 6, ())
 else
 KK_.2 x r0.1
 else none),
(fun x i =>
 bif (decide ((0 : Int) ≤ i ∧ (i : Int) < ((List.length x : Int)))) then
 some (((List.getD x (Int.toNat i) (0, 0, false, ())).2).1, 0, ())
 else none))
def probe_Find.K (mm_ : Nat) : Nat → probe_Find.KT
| 0 => ((fun _ _ => none), (fun _ _ => none))
| nn_ + 1 => probe_Find.step mm_ (probe_Find.K mm_ nn_)
theorem probe_Find.step_le (mm_ : Nat) (KK_ : probe_Find.KT) (hh_ : probe_Find.Ok KK_) : probe_Find.Ok (probe_Find.step mm_ KK_) := by
 refine ⟨fun _ _ => ?_, fun _ _ => ?_⟩
 rw [probe_Find.L1_eq]; rotate_left
 rw [probe_Find.L2_eq]; rotate_left
 all_goals dsimp only [probe_Find.step]
 all_goals (repeat' (with_reducible first | exact hh_.1 _ _ | exact hh_.2 _ _ | exact probe_look.G_le mm_ _ _ | exact probe_Check.G_le mm_ _ | exact Le.refl _ | refine Le.cond ?_ ?_ | refine Le.bind ?_ fun _ => ?_))
theorem probe_Find.K_le (mm_ : Nat) : ∀ nn_, probe_Find.Ok (probe_Find.K mm_ nn_)
| 0 => ⟨fun _ _ => Le.none _, fun _ _ => Le.none _⟩
| nn_ + 1 => probe_Find.step_le mm_ (probe_Find.K mm_ nn_) (probe_Find.K_le mm_ nn_)
def probe_Find.G (mm_ : Nat) (x : List t3.den) (key : Int) : Option (Int × Int × Unit) :=
 ((probe_Check.G mm_) x).bind fun r0 =>
 bif (r0.1 != 0) then
 some (0, r0.1, ())
 else
 (probe_Find.K mm_ mm_).1 x key
theorem probe_Find.G_le (mm_ : Nat) (x : List t3.den) (key : Int) : Le (probe_Find.G mm_ x key) (probe_Find.F x key) := by
 rw [probe_Find.F_eq]; unfold probe_Find.G; (repeat' (with_reducible first | exact (probe_Find.K_le mm_ mm_).1 _ _ | exact (probe_Find.K_le mm_ mm_).2 _ _ | exact probe_look.G_le mm_ _ _ | exact probe_Check.G_le mm_ _ | exact Le.refl _ | refine Le.cond ?_ ?_ | refine Le.bind ?_ fun _ => ?_))
/-! ### arena_Check -/
@[reducible] def arena_Check.KT : Type := (Int → (List Int) → (List Bool) → Int → (Option (Int × Unit))) × (Int → Int → (List Int) → (List Bool) → Int → (List Bool) → (Option (Int × Unit))) × (Int → Int → (List Int) → (List Bool) → Int → (List Bool) → (Option (Int × Unit))) × ((List Bool) → Int → Int → (List Int) → Int → (List Bool) → (Option (Int × Unit))) × ((List Bool) → Int → Int → (List Int) → Int → (List Bool) → (Option (Int × Unit))) × ((List Bool) → Int → Int → (List Int) → Int → (List Bool) → (Option (Int × Unit))) × (Int → Int → (List Int) → (List Bool) → Int → (List Bool) → (Option (Int × Unit)))
@[reducible] def arena_Check.Ok (KK_ : arena_Check.KT) : Prop := (∀ n b0 b02 b03, Le (KK_.1 n b0 b02 b03) (arena_Check.L1 n b0 b02 b03)) ∧ (∀ n i b0 b02 b03 l1, Le (KK_.2.1 n i b0 b02 b03 l1) (arena_Check.L2 n i b0 b02 b03 l1)) ∧ (∀ n i b0 b02 b03 l1, Le (KK_.2.2.1 n i b0 b02 b03 l1) (arena_Check.L3 n i b0 b02 b03 l1)) ∧ (∀ t53_ t54_ t55_ b0 b02 l1, Le (KK_.2.2.2.1 t53_ t54_ t55_ b0 b02 l1) (arena_Check.L4 t53_ t54_ t55_ b0 b02 l1)) ∧ (∀ t53_ t54_ t55_ b0 b02 l1, Le (KK_.2.2.2.2.1 t53_ t54_ t55_ b0 b02 l1) (arena_Check.L5 t53_ t54_ t55_ b0 b02 l1)) ∧ (∀ t53_ t54_ t55_ b0 b02 l1, Le (KK_.2.2.2.2.2.1 t53_ t54_ t55_ b0 b02 l1) (arena_Check.L6 t53_ t54_ t55_ b0 b02 l1)) ∧ (∀ n i b0 b02 b03 l1, Le (KK_.2.2.2.2.2.2 n i b0 b02 b03 l1) (arena_Check.L7 n i b0 b02 b03 l1))
def arena_Check.step (mm_ : Nat) (KK_ : arena_Check.KT) : arena_Check.KT := ((fun n b0 b02 b03 =>
 bif (lim (List.length b02) .bool) then
 KK_.2.1 n b03 b0 b02 b03 b02
 else none),
(fun n i b0 b02 b03 l1 =>
 bif (i != (-1)) then
 KK_.2.2.1 n i b0 b02 b03 l1
 else
 KK_.2.2.2.1 b02 ((List.length b02 : Int)) 0 b0 b03 l1),
(fun n i b0 b02 b03 l1 =>
 bif (decide ((i : Int) < 0)) then
 some (8, ())
 else
 bif (decide ((i : Int) ≥ n)) then
 some (8, ())
 else
 bif (decide ((0 : Int) ≤ i ∧ (i : Int) < ((List.length l1 : Int)))) then
  bif (List.getD l1 (Int.toNat i) false) then
  some (8, ())
  else
  KK_.2.2.2.2.2.2 n i b0 b02 b03 l1
 else none),
(fun t53_ t54_ t55_ b0 b02 l1 =>
 bif (decide ((t55_ : Int) < t54_)) then
 KK_.2.2.2.2.1 t53_ t54_ t55_ b0 b02 l1
 else
 some (0, ())),
(fun t53_ t54_ t55_ b0 b02 l1 =>
 bif (decide ((0 : Int) ≤ t55_ ∧ (t55_ : Int) < ((List.length t53_ : Int)))) then
 bif (decide ((0 : Int) ≤ t55_ ∧ (t55_ : Int) < ((List.length l1 : Int)))) then
 bif (!(List.getD l1 (Int.toNat t55_) false)) then
  some (8, ())
 else
  bif (List.getD t53_ (Int.toNat t55_) false) then
  bif (decide ((0 : Int) ≤ t55_ ∧ (t55_ : Int) < ((List.length b0 : Int)))) then
   bif ((List.getD b0 (Int.toNat t55_) 0) != (-1)) then
   some (8, ())
   else
   KK_.2.2.2.2.2.1 t53_ t54_ t55_ b0 b02 l1
  else none
  else
  KK_.2.2.2.2.2.1 t53_ t54_ t55_ b0 b02 l1
 else none
 else none),
(fun t53_ t54_ t55_ b0 b02 l1 =>
 KK_.2.2.2.1 t53_ t54_ (IntKind.wrap .i64 (t55_ + 1)) b0 b02 l1),
(fun n i b0 b02 b03 l1 =>
 bif (decide ((0 : Int) ≤ i ∧ (i : Int) < ((List.length l1 : Int)))) then
 bif (decide ((0 : Int) ≤ i ∧ (i : Int) < ((List.length b0 : Int)))) then
 KK_.2.1 n (List.getD b0 (Int.toNat i) 0) b0 b02 b03 (List.set l1 (Int.toNat i) true)
 else none
 else none))
def arena_Check.K (mm_ : Nat) : Nat → arena_Check.KT
| 0 => ((fun _ _ _ _ => none), (fun _ _ _ _ _ _ => none), (fun _ _ _ _ _ _ => none), (fun _ _ _ _ _ _ => none), (fun _ _ _ _ _ _ => none), (fun _ _ _ _ _ _ => none), (fun _ _ _ _ _ _ => none))
| nn_ + 1 => arena_Check.step mm_ (arena_Check.K mm_ nn_)
theorem arena_Check.step_le (mm_ : Nat) (KK_ : arena_Check.KT) (hh_ : arena_Check.Ok KK_) : arena_Check.Ok (arena_Check.step mm_ KK_) := by
 refine ⟨fun _ _ _ _ => ?_, fun _ _ _ _ _ _ => ?_, fun _ _ _ _ _ _ => ?_, fun _ _ _ _ _ _ => ?_, fun _ _ _ _ _ _ => ?_, fun _ _ _ _ _ _ => ?_, fun _ _ _ _ _ _ => ?_⟩
 rw [arena_Check.L1_eq]; rotate_left
 rw [arena_Check.L2_eq]; rotate_left
 rw [arena_Check.L3_eq]; rotate_left
 rw [arena_Check.L4_eq]; rotate_left
 rw [arena_Check.L5_eq]; rotate_left
 rw [arena_Check.L6_eq]; rotate_left
 rw [arena_Check.L7_eq]; rotate_left
 all_goals dsimp only [arena_Check.step]
 all_goals (repeat' (with_reducible first | exact hh_.1 _ _ _ _ | exact hh_.2.1 _ _ _ _ _ _ | exact hh_.2.2.1 _ _ _ _ _ _ | exact hh_.2.2.2.1 _ _ _ _ _ _ | exact hh_.2.2.2.2.1 _ _ _ _ _ _ | exact hh_.2.2.2.2.2.1 _ _ _ _ _ _ | exact hh_.2.2.2.2.2.2 _ _ _ _ _ _  | exact Le.refl _ | refine Le.cond ?_ ?_ | refine Le.bind ?_ fun _ => ?_))
theorem arena_Check.K_le (mm_ : Nat) : ∀ nn_, arena_Check.Ok (arena_Check.K mm_ nn_)
| 0 => ⟨fun _ _ _ _ => Le.none _, fun _ _ _ _ _ _ => Le.none _, fun _ _ _ _ _ _ => Le.none _, fun _ _ _ _ _ _ => Le.none _, fun _ _ _ _ _ _ => Le.none _, fun _ _ _ _ _ _ => Le.none _, fun _ _ _ _ _ _ => Le.none _⟩
| nn_ + 1 => arena_Check.step_le mm_ (arena_Check.K mm_ nn_) (arena_Check.K_le mm_ nn_)
def arena_Check.G (mm_ : Nat) (a : t2.den) : Option (Int × Unit) :=
 bif (decide ((((List.length a.1 : Int)) : Int) < 1)) then
 some (8, ())
 else
 bif (decide ((((List.length a.1 : Int)) : Int) > 16)) then
 some (8, ())
 else
 bif (((List.length a.2.1 : Int)) != ((List.length a.1 : Int))) then
  some (8, ())
 else
  (arena_Check.K mm_ mm_).1 ((List.length a.1 : Int)) a.1 a.2.1 a.2.2.1
theorem arena_Check.G_le (mm_ : Nat) (a : t2.den) : Le (arena_Check.G mm_ a) (arena_Check.F a) := by
 rw [arena_Check.F_eq]; unfold arena_Check.G; (repeat' (with_reducible first | exact (arena_Check.K_le mm_ mm_).1 _ _ _ _ | exact (arena_Check.K_le mm_ mm_).2.1 _ _ _ _ _ _ | exact (arena_Check.K_le mm_ mm_).2.2.1 _ _ _ _ _ _ | exact (arena_Check.K_le mm_ mm_).2.2.2.1 _ _ _ _ _ _ | exact (arena_Check.K_le mm_ mm_).2.2.2.2.1 _ _ _ _ _ _ | exact (arena_Check.K_le mm_ mm_).2.2.2.2.2.1 _ _ _ _ _ _ | exact (arena_Check.K_le mm_ mm_).2.2.2.2.2.2 _ _ _ _ _ _  | exact Le.refl _ | refine Le.cond ?_ ?_ | refine Le.bind ?_ fun _ => ?_))
/-! ### table_Check -/
@[reducible] def table_Check.KT : Type := (Int → (List Int) → (List t1.den) → (List Int) → (List Bool) → Int → (List t3.den) → (List Int) → (List Int) → Int → Int → (Option (Int × Unit))) × (Int → (List Int) → (List t1.den) → (List Int) → (List Bool) → Int → (List t3.den) → (List Int) → (List Int) → Int → Int → (List Int) → (Option (Int × Unit))) × (Int → (List Bool) → Int → Int → Int → (List Int) → (List t1.den) → (List Int) → Int → (List t3.den) → (List Int) → (List Int) → Int → Int → (List Int) → (Option (Int × Unit))) × (Int → (List Bool) → Int → Int → Int → (List Int) → (List t1.den) → (List Int) → Int → (List t3.den) → (List Int) → (List Int) → Int → Int → (List Int) → (Option (Int × Unit))) × (Int → (List t3.den) → Int → Int → (Option (Int × Unit))) × (Int → (List t3.den) → Int → Int → (Option (Int × Unit))) × ((Option (Int × Unit))) × (Int → (List t3.den) → Int → Int → (Option (Int × Unit))) × (Int → Int → Bool → (List Bool) → Int → Int → (List Int) → (List t1.den) → (List Int) → Int → (List t3.den) → (List Int) → (List Int) → Int → Int → (List Int) → (Option (Int × Unit))) × (Int → Int → (List Bool) → Int → Int → (List Int) → (List t1.den) → (List Int) → Int → (List t3.den) → (List Int) → (List Int) → Int → Int → (List Int) → (Option (Int × Unit))) × (Int → (List Bool) → Int → Int → Int → (List Int) → (List t1.den) → (List Int) → Int → (List t3.den) → (List Int) → (List Int) → Int → Int → (List Int) → (Option (Int × Unit)))
@[reducible] def table_Check.Ok (KK_ : table_Check.KT) : Prop := (∀ b0 b02 b03 b04 b05 b06 b07 b08 b09 b010 b011, Le (KK_.1 b0 b02 b03 b04 b05 b06 b07 b08 b09 b010 b011) (table_Check.L1 b0 b02 b03 b04 b05 b06 b07 b08 b09 b010 b011)) ∧ (∀ b0 b02 b03 b04 b05 b06 b07 b08 b09 b010 b011 l1, Le (KK_.2.1 b0 b02 b03 b04 b05 b06 b07 b08 b09 b010 b011 l1) (table_Check.L2 b0 b02 b03 b04 b05 b06 b07 b08 b09 b010 b011 l1)) ∧ (∀ used t68_ t69_ t70_ b0 b02 b03 b04 b05 b06 b07 b08 b09 b010 l1, Le (KK_.2.2.1 used t68_ t69_ t70_ b0 b02 b03 b04 b05 b06 b07 b08 b09 b010 l1) (table_Check.L3 used t68_ t69_ t70_ b0 b02 b03 b04 b05 b06 b07 b08 b09 b010 l1)) ∧ (∀ used t68_ t69_ t70_ b0 b02 b03 b04 b05 b06 b07 b08 b09 b010 l1, Le (KK_.2.2.2.1 used t68_ t69_ t70_ b0 b02 b03 b04 b05 b06 b07 b08 b09 b010 l1) (table_Check.L4 used t68_ t69_ t70_ b0 b02 b03 b04 b05 b06 b07 b08 b09 b010 l1)) ∧ (∀ used t134_ t135_ t136_, Le (KK_.2.2.2.2.1 used t134_ t135_ t136_) (table_Check.L5 used t134_ t135_ t136_)) ∧ (∀ used t134_ t135_ t136_, Le (KK_.2.2.2.2.2.1 used t134_ t135_ t136_) (table_Check.L6 used t134_ t135_ t136_)) ∧ (Le (KK_.2.2.2.2.2.2.1 ) (table_Check.L7 )) ∧ (∀ used t134_ t135_ t136_, Le (KK_.2.2.2.2.2.2.2.1 used t134_ t135_ t136_) (table_Check.L8 used t134_ t135_ t136_)) ∧ (∀ used i is_ t68_ t69_ b0 b02 b03 b04 b05 b06 b07 b08 b09 b010 l1, Le (KK_.2.2.2.2.2.2.2.2.1 used i is_ t68_ t69_ b0 b02 b03 b04 b05 b06 b07 b08 b09 b010 l1) (table_Check.L9 used i is_ t68_ t69_ b0 b02 b03 b04 b05 b06 b07 b08 b09 b010 l1)) ∧ (∀ used i t68_ t69_ b0 b02 b03 b04 b05 b06 b07 b08 b09 b010 l1, Le (KK_.2.2.2.2.2.2.2.2.2.1 used i t68_ t69_ b0 b02 b03 b04 b05 b06 b07 b08 b09 b010 l1) (table_Check.L10 used i t68_ t69_ b0 b02 b03 b04 b05 b06 b07 b08 b09 b010 l1)) ∧ (∀ used t68_ t69_ t70_ b0 b02 b03 b04 b05 b06 b07 b08 b09 b010 l1, Le (KK_.2.2.2.2.2.2.2.2.2.2 used t68_ t69_ t70_ b0 b02 b03 b04 b05 b06 b07 b08 b09 b010 l1) (table_Check.L11 used t68_ t69_ t70_ b0 b02 b03 b04 b05 b06 b07 b08 b09 b010 l1))
def table_Check.step (mm_ : Nat) (KK_ : table_Check.KT) : table_Check.KT := ((fun b0 b02 b03 b04 b05 b06 b07 b08 b09 b010 b011 =>
 ((lru_List.G mm_) (b08, b09, b010, b011, ())).bind fun r0 =>
 bif (r0.2.1 != 0) then
 some (8, ())
 else
 KK_.2.1 b0 b02 b03 b04 b05 b06 b07 b08 b09 b010 b011 r0.1),
(fun b0 b02 b03 b04 b05 b06 b07 b08 b09 b010 b011 l1 =>
 KK_.2.2.1 0 b05 ((List.length b05 : Int)) 0 b0 b02 b03 b04 b06 b07 b08 b09 b010 b011 l1),
(fun used t68_ t69_ t70_ b0 b02 b03 b04 b05 b06 b07 b08 b09 b010 l1 =>
 bif (decide ((t70_ : Int) < t69_)) then
 KK_.2.2.2.1 used t68_ t69_ t70_ b0 b02 b03 b04 b05 b06 b07 b08 b09 b010 l1
 else
 KK_.2.2.2.2.1 used b06 ((List.length b06 : Int)) 0),
(fun used t68_ t69_ t70_ b0 b02 b03 b04 b05 b06 b07 b08 b09 b010 l1 =>
 bif (decide ((0 : Int) ≤ t70_ ∧ (t70_ : Int) < ((List.length t68_ : Int)))) then
 ((slices_Contains.G mm_) l1 t70_).bind fun r0 =>
 bif (!((List.getD t68_ (Int.toNat t70_) false) == r0.1)) then
 some (8, ())
 else
 bif (!(List.getD t68_ (Int.toNat t70_) false)) then
  bif (decide ((0 : Int) ≤ t70_ ∧ (t70_ : Int) < ((List.length b02 : Int)))) then
  bif ((List.getD b02 (Int.toNat t70_) 0) != 0) then
   some (8, ())
  else
   bif (decide ((0 : Int) ≤ t70_ ∧ (t70_ : Int) < ((List.length b03 : Int)))) then
   bif (!(Ty.beq t1 (List.getD b03 (Int.toNat t70_) ((0, 0, 0, ()), 0, 0, 0, ())) ((0, 0, 0, ()), 0, 0, 0, ()))) then
    some (8, ())
   else
    KK_.2.2.2.2.2.2.2.2.1 used t70_ (List.getD t68_ (Int.toNat t70_) false) t68_ t69_ b0 b02 b03 b04 b05 b06 b07 b08 b09 b010 l1
   else none
  else none
 else
  KK_.2.2.2.2.2.2.2.2.1 used t70_ (List.getD t68_ (Int.toNat t70_) false) t68_ t69_ b0 b02 b03 b04 b05 b06 b07 b08 b09 b010 l1
 else none),
(fun used t134_ t135_ t136_ =>
 bif (decide ((t136_ : Int) < t135_)) then
 KK_.2.2.2.2.2.1 used t134_ t135_ t136_
 else
 bif (used != 0) then
 some (8, ())
 else
 KK_.2.2.2.2.2.2.1),
(fun used t134_ t135_ t136_ =>
 bif (decide ((0 : Int) ≤ t136_ ∧ (t136_ : Int) < ((List.length t134_ : Int)))) then
 bif (((List.getD t134_ (Int.toNat t136_) (0, 0, false, ())).2).2).1 then
 KK_.2.2.2.2.2.2.2.1 (IntKind.wrap .i64 (used - 1)) t134_ t135_ t136_
 else
 KK_.2.2.2.2.2.2.2.1 used t134_ t135_ t136_
 else none),
(
 some (0, ())),
(fun used t134_ t135_ t136_ =>
 KK_.2.2.2.2.1 used t134_ t135_ (IntKind.wrap .i64 (t136_ + 1))),
(fun used i is_ t68_ t69_ b0 b02 b03 b04 b05 b06 b07 b08 b09 b010 l1 =>
 bif (!is_) then
 KK_.2.2.1 used t68_ t69_ (IntKind.wrap .i64 (i + 1)) b0 b02 b03 b04 b05 b06 b07 b08 b09 b010 l1
 else
 KK_.2.2.2.2.2.2.2.2.2.1 used i t68_ t69_ b0 b02 b03 b04 b05 b06 b07 b08 b09 b010 l1),
(fun used i t68_ t69_ b0 b02 b03 b04 b05 b06 b07 b08 b09 b010 l1 =>
 bif (decide ((0 : Int) ≤ i ∧ (i : Int) < ((List.length b02 : Int)))) then
 ((probe_Find.G mm_) b06 (List.getD b02 (Int.toNat i) 0)).bind fun r0 =>
 bif (r0.2.1 != 0) then
 some (8, ())
 else
 bif (r0.1 != i) then
  some (8, ())
 else
  bif (decide ((0 : Int) ≤ i ∧ (i : Int) < ((List.length b03 : Int)))) then
  ((bucket_Check.G mm_) (List.getD b03 (Int.toNat i) ((0, 0, 0, ()), 0, 0, 0, ()))).bind fun r1 =>
  bif (r1.1 != 0) then
   some (8, ())
  else
   KK_.2.2.2.2.2.2.2.2.2.2 (IntKind.wrap .i64 (used + 1)) t68_ t69_ i b0 b02 b03 b04 b05 b06 b07 b08 b09 b010 l1
  else none
 else none),
(fun used t68_ t69_ t70_ b0 b02 b03 b04 b05 b06 b07 b08 b09 b010 l1 =>
 KK_.2.2.1 used t68_ t69_ (IntKind.wrap .i64 (t70_ + 1)) b0 b02 b03 b04 b05 b06 b07 b08 b09 b010 l1))
def table_Check.K (mm_ : Nat) : Nat → table_Check.KT
| 0 => ((fun _ _ _ _ _ _ _ _ _ _ _ => none), (fun _ _ _ _ _ _ _ _ _ _ _ _ => none), (fun _ _ _ _ _ _ _ _ _ _ _ _ _ _ _ => none), (fun _ _ _ _ _ _ _ _ _ _ _ _ _ _ _ => none), (fun _ _ _ _ => none), (fun _ _ _ _ => none), ( none), (fun _ _ _ _ => none), (fun _ _ _ _ _ _ _ _ _ _ _ _ _ _ _ _ => none), (fun _ _ _ _ _ _ _ _ _ _ _ _ _ _ _ => none), (fun _ _ _ _ _ _ _ _ _ _ _ _ _ _ _ => none))
| nn_ + 1 => table_Check.step mm_ (table_Check.K mm_ nn_)
theorem table_Check.step_le (mm_ : Nat) (KK_ : table_Check.KT) (hh_ : table_Check.Ok KK_) : table_Check.Ok (table_Check.step mm_ KK_) := by
 refine ⟨fun _ _ _ _ _ _ _ _ _ _ _ => ?_, fun _ _ _ _ _ _ _ _ _ _ _ _ => ?_, fun _ _ _ _ _ _ _ _ _ _ _ _ _ _ _ => ?_, fun _ _ _ _ _ _ _ _ _ _ _ _ _ _ _ => ?_, fun _ _ _ _ => ?_, fun _ _ _ _ => ?_, ?_, fun _ _ _ _ => ?_, fun _ _ _ _ _ _ _ _ _ _ _ _ _ _ _ _ => ?_, fun _ _ _ _ _ _ _ _ _ _ _ _ _ _ _ => ?_, fun _ _ _ _ _ _ _ _ _ _ _ _ _ _ _ => ?_⟩
 rw [table_Check.L1_eq]; rotate_left
 rw [table_Check.L2_eq]; rotate_left
 rw [table_Check.L3_eq]; rotate_left
 rw [table_Check.L4_eq]; rotate_left
 rw [table_Check.L5_eq]; rotate_left
 rw [table_Check.L6_eq]; rotate_left
 rw [table_Check.L7_eq]; rotate_left
 rw [table_Check.L8_eq]; rotate_left
 rw [table_Check.L9_eq]; rotate_left
 rw [table_Check.L10_eq]; rotate_left
 rw [table_Check.L11_eq]; rotate_left
 all_goals dsimp only [table_Check.step]
 all_goals (repeat' (with_reducible first | exact hh_.1 _ _ _ _ _ _ _ _ _ _ _ | exact hh_.2.1 _ _ _ _ _ _ _ _ _ _ _ _ | exact hh_.2.2.1 _ _ _ _ _ _ _ _ _ _ _ _ _ _ _ | exact hh_.2.2.2.1 _ _ _ _ _ _ _ _ _ _ _ _ _ _ _ | exact hh_.2.2.2.2.1 _ _ _ _ | exact hh_.2.2.2.2.2.1 _ _ _ _ | exact hh_.2.2.2.2.2.2.1 | exact hh_.2.2.2.2.2.2.2.1 _ _ _ _ | exact hh_.2.2.2.2.2.2.2.2.1 _ _ _ _ _ _ _ _ _ _ _ _ _ _ _ _ | exact hh_.2.2.2.2.2.2.2.2.2.1 _ _ _ _ _ _ _ _ _ _ _ _ _ _ _ | exact hh_.2.2.2.2.2.2.2.2.2.2 _ _ _ _ _ _ _ _ _ _ _ _ _ _ _ | exact lru_List.G_le mm_ _ | exact slices_Contains.G_le mm_ _ _ | exact probe_Find.G_le mm_ _ _ | exact bucket_Check.G_le mm_ _ | exact arena_Check.G_le mm_ _ | exact probe_Check.G_le mm_ _ | exact Le.refl _ | refine Le.cond ?_ ?_ | refine Le.bind ?_ fun _ => ?_))
theorem table_Check.K_le (mm_ : Nat) : ∀ nn_, table_Check.Ok (table_Check.K mm_ nn_)
| 0 => ⟨fun _ _ _ _ _ _ _ _ _ _ _ => Le.none _, fun _ _ _ _ _ _ _ _ _ _ _ _ => Le.none _, fun _ _ _ _ _ _ _ _ _ _ _ _ _ _ _ => Le.none _, fun _ _ _ _ _ _ _ _ _ _ _ _ _ _ _ => Le.none _, fun _ _ _ _ => Le.none _, fun _ _ _ _ => Le.none _,  Le.none _, fun _ _ _ _ => Le.none _, fun _ _ _ _ _ _ _ _ _ _ _ _ _ _ _ _ => Le.none _, fun _ _ _ _ _ _ _ _ _ _ _ _ _ _ _ => Le.none _, fun _ _ _ _ _ _ _ _ _ _ _ _ _ _ _ => Le.none _⟩
| nn_ + 1 => table_Check.step_le mm_ (table_Check.K mm_ nn_) (table_Check.K_le mm_ nn_)
def table_Check.G (mm_ : Nat) (t : t5.den) : Option (Int × Unit) :=
 bif (decide ((t.1 : Int) < 1)) then
 some (8, ())
 else
 bif (decide ((t.1 : Int) > 8)) then
 some (8, ())
 else
 bif (!(Ty.beq (.arr 4 (.int .i64)) ([((List.length t.2.1 : Int)), ((List.length t.2.2.1 : Int)), ((List.length t.2.2.2.1.1 : Int)), ((List.length t.2.2.2.2.2.1.1 : Int))] : List Int) ([t.1, t.1, t.1, t.1] : List Int))) then
  some (8, ())
 else
  ((arena_Check.G mm_) t.2.2.2.1).bind fun r0 =>
  bif (r0.1 != 0) then
  some (8, ())
  else
  ((probe_Check.G mm_) t.2.2.2.2.1).bind fun r1 =>
  bif (r1.1 != 0) then
   some (8, ())
  else
   (table_Check.K mm_ mm_).1 t.1 t.2.1 t.2.2.1 t.2.2.2.1.1 t.2.2.2.1.2.1 t.2.2.2.1.2.2.1 t.2.2.2.2.1 t.2.2.2.2.2.1.1 t.2.2.2.2.2.1.2.1 t.2.2.2.2.2.1.2.2.1 t.2.2.2.2.2.1.2.2.2.1
theorem table_Check.G_le (mm_ : Nat) (t : t5.den) : Le (table_Check.G mm_ t) (table_Check.F t) := by
 rw [table_Check.F_eq]; unfold table_Check.G; (repeat' (with_reducible first | exact (table_Check.K_le mm_ mm_).1 _ _ _ _ _ _ _ _ _ _ _ | exact (table_Check.K_le mm_ mm_).2.1 _ _ _ _ _ _ _ _ _ _ _ _ | exact (table_Check.K_le mm_ mm_).2.2.1 _ _ _ _ _ _ _ _ _ _ _ _ _ _ _ | exact (table_Check.K_le mm_ mm_).2.2.2.1 _ _ _ _ _ _ _ _ _ _ _ _ _ _ _ | exact (table_Check.K_le mm_ mm_).2.2.2.2.1 _ _ _ _ | exact (table_Check.K_le mm_ mm_).2.2.2.2.2.1 _ _ _ _ | exact (table_Check.K_le mm_ mm_).2.2.2.2.2.2.1 | exact (table_Check.K_le mm_ mm_).2.2.2.2.2.2.2.1 _ _ _ _ | exact (table_Check.K_le mm_ mm_).2.2.2.2.2.2.2.2.1 _ _ _ _ _ _ _ _ _ _ _ _ _ _ _ _ | exact (table_Check.K_le mm_ mm_).2.2.2.2.2.2.2.2.2.1 _ _ _ _ _ _ _ _ _ _ _ _ _ _ _ | exact (table_Check.K_le mm_ mm_).2.2.2.2.2.2.2.2.2.2 _ _ _ _ _ _ _ _ _ _ _ _ _ _ _ | exact lru_List.G_le mm_ _ | exact slices_Contains.G_le mm_ _ _ | exact probe_Find.G_le mm_ _ _ | exact bucket_Check.G_le mm_ _ | exact arena_Check.G_le mm_ _ | exact probe_Check.G_le mm_ _ | exact Le.refl _ | refine Le.cond ?_ ?_ | refine Le.bind ?_ fun _ => ?_))
/-! ### arena_New -/
@[reducible] def arena_New.KT : Type := (Int → (List Int) → (List Bool) → (Option (t2.den × Int × Unit))) × (Int → Int → (List Int) → (List Bool) → (List Int) → (List Bool) → (Option (t2.den × Int × Unit))) × (Int → Int → (List Int) → (List Bool) → (List Int) → (List Bool) → (Option (t2.den × Int × Unit)))
@[reducible] def arena_New.Ok (KK_ : arena_New.KT) : Prop := (∀ n l1 l2, Le (KK_.1 n l1 l2) (arena_New.L1 n l1 l2)) ∧ (∀ n t17_ l2 l3 l4 l5, Le (KK_.2.1 n t17_ l2 l3 l4 l5) (arena_New.L2 n t17_ l2 l3 l4 l5)) ∧ (∀ n t17_ l2 l3 l4 l5, Le (KK_.2.2 n t17_ l2 l3 l4 l5) (arena_New.L3 n t17_ l2 l3 l4 l5))
def arena_New.step (mm_ : Nat) (KK_ : arena_New.KT) : arena_New.KT := ((fun n l1 l2 =>
 bif (decide ((0 : Int) ≤ n ∧ (n : Int) ≤ n) && (lim (Int.toNat n) .bool)) then
 KK_.2.1 n 0 l1 l2 ([] : List Int) (List.replicate (Int.toNat n) false)
 else none),
(fun n t17_ l2 l3 l4 l5 =>
 bif (decide ((t17_ : Int) < n)) then
 KK_.2.2 n t17_ l2 l3 l4 l5
 else
 bif (decide ((0 : Int) ≤ (IntKind.wrap .i64 (n - 1)) ∧ ((IntKind.wrap .i64 (n - 1)) : Int) < ((List.length l4 : Int)))) then
 some (((List.set l4 (Int.toNat (IntKind.wrap .i64 (n - 1))) (-1)), l5, 0, ()), 0, ())
 else none),
(fun n t17_ l2 l3 l4 l5 =>
 bif (lim ((List.length l4) + (List.length ([(IntKind.wrap .i64 (t17_ + 1))] : List Int))) (.int .i64)) then
 KK_.2.1 n (IntKind.wrap .i64 (t17_ + 1)) l2 l3 (l4 ++ ([(IntKind.wrap .i64 (t17_ + 1))] : List Int)) l5
 else none))
def arena_New.K (mm_ : Nat) : Nat → arena_New.KT
| 0 => ((fun _ _ _ => none), (fun _ _ _ _ _ _ => none), (fun _ _ _ _ _ _ => none))
| nn_ + 1 => arena_New.step mm_ (arena_New.K mm_ nn_)
theorem arena_New.step_le (mm_ : Nat) (KK_ : arena_New.KT) (hh_ : arena_New.Ok KK_) : arena_New.Ok (arena_New.step mm_ KK_) := by
 refine ⟨fun _ _ _ => ?_, fun _ _ _ _ _ _ => ?_, fun _ _ _ _ _ _ => ?_⟩
 rw [arena_New.L1_eq]; rotate_left
 rw [arena_New.L2_eq]; rotate_left
 rw [arena_New.L3_eq]; rotate_left
 all_goals dsimp only [arena_New.step]
 all_goals (repeat' (with_reducible first | exact hh_.1 _ _ _ | exact hh_.2.1 _ _ _ _ _ _ | exact hh_.2.2 _ _ _ _ _ _  | exact Le.refl _ | refine Le.cond ?_ ?_ | refine Le.bind ?_ fun _ => ?_))
theorem arena_New.K_le (mm_ : Nat) : ∀ nn_, arena_New.Ok (arena_New.K mm_ nn_)
| 0 => ⟨fun _ _ _ => Le.none _, fun _ _ _ _ _ _ => Le.none _, fun _ _ _ _ _ _ => Le.none _⟩
| nn_ + 1 => arena_New.step_le mm_ (arena_New.K mm_ nn_) (arena_New.K_le mm_ nn_)
def arena_New.G (mm_ : Nat) (n : Int) : Option (t2.den × Int × Unit) :=
 bif (decide ((n : Int) < 1)) then
 some ((([] : List Int), ([] : List Bool), 0, ()), 2, ())
 else
 bif (decide ((n : Int) > 16)) then
 some ((([] : List Int), ([] : List Bool), 0, ()), 2, ())
 else
 (arena_New.K mm_ mm_).1 n ([] : List Int) ([] : List Bool)
theorem arena_New.G_le (mm_ : Nat) (n : Int) : Le (arena_New.G mm_ n) (arena_New.F n) := by
 rw [arena_New.F_eq]; unfold arena_New.G; (repeat' (with_reducible first | exact (arena_New.K_le mm_ mm_).1 _ _ _ | exact (arena_New.K_le mm_ mm_).2.1 _ _ _ _ _ _ | exact (arena_New.K_le mm_ mm_).2.2 _ _ _ _ _ _  | exact Le.refl _ | refine Le.cond ?_ ?_ | refine Le.bind ?_ fun _ => ?_))
/-! ### bits_Mul64 -/
def bits_Mul64.G (mm_ : Nat) (x y : Int) : Option (Int × Int × Unit) :=
 bif (decide ((0 : Int) ≤ 32)) then
 bif (decide ((0 : Int) ≤ 32)) then
 bif (decide ((0 : Int) ≤ 32)) then
  bif (decide ((0 : Int) ≤ 32)) then
  bif (decide ((0 : Int) ≤ 32)) then
   some ((IntKind.wrap .u64 ((IntKind.wrap .u64 ((IntKind.wrap .u64 ((Int.fdiv x (2 ^ min (Int.toNat 32) (IntKind.bits .u64))) * (Int.fdiv y (2 ^ min (Int.toNat 32) (IntKind.bits .u64))))) + (Int.fdiv (IntKind.wrap .u64 ((IntKind.wrap .u64 ((Int.fdiv x (2 ^ min (Int.toNat 32) (IntKind.bits .u64))) * (bits .and .u64 y 4294967295))) + (Int.fdiv (IntKind.wrap .u64 ((bits .and .u64 x 4294967295) * (bits .and .u64 y 4294967295))) (2 ^ min (Int.toNat 32) (IntKind.bits .u64))))) (2 ^ min (Int.toNat 32) (IntKind.bits .u64))))) + (Int.fdiv (IntKind.wrap .u64 ((bits .and .u64 (IntKind.wrap .u64 ((IntKind.wrap .u64 ((Int.fdiv x (2 ^ min (Int.toNat 32) (IntKind.bits .u64))) * (bits .and .u64 y 4294967295))) + (Int.fdiv (IntKind.wrap .u64 ((bits .and .u64 x 4294967295) * (bits .and .u64 y 4294967295))) (2 ^ min (Int.toNat 32) (IntKind.bits .u64))))) 4294967295) + (IntKind.wrap .u64 ((bits .and .u64 x 4294967295) * (Int.fdiv y (2 ^ min (Int.toNat 32) (IntKind.bits .u64))))))) (2 ^ min (Int.toNat 32) (IntKind.bits .u64))))), (IntKind.wrap .u64 (x * y)), ())
  else none
  else none
 else none
 else none
 else none
theorem bits_Mul64.G_le (mm_ : Nat) (x y : Int) : Le (bits_Mul64.G mm_ x y) (bits_Mul64.F x y) := by
 rw [bits_Mul64.F_eq]; unfold bits_Mul64.G; (repeat' (with_reducible first   | exact Le.refl _ | refine Le.cond ?_ ?_ | refine Le.bind ?_ fun _ => ?_))
/-! ### bits_Mul -/
@[reducible] def bits_Mul.KT : Type := (Int → Int → (Option (Int × Int × Unit)))
@[reducible] def bits_Mul.Ok (KK_ : bits_Mul.KT) : Prop := (∀ x y, Le (KK_ x y) (bits_Mul.L1 x y))
def bits_Mul.step (mm_ : Nat) (KK_ : bits_Mul.KT) : bits_Mul.KT := ((fun x y =>
 ((bits_Mul64.G mm_) x y).bind fun r0 =>
 some (r0.1, r0.2.1, ())))
def bits_Mul.K (mm_ : Nat) : Nat → bits_Mul.KT
| 0 => ((fun _ _ => none))
| nn_ + 1 => bits_Mul.step mm_ (bits_Mul.K mm_ nn_)
theorem bits_Mul.step_le (mm_ : Nat) (KK_ : bits_Mul.KT) (hh_ : bits_Mul.Ok KK_) : bits_Mul.Ok (bits_Mul.step mm_ KK_) := by
 refine fun _ _ => ?_
 rw [bits_Mul.L1_eq]
 all_goals dsimp only [bits_Mul.step]
 all_goals (repeat' (with_reducible first | exact hh_ _ _ | exact bits_Mul64.G_le mm_ _ _ | exact Le.refl _ | refine Le.cond ?_ ?_ | refine Le.bind ?_ fun _ => ?_))
theorem bits_Mul.K_le (mm_ : Nat) : ∀ nn_, bits_Mul.Ok (bits_Mul.K mm_ nn_)
| 0 => fun _ _ => Le.none _
| nn_ + 1 => bits_Mul.step_le mm_ (bits_Mul.K mm_ nn_) (bits_Mul.K_le mm_ nn_)
def bits_Mul.G (mm_ : Nat) (x y : Int) : Option (Int × Int × Unit) :=
 (bits_Mul.K mm_ mm_) x y
theorem bits_Mul.G_le (mm_ : Nat) (x y : Int) : Le (bits_Mul.G mm_ x y) (bits_Mul.F x y) := by
 rw [bits_Mul.F_eq]; unfold bits_Mul.G; (repeat' (with_reducible first | exact (bits_Mul.K_le mm_ mm_) _ _ | exact bits_Mul64.G_le mm_ _ _ | exact Le.refl _ | refine Le.cond ?_ ?_ | refine Le.bind ?_ fun _ => ?_))
/-! ### slices_Repeat -/
@[reducible] def slices_Repeat.KT : Type := ((List Int) → Int → (Option ((List Int) × Unit))) × ((List Int) → Int → (Option ((List Int) × Unit))) × (Int → (List Int) → (Option ((List Int) × Unit))) × (Int → (List Int) → (Option ((List Int) × Unit)))
@[reducible] def slices_Repeat.Ok (KK_ : slices_Repeat.KT) : Prop := (∀ x count, Le (KK_.1 x count) (slices_Repeat.L1 x count)) ∧ (∀ x lo, Le (KK_.2.1 x lo) (slices_Repeat.L2 x lo)) ∧ (∀ n l0, Le (KK_.2.2.1 n l0) (slices_Repeat.L3 n l0)) ∧ (∀ n l0, Le (KK_.2.2.2 n l0) (slices_Repeat.L4 n l0))
def slices_Repeat.step (mm_ : Nat) (KK_ : slices_Repeat.KT) : slices_Repeat.KT := ((fun x count =>
 ((bits_Mul.G mm_) (IntKind.wrap .u64 ((List.length x : Int))) (IntKind.wrap .u64 count)).bind fun r0 =>
 bif (decide ((r0.1 : Int) > 0)) then
 none
 else
 bif (decide ((r0.2.1 : Int) > 9223372036854775807)) then
 none
 else
 KK_.2.1 x r0.2.1),
(fun x lo =>
 bif (decide ((0 : Int) ≤ (IntKind.wrap .i64 lo) ∧ ((IntKind.wrap .i64 lo) : Int) ≤ (IntKind.wrap .i64 lo)) && (lim (Int.toNat (IntKind.wrap .i64 lo)) (.int .i64))) then
 KK_.2.2.1 (((min (List.length x) (List.length (List.replicate (Int.toNat (IntKind.wrap .i64 lo)) (0 : Int))) : Nat) : Int)) (splice (List.replicate (Int.toNat (IntKind.wrap .i64 lo)) (0 : Int)) 0 (List.take (List.length (List.replicate (Int.toNat (IntKind.wrap .i64 lo)) (0 : Int))) x))
 else none),
(fun n l0 =>
 bif (decide ((n : Int) < ((List.length l0 : Int)))) then
 KK_.2.2.2 n l0
 else
 some (l0, ())),
(fun n l0 =>
 bif (decide ((0 : Int) ≤ n ∧ (n : Int) ≤ ((List.length l0 : Int)) ∧ (((List.length l0 : Int)) : Int) ≤ ((List.length l0 : Int)))) then
 bif (decide ((0 : Int) ≤ 0 ∧ (0 : Int) ≤ n ∧ (n : Int) ≤ ((List.length l0 : Int)))) then
 KK_.2.2.1 (IntKind.wrap .i64 (n + (((min (List.length (List.take ((Int.toNat n) - (Int.toNat 0)) (List.drop (Int.toNat 0) l0))) ((Int.toNat ((List.length l0 : Int))) - (Int.toNat n)) : Nat) : Int)))) (splice l0 (Int.toNat n) (List.take ((Int.toNat ((List.length l0 : Int))) - (Int.toNat n)) (List.take ((Int.toNat n) - (Int.toNat 0)) (List.drop (Int.toNat 0) l0))))
 else none
 else none))
def slices_Repeat.K (mm_ : Nat) : Nat → slices_Repeat.KT
| 0 => ((fun _ _ => none), (fun _ _ => none), (fun _ _ => none), (fun _ _ => none))
| nn_ + 1 => slices_Repeat.step mm_ (slices_Repeat.K mm_ nn_)
theorem slices_Repeat.step_le (mm_ : Nat) (KK_ : slices_Repeat.KT) (hh_ : slices_Repeat.Ok KK_) : slices_Repeat.Ok (slices_Repeat.step mm_ KK_) := by
 refine ⟨fun _ _ => ?_, fun _ _ => ?_, fun _ _ => ?_, fun _ _ => ?_⟩
 rw [slices_Repeat.L1_eq]; rotate_left
 rw [slices_Repeat.L2_eq]; rotate_left
 rw [slices_Repeat.L3_eq]; rotate_left
 rw [slices_Repeat.L4_eq]; rotate_left
 all_goals dsimp only [slices_Repeat.step]
 all_goals (repeat' (with_reducible first | exact hh_.1 _ _ | exact hh_.2.1 _ _ | exact hh_.2.2.1 _ _ | exact hh_.2.2.2 _ _ | exact bits_Mul.G_le mm_ _ _ | exact Le.refl _ | refine Le.cond ?_ ?_ | refine Le.bind ?_ fun _ => ?_))
theorem slices_Repeat.K_le (mm_ : Nat) : ∀ nn_, slices_Repeat.Ok (slices_Repeat.K mm_ nn_)
| 0 => ⟨fun _ _ => Le.none _, fun _ _ => Le.none _, fun _ _ => Le.none _, fun _ _ => Le.none _⟩
| nn_ + 1 => slices_Repeat.step_le mm_ (slices_Repeat.K mm_ nn_) (slices_Repeat.K_le mm_ nn_)
def slices_Repeat.G (mm_ : Nat) (x : List Int) (count : Int) : Option ((List Int) × Unit) :=
 bif (decide ((count : Int) < 0)) then
 none
 else
 (slices_Repeat.K mm_ mm_).1 x count
theorem slices_Repeat.G_le (mm_ : Nat) (x : List Int) (count : Int) : Le (slices_Repeat.G mm_ x count) (slices_Repeat.F x count) := by
 rw [slices_Repeat.F_eq]; unfold slices_Repeat.G; (repeat' (with_reducible first | exact (slices_Repeat.K_le mm_ mm_).1 _ _ | exact (slices_Repeat.K_le mm_ mm_).2.1 _ _ | exact (slices_Repeat.K_le mm_ mm_).2.2.1 _ _ | exact (slices_Repeat.K_le mm_ mm_).2.2.2 _ _ | exact bits_Mul.G_le mm_ _ _ | exact Le.refl _ | refine Le.cond ?_ ?_ | refine Le.bind ?_ fun _ => ?_))
/-! ### lru_New -/
@[reducible] def lru_New.KT : Type := (Int → (List Int) → (Option (t4.den × Int × Unit)))
@[reducible] def lru_New.Ok (KK_ : lru_New.KT) : Prop := (∀ n l1, Le (KK_ n l1) (lru_New.L1 n l1))
def lru_New.step (mm_ : Nat) (KK_ : lru_New.KT) : lru_New.KT := ((fun n l1 =>
 ((slices_Repeat.G mm_) ([(-1)] : List Int) n).bind fun r0 =>
 bif (lim (List.length r0.1) (.int .i64)) then
 some ((r0.1, r0.1, (-1), (-1), ()), 0, ())
 else none))
def lru_New.K (mm_ : Nat) : Nat → lru_New.KT
| 0 => ((fun _ _ => none))
| nn_ + 1 => lru_New.step mm_ (lru_New.K mm_ nn_)
theorem lru_New.step_le (mm_ : Nat) (KK_ : lru_New.KT) (hh_ : lru_New.Ok KK_) : lru_New.Ok (lru_New.step mm_ KK_) := by
 refine fun _ _ => ?_
 rw [lru_New.L1_eq]
 all_goals dsimp only [lru_New.step]
 all_goals (repeat' (with_reducible first | exact hh_ _ _ | exact slices_Repeat.G_le mm_ _ _ | exact Le.refl _ | refine Le.cond ?_ ?_ | refine Le.bind ?_ fun _ => ?_))
theorem lru_New.K_le (mm_ : Nat) : ∀ nn_, lru_New.Ok (lru_New.K mm_ nn_)
| 0 => fun _ _ => Le.none _
| nn_ + 1 => lru_New.step_le mm_ (lru_New.K mm_ nn_) (lru_New.K_le mm_ nn_)
def lru_New.G (mm_ : Nat) (n : Int) : Option (t4.den × Int × Unit) :=
 bif (decide ((n : Int) < 1)) then
 some ((([] : List Int), ([] : List Int), 0, 0, ()), 2, ())
 else
 bif (decide ((n : Int) > 16)) then
 some ((([] : List Int), ([] : List Int), 0, 0, ()), 2, ())
 else
 (lru_New.K mm_ mm_) n ([] : List Int)
theorem lru_New.G_le (mm_ : Nat) (n : Int) : Le (lru_New.G mm_ n) (lru_New.F n) := by
 rw [lru_New.F_eq]; unfold lru_New.G; (repeat' (with_reducible first | exact (lru_New.K_le mm_ mm_) _ _ | exact slices_Repeat.G_le mm_ _ _ | exact Le.refl _ | refine Le.cond ?_ ?_ | refine Le.bind ?_ fun _ => ?_))
/-! ### probe_New -/
def probe_New.G (mm_ : Nat)  : Option ((List t3.den) × Unit) :=
 bif (decide ((0 : Int) ≤ 16 ∧ (16 : Int) ≤ 16) && (lim (Int.toNat 16) t3)) then
 some ((List.replicate (Int.toNat 16) (0, 0, false, ())), ())
 else none
theorem probe_New.G_le (mm_ : Nat)  : Le (probe_New.G mm_ ) (probe_New.F) := by
 rw [probe_New.F_eq]; unfold probe_New.G; (repeat' (with_reducible first   | exact Le.refl _ | refine Le.cond ?_ ?_ | refine Le.bind ?_ fun _ => ?_))
/-! ### table_New -/
@[reducible] def table_New.KT : Type := (Int → (List Int) → (List t1.den) → (List Int) → (List Bool) → (List t3.den) → (Option (t5.den × Int × Unit)))
@[reducible] def table_New.Ok (KK_ : table_New.KT) : Prop := (∀ capacity l1 l2 l3 l4 l5, Le (KK_ capacity l1 l2 l3 l4 l5) (table_New.L1 capacity l1 l2 l3 l4 l5))
def table_New.step (mm_ : Nat) (KK_ : table_New.KT) : table_New.KT := ((fun capacity l1 l2 l3 l4 l5 =>
 ((arena_New.G mm_) capacity).bind fun r0 =>
 ((lru_New.G mm_) capacity).bind fun r1 =>
 bif (decide ((0 : Int) ≤ capacity ∧ (capacity : Int) ≤ capacity) && (lim (Int.toNat capacity) (.int .u32))) then
 bif (decide ((0 : Int) ≤ capacity ∧ (capacity : Int) ≤ capacity) && (lim (Int.toNat capacity) t1)) then
 (probe_New.G mm_).bind fun r2 =>
 some ((capacity, (List.replicate (Int.toNat capacity) (0 : Int)), (List.replicate (Int.toNat capacity) ((0, 0, 0, ()), 0, 0, 0, ())), r0.1, r2.1, r1.1, ()), 0, ())
 else none
 else none))
def table_New.K (mm_ : Nat) : Nat → table_New.KT
| 0 => ((fun _ _ _ _ _ _ => none))
| nn_ + 1 => table_New.step mm_ (table_New.K mm_ nn_)
theorem table_New.step_le (mm_ : Nat) (KK_ : table_New.KT) (hh_ : table_New.Ok KK_) : table_New.Ok (table_New.step mm_ KK_) := by
 refine fun _ _ _ _ _ _ => ?_
 rw [table_New.L1_eq]
 all_goals dsimp only [table_New.step]
 all_goals (repeat' (with_reducible first | exact hh_ _ _ _ _ _ _ | exact arena_New.G_le mm_ _ | exact lru_New.G_le mm_ _ | exact probe_New.G_le mm_ | exact Le.refl _ | refine Le.cond ?_ ?_ | refine Le.bind ?_ fun _ => ?_))
theorem table_New.K_le (mm_ : Nat) : ∀ nn_, table_New.Ok (table_New.K mm_ nn_)
| 0 => fun _ _ _ _ _ _ => Le.none _
| nn_ + 1 => table_New.step_le mm_ (table_New.K mm_ nn_) (table_New.K_le mm_ nn_)
def table_New.G (mm_ : Nat) (capacity : Int) : Option (t5.den × Int × Unit) :=
 bif (decide ((capacity : Int) < 1)) then
 some ((0, ([] : List Int), ([] : List t1.den), (([] : List Int), ([] : List Bool), 0, ()), ([] : List t3.den), (([] : List Int), ([] : List Int), 0, 0, ()), ()), 2, ())
 else
 bif (decide ((capacity : Int) > 8)) then
 some ((0, ([] : List Int), ([] : List t1.den), (([] : List Int), ([] : List Bool), 0, ()), ([] : List t3.den), (([] : List Int), ([] : List Int), 0, 0, ()), ()), 2, ())
 else
 (table_New.K mm_ mm_) capacity ([] : List Int) ([] : List t1.den) ([] : List Int) ([] : List Bool) ([] : List t3.den)
theorem table_New.G_le (mm_ : Nat) (capacity : Int) : Le (table_New.G mm_ capacity) (table_New.F capacity) := by
 rw [table_New.F_eq]; unfold table_New.G; (repeat' (with_reducible first | exact (table_New.K_le mm_ mm_) _ _ _ _ _ _ | exact arena_New.G_le mm_ _ | exact lru_New.G_le mm_ _ | exact probe_New.G_le mm_ | exact Le.refl _ | refine Le.cond ?_ ?_ | refine Le.bind ?_ fun _ => ?_))
/-! ### part_Check -/
@[reducible] def part_Check.KT : Type := (t7.den → Int → (Option (Int × Unit))) × (t7.den → (List Int) → Int → Int → Int → (Option (Int × Unit))) × (t7.den → (List Int) → Int → Int → Int → (Option (Int × Unit))) × (t7.den → (List Int) → Int → Int → Int → (Option (Int × Unit))) × (t7.den → Int → (List t0.den) → (Option (Int × Unit)))
@[reducible] def part_Check.Ok (KK_ : part_Check.KT) : Prop := (∀ p b0, Le (KK_.1 p b0) (part_Check.L2 p b0)) ∧ (∀ p t84_ t85_ t86_ b0, Le (KK_.2.1 p t84_ t85_ t86_ b0) (part_Check.L3 p t84_ t85_ t86_ b0)) ∧ (∀ p t84_ t85_ t86_ b0, Le (KK_.2.2.1 p t84_ t85_ t86_ b0) (part_Check.L4 p t84_ t85_ t86_ b0)) ∧ (∀ p t84_ t85_ t86_ b0, Le (KK_.2.2.2.1 p t84_ t85_ t86_ b0) (part_Check.L5 p t84_ t85_ t86_ b0)) ∧ (∀ p n same, Le (KK_.2.2.2.2 p n same) (part_Check.T p n same))
def part_Check.step (mm_ : Nat) (KK_ : part_Check.KT) : part_Check.KT := ((fun p b0 =>
 KK_.2.1 p p.2.2.2.2.2.1 ((List.length p.2.2.2.2.2.1 : Int)) 0 b0),
(fun p t84_ t85_ t86_ b0 =>
 bif (decide ((t86_ : Int) < t85_)) then
 KK_.2.2.1 p t84_ t85_ t86_ b0
 else
 some (0, ())),
(fun p t84_ t85_ t86_ b0 =>
 bif (decide ((0 : Int) ≤ t86_ ∧ (t86_ : Int) < ((List.length t84_ : Int)))) then
 bif (decide ((t86_ : Int) > 0)) then
 bif (decide ((0 : Int) ≤ (IntKind.wrap .i64 (t86_ - 1)) ∧ ((IntKind.wrap .i64 (t86_ - 1)) : Int) < ((List.length p.2.2.2.2.2.1 : Int)))) then
  bif (decide (((List.getD p.2.2.2.2.2.1 (Int.toNat (IntKind.wrap .i64 (t86_ - 1))) 0) : Int) ≥ (List.getD t84_ (Int.toNat t86_) 0))) then
  some (8, ())
  else
  KK_.2.2.2.1 p t84_ t85_ t86_ b0
 else none
 else
 KK_.2.2.2.1 p t84_ t85_ t86_ b0
 else none),
(fun p t84_ t85_ t86_ b0 =>
 KK_.2.1 p t84_ t85_ (IntKind.wrap .i64 (t86_ + 1)) b0),
(fun p n same =>
 bif (!(Ty.beq (.arr 3 t0) same p.2.1)) then
 some (8, ())
 else
 bif (decide ((((List.length p.2.2.2.2.2.1 : Int)) : Int) > 8)) then
 some (8, ())
 else
 KK_.1 p n))
def part_Check.K (mm_ : Nat) : Nat → part_Check.KT
| 0 => ((fun _ _ => none), (fun _ _ _ _ _ => none), (fun _ _ _ _ _ => none), (fun _ _ _ _ _ => none), (fun _ _ _ => none))
| nn_ + 1 => part_Check.step mm_ (part_Check.K mm_ nn_)
theorem part_Check.step_le (mm_ : Nat) (KK_ : part_Check.KT) (hh_ : part_Check.Ok KK_) : part_Check.Ok (part_Check.step mm_ KK_) := by
 refine ⟨fun _ _ => ?_, fun _ _ _ _ _ => ?_, fun _ _ _ _ _ => ?_, fun _ _ _ _ _ => ?_, fun _ _ _ => ?_⟩
 rw [part_Check.L2_eq]; rotate_left
 rw [part_Check.L3_eq]; rotate_left
 rw [part_Check.L4_eq]; rotate_left
 rw [part_Check.L5_eq]; rotate_left
 rw [part_Check.T_eq]; rotate_left
 all_goals dsimp only [part_Check.step]
 all_goals (repeat' (with_reducible first | exact hh_.1 _ _ | exact hh_.2.1 _ _ _ _ _ | exact hh_.2.2.1 _ _ _ _ _ | exact hh_.2.2.2.1 _ _ _ _ _ | exact hh_.2.2.2.2 _ _ _  | exact Le.refl _ | refine Le.cond ?_ ?_ | refine Le.bind ?_ fun _ => ?_))
theorem part_Check.K_le (mm_ : Nat) : ∀ nn_, part_Check.Ok (part_Check.K mm_ nn_)
| 0 => ⟨fun _ _ => Le.none _, fun _ _ _ _ _ => Le.none _, fun _ _ _ _ _ => Le.none _, fun _ _ _ _ _ => Le.none _, fun _ _ _ => Le.none _⟩
| nn_ + 1 => part_Check.step_le mm_ (part_Check.K mm_ nn_) (part_Check.K_le mm_ nn_)
end
end Go.Proofs.YtkihjakbbcajbaaGreat.PM
