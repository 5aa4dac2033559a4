/- Twins of the functions with bounded rounds, printed by a program of this session. -/
import Derived.Test.YtecbgbfegpnilaaLe
import Derived.Test.YtecbgbfegpnilaaZpm
namespace Go.Proofs.Ytecbgbfegpnilaa.PM
set_option linter.unusedSimpArgs false
set_option linter.unusedVariables false
open Go Go.Proofs
/-! ### bits_Mul64 -/
noncomputable def bits_Mul64.G (mm_ : Nat) (x : Int) (y : Int) : Option (Int × Int × Unit) :=
  bif (decide ((0 : Int) ≤ 32)) then
    bif (decide ((0 : Int) ≤ 32)) then
      bif (decide ((0 : Int) ≤ 32)) then
        bif (decide ((0 : Int) ≤ 32)) then
          bif (decide ((0 : Int) ≤ 32)) then
            some ((IntKind.wrap .u64 ((IntKind.wrap .u64 ((IntKind.wrap .u64 ((Int.fdiv x (2 ^ min (Int.toNat 32) (IntKind.bits .u64))) * (Int.fdiv y (2 ^ min (Int.toNat 32) (IntKind.bits .u64))))) + (Int.fdiv (IntKind.wrap .u64 ((IntKind.wrap .u64 ((Int.fdiv x (2 ^ min (Int.toNat 32) (IntKind.bits .u64))) * (bits .and .u64 y 4294967295))) + (Int.fdiv (IntKind.wrap .u64 ((bits .and .u64 x 4294967295) * (bits .and .u64 y 4294967295))) (2 ^ min (Int.toNat 32) (IntKind.bits .u64))))) (2 ^ min (Int.toNat 32) (IntKind.bits .u64))))) + (Int.fdiv (IntKind.wrap .u64 ((bits .and .u64 (IntKind.wrap .u64 ((IntKind.wrap .u64 ((Int.fdiv x (2 ^ min (Int.toNat 32) (IntKind.bits .u64))) * (bits .and .u64 y 4294967295))) + (Int.fdiv (IntKind.wrap .u64 ((bits .and .u64 x 4294967295) * (bits .and .u64 y 4294967295))) (2 ^ min (Int.toNat 32) (IntKind.bits .u64))))) 4294967295) + (IntKind.wrap .u64 ((bits .and .u64 x 4294967295) * (Int.fdiv y (2 ^ min (Int.toNat 32) (IntKind.bits .u64))))))) (2 ^ min (Int.toNat 32) (IntKind.bits .u64))))), (IntKind.wrap .u64 (x * y)), ())
          else none
        else none
      else none
    else none
  else none
theorem bits_Mul64.G_le (mm_ : Nat) (x : Int) (y : Int) : Le (bits_Mul64.G mm_ x y) (bits_Mul64.F x y) := by
  rw [bits_Mul64.F_eq]; unfold bits_Mul64.G; (repeat' (with_reducible first   | exact Le.refl _ | refine Le.cond ?_ ?_ | refine Le.bind ?_ fun _ => ?_))
/-! ### bits_Mul -/
noncomputable def bits_Mul.step (mm_ : Nat) (KK_ : (Int → Int → (Option (Int × Int × Unit)))) : (Int → Int → (Option (Int × Int × Unit))) := ((fun (x : Int) (y : Int) =>
  ((bits_Mul64.G mm_) x y).bind fun r0 =>
  some (r0.1, r0.2.1, ())))
noncomputable def bits_Mul.K (mm_ : Nat) : Nat → (Int → Int → (Option (Int × Int × Unit)))
  | 0 => ((fun _ _ => none))
  | nn_ + 1 => bits_Mul.step mm_ (bits_Mul.K mm_ nn_)
theorem bits_Mul.step_le (mm_ : Nat) (KK_ : (Int → Int → (Option (Int × Int × Unit)))) (hh_ : (∀ x y, Le (KK_ x y) (bits_Mul.L1 x y))) : (∀ x y, Le ((bits_Mul.step mm_ KK_) x y) (bits_Mul.L1 x y)) := by
  refine fun x y => by rw [bits_Mul.L1_eq]; dsimp only [bits_Mul.step]; (repeat' (with_reducible first | exact hh_ _ _ | exact bits_Mul64.G_le mm_ _ _ | exact Le.refl _ | refine Le.cond ?_ ?_ | refine Le.bind ?_ fun _ => ?_))
theorem bits_Mul.K_le (mm_ : Nat) : ∀ nn_, (∀ x y, Le ((bits_Mul.K mm_ nn_) x y) (bits_Mul.L1 x y))
  | 0 => fun _ _ => Le.none _
  | nn_ + 1 => bits_Mul.step_le mm_ (bits_Mul.K mm_ nn_) (bits_Mul.K_le mm_ nn_)
noncomputable def bits_Mul.G (mm_ : Nat) (x : Int) (y : Int) : Option (Int × Int × Unit) :=
  (bits_Mul.K mm_ mm_) x y
theorem bits_Mul.G_le (mm_ : Nat) (x : Int) (y : Int) : Le (bits_Mul.G mm_ x y) (bits_Mul.F x y) := by
  rw [bits_Mul.F_eq]; unfold bits_Mul.G; (repeat' (with_reducible first | exact (bits_Mul.K_le mm_ mm_) _ _ | exact bits_Mul64.G_le mm_ _ _ | exact Le.refl _ | refine Le.cond ?_ ?_ | refine Le.bind ?_ fun _ => ?_))
/-! ### slices_Repeat -/
noncomputable def slices_Repeat.step (mm_ : Nat) (KK_ : ((List Int) → Int → (Option ((List Int) × Unit))) × ((List Int) → Int → (Option ((List Int) × Unit))) × (Int → (List Int) → (Option ((List Int) × Unit))) × (Int → (List Int) → (Option ((List Int) × Unit)))) : ((List Int) → Int → (Option ((List Int) × Unit))) × ((List Int) → Int → (Option ((List Int) × Unit))) × (Int → (List Int) → (Option ((List Int) × Unit))) × (Int → (List Int) → (Option ((List Int) × Unit))) := ((fun (x : (List Int)) (count : Int) =>
  ((bits_Mul.G mm_) (IntKind.wrap .u64 ((List.length x : Int))) (IntKind.wrap .u64 count)).bind fun r0 =>
  bif (decide ((r0.1 : Int) > 0)) then
    none
  else
    bif (decide ((r0.2.1 : Int) > 9223372036854775807)) then
      none
    else
      KK_.2.1 x r0.2.1),
(fun (x : (List Int)) (lo : Int) =>
  bif (decide ((0 : Int) ≤ (IntKind.wrap .i64 lo) ∧ ((IntKind.wrap .i64 lo) : Int) ≤ (IntKind.wrap .i64 lo)) && (lim (Int.toNat (IntKind.wrap .i64 lo)) (.int .i64))) then
    KK_.2.2.1 (((min (List.length x) (List.length (List.replicate (Int.toNat (IntKind.wrap .i64 lo)) (0 : Int))) : Nat) : Int)) (splice (List.replicate (Int.toNat (IntKind.wrap .i64 lo)) (0 : Int)) 0 (List.take (List.length (List.replicate (Int.toNat (IntKind.wrap .i64 lo)) (0 : Int))) x))
  else none),
(fun (n : Int) (l0 : (List Int)) =>
  bif (decide ((n : Int) < ((List.length l0 : Int)))) then
    KK_.2.2.2 n l0
  else
    some (l0, ())),
(fun (n : Int) (l0 : (List Int)) =>
  bif (decide ((0 : Int) ≤ n ∧ (n : Int) ≤ ((List.length l0 : Int)) ∧ (((List.length l0 : Int)) : Int) ≤ ((List.length l0 : Int)))) then
    bif (decide ((0 : Int) ≤ 0 ∧ (0 : Int) ≤ n ∧ (n : Int) ≤ ((List.length l0 : Int)))) then
      KK_.2.2.1 (IntKind.wrap .i64 (n + (((min (List.length (List.take ((Int.toNat n) - (Int.toNat 0)) (List.drop (Int.toNat 0) l0))) ((Int.toNat ((List.length l0 : Int))) - (Int.toNat n)) : Nat) : Int)))) (splice l0 (Int.toNat n) (List.take ((Int.toNat ((List.length l0 : Int))) - (Int.toNat n)) (List.take ((Int.toNat n) - (Int.toNat 0)) (List.drop (Int.toNat 0) l0))))
    else none
  else none))
noncomputable def slices_Repeat.K (mm_ : Nat) : Nat → ((List Int) → Int → (Option ((List Int) × Unit))) × ((List Int) → Int → (Option ((List Int) × Unit))) × (Int → (List Int) → (Option ((List Int) × Unit))) × (Int → (List Int) → (Option ((List Int) × Unit)))
  | 0 => ((fun _ _ => none), (fun _ _ => none), (fun _ _ => none), (fun _ _ => none))
  | nn_ + 1 => slices_Repeat.step mm_ (slices_Repeat.K mm_ nn_)
theorem slices_Repeat.step_le (mm_ : Nat) (KK_ : ((List Int) → Int → (Option ((List Int) × Unit))) × ((List Int) → Int → (Option ((List Int) × Unit))) × (Int → (List Int) → (Option ((List Int) × Unit))) × (Int → (List Int) → (Option ((List Int) × Unit)))) (hh_ : (∀ x count, Le (KK_.1 x count) (slices_Repeat.L1 x count)) ∧ (∀ x lo, Le (KK_.2.1 x lo) (slices_Repeat.L2 x lo)) ∧ (∀ n l0, Le (KK_.2.2.1 n l0) (slices_Repeat.L3 n l0)) ∧ (∀ n l0, Le (KK_.2.2.2 n l0) (slices_Repeat.L4 n l0))) : (∀ x count, Le ((slices_Repeat.step mm_ KK_).1 x count) (slices_Repeat.L1 x count)) ∧ (∀ x lo, Le ((slices_Repeat.step mm_ KK_).2.1 x lo) (slices_Repeat.L2 x lo)) ∧ (∀ n l0, Le ((slices_Repeat.step mm_ KK_).2.2.1 n l0) (slices_Repeat.L3 n l0)) ∧ (∀ n l0, Le ((slices_Repeat.step mm_ KK_).2.2.2 n l0) (slices_Repeat.L4 n l0)) := by
  refine ⟨fun x count => by rw [slices_Repeat.L1_eq]; dsimp only [slices_Repeat.step]; (repeat' (with_reducible first | exact hh_.1 _ _ | exact hh_.2.1 _ _ | exact hh_.2.2.1 _ _ | exact hh_.2.2.2 _ _ | exact bits_Mul.G_le mm_ _ _ | exact Le.refl _ | refine Le.cond ?_ ?_ | refine Le.bind ?_ fun _ => ?_)),
    fun x lo => by rw [slices_Repeat.L2_eq]; dsimp only [slices_Repeat.step]; (repeat' (with_reducible first | exact hh_.1 _ _ | exact hh_.2.1 _ _ | exact hh_.2.2.1 _ _ | exact hh_.2.2.2 _ _ | exact bits_Mul.G_le mm_ _ _ | exact Le.refl _ | refine Le.cond ?_ ?_ | refine Le.bind ?_ fun _ => ?_)),
    fun n l0 => by rw [slices_Repeat.L3_eq]; dsimp only [slices_Repeat.step]; (repeat' (with_reducible first | exact hh_.1 _ _ | exact hh_.2.1 _ _ | exact hh_.2.2.1 _ _ | exact hh_.2.2.2 _ _ | exact bits_Mul.G_le mm_ _ _ | exact Le.refl _ | refine Le.cond ?_ ?_ | refine Le.bind ?_ fun _ => ?_)),
    fun n l0 => by rw [slices_Repeat.L4_eq]; dsimp only [slices_Repeat.step]; (repeat' (with_reducible first | exact hh_.1 _ _ | exact hh_.2.1 _ _ | exact hh_.2.2.1 _ _ | exact hh_.2.2.2 _ _ | exact bits_Mul.G_le mm_ _ _ | exact Le.refl _ | refine Le.cond ?_ ?_ | refine Le.bind ?_ fun _ => ?_))⟩
theorem slices_Repeat.K_le (mm_ : Nat) : ∀ nn_, (∀ x count, Le ((slices_Repeat.K mm_ nn_).1 x count) (slices_Repeat.L1 x count)) ∧ (∀ x lo, Le ((slices_Repeat.K mm_ nn_).2.1 x lo) (slices_Repeat.L2 x lo)) ∧ (∀ n l0, Le ((slices_Repeat.K mm_ nn_).2.2.1 n l0) (slices_Repeat.L3 n l0)) ∧ (∀ n l0, Le ((slices_Repeat.K mm_ nn_).2.2.2 n l0) (slices_Repeat.L4 n l0))
  | 0 => ⟨fun _ _ => Le.none _, fun _ _ => Le.none _, fun _ _ => Le.none _, fun _ _ => Le.none _⟩
  | nn_ + 1 => slices_Repeat.step_le mm_ (slices_Repeat.K mm_ nn_) (slices_Repeat.K_le mm_ nn_)
noncomputable def slices_Repeat.G (mm_ : Nat) (x : (List Int)) (count : Int) : Option ((List Int) × Unit) :=
  bif (decide ((count : Int) < 0)) then
    none
  else
    (slices_Repeat.K mm_ mm_).1 x count
theorem slices_Repeat.G_le (mm_ : Nat) (x : (List Int)) (count : Int) : Le (slices_Repeat.G mm_ x count) (slices_Repeat.F x count) := by
  rw [slices_Repeat.F_eq]; unfold slices_Repeat.G; (repeat' (with_reducible first | exact (slices_Repeat.K_le mm_ mm_).1 _ _ | exact (slices_Repeat.K_le mm_ mm_).2.1 _ _ | exact (slices_Repeat.K_le mm_ mm_).2.2.1 _ _ | exact (slices_Repeat.K_le mm_ mm_).2.2.2 _ _ | exact bits_Mul.G_le mm_ _ _ | exact Le.refl _ | refine Le.cond ?_ ?_ | refine Le.bind ?_ fun _ => ?_))
end Go.Proofs.Ytecbgbfegpnilaa.PM
