/- Twins of the functions with bounded rounds, printed by a program of this session. -/
import Derived.Test.YtkihjakbbcajbaaGreatTwT
namespace Go.Proofs.YtkihjakbbcajbaaGreat.PM
set_option linter.unusedSimpArgs false
set_option linter.unusedVariables false
open Go Go.Proofs
noncomputable section
/-! ### image_reader_get -/
@[reducible] def image_reader_get.KT : Type := (Int → (List Int) → Bool → (Option (t12.den × Int × Unit))) × (Int → Int → (List Int) → Int → Int → (List Int) → Bool → (Option (t12.den × Int × Unit))) × (Int → Int → (List Int) → Int → Int → (List Int) → Bool → (Option (t12.den × Int × Unit)))
@[reducible] def image_reader_get.Ok (KK_ : image_reader_get.KT) : Prop := (∀ k b0 b02, Le (KK_.1 k b0 b02) (image_reader_get.L1 k b0 b02)) ∧ (∀ k n t26_ t27_ t28_ b0 b02, Le (KK_.2.1 k n t26_ t27_ t28_ b0 b02) (image_reader_get.L2 k n t26_ t27_ t28_ b0 b02)) ∧ (∀ k n t26_ t27_ t28_ b0 b02, Le (KK_.2.2 k n t26_ t27_ t28_ b0 b02) (image_reader_get.L3 k n t26_ t27_ t28_ b0 b02))
def image_reader_get.step (mm_ : Nat) (KK_ : image_reader_get.KT) : image_reader_get.KT := ((fun k b0 b02 =>
 bif (decide ((0 : Int) ≤ 0 ∧ (0 : Int) ≤ k ∧ (k : Int) ≤ ((List.length b0 : Int)))) then
 KK_.2.1 k 0 (List.take ((Int.toNat k) - (Int.toNat 0)) (List.drop (Int.toNat 0) b0)) ((List.length (List.take ((Int.toNat k) - (Int.toNat 0)) (List.drop (Int.toNat 0) b0)) : Int)) 0 b0 b02
 else none),
(fun k n t26_ t27_ t28_ b0 b02 =>
 bif (decide ((t28_ : Int) < t27_)) then
 KK_.2.2 k n t26_ t27_ t28_ b0 b02
 else
 bif (decide ((0 : Int) ≤ k ∧ (k : Int) ≤ ((List.length b0 : Int)) ∧ (((List.length b0 : Int)) : Int) ≤ ((List.length b0 : Int)))) then
 some (((List.take ((Int.toNat ((List.length b0 : Int))) - (Int.toNat k)) (List.drop (Int.toNat k) b0)), b02, ()), n, ())
 else none),
(fun k n t26_ t27_ t28_ b0 b02 =>
 bif (decide ((0 : Int) ≤ t28_ ∧ (t28_ : Int) < ((List.length t26_ : Int)))) then
 bif (decide ((0 : Int) ≤ 8)) then
 KK_.2.1 k (bits .or .u64 (IntKind.wrap .u64 (n * 2 ^ min (Int.toNat 8) (IntKind.bits .u64))) (IntKind.wrap .u64 (List.getD t26_ (Int.toNat t28_) 0))) t26_ t27_ (IntKind.wrap .i64 (t28_ + 1)) b0 b02
 else none
 else none))
def image_reader_get.K (mm_ : Nat) : Nat → image_reader_get.KT
| 0 => ((fun _ _ _ => none), (fun _ _ _ _ _ _ _ => none), (fun _ _ _ _ _ _ _ => none))
| nn_ + 1 => image_reader_get.step mm_ (image_reader_get.K mm_ nn_)
theorem image_reader_get.step_le (mm_ : Nat) (KK_ : image_reader_get.KT) (hh_ : image_reader_get.Ok KK_) : image_reader_get.Ok (image_reader_get.step mm_ KK_) := by
 refine ⟨fun _ _ _ => ?_, fun _ _ _ _ _ _ _ => ?_, fun _ _ _ _ _ _ _ => ?_⟩
 rw [image_reader_get.L1_eq]; rotate_left
 rw [image_reader_get.L2_eq]; rotate_left
 rw [image_reader_get.L3_eq]; rotate_left
 all_goals dsimp only [image_reader_get.step]
 all_goals (repeat' (with_reducible first | exact hh_.1 _ _ _ | exact hh_.2.1 _ _ _ _ _ _ _ | exact hh_.2.2 _ _ _ _ _ _ _  | exact Le.refl _ | refine Le.cond ?_ ?_ | refine Le.bind ?_ fun _ => ?_))
theorem image_reader_get.K_le (mm_ : Nat) : ∀ nn_, image_reader_get.Ok (image_reader_get.K mm_ nn_)
| 0 => ⟨fun _ _ _ => Le.none _, fun _ _ _ _ _ _ _ => Le.none _, fun _ _ _ _ _ _ _ => Le.none _⟩
| nn_ + 1 => image_reader_get.step_le mm_ (image_reader_get.K mm_ nn_) (image_reader_get.K_le mm_ nn_)
def image_reader_get.G (mm_ : Nat) (r : t12.den) (k : Int) : Option (t12.den × Int × Unit) :=
 bif (decide ((((List.length r.1 : Int)) : Int) < k)) then
 some ((([] : List Int), true, ()), 0, ())
 else
 (image_reader_get.K mm_ mm_).1 k r.1 r.2.1
theorem image_reader_get.G_le (mm_ : Nat) (r : t12.den) (k : Int) : Le (image_reader_get.G mm_ r k) (image_reader_get.F r k) := by
 rw [image_reader_get.F_eq]; unfold image_reader_get.G; (repeat' (with_reducible first | exact (image_reader_get.K_le mm_ mm_).1 _ _ _ | exact (image_reader_get.K_le mm_ mm_).2.1 _ _ _ _ _ _ _ | exact (image_reader_get.K_le mm_ mm_).2.2 _ _ _ _ _ _ _  | exact Le.refl _ | refine Le.cond ?_ ?_ | refine Le.bind ?_ fun _ => ?_))
/-! ### image_reader_bucket -/
def image_reader_bucket.G (mm_ : Nat) (r : t12.den) (l : t0.den) : Option (t12.den × t1.den × Unit) :=
 ((image_reader_get.G mm_) r 8).bind fun r0 =>
 ((image_reader_get.G mm_) r0.1 8).bind fun r1 =>
 ((image_reader_get.G mm_) r1.1 8).bind fun r2 =>
 some (r2.1, (l, (IntKind.wrap .i64 r0.2.1), (IntKind.wrap .i64 r1.2.1), r2.2.1, ()), ())
theorem image_reader_bucket.G_le (mm_ : Nat) (r : t12.den) (l : t0.den) : Le (image_reader_bucket.G mm_ r l) (image_reader_bucket.F r l) := by
 rw [image_reader_bucket.F_eq]; unfold image_reader_bucket.G; (repeat' (with_reducible first  | exact image_reader_get.G_le mm_ _ _ | exact Le.refl _ | refine Le.cond ?_ ?_ | refine Le.bind ?_ fun _ => ?_))
/-! ### image_reader_held -/
@[reducible] def image_reader_held.KT : Type := (Int → (List Int) → Bool → Int → Int → Int → (List t9.den) → (Option (t12.den × (List t9.den) × Unit))) × (Int → (List Int) → Bool → Int → Int → Int → (List t9.den) → (Option (t12.den × (List t9.den) × Unit)))
@[reducible] def image_reader_held.Ok (KK_ : image_reader_held.KT) : Prop := (∀ n b0 b02 b1 b12 b13 l2, Le (KK_.1 n b0 b02 b1 b12 b13 l2) (image_reader_held.L1 n b0 b02 b1 b12 b13 l2)) ∧ (∀ n b0 b02 b1 b12 b13 l2, Le (KK_.2 n b0 b02 b1 b12 b13 l2) (image_reader_held.L2 n b0 b02 b1 b12 b13 l2))
def image_reader_held.step (mm_ : Nat) (KK_ : image_reader_held.KT) : image_reader_held.KT := ((fun n b0 b02 b1 b12 b13 l2 =>
 bif (decide ((n : Int) > 0)) then
 bif (!b02) then
 KK_.2 n b0 b02 b1 b12 b13 l2
 else
 some ((b0, b02, ()), l2, ())
 else
 some ((b0, b02, ()), l2, ())),
(fun n b0 b02 b1 b12 b13 l2 =>
 ((image_reader_get.G mm_) (b0, b02, ()) 4).bind fun r0 =>
 ((image_reader_bucket.G mm_) r0.1 (b1, b12, b13, ())).bind fun r1 =>
 bif (lim ((List.length l2) + (List.length ([((IntKind.wrap .u32 r0.2.1), r1.2.1, ())] : List t9.den))) t9) then
 KK_.1 (IntKind.wrap .u64 (n - 1)) r1.1.1 r1.1.2.1 b1 b12 b13 (l2 ++ ([((IntKind.wrap .u32 r0.2.1), r1.2.1, ())] : List t9.den))
 else none))
def image_reader_held.K (mm_ : Nat) : Nat → image_reader_held.KT
| 0 => ((fun _ _ _ _ _ _ _ => none), (fun _ _ _ _ _ _ _ => none))
| nn_ + 1 => image_reader_held.step mm_ (image_reader_held.K mm_ nn_)
theorem image_reader_held.step_le (mm_ : Nat) (KK_ : image_reader_held.KT) (hh_ : image_reader_held.Ok KK_) : image_reader_held.Ok (image_reader_held.step mm_ KK_) := by
 refine ⟨fun _ _ _ _ _ _ _ => ?_, fun _ _ _ _ _ _ _ => ?_⟩
 rw [image_reader_held.L1_eq]; rotate_left
 rw [image_reader_held.L2_eq]; rotate_left
 all_goals dsimp only [image_reader_held.step]
 all_goals (repeat' (with_reducible first | exact hh_.1 _ _ _ _ _ _ _ | exact hh_.2 _ _ _ _ _ _ _ | exact image_reader_get.G_le mm_ _ _ | exact image_reader_bucket.G_le mm_ _ _ | exact Le.refl _ | refine Le.cond ?_ ?_ | refine Le.bind ?_ fun _ => ?_))
theorem image_reader_held.K_le (mm_ : Nat) : ∀ nn_, image_reader_held.Ok (image_reader_held.K mm_ nn_)
| 0 => ⟨fun _ _ _ _ _ _ _ => Le.none _, fun _ _ _ _ _ _ _ => Le.none _⟩
| nn_ + 1 => image_reader_held.step_le mm_ (image_reader_held.K mm_ nn_) (image_reader_held.K_le mm_ nn_)
def image_reader_held.G (mm_ : Nat) (r : t12.den) (l : t0.den) : Option (t12.den × (List t9.den) × Unit) :=
 ((image_reader_get.G mm_) r 1).bind fun r0 =>
 (image_reader_held.K mm_ mm_).1 r0.2.1 r0.1.1 r0.1.2.1 l.1 l.2.1 l.2.2.1 ([] : List t9.den)
theorem image_reader_held.G_le (mm_ : Nat) (r : t12.den) (l : t0.den) : Le (image_reader_held.G mm_ r l) (image_reader_held.F r l) := by
 rw [image_reader_held.F_eq]; unfold image_reader_held.G; (repeat' (with_reducible first | exact (image_reader_held.K_le mm_ mm_).1 _ _ _ _ _ _ _ | exact (image_reader_held.K_le mm_ mm_).2 _ _ _ _ _ _ _ | exact image_reader_get.G_le mm_ _ _ | exact image_reader_bucket.G_le mm_ _ _ | exact Le.refl _ | refine Le.cond ?_ ?_ | refine Le.bind ?_ fun _ => ?_))
/-! ### image_reader_account -/
@[reducible] def image_reader_account.KT : Type := (Int → (List Int) → Bool → (List t0.den) → (List Int) → Int → (List t0.den) → (List t9.den) → (List Int) → (Option (t12.den × t10.den × Unit))) × (Int → (List Int) → Bool → (List t0.den) → (List Int) → Int → (List t0.den) → (List t9.den) → (List Int) → (Option (t12.den × t10.den × Unit))) × (Int → (List Int) → Bool → (List t0.den) → (List Int) → Int → (List t0.den) → (List Int) → (List t9.den) → (List Int) → (Option (t12.den × t10.den × Unit))) × (Int → (List Int) → Bool → (List t0.den) → (List Int) → Int → (List t0.den) → (List Int) → (List t9.den) → (List Int) → (Option (t12.den × t10.den × Unit))) × (Int → (List Int) → Bool → (List t0.den) → (List Int) → Int → (List t0.den) → (List Int) → Int → Int → Int → Int → Int → Int → (List t9.den) → (List Int) → (List t9.den) → (List t9.den) → (List Int) → (Option (t12.den × t10.den × Unit))) × (Int → (List Int) → Bool → (List t0.den) → (List Int) → Int → (List t0.den) → (List Int) → Int → Int → Int → Int → Int → Int → (List t9.den) → (List Int) → (List t9.den) → (List t9.den) → (List Int) → (Option (t12.den × t10.den × Unit)))
@[reducible] def image_reader_account.Ok (KK_ : image_reader_account.KT) : Prop := (∀ t12_ b0 b02 b1 b12 b2 b22 l3 l5, Le (KK_.1 t12_ b0 b02 b1 b12 b2 b22 l3 l5) (image_reader_account.L1 t12_ b0 b02 b1 b12 b2 b22 l3 l5)) ∧ (∀ t12_ b0 b02 b1 b12 b2 b22 l3 l5, Le (KK_.2.1 t12_ b0 b02 b1 b12 b2 b22 l3 l5) (image_reader_account.L2 t12_ b0 b02 b1 b12 b2 b22 l3 l5)) ∧ (∀ t37_ b0 b02 b1 b12 b2 b22 b23 l3 l5, Le (KK_.2.2.1 t37_ b0 b02 b1 b12 b2 b22 b23 l3 l5) (image_reader_account.L3 t37_ b0 b02 b1 b12 b2 b22 b23 l3 l5)) ∧ (∀ t37_ b0 b02 b1 b12 b2 b22 b23 l3 l5, Le (KK_.2.2.2.1 t37_ b0 b02 b1 b12 b2 b22 b23 l3 l5) (image_reader_account.L4 t37_ b0 b02 b1 b12 b2 b22 b23 l3 l5)) ∧ (∀ n b0 b02 b1 b12 b2 b22 b23 b24 b25 b26 b27 b28 b29 l3 l5 l6 l7 l8, Le (KK_.2.2.2.2.1 n b0 b02 b1 b12 b2 b22 b23 b24 b25 b26 b27 b28 b29 l3 l5 l6 l7 l8) (image_reader_account.L5 n b0 b02 b1 b12 b2 b22 b23 b24 b25 b26 b27 b28 b29 l3 l5 l6 l7 l8)) ∧ (∀ n b0 b02 b1 b12 b2 b22 b23 b24 b25 b26 b27 b28 b29 l3 l5 l6 l7 l8, Le (KK_.2.2.2.2.2 n b0 b02 b1 b12 b2 b22 b23 b24 b25 b26 b27 b28 b29 l3 l5 l6 l7 l8) (image_reader_account.L6 n b0 b02 b1 b12 b2 b22 b23 b24 b25 b26 b27 b28 b29 l3 l5 l6 l7 l8))
def image_reader_account.step (mm_ : Nat) (KK_ : image_reader_account.KT) : image_reader_account.KT := ((fun t12_ b0 b02 b1 b12 b2 b22 l3 l5 =>
 bif (decide ((t12_ : Int) < 3)) then
 KK_.2.1 t12_ b0 b02 b1 b12 b2 b22 l3 l5
 else
 KK_.2.2.1 0 b0 b02 b1 b12 b2 b22 b12 l3 l5),
(fun t12_ b0 b02 b1 b12 b2 b22 l3 l5 =>
 bif (decide ((0 : Int) ≤ t12_ ∧ (t12_ : Int) < 3)) then
 ((image_reader_get.G mm_) (b0, b02, ()) 4).bind fun r0 =>
 ((image_reader_get.G mm_) r0.1 4).bind fun r1 =>
 ((image_reader_get.G mm_) r1.1 4).bind fun r2 =>
 KK_.1 (IntKind.wrap .i64 (t12_ + 1)) r2.1.1 r2.1.2.1 b1 b12 b2 (List.set (List.set (List.set b22 (Int.toNat t12_) ((IntKind.wrap .i64 r0.2.1), ((List.getD b22 (Int.toNat t12_) (0, 0, 0, ())).2).1, (((List.getD b22 (Int.toNat t12_) (0, 0, 0, ())).2).2).1, ())) (Int.toNat t12_) ((List.getD (List.set b22 (Int.toNat t12_) ((IntKind.wrap .i64 r0.2.1), ((List.getD b22 (Int.toNat t12_) (0, 0, 0, ())).2).1, (((List.getD b22 (Int.toNat t12_) (0, 0, 0, ())).2).2).1, ())) (Int.toNat t12_) (0, 0, 0, ())).1, (IntKind.wrap .i64 r1.2.1), (((List.getD (List.set b22 (Int.toNat t12_) ((IntKind.wrap .i64 r0.2.1), ((List.getD b22 (Int.toNat t12_) (0, 0, 0, ())).2).1, (((List.getD b22 (Int.toNat t12_) (0, 0, 0, ())).2).2).1, ())) (Int.toNat t12_) (0, 0, 0, ())).2).2).1, ())) (Int.toNat t12_) ((List.getD (List.set (List.set b22 (Int.toNat t12_) ((IntKind.wrap .i64 r0.2.1), ((List.getD b22 (Int.toNat t12_) (0, 0, 0, ())).2).1, (((List.getD b22 (Int.toNat t12_) (0, 0, 0, ())).2).2).1, ())) (Int.toNat t12_) ((List.getD (List.set b22 (Int.toNat t12_) ((IntKind.wrap .i64 r0.2.1), ((List.getD b22 (Int.toNat t12_) (0, 0, 0, ())).2).1, (((List.getD b22 (Int.toNat t12_) (0, 0, 0, ())).2).2).1, ())) (Int.toNat t12_) (0, 0, 0, ())).1, (IntKind.wrap .i64 r1.2.1), (((List.getD (List.set b22 (Int.toNat t12_) ((IntKind.wrap .i64 r0.2.1), ((List.getD b22 (Int.toNat t12_) (0, 0, 0, ())).2).1, (((List.getD b22 (Int.toNat t12_) (0, 0, 0, ())).2).2).1, ())) (Int.toNat t12_) (0, 0, 0, ())).2).2).1, ())) (Int.toNat t12_) (0, 0, 0, ())).1, ((List.getD (List.set (List.set b22 (Int.toNat t12_) ((IntKind.wrap .i64 r0.2.1), ((List.getD b22 (Int.toNat t12_) (0, 0, 0, ())).2).1, (((List.getD b22 (Int.toNat t12_) (0, 0, 0, ())).2).2).1, ())) (Int.toNat t12_) ((List.getD (List.set b22 (Int.toNat t12_) ((IntKind.wrap .i64 r0.2.1), ((List.getD b22 (Int.toNat t12_) (0, 0, 0, ())).2).1, (((List.getD b22 (Int.toNat t12_) (0, 0, 0, ())).2).2).1, ())) (Int.toNat t12_) (0, 0, 0, ())).1, (IntKind.wrap .i64 r1.2.1), (((List.getD (List.set b22 (Int.toNat t12_) ((IntKind.wrap .i64 r0.2.1), ((List.getD b22 (Int.toNat t12_) (0, 0, 0, ())).2).1, (((List.getD b22 (Int.toNat t12_) (0, 0, 0, ())).2).2).1, ())) (Int.toNat t12_) (0, 0, 0, ())).2).2).1, ())) (Int.toNat t12_) (0, 0, 0, ())).2).1, (IntKind.wrap .i64 r2.2.1), ())) l3 l5
 else none),
(fun t37_ b0 b02 b1 b12 b2 b22 b23 l3 l5 =>
 bif (decide ((t37_ : Int) < 2)) then
 KK_.2.2.2.1 t37_ b0 b02 b1 b12 b2 b22 b23 l3 l5
 else
 bif (decide ((0 : Int) ≤ 0 ∧ (0 : Int) < 3)) then
 ((image_reader_bucket.G mm_) (b0, b02, ()) (List.getD b22 (Int.toNat 0) (0, 0, 0, ()))).bind fun r0 =>
 bif (decide ((0 : Int) ≤ 1 ∧ (1 : Int) < 3)) then
  ((image_reader_held.G mm_) r0.1 (List.getD b22 (Int.toNat 1) (0, 0, 0, ()))).bind fun r1 =>
  bif (decide ((0 : Int) ≤ 2 ∧ (2 : Int) < 3)) then
  ((image_reader_held.G mm_) r1.1 (List.getD b22 (Int.toNat 2) (0, 0, 0, ()))).bind fun r2 =>
  ((image_reader_get.G mm_) r2.1 1).bind fun r3 =>
  KK_.2.2.2.2.1 r3.2.1 r3.1.1 r3.1.2.1 b1 b12 b2 b22 b23 r0.2.1.1.1 r0.2.1.1.2.1 r0.2.1.1.2.2.1 r0.2.1.2.1 r0.2.1.2.2.1 r0.2.1.2.2.2.1 l3 l5 r1.2.1 r2.2.1 l5
  else none
 else none
 else none),
(fun t37_ b0 b02 b1 b12 b2 b22 b23 l3 l5 =>
 ((image_reader_get.G mm_) (b0, b02, ()) 1).bind fun r0 =>
 bif (decide ((0 : Int) ≤ t37_ ∧ (t37_ : Int) < 2)) then
 KK_.2.2.1 (IntKind.wrap .i64 (t37_ + 1)) r0.1.1 r0.1.2.1 b1 b12 b2 b22 (List.set b23 (Int.toNat t37_) (IntKind.wrap .i64 r0.2.1)) l3 l5
 else none),
(fun n b0 b02 b1 b12 b2 b22 b23 b24 b25 b26 b27 b28 b29 l3 l5 l6 l7 l8 =>
 bif (decide ((n : Int) > 0)) then
 bif (!b02) then
 KK_.2.2.2.2.2 n b0 b02 b1 b12 b2 b22 b23 b24 b25 b26 b27 b28 b29 l3 l5 l6 l7 l8
 else
 ((image_reader_get.G mm_) (b0, b02, ()) 8).bind fun r0 =>
 ((image_reader_get.G mm_) r0.1 8).bind fun r1 =>
 ((image_reader_get.G mm_) r1.1 8).bind fun r2 =>
 some (r2.1, (b2, b22, b23, ((b24, b25, b26, ()), b27, b28, b29, ()), l6, l7, l8, (r0.2.1, r1.2.1, r2.2.1, ()), ()), ())
 else
 ((image_reader_get.G mm_) (b0, b02, ()) 8).bind fun r0 =>
 ((image_reader_get.G mm_) r0.1 8).bind fun r1 =>
 ((image_reader_get.G mm_) r1.1 8).bind fun r2 =>
 some (r2.1, (b2, b22, b23, ((b24, b25, b26, ()), b27, b28, b29, ()), l6, l7, l8, (r0.2.1, r1.2.1, r2.2.1, ()), ()), ())),
(fun n b0 b02 b1 b12 b2 b22 b23 b24 b25 b26 b27 b28 b29 l3 l5 l6 l7 l8 =>
 ((image_reader_get.G mm_) (b0, b02, ()) 4).bind fun r0 =>
 bif (lim ((List.length l8) + (List.length ([(IntKind.wrap .u32 r0.2.1)] : List Int))) (.int .u32)) then
 KK_.2.2.2.2.1 (IntKind.wrap .u64 (n - 1)) r0.1.1 r0.1.2.1 b1 b12 b2 b22 b23 b24 b25 b26 b27 b28 b29 l3 l5 l6 l7 (l8 ++ ([(IntKind.wrap .u32 r0.2.1)] : List Int))
 else none))
def image_reader_account.K (mm_ : Nat) : Nat → image_reader_account.KT
| 0 => ((fun _ _ _ _ _ _ _ _ _ => none), (fun _ _ _ _ _ _ _ _ _ => none), (fun _ _ _ _ _ _ _ _ _ _ => none), (fun _ _ _ _ _ _ _ _ _ _ => none), (fun _ _ _ _ _ _ _ _ _ _ _ _ _ _ _ _ _ _ _ => none), (fun _ _ _ _ _ _ _ _ _ _ _ _ _ _ _ _ _ _ _ => none))
| nn_ + 1 => image_reader_account.step mm_ (image_reader_account.K mm_ nn_)
theorem image_reader_account.step_le (mm_ : Nat) (KK_ : image_reader_account.KT) (hh_ : image_reader_account.Ok KK_) : image_reader_account.Ok (image_reader_account.step mm_ KK_) := by
 refine ⟨fun _ _ _ _ _ _ _ _ _ => ?_, fun _ _ _ _ _ _ _ _ _ => ?_, fun _ _ _ _ _ _ _ _ _ _ => ?_, fun _ _ _ _ _ _ _ _ _ _ => ?_, fun _ _ _ _ _ _ _ _ _ _ _ _ _ _ _ _ _ _ _ => ?_, fun _ _ _ _ _ _ _ _ _ _ _ _ _ _ _ _ _ _ _ => ?_⟩
 rw [image_reader_account.L1_eq]; rotate_left
 rw [image_reader_account.L2_eq]; rotate_left
 rw [image_reader_account.L3_eq]; rotate_left
 rw [image_reader_account.L4_eq]; rotate_left
 rw [image_reader_account.L5_eq]; rotate_left
 rw [image_reader_account.L6_eq]; rotate_left
 all_goals dsimp only [image_reader_account.step]
 all_goals (repeat' (with_reducible first | exact hh_.1 _ _ _ _ _ _ _ _ _ | exact hh_.2.1 _ _ _ _ _ _ _ _ _ | exact hh_.2.2.1 _ _ _ _ _ _ _ _ _ _ | exact hh_.2.2.2.1 _ _ _ _ _ _ _ _ _ _ | exact hh_.2.2.2.2.1 _ _ _ _ _ _ _ _ _ _ _ _ _ _ _ _ _ _ _ | exact hh_.2.2.2.2.2 _ _ _ _ _ _ _ _ _ _ _ _ _ _ _ _ _ _ _ | exact image_reader_get.G_le mm_ _ _ | exact image_reader_bucket.G_le mm_ _ _ | exact image_reader_held.G_le mm_ _ _ | exact Le.refl _ | refine Le.cond ?_ ?_ | refine Le.bind ?_ fun _ => ?_))
theorem image_reader_account.K_le (mm_ : Nat) : ∀ nn_, image_reader_account.Ok (image_reader_account.K mm_ nn_)
| 0 => ⟨fun _ _ _ _ _ _ _ _ _ => Le.none _, fun _ _ _ _ _ _ _ _ _ => Le.none _, fun _ _ _ _ _ _ _ _ _ _ => Le.none _, fun _ _ _ _ _ _ _ _ _ _ => Le.none _, fun _ _ _ _ _ _ _ _ _ _ _ _ _ _ _ _ _ _ _ => Le.none _, fun _ _ _ _ _ _ _ _ _ _ _ _ _ _ _ _ _ _ _ => Le.none _⟩
| nn_ + 1 => image_reader_account.step_le mm_ (image_reader_account.K mm_ nn_) (image_reader_account.K_le mm_ nn_)
def image_reader_account.G (mm_ : Nat) (r : t12.den) : Option (t12.den × t10.den × Unit) :=
 ((image_reader_get.G mm_) r 1).bind fun r0 =>
 (image_reader_account.K mm_ mm_).1 0 r0.1.1 r0.1.2.1 (List.replicate 3 (0, 0, 0, ())) (List.replicate 2 (0 : Int)) (IntKind.wrap .u32 r0.2.1) (List.replicate 3 (0, 0, 0, ())) ([] : List t9.den) ([] : List Int)
theorem image_reader_account.G_le (mm_ : Nat) (r : t12.den) : Le (image_reader_account.G mm_ r) (image_reader_account.F r) := by
 rw [image_reader_account.F_eq]; unfold image_reader_account.G; (repeat' (with_reducible first | exact (image_reader_account.K_le mm_ mm_).1 _ _ _ _ _ _ _ _ _ | exact (image_reader_account.K_le mm_ mm_).2.1 _ _ _ _ _ _ _ _ _ | exact (image_reader_account.K_le mm_ mm_).2.2.1 _ _ _ _ _ _ _ _ _ _ | exact (image_reader_account.K_le mm_ mm_).2.2.2.1 _ _ _ _ _ _ _ _ _ _ | exact (image_reader_account.K_le mm_ mm_).2.2.2.2.1 _ _ _ _ _ _ _ _ _ _ _ _ _ _ _ _ _ _ _ | exact (image_reader_account.K_le mm_ mm_).2.2.2.2.2 _ _ _ _ _ _ _ _ _ _ _ _ _ _ _ _ _ _ _ | exact image_reader_get.G_le mm_ _ _ | exact image_reader_bucket.G_le mm_ _ _ | exact image_reader_held.G_le mm_ _ _ | exact Le.refl _ | refine Le.cond ?_ ?_ | refine Le.bind ?_ fun _ => ?_))
/-! ### model_at_1 -/
def model_at_1.G (mm_ : Nat) (h : t9.den) (x1 : Int) : Option (Int × Bool × Unit) :=
 some (x1, (h.1 == x1), ())
theorem model_at_1.G_le (mm_ : Nat) (h : t9.den) (x1 : Int) : Le (model_at_1.G mm_ h x1) (model_at_1.F h x1) := by
 rw [model_at_1.F_eq]; unfold model_at_1.G; (repeat' (with_reducible first   | exact Le.refl _ | refine Le.cond ?_ ?_ | refine Le.bind ?_ fun _ => ?_))
/-! ### slices_IndexFunc_1101 -/
@[reducible] def slices_IndexFunc_1101.KT : Type := ((List t9.den) → Int → Int → Int → (Option (Int × Int × Unit))) × ((List t9.den) → Int → Int → Int → (Option (Int × Int × Unit))) × ((List t9.den) → Int → Int → Int → (Option (Int × Int × Unit)))
@[reducible] def slices_IndexFunc_1101.Ok (KK_ : slices_IndexFunc_1101.KT) : Prop := (∀ s t7_ t8_ b0, Le (KK_.1 s t7_ t8_ b0) (slices_IndexFunc_1101.L1 s t7_ t8_ b0)) ∧ (∀ s t7_ t8_ b0, Le (KK_.2.1 s t7_ t8_ b0) (slices_IndexFunc_1101.L2 s t7_ t8_ b0)) ∧ (∀ s t7_ t8_ b0, Le (KK_.2.2 s t7_ t8_ b0) (slices_IndexFunc_1101.L3 s t7_ t8_ b0))
def slices_IndexFunc_1101.step (mm_ : Nat) (KK_ : slices_IndexFunc_1101.KT) : slices_IndexFunc_1101.KT := ((fun s t7_ t8_ b0 =>
 bif (decide ((t8_ : Int) < t7_)) then
 KK_.2.1 s t7_ t8_ b0
 else
 some (b0, (-1), ())),
(fun s t7_ t8_ b0 =>
 bif (decide ((0 : Int) ≤ t8_ ∧ (t8_ : Int) < ((List.length s : Int)))) then
 ((model_at_1.G mm_) (List.getD s (Int.toNat t8_) d9_) b0).bind fun r0 =>
 bif r0.2.1 then
 some (r0.1, t8_, ())
 else
 KK_.2.2 s t7_ t8_ r0.1
 else none),
(fun s t7_ t8_ b0 =>
 KK_.1 s t7_ (IntKind.wrap .i64 (t8_ + 1)) b0))
def slices_IndexFunc_1101.K (mm_ : Nat) : Nat → slices_IndexFunc_1101.KT
| 0 => ((fun _ _ _ _ => none), (fun _ _ _ _ => none), (fun _ _ _ _ => none))
| nn_ + 1 => slices_IndexFunc_1101.step mm_ (slices_IndexFunc_1101.K mm_ nn_)
theorem slices_IndexFunc_1101.step_le (mm_ : Nat) (KK_ : slices_IndexFunc_1101.KT) (hh_ : slices_IndexFunc_1101.Ok KK_) : slices_IndexFunc_1101.Ok (slices_IndexFunc_1101.step mm_ KK_) := by
 refine ⟨fun _ _ _ _ => ?_, fun _ _ _ _ => ?_, fun _ _ _ _ => ?_⟩
 rw [slices_IndexFunc_1101.L1_eq]; rotate_left
 rw [slices_IndexFunc_1101.L2_eq]; rotate_left
 rw [slices_IndexFunc_1101.L3_eq]; rotate_left
 all_goals dsimp only [slices_IndexFunc_1101.step]
 all_goals (repeat' (with_reducible first | exact hh_.1 _ _ _ _ | exact hh_.2.1 _ _ _ _ | exact hh_.2.2 _ _ _ _ | exact model_at_1.G_le mm_ _ _ | exact Le.refl _ | refine Le.cond ?_ ?_ | refine Le.bind ?_ fun _ => ?_))
theorem slices_IndexFunc_1101.K_le (mm_ : Nat) : ∀ nn_, slices_IndexFunc_1101.Ok (slices_IndexFunc_1101.K mm_ nn_)
| 0 => ⟨fun _ _ _ _ => Le.none _, fun _ _ _ _ => Le.none _, fun _ _ _ _ => Le.none _⟩
| nn_ + 1 => slices_IndexFunc_1101.step_le mm_ (slices_IndexFunc_1101.K mm_ nn_) (slices_IndexFunc_1101.K_le mm_ nn_)
def slices_IndexFunc_1101.G (mm_ : Nat) (s : List t9.den) (f : Int) : Option (Int × Int × Unit) :=
 (slices_IndexFunc_1101.K mm_ mm_).1 s ((List.length s : Int)) 0 f
theorem slices_IndexFunc_1101.G_le (mm_ : Nat) (s : List t9.den) (f : Int) : Le (slices_IndexFunc_1101.G mm_ s f) (slices_IndexFunc_1101.F s f) := by
 rw [slices_IndexFunc_1101.F_eq]; unfold slices_IndexFunc_1101.G; (repeat' (with_reducible first | exact (slices_IndexFunc_1101.K_le mm_ mm_).1 _ _ _ _ | exact (slices_IndexFunc_1101.K_le mm_ mm_).2.1 _ _ _ _ | exact (slices_IndexFunc_1101.K_le mm_ mm_).2.2 _ _ _ _ | exact model_at_1.G_le mm_ _ _ | exact Le.refl _ | refine Le.cond ?_ ?_ | refine Le.bind ?_ fun _ => ?_))
/-! ### model_at -/
def model_at.G (mm_ : Nat) (l : List t9.den) (key : Int) : Option (Int × Unit) :=
 ((slices_IndexFunc_1101.G mm_) l key).bind fun r0 =>
 some (r0.2.1, ())
theorem model_at.G_le (mm_ : Nat) (l : List t9.den) (key : Int) : Le (model_at.G mm_ l key) (model_at.F l key) := by
 rw [model_at.F_eq]; unfold model_at.G; (repeat' (with_reducible first  | exact slices_IndexFunc_1101.G_le mm_ _ _ | exact Le.refl _ | refine Le.cond ?_ ?_ | refine Le.bind ?_ fun _ => ?_))
/-! ### model_held -/
@[reducible] def model_held.KT : Type := ((List t9.den) → Int → Int → Int → Int → (Option (Bool × Unit))) × ((List t9.den) → Int → Int → Int → Int → Int → Int → (Option (Bool × Unit))) × ((List t9.den) → Int → Int → Int → Int → Int → Int → (Option (Bool × Unit))) × ((List t9.den) → Int → Int → Int → Int → Int → Int → (Option (Bool × Unit)))
@[reducible] def model_held.Ok (KK_ : model_held.KT) : Prop := (∀ l key b0 b02 b03, Le (KK_.1 l key b0 b02 b03) (model_held.L1 l key b0 b02 b03)) ∧ (∀ l key t16_ t17_ b0 b02 b03, Le (KK_.2.1 l key t16_ t17_ b0 b02 b03) (model_held.L2 l key t16_ t17_ b0 b02 b03)) ∧ (∀ l key t16_ t17_ b0 b02 b03, Le (KK_.2.2.1 l key t16_ t17_ b0 b02 b03) (model_held.L3 l key t16_ t17_ b0 b02 b03)) ∧ (∀ l key t16_ t17_ b0 b02 b03, Le (KK_.2.2.2 l key t16_ t17_ b0 b02 b03) (model_held.L4 l key t16_ t17_ b0 b02 b03))
def model_held.step (mm_ : Nat) (KK_ : model_held.KT) : model_held.KT := ((fun l key b0 b02 b03 =>
 KK_.2.1 l key ((List.length l : Int)) 0 b0 b02 b03),
(fun l key t16_ t17_ b0 b02 b03 =>
 bif (decide ((t17_ : Int) < t16_)) then
 KK_.2.2.1 l key t16_ t17_ b0 b02 b03
 else
 some (true, ())),
(fun l key t16_ t17_ b0 b02 b03 =>
 bif (decide ((0 : Int) ≤ t17_ ∧ (t17_ : Int) < ((List.length l : Int)))) then
 bif (decide ((((List.getD l (Int.toNat t17_) d9_).1) : Int) > key)) then
 some (false, ())
 else
 bif (decide ((0 : Int) ≤ 0 ∧ (0 : Int) ≤ t17_ ∧ (t17_ : Int) ≤ ((List.length l : Int)))) then
  ((model_at.G mm_) (List.take ((Int.toNat t17_) - (Int.toNat 0)) (List.drop (Int.toNat 0) l)) ((List.getD l (Int.toNat t17_) d9_).1)).bind fun r0 =>
  bif (decide ((r0.1 : Int) ≥ 0)) then
  some (false, ())
  else
  bif (!(Ty.beq t0 ((((List.getD l (Int.toNat t17_) d9_).2).1).1) (b0, b02, b03, ()))) then
   some (false, ())
  else
   ((bucket_Check.G mm_) (((List.getD l (Int.toNat t17_) d9_).2).1)).bind fun r1 =>
   bif (r1.1 != 0) then
   some (false, ())
   else
   KK_.2.2.2 l key t16_ t17_ b0 b02 b03
 else none
 else none),
(fun l key t16_ t17_ b0 b02 b03 =>
 KK_.2.1 l key t16_ (IntKind.wrap .i64 (t17_ + 1)) b0 b02 b03))
def model_held.K (mm_ : Nat) : Nat → model_held.KT
| 0 => ((fun _ _ _ _ _ => none), (fun _ _ _ _ _ _ _ => none), (fun _ _ _ _ _ _ _ => none), (fun _ _ _ _ _ _ _ => none))
| nn_ + 1 => model_held.step mm_ (model_held.K mm_ nn_)
theorem model_held.step_le (mm_ : Nat) (KK_ : model_held.KT) (hh_ : model_held.Ok KK_) : model_held.Ok (model_held.step mm_ KK_) := by
 refine ⟨fun _ _ _ _ _ => ?_, fun _ _ _ _ _ _ _ => ?_, fun _ _ _ _ _ _ _ => ?_, fun _ _ _ _ _ _ _ => ?_⟩
 rw [model_held.L1_eq]; rotate_left
 rw [model_held.L2_eq]; rotate_left
 rw [model_held.L3_eq]; rotate_left
 rw [model_held.L4_eq]; rotate_left
 all_goals dsimp only [model_held.step]
 all_goals (repeat' (with_reducible first | exact hh_.1 _ _ _ _ _ | exact hh_.2.1 _ _ _ _ _ _ _ | exact hh_.2.2.1 _ _ _ _ _ _ _ | exact hh_.2.2.2 _ _ _ _ _ _ _ | exact model_at.G_le mm_ _ _ | exact bucket_Check.G_le mm_ _ | exact Le.refl _ | refine Le.cond ?_ ?_ | refine Le.bind ?_ fun _ => ?_))
theorem model_held.K_le (mm_ : Nat) : ∀ nn_, model_held.Ok (model_held.K mm_ nn_)
| 0 => ⟨fun _ _ _ _ _ => Le.none _, fun _ _ _ _ _ _ _ => Le.none _, fun _ _ _ _ _ _ _ => Le.none _, fun _ _ _ _ _ _ _ => Le.none _⟩
| nn_ + 1 => model_held.step_le mm_ (model_held.K mm_ nn_) (model_held.K_le mm_ nn_)
def model_held.G (mm_ : Nat) (l : List t9.den) (most : Int) (limit : t0.den) (key : Int) : Option (Bool × Unit) :=
 bif (decide ((((List.length l : Int)) : Int) > most)) then
 some (false, ())
 else
 (model_held.K mm_ mm_).1 l key limit.1 limit.2.1 limit.2.2.1
theorem model_held.G_le (mm_ : Nat) (l : List t9.den) (most : Int) (limit : t0.den) (key : Int) : Le (model_held.G mm_ l most limit key) (model_held.F l most limit key) := by
 rw [model_held.F_eq]; unfold model_held.G; (repeat' (with_reducible first | exact (model_held.K_le mm_ mm_).1 _ _ _ _ _ | exact (model_held.K_le mm_ mm_).2.1 _ _ _ _ _ _ _ | exact (model_held.K_le mm_ mm_).2.2.1 _ _ _ _ _ _ _ | exact (model_held.K_le mm_ mm_).2.2.2 _ _ _ _ _ _ _ | exact model_at.G_le mm_ _ _ | exact bucket_Check.G_le mm_ _ | exact Le.refl _ | refine Le.cond ?_ ?_ | refine Le.bind ?_ fun _ => ?_))
/-! ### model_valid -/
@[reducible] def model_valid.KT : Type := ((List t0.den) → Int → Int → (List Int) → Int → Int → Int → Int → Int → Int → (List t9.den) → (List t9.den) → (List Int) → Int → Int → Int → (Option (Bool × Unit))) × ((List t0.den) → Int → Int → (List Int) → Int → Int → Int → Int → Int → Int → (List t9.den) → (List t9.den) → (List Int) → Int → Int → Int → (Option (Bool × Unit))) × (Int → Int → (List t0.den) → (List Int) → Int → Int → Int → Int → Int → Int → (List t9.den) → (List t9.den) → (List Int) → Int → Int → Int → (Option (Bool × Unit))) × (Int → Int → (List t0.den) → (List Int) → Int → Int → Int → Int → Int → Int → (List t9.den) → (List t9.den) → (List Int) → Int → Int → Int → (Option (Bool × Unit))) × (Int → (List t0.den) → (List Int) → Int → Int → Int → Int → Int → Int → (List t9.den) → (List t9.den) → (List Int) → Int → Int → Int → (Option (Bool × Unit))) × (Int → Int → (List t0.den) → (List Int) → Int → Int → Int → Int → Int → Int → (List t9.den) → (List t9.den) → (List Int) → Int → Int → Int → (Option (Bool × Unit))) × ((List t0.den) → Int → Int → (List Int) → Int → Int → Int → Int → Int → Int → (List t9.den) → (List t9.den) → (List Int) → Int → Int → Int → (Option (Bool × Unit)))
@[reducible] def model_valid.Ok (KK_ : model_valid.KT) : Prop := (∀ t7_ t8_ b0 b02 b03 b04 b05 b06 b07 b08 b09 b010 b011 b012 b013 b014, Le (KK_.1 t7_ t8_ b0 b02 b03 b04 b05 b06 b07 b08 b09 b010 b011 b012 b013 b014) (model_valid.L1 t7_ t8_ b0 b02 b03 b04 b05 b06 b07 b08 b09 b010 b011 b012 b013 b014)) ∧ (∀ t7_ t8_ b0 b02 b03 b04 b05 b06 b07 b08 b09 b010 b011 b012 b013 b014, Le (KK_.2.1 t7_ t8_ b0 b02 b03 b04 b05 b06 b07 b08 b09 b010 b011 b012 b013 b014) (model_valid.L2 t7_ t8_ b0 b02 b03 b04 b05 b06 b07 b08 b09 b010 b011 b012 b013 b014)) ∧ (∀ i b0 b02 b03 b04 b05 b06 b07 b08 b09 b010 b011 b012 b013 b014 b015, Le (KK_.2.2.1 i b0 b02 b03 b04 b05 b06 b07 b08 b09 b010 b011 b012 b013 b014 b015) (model_valid.L3 i b0 b02 b03 b04 b05 b06 b07 b08 b09 b010 b011 b012 b013 b014 b015)) ∧ (∀ i b0 b02 b03 b04 b05 b06 b07 b08 b09 b010 b011 b012 b013 b014 b015, Le (KK_.2.2.2.1 i b0 b02 b03 b04 b05 b06 b07 b08 b09 b010 b011 b012 b013 b014 b015) (model_valid.L4 i b0 b02 b03 b04 b05 b06 b07 b08 b09 b010 b011 b012 b013 b014 b015)) ∧ (∀ b0 b02 b03 b04 b05 b06 b07 b08 b09 b010 b011 b012 b013 b014 b015, Le (KK_.2.2.2.2.1 b0 b02 b03 b04 b05 b06 b07 b08 b09 b010 b011 b012 b013 b014 b015) (model_valid.L5 b0 b02 b03 b04 b05 b06 b07 b08 b09 b010 b011 b012 b013 b014 b015)) ∧ (∀ i b0 b02 b03 b04 b05 b06 b07 b08 b09 b010 b011 b012 b013 b014 b015, Le (KK_.2.2.2.2.2.1 i b0 b02 b03 b04 b05 b06 b07 b08 b09 b010 b011 b012 b013 b014 b015) (model_valid.L6 i b0 b02 b03 b04 b05 b06 b07 b08 b09 b010 b011 b012 b013 b014 b015)) ∧ (∀ t7_ t8_ b0 b02 b03 b04 b05 b06 b07 b08 b09 b010 b011 b012 b013 b014, Le (KK_.2.2.2.2.2.2 t7_ t8_ b0 b02 b03 b04 b05 b06 b07 b08 b09 b010 b011 b012 b013 b014) (model_valid.L7 t7_ t8_ b0 b02 b03 b04 b05 b06 b07 b08 b09 b010 b011 b012 b013 b014))
def model_valid.step (mm_ : Nat) (KK_ : model_valid.KT) : model_valid.KT := ((fun t7_ t8_ b0 b02 b03 b04 b05 b06 b07 b08 b09 b010 b011 b012 b013 b014 =>
 bif (decide ((t8_ : Int) < 3)) then
 KK_.2.1 t7_ t8_ b0 b02 b03 b04 b05 b06 b07 b08 b09 b010 b011 b012 b013 b014
 else
 KK_.2.2.1 1 b0 t7_ b02 b03 b04 b05 b06 b07 b08 b09 b010 b011 b012 b013 b014),
(fun t7_ t8_ b0 b02 b03 b04 b05 b06 b07 b08 b09 b010 b011 b012 b013 b014 =>
 bif (decide ((0 : Int) ≤ t8_ ∧ (t8_ : Int) < 3)) then
 ((bucket_CheckLimit.G mm_) (List.getD t7_ (Int.toNat t8_) (0, 0, 0, ()))).bind fun r0 =>
 bif (r0.1 != 0) then
 some (false, ())
 else
 bif (decide ((t8_ : Int) < 2)) then
  bif (decide ((0 : Int) ≤ t8_ ∧ (t8_ : Int) < 2)) then
  bif (decide (((List.getD b02 (Int.toNat t8_) 0) : Int) < 1)) then
   some (false, ())
  else
   bif (decide ((0 : Int) ≤ t8_ ∧ (t8_ : Int) < 2)) then
   bif (decide (((List.getD b02 (Int.toNat t8_) 0) : Int) > 8)) then
    some (false, ())
   else
    KK_.2.2.2.2.2.2 t7_ t8_ b0 b02 b03 b04 b05 b06 b07 b08 b09 b010 b011 b012 b013 b014
   else none
  else none
 else
  KK_.2.2.2.2.2.2 t7_ t8_ b0 b02 b03 b04 b05 b06 b07 b08 b09 b010 b011 b012 b013 b014
 else none),
(fun i b0 b02 b03 b04 b05 b06 b07 b08 b09 b010 b011 b012 b013 b014 b015 =>
 bif (decide ((i : Int) < ((List.length b012 : Int)))) then
 KK_.2.2.2.1 i b0 b02 b03 b04 b05 b06 b07 b08 b09 b010 b011 b012 b013 b014 b015
 else
 bif (decide ((b0 : Int) ≥ 16)) then
 some (false, ())
 else
 bif (decide ((((List.length b012 : Int)) : Int) > 8)) then
  some (false, ())
 else
  bif (decide ((0 : Int) ≤ 0 ∧ (0 : Int) < 3)) then
  bif (!(Ty.beq t0 (b04, b05, b06, ()) (List.getD b02 (Int.toNat 0) (0, 0, 0, ())))) then
   some (false, ())
  else
   ((bucket_Check.G mm_) ((b04, b05, b06, ()), b07, b08, b09, ())).bind fun r0 =>
   bif (r0.1 != 0) then
   some (false, ())
   else
   KK_.2.2.2.2.1 b0 b02 b03 b04 b05 b06 b07 b08 b09 b010 b011 b012 b013 b014 b015
  else none),
(fun i b0 b02 b03 b04 b05 b06 b07 b08 b09 b010 b011 b012 b013 b014 b015 =>
 bif (decide ((0 : Int) ≤ i ∧ (i : Int) < ((List.length b012 : Int)))) then
 bif (decide ((0 : Int) ≤ (IntKind.wrap .i64 (i - 1)) ∧ ((IntKind.wrap .i64 (i - 1)) : Int) < ((List.length b012 : Int)))) then
 bif (decide (((List.getD b012 (Int.toNat i) 0) : Int) ≤ (List.getD b012 (Int.toNat (IntKind.wrap .i64 (i - 1))) 0))) then
  some (false, ())
 else
  KK_.2.2.2.2.2.1 i b0 b02 b03 b04 b05 b06 b07 b08 b09 b010 b011 b012 b013 b014 b015
 else none
 else none),
(fun b0 b02 b03 b04 b05 b06 b07 b08 b09 b010 b011 b012 b013 b014 b015 =>
 bif (decide ((0 : Int) ≤ 0 ∧ (0 : Int) < 2)) then
 bif (decide ((0 : Int) ≤ 1 ∧ (1 : Int) < 3)) then
 ((model_held.G mm_) b010 (List.getD b03 (Int.toNat 0) 0) (List.getD b02 (Int.toNat 1) (0, 0, 0, ())) 4294967295).bind fun r0 =>
 bif r0.1 then
  bif (decide ((0 : Int) ≤ 1 ∧ (1 : Int) < 2)) then
  bif (decide ((0 : Int) ≤ 2 ∧ (2 : Int) < 3)) then
   ((model_held.G mm_) b011 (List.getD b03 (Int.toNat 1) 0) (List.getD b02 (Int.toNat 2) (0, 0, 0, ())) 65535).bind fun r1 =>
   some (r1.1, ())
  else none
  else none
 else
  some (false, ())
 else none
 else none),
(fun i b0 b02 b03 b04 b05 b06 b07 b08 b09 b010 b011 b012 b013 b014 b015 =>
 KK_.2.2.1 (IntKind.wrap .i64 (i + 1)) b0 b02 b03 b04 b05 b06 b07 b08 b09 b010 b011 b012 b013 b014 b015),
(fun t7_ t8_ b0 b02 b03 b04 b05 b06 b07 b08 b09 b010 b011 b012 b013 b014 =>
 KK_.1 t7_ (IntKind.wrap .i64 (t8_ + 1)) b0 b02 b03 b04 b05 b06 b07 b08 b09 b010 b011 b012 b013 b014))
def model_valid.K (mm_ : Nat) : Nat → model_valid.KT
| 0 => ((fun _ _ _ _ _ _ _ _ _ _ _ _ _ _ _ _ => none), (fun _ _ _ _ _ _ _ _ _ _ _ _ _ _ _ _ => none), (fun _ _ _ _ _ _ _ _ _ _ _ _ _ _ _ _ => none), (fun _ _ _ _ _ _ _ _ _ _ _ _ _ _ _ _ => none), (fun _ _ _ _ _ _ _ _ _ _ _ _ _ _ _ => none), (fun _ _ _ _ _ _ _ _ _ _ _ _ _ _ _ _ => none), (fun _ _ _ _ _ _ _ _ _ _ _ _ _ _ _ _ => none))
| nn_ + 1 => model_valid.step mm_ (model_valid.K mm_ nn_)
theorem model_valid.step_le (mm_ : Nat) (KK_ : model_valid.KT) (hh_ : model_valid.Ok KK_) : model_valid.Ok (model_valid.step mm_ KK_) := by
 refine ⟨fun _ _ _ _ _ _ _ _ _ _ _ _ _ _ _ _ => ?_, fun _ _ _ _ _ _ _ _ _ _ _ _ _ _ _ _ => ?_, fun _ _ _ _ _ _ _ _ _ _ _ _ _ _ _ _ => ?_, fun _ _ _ _ _ _ _ _ _ _ _ _ _ _ _ _ => ?_, fun _ _ _ _ _ _ _ _ _ _ _ _ _ _ _ => ?_, fun _ _ _ _ _ _ _ _ _ _ _ _ _ _ _ _ => ?_, fun _ _ _ _ _ _ _ _ _ _ _ _ _ _ _ _ => ?_⟩
 rw [model_valid.L1_eq]; rotate_left
 rw [model_valid.L2_eq]; rotate_left
 rw [model_valid.L3_eq]; rotate_left
 rw [model_valid.L4_eq]; rotate_left
 rw [model_valid.L5_eq]; rotate_left
 rw [model_valid.L6_eq]; rotate_left
 rw [model_valid.L7_eq]; rotate_left
 all_goals dsimp only [model_valid.step]
 all_goals (repeat' (with_reducible first | exact hh_.1 _ _ _ _ _ _ _ _ _ _ _ _ _ _ _ _ | exact hh_.2.1 _ _ _ _ _ _ _ _ _ _ _ _ _ _ _ _ | exact hh_.2.2.1 _ _ _ _ _ _ _ _ _ _ _ _ _ _ _ _ | exact hh_.2.2.2.1 _ _ _ _ _ _ _ _ _ _ _ _ _ _ _ _ | exact hh_.2.2.2.2.1 _ _ _ _ _ _ _ _ _ _ _ _ _ _ _ | exact hh_.2.2.2.2.2.1 _ _ _ _ _ _ _ _ _ _ _ _ _ _ _ _ | exact hh_.2.2.2.2.2.2 _ _ _ _ _ _ _ _ _ _ _ _ _ _ _ _ | exact bucket_CheckLimit.G_le mm_ _ | exact bucket_Check.G_le mm_ _ | exact model_held.G_le mm_ _ _ _ _ | exact Le.refl _ | refine Le.cond ?_ ?_ | refine Le.bind ?_ fun _ => ?_))
theorem model_valid.K_le (mm_ : Nat) : ∀ nn_, model_valid.Ok (model_valid.K mm_ nn_)
| 0 => ⟨fun _ _ _ _ _ _ _ _ _ _ _ _ _ _ _ _ => Le.none _, fun _ _ _ _ _ _ _ _ _ _ _ _ _ _ _ _ => Le.none _, fun _ _ _ _ _ _ _ _ _ _ _ _ _ _ _ _ => Le.none _, fun _ _ _ _ _ _ _ _ _ _ _ _ _ _ _ _ => Le.none _, fun _ _ _ _ _ _ _ _ _ _ _ _ _ _ _ => Le.none _, fun _ _ _ _ _ _ _ _ _ _ _ _ _ _ _ _ => Le.none _, fun _ _ _ _ _ _ _ _ _ _ _ _ _ _ _ _ => Le.none _⟩
| nn_ + 1 => model_valid.step_le mm_ (model_valid.K mm_ nn_) (model_valid.K_le mm_ nn_)
def model_valid.G (mm_ : Nat) (a : t10.den) : Option (Bool × Unit) :=
 (model_valid.K mm_ mm_).1 a.2.1 0 a.1 a.2.2.1 a.2.2.2.1.1.1 a.2.2.2.1.1.2.1 a.2.2.2.1.1.2.2.1 a.2.2.2.1.2.1 a.2.2.2.1.2.2.1 a.2.2.2.1.2.2.2.1 a.2.2.2.2.1 a.2.2.2.2.2.1 a.2.2.2.2.2.2.1 a.2.2.2.2.2.2.2.1.1 a.2.2.2.2.2.2.2.1.2.1 a.2.2.2.2.2.2.2.1.2.2.1
theorem model_valid.G_le (mm_ : Nat) (a : t10.den) : Le (model_valid.G mm_ a) (model_valid.F a) := by
 rw [model_valid.F_eq]; unfold model_valid.G; (repeat' (with_reducible first | exact (model_valid.K_le mm_ mm_).1 _ _ _ _ _ _ _ _ _ _ _ _ _ _ _ _ | exact (model_valid.K_le mm_ mm_).2.1 _ _ _ _ _ _ _ _ _ _ _ _ _ _ _ _ | exact (model_valid.K_le mm_ mm_).2.2.1 _ _ _ _ _ _ _ _ _ _ _ _ _ _ _ _ | exact (model_valid.K_le mm_ mm_).2.2.2.1 _ _ _ _ _ _ _ _ _ _ _ _ _ _ _ _ | exact (model_valid.K_le mm_ mm_).2.2.2.2.1 _ _ _ _ _ _ _ _ _ _ _ _ _ _ _ | exact (model_valid.K_le mm_ mm_).2.2.2.2.2.1 _ _ _ _ _ _ _ _ _ _ _ _ _ _ _ _ | exact (model_valid.K_le mm_ mm_).2.2.2.2.2.2 _ _ _ _ _ _ _ _ _ _ _ _ _ _ _ _ | exact bucket_CheckLimit.G_le mm_ _ | exact bucket_Check.G_le mm_ _ | exact model_held.G_le mm_ _ _ _ _ | exact Le.refl _ | refine Le.cond ?_ ?_ | refine Le.bind ?_ fun _ => ?_))
/-! ### model_Check_2 -/
def model_Check_2.G (mm_ : Nat) (h : t9.den) (x1 : t11.den) : Option (t11.den × Bool × Unit) :=
 some (x1, (decide ((h.2.1.2.2.2.1 : Int) > x1.1)), ())
theorem model_Check_2.G_le (mm_ : Nat) (h : t9.den) (x1 : t11.den) : Le (model_Check_2.G mm_ h x1) (model_Check_2.F h x1) := by
 rw [model_Check_2.F_eq]; unfold model_Check_2.G; (repeat' (with_reducible first   | exact Le.refl _ | refine Le.cond ?_ ?_ | refine Le.bind ?_ fun _ => ?_))
/-! ### slices_IndexFunc_101 -/
@[reducible] def slices_IndexFunc_101.KT : Type := ((List t9.den) → Int → Int → Int → (List Int) → (List Int) → (List t10.den) → (Option (t11.den × Int × Unit))) × ((List t9.den) → Int → Int → Int → (List Int) → (List Int) → (List t10.den) → (Option (t11.den × Int × Unit))) × ((List t9.den) → Int → Int → Int → (List Int) → (List Int) → (List t10.den) → (Option (t11.den × Int × Unit)))
@[reducible] def slices_IndexFunc_101.Ok (KK_ : slices_IndexFunc_101.KT) : Prop := (∀ s t7_ t8_ b0 b02 b03 b04, Le (KK_.1 s t7_ t8_ b0 b02 b03 b04) (slices_IndexFunc_101.L1 s t7_ t8_ b0 b02 b03 b04)) ∧ (∀ s t7_ t8_ b0 b02 b03 b04, Le (KK_.2.1 s t7_ t8_ b0 b02 b03 b04) (slices_IndexFunc_101.L2 s t7_ t8_ b0 b02 b03 b04)) ∧ (∀ s t7_ t8_ b0 b02 b03 b04, Le (KK_.2.2 s t7_ t8_ b0 b02 b03 b04) (slices_IndexFunc_101.L3 s t7_ t8_ b0 b02 b03 b04))
def slices_IndexFunc_101.step (mm_ : Nat) (KK_ : slices_IndexFunc_101.KT) : slices_IndexFunc_101.KT := ((fun s t7_ t8_ b0 b02 b03 b04 =>
 bif (decide ((t8_ : Int) < t7_)) then
 KK_.2.1 s t7_ t8_ b0 b02 b03 b04
 else
 some ((b0, b02, b03, b04, ()), (-1), ())),
(fun s t7_ t8_ b0 b02 b03 b04 =>
 bif (decide ((0 : Int) ≤ t8_ ∧ (t8_ : Int) < ((List.length s : Int)))) then
 ((model_Check_2.G mm_) (List.getD s (Int.toNat t8_) d9_) (b0, b02, b03, b04, ())).bind fun r0 =>
 bif r0.2.1 then
 some (r0.1, t8_, ())
 else
 KK_.2.2 s t7_ t8_ r0.1.1 r0.1.2.1 r0.1.2.2.1 r0.1.2.2.2.1
 else none),
(fun s t7_ t8_ b0 b02 b03 b04 =>
 KK_.1 s t7_ (IntKind.wrap .i64 (t8_ + 1)) b0 b02 b03 b04))
def slices_IndexFunc_101.K (mm_ : Nat) : Nat → slices_IndexFunc_101.KT
| 0 => ((fun _ _ _ _ _ _ _ => none), (fun _ _ _ _ _ _ _ => none), (fun _ _ _ _ _ _ _ => none))
| nn_ + 1 => slices_IndexFunc_101.step mm_ (slices_IndexFunc_101.K mm_ nn_)
theorem slices_IndexFunc_101.step_le (mm_ : Nat) (KK_ : slices_IndexFunc_101.KT) (hh_ : slices_IndexFunc_101.Ok KK_) : slices_IndexFunc_101.Ok (slices_IndexFunc_101.step mm_ KK_) := by
 refine ⟨fun _ _ _ _ _ _ _ => ?_, fun _ _ _ _ _ _ _ => ?_, fun _ _ _ _ _ _ _ => ?_⟩
 rw [slices_IndexFunc_101.L1_eq]; rotate_left
 rw [slices_IndexFunc_101.L2_eq]; rotate_left
 rw [slices_IndexFunc_101.L3_eq]; rotate_left
 all_goals dsimp only [slices_IndexFunc_101.step]
 all_goals (repeat' (with_reducible first | exact hh_.1 _ _ _ _ _ _ _ | exact hh_.2.1 _ _ _ _ _ _ _ | exact hh_.2.2 _ _ _ _ _ _ _ | exact model_Check_2.G_le mm_ _ _ | exact Le.refl _ | refine Le.cond ?_ ?_ | refine Le.bind ?_ fun _ => ?_))
theorem slices_IndexFunc_101.K_le (mm_ : Nat) : ∀ nn_, slices_IndexFunc_101.Ok (slices_IndexFunc_101.K mm_ nn_)
| 0 => ⟨fun _ _ _ _ _ _ _ => Le.none _, fun _ _ _ _ _ _ _ => Le.none _, fun _ _ _ _ _ _ _ => Le.none _⟩
| nn_ + 1 => slices_IndexFunc_101.step_le mm_ (slices_IndexFunc_101.K mm_ nn_) (slices_IndexFunc_101.K_le mm_ nn_)
def slices_IndexFunc_101.G (mm_ : Nat) (s : List t9.den) (f : t11.den) : Option (t11.den × Int × Unit) :=
 (slices_IndexFunc_101.K mm_ mm_).1 s ((List.length s : Int)) 0 f.1 f.2.1 f.2.2.1 f.2.2.2.1
theorem slices_IndexFunc_101.G_le (mm_ : Nat) (s : List t9.den) (f : t11.den) : Le (slices_IndexFunc_101.G mm_ s f) (slices_IndexFunc_101.F s f) := by
 rw [slices_IndexFunc_101.F_eq]; unfold slices_IndexFunc_101.G; (repeat' (with_reducible first | exact (slices_IndexFunc_101.K_le mm_ mm_).1 _ _ _ _ _ _ _ | exact (slices_IndexFunc_101.K_le mm_ mm_).2.1 _ _ _ _ _ _ _ | exact (slices_IndexFunc_101.K_le mm_ mm_).2.2 _ _ _ _ _ _ _ | exact model_Check_2.G_le mm_ _ _ | exact Le.refl _ | refine Le.cond ?_ ?_ | refine Le.bind ?_ fun _ => ?_))
/-! ### slices_ContainsFunc_71 -/
def slices_ContainsFunc_71.G (mm_ : Nat) (s : List t9.den) (f : t11.den) : Option (t11.den × Bool × Unit) :=
 ((slices_IndexFunc_101.G mm_) s f).bind fun r0 =>
 some (r0.1, (decide ((r0.2.1 : Int) ≥ 0)), ())
theorem slices_ContainsFunc_71.G_le (mm_ : Nat) (s : List t9.den) (f : t11.den) : Le (slices_ContainsFunc_71.G mm_ s f) (slices_ContainsFunc_71.F s f) := by
 rw [slices_ContainsFunc_71.F_eq]; unfold slices_ContainsFunc_71.G; (repeat' (with_reducible first  | exact slices_IndexFunc_101.G_le mm_ _ _ | exact Le.refl _ | refine Le.cond ?_ ?_ | refine Le.bind ?_ fun _ => ?_))
/-! ### model_Check_1 -/
def model_Check_1.G (mm_ : Nat) (e : Int) : Option (Bool × Unit) :=
 some ((decide ((e : Int) > 1000000)), ())
theorem model_Check_1.G_le (mm_ : Nat) (e : Int) : Le (model_Check_1.G mm_ e) (model_Check_1.F e) := by
 rw [model_Check_1.F_eq]; unfold model_Check_1.G; (repeat' (with_reducible first   | exact Le.refl _ | refine Le.cond ?_ ?_ | refine Le.bind ?_ fun _ => ?_))
/-! ### slices_IndexFunc_97 -/
@[reducible] def slices_IndexFunc_97.KT : Type := ((List Int) → Int → Int → (Option (Int × Unit))) × ((List Int) → Int → Int → (Option (Int × Unit))) × ((List Int) → Int → Int → (Option (Int × Unit)))
@[reducible] def slices_IndexFunc_97.Ok (KK_ : slices_IndexFunc_97.KT) : Prop := (∀ s t7_ t8_, Le (KK_.1 s t7_ t8_) (slices_IndexFunc_97.L1 s t7_ t8_)) ∧ (∀ s t7_ t8_, Le (KK_.2.1 s t7_ t8_) (slices_IndexFunc_97.L2 s t7_ t8_)) ∧ (∀ s t7_ t8_, Le (KK_.2.2 s t7_ t8_) (slices_IndexFunc_97.L3 s t7_ t8_))
def slices_IndexFunc_97.step (mm_ : Nat) (KK_ : slices_IndexFunc_97.KT) : slices_IndexFunc_97.KT := ((fun s t7_ t8_ =>
 bif (decide ((t8_ : Int) < t7_)) then
 KK_.2.1 s t7_ t8_
 else
 some ((-1), ())),
(fun s t7_ t8_ =>
 bif (decide ((0 : Int) ≤ t8_ ∧ (t8_ : Int) < ((List.length s : Int)))) then
 ((model_Check_1.G mm_) (List.getD s (Int.toNat t8_) 0)).bind fun r0 =>
 bif r0.1 then
 some (t8_, ())
 else
 KK_.2.2 s t7_ t8_
 else none),
(fun s t7_ t8_ =>
 KK_.1 s t7_ (IntKind.wrap .i64 (t8_ + 1))))
def slices_IndexFunc_97.K (mm_ : Nat) : Nat → slices_IndexFunc_97.KT
| 0 => ((fun _ _ _ => none), (fun _ _ _ => none), (fun _ _ _ => none))
| nn_ + 1 => slices_IndexFunc_97.step mm_ (slices_IndexFunc_97.K mm_ nn_)
theorem slices_IndexFunc_97.step_le (mm_ : Nat) (KK_ : slices_IndexFunc_97.KT) (hh_ : slices_IndexFunc_97.Ok KK_) : slices_IndexFunc_97.Ok (slices_IndexFunc_97.step mm_ KK_) := by
 refine ⟨fun _ _ _ => ?_, fun _ _ _ => ?_, fun _ _ _ => ?_⟩
 rw [slices_IndexFunc_97.L1_eq]; rotate_left
 rw [slices_IndexFunc_97.L2_eq]; rotate_left
 rw [slices_IndexFunc_97.L3_eq]; rotate_left
 all_goals dsimp only [slices_IndexFunc_97.step]
 all_goals (repeat' (with_reducible first | exact hh_.1 _ _ _ | exact hh_.2.1 _ _ _ | exact hh_.2.2 _ _ _ | exact model_Check_1.G_le mm_ _ | exact Le.refl _ | refine Le.cond ?_ ?_ | refine Le.bind ?_ fun _ => ?_))
theorem slices_IndexFunc_97.K_le (mm_ : Nat) : ∀ nn_, slices_IndexFunc_97.Ok (slices_IndexFunc_97.K mm_ nn_)
| 0 => ⟨fun _ _ _ => Le.none _, fun _ _ _ => Le.none _, fun _ _ _ => Le.none _⟩
| nn_ + 1 => slices_IndexFunc_97.step_le mm_ (slices_IndexFunc_97.K mm_ nn_) (slices_IndexFunc_97.K_le mm_ nn_)
def slices_IndexFunc_97.G (mm_ : Nat) (s : List Int) : Option (Int × Unit) :=
 (slices_IndexFunc_97.K mm_ mm_).1 s ((List.length s : Int)) 0
theorem slices_IndexFunc_97.G_le (mm_ : Nat) (s : List Int) : Le (slices_IndexFunc_97.G mm_ s) (slices_IndexFunc_97.F s) := by
 rw [slices_IndexFunc_97.F_eq]; unfold slices_IndexFunc_97.G; (repeat' (with_reducible first | exact (slices_IndexFunc_97.K_le mm_ mm_).1 _ _ _ | exact (slices_IndexFunc_97.K_le mm_ mm_).2.1 _ _ _ | exact (slices_IndexFunc_97.K_le mm_ mm_).2.2 _ _ _ | exact model_Check_1.G_le mm_ _ | exact Le.refl _ | refine Le.cond ?_ ?_ | refine Le.bind ?_ fun _ => ?_))
/-! ### slices_ContainsFunc_67 -/
def slices_ContainsFunc_67.G (mm_ : Nat) (s : List Int) : Option (Bool × Unit) :=
 ((slices_IndexFunc_97.G mm_) s).bind fun r0 =>
 some ((decide ((r0.1 : Int) ≥ 0)), ())
theorem slices_ContainsFunc_67.G_le (mm_ : Nat) (s : List Int) : Le (slices_ContainsFunc_67.G mm_ s) (slices_ContainsFunc_67.F s) := by
 rw [slices_ContainsFunc_67.F_eq]; unfold slices_ContainsFunc_67.G; (repeat' (with_reducible first  | exact slices_IndexFunc_97.G_le mm_ _ | exact Le.refl _ | refine Le.cond ?_ ?_ | refine Le.bind ?_ fun _ => ?_))
/-! ### model_Check -/
@[reducible] def model_Check.KT : Type := (Int → (List Int) → (List Int) → (List t10.den) → (Option (Int × Unit))) × ((List t10.den) → Int → Int → Int → (List Int) → (List Int) → (List t10.den) → (Option (Int × Unit))) × ((List t10.den) → Int → Int → Int → (List Int) → (List Int) → (List t10.den) → (Option (Int × Unit))) × ((List t10.den) → Int → Int → Int → (List Int) → (List Int) → (List t10.den) → (Option (Int × Unit)))
@[reducible] def model_Check.Ok (KK_ : model_Check.KT) : Prop := (∀ b0 b02 b03 b04, Le (KK_.1 b0 b02 b03 b04) (model_Check.L1 b0 b02 b03 b04)) ∧ (∀ t17_ t18_ t19_ b0 b02 b03 b04, Le (KK_.2.1 t17_ t18_ t19_ b0 b02 b03 b04) (model_Check.L2 t17_ t18_ t19_ b0 b02 b03 b04)) ∧ (∀ t17_ t18_ t19_ b0 b02 b03 b04, Le (KK_.2.2.1 t17_ t18_ t19_ b0 b02 b03 b04) (model_Check.L3 t17_ t18_ t19_ b0 b02 b03 b04)) ∧ (∀ t17_ t18_ t19_ b0 b02 b03 b04, Le (KK_.2.2.2 t17_ t18_ t19_ b0 b02 b03 b04) (model_Check.L4 t17_ t18_ t19_ b0 b02 b03 b04))
def model_Check.step (mm_ : Nat) (KK_ : model_Check.KT) : model_Check.KT := ((fun b0 b02 b03 b04 =>
 KK_.2.1 b04 ((List.length b04 : Int)) 0 b0 b02 b03 b04),
(fun t17_ t18_ t19_ b0 b02 b03 b04 =>
 bif (decide ((t19_ : Int) < t18_)) then
 KK_.2.2.1 t17_ t18_ t19_ b0 b02 b03 b04
 else
 some (0, ())),
(fun t17_ t18_ t19_ b0 b02 b03 b04 =>
 bif (decide ((0 : Int) ≤ t19_ ∧ (t19_ : Int) < ((List.length t17_ : Int)))) then
 ((model_valid.G mm_) (List.getD t17_ (Int.toNat t19_) d10_)).bind fun r0 =>
 bif (!r0.1) then
 some (8, ())
 else
 bif (decide (((((((((((List.getD t17_ (Int.toNat t19_) d10_).2).2).2).1).2).2).2).1) : Int) > b0)) then
  some (8, ())
 else
  ((slices_ContainsFunc_71.G mm_) ((((((List.getD t17_ (Int.toNat t19_) d10_).2).2).2).2).1) (b0, b02, b03, b04, ())).bind fun r1 =>
  bif r1.2.1 then
  some (8, ())
  else
  ((slices_ContainsFunc_71.G mm_) (((((((List.getD t17_ (Int.toNat t19_) d10_).2).2).2).2).2).1) r1.1).bind fun r2 =>
  bif r2.2.1 then
   some (8, ())
  else
   bif (decide ((t19_ : Int) > 0)) then
   bif (decide ((0 : Int) ≤ (IntKind.wrap .i64 (t19_ - 1)) ∧ ((IntKind.wrap .i64 (t19_ - 1)) : Int) < ((List.length r2.1.2.2.2.1 : Int)))) then
    bif (decide ((((List.getD r2.1.2.2.2.1 (Int.toNat (IntKind.wrap .i64 (t19_ - 1))) d10_).1) : Int) ≥ ((List.getD t17_ (Int.toNat t19_) d10_).1))) then
    some (8, ())
    else
    KK_.2.2.2 t17_ t18_ t19_ r2.1.1 r2.1.2.1 r2.1.2.2.1 r2.1.2.2.2.1
   else none
   else
   KK_.2.2.2 t17_ t18_ t19_ r2.1.1 r2.1.2.1 r2.1.2.2.1 r2.1.2.2.2.1
 else none),
(fun t17_ t18_ t19_ b0 b02 b03 b04 =>
 KK_.2.1 t17_ t18_ (IntKind.wrap .i64 (t19_ + 1)) b0 b02 b03 b04))
def model_Check.K (mm_ : Nat) : Nat → model_Check.KT
| 0 => ((fun _ _ _ _ => none), (fun _ _ _ _ _ _ _ => none), (fun _ _ _ _ _ _ _ => none), (fun _ _ _ _ _ _ _ => none))
| nn_ + 1 => model_Check.step mm_ (model_Check.K mm_ nn_)
theorem model_Check.step_le (mm_ : Nat) (KK_ : model_Check.KT) (hh_ : model_Check.Ok KK_) : model_Check.Ok (model_Check.step mm_ KK_) := by
 refine ⟨fun _ _ _ _ => ?_, fun _ _ _ _ _ _ _ => ?_, fun _ _ _ _ _ _ _ => ?_, fun _ _ _ _ _ _ _ => ?_⟩
 rw [model_Check.L1_eq]; rotate_left
 rw [model_Check.L2_eq]; rotate_left
 rw [model_Check.L3_eq]; rotate_left
 rw [model_Check.L4_eq]; rotate_left
 all_goals dsimp only [model_Check.step]
 all_goals (repeat' (with_reducible first | exact hh_.1 _ _ _ _ | exact hh_.2.1 _ _ _ _ _ _ _ | exact hh_.2.2.1 _ _ _ _ _ _ _ | exact hh_.2.2.2 _ _ _ _ _ _ _ | exact model_valid.G_le mm_ _ | exact slices_ContainsFunc_71.G_le mm_ _ _ | exact slices_ContainsFunc_67.G_le mm_ _ | exact Le.refl _ | refine Le.cond ?_ ?_ | refine Le.bind ?_ fun _ => ?_))
theorem model_Check.K_le (mm_ : Nat) : ∀ nn_, model_Check.Ok (model_Check.K mm_ nn_)
| 0 => ⟨fun _ _ _ _ => Le.none _, fun _ _ _ _ _ _ _ => Le.none _, fun _ _ _ _ _ _ _ => Le.none _, fun _ _ _ _ _ _ _ => Le.none _⟩
| nn_ + 1 => model_Check.step_le mm_ (model_Check.K mm_ nn_) (model_Check.K_le mm_ nn_)
def model_Check.G (mm_ : Nat) (m : t11.den) : Option (Int × Unit) :=
 bif (decide ((((List.length m.2.2.2.1 : Int)) : Int) > 8)) then
 some (8, ())
 else
 bif (decide ((0 : Int) ≤ 0 ∧ (0 : Int) ≤ 16 ∧ (16 : Int) ≤ 16)) then
 ((slices_ContainsFunc_67.G mm_) (List.take ((Int.toNat 16) - (Int.toNat 0)) (List.drop (Int.toNat 0) m.2.2.1))).bind fun r0 =>
 bif r0.1 then
  some (8, ())
 else
  (model_Check.K mm_ mm_).1 m.1 m.2.1 m.2.2.1 m.2.2.2.1
 else none
theorem model_Check.G_le (mm_ : Nat) (m : t11.den) : Le (model_Check.G mm_ m) (model_Check.F m) := by
 rw [model_Check.F_eq]; unfold model_Check.G; (repeat' (with_reducible first | exact (model_Check.K_le mm_ mm_).1 _ _ _ _ | exact (model_Check.K_le mm_ mm_).2.1 _ _ _ _ _ _ _ | exact (model_Check.K_le mm_ mm_).2.2.1 _ _ _ _ _ _ _ | exact (model_Check.K_le mm_ mm_).2.2.2 _ _ _ _ _ _ _ | exact model_valid.G_le mm_ _ | exact slices_ContainsFunc_71.G_le mm_ _ _ | exact slices_ContainsFunc_67.G_le mm_ _ | exact Le.refl _ | refine Le.cond ?_ ?_ | refine Le.bind ?_ fun _ => ?_))
/-! ### refine_Build -/
@[reducible] def refine_Build.KT : Type := (Int → (List Int) → (List Int) → (List t10.den) → (List Int) → (List Int) → (List t7.den) → (Option (t8.den × Int × Unit))) × ((List t10.den) → Int → Int → (List Int) → (List Int) → Int → (List Int) → (List Int) → (List t7.den) → (List t7.den) → (Option (t8.den × Int × Unit))) × ((List t10.den) → Int → Int → (List Int) → (List Int) → Int → (List Int) → (List Int) → (List t7.den) → (List t7.den) → (Option (t8.den × Int × Unit)))
@[reducible] def refine_Build.Ok (KK_ : refine_Build.KT) : Prop := (∀ b0 b02 b03 b04 b1 b12 l2, Le (KK_.1 b0 b02 b03 b04 b1 b12 l2) (refine_Build.L1 b0 b02 b03 b04 b1 b12 l2)) ∧ (∀ t22_ t23_ t24_ b0 b02 b1 b12 b13 l2 l3, Le (KK_.2.1 t22_ t23_ t24_ b0 b02 b1 b12 b13 l2 l3) (refine_Build.L2 t22_ t23_ t24_ b0 b02 b1 b12 b13 l2 l3)) ∧ (∀ t22_ t23_ t24_ b0 b02 b1 b12 b13 l2 l3, Le (KK_.2.2 t22_ t23_ t24_ b0 b02 b1 b12 b13 l2 l3) (refine_Build.L3 t22_ t23_ t24_ b0 b02 b1 b12 b13 l2 l3))
def refine_Build.step (mm_ : Nat) (KK_ : refine_Build.KT) : refine_Build.KT := ((fun b0 b02 b03 b04 b1 b12 l2 =>
 KK_.2.1 b04 ((List.length b04 : Int)) 0 b1 b12 b0 b02 b03 l2 ([] : List t7.den)),
(fun t22_ t23_ t24_ b0 b02 b1 b12 b13 l2 l3 =>
 bif (decide ((t24_ : Int) < t23_)) then
 KK_.2.2 t22_ t23_ t24_ b0 b02 b1 b12 b13 l2 l3
 else
 some ((b1, b12, b13, l3, ()), 0, ())),
(fun t22_ t23_ t24_ b0 b02 b1 b12 b13 l2 l3 =>
 bif (decide ((0 : Int) ≤ t24_ ∧ (t24_ : Int) < ((List.length t22_ : Int)))) then
 bif (decide ((0 : Int) ≤ 0 ∧ (0 : Int) < 2)) then
 bif (decide ((0 : Int) ≤ 1 ∧ (1 : Int) < 3)) then
  ((refine_tabled.G mm_) ((((((List.getD t22_ (Int.toNat t24_) d10_).2).2).2).2).1) (List.getD ((((List.getD t22_ (Int.toNat t24_) d10_).2).2).1) (Int.toNat 0) 0) (List.getD (((List.getD t22_ (Int.toNat t24_) d10_).2).1) (Int.toNat 1) (0, 0, 0, ()))).bind fun r0 =>
  bif (decide ((0 : Int) ≤ 1 ∧ (1 : Int) < 2)) then
  bif (decide ((0 : Int) ≤ 2 ∧ (2 : Int) < 3)) then
   ((refine_tabled.G mm_) (((((((List.getD t22_ (Int.toNat t24_) d10_).2).2).2).2).2).1) (List.getD ((((List.getD t22_ (Int.toNat t24_) d10_).2).2).1) (Int.toNat 1) 0) (List.getD (((List.getD t22_ (Int.toNat t24_) d10_).2).1) (Int.toNat 2) (0, 0, 0, ()))).bind fun r1 =>
   bif (lim (List.length ((((((((List.getD t22_ (Int.toNat t24_) d10_).2).2).2).2).2).2).1)) (.int .u32)) then
   bif (lim ((List.length l3) + (List.length ([((List.getD t22_ (Int.toNat t24_) d10_).1, ((List.getD t22_ (Int.toNat t24_) d10_).2).1, ((((List.getD t22_ (Int.toNat t24_) d10_).2).2).2).1, r0.1, r1.1, (((((((List.getD t22_ (Int.toNat t24_) d10_).2).2).2).2).2).2).1, ((((((((List.getD t22_ (Int.toNat t24_) d10_).2).2).2).2).2).2).2).1, ())] : List t7.den))) t7) then
    KK_.2.1 t22_ t23_ (IntKind.wrap .i64 (t24_ + 1)) b0 b02 b1 b12 b13 l2 (l3 ++ ([((List.getD t22_ (Int.toNat t24_) d10_).1, ((List.getD t22_ (Int.toNat t24_) d10_).2).1, ((((List.getD t22_ (Int.toNat t24_) d10_).2).2).2).1, r0.1, r1.1, (((((((List.getD t22_ (Int.toNat t24_) d10_).2).2).2).2).2).2).1, ((((((((List.getD t22_ (Int.toNat t24_) d10_).2).2).2).2).2).2).2).1, ())] : List t7.den))
   else none
   else none
  else none
  else none
 else none
 else none
 else none))
def refine_Build.K (mm_ : Nat) : Nat → refine_Build.KT
| 0 => ((fun _ _ _ _ _ _ _ => none), (fun _ _ _ _ _ _ _ _ _ _ => none), (fun _ _ _ _ _ _ _ _ _ _ => none))
| nn_ + 1 => refine_Build.step mm_ (refine_Build.K mm_ nn_)
theorem refine_Build.step_le (mm_ : Nat) (KK_ : refine_Build.KT) (hh_ : refine_Build.Ok KK_) : refine_Build.Ok (refine_Build.step mm_ KK_) := by
 refine ⟨fun _ _ _ _ _ _ _ => ?_, fun _ _ _ _ _ _ _ _ _ _ => ?_, fun _ _ _ _ _ _ _ _ _ _ => ?_⟩
 rw [refine_Build.L1_eq]; rotate_left
 rw [refine_Build.L2_eq]; rotate_left
 rw [refine_Build.L3_eq]; rotate_left
 all_goals dsimp only [refine_Build.step]
 all_goals (repeat' (with_reducible first | exact hh_.1 _ _ _ _ _ _ _ | exact hh_.2.1 _ _ _ _ _ _ _ _ _ _ | exact hh_.2.2 _ _ _ _ _ _ _ _ _ _ | exact refine_tabled.G_le mm_ _ _ _ | exact model_Check.G_le mm_ _ | exact Le.refl _ | refine Le.cond ?_ ?_ | refine Le.bind ?_ fun _ => ?_))
theorem refine_Build.K_le (mm_ : Nat) : ∀ nn_, refine_Build.Ok (refine_Build.K mm_ nn_)
| 0 => ⟨fun _ _ _ _ _ _ _ => Le.none _, fun _ _ _ _ _ _ _ _ _ _ => Le.none _, fun _ _ _ _ _ _ _ _ _ _ => Le.none _⟩
| nn_ + 1 => refine_Build.step_le mm_ (refine_Build.K mm_ nn_) (refine_Build.K_le mm_ nn_)
def refine_Build.G (mm_ : Nat) (m : t11.den) : Option (t8.den × Int × Unit) :=
 ((model_Check.G mm_) m).bind fun r0 =>
 bif (r0.1 != 0) then
 some ((0, (List.replicate 32 (0 : Int)), (List.replicate 16 (0 : Int)), ([] : List t7.den), ()), r0.1, ())
 else
 (refine_Build.K mm_ mm_).1 m.1 m.2.1 m.2.2.1 m.2.2.2.1 (List.replicate 32 (0 : Int)) (List.replicate 16 (0 : Int)) ([] : List t7.den)
theorem refine_Build.G_le (mm_ : Nat) (m : t11.den) : Le (refine_Build.G mm_ m) (refine_Build.F m) := by
 rw [refine_Build.F_eq]; unfold refine_Build.G; (repeat' (with_reducible first | exact (refine_Build.K_le mm_ mm_).1 _ _ _ _ _ _ _ | exact (refine_Build.K_le mm_ mm_).2.1 _ _ _ _ _ _ _ _ _ _ | exact (refine_Build.K_le mm_ mm_).2.2 _ _ _ _ _ _ _ _ _ _ | exact refine_tabled.G_le mm_ _ _ _ | exact model_Check.G_le mm_ _ | exact Le.refl _ | refine Le.cond ?_ ?_ | refine Le.bind ?_ fun _ => ?_))
/-! ### image_Parse -/
@[reducible] def image_Parse.KT : Type := ((List Int) → (List Int) → (List Int) → (List t7.den) → (Option (t8.den × Int × Unit))) × (Int → (List Int) → (List Int) → (List Int) → Bool → Int → (List Int) → (List Int) → (List t7.den) → (List t10.den) → (Option (t8.den × Int × Unit))) × (Int → (List Int) → (List Int) → (List Int) → Bool → Int → (List Int) → (List Int) → (List t7.den) → (List t10.den) → (Option (t8.den × Int × Unit))) × (Int → (List Int) → (List Int) → (List Int) → Bool → Int → (List Int) → (List Int) → (List t7.den) → (List t10.den) → (Option (t8.den × Int × Unit))) × (Int → (List Int) → (List Int) → (List Int) → Bool → Int → (List Int) → (List Int) → (List t7.den) → (List t10.den) → (Option (t8.den × Int × Unit))) × (Int → (List Int) → (List Int) → (List Int) → Bool → Int → (List Int) → (List Int) → (List t7.den) → (List t10.den) → (Option (t8.den × Int × Unit))) × (Int → (List Int) → (List Int) → (List Int) → Bool → Int → (List Int) → (List Int) → (List t7.den) → (List t10.den) → (Option (t8.den × Int × Unit))) × ((List Int) → (List Int) → Int → (List Int) → (List Int) → (List t7.den) → (List t10.den) → (Option (t8.den × Int × Unit))) × ((List Int) → (List Int) → Int → (List Int) → (List Int) → (List t7.den) → (List t7.den) → (Option (t8.den × Int × Unit)))
@[reducible] def image_Parse.Ok (KK_ : image_Parse.KT) : Prop := (∀ b b0 b02 l1, Le (KK_.1 b b0 b02 l1) (image_Parse.L1 b b0 b02 l1)) ∧ (∀ t21_ b0 b02 b1 b12 b2 b22 b23 l3 l4, Le (KK_.2.1 t21_ b0 b02 b1 b12 b2 b22 b23 l3 l4) (image_Parse.L2 t21_ b0 b02 b1 b12 b2 b22 b23 l3 l4)) ∧ (∀ t21_ b0 b02 b1 b12 b2 b22 b23 l3 l4, Le (KK_.2.2.1 t21_ b0 b02 b1 b12 b2 b22 b23 l3 l4) (image_Parse.L3 t21_ b0 b02 b1 b12 b2 b22 b23 l3 l4)) ∧ (∀ t31_ b0 b02 b1 b12 b2 b22 b23 l3 l4, Le (KK_.2.2.2.1 t31_ b0 b02 b1 b12 b2 b22 b23 l3 l4) (image_Parse.L4 t31_ b0 b02 b1 b12 b2 b22 b23 l3 l4)) ∧ (∀ t31_ b0 b02 b1 b12 b2 b22 b23 l3 l4, Le (KK_.2.2.2.2.1 t31_ b0 b02 b1 b12 b2 b22 b23 l3 l4) (image_Parse.L5 t31_ b0 b02 b1 b12 b2 b22 b23 l3 l4)) ∧ (∀ n b0 b02 b1 b12 b2 b22 b23 l3 l4, Le (KK_.2.2.2.2.2.1 n b0 b02 b1 b12 b2 b22 b23 l3 l4) (image_Parse.L6 n b0 b02 b1 b12 b2 b22 b23 l3 l4)) ∧ (∀ n b0 b02 b1 b12 b2 b22 b23 l3 l4, Le (KK_.2.2.2.2.2.2.1 n b0 b02 b1 b12 b2 b22 b23 l3 l4) (image_Parse.L7 n b0 b02 b1 b12 b2 b22 b23 l3 l4)) ∧ (∀ b0 b02 b1 b12 b13 l2 l3, Le (KK_.2.2.2.2.2.2.2.1 b0 b02 b1 b12 b13 l2 l3) (image_Parse.L8 b0 b02 b1 b12 b13 l2 l3)) ∧ (∀ b0 b02 b1 b12 b13 l2 l3, Le (KK_.2.2.2.2.2.2.2.2 b0 b02 b1 b12 b13 l2 l3) (image_Parse.L9 b0 b02 b1 b12 b13 l2 l3))
def image_Parse.step (mm_ : Nat) (KK_ : image_Parse.KT) : image_Parse.KT := ((fun b b0 b02 l1 =>
 ((image_reader_get.G mm_) (b, false, ()) 8).bind fun r0 =>
 KK_.2.1 0 b0 b02 r0.1.1 r0.1.2.1 r0.2.1 (List.replicate 32 (0 : Int)) (List.replicate 16 (0 : Int)) l1 ([] : List t10.den)),
(fun t21_ b0 b02 b1 b12 b2 b22 b23 l3 l4 =>
 bif (decide ((t21_ : Int) < 32)) then
 KK_.2.2.1 t21_ b0 b02 b1 b12 b2 b22 b23 l3 l4
 else
 KK_.2.2.2.1 0 b0 b02 b1 b12 b2 b22 b23 l3 l4),
(fun t21_ b0 b02 b1 b12 b2 b22 b23 l3 l4 =>
 ((image_reader_get.G mm_) (b1, b12, ()) 1).bind fun r0 =>
 bif (decide ((0 : Int) ≤ t21_ ∧ (t21_ : Int) < 32)) then
 KK_.2.1 (IntKind.wrap .i64 (t21_ + 1)) b0 b02 r0.1.1 r0.1.2.1 b2 (List.set b22 (Int.toNat t21_) (IntKind.wrap .u8 r0.2.1)) b23 l3 l4
 else none),
(fun t31_ b0 b02 b1 b12 b2 b22 b23 l3 l4 =>
 bif (decide ((t31_ : Int) < 16)) then
 KK_.2.2.2.2.1 t31_ b0 b02 b1 b12 b2 b22 b23 l3 l4
 else
 ((image_reader_get.G mm_) (b1, b12, ()) 1).bind fun r0 =>
 KK_.2.2.2.2.2.1 r0.2.1 b0 b02 r0.1.1 r0.1.2.1 b2 b22 b23 l3 l4),
(fun t31_ b0 b02 b1 b12 b2 b22 b23 l3 l4 =>
 ((image_reader_get.G mm_) (b1, b12, ()) 4).bind fun r0 =>
 bif (decide ((0 : Int) ≤ t31_ ∧ (t31_ : Int) < 16)) then
 KK_.2.2.2.1 (IntKind.wrap .i64 (t31_ + 1)) b0 b02 r0.1.1 r0.1.2.1 b2 b22 (List.set b23 (Int.toNat t31_) (IntKind.wrap .u32 r0.2.1)) l3 l4
 else none),
(fun n b0 b02 b1 b12 b2 b22 b23 l3 l4 =>
 bif (decide ((n : Int) > 0)) then
 bif (!b12) then
 KK_.2.2.2.2.2.2.1 n b0 b02 b1 b12 b2 b22 b23 l3 l4
 else
 bif b12 then
  some ((0, (List.replicate 32 (0 : Int)), (List.replicate 16 (0 : Int)), ([] : List t7.den), ()), 12, ())
 else
  bif (decide ((((List.length b1 : Int)) : Int) > 0)) then
  some ((0, (List.replicate 32 (0 : Int)), (List.replicate 16 (0 : Int)), ([] : List t7.den), ()), 12, ())
  else
  KK_.2.2.2.2.2.2.2.1 b0 b02 b2 b22 b23 l3 l4
 else
 bif b12 then
 some ((0, (List.replicate 32 (0 : Int)), (List.replicate 16 (0 : Int)), ([] : List t7.den), ()), 12, ())
 else
 bif (decide ((((List.length b1 : Int)) : Int) > 0)) then
  some ((0, (List.replicate 32 (0 : Int)), (List.replicate 16 (0 : Int)), ([] : List t7.den), ()), 12, ())
 else
  KK_.2.2.2.2.2.2.2.1 b0 b02 b2 b22 b23 l3 l4),
(fun n b0 b02 b1 b12 b2 b22 b23 l3 l4 =>
 ((image_reader_account.G mm_) (b1, b12, ())).bind fun r0 =>
 bif (lim ((List.length l4) + (List.length ([r0.2.1] : List t10.den))) t10) then
 KK_.2.2.2.2.2.1 (IntKind.wrap .u64 (n - 1)) b0 b02 r0.1.1 r0.1.2.1 b2 b22 b23 l3 (l4 ++ ([r0.2.1] : List t10.den))
 else none),
(fun b0 b02 b1 b12 b13 l2 l3 =>
 ((refine_Build.G mm_) (b1, b12, b13, l3, ())).bind fun r0 =>
 bif (r0.2.1 != 0) then
 some ((0, (List.replicate 32 (0 : Int)), (List.replicate 16 (0 : Int)), ([] : List t7.den), ()), 12, ())
 else
 KK_.2.2.2.2.2.2.2.2 b0 b02 r0.1.1 r0.1.2.1 r0.1.2.2.1 l2 r0.1.2.2.2.1),
(fun b0 b02 b1 b12 b13 l2 l3 =>
 some ((b1, b12, b13, l3, ()), 0, ())))
def image_Parse.K (mm_ : Nat) : Nat → image_Parse.KT
| 0 => ((fun _ _ _ _ => none), (fun _ _ _ _ _ _ _ _ _ _ => none), (fun _ _ _ _ _ _ _ _ _ _ => none), (fun _ _ _ _ _ _ _ _ _ _ => none), (fun _ _ _ _ _ _ _ _ _ _ => none), (fun _ _ _ _ _ _ _ _ _ _ => none), (fun _ _ _ _ _ _ _ _ _ _ => none), (fun _ _ _ _ _ _ _ => none), (fun _ _ _ _ _ _ _ => none))
| nn_ + 1 => image_Parse.step mm_ (image_Parse.K mm_ nn_)
theorem image_Parse.step_le (mm_ : Nat) (KK_ : image_Parse.KT) (hh_ : image_Parse.Ok KK_) : image_Parse.Ok (image_Parse.step mm_ KK_) := by
 refine ⟨fun _ _ _ _ => ?_, fun _ _ _ _ _ _ _ _ _ _ => ?_, fun _ _ _ _ _ _ _ _ _ _ => ?_, fun _ _ _ _ _ _ _ _ _ _ => ?_, fun _ _ _ _ _ _ _ _ _ _ => ?_, fun _ _ _ _ _ _ _ _ _ _ => ?_, fun _ _ _ _ _ _ _ _ _ _ => ?_, fun _ _ _ _ _ _ _ => ?_, fun _ _ _ _ _ _ _ => ?_⟩
 rw [image_Parse.L1_eq]; rotate_left
 rw [image_Parse.L2_eq]; rotate_left
 rw [image_Parse.L3_eq]; rotate_left
 rw [image_Parse.L4_eq]; rotate_left
 rw [image_Parse.L5_eq]; rotate_left
 rw [image_Parse.L6_eq]; rotate_left
 rw [image_Parse.L7_eq]; rotate_left
 rw [image_Parse.L8_eq]; rotate_left
 rw [image_Parse.L9_eq]; rotate_left
 all_goals dsimp only [image_Parse.step]
 all_goals (repeat' (with_reducible first | exact hh_.1 _ _ _ _ | exact hh_.2.1 _ _ _ _ _ _ _ _ _ _ | exact hh_.2.2.1 _ _ _ _ _ _ _ _ _ _ | exact hh_.2.2.2.1 _ _ _ _ _ _ _ _ _ _ | exact hh_.2.2.2.2.1 _ _ _ _ _ _ _ _ _ _ | exact hh_.2.2.2.2.2.1 _ _ _ _ _ _ _ _ _ _ | exact hh_.2.2.2.2.2.2.1 _ _ _ _ _ _ _ _ _ _ | exact hh_.2.2.2.2.2.2.2.1 _ _ _ _ _ _ _ | exact hh_.2.2.2.2.2.2.2.2 _ _ _ _ _ _ _ | exact image_reader_get.G_le mm_ _ _ | exact image_reader_account.G_le mm_ _ | exact refine_Build.G_le mm_ _ | exact Le.refl _ | refine Le.cond ?_ ?_ | refine Le.bind ?_ fun _ => ?_))
theorem image_Parse.K_le (mm_ : Nat) : ∀ nn_, image_Parse.Ok (image_Parse.K mm_ nn_)
| 0 => ⟨fun _ _ _ _ => Le.none _, fun _ _ _ _ _ _ _ _ _ _ => Le.none _, fun _ _ _ _ _ _ _ _ _ _ => Le.none _, fun _ _ _ _ _ _ _ _ _ _ => Le.none _, fun _ _ _ _ _ _ _ _ _ _ => Le.none _, fun _ _ _ _ _ _ _ _ _ _ => Le.none _, fun _ _ _ _ _ _ _ _ _ _ => Le.none _, fun _ _ _ _ _ _ _ => Le.none _, fun _ _ _ _ _ _ _ => Le.none _⟩
| nn_ + 1 => image_Parse.step_le mm_ (image_Parse.K mm_ nn_) (image_Parse.K_le mm_ nn_)
def image_Parse.G (mm_ : Nat) (b : List Int) : Option (t8.den × Int × Unit) :=
 bif (decide ((((List.length b : Int)) : Int) > 5000)) then
 some ((0, (List.replicate 32 (0 : Int)), (List.replicate 16 (0 : Int)), ([] : List t7.den), ()), 4, ())
 else
 (image_Parse.K mm_ mm_).1 b (List.replicate 32 (0 : Int)) (List.replicate 16 (0 : Int)) ([] : List t7.den)
theorem image_Parse.G_le (mm_ : Nat) (b : List Int) : Le (image_Parse.G mm_ b) (image_Parse.F b) := by
 rw [image_Parse.F_eq]; unfold image_Parse.G; (repeat' (with_reducible first | exact (image_Parse.K_le mm_ mm_).1 _ _ _ _ | exact (image_Parse.K_le mm_ mm_).2.1 _ _ _ _ _ _ _ _ _ _ | exact (image_Parse.K_le mm_ mm_).2.2.1 _ _ _ _ _ _ _ _ _ _ | exact (image_Parse.K_le mm_ mm_).2.2.2.1 _ _ _ _ _ _ _ _ _ _ | exact (image_Parse.K_le mm_ mm_).2.2.2.2.1 _ _ _ _ _ _ _ _ _ _ | exact (image_Parse.K_le mm_ mm_).2.2.2.2.2.1 _ _ _ _ _ _ _ _ _ _ | exact (image_Parse.K_le mm_ mm_).2.2.2.2.2.2.1 _ _ _ _ _ _ _ _ _ _ | exact (image_Parse.K_le mm_ mm_).2.2.2.2.2.2.2.1 _ _ _ _ _ _ _ | exact (image_Parse.K_le mm_ mm_).2.2.2.2.2.2.2.2 _ _ _ _ _ _ _ | exact image_reader_get.G_le mm_ _ _ | exact image_reader_account.G_le mm_ _ | exact refine_Build.G_le mm_ _ | exact Le.refl _ | refine Le.cond ?_ ?_ | refine Le.bind ?_ fun _ => ?_))
/-! ### bytes_Equal -/
def bytes_Equal.G (mm_ : Nat) (a b : List Int) : Option (Bool × Unit) :=
 some ((decide ((List.map (fun n => UInt8.ofNat (Int.toNat n)) a) = (List.map (fun n => UInt8.ofNat (Int.toNat n)) b))), ())
theorem bytes_Equal.G_le (mm_ : Nat) (a b : List Int) : Le (bytes_Equal.G mm_ a b) (bytes_Equal.F a b) := by
 rw [bytes_Equal.F_eq]; unfold bytes_Equal.G; (repeat' (with_reducible first   | exact Le.refl _ | refine Le.cond ?_ ?_ | refine Le.bind ?_ fun _ => ?_))
/-! ### image_Same -/
@[reducible] def image_Same.KT : Type := ((List Int) → (List Int) → (Option (Bool × Int × Unit))) × ((List Int) → (List Int) → (Option (Bool × Int × Unit)))
@[reducible] def image_Same.Ok (KK_ : image_Same.KT) : Prop := (∀ a b, Le (KK_.1 a b) (image_Same.L1 a b)) ∧ (∀ a b, Le (KK_.2 a b) (image_Same.L2 a b))
def image_Same.step (mm_ : Nat) (KK_ : image_Same.KT) : image_Same.KT := ((fun a b =>
 ((image_Parse.G mm_) b).bind fun r0 =>
 bif (r0.2.1 != 0) then
 some (false, r0.2.1, ())
 else
 KK_.2 a b),
(fun a b =>
 bif (decide ((0 : Int) ≤ 8 ∧ (8 : Int) ≤ ((List.length a : Int)) ∧ (((List.length a : Int)) : Int) ≤ ((List.length a : Int)))) then
 bif (decide ((0 : Int) ≤ 8 ∧ (8 : Int) ≤ ((List.length b : Int)) ∧ (((List.length b : Int)) : Int) ≤ ((List.length b : Int)))) then
 ((bytes_Equal.G mm_) (List.take ((Int.toNat ((List.length a : Int))) - (Int.toNat 8)) (List.drop (Int.toNat 8) a)) (List.take ((Int.toNat ((List.length b : Int))) - (Int.toNat 8)) (List.drop (Int.toNat 8) b))).bind fun r0 =>
 some (r0.1, 0, ())
 else none
 else none))
def image_Same.K (mm_ : Nat) : Nat → image_Same.KT
| 0 => ((fun _ _ => none), (fun _ _ => none))
| nn_ + 1 => image_Same.step mm_ (image_Same.K mm_ nn_)
theorem image_Same.step_le (mm_ : Nat) (KK_ : image_Same.KT) (hh_ : image_Same.Ok KK_) : image_Same.Ok (image_Same.step mm_ KK_) := by
 refine ⟨fun _ _ => ?_, fun _ _ => ?_⟩
 rw [image_Same.L1_eq]; rotate_left
 rw [image_Same.L2_eq]; rotate_left
 all_goals dsimp only [image_Same.step]
 all_goals (repeat' (with_reducible first | exact hh_.1 _ _ | exact hh_.2 _ _ | exact image_Parse.G_le mm_ _ | exact bytes_Equal.G_le mm_ _ _ | exact Le.refl _ | refine Le.cond ?_ ?_ | refine Le.bind ?_ fun _ => ?_))
theorem image_Same.K_le (mm_ : Nat) : ∀ nn_, image_Same.Ok (image_Same.K mm_ nn_)
| 0 => ⟨fun _ _ => Le.none _, fun _ _ => Le.none _⟩
| nn_ + 1 => image_Same.step_le mm_ (image_Same.K mm_ nn_) (image_Same.K_le mm_ nn_)
def image_Same.G (mm_ : Nat) (a b : List Int) : Option (Bool × Int × Unit) :=
 ((image_Parse.G mm_) a).bind fun r0 =>
 bif (r0.2.1 != 0) then
 some (false, r0.2.1, ())
 else
 (image_Same.K mm_ mm_).1 a b
theorem image_Same.G_le (mm_ : Nat) (a b : List Int) : Le (image_Same.G mm_ a b) (image_Same.F a b) := by
 rw [image_Same.F_eq]; unfold image_Same.G; (repeat' (with_reducible first | exact (image_Same.K_le mm_ mm_).1 _ _ | exact (image_Same.K_le mm_ mm_).2 _ _ | exact image_Parse.G_le mm_ _ | exact bytes_Equal.G_le mm_ _ _ | exact Le.refl _ | refine Le.cond ?_ ?_ | refine Le.bind ?_ fun _ => ?_))
/-! ### server_New -/
def server_New.G (mm_ : Nat) (seed : List Int) : Option (t8.den × Unit) :=
 some ((0, seed, (List.replicate 16 (0 : Int)), ([] : List t7.den), ()), ())
theorem server_New.G_le (mm_ : Nat) (seed : List Int) : Le (server_New.G mm_ seed) (server_New.F seed) := by
 rw [server_New.F_eq]; unfold server_New.G; (repeat' (with_reducible first   | exact Le.refl _ | refine Le.cond ?_ ?_ | refine Le.bind ?_ fun _ => ?_))
/-! ### table_place -/
@[reducible] def table_place.KT : Type := (Int → (Option (Int × Unit)))
@[reducible] def table_place.Ok (KK_ : table_place.KT) : Prop := (∀ i, Le (KK_ i) (table_place.L1 i))
def table_place.step (mm_ : Nat) (KK_ : table_place.KT) : table_place.KT := ((fun i =>
 some (i, ())))
def table_place.K (mm_ : Nat) : Nat → table_place.KT
| 0 => ((fun _ => none))
| nn_ + 1 => table_place.step mm_ (table_place.K mm_ nn_)
theorem table_place.step_le (mm_ : Nat) (KK_ : table_place.KT) (hh_ : table_place.Ok KK_) : table_place.Ok (table_place.step mm_ KK_) := by
 refine fun _ => ?_
 rw [table_place.L1_eq]
 all_goals dsimp only [table_place.step]
 all_goals (repeat' (with_reducible first | exact hh_ _ | exact probe_Find.G_le mm_ _ _ | exact Le.refl _ | refine Le.cond ?_ ?_ | refine Le.bind ?_ fun _ => ?_))
theorem table_place.K_le (mm_ : Nat) : ∀ nn_, table_place.Ok (table_place.K mm_ nn_)
| 0 => fun _ => Le.none _
| nn_ + 1 => table_place.step_le mm_ (table_place.K mm_ nn_) (table_place.K_le mm_ nn_)
def table_place.G (mm_ : Nat) (t : t5.den) (key : Int) : Option (Int × Unit) :=
 ((probe_Find.G mm_) t.2.2.2.2.1 key).bind fun r0 =>
 bif (r0.2.1 != 0) then
 some ((-1), ())
 else
 (table_place.K mm_ mm_) r0.1
theorem table_place.G_le (mm_ : Nat) (t : t5.den) (key : Int) : Le (table_place.G mm_ t key) (table_place.F t key) := by
 rw [table_place.F_eq]; unfold table_place.G; (repeat' (with_reducible first | exact (table_place.K_le mm_ mm_) _ | exact probe_Find.G_le mm_ _ _ | exact Le.refl _ | refine Le.cond ?_ ?_ | refine Le.bind ?_ fun _ => ?_))
/-! ### table_Get -/
@[reducible] def table_Get.KT : Type := (Int → Int → (List Int) → (List t1.den) → (List Int) → (List Bool) → Int → (List t3.den) → (List Int) → (List Int) → Int → Int → (Option (t1.den × Int × Unit))) × (Int → Int → (List Int) → (List t1.den) → (List Int) → (List Bool) → Int → (List t3.den) → (List Int) → (List Int) → Int → Int → (Option (t1.den × Int × Unit)))
@[reducible] def table_Get.Ok (KK_ : table_Get.KT) : Prop := (∀ key b0 b02 b03 b04 b05 b06 b07 b08 b09 b010 b011, Le (KK_.1 key b0 b02 b03 b04 b05 b06 b07 b08 b09 b010 b011) (table_Get.L1 key b0 b02 b03 b04 b05 b06 b07 b08 b09 b010 b011)) ∧ (∀ i b0 b02 b03 b04 b05 b06 b07 b08 b09 b010 b011, Le (KK_.2 i b0 b02 b03 b04 b05 b06 b07 b08 b09 b010 b011) (table_Get.L2 i b0 b02 b03 b04 b05 b06 b07 b08 b09 b010 b011))
def table_Get.step (mm_ : Nat) (KK_ : table_Get.KT) : table_Get.KT := ((fun key b0 b02 b03 b04 b05 b06 b07 b08 b09 b010 b011 =>
 ((table_place.G mm_) (b0, b02, b03, (b04, b05, b06, ()), b07, (b08, b09, b010, b011, ()), ()) key).bind fun r0 =>
 bif (decide ((r0.1 : Int) < 0)) then
 some (((0, 0, 0, ()), 0, 0, 0, ()), 6, ())
 else
 KK_.2 r0.1 b0 b02 b03 b04 b05 b06 b07 b08 b09 b010 b011),
(fun i b0 b02 b03 b04 b05 b06 b07 b08 b09 b010 b011 =>
 bif (decide ((0 : Int) ≤ i ∧ (i : Int) < ((List.length b03 : Int)))) then
 some ((List.getD b03 (Int.toNat i) ((0, 0, 0, ()), 0, 0, 0, ())), 0, ())
 else none))
def table_Get.K (mm_ : Nat) : Nat → table_Get.KT
| 0 => ((fun _ _ _ _ _ _ _ _ _ _ _ _ => none), (fun _ _ _ _ _ _ _ _ _ _ _ _ => none))
| nn_ + 1 => table_Get.step mm_ (table_Get.K mm_ nn_)
theorem table_Get.step_le (mm_ : Nat) (KK_ : table_Get.KT) (hh_ : table_Get.Ok KK_) : table_Get.Ok (table_Get.step mm_ KK_) := by
 refine ⟨fun _ _ _ _ _ _ _ _ _ _ _ _ => ?_, fun _ _ _ _ _ _ _ _ _ _ _ _ => ?_⟩
 rw [table_Get.L1_eq]; rotate_left
 rw [table_Get.L2_eq]; rotate_left
 all_goals dsimp only [table_Get.step]
 all_goals (repeat' (with_reducible first | exact hh_.1 _ _ _ _ _ _ _ _ _ _ _ _ | exact hh_.2 _ _ _ _ _ _ _ _ _ _ _ _ | exact table_place.G_le mm_ _ _ | exact table_Check.G_le mm_ _ | exact Le.refl _ | refine Le.cond ?_ ?_ | refine Le.bind ?_ fun _ => ?_))
theorem table_Get.K_le (mm_ : Nat) : ∀ nn_, table_Get.Ok (table_Get.K mm_ nn_)
| 0 => ⟨fun _ _ _ _ _ _ _ _ _ _ _ _ => Le.none _, fun _ _ _ _ _ _ _ _ _ _ _ _ => Le.none _⟩
| nn_ + 1 => table_Get.step_le mm_ (table_Get.K mm_ nn_) (table_Get.K_le mm_ nn_)
def table_Get.G (mm_ : Nat) (t : t5.den) (key : Int) : Option (t1.den × Int × Unit) :=
 ((table_Check.G mm_) t).bind fun r0 =>
 bif (r0.1 != 0) then
 some (((0, 0, 0, ()), 0, 0, 0, ()), r0.1, ())
 else
 (table_Get.K mm_ mm_).1 key t.1 t.2.1 t.2.2.1 t.2.2.2.1.1 t.2.2.2.1.2.1 t.2.2.2.1.2.2.1 t.2.2.2.2.1 t.2.2.2.2.2.1.1 t.2.2.2.2.2.1.2.1 t.2.2.2.2.2.1.2.2.1 t.2.2.2.2.2.1.2.2.2.1
theorem table_Get.G_le (mm_ : Nat) (t : t5.den) (key : Int) : Le (table_Get.G mm_ t key) (table_Get.F t key) := by
 rw [table_Get.F_eq]; unfold table_Get.G; (repeat' (with_reducible first | exact (table_Get.K_le mm_ mm_).1 _ _ _ _ _ _ _ _ _ _ _ _ | exact (table_Get.K_le mm_ mm_).2 _ _ _ _ _ _ _ _ _ _ _ _ | exact table_place.G_le mm_ _ _ | exact table_Check.G_le mm_ _ | exact Le.refl _ | refine Le.cond ?_ ?_ | refine Le.bind ?_ fun _ => ?_))
/-! ### table_Keys -/
@[reducible] def table_Keys.KT : Type := (Int → (List Int) → (List t1.den) → (List Int) → (List Bool) → Int → (List t3.den) → (List Int) → (List Int) → Int → Int → (Option ((List Int) × Int × Unit))) × (Int → Int → Int → (List Int) → (List t1.den) → (List Int) → (List Bool) → Int → (List t3.den) → (List Int) → (List Int) → Int → Int → (List Int) → (List Int) → (Option ((List Int) × Int × Unit))) × (Int → Int → Int → (List Int) → (List t1.den) → (List Int) → (List Bool) → Int → (List t3.den) → (List Int) → (List Int) → Int → Int → (List Int) → (List Int) → (Option ((List Int) × Int × Unit)))
@[reducible] def table_Keys.Ok (KK_ : table_Keys.KT) : Prop := (∀ b0 b02 b03 b04 b05 b06 b07 b08 b09 b010 b011, Le (KK_.1 b0 b02 b03 b04 b05 b06 b07 b08 b09 b010 b011) (table_Keys.L1 b0 b02 b03 b04 b05 b06 b07 b08 b09 b010 b011)) ∧ (∀ t22_ t23_ b0 b02 b03 b04 b05 b06 b07 b08 b09 b010 b011 l1 l2, Le (KK_.2.1 t22_ t23_ b0 b02 b03 b04 b05 b06 b07 b08 b09 b010 b011 l1 l2) (table_Keys.L2 t22_ t23_ b0 b02 b03 b04 b05 b06 b07 b08 b09 b010 b011 l1 l2)) ∧ (∀ t22_ t23_ b0 b02 b03 b04 b05 b06 b07 b08 b09 b010 b011 l1 l2, Le (KK_.2.2 t22_ t23_ b0 b02 b03 b04 b05 b06 b07 b08 b09 b010 b011 l1 l2) (table_Keys.L3 t22_ t23_ b0 b02 b03 b04 b05 b06 b07 b08 b09 b010 b011 l1 l2))
def table_Keys.step (mm_ : Nat) (KK_ : table_Keys.KT) : table_Keys.KT := ((fun b0 b02 b03 b04 b05 b06 b07 b08 b09 b010 b011 =>
 ((lru_List.G mm_) (b08, b09, b010, b011, ())).bind fun r0 =>
 KK_.2.1 ((List.length r0.1 : Int)) 0 b0 b02 b03 b04 b05 b06 b07 b08 b09 b010 b011 ([] : List Int) r0.1),
(fun t22_ t23_ b0 b02 b03 b04 b05 b06 b07 b08 b09 b010 b011 l1 l2 =>
 bif (decide ((t23_ : Int) < t22_)) then
 KK_.2.2 t22_ t23_ b0 b02 b03 b04 b05 b06 b07 b08 b09 b010 b011 l1 l2
 else
 some (l1, 0, ())),
(fun t22_ t23_ b0 b02 b03 b04 b05 b06 b07 b08 b09 b010 b011 l1 l2 =>
 bif (decide ((0 : Int) ≤ t23_ ∧ (t23_ : Int) < ((List.length l2 : Int)))) then
 bif (decide ((0 : Int) ≤ (List.getD l2 (Int.toNat t23_) 0) ∧ ((List.getD l2 (Int.toNat t23_) 0) : Int) < ((List.length b02 : Int)))) then
 bif (lim ((List.length l1) + (List.length ([(List.getD b02 (Int.toNat (List.getD l2 (Int.toNat t23_) 0)) 0)] : List Int))) (.int .u32)) then
  KK_.2.1 t22_ (IntKind.wrap .i64 (t23_ + 1)) b0 b02 b03 b04 b05 b06 b07 b08 b09 b010 b011 (l1 ++ ([(List.getD b02 (Int.toNat (List.getD l2 (Int.toNat t23_) 0)) 0)] : List Int)) l2
 else none
 else none
 else none))
def table_Keys.K (mm_ : Nat) : Nat → table_Keys.KT
| 0 => ((fun _ _ _ _ _ _ _ _ _ _ _ => none), (fun _ _ _ _ _ _ _ _ _ _ _ _ _ _ _ => none), (fun _ _ _ _ _ _ _ _ _ _ _ _ _ _ _ => none))
| nn_ + 1 => table_Keys.step mm_ (table_Keys.K mm_ nn_)
theorem table_Keys.step_le (mm_ : Nat) (KK_ : table_Keys.KT) (hh_ : table_Keys.Ok KK_) : table_Keys.Ok (table_Keys.step mm_ KK_) := by
 refine ⟨fun _ _ _ _ _ _ _ _ _ _ _ => ?_, fun _ _ _ _ _ _ _ _ _ _ _ _ _ _ _ => ?_, fun _ _ _ _ _ _ _ _ _ _ _ _ _ _ _ => ?_⟩
 rw [table_Keys.L1_eq]; rotate_left
 rw [table_Keys.L2_eq]; rotate_left
 rw [table_Keys.L3_eq]; rotate_left
 all_goals dsimp only [table_Keys.step]
 all_goals (repeat' (with_reducible first | exact hh_.1 _ _ _ _ _ _ _ _ _ _ _ | exact hh_.2.1 _ _ _ _ _ _ _ _ _ _ _ _ _ _ _ | exact hh_.2.2 _ _ _ _ _ _ _ _ _ _ _ _ _ _ _ | exact lru_List.G_le mm_ _ | exact table_Check.G_le mm_ _ | exact Le.refl _ | refine Le.cond ?_ ?_ | refine Le.bind ?_ fun _ => ?_))
theorem table_Keys.K_le (mm_ : Nat) : ∀ nn_, table_Keys.Ok (table_Keys.K mm_ nn_)
| 0 => ⟨fun _ _ _ _ _ _ _ _ _ _ _ => Le.none _, fun _ _ _ _ _ _ _ _ _ _ _ _ _ _ _ => Le.none _, fun _ _ _ _ _ _ _ _ _ _ _ _ _ _ _ => Le.none _⟩
| nn_ + 1 => table_Keys.step_le mm_ (table_Keys.K mm_ nn_) (table_Keys.K_le mm_ nn_)
def table_Keys.G (mm_ : Nat) (t : t5.den) : Option ((List Int) × Int × Unit) :=
 ((table_Check.G mm_) t).bind fun r0 =>
 bif (r0.1 != 0) then
 some (([] : List Int), r0.1, ())
 else
 (table_Keys.K mm_ mm_).1 t.1 t.2.1 t.2.2.1 t.2.2.2.1.1 t.2.2.2.1.2.1 t.2.2.2.1.2.2.1 t.2.2.2.2.1 t.2.2.2.2.2.1.1 t.2.2.2.2.2.1.2.1 t.2.2.2.2.2.1.2.2.1 t.2.2.2.2.2.1.2.2.2.1
theorem table_Keys.G_le (mm_ : Nat) (t : t5.den) : Le (table_Keys.G mm_ t) (table_Keys.F t) := by
 rw [table_Keys.F_eq]; unfold table_Keys.G; (repeat' (with_reducible first | exact (table_Keys.K_le mm_ mm_).1 _ _ _ _ _ _ _ _ _ _ _ | exact (table_Keys.K_le mm_ mm_).2.1 _ _ _ _ _ _ _ _ _ _ _ _ _ _ _ | exact (table_Keys.K_le mm_ mm_).2.2 _ _ _ _ _ _ _ _ _ _ _ _ _ _ _ | exact lru_List.G_le mm_ _ | exact table_Check.G_le mm_ _ | exact Le.refl _ | refine Le.cond ?_ ?_ | refine Le.bind ?_ fun _ => ?_))
/-! ### refine_held -/
@[reducible] def refine_held.KT : Type := (Int → Int → Int → (List Int) → (List t1.den) → (List Int) → (List Bool) → Int → (List t3.den) → (List Int) → (List Int) → Int → Int → (List t9.den) → (List Int) → (Option ((List t9.den) × Unit))) × (Int → Int → Int → (List Int) → (List t1.den) → (List Int) → (List Bool) → Int → (List t3.den) → (List Int) → (List Int) → Int → Int → (List t9.den) → (List Int) → (Option ((List t9.den) × Unit)))
@[reducible] def refine_held.Ok (KK_ : refine_held.KT) : Prop := (∀ t16_ t17_ b0 b02 b03 b04 b05 b06 b07 b08 b09 b010 b011 l1 l2, Le (KK_.1 t16_ t17_ b0 b02 b03 b04 b05 b06 b07 b08 b09 b010 b011 l1 l2) (refine_held.L1 t16_ t17_ b0 b02 b03 b04 b05 b06 b07 b08 b09 b010 b011 l1 l2)) ∧ (∀ t16_ t17_ b0 b02 b03 b04 b05 b06 b07 b08 b09 b010 b011 l1 l2, Le (KK_.2 t16_ t17_ b0 b02 b03 b04 b05 b06 b07 b08 b09 b010 b011 l1 l2) (refine_held.L2 t16_ t17_ b0 b02 b03 b04 b05 b06 b07 b08 b09 b010 b011 l1 l2))
def refine_held.step (mm_ : Nat) (KK_ : refine_held.KT) : refine_held.KT := ((fun t16_ t17_ b0 b02 b03 b04 b05 b06 b07 b08 b09 b010 b011 l1 l2 =>
 bif (decide ((t17_ : Int) < t16_)) then
 KK_.2 t16_ t17_ b0 b02 b03 b04 b05 b06 b07 b08 b09 b010 b011 l1 l2
 else
 some (l1, ())),
(fun t16_ t17_ b0 b02 b03 b04 b05 b06 b07 b08 b09 b010 b011 l1 l2 =>
 bif (decide ((0 : Int) ≤ t17_ ∧ (t17_ : Int) < ((List.length l2 : Int)))) then
 ((table_Get.G mm_) (b0, b02, b03, (b04, b05, b06, ()), b07, (b08, b09, b010, b011, ()), ()) (List.getD l2 (Int.toNat t17_) 0)).bind fun r0 =>
 bif (lim ((List.length l1) + (List.length ([((List.getD l2 (Int.toNat t17_) 0), r0.1, ())] : List t9.den))) t9) then
 KK_.1 t16_ (IntKind.wrap .i64 (t17_ + 1)) b0 b02 b03 b04 b05 b06 b07 b08 b09 b010 b011 (l1 ++ ([((List.getD l2 (Int.toNat t17_) 0), r0.1, ())] : List t9.den)) l2
 else none
 else none))
def refine_held.K (mm_ : Nat) : Nat → refine_held.KT
| 0 => ((fun _ _ _ _ _ _ _ _ _ _ _ _ _ _ _ => none), (fun _ _ _ _ _ _ _ _ _ _ _ _ _ _ _ => none))
| nn_ + 1 => refine_held.step mm_ (refine_held.K mm_ nn_)
theorem refine_held.step_le (mm_ : Nat) (KK_ : refine_held.KT) (hh_ : refine_held.Ok KK_) : refine_held.Ok (refine_held.step mm_ KK_) := by
 refine ⟨fun _ _ _ _ _ _ _ _ _ _ _ _ _ _ _ => ?_, fun _ _ _ _ _ _ _ _ _ _ _ _ _ _ _ => ?_⟩
 rw [refine_held.L1_eq]; rotate_left
 rw [refine_held.L2_eq]; rotate_left
 all_goals dsimp only [refine_held.step]
 all_goals (repeat' (with_reducible first | exact hh_.1 _ _ _ _ _ _ _ _ _ _ _ _ _ _ _ | exact hh_.2 _ _ _ _ _ _ _ _ _ _ _ _ _ _ _ | exact table_Get.G_le mm_ _ _ | exact table_Keys.G_le mm_ _ | exact Le.refl _ | refine Le.cond ?_ ?_ | refine Le.bind ?_ fun _ => ?_))
theorem refine_held.K_le (mm_ : Nat) : ∀ nn_, refine_held.Ok (refine_held.K mm_ nn_)
| 0 => ⟨fun _ _ _ _ _ _ _ _ _ _ _ _ _ _ _ => Le.none _, fun _ _ _ _ _ _ _ _ _ _ _ _ _ _ _ => Le.none _⟩
| nn_ + 1 => refine_held.step_le mm_ (refine_held.K mm_ nn_) (refine_held.K_le mm_ nn_)
def refine_held.G (mm_ : Nat) (t : t5.den) : Option ((List t9.den) × Unit) :=
 ((table_Keys.G mm_) t).bind fun r0 =>
 (refine_held.K mm_ mm_).1 ((List.length r0.1 : Int)) 0 t.1 t.2.1 t.2.2.1 t.2.2.2.1.1 t.2.2.2.1.2.1 t.2.2.2.1.2.2.1 t.2.2.2.2.1 t.2.2.2.2.2.1.1 t.2.2.2.2.2.1.2.1 t.2.2.2.2.2.1.2.2.1 t.2.2.2.2.2.1.2.2.2.1 ([] : List t9.den) r0.1
theorem refine_held.G_le (mm_ : Nat) (t : t5.den) : Le (refine_held.G mm_ t) (refine_held.F t) := by
 rw [refine_held.F_eq]; unfold refine_held.G; (repeat' (with_reducible first | exact (refine_held.K_le mm_ mm_).1 _ _ _ _ _ _ _ _ _ _ _ _ _ _ _ | exact (refine_held.K_le mm_ mm_).2 _ _ _ _ _ _ _ _ _ _ _ _ _ _ _ | exact table_Get.G_le mm_ _ _ | exact table_Keys.G_le mm_ _ | exact Le.refl _ | refine Le.cond ?_ ?_ | refine Le.bind ?_ fun _ => ?_))
/-! ### refine_of -/
@[reducible] def refine_of.KT : Type := ((List t7.den) → Int → Int → (List Int) → (List Int) → Int → (List Int) → (List Int) → (List t10.den) → (List t10.den) → (Option (t11.den × Unit))) × ((List t7.den) → Int → Int → (List Int) → (List Int) → Int → (List Int) → (List Int) → (List t10.den) → (List t10.den) → (Option (t11.den × Unit)))
@[reducible] def refine_of.Ok (KK_ : refine_of.KT) : Prop := (∀ t14_ t15_ t16_ b0 b02 b1 b12 b13 l2 l3, Le (KK_.1 t14_ t15_ t16_ b0 b02 b1 b12 b13 l2 l3) (refine_of.L1 t14_ t15_ t16_ b0 b02 b1 b12 b13 l2 l3)) ∧ (∀ t14_ t15_ t16_ b0 b02 b1 b12 b13 l2 l3, Le (KK_.2 t14_ t15_ t16_ b0 b02 b1 b12 b13 l2 l3) (refine_of.L2 t14_ t15_ t16_ b0 b02 b1 b12 b13 l2 l3))
def refine_of.step (mm_ : Nat) (KK_ : refine_of.KT) : refine_of.KT := ((fun t14_ t15_ t16_ b0 b02 b1 b12 b13 l2 l3 =>
 bif (decide ((t16_ : Int) < t15_)) then
 KK_.2 t14_ t15_ t16_ b0 b02 b1 b12 b13 l2 l3
 else
 some ((b1, b12, b13, l3, ()), ())),
(fun t14_ t15_ t16_ b0 b02 b1 b12 b13 l2 l3 =>
 bif (decide ((0 : Int) ≤ t16_ ∧ (t16_ : Int) < ((List.length t14_ : Int)))) then
 ((refine_held.G mm_) (((((List.getD t14_ (Int.toNat t16_) d7_).2).2).2).1)).bind fun r0 =>
 ((refine_held.G mm_) ((((((List.getD t14_ (Int.toNat t16_) d7_).2).2).2).2).1)).bind fun r1 =>
 bif (lim (List.length (((((((List.getD t14_ (Int.toNat t16_) d7_).2).2).2).2).2).1)) (.int .u32)) then
 bif (lim ((List.length l3) + (List.length ([((List.getD t14_ (Int.toNat t16_) d7_).1, ((List.getD t14_ (Int.toNat t16_) d7_).2).1, ([(((((List.getD t14_ (Int.toNat t16_) d7_).2).2).2).1).1, ((((((List.getD t14_ (Int.toNat t16_) d7_).2).2).2).2).1).1] : List Int), (((List.getD t14_ (Int.toNat t16_) d7_).2).2).1, r0.1, r1.1, ((((((List.getD t14_ (Int.toNat t16_) d7_).2).2).2).2).2).1, (((((((List.getD t14_ (Int.toNat t16_) d7_).2).2).2).2).2).2).1, ())] : List t10.den))) t10) then
  KK_.1 t14_ t15_ (IntKind.wrap .i64 (t16_ + 1)) b0 b02 b1 b12 b13 l2 (l3 ++ ([((List.getD t14_ (Int.toNat t16_) d7_).1, ((List.getD t14_ (Int.toNat t16_) d7_).2).1, ([(((((List.getD t14_ (Int.toNat t16_) d7_).2).2).2).1).1, ((((((List.getD t14_ (Int.toNat t16_) d7_).2).2).2).2).1).1] : List Int), (((List.getD t14_ (Int.toNat t16_) d7_).2).2).1, r0.1, r1.1, ((((((List.getD t14_ (Int.toNat t16_) d7_).2).2).2).2).2).1, (((((((List.getD t14_ (Int.toNat t16_) d7_).2).2).2).2).2).2).1, ())] : List t10.den))
 else none
 else none
 else none))
def refine_of.K (mm_ : Nat) : Nat → refine_of.KT
| 0 => ((fun _ _ _ _ _ _ _ _ _ _ => none), (fun _ _ _ _ _ _ _ _ _ _ => none))
| nn_ + 1 => refine_of.step mm_ (refine_of.K mm_ nn_)
theorem refine_of.step_le (mm_ : Nat) (KK_ : refine_of.KT) (hh_ : refine_of.Ok KK_) : refine_of.Ok (refine_of.step mm_ KK_) := by
 refine ⟨fun _ _ _ _ _ _ _ _ _ _ => ?_, fun _ _ _ _ _ _ _ _ _ _ => ?_⟩
 rw [refine_of.L1_eq]; rotate_left
 rw [refine_of.L2_eq]; rotate_left
 all_goals dsimp only [refine_of.step]
 all_goals (repeat' (with_reducible first | exact hh_.1 _ _ _ _ _ _ _ _ _ _ | exact hh_.2 _ _ _ _ _ _ _ _ _ _ | exact refine_held.G_le mm_ _ | exact Le.refl _ | refine Le.cond ?_ ?_ | refine Le.bind ?_ fun _ => ?_))
theorem refine_of.K_le (mm_ : Nat) : ∀ nn_, refine_of.Ok (refine_of.K mm_ nn_)
| 0 => ⟨fun _ _ _ _ _ _ _ _ _ _ => Le.none _, fun _ _ _ _ _ _ _ _ _ _ => Le.none _⟩
| nn_ + 1 => refine_of.step_le mm_ (refine_of.K mm_ nn_) (refine_of.K_le mm_ nn_)
def refine_of.G (mm_ : Nat) (s : t8.den) : Option (t11.den × Unit) :=
 (refine_of.K mm_ mm_).1 s.2.2.2.1 ((List.length s.2.2.2.1 : Int)) 0 (List.replicate 32 (0 : Int)) (List.replicate 16 (0 : Int)) s.1 s.2.1 s.2.2.1 ([] : List t10.den) ([] : List t10.den)
theorem refine_of.G_le (mm_ : Nat) (s : t8.den) : Le (refine_of.G mm_ s) (refine_of.F s) := by
 rw [refine_of.F_eq]; unfold refine_of.G; (repeat' (with_reducible first | exact (refine_of.K_le mm_ mm_).1 _ _ _ _ _ _ _ _ _ _ | exact (refine_of.K_le mm_ mm_).2 _ _ _ _ _ _ _ _ _ _ | exact refine_held.G_le mm_ _ | exact Le.refl _ | refine Le.cond ?_ ?_ | refine Le.bind ?_ fun _ => ?_))
/-! ### slices_Max -/
@[reducible] def slices_Max.KT : Type := ((List Int) → (Option (Int × Unit))) × ((List Int) → Int → Int → (Option (Int × Unit))) × ((List Int) → Int → Int → (Option (Int × Unit)))
@[reducible] def slices_Max.Ok (KK_ : slices_Max.KT) : Prop := (∀ x, Le (KK_.1 x) (slices_Max.L1 x)) ∧ (∀ x m i, Le (KK_.2.1 x m i) (slices_Max.L2 x m i)) ∧ (∀ x m i, Le (KK_.2.2 x m i) (slices_Max.L3 x m i))
def slices_Max.step (mm_ : Nat) (KK_ : slices_Max.KT) : slices_Max.KT := ((fun x =>
 bif (decide ((0 : Int) ≤ 0 ∧ (0 : Int) < ((List.length x : Int)))) then
 KK_.2.1 x (List.getD x (Int.toNat 0) 0) 1
 else none),
(fun x m i =>
 bif (decide ((i : Int) < ((List.length x : Int)))) then
 KK_.2.2 x m i
 else
 some (m, ())),
(fun x m i =>
 bif (decide ((0 : Int) ≤ i ∧ (i : Int) < ((List.length x : Int)))) then
 KK_.2.1 x (max m (List.getD x (Int.toNat i) 0)) (IntKind.wrap .i64 (i + 1))
 else none))
def slices_Max.K (mm_ : Nat) : Nat → slices_Max.KT
| 0 => ((fun _ => none), (fun _ _ _ => none), (fun _ _ _ => none))
| nn_ + 1 => slices_Max.step mm_ (slices_Max.K mm_ nn_)
theorem slices_Max.step_le (mm_ : Nat) (KK_ : slices_Max.KT) (hh_ : slices_Max.Ok KK_) : slices_Max.Ok (slices_Max.step mm_ KK_) := by
 refine ⟨fun _ => ?_, fun _ _ _ => ?_, fun _ _ _ => ?_⟩
 rw [slices_Max.L1_eq]; rotate_left
 rw [slices_Max.L2_eq]; rotate_left
 rw [slices_Max.L3_eq]; rotate_left
 all_goals dsimp only [slices_Max.step]
 all_goals (repeat' (with_reducible first | exact hh_.1 _ | exact hh_.2.1 _ _ _ | exact hh_.2.2 _ _ _  | exact Le.refl _ | refine Le.cond ?_ ?_ | refine Le.bind ?_ fun _ => ?_))
theorem slices_Max.K_le (mm_ : Nat) : ∀ nn_, slices_Max.Ok (slices_Max.K mm_ nn_)
| 0 => ⟨fun _ => Le.none _, fun _ _ _ => Le.none _, fun _ _ _ => Le.none _⟩
| nn_ + 1 => slices_Max.step_le mm_ (slices_Max.K mm_ nn_) (slices_Max.K_le mm_ nn_)
def slices_Max.G (mm_ : Nat) (x : List Int) : Option (Int × Unit) :=
 bif (decide ((((List.length x : Int)) : Int) < 1)) then
 none
 else
 (slices_Max.K mm_ mm_).1 x
theorem slices_Max.G_le (mm_ : Nat) (x : List Int) : Le (slices_Max.G mm_ x) (slices_Max.F x) := by
 rw [slices_Max.F_eq]; unfold slices_Max.G; (repeat' (with_reducible first | exact (slices_Max.K_le mm_ mm_).1 _ | exact (slices_Max.K_le mm_ mm_).2.1 _ _ _ | exact (slices_Max.K_le mm_ mm_).2.2 _ _ _  | exact Le.refl _ | refine Le.cond ?_ ?_ | refine Le.bind ?_ fun _ => ?_))
/-! ### admin_late_1 -/
def admin_late_1.G (mm_ : Nat) (b : t1.den) (x1 : Int) : Option (Int × Bool × Unit) :=
 some (x1, (decide ((b.2.2.2.1 : Int) > x1)), ())
theorem admin_late_1.G_le (mm_ : Nat) (b : t1.den) (x1 : Int) : Le (admin_late_1.G mm_ b x1) (admin_late_1.F b x1) := by
 rw [admin_late_1.F_eq]; unfold admin_late_1.G; (repeat' (with_reducible first   | exact Le.refl _ | refine Le.cond ?_ ?_ | refine Le.bind ?_ fun _ => ?_))
/-! ### slices_IndexFunc_170 -/
@[reducible] def slices_IndexFunc_170.KT : Type := ((List t1.den) → Int → Int → Int → (Option (Int × Int × Unit))) × ((List t1.den) → Int → Int → Int → (Option (Int × Int × Unit))) × ((List t1.den) → Int → Int → Int → (Option (Int × Int × Unit)))
@[reducible] def slices_IndexFunc_170.Ok (KK_ : slices_IndexFunc_170.KT) : Prop := (∀ s t7_ t8_ b0, Le (KK_.1 s t7_ t8_ b0) (slices_IndexFunc_170.L1 s t7_ t8_ b0)) ∧ (∀ s t7_ t8_ b0, Le (KK_.2.1 s t7_ t8_ b0) (slices_IndexFunc_170.L2 s t7_ t8_ b0)) ∧ (∀ s t7_ t8_ b0, Le (KK_.2.2 s t7_ t8_ b0) (slices_IndexFunc_170.L3 s t7_ t8_ b0))
def slices_IndexFunc_170.step (mm_ : Nat) (KK_ : slices_IndexFunc_170.KT) : slices_IndexFunc_170.KT := ((fun s t7_ t8_ b0 =>
 bif (decide ((t8_ : Int) < t7_)) then
 KK_.2.1 s t7_ t8_ b0
 else
 some (b0, (-1), ())),
(fun s t7_ t8_ b0 =>
 bif (decide ((0 : Int) ≤ t8_ ∧ (t8_ : Int) < ((List.length s : Int)))) then
 ((admin_late_1.G mm_) (List.getD s (Int.toNat t8_) ((0, 0, 0, ()), 0, 0, 0, ())) b0).bind fun r0 =>
 bif r0.2.1 then
 some (r0.1, t8_, ())
 else
 KK_.2.2 s t7_ t8_ r0.1
 else none),
(fun s t7_ t8_ b0 =>
 KK_.1 s t7_ (IntKind.wrap .i64 (t8_ + 1)) b0))
def slices_IndexFunc_170.K (mm_ : Nat) : Nat → slices_IndexFunc_170.KT
| 0 => ((fun _ _ _ _ => none), (fun _ _ _ _ => none), (fun _ _ _ _ => none))
| nn_ + 1 => slices_IndexFunc_170.step mm_ (slices_IndexFunc_170.K mm_ nn_)
theorem slices_IndexFunc_170.step_le (mm_ : Nat) (KK_ : slices_IndexFunc_170.KT) (hh_ : slices_IndexFunc_170.Ok KK_) : slices_IndexFunc_170.Ok (slices_IndexFunc_170.step mm_ KK_) := by
 refine ⟨fun _ _ _ _ => ?_, fun _ _ _ _ => ?_, fun _ _ _ _ => ?_⟩
 rw [slices_IndexFunc_170.L1_eq]; rotate_left
 rw [slices_IndexFunc_170.L2_eq]; rotate_left
 rw [slices_IndexFunc_170.L3_eq]; rotate_left
 all_goals dsimp only [slices_IndexFunc_170.step]
 all_goals (repeat' (with_reducible first | exact hh_.1 _ _ _ _ | exact hh_.2.1 _ _ _ _ | exact hh_.2.2 _ _ _ _ | exact admin_late_1.G_le mm_ _ _ | exact Le.refl _ | refine Le.cond ?_ ?_ | refine Le.bind ?_ fun _ => ?_))
theorem slices_IndexFunc_170.K_le (mm_ : Nat) : ∀ nn_, slices_IndexFunc_170.Ok (slices_IndexFunc_170.K mm_ nn_)
| 0 => ⟨fun _ _ _ _ => Le.none _, fun _ _ _ _ => Le.none _, fun _ _ _ _ => Le.none _⟩
| nn_ + 1 => slices_IndexFunc_170.step_le mm_ (slices_IndexFunc_170.K mm_ nn_) (slices_IndexFunc_170.K_le mm_ nn_)
def slices_IndexFunc_170.G (mm_ : Nat) (s : List t1.den) (f : Int) : Option (Int × Int × Unit) :=
 (slices_IndexFunc_170.K mm_ mm_).1 s ((List.length s : Int)) 0 f
theorem slices_IndexFunc_170.G_le (mm_ : Nat) (s : List t1.den) (f : Int) : Le (slices_IndexFunc_170.G mm_ s f) (slices_IndexFunc_170.F s f) := by
 rw [slices_IndexFunc_170.F_eq]; unfold slices_IndexFunc_170.G; (repeat' (with_reducible first | exact (slices_IndexFunc_170.K_le mm_ mm_).1 _ _ _ _ | exact (slices_IndexFunc_170.K_le mm_ mm_).2.1 _ _ _ _ | exact (slices_IndexFunc_170.K_le mm_ mm_).2.2 _ _ _ _ | exact admin_late_1.G_le mm_ _ _ | exact Le.refl _ | refine Le.cond ?_ ?_ | refine Le.bind ?_ fun _ => ?_))
/-! ### slices_ContainsFunc_131 -/
def slices_ContainsFunc_131.G (mm_ : Nat) (s : List t1.den) (f : Int) : Option (Int × Bool × Unit) :=
 ((slices_IndexFunc_170.G mm_) s f).bind fun r0 =>
 some (r0.1, (decide ((r0.2.1 : Int) ≥ 0)), ())
theorem slices_ContainsFunc_131.G_le (mm_ : Nat) (s : List t1.den) (f : Int) : Le (slices_ContainsFunc_131.G mm_ s f) (slices_ContainsFunc_131.F s f) := by
 rw [slices_ContainsFunc_131.F_eq]; unfold slices_ContainsFunc_131.G; (repeat' (with_reducible first  | exact slices_IndexFunc_170.G_le mm_ _ _ | exact Le.refl _ | refine Le.cond ?_ ?_ | refine Le.bind ?_ fun _ => ?_))
/-! ### admin_late -/
def admin_late.G (mm_ : Nat) (p : t7.den) (tick : Int) : Option (Bool × Unit) :=
 ((admin_late_1.G mm_) p.2.2.1 tick).bind fun r0 =>
 bif r0.2.1 then
 some (true, ())
 else
 ((slices_ContainsFunc_131.G mm_) p.2.2.2.1.2.2.1 r0.1).bind fun r1 =>
 bif r1.2.1 then
 some (true, ())
 else
 ((slices_ContainsFunc_131.G mm_) p.2.2.2.2.1.2.2.1 r1.1).bind fun r2 =>
 some (r2.2.1, ())
theorem admin_late.G_le (mm_ : Nat) (p : t7.den) (tick : Int) : Le (admin_late.G mm_ p tick) (admin_late.F p tick) := by
 rw [admin_late.F_eq]; unfold admin_late.G; (repeat' (with_reducible first  | exact admin_late_1.G_le mm_ _ _ | exact slices_ContainsFunc_131.G_le mm_ _ _ | exact Le.refl _ | refine Le.cond ?_ ?_ | refine Le.bind ?_ fun _ => ?_))
/-! ### admin_Valid_1 -/
def admin_Valid_1.G (mm_ : Nat) (p : t7.den) (x1 : t8.den) : Option (t8.den × Bool × Unit) :=
 ((admin_late.G mm_) p x1.1).bind fun r0 =>
 some (x1, r0.1, ())
theorem admin_Valid_1.G_le (mm_ : Nat) (p : t7.den) (x1 : t8.den) : Le (admin_Valid_1.G mm_ p x1) (admin_Valid_1.F p x1) := by
 rw [admin_Valid_1.F_eq]; unfold admin_Valid_1.G; (repeat' (with_reducible first  | exact admin_late.G_le mm_ _ _ | exact Le.refl _ | refine Le.cond ?_ ?_ | refine Le.bind ?_ fun _ => ?_))
/-! ### slices_IndexFunc_129 -/
@[reducible] def slices_IndexFunc_129.KT : Type := ((List t7.den) → Int → Int → Int → (List Int) → (List Int) → (List t7.den) → (Option (t8.den × Int × Unit))) × ((List t7.den) → Int → Int → Int → (List Int) → (List Int) → (List t7.den) → (Option (t8.den × Int × Unit))) × ((List t7.den) → Int → Int → Int → (List Int) → (List Int) → (List t7.den) → (Option (t8.den × Int × Unit)))
@[reducible] def slices_IndexFunc_129.Ok (KK_ : slices_IndexFunc_129.KT) : Prop := (∀ s t7_ t8_ b0 b02 b03 b04, Le (KK_.1 s t7_ t8_ b0 b02 b03 b04) (slices_IndexFunc_129.L1 s t7_ t8_ b0 b02 b03 b04)) ∧ (∀ s t7_ t8_ b0 b02 b03 b04, Le (KK_.2.1 s t7_ t8_ b0 b02 b03 b04) (slices_IndexFunc_129.L2 s t7_ t8_ b0 b02 b03 b04)) ∧ (∀ s t7_ t8_ b0 b02 b03 b04, Le (KK_.2.2 s t7_ t8_ b0 b02 b03 b04) (slices_IndexFunc_129.L3 s t7_ t8_ b0 b02 b03 b04))
def slices_IndexFunc_129.step (mm_ : Nat) (KK_ : slices_IndexFunc_129.KT) : slices_IndexFunc_129.KT := ((fun s t7_ t8_ b0 b02 b03 b04 =>
 bif (decide ((t8_ : Int) < t7_)) then
 KK_.2.1 s t7_ t8_ b0 b02 b03 b04
 else
 some ((b0, b02, b03, b04, ()), (-1), ())),
(fun s t7_ t8_ b0 b02 b03 b04 =>
 bif (decide ((0 : Int) ≤ t8_ ∧ (t8_ : Int) < ((List.length s : Int)))) then
 ((admin_Valid_1.G mm_) (List.getD s (Int.toNat t8_) d7_) (b0, b02, b03, b04, ())).bind fun r0 =>
 bif r0.2.1 then
 some (r0.1, t8_, ())
 else
 KK_.2.2 s t7_ t8_ r0.1.1 r0.1.2.1 r0.1.2.2.1 r0.1.2.2.2.1
 else none),
(fun s t7_ t8_ b0 b02 b03 b04 =>
 KK_.1 s t7_ (IntKind.wrap .i64 (t8_ + 1)) b0 b02 b03 b04))
def slices_IndexFunc_129.K (mm_ : Nat) : Nat → slices_IndexFunc_129.KT
| 0 => ((fun _ _ _ _ _ _ _ => none), (fun _ _ _ _ _ _ _ => none), (fun _ _ _ _ _ _ _ => none))
| nn_ + 1 => slices_IndexFunc_129.step mm_ (slices_IndexFunc_129.K mm_ nn_)
theorem slices_IndexFunc_129.step_le (mm_ : Nat) (KK_ : slices_IndexFunc_129.KT) (hh_ : slices_IndexFunc_129.Ok KK_) : slices_IndexFunc_129.Ok (slices_IndexFunc_129.step mm_ KK_) := by
 refine ⟨fun _ _ _ _ _ _ _ => ?_, fun _ _ _ _ _ _ _ => ?_, fun _ _ _ _ _ _ _ => ?_⟩
 rw [slices_IndexFunc_129.L1_eq]; rotate_left
 rw [slices_IndexFunc_129.L2_eq]; rotate_left
 rw [slices_IndexFunc_129.L3_eq]; rotate_left
 all_goals dsimp only [slices_IndexFunc_129.step]
 all_goals (repeat' (with_reducible first | exact hh_.1 _ _ _ _ _ _ _ | exact hh_.2.1 _ _ _ _ _ _ _ | exact hh_.2.2 _ _ _ _ _ _ _ | exact admin_Valid_1.G_le mm_ _ _ | exact Le.refl _ | refine Le.cond ?_ ?_ | refine Le.bind ?_ fun _ => ?_))
theorem slices_IndexFunc_129.K_le (mm_ : Nat) : ∀ nn_, slices_IndexFunc_129.Ok (slices_IndexFunc_129.K mm_ nn_)
| 0 => ⟨fun _ _ _ _ _ _ _ => Le.none _, fun _ _ _ _ _ _ _ => Le.none _, fun _ _ _ _ _ _ _ => Le.none _⟩
| nn_ + 1 => slices_IndexFunc_129.step_le mm_ (slices_IndexFunc_129.K mm_ nn_) (slices_IndexFunc_129.K_le mm_ nn_)
def slices_IndexFunc_129.G (mm_ : Nat) (s : List t7.den) (f : t8.den) : Option (t8.den × Int × Unit) :=
 (slices_IndexFunc_129.K mm_ mm_).1 s ((List.length s : Int)) 0 f.1 f.2.1 f.2.2.1 f.2.2.2.1
theorem slices_IndexFunc_129.G_le (mm_ : Nat) (s : List t7.den) (f : t8.den) : Le (slices_IndexFunc_129.G mm_ s f) (slices_IndexFunc_129.F s f) := by
 rw [slices_IndexFunc_129.F_eq]; unfold slices_IndexFunc_129.G; (repeat' (with_reducible first | exact (slices_IndexFunc_129.K_le mm_ mm_).1 _ _ _ _ _ _ _ | exact (slices_IndexFunc_129.K_le mm_ mm_).2.1 _ _ _ _ _ _ _ | exact (slices_IndexFunc_129.K_le mm_ mm_).2.2 _ _ _ _ _ _ _ | exact admin_Valid_1.G_le mm_ _ _ | exact Le.refl _ | refine Le.cond ?_ ?_ | refine Le.bind ?_ fun _ => ?_))
/-! ### slices_ContainsFunc_86 -/
def slices_ContainsFunc_86.G (mm_ : Nat) (s : List t7.den) (f : t8.den) : Option (t8.den × Bool × Unit) :=
 ((slices_IndexFunc_129.G mm_) s f).bind fun r0 =>
 some (r0.1, (decide ((r0.2.1 : Int) ≥ 0)), ())
theorem slices_ContainsFunc_86.G_le (mm_ : Nat) (s : List t7.den) (f : t8.den) : Le (slices_ContainsFunc_86.G mm_ s f) (slices_ContainsFunc_86.F s f) := by
 rw [slices_ContainsFunc_86.F_eq]; unfold slices_ContainsFunc_86.G; (repeat' (with_reducible first  | exact slices_IndexFunc_129.G_le mm_ _ _ | exact Le.refl _ | refine Le.cond ?_ ?_ | refine Le.bind ?_ fun _ => ?_))
/-! ### registry_Check -/
@[reducible] def registry_Check.KT : Type := ((List t7.den) → (Option (Int × Unit))) × ((List t7.den) → Int → Int → (Option (Int × Unit))) × ((List t7.den) → Int → Int → (Option (Int × Unit))) × ((List t7.den) → Int → Int → (Option (Int × Unit)))
@[reducible] def registry_Check.Ok (KK_ : registry_Check.KT) : Prop := (∀ l, Le (KK_.1 l) (registry_Check.L1 l)) ∧ (∀ l t9_ t10_, Le (KK_.2.1 l t9_ t10_) (registry_Check.L2 l t9_ t10_)) ∧ (∀ l t9_ t10_, Le (KK_.2.2.1 l t9_ t10_) (registry_Check.L3 l t9_ t10_)) ∧ (∀ l t9_ t10_, Le (KK_.2.2.2 l t9_ t10_) (registry_Check.L4 l t9_ t10_))
def registry_Check.step (mm_ : Nat) (KK_ : registry_Check.KT) : registry_Check.KT := ((fun l =>
 KK_.2.1 l ((List.length l : Int)) 0),
(fun l t9_ t10_ =>
 bif (decide ((t10_ : Int) < t9_)) then
 KK_.2.2.1 l t9_ t10_
 else
 some (0, ())),
(fun l t9_ t10_ =>
 bif (decide ((0 : Int) ≤ t10_ ∧ (t10_ : Int) < ((List.length l : Int)))) then
 ((part_Check.G mm_) (List.getD l (Int.toNat t10_) d7_)).bind fun r0 =>
 bif (r0.1 != 0) then
 some (8, ())
 else
 bif (decide ((t10_ : Int) > 0)) then
  bif (decide ((0 : Int) ≤ (IntKind.wrap .i64 (t10_ - 1)) ∧ ((IntKind.wrap .i64 (t10_ - 1)) : Int) < ((List.length l : Int)))) then
  bif (decide ((((List.getD l (Int.toNat (IntKind.wrap .i64 (t10_ - 1))) d7_).1) : Int) ≥ ((List.getD l (Int.toNat t10_) d7_).1))) then
   some (8, ())
  else
   KK_.2.2.2 l t9_ t10_
  else none
 else
  KK_.2.2.2 l t9_ t10_
 else none),
(fun l t9_ t10_ =>
 KK_.2.1 l t9_ (IntKind.wrap .i64 (t10_ + 1))))
def registry_Check.K (mm_ : Nat) : Nat → registry_Check.KT
| 0 => ((fun _ => none), (fun _ _ _ => none), (fun _ _ _ => none), (fun _ _ _ => none))
| nn_ + 1 => registry_Check.step mm_ (registry_Check.K mm_ nn_)
theorem registry_Check.step_le (mm_ : Nat) (KK_ : registry_Check.KT) (hh_ : registry_Check.Ok KK_) : registry_Check.Ok (registry_Check.step mm_ KK_) := by
 refine ⟨fun _ => ?_, fun _ _ _ => ?_, fun _ _ _ => ?_, fun _ _ _ => ?_⟩
 rw [registry_Check.L1_eq]; rotate_left
 rw [registry_Check.L2_eq]; rotate_left
 rw [registry_Check.L3_eq]; rotate_left
 rw [registry_Check.L4_eq]; rotate_left
 all_goals dsimp only [registry_Check.step]
 all_goals (repeat' (with_reducible first | exact hh_.1 _ | exact hh_.2.1 _ _ _ | exact hh_.2.2.1 _ _ _ | exact hh_.2.2.2 _ _ _ | exact part_Check.G_le mm_ _ | exact Le.refl _ | refine Le.cond ?_ ?_ | refine Le.bind ?_ fun _ => ?_))
theorem registry_Check.K_le (mm_ : Nat) : ∀ nn_, registry_Check.Ok (registry_Check.K mm_ nn_)
| 0 => ⟨fun _ => Le.none _, fun _ _ _ => Le.none _, fun _ _ _ => Le.none _, fun _ _ _ => Le.none _⟩
| nn_ + 1 => registry_Check.step_le mm_ (registry_Check.K mm_ nn_) (registry_Check.K_le mm_ nn_)
def registry_Check.G (mm_ : Nat) (l : List t7.den) : Option (Int × Unit) :=
 bif (decide ((((List.length l : Int)) : Int) > 8)) then
 some (4, ())
 else
 (registry_Check.K mm_ mm_).1 l
theorem registry_Check.G_le (mm_ : Nat) (l : List t7.den) : Le (registry_Check.G mm_ l) (registry_Check.F l) := by
 rw [registry_Check.F_eq]; unfold registry_Check.G; (repeat' (with_reducible first | exact (registry_Check.K_le mm_ mm_).1 _ | exact (registry_Check.K_le mm_ mm_).2.1 _ _ _ | exact (registry_Check.K_le mm_ mm_).2.2.1 _ _ _ | exact (registry_Check.K_le mm_ mm_).2.2.2 _ _ _ | exact part_Check.G_le mm_ _ | exact Le.refl _ | refine Le.cond ?_ ?_ | refine Le.bind ?_ fun _ => ?_))
/-! ### admin_Valid -/
@[reducible] def admin_Valid.KT : Type := (Int → (List Int) → (List Int) → (List t7.den) → (Option (Int × Unit))) × ((Option (Int × Unit)))
@[reducible] def admin_Valid.Ok (KK_ : admin_Valid.KT) : Prop := (∀ b0 b02 b03 b04, Le (KK_.1 b0 b02 b03 b04) (admin_Valid.L1 b0 b02 b03 b04)) ∧ (Le (KK_.2 ) (admin_Valid.L2 ))
def admin_Valid.step (mm_ : Nat) (KK_ : admin_Valid.KT) : admin_Valid.KT := ((fun b0 b02 b03 b04 =>
 bif (decide ((0 : Int) ≤ 0 ∧ (0 : Int) ≤ 16 ∧ (16 : Int) ≤ 16)) then
 ((slices_Max.G mm_) (List.take ((Int.toNat 16) - (Int.toNat 0)) (List.drop (Int.toNat 0) b03))).bind fun r0 =>
 bif (decide ((r0.1 : Int) > 1000000)) then
 some (8, ())
 else
 ((slices_ContainsFunc_86.G mm_) b04 (b0, b02, b03, b04, ())).bind fun r1 =>
 bif r1.2.1 then
  some (8, ())
 else
  KK_.2
 else none),
(
 some (0, ())))
def admin_Valid.K (mm_ : Nat) : Nat → admin_Valid.KT
| 0 => ((fun _ _ _ _ => none), ( none))
| nn_ + 1 => admin_Valid.step mm_ (admin_Valid.K mm_ nn_)
theorem admin_Valid.step_le (mm_ : Nat) (KK_ : admin_Valid.KT) (hh_ : admin_Valid.Ok KK_) : admin_Valid.Ok (admin_Valid.step mm_ KK_) := by
 refine ⟨fun _ _ _ _ => ?_, ?_⟩
 rw [admin_Valid.L1_eq]; rotate_left
 rw [admin_Valid.L2_eq]; rotate_left
 all_goals dsimp only [admin_Valid.step]
 all_goals (repeat' (with_reducible first | exact hh_.1 _ _ _ _ | exact hh_.2 | exact slices_Max.G_le mm_ _ | exact slices_ContainsFunc_86.G_le mm_ _ _ | exact registry_Check.G_le mm_ _ | exact Le.refl _ | refine Le.cond ?_ ?_ | refine Le.bind ?_ fun _ => ?_))
theorem admin_Valid.K_le (mm_ : Nat) : ∀ nn_, admin_Valid.Ok (admin_Valid.K mm_ nn_)
| 0 => ⟨fun _ _ _ _ => Le.none _,  Le.none _⟩
| nn_ + 1 => admin_Valid.step_le mm_ (admin_Valid.K mm_ nn_) (admin_Valid.K_le mm_ nn_)
def admin_Valid.G (mm_ : Nat) (s : t8.den) : Option (Int × Unit) :=
 ((registry_Check.G mm_) s.2.2.2.1).bind fun r0 =>
 bif (r0.1 != 0) then
 some (8, ())
 else
 (admin_Valid.K mm_ mm_).1 s.1 s.2.1 s.2.2.1 s.2.2.2.1
theorem admin_Valid.G_le (mm_ : Nat) (s : t8.den) : Le (admin_Valid.G mm_ s) (admin_Valid.F s) := by
 rw [admin_Valid.F_eq]; unfold admin_Valid.G; (repeat' (with_reducible first | exact (admin_Valid.K_le mm_ mm_).1 _ _ _ _ | exact (admin_Valid.K_le mm_ mm_).2 | exact slices_Max.G_le mm_ _ | exact slices_ContainsFunc_86.G_le mm_ _ _ | exact registry_Check.G_le mm_ _ | exact Le.refl _ | refine Le.cond ?_ ?_ | refine Le.bind ?_ fun _ => ?_))
/-! ### server_Check -/
def server_Check.G (mm_ : Nat) (s : t8.den) : Option (Int × Unit) :=
 ((admin_Valid.G mm_) s).bind fun r0 =>
 some (r0.1, ())
theorem server_Check.G_le (mm_ : Nat) (s : t8.den) : Le (server_Check.G mm_ s) (server_Check.F s) := by
 rw [server_Check.F_eq]; unfold server_Check.G; (repeat' (with_reducible first  | exact admin_Valid.G_le mm_ _ | exact Le.refl _ | refine Le.cond ?_ ?_ | refine Le.bind ?_ fun _ => ?_))
/-! ### refine_Of -/
@[reducible] def refine_Of.KT : Type := (Int → (List Int) → (List Int) → (List t7.den) → (List Int) → (List Int) → (List t10.den) → (Option (t11.den × Int × Unit)))
@[reducible] def refine_Of.Ok (KK_ : refine_Of.KT) : Prop := (∀ b0 b02 b03 b04 b1 b12 l2, Le (KK_ b0 b02 b03 b04 b1 b12 l2) (refine_Of.L1 b0 b02 b03 b04 b1 b12 l2))
def refine_Of.step (mm_ : Nat) (KK_ : refine_Of.KT) : refine_Of.KT := ((fun b0 b02 b03 b04 b1 b12 l2 =>
 ((refine_of.G mm_) (b0, b02, b03, b04, ())).bind fun r0 =>
 some (r0.1, 0, ())))
def refine_Of.K (mm_ : Nat) : Nat → refine_Of.KT
| 0 => ((fun _ _ _ _ _ _ _ => none))
| nn_ + 1 => refine_Of.step mm_ (refine_Of.K mm_ nn_)
theorem refine_Of.step_le (mm_ : Nat) (KK_ : refine_Of.KT) (hh_ : refine_Of.Ok KK_) : refine_Of.Ok (refine_Of.step mm_ KK_) := by
 refine fun _ _ _ _ _ _ _ => ?_
 rw [refine_Of.L1_eq]
 all_goals dsimp only [refine_Of.step]
 all_goals (repeat' (with_reducible first | exact hh_ _ _ _ _ _ _ _ | exact refine_of.G_le mm_ _ | exact server_Check.G_le mm_ _ | exact Le.refl _ | refine Le.cond ?_ ?_ | refine Le.bind ?_ fun _ => ?_))
theorem refine_Of.K_le (mm_ : Nat) : ∀ nn_, refine_Of.Ok (refine_Of.K mm_ nn_)
| 0 => fun _ _ _ _ _ _ _ => Le.none _
| nn_ + 1 => refine_Of.step_le mm_ (refine_Of.K mm_ nn_) (refine_Of.K_le mm_ nn_)
def refine_Of.G (mm_ : Nat) (s : t8.den) : Option (t11.den × Int × Unit) :=
 ((server_Check.G mm_) s).bind fun r0 =>
 bif (r0.1 != 0) then
 some ((0, (List.replicate 32 (0 : Int)), (List.replicate 16 (0 : Int)), ([] : List t10.den), ()), r0.1, ())
 else
 (refine_Of.K mm_ mm_) s.1 s.2.1 s.2.2.1 s.2.2.2.1 (List.replicate 32 (0 : Int)) (List.replicate 16 (0 : Int)) ([] : List t10.den)
theorem refine_Of.G_le (mm_ : Nat) (s : t8.den) : Le (refine_Of.G mm_ s) (refine_Of.F s) := by
 rw [refine_Of.F_eq]; unfold refine_Of.G; (repeat' (with_reducible first | exact (refine_Of.K_le mm_ mm_) _ _ _ _ _ _ _ | exact refine_of.G_le mm_ _ | exact server_Check.G_le mm_ _ | exact Le.refl _ | refine Le.cond ?_ ?_ | refine Le.bind ?_ fun _ => ?_))
/-! ### image_writer_put -/
@[reducible] def image_writer_put.KT : Type := (Int → Int → (List Int) → (Option (t13.den × Unit))) × (Int → Int → (List Int) → (Option (t13.den × Unit)))
@[reducible] def image_writer_put.Ok (KK_ : image_writer_put.KT) : Prop := (∀ n k l1, Le (KK_.1 n k l1) (image_writer_put.L1 n k l1)) ∧ (∀ n k l1, Le (KK_.2 n k l1) (image_writer_put.L2 n k l1))
def image_writer_put.step (mm_ : Nat) (KK_ : image_writer_put.KT) : image_writer_put.KT := ((fun n k l1 =>
 bif (decide ((k : Int) ≥ 0)) then
 KK_.2 n k l1
 else
 some ((l1, ()), ())),
(fun n k l1 =>
 bif (decide ((0 : Int) ≤ (IntKind.wrap .i64 (8 * k)))) then
 bif (lim ((List.length l1) + (List.length ([(IntKind.wrap .u8 (Int.fdiv n (2 ^ min (Int.toNat (IntKind.wrap .i64 (8 * k))) (IntKind.bits .u64))))] : List Int))) (.int .u8)) then
 KK_.1 n (IntKind.wrap .i64 (k - 1)) (l1 ++ ([(IntKind.wrap .u8 (Int.fdiv n (2 ^ min (Int.toNat (IntKind.wrap .i64 (8 * k))) (IntKind.bits .u64))))] : List Int))
 else none
 else none))
def image_writer_put.K (mm_ : Nat) : Nat → image_writer_put.KT
| 0 => ((fun _ _ _ => none), (fun _ _ _ => none))
| nn_ + 1 => image_writer_put.step mm_ (image_writer_put.K mm_ nn_)
theorem image_writer_put.step_le (mm_ : Nat) (KK_ : image_writer_put.KT) (hh_ : image_writer_put.Ok KK_) : image_writer_put.Ok (image_writer_put.step mm_ KK_) := by
 refine ⟨fun _ _ _ => ?_, fun _ _ _ => ?_⟩
 rw [image_writer_put.L1_eq]; rotate_left
 rw [image_writer_put.L2_eq]; rotate_left
 all_goals dsimp only [image_writer_put.step]
 all_goals (repeat' (with_reducible first | exact hh_.1 _ _ _ | exact hh_.2 _ _ _  | exact Le.refl _ | refine Le.cond ?_ ?_ | refine Le.bind ?_ fun _ => ?_))
theorem image_writer_put.K_le (mm_ : Nat) : ∀ nn_, image_writer_put.Ok (image_writer_put.K mm_ nn_)
| 0 => ⟨fun _ _ _ => Le.none _, fun _ _ _ => Le.none _⟩
| nn_ + 1 => image_writer_put.step_le mm_ (image_writer_put.K mm_ nn_) (image_writer_put.K_le mm_ nn_)
def image_writer_put.G (mm_ : Nat) (w : t13.den) (n k : Int) : Option (t13.den × Unit) :=
 (image_writer_put.K mm_ mm_).1 n (IntKind.wrap .i64 (k - 1)) w.1
theorem image_writer_put.G_le (mm_ : Nat) (w : t13.den) (n k : Int) : Le (image_writer_put.G mm_ w n k) (image_writer_put.F w n k) := by
 rw [image_writer_put.F_eq]; unfold image_writer_put.G; (repeat' (with_reducible first | exact (image_writer_put.K_le mm_ mm_).1 _ _ _ | exact (image_writer_put.K_le mm_ mm_).2 _ _ _  | exact Le.refl _ | refine Le.cond ?_ ?_ | refine Le.bind ?_ fun _ => ?_))
/-! ### image_writer_bucket -/
def image_writer_bucket.G (mm_ : Nat) (w : t13.den) (b : t1.den) : Option (t13.den × Unit) :=
 ((image_writer_put.G mm_) w (IntKind.wrap .u64 b.2.1) 8).bind fun r0 =>
 ((image_writer_put.G mm_) r0.1 (IntKind.wrap .u64 b.2.2.1) 8).bind fun r1 =>
 ((image_writer_put.G mm_) r1.1 b.2.2.2.1 8).bind fun r2 =>
 some (r2.1, ())
theorem image_writer_bucket.G_le (mm_ : Nat) (w : t13.den) (b : t1.den) : Le (image_writer_bucket.G mm_ w b) (image_writer_bucket.F w b) := by
 rw [image_writer_bucket.F_eq]; unfold image_writer_bucket.G; (repeat' (with_reducible first  | exact image_writer_put.G_le mm_ _ _ _ | exact Le.refl _ | refine Le.cond ?_ ?_ | refine Le.bind ?_ fun _ => ?_))
/-! ### image_writer_held -/
@[reducible] def image_writer_held.KT : Type := ((List t9.den) → Int → Int → (List Int) → (Option (t13.den × Unit))) × ((List t9.den) → Int → Int → (List Int) → (Option (t13.den × Unit)))
@[reducible] def image_writer_held.Ok (KK_ : image_writer_held.KT) : Prop := (∀ t11_ t12_ t13_ l1, Le (KK_.1 t11_ t12_ t13_ l1) (image_writer_held.L1 t11_ t12_ t13_ l1)) ∧ (∀ t11_ t12_ t13_ l1, Le (KK_.2 t11_ t12_ t13_ l1) (image_writer_held.L2 t11_ t12_ t13_ l1))
def image_writer_held.step (mm_ : Nat) (KK_ : image_writer_held.KT) : image_writer_held.KT := ((fun t11_ t12_ t13_ l1 =>
 bif (decide ((t13_ : Int) < t12_)) then
 KK_.2 t11_ t12_ t13_ l1
 else
 some ((l1, ()), ())),
(fun t11_ t12_ t13_ l1 =>
 bif (decide ((0 : Int) ≤ t13_ ∧ (t13_ : Int) < ((List.length t11_ : Int)))) then
 ((image_writer_put.G mm_) (l1, ()) (IntKind.wrap .u64 ((List.getD t11_ (Int.toNat t13_) d9_).1)) 4).bind fun r0 =>
 ((image_writer_bucket.G mm_) r0.1 (((List.getD t11_ (Int.toNat t13_) d9_).2).1)).bind fun r1 =>
 KK_.1 t11_ t12_ (IntKind.wrap .i64 (t13_ + 1)) r1.1.1
 else none))
def image_writer_held.K (mm_ : Nat) : Nat → image_writer_held.KT
| 0 => ((fun _ _ _ _ => none), (fun _ _ _ _ => none))
| nn_ + 1 => image_writer_held.step mm_ (image_writer_held.K mm_ nn_)
theorem image_writer_held.step_le (mm_ : Nat) (KK_ : image_writer_held.KT) (hh_ : image_writer_held.Ok KK_) : image_writer_held.Ok (image_writer_held.step mm_ KK_) := by
 refine ⟨fun _ _ _ _ => ?_, fun _ _ _ _ => ?_⟩
 rw [image_writer_held.L1_eq]; rotate_left
 rw [image_writer_held.L2_eq]; rotate_left
 all_goals dsimp only [image_writer_held.step]
 all_goals (repeat' (with_reducible first | exact hh_.1 _ _ _ _ | exact hh_.2 _ _ _ _ | exact image_writer_put.G_le mm_ _ _ _ | exact image_writer_bucket.G_le mm_ _ _ | exact Le.refl _ | refine Le.cond ?_ ?_ | refine Le.bind ?_ fun _ => ?_))
theorem image_writer_held.K_le (mm_ : Nat) : ∀ nn_, image_writer_held.Ok (image_writer_held.K mm_ nn_)
| 0 => ⟨fun _ _ _ _ => Le.none _, fun _ _ _ _ => Le.none _⟩
| nn_ + 1 => image_writer_held.step_le mm_ (image_writer_held.K mm_ nn_) (image_writer_held.K_le mm_ nn_)
def image_writer_held.G (mm_ : Nat) (w : t13.den) (l : List t9.den) : Option (t13.den × Unit) :=
 ((image_writer_put.G mm_) w (IntKind.wrap .u64 ((List.length l : Int))) 1).bind fun r0 =>
 (image_writer_held.K mm_ mm_).1 l ((List.length l : Int)) 0 r0.1.1
theorem image_writer_held.G_le (mm_ : Nat) (w : t13.den) (l : List t9.den) : Le (image_writer_held.G mm_ w l) (image_writer_held.F w l) := by
 rw [image_writer_held.F_eq]; unfold image_writer_held.G; (repeat' (with_reducible first | exact (image_writer_held.K_le mm_ mm_).1 _ _ _ _ | exact (image_writer_held.K_le mm_ mm_).2 _ _ _ _ | exact image_writer_put.G_le mm_ _ _ _ | exact image_writer_bucket.G_le mm_ _ _ | exact Le.refl _ | refine Le.cond ?_ ?_ | refine Le.bind ?_ fun _ => ?_))
/-! ### image_writer_account -/
@[reducible] def image_writer_account.KT : Type := ((List t0.den) → Int → Int → (List Int) → Int → Int → Int → Int → Int → Int → (List t9.den) → (List t9.den) → (List Int) → Int → Int → Int → (List Int) → (Option (t13.den × Unit))) × ((List t0.den) → Int → Int → (List Int) → Int → Int → Int → Int → Int → Int → (List t9.den) → (List t9.den) → (List Int) → Int → Int → Int → (List Int) → (Option (t13.den × Unit))) × ((List Int) → Int → Int → Int → (List t0.den) → (List Int) → Int → Int → Int → Int → Int → Int → (List t9.den) → (List t9.den) → Int → Int → Int → (List Int) → (Option (t13.den × Unit))) × ((List Int) → Int → Int → Int → (List t0.den) → (List Int) → Int → Int → Int → Int → Int → Int → (List t9.den) → (List t9.den) → Int → Int → Int → (List Int) → (Option (t13.den × Unit)))
@[reducible] def image_writer_account.Ok (KK_ : image_writer_account.KT) : Prop := (∀ t14_ t15_ b1 b12 b13 b14 b15 b16 b17 b18 b19 b110 b111 b112 b113 b114 l2, Le (KK_.1 t14_ t15_ b1 b12 b13 b14 b15 b16 b17 b18 b19 b110 b111 b112 b113 b114 l2) (image_writer_account.L1 t14_ t15_ b1 b12 b13 b14 b15 b16 b17 b18 b19 b110 b111 b112 b113 b114 l2)) ∧ (∀ t14_ t15_ b1 b12 b13 b14 b15 b16 b17 b18 b19 b110 b111 b112 b113 b114 l2, Le (KK_.2.1 t14_ t15_ b1 b12 b13 b14 b15 b16 b17 b18 b19 b110 b111 b112 b113 b114 l2) (image_writer_account.L2 t14_ t15_ b1 b12 b13 b14 b15 b16 b17 b18 b19 b110 b111 b112 b113 b114 l2)) ∧ (∀ t65_ t66_ t67_ b1 b12 b13 b14 b15 b16 b17 b18 b19 b110 b111 b112 b113 b114 l2, Le (KK_.2.2.1 t65_ t66_ t67_ b1 b12 b13 b14 b15 b16 b17 b18 b19 b110 b111 b112 b113 b114 l2) (image_writer_account.L3 t65_ t66_ t67_ b1 b12 b13 b14 b15 b16 b17 b18 b19 b110 b111 b112 b113 b114 l2)) ∧ (∀ t65_ t66_ t67_ b1 b12 b13 b14 b15 b16 b17 b18 b19 b110 b111 b112 b113 b114 l2, Le (KK_.2.2.2 t65_ t66_ t67_ b1 b12 b13 b14 b15 b16 b17 b18 b19 b110 b111 b112 b113 b114 l2) (image_writer_account.L4 t65_ t66_ t67_ b1 b12 b13 b14 b15 b16 b17 b18 b19 b110 b111 b112 b113 b114 l2))
def image_writer_account.step (mm_ : Nat) (KK_ : image_writer_account.KT) : image_writer_account.KT := ((fun t14_ t15_ b1 b12 b13 b14 b15 b16 b17 b18 b19 b110 b111 b112 b113 b114 l2 =>
 bif (decide ((t15_ : Int) < 3)) then
 KK_.2.1 t14_ t15_ b1 b12 b13 b14 b15 b16 b17 b18 b19 b110 b111 b112 b113 b114 l2
 else
 bif (decide ((0 : Int) ≤ 0 ∧ (0 : Int) < 2)) then
 ((image_writer_put.G mm_) (l2, ()) (IntKind.wrap .u64 (List.getD b12 (Int.toNat 0) 0)) 1).bind fun r0 =>
 bif (decide ((0 : Int) ≤ 1 ∧ (1 : Int) < 2)) then
  ((image_writer_put.G mm_) r0.1 (IntKind.wrap .u64 (List.getD b12 (Int.toNat 1) 0)) 1).bind fun r1 =>
  ((image_writer_bucket.G mm_) r1.1 ((b13, b14, b15, ()), b16, b17, b18, ())).bind fun r2 =>
  ((image_writer_held.G mm_) r2.1 b19).bind fun r3 =>
  ((image_writer_held.G mm_) r3.1 b110).bind fun r4 =>
  ((image_writer_put.G mm_) r4.1 (IntKind.wrap .u64 ((List.length b111 : Int))) 1).bind fun r5 =>
  KK_.2.2.1 b111 ((List.length b111 : Int)) 0 b1 t14_ b12 b13 b14 b15 b16 b17 b18 b19 b110 b112 b113 b114 r5.1.1
 else none
 else none),
(fun t14_ t15_ b1 b12 b13 b14 b15 b16 b17 b18 b19 b110 b111 b112 b113 b114 l2 =>
 bif (decide ((0 : Int) ≤ t15_ ∧ (t15_ : Int) < 3)) then
 ((image_writer_put.G mm_) (l2, ()) (IntKind.wrap .u64 ((List.getD t14_ (Int.toNat t15_) (0, 0, 0, ())).1)) 4).bind fun r0 =>
 ((image_writer_put.G mm_) r0.1 (IntKind.wrap .u64 (((List.getD t14_ (Int.toNat t15_) (0, 0, 0, ())).2).1)) 4).bind fun r1 =>
 ((image_writer_put.G mm_) r1.1 (IntKind.wrap .u64 ((((List.getD t14_ (Int.toNat t15_) (0, 0, 0, ())).2).2).1)) 4).bind fun r2 =>
 KK_.1 t14_ (IntKind.wrap .i64 (t15_ + 1)) b1 b12 b13 b14 b15 b16 b17 b18 b19 b110 b111 b112 b113 b114 r2.1.1
 else none),
(fun t65_ t66_ t67_ b1 b12 b13 b14 b15 b16 b17 b18 b19 b110 b111 b112 b113 b114 l2 =>
 bif (decide ((t67_ : Int) < t66_)) then
 KK_.2.2.2 t65_ t66_ t67_ b1 b12 b13 b14 b15 b16 b17 b18 b19 b110 b111 b112 b113 b114 l2
 else
 ((image_writer_put.G mm_) (l2, ()) b112 8).bind fun r0 =>
 ((image_writer_put.G mm_) r0.1 b113 8).bind fun r1 =>
 ((image_writer_put.G mm_) r1.1 b114 8).bind fun r2 =>
 some (r2.1, ())),
(fun t65_ t66_ t67_ b1 b12 b13 b14 b15 b16 b17 b18 b19 b110 b111 b112 b113 b114 l2 =>
 bif (decide ((0 : Int) ≤ t67_ ∧ (t67_ : Int) < ((List.length t65_ : Int)))) then
 ((image_writer_put.G mm_) (l2, ()) (IntKind.wrap .u64 (List.getD t65_ (Int.toNat t67_) 0)) 4).bind fun r0 =>
 KK_.2.2.1 t65_ t66_ (IntKind.wrap .i64 (t67_ + 1)) b1 b12 b13 b14 b15 b16 b17 b18 b19 b110 b111 b112 b113 b114 r0.1.1
 else none))
def image_writer_account.K (mm_ : Nat) : Nat → image_writer_account.KT
| 0 => ((fun _ _ _ _ _ _ _ _ _ _ _ _ _ _ _ _ _ => none), (fun _ _ _ _ _ _ _ _ _ _ _ _ _ _ _ _ _ => none), (fun _ _ _ _ _ _ _ _ _ _ _ _ _ _ _ _ _ _ => none), (fun _ _ _ _ _ _ _ _ _ _ _ _ _ _ _ _ _ _ => none))
| nn_ + 1 => image_writer_account.step mm_ (image_writer_account.K mm_ nn_)
theorem image_writer_account.step_le (mm_ : Nat) (KK_ : image_writer_account.KT) (hh_ : image_writer_account.Ok KK_) : image_writer_account.Ok (image_writer_account.step mm_ KK_) := by
 refine ⟨fun _ _ _ _ _ _ _ _ _ _ _ _ _ _ _ _ _ => ?_, fun _ _ _ _ _ _ _ _ _ _ _ _ _ _ _ _ _ => ?_, fun _ _ _ _ _ _ _ _ _ _ _ _ _ _ _ _ _ _ => ?_, fun _ _ _ _ _ _ _ _ _ _ _ _ _ _ _ _ _ _ => ?_⟩
 rw [image_writer_account.L1_eq]; rotate_left
 rw [image_writer_account.L2_eq]; rotate_left
 rw [image_writer_account.L3_eq]; rotate_left
 rw [image_writer_account.L4_eq]; rotate_left
 all_goals dsimp only [image_writer_account.step]
 all_goals (repeat' (with_reducible first | exact hh_.1 _ _ _ _ _ _ _ _ _ _ _ _ _ _ _ _ _ | exact hh_.2.1 _ _ _ _ _ _ _ _ _ _ _ _ _ _ _ _ _ | exact hh_.2.2.1 _ _ _ _ _ _ _ _ _ _ _ _ _ _ _ _ _ _ | exact hh_.2.2.2 _ _ _ _ _ _ _ _ _ _ _ _ _ _ _ _ _ _ | exact image_writer_put.G_le mm_ _ _ _ | exact image_writer_bucket.G_le mm_ _ _ | exact image_writer_held.G_le mm_ _ _ | exact Le.refl _ | refine Le.cond ?_ ?_ | refine Le.bind ?_ fun _ => ?_))
theorem image_writer_account.K_le (mm_ : Nat) : ∀ nn_, image_writer_account.Ok (image_writer_account.K mm_ nn_)
| 0 => ⟨fun _ _ _ _ _ _ _ _ _ _ _ _ _ _ _ _ _ => Le.none _, fun _ _ _ _ _ _ _ _ _ _ _ _ _ _ _ _ _ => Le.none _, fun _ _ _ _ _ _ _ _ _ _ _ _ _ _ _ _ _ _ => Le.none _, fun _ _ _ _ _ _ _ _ _ _ _ _ _ _ _ _ _ _ => Le.none _⟩
| nn_ + 1 => image_writer_account.step_le mm_ (image_writer_account.K mm_ nn_) (image_writer_account.K_le mm_ nn_)
def image_writer_account.G (mm_ : Nat) (w : t13.den) (a : t10.den) : Option (t13.den × Unit) :=
 ((image_writer_put.G mm_) w (IntKind.wrap .u64 a.1) 1).bind fun r0 =>
 (image_writer_account.K mm_ mm_).1 a.2.1 0 a.1 a.2.2.1 a.2.2.2.1.1.1 a.2.2.2.1.1.2.1 a.2.2.2.1.1.2.2.1 a.2.2.2.1.2.1 a.2.2.2.1.2.2.1 a.2.2.2.1.2.2.2.1 a.2.2.2.2.1 a.2.2.2.2.2.1 a.2.2.2.2.2.2.1 a.2.2.2.2.2.2.2.1.1 a.2.2.2.2.2.2.2.1.2.1 a.2.2.2.2.2.2.2.1.2.2.1 r0.1.1
theorem image_writer_account.G_le (mm_ : Nat) (w : t13.den) (a : t10.den) : Le (image_writer_account.G mm_ w a) (image_writer_account.F w a) := by
 rw [image_writer_account.F_eq]; unfold image_writer_account.G; (repeat' (with_reducible first | exact (image_writer_account.K_le mm_ mm_).1 _ _ _ _ _ _ _ _ _ _ _ _ _ _ _ _ _ | exact (image_writer_account.K_le mm_ mm_).2.1 _ _ _ _ _ _ _ _ _ _ _ _ _ _ _ _ _ | exact (image_writer_account.K_le mm_ mm_).2.2.1 _ _ _ _ _ _ _ _ _ _ _ _ _ _ _ _ _ _ | exact (image_writer_account.K_le mm_ mm_).2.2.2 _ _ _ _ _ _ _ _ _ _ _ _ _ _ _ _ _ _ | exact image_writer_put.G_le mm_ _ _ _ | exact image_writer_bucket.G_le mm_ _ _ | exact image_writer_held.G_le mm_ _ _ | exact Le.refl _ | refine Le.cond ?_ ?_ | refine Le.bind ?_ fun _ => ?_))
/-! ### image_Write -/
@[reducible] def image_Write.KT : Type := (Int → (List Int) → (List Int) → (List t7.den) → (Option ((List Int) × Int × Unit))) × ((List Int) → Int → Int → (List Int) → (List t10.den) → (List Int) → (Option ((List Int) × Int × Unit))) × ((List Int) → Int → Int → (List Int) → (List t10.den) → (List Int) → (Option ((List Int) × Int × Unit))) × (Int → Int → (List t10.den) → (List Int) → (Option ((List Int) × Int × Unit))) × (Int → Int → (List t10.den) → (List Int) → (Option ((List Int) × Int × Unit)))
@[reducible] def image_Write.Ok (KK_ : image_Write.KT) : Prop := (∀ b0 b02 b03 b04, Le (KK_.1 b0 b02 b03 b04) (image_Write.L1 b0 b02 b03 b04)) ∧ (∀ t32_ t33_ b0 b02 l2 l3, Le (KK_.2.1 t32_ t33_ b0 b02 l2 l3) (image_Write.L2 t32_ t33_ b0 b02 l2 l3)) ∧ (∀ t32_ t33_ b0 b02 l2 l3, Le (KK_.2.2.1 t32_ t33_ b0 b02 l2 l3) (image_Write.L3 t32_ t33_ b0 b02 l2 l3)) ∧ (∀ t47_ t48_ l1 l2, Le (KK_.2.2.2.1 t47_ t48_ l1 l2) (image_Write.L4 t47_ t48_ l1 l2)) ∧ (∀ t47_ t48_ l1 l2, Le (KK_.2.2.2.2 t47_ t48_ l1 l2) (image_Write.L5 t47_ t48_ l1 l2))
def image_Write.step (mm_ : Nat) (KK_ : image_Write.KT) : image_Write.KT := ((fun b0 b02 b03 b04 =>
 ((refine_Of.G mm_) (b0, b02, b03, b04, ())).bind fun r0 =>
 ((image_writer_put.G mm_) (([] : List Int), ()) r0.1.1 8).bind fun r1 =>
 bif (decide ((0 : Int) ≤ 0 ∧ (0 : Int) ≤ 32 ∧ (32 : Int) ≤ 32)) then
 bif (lim ((List.length r1.1.1) + (List.length (List.take ((Int.toNat 32) - (Int.toNat 0)) (List.drop (Int.toNat 0) r0.1.2.1)))) (.int .u8)) then
 KK_.2.1 r0.1.2.2.1 0 r0.1.1 r0.1.2.1 r0.1.2.2.2.1 (r1.1.1 ++ (List.take ((Int.toNat 32) - (Int.toNat 0)) (List.drop (Int.toNat 0) r0.1.2.1)))
 else none
 else none),
(fun t32_ t33_ b0 b02 l2 l3 =>
 bif (decide ((t33_ : Int) < 16)) then
 KK_.2.2.1 t32_ t33_ b0 b02 l2 l3
 else
 ((image_writer_put.G mm_) (l3, ()) (IntKind.wrap .u64 ((List.length l2 : Int))) 1).bind fun r0 =>
 KK_.2.2.2.1 ((List.length l2 : Int)) 0 l2 r0.1.1),
(fun t32_ t33_ b0 b02 l2 l3 =>
 bif (decide ((0 : Int) ≤ t33_ ∧ (t33_ : Int) < 16)) then
 ((image_writer_put.G mm_) (l3, ()) (IntKind.wrap .u64 (List.getD t32_ (Int.toNat t33_) 0)) 4).bind fun r0 =>
 KK_.2.1 t32_ (IntKind.wrap .i64 (t33_ + 1)) b0 b02 l2 r0.1.1
 else none),
(fun t47_ t48_ l1 l2 =>
 bif (decide ((t48_ : Int) < t47_)) then
 KK_.2.2.2.2 t47_ t48_ l1 l2
 else
 some (l2, 0, ())),
(fun t47_ t48_ l1 l2 =>
 bif (decide ((0 : Int) ≤ t48_ ∧ (t48_ : Int) < ((List.length l1 : Int)))) then
 ((image_writer_account.G mm_) (l2, ()) (List.getD l1 (Int.toNat t48_) d10_)).bind fun r0 =>
 KK_.2.2.2.1 t47_ (IntKind.wrap .i64 (t48_ + 1)) l1 r0.1.1
 else none))
def image_Write.K (mm_ : Nat) : Nat → image_Write.KT
| 0 => ((fun _ _ _ _ => none), (fun _ _ _ _ _ _ => none), (fun _ _ _ _ _ _ => none), (fun _ _ _ _ => none), (fun _ _ _ _ => none))
| nn_ + 1 => image_Write.step mm_ (image_Write.K mm_ nn_)
theorem image_Write.step_le (mm_ : Nat) (KK_ : image_Write.KT) (hh_ : image_Write.Ok KK_) : image_Write.Ok (image_Write.step mm_ KK_) := by
 refine ⟨fun _ _ _ _ => ?_, fun _ _ _ _ _ _ => ?_, fun _ _ _ _ _ _ => ?_, fun _ _ _ _ => ?_, fun _ _ _ _ => ?_⟩
 rw [image_Write.L1_eq]; rotate_left
 rw [image_Write.L2_eq]; rotate_left
 rw [image_Write.L3_eq]; rotate_left
 rw [image_Write.L4_eq]; rotate_left
 rw [image_Write.L5_eq]; rotate_left
 all_goals dsimp only [image_Write.step]
 all_goals (repeat' (with_reducible first | exact hh_.1 _ _ _ _ | exact hh_.2.1 _ _ _ _ _ _ | exact hh_.2.2.1 _ _ _ _ _ _ | exact hh_.2.2.2.1 _ _ _ _ | exact hh_.2.2.2.2 _ _ _ _ | exact refine_Of.G_le mm_ _ | exact image_writer_put.G_le mm_ _ _ _ | exact image_writer_account.G_le mm_ _ _ | exact server_Check.G_le mm_ _ | exact Le.refl _ | refine Le.cond ?_ ?_ | refine Le.bind ?_ fun _ => ?_))
theorem image_Write.K_le (mm_ : Nat) : ∀ nn_, image_Write.Ok (image_Write.K mm_ nn_)
| 0 => ⟨fun _ _ _ _ => Le.none _, fun _ _ _ _ _ _ => Le.none _, fun _ _ _ _ _ _ => Le.none _, fun _ _ _ _ => Le.none _, fun _ _ _ _ => Le.none _⟩
| nn_ + 1 => image_Write.step_le mm_ (image_Write.K mm_ nn_) (image_Write.K_le mm_ nn_)
def image_Write.G (mm_ : Nat) (s : t8.den) : Option ((List Int) × Int × Unit) :=
 ((server_Check.G mm_) s).bind fun r0 =>
 bif (r0.1 != 0) then
 some (([] : List Int), r0.1, ())
 else
 (image_Write.K mm_ mm_).1 s.1 s.2.1 s.2.2.1 s.2.2.2.1
theorem image_Write.G_le (mm_ : Nat) (s : t8.den) : Le (image_Write.G mm_ s) (image_Write.F s) := by
 rw [image_Write.F_eq]; unfold image_Write.G; (repeat' (with_reducible first | exact (image_Write.K_le mm_ mm_).1 _ _ _ _ | exact (image_Write.K_le mm_ mm_).2.1 _ _ _ _ _ _ | exact (image_Write.K_le mm_ mm_).2.2.1 _ _ _ _ _ _ | exact (image_Write.K_le mm_ mm_).2.2.2.1 _ _ _ _ | exact (image_Write.K_le mm_ mm_).2.2.2.2 _ _ _ _ | exact refine_Of.G_le mm_ _ | exact image_writer_put.G_le mm_ _ _ _ | exact image_writer_account.G_le mm_ _ _ | exact server_Check.G_le mm_ _ | exact Le.refl _ | refine Le.cond ?_ ?_ | refine Le.bind ?_ fun _ => ?_))
/-! ### spigotref03_CheckLimit -/
@[reducible] def spigotref03_CheckLimit.KT : Type := ((Option (Int × Unit)))
@[reducible] def spigotref03_CheckLimit.Ok (KK_ : spigotref03_CheckLimit.KT) : Prop := (Le (KK_ ) (spigotref03_CheckLimit.L1 ))
def spigotref03_CheckLimit.step (mm_ : Nat) (KK_ : spigotref03_CheckLimit.KT) : spigotref03_CheckLimit.KT := ((
 some (0, ())))
def spigotref03_CheckLimit.K (mm_ : Nat) : Nat → spigotref03_CheckLimit.KT
| 0 => (( none))
| nn_ + 1 => spigotref03_CheckLimit.step mm_ (spigotref03_CheckLimit.K mm_ nn_)
theorem spigotref03_CheckLimit.step_le (mm_ : Nat) (KK_ : spigotref03_CheckLimit.KT) (hh_ : spigotref03_CheckLimit.Ok KK_) : spigotref03_CheckLimit.Ok (spigotref03_CheckLimit.step mm_ KK_) := by
 change Le _ _
 refine ?_
 rw [spigotref03_CheckLimit.L1_eq]
 all_goals dsimp only [spigotref03_CheckLimit.step]
 all_goals (repeat' (with_reducible first | exact hh_  | exact Le.refl _ | refine Le.cond ?_ ?_ | refine Le.bind ?_ fun _ => ?_))
theorem spigotref03_CheckLimit.K_le (mm_ : Nat) : ∀ nn_, spigotref03_CheckLimit.Ok (spigotref03_CheckLimit.K mm_ nn_)
| 0 =>  Le.none _
| nn_ + 1 => spigotref03_CheckLimit.step_le mm_ (spigotref03_CheckLimit.K mm_ nn_) (spigotref03_CheckLimit.K_le mm_ nn_)
def spigotref03_CheckLimit.G (mm_ : Nat) (l : t0.den) : Option (Int × Unit) :=
 bif (decide ((l.1 : Int) < 1)) then
 some (8, ())
 else
 bif (decide ((l.1 : Int) > 1000000000)) then
 some (8, ())
 else
 bif (decide ((l.2.1 : Int) < 0)) then
  some (8, ())
 else
  bif (decide ((l.2.1 : Int) > 1000000000)) then
  some (8, ())
  else
  bif (decide ((l.2.2.1 : Int) < 1)) then
   some (8, ())
  else
   bif (decide ((l.2.2.1 : Int) > 1000000000)) then
   some (8, ())
   else
   (spigotref03_CheckLimit.K mm_ mm_)
theorem spigotref03_CheckLimit.G_le (mm_ : Nat) (l : t0.den) : Le (spigotref03_CheckLimit.G mm_ l) (spigotref03_CheckLimit.F l) := by
 rw [spigotref03_CheckLimit.F_eq]; unfold spigotref03_CheckLimit.G; (repeat' (with_reducible first | exact (spigotref03_CheckLimit.K_le mm_ mm_)  | exact Le.refl _ | refine Le.cond ?_ ?_ | refine Le.bind ?_ fun _ => ?_))
/-! ### spigotref18_Limited -/
@[reducible] def spigotref18_Limited.KT : Type := (Int → (List t0.den) → (Option (Bool × Unit))) × (Int → (List t0.den) → (Option (Bool × Unit))) × (Int → (List t0.den) → (Option (Bool × Unit)))
@[reducible] def spigotref18_Limited.Ok (KK_ : spigotref18_Limited.KT) : Prop := (∀ i b0, Le (KK_.1 i b0) (spigotref18_Limited.L1 i b0)) ∧ (∀ i b0, Le (KK_.2.1 i b0) (spigotref18_Limited.L2 i b0)) ∧ (∀ i b0, Le (KK_.2.2 i b0) (spigotref18_Limited.L3 i b0))
def spigotref18_Limited.step (mm_ : Nat) (KK_ : spigotref18_Limited.KT) : spigotref18_Limited.KT := ((fun i b0 =>
 bif (decide ((i : Int) < 3)) then
 KK_.2.1 i b0
 else
 some (true, ())),
(fun i b0 =>
 bif (decide ((0 : Int) ≤ i ∧ (i : Int) < 3)) then
 ((spigotref03_CheckLimit.G mm_) (List.getD b0 (Int.toNat i) (0, 0, 0, ()))).bind fun r0 =>
 bif (r0.1 != 0) then
 some (false, ())
 else
 KK_.2.2 i b0
 else none),
(fun i b0 =>
 KK_.1 (IntKind.wrap .i64 (i + 1)) b0))
def spigotref18_Limited.K (mm_ : Nat) : Nat → spigotref18_Limited.KT
| 0 => ((fun _ _ => none), (fun _ _ => none), (fun _ _ => none))
| nn_ + 1 => spigotref18_Limited.step mm_ (spigotref18_Limited.K mm_ nn_)
theorem spigotref18_Limited.step_le (mm_ : Nat) (KK_ : spigotref18_Limited.KT) (hh_ : spigotref18_Limited.Ok KK_) : spigotref18_Limited.Ok (spigotref18_Limited.step mm_ KK_) := by
 refine ⟨fun _ _ => ?_, fun _ _ => ?_, fun _ _ => ?_⟩
 rw [spigotref18_Limited.L1_eq]; rotate_left
 rw [spigotref18_Limited.L2_eq]; rotate_left
 rw [spigotref18_Limited.L3_eq]; rotate_left
 all_goals dsimp only [spigotref18_Limited.step]
 all_goals (repeat' (with_reducible first | exact hh_.1 _ _ | exact hh_.2.1 _ _ | exact hh_.2.2 _ _ | exact spigotref03_CheckLimit.G_le mm_ _ | exact Le.refl _ | refine Le.cond ?_ ?_ | refine Le.bind ?_ fun _ => ?_))
theorem spigotref18_Limited.K_le (mm_ : Nat) : ∀ nn_, spigotref18_Limited.Ok (spigotref18_Limited.K mm_ nn_)
| 0 => ⟨fun _ _ => Le.none _, fun _ _ => Le.none _, fun _ _ => Le.none _⟩
| nn_ + 1 => spigotref18_Limited.step_le mm_ (spigotref18_Limited.K mm_ nn_) (spigotref18_Limited.K_le mm_ nn_)
def spigotref18_Limited.G (mm_ : Nat) (l : List t0.den) : Option (Bool × Unit) :=
 (spigotref18_Limited.K mm_ mm_).1 0 l
theorem spigotref18_Limited.G_le (mm_ : Nat) (l : List t0.den) : Le (spigotref18_Limited.G mm_ l) (spigotref18_Limited.F l) := by
 rw [spigotref18_Limited.F_eq]; unfold spigotref18_Limited.G; (repeat' (with_reducible first | exact (spigotref18_Limited.K_le mm_ mm_).1 _ _ | exact (spigotref18_Limited.K_le mm_ mm_).2.1 _ _ | exact (spigotref18_Limited.K_le mm_ mm_).2.2 _ _ | exact spigotref03_CheckLimit.G_le mm_ _ | exact Le.refl _ | refine Le.cond ?_ ?_ | refine Le.bind ?_ fun _ => ?_))
/-! ### spigotref03_Full -/
@[reducible] def spigotref03_Full.KT : Type := (Int → Int → Int → Int → (Option (t1.den × Int × Unit)))
@[reducible] def spigotref03_Full.Ok (KK_ : spigotref03_Full.KT) : Prop := (∀ at_ b0 b02 b03, Le (KK_ at_ b0 b02 b03) (spigotref03_Full.L1 at_ b0 b02 b03))
def spigotref03_Full.step (mm_ : Nat) (KK_ : spigotref03_Full.KT) : spigotref03_Full.KT := ((fun at_ b0 b02 b03 =>
 some (((b0, b02, b03, ()), b0, 0, at_, ()), 0, ())))
def spigotref03_Full.K (mm_ : Nat) : Nat → spigotref03_Full.KT
| 0 => ((fun _ _ _ _ => none))
| nn_ + 1 => spigotref03_Full.step mm_ (spigotref03_Full.K mm_ nn_)
theorem spigotref03_Full.step_le (mm_ : Nat) (KK_ : spigotref03_Full.KT) (hh_ : spigotref03_Full.Ok KK_) : spigotref03_Full.Ok (spigotref03_Full.step mm_ KK_) := by
 refine fun _ _ _ _ => ?_
 rw [spigotref03_Full.L1_eq]
 all_goals dsimp only [spigotref03_Full.step]
 all_goals (repeat' (with_reducible first | exact hh_ _ _ _ _ | exact spigotref03_CheckLimit.G_le mm_ _ | exact Le.refl _ | refine Le.cond ?_ ?_ | refine Le.bind ?_ fun _ => ?_))
theorem spigotref03_Full.K_le (mm_ : Nat) : ∀ nn_, spigotref03_Full.Ok (spigotref03_Full.K mm_ nn_)
| 0 => fun _ _ _ _ => Le.none _
| nn_ + 1 => spigotref03_Full.step_le mm_ (spigotref03_Full.K mm_ nn_) (spigotref03_Full.K_le mm_ nn_)
def spigotref03_Full.G (mm_ : Nat) (l : t0.den) (at_ : Int) : Option (t1.den × Int × Unit) :=
 ((spigotref03_CheckLimit.G mm_) l).bind fun r0 =>
 bif (r0.1 != 0) then
 ((spigotref03_CheckLimit.G mm_) l).bind fun r1 =>
 some (((0, 0, 0, ()), 0, 0, 0, ()), r1.1, ())
 else
 (spigotref03_Full.K mm_ mm_) at_ l.1 l.2.1 l.2.2.1
theorem spigotref03_Full.G_le (mm_ : Nat) (l : t0.den) (at_ : Int) : Le (spigotref03_Full.G mm_ l at_) (spigotref03_Full.F l at_) := by
 rw [spigotref03_Full.F_eq]; unfold spigotref03_Full.G; (repeat' (with_reducible first | exact (spigotref03_Full.K_le mm_ mm_) _ _ _ _ | exact spigotref03_CheckLimit.G_le mm_ _ | exact Le.refl _ | refine Le.cond ?_ ?_ | refine Le.bind ?_ fun _ => ?_))
/-! ### spigotref13_New -/
@[reducible] def spigotref13_New.KT : Type := (Int → (List Int) → (List Bool) → (Option (t2.den × Int × Unit))) × (Int → Int → (List Int) → (List Bool) → (List Int) → (List Bool) → (Option (t2.den × Int × Unit))) × (Int → Int → (List Int) → (List Bool) → (List Int) → (List Bool) → (Option (t2.den × Int × Unit))) × (Int → Int → (List Int) → (List Bool) → (List Int) → (List Bool) → (Option (t2.den × Int × Unit)))
@[reducible] def spigotref13_New.Ok (KK_ : spigotref13_New.KT) : Prop := (∀ n l1 l2, Le (KK_.1 n l1 l2) (spigotref13_New.L1 n l1 l2)) ∧ (∀ n i l2 l3 l4 l5, Le (KK_.2.1 n i l2 l3 l4 l5) (spigotref13_New.L2 n i l2 l3 l4 l5)) ∧ (∀ n i l2 l3 l4 l5, Le (KK_.2.2.1 n i l2 l3 l4 l5) (spigotref13_New.L3 n i l2 l3 l4 l5)) ∧ (∀ n i l2 l3 l4 l5, Le (KK_.2.2.2 n i l2 l3 l4 l5) (spigotref13_New.L4 n i l2 l3 l4 l5))
def spigotref13_New.step (mm_ : Nat) (KK_ : spigotref13_New.KT) : spigotref13_New.KT := ((fun n l1 l2 =>
 KK_.2.1 n 0 l1 l2 ([] : List Int) ([] : List Bool)),
(fun n i l2 l3 l4 l5 =>
 bif (decide ((i : Int) < n)) then
 KK_.2.2.1 n i l2 l3 l4 l5
 else
 some ((l4, l5, 0, ()), 0, ())),
(fun n i l2 l3 l4 l5 =>
 bif (decide (((IntKind.wrap .i64 (i + 1)) : Int) < n)) then
 bif (lim ((List.length l4) + (List.length ([(IntKind.wrap .i64 (i + 1))] : List Int))) (.int .i64)) then
 KK_.2.2.2 n i l2 l3 (l4 ++ ([(IntKind.wrap .i64 (i + 1))] : List Int)) l5
 else none
 else
 bif (lim ((List.length l4) + (List.length ([(-1)] : List Int))) (.int .i64)) then
 KK_.2.2.2 n i l2 l3 (l4 ++ ([(-1)] : List Int)) l5
 else none),
(fun n i l2 l3 l4 l5 =>
 bif (lim ((List.length l5) + (List.length ([false] : List Bool))) .bool) then
 KK_.2.1 n (IntKind.wrap .i64 (i + 1)) l2 l3 l4 (l5 ++ ([false] : List Bool))
 else none))
def spigotref13_New.K (mm_ : Nat) : Nat → spigotref13_New.KT
| 0 => ((fun _ _ _ => none), (fun _ _ _ _ _ _ => none), (fun _ _ _ _ _ _ => none), (fun _ _ _ _ _ _ => none))
| nn_ + 1 => spigotref13_New.step mm_ (spigotref13_New.K mm_ nn_)
theorem spigotref13_New.step_le (mm_ : Nat) (KK_ : spigotref13_New.KT) (hh_ : spigotref13_New.Ok KK_) : spigotref13_New.Ok (spigotref13_New.step mm_ KK_) := by
 refine ⟨fun _ _ _ => ?_, fun _ _ _ _ _ _ => ?_, fun _ _ _ _ _ _ => ?_, fun _ _ _ _ _ _ => ?_⟩
 rw [spigotref13_New.L1_eq]; rotate_left
 rw [spigotref13_New.L2_eq]; rotate_left
 rw [spigotref13_New.L3_eq]; rotate_left
 rw [spigotref13_New.L4_eq]; rotate_left
 all_goals dsimp only [spigotref13_New.step]
 all_goals (repeat' (with_reducible first | exact hh_.1 _ _ _ | exact hh_.2.1 _ _ _ _ _ _ | exact hh_.2.2.1 _ _ _ _ _ _ | exact hh_.2.2.2 _ _ _ _ _ _  | exact Le.refl _ | refine Le.cond ?_ ?_ | refine Le.bind ?_ fun _ => ?_))
theorem spigotref13_New.K_le (mm_ : Nat) : ∀ nn_, spigotref13_New.Ok (spigotref13_New.K mm_ nn_)
| 0 => ⟨fun _ _ _ => Le.none _, fun _ _ _ _ _ _ => Le.none _, fun _ _ _ _ _ _ => Le.none _, fun _ _ _ _ _ _ => Le.none _⟩
| nn_ + 1 => spigotref13_New.step_le mm_ (spigotref13_New.K mm_ nn_) (spigotref13_New.K_le mm_ nn_)
def spigotref13_New.G (mm_ : Nat) (n : Int) : Option (t2.den × Int × Unit) :=
 bif (decide ((n : Int) < 1)) then
 some ((([] : List Int), ([] : List Bool), 0, ()), 2, ())
 else
 bif (decide ((n : Int) > 16)) then
 some ((([] : List Int), ([] : List Bool), 0, ()), 2, ())
 else
 (spigotref13_New.K mm_ mm_).1 n ([] : List Int) ([] : List Bool)
theorem spigotref13_New.G_le (mm_ : Nat) (n : Int) : Le (spigotref13_New.G mm_ n) (spigotref13_New.F n) := by
 rw [spigotref13_New.F_eq]; unfold spigotref13_New.G; (repeat' (with_reducible first | exact (spigotref13_New.K_le mm_ mm_).1 _ _ _ | exact (spigotref13_New.K_le mm_ mm_).2.1 _ _ _ _ _ _ | exact (spigotref13_New.K_le mm_ mm_).2.2.1 _ _ _ _ _ _ | exact (spigotref13_New.K_le mm_ mm_).2.2.2 _ _ _ _ _ _  | exact Le.refl _ | refine Le.cond ?_ ?_ | refine Le.bind ?_ fun _ => ?_))
/-! ### spigotref15_Made -/
@[reducible] def spigotref15_Made.KT : Type := (Int → (List Int) → Int → (List Int) → (List Int) → (Option (t4.den × Unit))) × (Int → (List Int) → Int → (List Int) → (List Int) → (Option (t4.den × Unit))) × ((List Int) → Int → Int → Int → (List Int) → (List Int) → (List Int) → (Option (t4.den × Unit))) × ((List Int) → Int → Int → Int → (List Int) → (List Int) → (List Int) → (Option (t4.den × Unit))) × ((List Int) → Int → Int → Int → (List Int) → (List Int) → (List Int) → (Option (t4.den × Unit)))
@[reducible] def spigotref15_Made.Ok (KK_ : spigotref15_Made.KT) : Prop := (∀ n l i l2 l4, Le (KK_.1 n l i l2 l4) (spigotref15_Made.L1 n l i l2 l4)) ∧ (∀ n l i l2 l4, Le (KK_.2.1 n l i l2 l4) (spigotref15_Made.L2 n l i l2 l4)) ∧ (∀ l i b1 b12 l2 l4 l5, Le (KK_.2.2.1 l i b1 b12 l2 l4 l5) (spigotref15_Made.L3 l i b1 b12 l2 l4 l5)) ∧ (∀ l i b1 b12 l2 l4 l5, Le (KK_.2.2.2.1 l i b1 b12 l2 l4 l5) (spigotref15_Made.L4 l i b1 b12 l2 l4 l5)) ∧ (∀ l i b1 b12 l2 l4 l5, Le (KK_.2.2.2.2 l i b1 b12 l2 l4 l5) (spigotref15_Made.L5 l i b1 b12 l2 l4 l5))
def spigotref15_Made.step (mm_ : Nat) (KK_ : spigotref15_Made.KT) : spigotref15_Made.KT := ((fun n l i l2 l4 =>
 bif (decide ((i : Int) < n)) then
 KK_.2.1 n l i l2 l4
 else
 KK_.2.2.1 l 0 (-1) (-1) l2 l4 l4),
(fun n l i l2 l4 =>
 bif (lim ((List.length l4) + (List.length ([(-1)] : List Int))) (.int .i64)) then
 bif (lim ((List.length l4) + (List.length ([(-1)] : List Int))) (.int .i64)) then
 KK_.1 n l (IntKind.wrap .i64 (i + 1)) l2 (l4 ++ ([(-1)] : List Int))
 else none
 else none),
(fun l i b1 b12 l2 l4 l5 =>
 bif (decide ((i : Int) < ((List.length l : Int)))) then
 KK_.2.2.2.1 l i b1 b12 l2 l4 l5
 else
 some ((l4, l5, b1, b12, ()), ())),
(fun l i b1 b12 l2 l4 l5 =>
 bif (i == 0) then
 bif (decide ((0 : Int) ≤ i ∧ (i : Int) < ((List.length l : Int)))) then
 KK_.2.2.2.2 l i (List.getD l (Int.toNat i) 0) b12 l2 l4 l5
 else none
 else
 bif (decide ((0 : Int) ≤ i ∧ (i : Int) < ((List.length l : Int)))) then
 bif (decide ((0 : Int) ≤ (IntKind.wrap .i64 (i - 1)) ∧ ((IntKind.wrap .i64 (i - 1)) : Int) < ((List.length l : Int)))) then
  bif (decide ((0 : Int) ≤ (List.getD l (Int.toNat i) 0) ∧ ((List.getD l (Int.toNat i) 0) : Int) < ((List.length l4 : Int)))) then
  bif (decide ((0 : Int) ≤ (IntKind.wrap .i64 (i - 1)) ∧ ((IntKind.wrap .i64 (i - 1)) : Int) < ((List.length l : Int)))) then
   bif (decide ((0 : Int) ≤ i ∧ (i : Int) < ((List.length l : Int)))) then
   bif (decide ((0 : Int) ≤ (List.getD l (Int.toNat (IntKind.wrap .i64 (i - 1))) 0) ∧ ((List.getD l (Int.toNat (IntKind.wrap .i64 (i - 1))) 0) : Int) < ((List.length l5 : Int)))) then
    KK_.2.2.2.2 l i b1 b12 l2 (List.set l4 (Int.toNat (List.getD l (Int.toNat i) 0)) (List.getD l (Int.toNat (IntKind.wrap .i64 (i - 1))) 0)) (List.set l5 (Int.toNat (List.getD l (Int.toNat (IntKind.wrap .i64 (i - 1))) 0)) (List.getD l (Int.toNat i) 0))
   else none
   else none
  else none
  else none
 else none
 else none),
(fun l i b1 b12 l2 l4 l5 =>
 bif (decide ((0 : Int) ≤ i ∧ (i : Int) < ((List.length l : Int)))) then
 KK_.2.2.1 l (IntKind.wrap .i64 (i + 1)) b1 (List.getD l (Int.toNat i) 0) l2 l4 l5
 else none))
def spigotref15_Made.K (mm_ : Nat) : Nat → spigotref15_Made.KT
| 0 => ((fun _ _ _ _ _ => none), (fun _ _ _ _ _ => none), (fun _ _ _ _ _ _ _ => none), (fun _ _ _ _ _ _ _ => none), (fun _ _ _ _ _ _ _ => none))
| nn_ + 1 => spigotref15_Made.step mm_ (spigotref15_Made.K mm_ nn_)
theorem spigotref15_Made.step_le (mm_ : Nat) (KK_ : spigotref15_Made.KT) (hh_ : spigotref15_Made.Ok KK_) : spigotref15_Made.Ok (spigotref15_Made.step mm_ KK_) := by
 refine ⟨fun _ _ _ _ _ => ?_, fun _ _ _ _ _ => ?_, fun _ _ _ _ _ _ _ => ?_, fun _ _ _ _ _ _ _ => ?_, fun _ _ _ _ _ _ _ => ?_⟩
 rw [spigotref15_Made.L1_eq]; rotate_left
 rw [spigotref15_Made.L2_eq]; rotate_left
 rw [spigotref15_Made.L3_eq]; rotate_left
 rw [spigotref15_Made.L4_eq]; rotate_left
 rw [spigotref15_Made.L5_eq]; rotate_left
 all_goals dsimp only [spigotref15_Made.step]
 all_goals (repeat' (with_reducible first | exact hh_.1 _ _ _ _ _ | exact hh_.2.1 _ _ _ _ _ | exact hh_.2.2.1 _ _ _ _ _ _ _ | exact hh_.2.2.2.1 _ _ _ _ _ _ _ | exact hh_.2.2.2.2 _ _ _ _ _ _ _  | exact Le.refl _ | refine Le.cond ?_ ?_ | refine Le.bind ?_ fun _ => ?_))
theorem spigotref15_Made.K_le (mm_ : Nat) : ∀ nn_, spigotref15_Made.Ok (spigotref15_Made.K mm_ nn_)
| 0 => ⟨fun _ _ _ _ _ => Le.none _, fun _ _ _ _ _ => Le.none _, fun _ _ _ _ _ _ _ => Le.none _, fun _ _ _ _ _ _ _ => Le.none _, fun _ _ _ _ _ _ _ => Le.none _⟩
| nn_ + 1 => spigotref15_Made.step_le mm_ (spigotref15_Made.K mm_ nn_) (spigotref15_Made.K_le mm_ nn_)
def spigotref15_Made.G (mm_ : Nat) (n : Int) (l : List Int) : Option (t4.den × Unit) :=
 (spigotref15_Made.K mm_ mm_).1 n l 0 ([] : List Int) ([] : List Int)
theorem spigotref15_Made.G_le (mm_ : Nat) (n : Int) (l : List Int) : Le (spigotref15_Made.G mm_ n l) (spigotref15_Made.F n l) := by
 rw [spigotref15_Made.F_eq]; unfold spigotref15_Made.G; (repeat' (with_reducible first | exact (spigotref15_Made.K_le mm_ mm_).1 _ _ _ _ _ | exact (spigotref15_Made.K_le mm_ mm_).2.1 _ _ _ _ _ | exact (spigotref15_Made.K_le mm_ mm_).2.2.1 _ _ _ _ _ _ _ | exact (spigotref15_Made.K_le mm_ mm_).2.2.2.1 _ _ _ _ _ _ _ | exact (spigotref15_Made.K_le mm_ mm_).2.2.2.2 _ _ _ _ _ _ _  | exact Le.refl _ | refine Le.cond ?_ ?_ | refine Le.bind ?_ fun _ => ?_))
/-! ### spigotref15_New -/
@[reducible] def spigotref15_New.KT : Type := (Int → (List Int) → (Option (t4.den × Int × Unit)))
@[reducible] def spigotref15_New.Ok (KK_ : spigotref15_New.KT) : Prop := (∀ n l1, Le (KK_ n l1) (spigotref15_New.L1 n l1))
def spigotref15_New.step (mm_ : Nat) (KK_ : spigotref15_New.KT) : spigotref15_New.KT := ((fun n l1 =>
 ((spigotref15_Made.G mm_) n ([] : List Int)).bind fun r0 =>
 some (r0.1, 0, ())))
def spigotref15_New.K (mm_ : Nat) : Nat → spigotref15_New.KT
| 0 => ((fun _ _ => none))
| nn_ + 1 => spigotref15_New.step mm_ (spigotref15_New.K mm_ nn_)
theorem spigotref15_New.step_le (mm_ : Nat) (KK_ : spigotref15_New.KT) (hh_ : spigotref15_New.Ok KK_) : spigotref15_New.Ok (spigotref15_New.step mm_ KK_) := by
 refine fun _ _ => ?_
 rw [spigotref15_New.L1_eq]
 all_goals dsimp only [spigotref15_New.step]
 all_goals (repeat' (with_reducible first | exact hh_ _ _ | exact spigotref15_Made.G_le mm_ _ _ | exact Le.refl _ | refine Le.cond ?_ ?_ | refine Le.bind ?_ fun _ => ?_))
theorem spigotref15_New.K_le (mm_ : Nat) : ∀ nn_, spigotref15_New.Ok (spigotref15_New.K mm_ nn_)
| 0 => fun _ _ => Le.none _
| nn_ + 1 => spigotref15_New.step_le mm_ (spigotref15_New.K mm_ nn_) (spigotref15_New.K_le mm_ nn_)
def spigotref15_New.G (mm_ : Nat) (n : Int) : Option (t4.den × Int × Unit) :=
 bif (decide ((n : Int) < 1)) then
 some ((([] : List Int), ([] : List Int), 0, 0, ()), 2, ())
 else
 bif (decide ((n : Int) > 16)) then
 some ((([] : List Int), ([] : List Int), 0, 0, ()), 2, ())
 else
 (spigotref15_New.K mm_ mm_) n ([] : List Int)
theorem spigotref15_New.G_le (mm_ : Nat) (n : Int) : Le (spigotref15_New.G mm_ n) (spigotref15_New.F n) := by
 rw [spigotref15_New.F_eq]; unfold spigotref15_New.G; (repeat' (with_reducible first | exact (spigotref15_New.K_le mm_ mm_) _ _ | exact spigotref15_Made.G_le mm_ _ _ | exact Le.refl _ | refine Le.cond ?_ ?_ | refine Le.bind ?_ fun _ => ?_))
/-! ### spigotref16_New -/
@[reducible] def spigotref16_New.KT : Type := (Int → (List Int) → (List t1.den) → (List Int) → (List Bool) → (List t3.den) → (Option (t5.den × Int × Unit)))
@[reducible] def spigotref16_New.Ok (KK_ : spigotref16_New.KT) : Prop := (∀ n l1 l2 l3 l4 l5, Le (KK_ n l1 l2 l3 l4 l5) (spigotref16_New.L1 n l1 l2 l3 l4 l5))
def spigotref16_New.step (mm_ : Nat) (KK_ : spigotref16_New.KT) : spigotref16_New.KT := ((fun n l1 l2 l3 l4 l5 =>
 bif (decide ((0 : Int) ≤ n ∧ (n : Int) ≤ n) && (lim (Int.toNat n) (.int .u32))) then
 bif (decide ((0 : Int) ≤ n ∧ (n : Int) ≤ n) && (lim (Int.toNat n) t1)) then
 bif (decide ((0 : Int) ≤ 16 ∧ (16 : Int) ≤ 16) && (lim (Int.toNat 16) t3)) then
  ((spigotref13_New.G mm_) n).bind fun r0 =>
  ((spigotref15_New.G mm_) n).bind fun r1 =>
  some ((n, (List.replicate (Int.toNat n) (0 : Int)), (List.replicate (Int.toNat n) ((0, 0, 0, ()), 0, 0, 0, ())), r0.1, (List.replicate (Int.toNat 16) (0, 0, false, ())), r1.1, ()), 0, ())
 else none
 else none
 else none))
def spigotref16_New.K (mm_ : Nat) : Nat → spigotref16_New.KT
| 0 => ((fun _ _ _ _ _ _ => none))
| nn_ + 1 => spigotref16_New.step mm_ (spigotref16_New.K mm_ nn_)
theorem spigotref16_New.step_le (mm_ : Nat) (KK_ : spigotref16_New.KT) (hh_ : spigotref16_New.Ok KK_) : spigotref16_New.Ok (spigotref16_New.step mm_ KK_) := by
 refine fun _ _ _ _ _ _ => ?_
 rw [spigotref16_New.L1_eq]
 all_goals dsimp only [spigotref16_New.step]
 all_goals (repeat' (with_reducible first | exact hh_ _ _ _ _ _ _ | exact spigotref13_New.G_le mm_ _ | exact spigotref15_New.G_le mm_ _ | exact Le.refl _ | refine Le.cond ?_ ?_ | refine Le.bind ?_ fun _ => ?_))
theorem spigotref16_New.K_le (mm_ : Nat) : ∀ nn_, spigotref16_New.Ok (spigotref16_New.K mm_ nn_)
| 0 => fun _ _ _ _ _ _ => Le.none _
| nn_ + 1 => spigotref16_New.step_le mm_ (spigotref16_New.K mm_ nn_) (spigotref16_New.K_le mm_ nn_)
def spigotref16_New.G (mm_ : Nat) (n : Int) : Option (t5.den × Int × Unit) :=
 bif (decide ((n : Int) < 1)) then
 some ((0, ([] : List Int), ([] : List t1.den), (([] : List Int), ([] : List Bool), 0, ()), ([] : List t3.den), (([] : List Int), ([] : List Int), 0, 0, ()), ()), 2, ())
 else
 bif (decide ((n : Int) > 8)) then
 some ((0, ([] : List Int), ([] : List t1.den), (([] : List Int), ([] : List Bool), 0, ()), ([] : List t3.den), (([] : List Int), ([] : List Int), 0, 0, ()), ()), 2, ())
 else
 (spigotref16_New.K mm_ mm_) n ([] : List Int) ([] : List t1.den) ([] : List Int) ([] : List Bool) ([] : List t3.den)
theorem spigotref16_New.G_le (mm_ : Nat) (n : Int) : Le (spigotref16_New.G mm_ n) (spigotref16_New.F n) := by
 rw [spigotref16_New.F_eq]; unfold spigotref16_New.G; (repeat' (with_reducible first | exact (spigotref16_New.K_le mm_ mm_) _ _ _ _ _ _ | exact spigotref13_New.G_le mm_ _ | exact spigotref15_New.G_le mm_ _ | exact Le.refl _ | refine Le.cond ?_ ?_ | refine Le.bind ?_ fun _ => ?_))
/-! ### spigotref18_New -/
@[reducible] def spigotref18_New.KT : Type := (Int → Int → (List t0.den) → (List t0.den) → Int → Int → Int → Int → Int → Int → Int → Int → (List Int) → (List t1.den) → (List Int) → (List Bool) → (List t3.den) → (List Int) → (List t1.den) → (List Int) → (List Bool) → (List t3.den) → (List Int) → (List Int) → (List Int) → (List t1.den) → (List Int) → (List Bool) → (List t3.den) → (List Int) → (List Int) → (Option (t7.den × Int × Unit))) × (Int → Int → (List t0.den) → (List t0.den) → Int → Int → Int → Int → Int → Int → Int → Int → (List Int) → (List t1.den) → (List Int) → (List Bool) → (List t3.den) → (List Int) → (List t1.den) → (List Int) → (List Bool) → (List t3.den) → (List Int) → (List Int) → (List Int) → (List t1.den) → (List Int) → (List Bool) → (List t3.den) → (List Int) → (List Int) → (Option (t7.den × Int × Unit)))
@[reducible] def spigotref18_New.Ok (KK_ : spigotref18_New.KT) : Prop := (∀ tenant tick b0 b1 b2 b22 b23 b24 b3 b32 b33 b34 l4 l5 l6 l7 l8 l19 l20 l21 l22 l23 l24 l25 l26 l27 l28 l29 l30 l31 l32, Le (KK_.1 tenant tick b0 b1 b2 b22 b23 b24 b3 b32 b33 b34 l4 l5 l6 l7 l8 l19 l20 l21 l22 l23 l24 l25 l26 l27 l28 l29 l30 l31 l32) (spigotref18_New.L1 tenant tick b0 b1 b2 b22 b23 b24 b3 b32 b33 b34 l4 l5 l6 l7 l8 l19 l20 l21 l22 l23 l24 l25 l26 l27 l28 l29 l30 l31 l32)) ∧ (∀ tenant tick b0 b1 b2 b22 b23 b24 b3 b32 b33 b34 l4 l5 l6 l7 l8 l19 l20 l21 l22 l23 l24 l25 l26 l27 l28 l29 l30 l31 l32, Le (KK_.2 tenant tick b0 b1 b2 b22 b23 b24 b3 b32 b33 b34 l4 l5 l6 l7 l8 l19 l20 l21 l22 l23 l24 l25 l26 l27 l28 l29 l30 l31 l32) (spigotref18_New.L2 tenant tick b0 b1 b2 b22 b23 b24 b3 b32 b33 b34 l4 l5 l6 l7 l8 l19 l20 l21 l22 l23 l24 l25 l26 l27 l28 l29 l30 l31 l32))
def spigotref18_New.step (mm_ : Nat) (KK_ : spigotref18_New.KT) : spigotref18_New.KT := ((fun tenant tick b0 b1 b2 b22 b23 b24 b3 b32 b33 b34 l4 l5 l6 l7 l8 l19 l20 l21 l22 l23 l24 l25 l26 l27 l28 l29 l30 l31 l32 =>
 ((spigotref18_Limited.G mm_) b0).bind fun r0 =>
 bif (!r0.1) then
 some (d7_, 8, ())
 else
 KK_.2 tenant tick b0 b1 b2 b22 b23 b24 b3 b32 b33 b34 l4 l5 l6 l7 l8 l19 l20 l21 l22 l23 l24 l25 l26 l27 l28 l29 l30 l31 l32),
(fun tenant tick b0 b1 b2 b22 b23 b24 b3 b32 b33 b34 l4 l5 l6 l7 l8 l19 l20 l21 l22 l23 l24 l25 l26 l27 l28 l29 l30 l31 l32 =>
 bif (decide ((0 : Int) ≤ 0 ∧ (0 : Int) < 3)) then
 ((spigotref03_Full.G mm_) (List.getD b0 (Int.toNat 0) (0, 0, 0, ())) tick).bind fun r0 =>
 some ((tenant, b0, r0.1, (b2, l19, l20, (l21, l22, b22, ()), l23, (l24, l25, b23, b24, ()), ()), (b3, l26, l27, (l28, l29, b32, ()), l30, (l31, l32, b33, b34, ()), ()), ([] : List Int), (0, 0, 0, ()), ()), 0, ())
 else none))
def spigotref18_New.K (mm_ : Nat) : Nat → spigotref18_New.KT
| 0 => ((fun _ _ _ _ _ _ _ _ _ _ _ _ _ _ _ _ _ _ _ _ _ _ _ _ _ _ _ _ _ _ _ => none), (fun _ _ _ _ _ _ _ _ _ _ _ _ _ _ _ _ _ _ _ _ _ _ _ _ _ _ _ _ _ _ _ => none))
| nn_ + 1 => spigotref18_New.step mm_ (spigotref18_New.K mm_ nn_)
theorem spigotref18_New.step_le (mm_ : Nat) (KK_ : spigotref18_New.KT) (hh_ : spigotref18_New.Ok KK_) : spigotref18_New.Ok (spigotref18_New.step mm_ KK_) := by
 refine ⟨fun _ _ _ _ _ _ _ _ _ _ _ _ _ _ _ _ _ _ _ _ _ _ _ _ _ _ _ _ _ _ _ => ?_, fun _ _ _ _ _ _ _ _ _ _ _ _ _ _ _ _ _ _ _ _ _ _ _ _ _ _ _ _ _ _ _ => ?_⟩
 rw [spigotref18_New.L1_eq]; rotate_left
 rw [spigotref18_New.L2_eq]; rotate_left
 all_goals dsimp only [spigotref18_New.step]
 all_goals (repeat' (with_reducible first | exact hh_.1 _ _ _ _ _ _ _ _ _ _ _ _ _ _ _ _ _ _ _ _ _ _ _ _ _ _ _ _ _ _ _ | exact hh_.2 _ _ _ _ _ _ _ _ _ _ _ _ _ _ _ _ _ _ _ _ _ _ _ _ _ _ _ _ _ _ _ | exact spigotref18_Limited.G_le mm_ _ | exact spigotref03_Full.G_le mm_ _ _ | exact spigotref16_New.G_le mm_ _ | exact Le.refl _ | refine Le.cond ?_ ?_ | refine Le.bind ?_ fun _ => ?_))
theorem spigotref18_New.K_le (mm_ : Nat) : ∀ nn_, spigotref18_New.Ok (spigotref18_New.K mm_ nn_)
| 0 => ⟨fun _ _ _ _ _ _ _ _ _ _ _ _ _ _ _ _ _ _ _ _ _ _ _ _ _ _ _ _ _ _ _ => Le.none _, fun _ _ _ _ _ _ _ _ _ _ _ _ _ _ _ _ _ _ _ _ _ _ _ _ _ _ _ _ _ _ _ => Le.none _⟩
| nn_ + 1 => spigotref18_New.step_le mm_ (spigotref18_New.K mm_ nn_) (spigotref18_New.K_le mm_ nn_)
def spigotref18_New.G (mm_ : Nat) (tenant : Int) (l : List t0.den) (users ends tick : Int) : Option (t7.den × Int × Unit) :=
 ((spigotref16_New.G mm_) users).bind fun r0 =>
 ((spigotref16_New.G mm_) ends).bind fun r1 =>
 bif (decide ((tenant : Int) ≥ 16)) then
 some (d7_, 2, ())
 else
 bif (r0.2.1 != 0) then
 some (d7_, 2, ())
 else
 bif (r1.2.1 != 0) then
  some (d7_, 2, ())
 else
  (spigotref18_New.K mm_ mm_).1 tenant tick l (List.replicate 3 (0, 0, 0, ())) r0.1.1 r0.1.2.2.2.1.2.2.1 r0.1.2.2.2.2.2.1.2.2.1 r0.1.2.2.2.2.2.1.2.2.2.1 r1.1.1 r1.1.2.2.2.1.2.2.1 r1.1.2.2.2.2.2.1.2.2.1 r1.1.2.2.2.2.2.1.2.2.2.1 ([] : List Int) ([] : List t1.den) ([] : List Int) ([] : List Bool) ([] : List t3.den) r0.1.2.1 r0.1.2.2.1 r0.1.2.2.2.1.1 r0.1.2.2.2.1.2.1 r0.1.2.2.2.2.1 r0.1.2.2.2.2.2.1.1 r0.1.2.2.2.2.2.1.2.1 r1.1.2.1 r1.1.2.2.1 r1.1.2.2.2.1.1 r1.1.2.2.2.1.2.1 r1.1.2.2.2.2.1 r1.1.2.2.2.2.2.1.1 r1.1.2.2.2.2.2.1.2.1
theorem spigotref18_New.G_le (mm_ : Nat) (tenant : Int) (l : List t0.den) (users ends tick : Int) : Le (spigotref18_New.G mm_ tenant l users ends tick) (spigotref18_New.F tenant l users ends tick) := by
 rw [spigotref18_New.F_eq]; unfold spigotref18_New.G; (repeat' (with_reducible first | exact (spigotref18_New.K_le mm_ mm_).1 _ _ _ _ _ _ _ _ _ _ _ _ _ _ _ _ _ _ _ _ _ _ _ _ _ _ _ _ _ _ _ | exact (spigotref18_New.K_le mm_ mm_).2 _ _ _ _ _ _ _ _ _ _ _ _ _ _ _ _ _ _ _ _ _ _ _ _ _ _ _ _ _ _ _ | exact spigotref18_Limited.G_le mm_ _ | exact spigotref03_Full.G_le mm_ _ _ | exact spigotref16_New.G_le mm_ _ | exact Le.refl _ | refine Le.cond ?_ ?_ | refine Le.bind ?_ fun _ => ?_))
/-! ### spigotlaw33_example -/
def spigotlaw33_example.G (mm_ : Nat)  : Option (t8.den × Unit) :=
 ((spigotref18_New.G mm_) 3 ([(4, 1, 2, ()), (4, 1, 2, ()), (4, 1, 2, ())] : List t0.den) 2 2 0).bind fun r0 =>
 some ((0, ([7, 0, 0, 0, 0, 0, 0, 0, 0, 0, 0, 0, 0, 0, 0, 0, 0, 0, 0, 0, 0, 0, 0, 0, 0, 0, 0, 0, 0, 0, 0, 0] : List Int), (List.replicate 16 (0 : Int)), ([r0.1] : List t7.den), ()), ())
theorem spigotlaw33_example.G_le (mm_ : Nat)  : Le (spigotlaw33_example.G mm_ ) (spigotlaw33_example.F) := by
 rw [spigotlaw33_example.F_eq]; unfold spigotlaw33_example.G; (repeat' (with_reducible first  | exact spigotref18_New.G_le mm_ _ _ _ _ _ | exact Le.refl _ | refine Le.cond ?_ ?_ | refine Le.bind ?_ fun _ => ?_))
/-! ### image_Size -/
def image_Size.G (mm_ : Nat) (s : t8.den) : Option (Int × Int × Unit) :=
 ((image_Write.G mm_) s).bind fun r0 =>
 some (((List.length r0.1 : Int)), r0.2.1, ())
theorem image_Size.G_le (mm_ : Nat) (s : t8.den) : Le (image_Size.G mm_ s) (image_Size.F s) := by
 rw [image_Size.F_eq]; unfold image_Size.G; (repeat' (with_reducible first  | exact image_Write.G_le mm_ _ | exact Le.refl _ | refine Le.cond ?_ ?_ | refine Le.bind ?_ fun _ => ?_))
/-! ### spigotlaw33_alive -/
def spigotlaw33_alive.G (mm_ : Nat)  : Option (Bool × Unit) :=
 ((server_New.G mm_) ([9, 0, 0, 0, 0, 0, 0, 0, 0, 0, 0, 0, 0, 0, 0, 0, 0, 0, 0, 0, 0, 0, 0, 0, 0, 0, 0, 0, 0, 0, 0, 0] : List Int)).bind fun r0 =>
 ((image_Write.G mm_) r0.1).bind fun r1 =>
 (spigotlaw33_example.G mm_).bind fun r2 =>
 ((image_Size.G mm_) r2.1).bind fun r3 =>
 bif (r1.2.1 == 0) then
 bif (((List.length r1.1 : Int)) == 105) then
 bif (decide ((0 : Int) ≤ 8 ∧ (8 : Int) < ((List.length r1.1 : Int)))) then
  bif ((List.getD r1.1 (Int.toNat 8) 0) == 9) then
  bif (decide ((0 : Int) ≤ 104 ∧ (104 : Int) < ((List.length r1.1 : Int)))) then
   bif ((List.getD r1.1 (Int.toNat 104) 0) == 0) then
   bif (r3.2.1 == 0) then
    some ((r3.1 == 195), ())
   else
    some (false, ())
   else
   some (false, ())
  else none
  else
  some (false, ())
 else none
 else
 some (false, ())
 else
 some (false, ())
theorem spigotlaw33_alive.G_le (mm_ : Nat)  : Le (spigotlaw33_alive.G mm_ ) (spigotlaw33_alive.F) := by
 rw [spigotlaw33_alive.F_eq]; unfold spigotlaw33_alive.G; (repeat' (with_reducible first  | exact server_New.G_le mm_ _ | exact image_Write.G_le mm_ _ | exact spigotlaw33_example.G_le mm_ | exact image_Size.G_le mm_ _ | exact Le.refl _ | refine Le.cond ?_ ?_ | refine Le.bind ?_ fun _ => ?_))
/-! ### spigotref16_SameKeys -/
@[reducible] def spigotref16_SameKeys.KT : Type := ((List Int) → (List Int) → (Option (Bool × Unit))) × ((List Int) → (List Int) → Int → (Option (Bool × Unit))) × ((List Int) → (List Int) → Int → (Option (Bool × Unit))) × ((List Int) → (List Int) → Int → (Option (Bool × Unit)))
@[reducible] def spigotref16_SameKeys.Ok (KK_ : spigotref16_SameKeys.KT) : Prop := (∀ a b, Le (KK_.1 a b) (spigotref16_SameKeys.L1 a b)) ∧ (∀ a b i, Le (KK_.2.1 a b i) (spigotref16_SameKeys.L2 a b i)) ∧ (∀ a b i, Le (KK_.2.2.1 a b i) (spigotref16_SameKeys.L3 a b i)) ∧ (∀ a b i, Le (KK_.2.2.2 a b i) (spigotref16_SameKeys.L4 a b i))
def spigotref16_SameKeys.step (mm_ : Nat) (KK_ : spigotref16_SameKeys.KT) : spigotref16_SameKeys.KT := ((fun a b =>
 KK_.2.1 a b 0),
(fun a b i =>
 bif (decide ((i : Int) < ((List.length a : Int)))) then
 KK_.2.2.1 a b i
 else
 some (true, ())),
(fun a b i =>
 bif (decide ((0 : Int) ≤ i ∧ (i : Int) < ((List.length a : Int)))) then
 bif (decide ((0 : Int) ≤ i ∧ (i : Int) < ((List.length b : Int)))) then
 bif ((List.getD a (Int.toNat i) 0) != (List.getD b (Int.toNat i) 0)) then
  some (false, ())
 else
  KK_.2.2.2 a b i
 else none
 else none),
(fun a b i =>
 KK_.2.1 a b (IntKind.wrap .i64 (i + 1))))
def spigotref16_SameKeys.K (mm_ : Nat) : Nat → spigotref16_SameKeys.KT
| 0 => ((fun _ _ => none), (fun _ _ _ => none), (fun _ _ _ => none), (fun _ _ _ => none))
| nn_ + 1 => spigotref16_SameKeys.step mm_ (spigotref16_SameKeys.K mm_ nn_)
theorem spigotref16_SameKeys.step_le (mm_ : Nat) (KK_ : spigotref16_SameKeys.KT) (hh_ : spigotref16_SameKeys.Ok KK_) : spigotref16_SameKeys.Ok (spigotref16_SameKeys.step mm_ KK_) := by
 refine ⟨fun _ _ => ?_, fun _ _ _ => ?_, fun _ _ _ => ?_, fun _ _ _ => ?_⟩
 rw [spigotref16_SameKeys.L1_eq]; rotate_left
 rw [spigotref16_SameKeys.L2_eq]; rotate_left
 rw [spigotref16_SameKeys.L3_eq]; rotate_left
 rw [spigotref16_SameKeys.L4_eq]; rotate_left
 all_goals dsimp only [spigotref16_SameKeys.step]
 all_goals (repeat' (with_reducible first | exact hh_.1 _ _ | exact hh_.2.1 _ _ _ | exact hh_.2.2.1 _ _ _ | exact hh_.2.2.2 _ _ _  | exact Le.refl _ | refine Le.cond ?_ ?_ | refine Le.bind ?_ fun _ => ?_))
theorem spigotref16_SameKeys.K_le (mm_ : Nat) : ∀ nn_, spigotref16_SameKeys.Ok (spigotref16_SameKeys.K mm_ nn_)
| 0 => ⟨fun _ _ => Le.none _, fun _ _ _ => Le.none _, fun _ _ _ => Le.none _, fun _ _ _ => Le.none _⟩
| nn_ + 1 => spigotref16_SameKeys.step_le mm_ (spigotref16_SameKeys.K mm_ nn_) (spigotref16_SameKeys.K_le mm_ nn_)
def spigotref16_SameKeys.G (mm_ : Nat) (a b : List Int) : Option (Bool × Unit) :=
 bif (((List.length a : Int)) != ((List.length b : Int))) then
 some (false, ())
 else
 (spigotref16_SameKeys.K mm_ mm_).1 a b
theorem spigotref16_SameKeys.G_le (mm_ : Nat) (a b : List Int) : Le (spigotref16_SameKeys.G mm_ a b) (spigotref16_SameKeys.F a b) := by
 rw [spigotref16_SameKeys.F_eq]; unfold spigotref16_SameKeys.G; (repeat' (with_reducible first | exact (spigotref16_SameKeys.K_le mm_ mm_).1 _ _ | exact (spigotref16_SameKeys.K_le mm_ mm_).2.1 _ _ _ | exact (spigotref16_SameKeys.K_le mm_ mm_).2.2.1 _ _ _ | exact (spigotref16_SameKeys.K_le mm_ mm_).2.2.2 _ _ _  | exact Le.refl _ | refine Le.cond ?_ ?_ | refine Le.bind ?_ fun _ => ?_))
/-! ### spigotref13_Same -/
@[reducible] def spigotref13_Same.KT : Type := ((List Int) → (List Bool) → Int → (List Int) → (List Bool) → Int → (Option (Bool × Unit))) × (Int → (List Int) → (List Bool) → Int → (List Int) → (List Bool) → Int → (Option (Bool × Unit))) × (Int → (List Int) → (List Bool) → Int → (List Int) → (List Bool) → Int → (Option (Bool × Unit))) × (Int → (List Int) → (List Bool) → Int → (List Int) → (List Bool) → Int → (Option (Bool × Unit))) × (Int → (List Int) → (List Bool) → Int → (List Int) → (List Bool) → Int → (Option (Bool × Unit))) × (Int → (List Int) → (List Bool) → Int → (List Int) → (List Bool) → Int → (Option (Bool × Unit))) × (Int → (List Int) → (List Bool) → Int → (List Int) → (List Bool) → Int → (Option (Bool × Unit)))
@[reducible] def spigotref13_Same.Ok (KK_ : spigotref13_Same.KT) : Prop := (∀ b0 b02 b03 b1 b12 b13, Le (KK_.1 b0 b02 b03 b1 b12 b13) (spigotref13_Same.L1 b0 b02 b03 b1 b12 b13)) ∧ (∀ i b0 b02 b03 b1 b12 b13, Le (KK_.2.1 i b0 b02 b03 b1 b12 b13) (spigotref13_Same.L2 i b0 b02 b03 b1 b12 b13)) ∧ (∀ i b0 b02 b03 b1 b12 b13, Le (KK_.2.2.1 i b0 b02 b03 b1 b12 b13) (spigotref13_Same.L3 i b0 b02 b03 b1 b12 b13)) ∧ (∀ i b0 b02 b03 b1 b12 b13, Le (KK_.2.2.2.1 i b0 b02 b03 b1 b12 b13) (spigotref13_Same.L4 i b0 b02 b03 b1 b12 b13)) ∧ (∀ i b0 b02 b03 b1 b12 b13, Le (KK_.2.2.2.2.1 i b0 b02 b03 b1 b12 b13) (spigotref13_Same.L5 i b0 b02 b03 b1 b12 b13)) ∧ (∀ i b0 b02 b03 b1 b12 b13, Le (KK_.2.2.2.2.2.1 i b0 b02 b03 b1 b12 b13) (spigotref13_Same.L6 i b0 b02 b03 b1 b12 b13)) ∧ (∀ i b0 b02 b03 b1 b12 b13, Le (KK_.2.2.2.2.2.2 i b0 b02 b03 b1 b12 b13) (spigotref13_Same.L7 i b0 b02 b03 b1 b12 b13))
def spigotref13_Same.step (mm_ : Nat) (KK_ : spigotref13_Same.KT) : spigotref13_Same.KT := ((fun b0 b02 b03 b1 b12 b13 =>
 KK_.2.1 0 b0 b02 b03 b1 b12 b13),
(fun i b0 b02 b03 b1 b12 b13 =>
 bif (decide ((i : Int) < ((List.length b0 : Int)))) then
 KK_.2.2.1 i b0 b02 b03 b1 b12 b13
 else
 KK_.2.2.2.1 0 b0 b02 b03 b1 b12 b13),
(fun i b0 b02 b03 b1 b12 b13 =>
 bif (decide ((0 : Int) ≤ i ∧ (i : Int) < ((List.length b0 : Int)))) then
 bif (decide ((0 : Int) ≤ i ∧ (i : Int) < ((List.length b1 : Int)))) then
 bif ((List.getD b0 (Int.toNat i) 0) != (List.getD b1 (Int.toNat i) 0)) then
  some (false, ())
 else
  KK_.2.2.2.2.2.2 i b0 b02 b03 b1 b12 b13
 else none
 else none),
(fun i b0 b02 b03 b1 b12 b13 =>
 bif (decide ((i : Int) < ((List.length b02 : Int)))) then
 KK_.2.2.2.2.1 i b0 b02 b03 b1 b12 b13
 else
 some (true, ())),
(fun i b0 b02 b03 b1 b12 b13 =>
 bif (decide ((0 : Int) ≤ i ∧ (i : Int) < ((List.length b02 : Int)))) then
 bif (decide ((0 : Int) ≤ i ∧ (i : Int) < ((List.length b12 : Int)))) then
 bif (!((List.getD b02 (Int.toNat i) false) == (List.getD b12 (Int.toNat i) false))) then
  some (false, ())
 else
  KK_.2.2.2.2.2.1 i b0 b02 b03 b1 b12 b13
 else none
 else none),
(fun i b0 b02 b03 b1 b12 b13 =>
 KK_.2.2.2.1 (IntKind.wrap .i64 (i + 1)) b0 b02 b03 b1 b12 b13),
(fun i b0 b02 b03 b1 b12 b13 =>
 KK_.2.1 (IntKind.wrap .i64 (i + 1)) b0 b02 b03 b1 b12 b13))
def spigotref13_Same.K (mm_ : Nat) : Nat → spigotref13_Same.KT
| 0 => ((fun _ _ _ _ _ _ => none), (fun _ _ _ _ _ _ _ => none), (fun _ _ _ _ _ _ _ => none), (fun _ _ _ _ _ _ _ => none), (fun _ _ _ _ _ _ _ => none), (fun _ _ _ _ _ _ _ => none), (fun _ _ _ _ _ _ _ => none))
| nn_ + 1 => spigotref13_Same.step mm_ (spigotref13_Same.K mm_ nn_)
theorem spigotref13_Same.step_le (mm_ : Nat) (KK_ : spigotref13_Same.KT) (hh_ : spigotref13_Same.Ok KK_) : spigotref13_Same.Ok (spigotref13_Same.step mm_ KK_) := by
 refine ⟨fun _ _ _ _ _ _ => ?_, fun _ _ _ _ _ _ _ => ?_, fun _ _ _ _ _ _ _ => ?_, fun _ _ _ _ _ _ _ => ?_, fun _ _ _ _ _ _ _ => ?_, fun _ _ _ _ _ _ _ => ?_, fun _ _ _ _ _ _ _ => ?_⟩
 rw [spigotref13_Same.L1_eq]; rotate_left
 rw [spigotref13_Same.L2_eq]; rotate_left
 rw [spigotref13_Same.L3_eq]; rotate_left
 rw [spigotref13_Same.L4_eq]; rotate_left
 rw [spigotref13_Same.L5_eq]; rotate_left
 rw [spigotref13_Same.L6_eq]; rotate_left
 rw [spigotref13_Same.L7_eq]; rotate_left
 all_goals dsimp only [spigotref13_Same.step]
 all_goals (repeat' (with_reducible first | exact hh_.1 _ _ _ _ _ _ | exact hh_.2.1 _ _ _ _ _ _ _ | exact hh_.2.2.1 _ _ _ _ _ _ _ | exact hh_.2.2.2.1 _ _ _ _ _ _ _ | exact hh_.2.2.2.2.1 _ _ _ _ _ _ _ | exact hh_.2.2.2.2.2.1 _ _ _ _ _ _ _ | exact hh_.2.2.2.2.2.2 _ _ _ _ _ _ _  | exact Le.refl _ | refine Le.cond ?_ ?_ | refine Le.bind ?_ fun _ => ?_))
theorem spigotref13_Same.K_le (mm_ : Nat) : ∀ nn_, spigotref13_Same.Ok (spigotref13_Same.K mm_ nn_)
| 0 => ⟨fun _ _ _ _ _ _ => Le.none _, fun _ _ _ _ _ _ _ => Le.none _, fun _ _ _ _ _ _ _ => Le.none _, fun _ _ _ _ _ _ _ => Le.none _, fun _ _ _ _ _ _ _ => Le.none _, fun _ _ _ _ _ _ _ => Le.none _, fun _ _ _ _ _ _ _ => Le.none _⟩
| nn_ + 1 => spigotref13_Same.step_le mm_ (spigotref13_Same.K mm_ nn_) (spigotref13_Same.K_le mm_ nn_)
def spigotref13_Same.G (mm_ : Nat) (a : t2.den) (b : t2.den) : Option (Bool × Unit) :=
 bif (a.2.2.1 != b.2.2.1) then
 some (false, ())
 else
 bif (((List.length a.1 : Int)) != ((List.length b.1 : Int))) then
 some (false, ())
 else
 bif (((List.length a.2.1 : Int)) != ((List.length b.2.1 : Int))) then
  some (false, ())
 else
  (spigotref13_Same.K mm_ mm_).1 a.1 a.2.1 a.2.2.1 b.1 b.2.1 b.2.2.1
theorem spigotref13_Same.G_le (mm_ : Nat) (a : t2.den) (b : t2.den) : Le (spigotref13_Same.G mm_ a b) (spigotref13_Same.F a b) := by
 rw [spigotref13_Same.F_eq]; unfold spigotref13_Same.G; (repeat' (with_reducible first | exact (spigotref13_Same.K_le mm_ mm_).1 _ _ _ _ _ _ | exact (spigotref13_Same.K_le mm_ mm_).2.1 _ _ _ _ _ _ _ | exact (spigotref13_Same.K_le mm_ mm_).2.2.1 _ _ _ _ _ _ _ | exact (spigotref13_Same.K_le mm_ mm_).2.2.2.1 _ _ _ _ _ _ _ | exact (spigotref13_Same.K_le mm_ mm_).2.2.2.2.1 _ _ _ _ _ _ _ | exact (spigotref13_Same.K_le mm_ mm_).2.2.2.2.2.1 _ _ _ _ _ _ _ | exact (spigotref13_Same.K_le mm_ mm_).2.2.2.2.2.2 _ _ _ _ _ _ _  | exact Le.refl _ | refine Le.cond ?_ ?_ | refine Le.bind ?_ fun _ => ?_))
/-! ### spigotref14_Same -/
@[reducible] def spigotref14_Same.KT : Type := ((List t3.den) → (List t3.den) → (Option (Bool × Unit))) × ((List t3.den) → (List t3.den) → Int → (Option (Bool × Unit))) × ((List t3.den) → (List t3.den) → Int → (Option (Bool × Unit))) × ((List t3.den) → (List t3.den) → Int → (Option (Bool × Unit)))
@[reducible] def spigotref14_Same.Ok (KK_ : spigotref14_Same.KT) : Prop := (∀ a b, Le (KK_.1 a b) (spigotref14_Same.L1 a b)) ∧ (∀ a b i, Le (KK_.2.1 a b i) (spigotref14_Same.L2 a b i)) ∧ (∀ a b i, Le (KK_.2.2.1 a b i) (spigotref14_Same.L3 a b i)) ∧ (∀ a b i, Le (KK_.2.2.2 a b i) (spigotref14_Same.L4 a b i))
def spigotref14_Same.step (mm_ : Nat) (KK_ : spigotref14_Same.KT) : spigotref14_Same.KT := ((fun a b =>
 KK_.2.1 a b 0),
(fun a b i =>
 bif (decide ((i : Int) < ((List.length a : Int)))) then
 KK_.2.2.1 a b i
 else
 some (true, ())),
(fun a b i =>
 bif (decide ((0 : Int) ≤ i ∧ (i : Int) < ((List.length a : Int)))) then
 bif (decide ((0 : Int) ≤ i ∧ (i : Int) < ((List.length b : Int)))) then
 bif (!(Ty.beq t3 (List.getD a (Int.toNat i) (0, 0, false, ())) (List.getD b (Int.toNat i) (0, 0, false, ())))) then
  some (false, ())
 else
  KK_.2.2.2 a b i
 else none
 else none),
(fun a b i =>
 KK_.2.1 a b (IntKind.wrap .i64 (i + 1))))
def spigotref14_Same.K (mm_ : Nat) : Nat → spigotref14_Same.KT
| 0 => ((fun _ _ => none), (fun _ _ _ => none), (fun _ _ _ => none), (fun _ _ _ => none))
| nn_ + 1 => spigotref14_Same.step mm_ (spigotref14_Same.K mm_ nn_)
theorem spigotref14_Same.step_le (mm_ : Nat) (KK_ : spigotref14_Same.KT) (hh_ : spigotref14_Same.Ok KK_) : spigotref14_Same.Ok (spigotref14_Same.step mm_ KK_) := by
 refine ⟨fun _ _ => ?_, fun _ _ _ => ?_, fun _ _ _ => ?_, fun _ _ _ => ?_⟩
 rw [spigotref14_Same.L1_eq]; rotate_left
 rw [spigotref14_Same.L2_eq]; rotate_left
 rw [spigotref14_Same.L3_eq]; rotate_left
 rw [spigotref14_Same.L4_eq]; rotate_left
 all_goals dsimp only [spigotref14_Same.step]
 all_goals (repeat' (with_reducible first | exact hh_.1 _ _ | exact hh_.2.1 _ _ _ | exact hh_.2.2.1 _ _ _ | exact hh_.2.2.2 _ _ _  | exact Le.refl _ | refine Le.cond ?_ ?_ | refine Le.bind ?_ fun _ => ?_))
theorem spigotref14_Same.K_le (mm_ : Nat) : ∀ nn_, spigotref14_Same.Ok (spigotref14_Same.K mm_ nn_)
| 0 => ⟨fun _ _ => Le.none _, fun _ _ _ => Le.none _, fun _ _ _ => Le.none _, fun _ _ _ => Le.none _⟩
| nn_ + 1 => spigotref14_Same.step_le mm_ (spigotref14_Same.K mm_ nn_) (spigotref14_Same.K_le mm_ nn_)
def spigotref14_Same.G (mm_ : Nat) (a b : List t3.den) : Option (Bool × Unit) :=
 bif (((List.length a : Int)) != ((List.length b : Int))) then
 some (false, ())
 else
 (spigotref14_Same.K mm_ mm_).1 a b
theorem spigotref14_Same.G_le (mm_ : Nat) (a b : List t3.den) : Le (spigotref14_Same.G mm_ a b) (spigotref14_Same.F a b) := by
 rw [spigotref14_Same.F_eq]; unfold spigotref14_Same.G; (repeat' (with_reducible first | exact (spigotref14_Same.K_le mm_ mm_).1 _ _ | exact (spigotref14_Same.K_le mm_ mm_).2.1 _ _ _ | exact (spigotref14_Same.K_le mm_ mm_).2.2.1 _ _ _ | exact (spigotref14_Same.K_le mm_ mm_).2.2.2 _ _ _  | exact Le.refl _ | refine Le.cond ?_ ?_ | refine Le.bind ?_ fun _ => ?_))
/-! ### spigotref15_SameInts -/
@[reducible] def spigotref15_SameInts.KT : Type := ((List Int) → (List Int) → (Option (Bool × Unit))) × ((List Int) → (List Int) → Int → (Option (Bool × Unit))) × ((List Int) → (List Int) → Int → (Option (Bool × Unit))) × ((List Int) → (List Int) → Int → (Option (Bool × Unit)))
@[reducible] def spigotref15_SameInts.Ok (KK_ : spigotref15_SameInts.KT) : Prop := (∀ a b, Le (KK_.1 a b) (spigotref15_SameInts.L1 a b)) ∧ (∀ a b i, Le (KK_.2.1 a b i) (spigotref15_SameInts.L2 a b i)) ∧ (∀ a b i, Le (KK_.2.2.1 a b i) (spigotref15_SameInts.L3 a b i)) ∧ (∀ a b i, Le (KK_.2.2.2 a b i) (spigotref15_SameInts.L4 a b i))
def spigotref15_SameInts.step (mm_ : Nat) (KK_ : spigotref15_SameInts.KT) : spigotref15_SameInts.KT := ((fun a b =>
 KK_.2.1 a b 0),
(fun a b i =>
 bif (decide ((i : Int) < ((List.length a : Int)))) then
 KK_.2.2.1 a b i
 else
 some (true, ())),
(fun a b i =>
 bif (decide ((0 : Int) ≤ i ∧ (i : Int) < ((List.length a : Int)))) then
 bif (decide ((0 : Int) ≤ i ∧ (i : Int) < ((List.length b : Int)))) then
 bif ((List.getD a (Int.toNat i) 0) != (List.getD b (Int.toNat i) 0)) then
  some (false, ())
 else
  KK_.2.2.2 a b i
 else none
 else none),
(fun a b i =>
 KK_.2.1 a b (IntKind.wrap .i64 (i + 1))))
def spigotref15_SameInts.K (mm_ : Nat) : Nat → spigotref15_SameInts.KT
| 0 => ((fun _ _ => none), (fun _ _ _ => none), (fun _ _ _ => none), (fun _ _ _ => none))
| nn_ + 1 => spigotref15_SameInts.step mm_ (spigotref15_SameInts.K mm_ nn_)
theorem spigotref15_SameInts.step_le (mm_ : Nat) (KK_ : spigotref15_SameInts.KT) (hh_ : spigotref15_SameInts.Ok KK_) : spigotref15_SameInts.Ok (spigotref15_SameInts.step mm_ KK_) := by
 refine ⟨fun _ _ => ?_, fun _ _ _ => ?_, fun _ _ _ => ?_, fun _ _ _ => ?_⟩
 rw [spigotref15_SameInts.L1_eq]; rotate_left
 rw [spigotref15_SameInts.L2_eq]; rotate_left
 rw [spigotref15_SameInts.L3_eq]; rotate_left
 rw [spigotref15_SameInts.L4_eq]; rotate_left
 all_goals dsimp only [spigotref15_SameInts.step]
 all_goals (repeat' (with_reducible first | exact hh_.1 _ _ | exact hh_.2.1 _ _ _ | exact hh_.2.2.1 _ _ _ | exact hh_.2.2.2 _ _ _  | exact Le.refl _ | refine Le.cond ?_ ?_ | refine Le.bind ?_ fun _ => ?_))
theorem spigotref15_SameInts.K_le (mm_ : Nat) : ∀ nn_, spigotref15_SameInts.Ok (spigotref15_SameInts.K mm_ nn_)
| 0 => ⟨fun _ _ => Le.none _, fun _ _ _ => Le.none _, fun _ _ _ => Le.none _, fun _ _ _ => Le.none _⟩
| nn_ + 1 => spigotref15_SameInts.step_le mm_ (spigotref15_SameInts.K mm_ nn_) (spigotref15_SameInts.K_le mm_ nn_)
def spigotref15_SameInts.G (mm_ : Nat) (a b : List Int) : Option (Bool × Unit) :=
 bif (((List.length a : Int)) != ((List.length b : Int))) then
 some (false, ())
 else
 (spigotref15_SameInts.K mm_ mm_).1 a b
theorem spigotref15_SameInts.G_le (mm_ : Nat) (a b : List Int) : Le (spigotref15_SameInts.G mm_ a b) (spigotref15_SameInts.F a b) := by
 rw [spigotref15_SameInts.F_eq]; unfold spigotref15_SameInts.G; (repeat' (with_reducible first | exact (spigotref15_SameInts.K_le mm_ mm_).1 _ _ | exact (spigotref15_SameInts.K_le mm_ mm_).2.1 _ _ _ | exact (spigotref15_SameInts.K_le mm_ mm_).2.2.1 _ _ _ | exact (spigotref15_SameInts.K_le mm_ mm_).2.2.2 _ _ _  | exact Le.refl _ | refine Le.cond ?_ ?_ | refine Le.bind ?_ fun _ => ?_))
/-! ### spigotref15_Same -/
def spigotref15_Same.G (mm_ : Nat) (a : t4.den) (b : t4.den) : Option (Bool × Unit) :=
 ((spigotref15_SameInts.G mm_) a.1 b.1).bind fun r0 =>
 bif r0.1 then
 ((spigotref15_SameInts.G mm_) a.2.1 b.2.1).bind fun r1 =>
 bif r1.1 then
 bif (a.2.2.1 == b.2.2.1) then
  some ((a.2.2.2.1 == b.2.2.2.1), ())
 else
  some (false, ())
 else
 some (false, ())
 else
 some (false, ())
theorem spigotref15_Same.G_le (mm_ : Nat) (a : t4.den) (b : t4.den) : Le (spigotref15_Same.G mm_ a b) (spigotref15_Same.F a b) := by
 rw [spigotref15_Same.F_eq]; unfold spigotref15_Same.G; (repeat' (with_reducible first  | exact spigotref15_SameInts.G_le mm_ _ _ | exact Le.refl _ | refine Le.cond ?_ ?_ | refine Le.bind ?_ fun _ => ?_))
/-! ### spigotref16_Same -/
@[reducible] def spigotref16_Same.KT : Type := (Int → (List Int) → (List t1.den) → (List Int) → (List Bool) → Int → (List t3.den) → (List Int) → (List Int) → Int → Int → Int → (List Int) → (List t1.den) → (List Int) → (List Bool) → Int → (List t3.den) → (List Int) → (List Int) → Int → Int → (Option (Bool × Unit))) × (Int → Int → (List Int) → (List t1.den) → (List Int) → (List Bool) → Int → (List t3.den) → (List Int) → (List Int) → Int → Int → Int → (List Int) → (List t1.den) → (List Int) → (List Bool) → Int → (List t3.den) → (List Int) → (List Int) → Int → Int → (Option (Bool × Unit))) × (Int → Int → (List Int) → (List t1.den) → (List Int) → (List Bool) → Int → (List t3.den) → (List Int) → (List Int) → Int → Int → Int → (List Int) → (List t1.den) → (List Int) → (List Bool) → Int → (List t3.den) → (List Int) → (List Int) → Int → Int → (Option (Bool × Unit))) × (Int → Int → (List Int) → (List t1.den) → (List Int) → (List Bool) → Int → (List t3.den) → (List Int) → (List Int) → Int → Int → Int → (List Int) → (List t1.den) → (List Int) → (List Bool) → Int → (List t3.den) → (List Int) → (List Int) → Int → Int → (Option (Bool × Unit)))
@[reducible] def spigotref16_Same.Ok (KK_ : spigotref16_Same.KT) : Prop := (∀ b0 b02 b03 b04 b05 b06 b07 b08 b09 b010 b011 b1 b12 b13 b14 b15 b16 b17 b18 b19 b110 b111, Le (KK_.1 b0 b02 b03 b04 b05 b06 b07 b08 b09 b010 b011 b1 b12 b13 b14 b15 b16 b17 b18 b19 b110 b111) (spigotref16_Same.L1 b0 b02 b03 b04 b05 b06 b07 b08 b09 b010 b011 b1 b12 b13 b14 b15 b16 b17 b18 b19 b110 b111)) ∧ (∀ i b0 b02 b03 b04 b05 b06 b07 b08 b09 b010 b011 b1 b12 b13 b14 b15 b16 b17 b18 b19 b110 b111, Le (KK_.2.1 i b0 b02 b03 b04 b05 b06 b07 b08 b09 b010 b011 b1 b12 b13 b14 b15 b16 b17 b18 b19 b110 b111) (spigotref16_Same.L2 i b0 b02 b03 b04 b05 b06 b07 b08 b09 b010 b011 b1 b12 b13 b14 b15 b16 b17 b18 b19 b110 b111)) ∧ (∀ i b0 b02 b03 b04 b05 b06 b07 b08 b09 b010 b011 b1 b12 b13 b14 b15 b16 b17 b18 b19 b110 b111, Le (KK_.2.2.1 i b0 b02 b03 b04 b05 b06 b07 b08 b09 b010 b011 b1 b12 b13 b14 b15 b16 b17 b18 b19 b110 b111) (spigotref16_Same.L3 i b0 b02 b03 b04 b05 b06 b07 b08 b09 b010 b011 b1 b12 b13 b14 b15 b16 b17 b18 b19 b110 b111)) ∧ (∀ i b0 b02 b03 b04 b05 b06 b07 b08 b09 b010 b011 b1 b12 b13 b14 b15 b16 b17 b18 b19 b110 b111, Le (KK_.2.2.2 i b0 b02 b03 b04 b05 b06 b07 b08 b09 b010 b011 b1 b12 b13 b14 b15 b16 b17 b18 b19 b110 b111) (spigotref16_Same.L4 i b0 b02 b03 b04 b05 b06 b07 b08 b09 b010 b011 b1 b12 b13 b14 b15 b16 b17 b18 b19 b110 b111))
def spigotref16_Same.step (mm_ : Nat) (KK_ : spigotref16_Same.KT) : spigotref16_Same.KT := ((fun b0 b02 b03 b04 b05 b06 b07 b08 b09 b010 b011 b1 b12 b13 b14 b15 b16 b17 b18 b19 b110 b111 =>
 KK_.2.1 0 b0 b02 b03 b04 b05 b06 b07 b08 b09 b010 b011 b1 b12 b13 b14 b15 b16 b17 b18 b19 b110 b111),
(fun i b0 b02 b03 b04 b05 b06 b07 b08 b09 b010 b011 b1 b12 b13 b14 b15 b16 b17 b18 b19 b110 b111 =>
 bif (decide ((i : Int) < ((List.length b03 : Int)))) then
 KK_.2.2.1 i b0 b02 b03 b04 b05 b06 b07 b08 b09 b010 b011 b1 b12 b13 b14 b15 b16 b17 b18 b19 b110 b111
 else
 some (true, ())),
(fun i b0 b02 b03 b04 b05 b06 b07 b08 b09 b010 b011 b1 b12 b13 b14 b15 b16 b17 b18 b19 b110 b111 =>
 bif (decide ((0 : Int) ≤ i ∧ (i : Int) < ((List.length b03 : Int)))) then
 bif (decide ((0 : Int) ≤ i ∧ (i : Int) < ((List.length b13 : Int)))) then
 bif (!(Ty.beq t1 (List.getD b03 (Int.toNat i) ((0, 0, 0, ()), 0, 0, 0, ())) (List.getD b13 (Int.toNat i) ((0, 0, 0, ()), 0, 0, 0, ())))) then
  some (false, ())
 else
  KK_.2.2.2 i b0 b02 b03 b04 b05 b06 b07 b08 b09 b010 b011 b1 b12 b13 b14 b15 b16 b17 b18 b19 b110 b111
 else none
 else none),
(fun i b0 b02 b03 b04 b05 b06 b07 b08 b09 b010 b011 b1 b12 b13 b14 b15 b16 b17 b18 b19 b110 b111 =>
 KK_.2.1 (IntKind.wrap .i64 (i + 1)) b0 b02 b03 b04 b05 b06 b07 b08 b09 b010 b011 b1 b12 b13 b14 b15 b16 b17 b18 b19 b110 b111))
def spigotref16_Same.K (mm_ : Nat) : Nat → spigotref16_Same.KT
| 0 => ((fun _ _ _ _ _ _ _ _ _ _ _ _ _ _ _ _ _ _ _ _ _ _ => none), (fun _ _ _ _ _ _ _ _ _ _ _ _ _ _ _ _ _ _ _ _ _ _ _ => none), (fun _ _ _ _ _ _ _ _ _ _ _ _ _ _ _ _ _ _ _ _ _ _ _ => none), (fun _ _ _ _ _ _ _ _ _ _ _ _ _ _ _ _ _ _ _ _ _ _ _ => none))
| nn_ + 1 => spigotref16_Same.step mm_ (spigotref16_Same.K mm_ nn_)
theorem spigotref16_Same.step_le (mm_ : Nat) (KK_ : spigotref16_Same.KT) (hh_ : spigotref16_Same.Ok KK_) : spigotref16_Same.Ok (spigotref16_Same.step mm_ KK_) := by
 refine ⟨fun _ _ _ _ _ _ _ _ _ _ _ _ _ _ _ _ _ _ _ _ _ _ => ?_, fun _ _ _ _ _ _ _ _ _ _ _ _ _ _ _ _ _ _ _ _ _ _ _ => ?_, fun _ _ _ _ _ _ _ _ _ _ _ _ _ _ _ _ _ _ _ _ _ _ _ => ?_, fun _ _ _ _ _ _ _ _ _ _ _ _ _ _ _ _ _ _ _ _ _ _ _ => ?_⟩
 rw [spigotref16_Same.L1_eq]; rotate_left
 rw [spigotref16_Same.L2_eq]; rotate_left
 rw [spigotref16_Same.L3_eq]; rotate_left
 rw [spigotref16_Same.L4_eq]; rotate_left
 all_goals dsimp only [spigotref16_Same.step]
 all_goals (repeat' (with_reducible first | exact hh_.1 _ _ _ _ _ _ _ _ _ _ _ _ _ _ _ _ _ _ _ _ _ _ | exact hh_.2.1 _ _ _ _ _ _ _ _ _ _ _ _ _ _ _ _ _ _ _ _ _ _ _ | exact hh_.2.2.1 _ _ _ _ _ _ _ _ _ _ _ _ _ _ _ _ _ _ _ _ _ _ _ | exact hh_.2.2.2 _ _ _ _ _ _ _ _ _ _ _ _ _ _ _ _ _ _ _ _ _ _ _ | exact spigotref16_SameKeys.G_le mm_ _ _ | exact spigotref13_Same.G_le mm_ _ _ | exact spigotref14_Same.G_le mm_ _ _ | exact spigotref15_Same.G_le mm_ _ _ | exact Le.refl _ | refine Le.cond ?_ ?_ | refine Le.bind ?_ fun _ => ?_))
theorem spigotref16_Same.K_le (mm_ : Nat) : ∀ nn_, spigotref16_Same.Ok (spigotref16_Same.K mm_ nn_)
| 0 => ⟨fun _ _ _ _ _ _ _ _ _ _ _ _ _ _ _ _ _ _ _ _ _ _ => Le.none _, fun _ _ _ _ _ _ _ _ _ _ _ _ _ _ _ _ _ _ _ _ _ _ _ => Le.none _, fun _ _ _ _ _ _ _ _ _ _ _ _ _ _ _ _ _ _ _ _ _ _ _ => Le.none _, fun _ _ _ _ _ _ _ _ _ _ _ _ _ _ _ _ _ _ _ _ _ _ _ => Le.none _⟩
| nn_ + 1 => spigotref16_Same.step_le mm_ (spigotref16_Same.K mm_ nn_) (spigotref16_Same.K_le mm_ nn_)
def spigotref16_Same.G (mm_ : Nat) (a : t5.den) (b : t5.den) : Option (Bool × Unit) :=
 bif (a.1 != b.1) then
 some (false, ())
 else
 ((spigotref16_SameKeys.G mm_) a.2.1 b.2.1).bind fun r0 =>
 bif (!r0.1) then
 some (false, ())
 else
 bif (((List.length a.2.2.1 : Int)) != ((List.length b.2.2.1 : Int))) then
  some (false, ())
 else
  ((spigotref13_Same.G mm_) a.2.2.2.1 b.2.2.2.1).bind fun r1 =>
  bif (!r1.1) then
  some (false, ())
  else
  ((spigotref14_Same.G mm_) a.2.2.2.2.1 b.2.2.2.2.1).bind fun r2 =>
  bif (!r2.1) then
   some (false, ())
  else
   ((spigotref15_Same.G mm_) a.2.2.2.2.2.1 b.2.2.2.2.2.1).bind fun r3 =>
   bif (!r3.1) then
   some (false, ())
   else
   (spigotref16_Same.K mm_ mm_).1 a.1 a.2.1 a.2.2.1 a.2.2.2.1.1 a.2.2.2.1.2.1 a.2.2.2.1.2.2.1 a.2.2.2.2.1 a.2.2.2.2.2.1.1 a.2.2.2.2.2.1.2.1 a.2.2.2.2.2.1.2.2.1 a.2.2.2.2.2.1.2.2.2.1 b.1 b.2.1 b.2.2.1 b.2.2.2.1.1 b.2.2.2.1.2.1 b.2.2.2.1.2.2.1 b.2.2.2.2.1 b.2.2.2.2.2.1.1 b.2.2.2.2.2.1.2.1 b.2.2.2.2.2.1.2.2.1 b.2.2.2.2.2.1.2.2.2.1
theorem spigotref16_Same.G_le (mm_ : Nat) (a : t5.den) (b : t5.den) : Le (spigotref16_Same.G mm_ a b) (spigotref16_Same.F a b) := by
 rw [spigotref16_Same.F_eq]; unfold spigotref16_Same.G; (repeat' (with_reducible first | exact (spigotref16_Same.K_le mm_ mm_).1 _ _ _ _ _ _ _ _ _ _ _ _ _ _ _ _ _ _ _ _ _ _ | exact (spigotref16_Same.K_le mm_ mm_).2.1 _ _ _ _ _ _ _ _ _ _ _ _ _ _ _ _ _ _ _ _ _ _ _ | exact (spigotref16_Same.K_le mm_ mm_).2.2.1 _ _ _ _ _ _ _ _ _ _ _ _ _ _ _ _ _ _ _ _ _ _ _ | exact (spigotref16_Same.K_le mm_ mm_).2.2.2 _ _ _ _ _ _ _ _ _ _ _ _ _ _ _ _ _ _ _ _ _ _ _ | exact spigotref16_SameKeys.G_le mm_ _ _ | exact spigotref13_Same.G_le mm_ _ _ | exact spigotref14_Same.G_le mm_ _ _ | exact spigotref15_Same.G_le mm_ _ _ | exact Le.refl _ | refine Le.cond ?_ ?_ | refine Le.bind ?_ fun _ => ?_))
/-! ### spigotref18_Same -/
def spigotref18_Same.G (mm_ : Nat) (a : t7.den) (b : t7.den) : Option (Bool × Unit) :=
 bif (a.1 == b.1) then
 bif (Ty.beq (.arr 3 t0) a.2.1 b.2.1) then
 bif (Ty.beq t1 a.2.2.1 b.2.2.1) then
  ((spigotref16_Same.G mm_) a.2.2.2.1 b.2.2.2.1).bind fun r0 =>
  bif r0.1 then
  ((spigotref16_Same.G mm_) a.2.2.2.2.1 b.2.2.2.2.1).bind fun r1 =>
  bif r1.1 then
   ((spigotref16_SameKeys.G mm_) a.2.2.2.2.2.1 b.2.2.2.2.2.1).bind fun r2 =>
   bif r2.1 then
   some ((Ty.beq t6 a.2.2.2.2.2.2.1 b.2.2.2.2.2.2.1), ())
   else
   some (false, ())
  else
   some (false, ())
  else
  some (false, ())
 else
  some (false, ())
 else
 some (false, ())
 else
 some (false, ())
theorem spigotref18_Same.G_le (mm_ : Nat) (a : t7.den) (b : t7.den) : Le (spigotref18_Same.G mm_ a b) (spigotref18_Same.F a b) := by
 rw [spigotref18_Same.F_eq]; unfold spigotref18_Same.G; (repeat' (with_reducible first  | exact spigotref16_Same.G_le mm_ _ _ | exact spigotref16_SameKeys.G_le mm_ _ _ | exact Le.refl _ | refine Le.cond ?_ ?_ | refine Le.bind ?_ fun _ => ?_))
/-! ### spigotref19_Same -/
@[reducible] def spigotref19_Same.KT : Type := ((List t7.den) → (List t7.den) → (Option (Bool × Unit))) × ((List t7.den) → (List t7.den) → Int → (Option (Bool × Unit))) × ((List t7.den) → (List t7.den) → Int → (Option (Bool × Unit))) × ((List t7.den) → (List t7.den) → Int → (Option (Bool × Unit)))
@[reducible] def spigotref19_Same.Ok (KK_ : spigotref19_Same.KT) : Prop := (∀ a b, Le (KK_.1 a b) (spigotref19_Same.L1 a b)) ∧ (∀ a b i, Le (KK_.2.1 a b i) (spigotref19_Same.L2 a b i)) ∧ (∀ a b i, Le (KK_.2.2.1 a b i) (spigotref19_Same.L3 a b i)) ∧ (∀ a b i, Le (KK_.2.2.2 a b i) (spigotref19_Same.L4 a b i))
def spigotref19_Same.step (mm_ : Nat) (KK_ : spigotref19_Same.KT) : spigotref19_Same.KT := ((fun a b =>
 KK_.2.1 a b 0),
(fun a b i =>
 bif (decide ((i : Int) < ((List.length a : Int)))) then
 KK_.2.2.1 a b i
 else
 some (true, ())),
(fun a b i =>
 bif (decide ((0 : Int) ≤ i ∧ (i : Int) < ((List.length a : Int)))) then
 bif (decide ((0 : Int) ≤ i ∧ (i : Int) < ((List.length b : Int)))) then
 ((spigotref18_Same.G mm_) (List.getD a (Int.toNat i) d7_) (List.getD b (Int.toNat i) d7_)).bind fun r0 =>
 bif (!r0.1) then
  some (false, ())
 else
  KK_.2.2.2 a b i
 else none
 else none),
(fun a b i =>
 KK_.2.1 a b (IntKind.wrap .i64 (i + 1))))
def spigotref19_Same.K (mm_ : Nat) : Nat → spigotref19_Same.KT
| 0 => ((fun _ _ => none), (fun _ _ _ => none), (fun _ _ _ => none), (fun _ _ _ => none))
| nn_ + 1 => spigotref19_Same.step mm_ (spigotref19_Same.K mm_ nn_)
theorem spigotref19_Same.step_le (mm_ : Nat) (KK_ : spigotref19_Same.KT) (hh_ : spigotref19_Same.Ok KK_) : spigotref19_Same.Ok (spigotref19_Same.step mm_ KK_) := by
 refine ⟨fun _ _ => ?_, fun _ _ _ => ?_, fun _ _ _ => ?_, fun _ _ _ => ?_⟩
 rw [spigotref19_Same.L1_eq]; rotate_left
 rw [spigotref19_Same.L2_eq]; rotate_left
 rw [spigotref19_Same.L3_eq]; rotate_left
 rw [spigotref19_Same.L4_eq]; rotate_left
 all_goals dsimp only [spigotref19_Same.step]
 all_goals (repeat' (with_reducible first | exact hh_.1 _ _ | exact hh_.2.1 _ _ _ | exact hh_.2.2.1 _ _ _ | exact hh_.2.2.2 _ _ _ | exact spigotref18_Same.G_le mm_ _ _ | exact Le.refl _ | refine Le.cond ?_ ?_ | refine Le.bind ?_ fun _ => ?_))
theorem spigotref19_Same.K_le (mm_ : Nat) : ∀ nn_, spigotref19_Same.Ok (spigotref19_Same.K mm_ nn_)
| 0 => ⟨fun _ _ => Le.none _, fun _ _ _ => Le.none _, fun _ _ _ => Le.none _, fun _ _ _ => Le.none _⟩
| nn_ + 1 => spigotref19_Same.step_le mm_ (spigotref19_Same.K mm_ nn_) (spigotref19_Same.K_le mm_ nn_)
def spigotref19_Same.G (mm_ : Nat) (a b : List t7.den) : Option (Bool × Unit) :=
 bif (((List.length a : Int)) != ((List.length b : Int))) then
 some (false, ())
 else
 (spigotref19_Same.K mm_ mm_).1 a b
theorem spigotref19_Same.G_le (mm_ : Nat) (a b : List t7.den) : Le (spigotref19_Same.G mm_ a b) (spigotref19_Same.F a b) := by
 rw [spigotref19_Same.F_eq]; unfold spigotref19_Same.G; (repeat' (with_reducible first | exact (spigotref19_Same.K_le mm_ mm_).1 _ _ | exact (spigotref19_Same.K_le mm_ mm_).2.1 _ _ _ | exact (spigotref19_Same.K_le mm_ mm_).2.2.1 _ _ _ | exact (spigotref19_Same.K_le mm_ mm_).2.2.2 _ _ _ | exact spigotref18_Same.G_le mm_ _ _ | exact Le.refl _ | refine Le.cond ?_ ?_ | refine Le.bind ?_ fun _ => ?_))
/-! ### spigotref20_Same -/
def spigotref20_Same.G (mm_ : Nat) (a : t8.den) (b : t8.den) : Option (Bool × Unit) :=
 bif (a.1 == b.1) then
 bif (Ty.beq (.arr 32 (.int .u8)) a.2.1 b.2.1) then
 bif (Ty.beq (.arr 16 (.int .u32)) a.2.2.1 b.2.2.1) then
  ((spigotref19_Same.G mm_) a.2.2.2.1 b.2.2.2.1).bind fun r0 =>
  some (r0.1, ())
 else
  some (false, ())
 else
 some (false, ())
 else
 some (false, ())
theorem spigotref20_Same.G_le (mm_ : Nat) (a : t8.den) (b : t8.den) : Le (spigotref20_Same.G mm_ a b) (spigotref20_Same.F a b) := by
 rw [spigotref20_Same.F_eq]; unfold spigotref20_Same.G; (repeat' (with_reducible first  | exact spigotref19_Same.G_le mm_ _ _ | exact Le.refl _ | refine Le.cond ?_ ?_ | refine Le.bind ?_ fun _ => ?_))
/-! ### spigotlaw33_ImageNames -/
@[reducible] def spigotlaw33_ImageNames.KT : Type := (Int → Int → Int → Int → Int → Int → Int → Int → Int → Int → Int → (List Int) → (List Int) → (List Int) → (List t7.den) → (Option (Bool × Unit)))
@[reducible] def spigotlaw33_ImageNames.Ok (KK_ : spigotlaw33_ImageNames.KT) : Prop := (∀ a b c d e f g h j k b0 b02 b03 l1 l2, Le (KK_ a b c d e f g h j k b0 b02 b03 l1 l2) (spigotlaw33_ImageNames.L1 a b c d e f g h j k b0 b02 b03 l1 l2))
def spigotlaw33_ImageNames.step (mm_ : Nat) (KK_ : spigotlaw33_ImageNames.KT) : spigotlaw33_ImageNames.KT := ((fun a b c d e f g h j k b0 b02 b03 l1 l2 =>
 bif (lim ((List.length ([] : List Int)) + (List.length l1)) (.int .u8)) then
 bif (decide ((0 : Int) ≤ 7 ∧ (7 : Int) < ((List.length (([] : List Int) ++ l1) : Int)))) then
 ((image_Same.G mm_) l1 (List.set (([] : List Int) ++ l1) (Int.toNat 7) 9)).bind fun r0 =>
 bif (lim ((List.length ([] : List Int)) + (List.length l1)) (.int .u8)) then
  bif (decide ((0 : Int) ≤ 43 ∧ (43 : Int) < ((List.length (([] : List Int) ++ l1) : Int)))) then
  bif (decide ((0 : Int) ≤ 43 ∧ (43 : Int) < ((List.length (([] : List Int) ++ l1) : Int)))) then
   ((image_Same.G mm_) l1 (List.set (([] : List Int) ++ l1) (Int.toNat 43) (IntKind.wrap .u8 ((List.getD (([] : List Int) ++ l1) (Int.toNat 43) 0) + 1)))).bind fun r1 =>
   bif (lim ((List.length ([] : List Int)) + (List.length l1)) (.int .u8)) then
   bif (decide ((0 : Int) ≤ 105 ∧ (105 : Int) < ((List.length (([] : List Int) ++ l1) : Int)))) then
    ((image_Parse.G mm_) (List.set (([] : List Int) ++ l1) (Int.toNat 105) 16)).bind fun r2 =>
    (spigotlaw33_alive.G mm_).bind fun r3 =>
    bif r3.1 then
    bif (a == 8) then
     bif (b == 8) then
     bif (c == 4) then
      bif (d == 12) then
      bif (e == 12) then
       bif (f == 0) then
       ((spigotref20_Same.G mm_) (b0, b02, b03, l2, ()) (0, (List.replicate 32 (0 : Int)), (List.replicate 16 (0 : Int)), ([] : List t7.den), ())).bind fun r4 =>
       bif r4.1 then
        bif (g == 12) then
        bif (h == 12) then
         bif (j == 12) then
         bif (k == 12) then
          bif (r0.2.1 == 0) then
          bif r0.1 then
           bif (r1.2.1 == 0) then
           bif (!r1.1) then
            some ((r2.2.1 == 12), ())
           else
            some (false, ())
           else
           some (false, ())
          else
           some (false, ())
          else
          some (false, ())
         else
          some (false, ())
         else
         some (false, ())
        else
         some (false, ())
        else
        some (false, ())
       else
        some (false, ())
       else
       some (false, ())
      else
       some (false, ())
      else
      some (false, ())
     else
      some (false, ())
     else
     some (false, ())
    else
     some (false, ())
    else
    some (false, ())
   else none
   else none
  else none
  else none
 else none
 else none
 else none))
def spigotlaw33_ImageNames.K (mm_ : Nat) : Nat → spigotlaw33_ImageNames.KT
| 0 => ((fun _ _ _ _ _ _ _ _ _ _ _ _ _ _ _ => none))
| nn_ + 1 => spigotlaw33_ImageNames.step mm_ (spigotlaw33_ImageNames.K mm_ nn_)
theorem spigotlaw33_ImageNames.step_le (mm_ : Nat) (KK_ : spigotlaw33_ImageNames.KT) (hh_ : spigotlaw33_ImageNames.Ok KK_) : spigotlaw33_ImageNames.Ok (spigotlaw33_ImageNames.step mm_ KK_) := by
 refine fun _ _ _ _ _ _ _ _ _ _ _ _ _ _ _ => ?_
 rw [spigotlaw33_ImageNames.L1_eq]
 all_goals dsimp only [spigotlaw33_ImageNames.step]
 all_goals (repeat' (with_reducible first | exact hh_ _ _ _ _ _ _ _ _ _ _ _ _ _ _ _ | exact image_Same.G_le mm_ _ _ | exact image_Parse.G_le mm_ _ | exact spigotlaw33_alive.G_le mm_ | exact spigotref20_Same.G_le mm_ _ _ | exact spigotlaw33_example.G_le mm_ | exact image_Write.G_le mm_ _ | exact image_Size.G_le mm_ _ | exact Le.refl _ | refine Le.cond ?_ ?_ | refine Le.bind ?_ fun _ => ?_))
theorem spigotlaw33_ImageNames.K_le (mm_ : Nat) : ∀ nn_, spigotlaw33_ImageNames.Ok (spigotlaw33_ImageNames.K mm_ nn_)
| 0 => fun _ _ _ _ _ _ _ _ _ _ _ _ _ _ _ => Le.none _
| nn_ + 1 => spigotlaw33_ImageNames.step_le mm_ (spigotlaw33_ImageNames.K mm_ nn_) (spigotlaw33_ImageNames.K_le mm_ nn_)
def spigotlaw33_ImageNames.G (mm_ : Nat)  : Option (Bool × Unit) :=
 (spigotlaw33_example.G mm_).bind fun r0 =>
 bif (decide ((0 : Int) ≤ 0 ∧ (0 : Int) < ((List.length r0.1.2.2.2.1 : Int)))) then
 ((image_Write.G mm_) (0, r0.1.2.1, r0.1.2.2.1, (List.set r0.1.2.2.2.1 (Int.toNat 0) ((List.getD r0.1.2.2.2.1 (Int.toNat 0) d7_).1, ((List.getD r0.1.2.2.2.1 (Int.toNat 0) d7_).2).1, (((((List.getD r0.1.2.2.2.1 (Int.toNat 0) d7_).2).2).1).1, (((((List.getD r0.1.2.2.2.1 (Int.toNat 0) d7_).2).2).1).2).1, ((((((List.getD r0.1.2.2.2.1 (Int.toNat 0) d7_).2).2).1).2).2).1, 1, ()), ((((List.getD r0.1.2.2.2.1 (Int.toNat 0) d7_).2).2).2).1, (((((List.getD r0.1.2.2.2.1 (Int.toNat 0) d7_).2).2).2).2).1, ((((((List.getD r0.1.2.2.2.1 (Int.toNat 0) d7_).2).2).2).2).2).1, (((((((List.getD r0.1.2.2.2.1 (Int.toNat 0) d7_).2).2).2).2).2).2).1, ())), ())).bind fun r1 =>
 ((image_Size.G mm_) (0, r0.1.2.1, r0.1.2.2.1, (List.set r0.1.2.2.2.1 (Int.toNat 0) ((List.getD r0.1.2.2.2.1 (Int.toNat 0) d7_).1, ((List.getD r0.1.2.2.2.1 (Int.toNat 0) d7_).2).1, (((((List.getD r0.1.2.2.2.1 (Int.toNat 0) d7_).2).2).1).1, (((((List.getD r0.1.2.2.2.1 (Int.toNat 0) d7_).2).2).1).2).1, ((((((List.getD r0.1.2.2.2.1 (Int.toNat 0) d7_).2).2).1).2).2).1, 1, ()), ((((List.getD r0.1.2.2.2.1 (Int.toNat 0) d7_).2).2).2).1, (((((List.getD r0.1.2.2.2.1 (Int.toNat 0) d7_).2).2).2).2).1, ((((((List.getD r0.1.2.2.2.1 (Int.toNat 0) d7_).2).2).2).2).2).1, (((((((List.getD r0.1.2.2.2.1 (Int.toNat 0) d7_).2).2).2).2).2).2).1, ())), ())).bind fun r2 =>
 bif (decide ((0 : Int) ≤ 5001 ∧ (5001 : Int) ≤ 5001) && (lim (Int.toNat 5001) (.int .u8))) then
 ((image_Parse.G mm_) (List.replicate (Int.toNat 5001) (0 : Int))).bind fun r3 =>
 bif (decide ((0 : Int) ≤ 5000 ∧ (5000 : Int) ≤ 5000) && (lim (Int.toNat 5000) (.int .u8))) then
  ((image_Parse.G mm_) (List.replicate (Int.toNat 5000) (0 : Int))).bind fun r4 =>
  ((image_Parse.G mm_) ([] : List Int)).bind fun r5 =>
  bif (decide ((0 : Int) ≤ 105 ∧ (105 : Int) ≤ 105) && (lim (Int.toNat 105) (.int .u8))) then
  ((image_Parse.G mm_) (List.replicate (Int.toNat 105) (0 : Int))).bind fun r6 =>
  bif (decide ((0 : Int) ≤ 104 ∧ (104 : Int) ≤ 104) && (lim (Int.toNat 104) (.int .u8))) then
   ((image_Parse.G mm_) (List.replicate (Int.toNat 104) (0 : Int))).bind fun r7 =>
   bif (decide ((0 : Int) ≤ 106 ∧ (106 : Int) ≤ 106) && (lim (Int.toNat 106) (.int .u8))) then
   ((image_Parse.G mm_) (List.replicate (Int.toNat 106) (0 : Int))).bind fun r8 =>
   (spigotlaw33_example.G mm_).bind fun r9 =>
   ((image_Write.G mm_) r9.1).bind fun r10 =>
   ((image_Same.G mm_) ([] : List Int) r10.1).bind fun r11 =>
   ((image_Same.G mm_) r10.1 ([] : List Int)).bind fun r12 =>
   bif (r10.2.1 != 0) then
    some (false, ())
   else
    bif (((List.length r10.1 : Int)) != 195) then
    some (false, ())
    else
    (spigotlaw33_ImageNames.K mm_ mm_) r1.2.1 r2.2.1 r3.2.1 r4.2.1 r5.2.1 r6.2.1 r7.2.1 r8.2.1 r11.2.1 r12.2.1 r6.1.1 r6.1.2.1 r6.1.2.2.1 r10.1 r6.1.2.2.2.1
   else none
  else none
  else none
 else none
 else none
 else none
theorem spigotlaw33_ImageNames.G_le (mm_ : Nat)  : Le (spigotlaw33_ImageNames.G mm_ ) (spigotlaw33_ImageNames.F) := by
 rw [spigotlaw33_ImageNames.F_eq]; unfold spigotlaw33_ImageNames.G; (repeat' (with_reducible first | exact (spigotlaw33_ImageNames.K_le mm_ mm_) _ _ _ _ _ _ _ _ _ _ _ _ _ _ _ | exact image_Same.G_le mm_ _ _ | exact image_Parse.G_le mm_ _ | exact spigotlaw33_alive.G_le mm_ | exact spigotref20_Same.G_le mm_ _ _ | exact spigotlaw33_example.G_le mm_ | exact image_Write.G_le mm_ _ | exact image_Size.G_le mm_ _ | exact Le.refl _ | refine Le.cond ?_ ?_ | refine Le.bind ?_ fun _ => ?_))
end
end Go.Proofs.YtkihjakbbcajbaaGreat.PM
