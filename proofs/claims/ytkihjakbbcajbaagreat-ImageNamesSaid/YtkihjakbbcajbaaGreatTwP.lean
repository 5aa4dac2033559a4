/- part.Check's twin. -/
import Derived.Test.YtkihjakbbcajbaaGreatTw1
namespace Go.Proofs.YtkihjakbbcajbaaGreat.PM
set_option linter.unusedVariables false
open Go Go.Proofs
noncomputable def part_Check.RestG (m : Nat) (p : t7.den) : Option (Int × Unit) :=
  (tItems p.2.2.2.1).bind fun xs => match goR (st1 p) xs (same0 p) with
    | none => some (8, ())
    | some s1 => (tItems p.2.2.2.2.1).bind fun ys => match goR (st2 p) ys s1 with
      | none => some (8, ())
      | some s2 => (part_Check.K m m).2.2.2.2 p 0 s2
theorem part_Check.RestG_le (m : Nat) (p : t7.den) : Le (part_Check.RestG m p) (part_Check.Rest p) := by
  unfold part_Check.RestG part_Check.Rest
  refine Le.bind (Le.refl _) fun xs => ?_
  cases goR (st1 p) xs (same0 p) with
  | none => exact Le.refl _
  | some s1 =>
    refine Le.bind (Le.refl _) fun ys => ?_
    cases goR (st2 p) ys s1 with
    | none => exact Le.refl _
    | some s2 => exact (part_Check.K_le m m).2.2.2.2 _ _ _
noncomputable def part_Check.G (m : Nat) (p : t7.den) : Option (Int × Unit) :=
  bif (decide ((p.1 : Int) ≥ 16)) then
    some (8, ())
  else
    (part_valid.G m p.2.1).bind fun r0 =>
    bif (!r0.1) then
      some (8, ())
    else
      (bucket_Check.G m p.2.2.1).bind fun r1 =>
      bif (r1.1 != 0) then
        some (8, ())
      else
        (table_Check.G m p.2.2.2.1).bind fun r2 =>
        bif (r2.1 != 0) then
          some (8, ())
        else
          (table_Check.G m p.2.2.2.2.1).bind fun r3 =>
          bif (r3.1 != 0) then
            some (8, ())
          else
            part_Check.RestG m p
theorem part_Check.G_le (m : Nat) (p : t7.den) : Le (part_Check.G m p) (part_Check.F p) := by
  rw [part_Check.F_eq]
  unfold part_Check.G
  repeat' (with_reducible first | exact part_valid.G_le m _ | exact bucket_Check.G_le m _ | exact table_Check.G_le m _ | exact part_Check.RestG_le m _ | exact Le.refl _ | refine Le.cond ?_ ?_ | refine Le.bind ?_ fun _ => ?_)
end Go.Proofs.YtkihjakbbcajbaaGreat.PM
