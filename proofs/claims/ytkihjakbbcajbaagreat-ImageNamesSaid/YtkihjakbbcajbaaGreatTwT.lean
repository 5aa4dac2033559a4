/- refine.tabled's twin, for the empty list alone. -/
import Derived.Test.YtkihjakbbcajbaaGreatTwP
namespace Go.Proofs.YtkihjakbbcajbaaGreat.PM
set_option linter.unusedVariables false
open Go Go.Proofs
theorem tsafe_nil (lim : t0.den) (t : t5.den) : TSafe lim [] t := fun pre h hl => by
  cases pre with
  | nil => rfl
  | cons a r => simp at hl
theorem Rest_nil (lim : t0.den) (t : t5.den) : refine_tabled.Rest [] lim t = some (t, ()) := by
  unfold refine_tabled.Rest
  rw [if_pos ⟨by decide, tsafe_nil lim t⟩]
  rfl
noncomputable def refine_tabled.G (m : Nat) (l : List t9.den) (most : Int) (limit : t0.den) : Option (t5.den × Unit) := match l with
  | [] => (table_New.G m most).bind fun r => some (r.1, ())
  | _ :: _ => none
theorem refine_tabled.G_le (m : Nat) (l : List t9.den) (most : Int) (limit : t0.den) : Le (refine_tabled.G m l most limit) (refine_tabled.F l most limit) := by
  cases l with
  | cons a r => exact Le.none _
  | nil =>
    rw [refine_tabled.F_eq]
    unfold refine_tabled.G
    refine Le.bind (table_New.G_le m _) fun r => ?_
    rw [Rest_nil]
    exact Le.refl _
end Go.Proofs.YtkihjakbbcajbaaGreat.PM
