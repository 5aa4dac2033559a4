/- The statement ImageNames: for every input that reads as data the law returns true, and its arguments read as before. -/
import Derived.Test.YtkihjakbbcajbaaGreatRows
import Derived.Test.YtkihjakbbcajbaaGreatPureImageNames
import Derived.LaidMore
import Derived.Lay
import Derived.OpenShut
namespace Go.Proofs.YtkihjakbbcajbaaGreat.imageNames
open Go Go.ChangeShapes Go.WideShapes Go.ChangeAt Go.RowKit Go.Proofs.YtkihjakbbcajbaaGreat.PM
theorem own : ownKnob Tryz.prog.godebug = none := by kernel_rfl
theorem laidOut : laidOutB Tryz.prog = true := by kernel_rfl
set_option maxRecDepth 100000 in
theorem lifted (os : Os) (started : os.Started) (H : Type) (enc : TypeId × Value → H) :
    ReturnsInHanded {} Tryz.checked os 5 .any (Rows.imageNamesSpec.pre6 enc Tryz.prog Tryz.f5 Rows.imageNamesRow.domain false) (Rows.imageNamesSpec.post enc Tryz.prog Tryz.f5 false true false false) := by
  refine law_lifted (C := Tryz.checked) own started (by kernel_rfl) Tryz.func5
    (ChangeSpec.witness6 (enc := enc) (C := Tryz.checked) false ⟨#[], #[], []⟩ 8 (by kernel_rfl) (by kernel_rfl) (by kernel_rfl) (by kernel_rfl))
    rfl (fun ds h => by
      match ds, h with
      | [], _ => exact ⟨rfl, rfl, rfl⟩) rfl Tryz.underlying4 (by kernel_rfl) laidOut (by kernel_rfl) spigotlaw33_ImageNames.spec (by kernel_rfl) ?_
  intro x hx
  have hp := Pure.imageNames x hx
  dsimp only [spigotlaw33_ImageNames.Fn, fnOf] at hp
  exact ⟨(true, ()), hp, fun _ _ _ _ _ h => out_bool h⟩
theorem over : Rows.imageNamesRow.holds Tryz.pinned (OpenSpec.ofChange Rows.imageNamesSpec) :=
  OpenClaim.holds_of_wide 5 Tryz.f5 rfl rfl rfl rfl rfl rfl rfl ⟨rfl, rfl, rfl, rfl, rfl⟩ rfl rfl rfl rfl rfl (by kernel_rfl) Tryz.func5 (by kernel_rfl)
    (of_decide_eq_true (by kernel_rfl)) (by unfold Func.isWrapper; first | (rw [if_pos (by decide +kernel)]; kernel_rfl) | (rw [if_neg (by decide +kernel)]; exact ⟨rfl, rfl⟩))
    (fun os started H enc _ => lifted os started H enc)
theorem proved : Rows.ImageNamesSaid := over
#print axioms proved
end Go.Proofs.YtkihjakbbcajbaaGreat.imageNames
namespace Go.Proofs.YtkihjakbbcajbaaGreat
/-- The row, under a short name, for the claim. -/
theorem imageNames_holds : Rows.ImageNamesSaid := imageNames.proved
end Go.Proofs.YtkihjakbbcajbaaGreat
