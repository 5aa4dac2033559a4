/- The statement RegistryNames: for every input that reads as data the law returns true, and its arguments read as before. -/
import Derived.Test.YtjmgelpeonodgaaRows
import Derived.Test.YtjmgelpeonodgaaPureRegistryNames
import Derived.LaidMore
import Derived.Lay
import Derived.OpenShut
namespace Go.Proofs.Ytjmgelpeonodgaa.registryNames
open Go Go.ChangeShapes Go.WideShapes Go.ChangeAt Go.RowKit Go.Proofs.Ytjmgelpeonodgaa.PM
theorem own : ownKnob Try.prog.godebug = none := by kernel_rfl
theorem laidOut : laidOutB Try.prog = true := by kernel_rfl
set_option maxRecDepth 100000 in
theorem lifted (os : Os) (started : os.Started) (H : Type) (enc : TypeId × Value → H) :
    ReturnsInHanded {} Try.checked os 5 .any (Rows.registryNamesSpec.pre6 enc Try.prog Try.f5 Rows.registryNamesRow.domain false) (Rows.registryNamesSpec.post enc Try.prog Try.f5 false true false false) := by
  refine law_lifted (C := Try.checked) own started (by kernel_rfl) Try.func5
    (ChangeSpec.witness6 (enc := enc) (C := Try.checked) false ⟨#[], #[], []⟩ 8 (by kernel_rfl) (by kernel_rfl) (by kernel_rfl) (by kernel_rfl))
    rfl (fun ds h => by
      match ds, h with
      | [], _ => exact ⟨rfl, rfl, rfl⟩) rfl Try.underlying4 (by kernel_rfl) laidOut (by kernel_rfl) spigotlaw19_RegistryNames.spec (by kernel_rfl) ?_
  intro x hx
  have hp := Pure.registryNames x hx
  dsimp only [spigotlaw19_RegistryNames.Fn, fnOf] at hp
  exact ⟨(true, ()), hp, fun _ _ _ _ _ h => out_bool h⟩
theorem over : Rows.registryNamesRow.holds Try.pinned (OpenSpec.ofChange Rows.registryNamesSpec) :=
  OpenClaim.holds_of_wide 5 Try.f5 rfl rfl rfl rfl rfl rfl rfl ⟨rfl, rfl, rfl, rfl, rfl⟩ rfl rfl rfl rfl rfl (by kernel_rfl) Try.func5 (by kernel_rfl)
    (of_decide_eq_true (by kernel_rfl)) (by unfold Func.isWrapper; first | (rw [if_pos (by decide +kernel)]; kernel_rfl) | (rw [if_neg (by decide +kernel)]; exact ⟨rfl, rfl⟩))
    (fun os started H enc _ => lifted os started H enc)
theorem proved : Rows.RegistryNamesSaid := over
#print axioms proved
end Go.Proofs.Ytjmgelpeonodgaa.registryNames
namespace Go.Proofs.Ytjmgelpeonodgaa
/-- The row, under a short name, for the claim. -/
theorem registryNames_holds : Rows.RegistryNamesSaid := registryNames.proved
end Go.Proofs.Ytjmgelpeonodgaa
