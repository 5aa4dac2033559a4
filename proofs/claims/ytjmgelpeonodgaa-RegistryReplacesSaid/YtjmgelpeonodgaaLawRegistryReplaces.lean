/- The statement RegistryReplaces: for every input that reads as data the law returns true, and its arguments read as before. -/
import Derived.Test.YtjmgelpeonodgaaRows
import Derived.Test.YtjmgelpeonodgaaPureRegistryReplaces
import Derived.LaidMore
import Derived.Lay
import Derived.OpenShut
namespace Go.Proofs.Ytjmgelpeonodgaa.registryReplaces
open Go Go.ChangeShapes Go.WideShapes Go.ChangeAt Go.RowKit Go.Proofs.Ytjmgelpeonodgaa.PM
theorem own : ownKnob Try.prog.godebug = none := by kernel_rfl
theorem laidOut : laidOutB Try.prog = true := by kernel_rfl
set_option maxRecDepth 100000 in
theorem lifted (os : Os) (started : os.Started) (H : Type) (enc : TypeId × Value → H) :
    ReturnsInHanded {} Try.checked os 7 .any (Rows.registryReplacesSpec.pre6 enc Try.prog Try.f7 Rows.registryReplacesRow.domain false) (Rows.registryReplacesSpec.post enc Try.prog Try.f7 false true false false) := by
  refine law_lifted (C := Try.checked) own started (by kernel_rfl) Try.func7
    (ChangeSpec.witness6 (enc := enc) (C := Try.checked) false ⟨#[], #[.slice none 0 0, .agg #[.int .u32 0, .int .i64 0, .int .i64 0, .int .i64 0, .int .i64 0, .int .i64 0, .int .i64 0, .int .i64 0, .int .i64 0, .int .i64 0, .int .i64 0, .int .i64 0, .int .i64 0, .int .i64 0, .int .i64 0, .int .u64 0, .int .i64 0, .slice none 0 0, .slice none 0 0, .slice none 0 0, .slice none 0 0, .int .i64 0, .slice none 0 0, .slice none 0 0, .slice none 0 0, .int .i64 0, .int .i64 0, .int .i64 0, .slice none 0 0, .slice none 0 0, .slice none 0 0, .slice none 0 0, .int .i64 0, .slice none 0 0, .slice none 0 0, .slice none 0 0, .int .i64 0, .int .i64 0, .slice none 0 0, .int .u64 0, .int .u64 0, .int .u64 0], .int .u32 0], []⟩ 8 (by kernel_rfl) (by kernel_rfl) (by kernel_rfl) (by kernel_rfl))
    rfl (fun ds h => by
      match ds, h with
      | [a, b, c], _ => exact ⟨rfl, rfl, rfl⟩) rfl Try.underlying4 (by kernel_rfl) laidOut (by kernel_rfl) spigotlaw19_RegistryReplaces.spec (by kernel_rfl) ?_
  intro x hx
  have hp := Pure.registryReplaces x hx
  dsimp only [spigotlaw19_RegistryReplaces.Fn, fnOf] at hp
  exact ⟨(true, ()), hp, fun _ _ _ _ _ h => out_bool h⟩
theorem over : Rows.registryReplacesRow.holds Try.pinned (OpenSpec.ofChange Rows.registryReplacesSpec) :=
  OpenClaim.holds_of_wide 7 Try.f7 rfl rfl rfl rfl rfl rfl rfl ⟨rfl, rfl, rfl, rfl, rfl⟩ rfl rfl rfl rfl rfl (by kernel_rfl) Try.func7 (by kernel_rfl)
    (of_decide_eq_true (by kernel_rfl)) (by unfold Func.isWrapper; first | (rw [if_pos (by decide +kernel)]; kernel_rfl) | (rw [if_neg (by decide +kernel)]; exact ⟨rfl, rfl⟩))
    (fun os started H enc _ => lifted os started H enc)
theorem proved : Rows.RegistryReplacesSaid := over
#print axioms proved
end Go.Proofs.Ytjmgelpeonodgaa.registryReplaces
namespace Go.Proofs.Ytjmgelpeonodgaa
/-- The row, under a short name, for the claim. -/
theorem registryReplaces_holds : Rows.RegistryReplacesSaid := registryReplaces.proved
end Go.Proofs.Ytjmgelpeonodgaa
