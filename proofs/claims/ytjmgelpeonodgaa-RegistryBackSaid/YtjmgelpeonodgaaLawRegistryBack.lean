/- The statement RegistryBack: for every input that reads as data the law returns true, and its arguments read as before. -/
import Derived.Test.YtjmgelpeonodgaaRows
import Derived.Test.YtjmgelpeonodgaaPureRegistryBack
import Derived.LaidMore
import Derived.Lay
import Derived.OpenShut
namespace Go.Proofs.Ytjmgelpeonodgaa.registryBack
open Go Go.ChangeShapes Go.WideShapes Go.ChangeAt Go.RowKit Go.Proofs.Ytjmgelpeonodgaa.PM
theorem own : ownKnob Try.prog.godebug = none := by kernel_rfl
theorem laidOut : laidOutB Try.prog = true := by kernel_rfl
set_option maxRecDepth 100000 in
theorem lifted (os : Os) (started : os.Started) (H : Type) (enc : TypeId × Value → H) :
    ReturnsInHanded {} Try.checked os 6 .any (Rows.registryBackSpec.pre6 enc Try.prog Try.f6 Rows.registryBackRow.domain false) (Rows.registryBackSpec.post enc Try.prog Try.f6 false true false false) := by
  refine law_lifted (C := Try.checked) own started (by kernel_rfl) Try.func6
    (ChangeSpec.witness6 (enc := enc) (C := Try.checked) false ⟨#[], #[.slice none 0 0, .agg #[.int .u32 0, .int .i64 0, .int .i64 0, .int .i64 0, .int .i64 0, .int .i64 0, .int .i64 0, .int .i64 0, .int .i64 0, .int .i64 0, .int .i64 0, .int .i64 0, .int .i64 0, .int .i64 0, .int .i64 0, .int .u64 0, .int .i64 0, .slice none 0 0, .slice none 0 0, .slice none 0 0, .slice none 0 0, .int .i64 0, .slice none 0 0, .slice none 0 0, .slice none 0 0, .int .i64 0, .int .i64 0, .int .i64 0, .slice none 0 0, .slice none 0 0, .slice none 0 0, .slice none 0 0, .int .i64 0, .slice none 0 0, .slice none 0 0, .slice none 0 0, .int .i64 0, .int .i64 0, .slice none 0 0, .int .u64 0, .int .u64 0, .int .u64 0]], []⟩ 8 (by kernel_rfl) (by kernel_rfl) (by kernel_rfl) (by kernel_rfl))
    rfl (fun ds h => by
      match ds, h with
      | [a, b], _ => exact ⟨rfl, rfl, rfl⟩) rfl Try.underlying4 (by kernel_rfl) laidOut (by kernel_rfl) spigotlaw19_RegistryBack.spec (by kernel_rfl) ?_
  intro x hx
  have hp := Pure.registryBack x hx
  dsimp only [spigotlaw19_RegistryBack.Fn, fnOf] at hp
  exact ⟨(true, ()), hp, fun _ _ _ _ _ h => out_bool h⟩
theorem over : Rows.registryBackRow.holds Try.pinned (OpenSpec.ofChange Rows.registryBackSpec) :=
  OpenClaim.holds_of_wide 6 Try.f6 rfl rfl rfl rfl rfl rfl rfl ⟨rfl, rfl, rfl, rfl, rfl⟩ rfl rfl rfl rfl rfl (by kernel_rfl) Try.func6 (by kernel_rfl)
    (of_decide_eq_true (by kernel_rfl)) (by unfold Func.isWrapper; first | (rw [if_pos (by decide +kernel)]; kernel_rfl) | (rw [if_neg (by decide +kernel)]; exact ⟨rfl, rfl⟩))
    (fun os started H enc _ => lifted os started H enc)
theorem proved : Rows.RegistryBackSaid := over
#print axioms proved
end Go.Proofs.Ytjmgelpeonodgaa.registryBack
namespace Go.Proofs.Ytjmgelpeonodgaa
/-- The row, under a short name, for the claim. -/
theorem registryBack_holds : Rows.RegistryBackSaid := registryBack.proved
end Go.Proofs.Ytjmgelpeonodgaa
