/- The law RingRank in plain words, for all that an argument may hold. -/
import Derived.Test.YteiekaboepdaeaaDoorRingP5
import Derived.Test.YteiekaboepdaeaaDoorPM29
namespace Go.Proofs.YteiekaboepdaeaaDoor.RP
set_option linter.unusedSimpArgs false
set_option linter.unusedVariables false
open Go Go.Proofs Go.Proofs.YteiekaboepdaeaaDoor.PM
theorem ringRank.hu (x : Int) (h : (Ty.int .u32).wf x) : U32 x := by
  have h : (Lit.int .u32 x).wf = true := h
  simp [Lit.wf, IntKind.min, IntKind.max, IntKind.signed, IntKind.bits] at h
  unfold U32; omega
theorem ringRank.hl (l : List Int) (h : (Ty.slice (.int .u32)).wf l) : ∀ y ∈ l, U32 y := fun y hy => ringRank.hu y (h.2 y hy)
end Go.Proofs.YteiekaboepdaeaaDoor.RP
namespace Go.Proofs.YteiekaboepdaeaaDoor.PM
open Go Go.Proofs Go.Proofs.YteiekaboepdaeaaDoor.RP
theorem Pure.ringRank : ∀ x, argsWf spigotlaw41_RingRank.sg.ps x → spigotlaw41_RingRank.Fn.F x = some (true, ())
  | ⟨l, t, i, _⟩, hx => RingRank_F (ringRank.hl l hx.1) (ringRank.hu t hx.2.1)
end Go.Proofs.YteiekaboepdaeaaDoor.PM
