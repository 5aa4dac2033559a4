/- The law RingRanks in plain words, for all that an argument may hold. -/
import Derived.Test.YteiekaboepdaeaaDoorRingP6
import Derived.Test.YteiekaboepdaeaaDoorPM29
namespace Go.Proofs.YteiekaboepdaeaaDoor.RP
set_option linter.unusedSimpArgs false
set_option linter.unusedVariables false
open Go Go.Proofs Go.Proofs.YteiekaboepdaeaaDoor.PM
theorem ringRanks.hu (x : Int) (h : (Ty.int .u32).wf x) : U32 x := by
  have h : (Lit.int .u32 x).wf = true := h
  simp [Lit.wf, IntKind.min, IntKind.max, IntKind.signed, IntKind.bits] at h
  unfold U32; omega
theorem ringRanks.hl (l : List Int) (h : (Ty.slice (.int .u32)).wf l) : ∀ y ∈ l, U32 y := fun y hy => ringRanks.hu y (h.2 y hy)
end Go.Proofs.YteiekaboepdaeaaDoor.RP
namespace Go.Proofs.YteiekaboepdaeaaDoor.PM
open Go Go.Proofs Go.Proofs.YteiekaboepdaeaaDoor.RP
theorem Pure.ringRanks : ∀ x, argsWf spigotlaw41_RingRanks.sg.ps x → spigotlaw41_RingRanks.Fn.F x = some (true, ())
  | ⟨l, t, h, _⟩, hx => RingRanks_F (ringRanks.hl l hx.1) (ringRanks.hu t hx.2.1) (ringRanks.hu h hx.2.2.1)
end Go.Proofs.YteiekaboepdaeaaDoor.PM
