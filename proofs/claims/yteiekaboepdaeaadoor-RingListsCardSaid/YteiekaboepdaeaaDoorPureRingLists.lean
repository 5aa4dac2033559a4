/- The law RingLists in plain words, for all that an argument may hold. -/
import Derived.Test.YteiekaboepdaeaaDoorRingP6
import Derived.Test.YteiekaboepdaeaaDoorPM29
namespace Go.Proofs.YteiekaboepdaeaaDoor.RP
set_option linter.unusedSimpArgs false
set_option linter.unusedVariables false
open Go Go.Proofs Go.Proofs.YteiekaboepdaeaaDoor.PM
theorem ringLists.hu (x : Int) (h : (Ty.int .u32).wf x) : U32 x := by
  have h : (Lit.int .u32 x).wf = true := h
  simp [Lit.wf, IntKind.min, IntKind.max, IntKind.signed, IntKind.bits] at h
  unfold U32; omega
theorem ringLists.hl (l : List Int) (h : (Ty.slice (.int .u32)).wf l) : ∀ y ∈ l, U32 y := fun y hy => ringLists.hu y (h.2 y hy)
end Go.Proofs.YteiekaboepdaeaaDoor.RP
namespace Go.Proofs.YteiekaboepdaeaaDoor.PM
open Go Go.Proofs Go.Proofs.YteiekaboepdaeaaDoor.RP
theorem Pure.ringLists : ∀ x, argsWf spigotlaw41_RingLists.sg.ps x → spigotlaw41_RingLists.Fn.F x = some (true, ())
  | ⟨a, b, T, h, _⟩, hx => RingLists_F (ringLists.hl a hx.1) (ringLists.hl b hx.2.1) (ringLists.hl T hx.2.2.1)
end Go.Proofs.YteiekaboepdaeaaDoor.PM
