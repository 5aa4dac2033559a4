/- The law RingNames in plain words, for all that an argument may hold. -/
import Derived.Test.YteiekaboepdaeaaDoorRingP7
import Derived.Test.YteiekaboepdaeaaDoorPM29
namespace Go.Proofs.YteiekaboepdaeaaDoor.RP
set_option linter.unusedSimpArgs false
set_option linter.unusedVariables false
open Go Go.Proofs Go.Proofs.YteiekaboepdaeaaDoor.PM
end Go.Proofs.YteiekaboepdaeaaDoor.RP
namespace Go.Proofs.YteiekaboepdaeaaDoor.PM
open Go Go.Proofs Go.Proofs.YteiekaboepdaeaaDoor.RP
theorem Pure.ringNames : ∀ x, argsWf spigotlaw41_RingNames.sg.ps x → spigotlaw41_RingNames.Fn.F x = some (true, ())
  | _, _ => RingNames_F
end Go.Proofs.YteiekaboepdaeaaDoor.PM
