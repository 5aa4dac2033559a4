/- The pure statement of ShareNames. -/
import Derived.Test.YteeceppbnkkfpaaPSharex32
namespace Go.Proofs.Yteeceppbnkkfpaa.Pure
open Go.RowKit Go.Proofs.Yteeceppbnkkfpaa.PShare Go.Proofs.YteeceppbnkkfpaaW.PrintWords Go.Proofs.YteeceppbnkkfpaaW.PrintLast
theorem ShareNames : spigotlaw36_ShareNames.Pure := ⟨100, by decide +kernel⟩
end Go.Proofs.Yteeceppbnkkfpaa.Pure
