/- ProbeNames, plain: nothing is given; it is computed. -/
import Derived.Test.YtlgfopdindklnaaPProbex18
namespace Go.Proofs.Ytlgfopdindklnaa.Pure
open Go.RowKit Go.Proofs.Ytlgfopdindklnaa.PProbe Go.Proofs.YtlgfopdindklnaaW.PrintWords Go.Proofs.YtlgfopdindklnaaW.PrintLast
theorem ProbeNames : spigotlaw14_ProbeNames.Pure := ⟨100, by decide +kernel⟩
end Go.Proofs.Ytlgfopdindklnaa.Pure
