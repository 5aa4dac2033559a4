/- ArenaNames, plain: nothing is given; it is computed. -/
import Derived.Test.YtlgfopdindklnaaPArenax20
namespace Go.Proofs.Ytlgfopdindklnaa.Pure
open Go.RowKit Go.Proofs.Ytlgfopdindklnaa.PArena Go.Proofs.YtlgfopdindklnaaW.PrintWords Go.Proofs.YtlgfopdindklnaaW.PrintLast
theorem ArenaNames : spigotlaw13_ArenaNames.Pure := ⟨100, by decide +kernel⟩
end Go.Proofs.Ytlgfopdindklnaa.Pure
