/- The chapter's examples. -/
import Derived.Test.YteeceppbnkkfpaaPSharex17
import Derived.Test.YteeceppbnkkfpaaSharePlain4
namespace Go.Proofs.Yteeceppbnkkfpaa.SharePlain
open Go.RowKit Go.Proofs.Yteeceppbnkkfpaa.PShare Go.Proofs.YteeceppbnkkfpaaW.PrintWords Go.Proofs.YteeceppbnkkfpaaW.PrintLast
theorem alive_ev : Ev (fun k => spigotlaw36_alive.f k) true := Ev.of (fun k => spigotlaw36_alive.mono k) (k := 60) (by decide +kernel)
end Go.Proofs.Yteeceppbnkkfpaa.SharePlain
