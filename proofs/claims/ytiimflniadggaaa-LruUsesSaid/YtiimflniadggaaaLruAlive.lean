/- The chapter's examples. -/
import Derived.Test.YtiimflniadggaaaPLrux23
import Derived.Test.YtiimflniadggaaaLruPlain4
namespace Go.Proofs.Ytiimflniadggaaa.LruPlain
open Go.RowKit Go.Proofs.Ytiimflniadggaaa.PLru Go.Proofs.YtiimflniadggaaaW.PrintWords Go.Proofs.YtiimflniadggaaaW.PrintLast
theorem alive_ev : Ev (fun k => spigotlaw15_alive.f k) true := Ev.of (fun k => spigotlaw15_alive.mono k) (k := 100) (by decide +kernel)
end Go.Proofs.Ytiimflniadggaaa.LruPlain
