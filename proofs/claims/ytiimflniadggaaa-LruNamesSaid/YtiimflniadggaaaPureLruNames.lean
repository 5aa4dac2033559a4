/- LruNames, plain: nothing is given; it is computed. -/
import Derived.Test.YtiimflniadggaaaPLrux30
namespace Go.Proofs.Ytiimflniadggaaa.Pure
open Go.RowKit Go.Proofs.Ytiimflniadggaaa.PLru Go.Proofs.YtiimflniadggaaaW.PrintWords Go.Proofs.YtiimflniadggaaaW.PrintLast
theorem LruNames : spigotlaw15_LruNames.Pure := ⟨100, by decide +kernel⟩
end Go.Proofs.Ytiimflniadggaaa.Pure
