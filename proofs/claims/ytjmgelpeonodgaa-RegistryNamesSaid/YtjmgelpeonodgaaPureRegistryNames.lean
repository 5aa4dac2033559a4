/- The law RegistryNames: it is closed, and the kernel runs its twin. -/
import Derived.Test.YtjmgelpeonodgaaTw2
import Derived.Test.YtjmgelpeonodgaaPM29
namespace Go.Proofs.Ytjmgelpeonodgaa.PM
open Go Go.Proofs
theorem RegistryNames_run : spigotlaw19_RegistryNames.G 10000 = some (true, ()) := by kernel_rfl
theorem Pure.registryNames : ∀ x, argsWf spigotlaw19_RegistryNames.sg.ps x → spigotlaw19_RegistryNames.Fn.F x = some (true, ())
  | _, _ => spigotlaw19_RegistryNames.G_le 10000 _ RegistryNames_run
end Go.Proofs.Ytjmgelpeonodgaa.PM
