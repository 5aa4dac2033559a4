/- The law ImageNames: it is closed, and the kernel runs its twin. -/
import Derived.Test.YtkihjakbbcajbaaGreatTw2
import Derived.Test.YtkihjakbbcajbaaGreatPM29
namespace Go.Proofs.YtkihjakbbcajbaaGreat.PM
open Go Go.Proofs
theorem ImageNames_run : spigotlaw33_ImageNames.G 10000 = some (true, ()) := by kernel_rfl
theorem Pure.imageNames : ∀ x, argsWf spigotlaw33_ImageNames.sg.ps x → spigotlaw33_ImageNames.Fn.F x = some (true, ())
  | _, _ => spigotlaw33_ImageNames.G_le 10000 _ ImageNames_run
end Go.Proofs.YtkihjakbbcajbaaGreat.PM
