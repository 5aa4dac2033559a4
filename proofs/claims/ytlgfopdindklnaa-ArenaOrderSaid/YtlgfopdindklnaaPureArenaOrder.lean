/- ArenaOrder, plain: for every number of places the printed law answers true; numbers from 1 to 16 are computed, others answer at once. -/
import Derived.Test.YtlgfopdindklnaaPArenax13
namespace Go.Proofs.Ytlgfopdindklnaa.Pure
open Go.RowKit Go.Proofs.Ytlgfopdindklnaa.PArena Go.Proofs.YtlgfopdindklnaaW.PrintWords Go.Proofs.YtlgfopdindklnaaW.PrintLast
theorem alive_60 : spigotlaw13_alive.f 60 = some true := by decide +kernel
theorem order_all : ∀ n : Fin 17, spigotlaw13_ArenaOrder.f 90 n.val = some true := by decide +kernel
theorem ArenaOrder : spigotlaw13_ArenaOrder.Pure := by
  intro a0 _
  by_cases h0 : a0 < 1
  · refine ⟨60, ?_⟩
    unfold spigotlaw13_ArenaOrder.f
    rw [alive_60]; simp only [Option.bind_some, if_true]; rw [if_pos h0]
  · by_cases h1 : a0 > 16
    · refine ⟨60, ?_⟩
      unfold spigotlaw13_ArenaOrder.f
      rw [alive_60]; simp only [Option.bind_some, if_true]; rw [if_neg h0, if_pos h1]
    · refine ⟨90, ?_⟩
      have := order_all ⟨a0.toNat, by omega⟩
      simpa [Int.toNat_of_nonneg (show 0 ≤ a0 by omega)] using this
end Go.Proofs.Ytlgfopdindklnaa.Pure
