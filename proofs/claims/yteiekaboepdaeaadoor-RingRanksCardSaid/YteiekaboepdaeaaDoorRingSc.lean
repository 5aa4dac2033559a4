/- Scores: one constant function of hosts and tenants. -/
import Derived.Test.YteiekaboepdaeaaDoorRingSh2
namespace Go.Proofs.YteiekaboepdaeaaDoor.RP
set_option linter.unusedSimpArgs false
set_option linter.unusedVariables false
open Go Go.Proofs Go.Proofs.YteiekaboepdaeaaDoor.PM
theorem score_ex : ∃ s : Int → Int → List Int, ∀ h t, ring_Score.F h t = some (s h t, 0, ()) ∧ (s h t).length = 32 ∧ Bytes (s h t) ∧ spigotref41_Score.F h t = some (s h t, ()) ∧ sha_Sum.F (text h t) = some (s h t, 0, ()) :=
  ⟨fun h t => Classical.choose (score_all h t), fun h t => Classical.choose_spec (score_all h t)⟩
noncomputable def score : Int → Int → List Int := Classical.choose score_ex
theorem Score_F {h t : Int} (_ : U32 h) (_ : U32 t) : ring_Score.F h t = some (score h t, 0, ()) := (Classical.choose_spec score_ex h t).1
theorem score_len {h t : Int} (_ : U32 h) (_ : U32 t) : (score h t).length = 32 := (Classical.choose_spec score_ex h t).2.1
theorem score_bytes {h t : Int} (_ : U32 h) (_ : U32 t) : Bytes (score h t) := (Classical.choose_spec score_ex h t).2.2.1
theorem RScore_F {h t : Int} (_ : U32 h) (_ : U32 t) : spigotref41_Score.F h t = some (score h t, ()) := (Classical.choose_spec score_ex h t).2.2.2.1
theorem Sum_text (h t : Int) : sha_Sum.F (text h t) = some (score h t, 0, ()) := (Classical.choose_spec score_ex h t).2.2.2.2
end Go.Proofs.YteiekaboepdaeaaDoor.RP
