/- The statement RingRanks (its tied card): for every input that reads as data the law returns true, and its arguments read as before; the listed tables read as the program's text lays them. -/
import Derived.Test.YteiekaboepdaeaaDoorCards
import Derived.Test.YteiekaboepdaeaaDoorTie
import Derived.Test.YteiekaboepdaeaaDoorRingGlobs
import Derived.Test.YteiekaboepdaeaaDoorPureRingRanks
import Derived.LaidMore
import Derived.Lay
import Derived.SevenTiedAt
import Derived.Stop.Joined
namespace Go.Proofs.YteiekaboepdaeaaDoor.ringRanks
open Go Go.ChangeShapes Go.WideShapes Go.ChangeAt Go.RowKit Go.Proofs.YteiekaboepdaeaaDoor.PM
set_option maxRecDepth 100000 in
theorem lifted (os : Os) (started : os.Started) (H : Type) (enc : TypeId × Value → H) :
    ReturnsInHanded {} Tryd.checked os 3 .any (fun w args => (Rows.ringRanksSpec.pre enc Tryd.prog Tryd.f3 Rows.ringRanksRow.domain false w args ∧ laidMetH Tryd.prog Rows.ringRanksRow.laid w) ∧ sizedMet enc Tryd.prog Tryd.f3 (OpenSpec.ofChange Rows.ringRanksSpec) false w args)
      (Rows.ringRanksSpec.post enc Tryd.prog Tryd.f3 false true false false) := by
  refine law_lifted_and (C := Tryd.checked) (X := fun w _ => laidMetH Tryd.prog Rows.ringRanksRow.laid w) (fun _ _ _ hh h => h.of_heap hh) own started (by kernel_rfl) Tryd.func3
    (ChangeSpec.witness_shaped (enc := enc) (C := Tryd.checked) (os := os) (X := fun w _ => laidMetH Tryd.prog Rows.ringRanksRow.laid w) false (World.laidAll Tryd.prog os Rows.ringRanksRow.laid) #[.slice none 0 0, .int .u32 0, .int .u32 0] 8 (World.laidAll_os _ _ _)
      (World.shaped_of_ZipB (by kernel_rfl) (by kernel_rfl)) (by kernel_rfl) (by kernel_rfl) (by kernel_rfl)
      (by rw [MakeChecks.laidMetH_plain _ _ _ (by kernel_rfl)]; exact laidMet_laidAll _ (by kernel_rfl) (by kernel_rfl)))
    rfl (fun ds h => by
      match ds, h with
      | [a, b, c], _ => exact ⟨rfl, rfl, rfl⟩) rfl Tryd.underlying4 (by kernel_rfl) laidOut (by kernel_rfl) spigotlaw41_RingRanks.spec (fun W _ h => globs_ok h) ?_
  intro x hx
  have hp := Pure.ringRanks x hx
  dsimp only [spigotlaw41_RingRanks.Fn, fnOf] at hp
  exact ⟨(true, ()), hp, fun _ _ _ _ _ h => out_bool h⟩
theorem over : Rows.RingRanksSaid :=
  OpenClaim.holds_of_wide 3 Tryd.f3 rfl rfl rfl rfl rfl rfl rfl ⟨rfl, rfl, rfl, rfl, rfl⟩ rfl rfl rfl rfl rfl (by kernel_rfl) Tryd.func3 (by kernel_rfl)
    (of_decide_eq_true (by kernel_rfl)) (by unfold Func.isWrapper; first | (rw [if_pos (by decide +kernel)]; kernel_rfl) | (rw [if_neg (by decide +kernel)]; exact ⟨rfl, rfl⟩))
    (fun os started H enc _ => lifted os started H enc)
theorem proved : Rows.RingRanksCardSaid :=
  Claim7.holds_tied_plain_at .later [] [.data, .data] true (true, "8aa55244782011b1d84a555cdd4f7e2fc8fb2df07216ccc4b20c23d1463ea284") false
    over (fun _ h => by cases h) (by kernel_rfl) (fun _ h => by cases h) ringRanks_row_tie rfl ⟨rfl, rfl⟩ (by kernel_rfl) rfl
    (fun f fn hf hfn => by
      obtain rfl : 3 = f := Option.some.inj ((show Tryd.prog.funcNamed "spigot/spigotlaw41.RingRanks" = some 3 by kernel_rfl).symm.trans hf)
      obtain rfl : Tryd.f3 = fn := Option.some.inj (Tryd.func3.symm.trans hfn)
      exact ⟨by kernel_rfl, stand_none (by kernel_rfl)⟩)
    (by kernel_rfl)
#print axioms proved
end Go.Proofs.YteiekaboepdaeaaDoor.ringRanks
namespace Go.Proofs.YteiekaboepdaeaaDoor
/-- The card, under a short name, for the claim. -/
theorem ringRanks_holds : Rows.RingRanksCardSaid := ringRanks.proved
end Go.Proofs.YteiekaboepdaeaaDoor
