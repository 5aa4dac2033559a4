/-
  DERIVED. GIVEN WITH THE SEED: THE CARDS: each row of YteiekaboepdaeaaDoorRows.lean that lists a variable, with what it lists TIED to the program's text (the seventh form; the later family's looks); each row that meets fmt, with fmt's text TOLD by the authors' own Lean function (tested against real Go, not proved from fmt's source: count such statements apart). THE CARD IS WHAT COUNTS. Prove the row's statement (the work); the ties are given (YteiekaboepdaeaaDoorTie.lean); close each card by the builder's one call (the guide's Derived/Test/ToyasCard.lean, 'card_holds'). Laid BY PROGRAM, IN A SANDBOX (cutbox-door.mjs). By AI agents, Wed Nov 11 2026. No macro, syntax, notation, axiom, sorry.
-/
import Derived.Test.YteiekaboepdaeaaDoorRows
import GoSem.ClaimSeven
namespace Go.Proofs.YteiekaboepdaeaaDoor
namespace Rows

/-- THE TIED CARD OF 'spigotlaw41.RingRanks'. -/
def ringRanksCard : Claim7 := { stood := { row := ringRanksRow, standIns := [], harness := (true, "8aa55244782011b1d84a555cdd4f7e2fc8fb2df07216ccc4b20c23d1463ea284"), looks := false }, kinds := [], alts := [], laidByText := true, laidKinds := [.data, .data], laidTests := true, laidLooks := .later }
def RingRanksCardSaid : Prop := Claim7.holds Tryd.pinned (.plain (OpenSpec.ofChange ringRanksSpec)) ringRanksCard

/-- THE TIED CARD OF 'spigotlaw41.RingRank'. -/
def ringRankCard : Claim7 := { stood := { row := ringRankRow, standIns := [], harness := (true, "8aa55244782011b1d84a555cdd4f7e2fc8fb2df07216ccc4b20c23d1463ea284"), looks := false }, kinds := [], alts := [], laidByText := true, laidKinds := [.data, .data], laidTests := true, laidLooks := .later }
def RingRankCardSaid : Prop := Claim7.holds Tryd.pinned (.plain (OpenSpec.ofChange ringRankSpec)) ringRankCard

/-- THE TIED CARD OF 'spigotlaw41.RingLoads'. -/
def ringLoadsCard : Claim7 := { stood := { row := ringLoadsRow, standIns := [], harness := (true, "8aa55244782011b1d84a555cdd4f7e2fc8fb2df07216ccc4b20c23d1463ea284"), looks := false }, kinds := [], alts := [], laidByText := true, laidKinds := [.data, .data], laidTests := true, laidLooks := .later }
def RingLoadsCardSaid : Prop := Claim7.holds Tryd.pinned (.plain (OpenSpec.ofChange ringLoadsSpec)) ringLoadsCard

/-- THE TIED CARD OF 'spigotlaw41.RingLists'. -/
def ringListsCard : Claim7 := { stood := { row := ringListsRow, standIns := [], harness := (true, "8aa55244782011b1d84a555cdd4f7e2fc8fb2df07216ccc4b20c23d1463ea284"), looks := false }, kinds := [], alts := [], laidByText := true, laidKinds := [.data, .data], laidTests := true, laidLooks := .later }
def RingListsCardSaid : Prop := Claim7.holds Tryd.pinned (.plain (OpenSpec.ofChange ringListsSpec)) ringListsCard

/-- THE TIED CARD OF 'spigotlaw41.RingNames'. -/
def ringNamesCard : Claim7 := { stood := { row := ringNamesRow, standIns := [], harness := (true, "8aa55244782011b1d84a555cdd4f7e2fc8fb2df07216ccc4b20c23d1463ea284"), looks := false }, kinds := [], alts := [], laidByText := true, laidKinds := [.data, .data], laidTests := true, laidLooks := .later }
def RingNamesCardSaid : Prop := Claim7.holds Tryd.pinned (.plain (OpenSpec.ofChange ringNamesSpec)) ringNamesCard

/-- THE TIED CARD OF 'spigotlaw41.RingFew'. -/
def ringFewCard : Claim7 := { stood := { row := ringFewRow, standIns := [], harness := (true, "8aa55244782011b1d84a555cdd4f7e2fc8fb2df07216ccc4b20c23d1463ea284"), looks := false }, kinds := [], alts := [], laidByText := true, laidKinds := [.data, .data], laidTests := true, laidLooks := .later }
def RingFewCardSaid : Prop := Claim7.holds Tryd.pinned (.plain (OpenSpec.ofChange ringFewSpec)) ringFewCard

/-- THE SECOND FORM's CARD OF 'spigotlaw41.RingRanks'. -/
def ringRanksUptoCard : Claim7 := { stood := { row := ringRanksUptoRow, standIns := [], harness := (true, "8aa55244782011b1d84a555cdd4f7e2fc8fb2df07216ccc4b20c23d1463ea284"), looks := false }, kinds := [], alts := [], laidByText := true, laidKinds := [.data, .data], laidTests := true, laidLooks := .later }
def RingRanksUptoCardSaid : Prop := Claim7.holds Tryd.pinned (.plain (OpenSpec.upto ringRanksSpec)) ringRanksUptoCard

/-- THE SECOND FORM's CARD OF 'spigotlaw41.RingRank'. -/
def ringRankUptoCard : Claim7 := { stood := { row := ringRankUptoRow, standIns := [], harness := (true, "8aa55244782011b1d84a555cdd4f7e2fc8fb2df07216ccc4b20c23d1463ea284"), looks := false }, kinds := [], alts := [], laidByText := true, laidKinds := [.data, .data], laidTests := true, laidLooks := .later }
def RingRankUptoCardSaid : Prop := Claim7.holds Tryd.pinned (.plain (OpenSpec.upto ringRankSpec)) ringRankUptoCard

/-- THE SECOND FORM's CARD OF 'spigotlaw41.RingLoads'. -/
def ringLoadsUptoCard : Claim7 := { stood := { row := ringLoadsUptoRow, standIns := [], harness := (true, "8aa55244782011b1d84a555cdd4f7e2fc8fb2df07216ccc4b20c23d1463ea284"), looks := false }, kinds := [], alts := [], laidByText := true, laidKinds := [.data, .data], laidTests := true, laidLooks := .later }
def RingLoadsUptoCardSaid : Prop := Claim7.holds Tryd.pinned (.plain (OpenSpec.upto ringLoadsSpec)) ringLoadsUptoCard

/-- THE SECOND FORM's CARD OF 'spigotlaw41.RingLists'. -/
def ringListsUptoCard : Claim7 := { stood := { row := ringListsUptoRow, standIns := [], harness := (true, "8aa55244782011b1d84a555cdd4f7e2fc8fb2df07216ccc4b20c23d1463ea284"), looks := false }, kinds := [], alts := [], laidByText := true, laidKinds := [.data, .data], laidTests := true, laidLooks := .later }
def RingListsUptoCardSaid : Prop := Claim7.holds Tryd.pinned (.plain (OpenSpec.upto ringListsSpec)) ringListsUptoCard

/-- THE SECOND FORM's CARD OF 'spigotlaw41.RingNames'. -/
def ringNamesUptoCard : Claim7 := { stood := { row := ringNamesUptoRow, standIns := [], harness := (true, "8aa55244782011b1d84a555cdd4f7e2fc8fb2df07216ccc4b20c23d1463ea284"), looks := false }, kinds := [], alts := [], laidByText := true, laidKinds := [.data, .data], laidTests := true, laidLooks := .later }
def RingNamesUptoCardSaid : Prop := Claim7.holds Tryd.pinned (.plain (OpenSpec.upto ringNamesSpec)) ringNamesUptoCard

/-- THE SECOND FORM's CARD OF 'spigotlaw41.RingFew'. -/
def ringFewUptoCard : Claim7 := { stood := { row := ringFewUptoRow, standIns := [], harness := (true, "8aa55244782011b1d84a555cdd4f7e2fc8fb2df07216ccc4b20c23d1463ea284"), looks := false }, kinds := [], alts := [], laidByText := true, laidKinds := [.data, .data], laidTests := true, laidLooks := .later }
def RingFewUptoCardSaid : Prop := Claim7.holds Tryd.pinned (.plain (OpenSpec.upto ringFewSpec)) ringFewUptoCard
end Rows
end Go.Proofs.YteiekaboepdaeaaDoor
