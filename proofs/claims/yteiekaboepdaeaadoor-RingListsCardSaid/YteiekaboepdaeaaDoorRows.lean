/-
  NARROWER THAN 'FOR EVERY INPUT', by the rows' own cells (each row's printed sentence says how): RingRanks: laid · RingRank: laid · RingLoads: laid · RingLists: laid · RingNames: laid · RingFew: laid.
  DERIVED. THE GIVEN ROWS OF THIS SEAT. 6 by the template 'for every input the law returns true; each argument reads behind the call as it read before'; 0 by the template 'total and deterministic' (their statements: YteiekaboepdaeaaDoorTotals.lean).
  GIVEN WITH THE SEED: the statements are not yours to turn. If you find one false, say at which input.
  Laid BY PROGRAM, IN A SANDBOX (cutbox-rows.mjs): the forced cells as the released guide's own fill.sh prints them over the translation d7e1205f5ae37504… (all of the seat's roots in one cut). By AI agents, Wed Nov 11 2026. No macro, syntax, notation, axiom, sorry.
-/
import Derived.Test.YteiekaboepdaeaaDoorChecked
import GoSem.Claim
import GoSem.ClaimJoined
import GoSem.ClaimMapViews
import Derived.JoinedTies
import Derived.KernelRfl
namespace Go.Proofs.YteiekaboepdaeaaDoor
/- THE CELL 'sum', in the pinned program and in every row, IS THE sha256 OF THE DUMP (.gsa) THAT YteiekaboepdaeaaDoorProg.lean LOADS. Nothing in Lean hashes anything: it is a label: what it is worth is what the hold of that sum in a sandbox is worth. -/
noncomputable def Tryd.pinned : Pinned := { name := "yteiekaboepdaeaadoor", sum := "d7e1205f5ae37504f2fca97fdfe0d777fb150649c2b29f4ce6e127744feef2e1", checked := Tryd.checked }
namespace Rows
def none {H : Type} : Left H := { results := [], args := [] }

/- WHAT THE LISTED PACKAGE-LEVEL VARIABLES READ AS WHEN THE CALL BEGINS. Each datum BY PROGRAM (the guide's laid-datum.mjs) off the statement by which the dump's own 'gosem.cut.vars' lays the variable. In a bare row this is a premise. The card (YteiekaboepdaeaaDoorCards.lean) ties it to the program's text. -/
def laid_spigot_sha_constants {H : Type} : DataW H := .agg [.lit (.int .u32 1116352408), .lit (.int .u32 1899447441), .lit (.int .u32 3049323471), .lit (.int .u32 3921009573), .lit (.int .u32 961987163), .lit (.int .u32 1508970993), .lit (.int .u32 2453635748), .lit (.int .u32 2870763221), .lit (.int .u32 3624381080), .lit (.int .u32 310598401), .lit (.int .u32 607225278), .lit (.int .u32 1426881987), .lit (.int .u32 1925078388), .lit (.int .u32 2162078206), .lit (.int .u32 2614888103), .lit (.int .u32 3248222580), .lit (.int .u32 3835390401), .lit (.int .u32 4022224774), .lit (.int .u32 264347078), .lit (.int .u32 604807628), .lit (.int .u32 770255983), .lit (.int .u32 1249150122), .lit (.int .u32 1555081692), .lit (.int .u32 1996064986), .lit (.int .u32 2554220882), .lit (.int .u32 2821834349), .lit (.int .u32 2952996808), .lit (.int .u32 3210313671), .lit (.int .u32 3336571891), .lit (.int .u32 3584528711), .lit (.int .u32 113926993), .lit (.int .u32 338241895), .lit (.int .u32 666307205), .lit (.int .u32 773529912), .lit (.int .u32 1294757372), .lit (.int .u32 1396182291), .lit (.int .u32 1695183700), .lit (.int .u32 1986661051), .lit (.int .u32 2177026350), .lit (.int .u32 2456956037), .lit (.int .u32 2730485921), .lit (.int .u32 2820302411), .lit (.int .u32 3259730800), .lit (.int .u32 3345764771), .lit (.int .u32 3516065817), .lit (.int .u32 3600352804), .lit (.int .u32 4094571909), .lit (.int .u32 275423344), .lit (.int .u32 430227734), .lit (.int .u32 506948616), .lit (.int .u32 659060556), .lit (.int .u32 883997877), .lit (.int .u32 958139571), .lit (.int .u32 1322822218), .lit (.int .u32 1537002063), .lit (.int .u32 1747873779), .lit (.int .u32 1955562222), .lit (.int .u32 2024104815), .lit (.int .u32 2227730452), .lit (.int .u32 2361852424), .lit (.int .u32 2428436474), .lit (.int .u32 2756734187), .lit (.int .u32 3204031479), .lit (.int .u32 3329325298)]
def laid_spigot_sha_first {H : Type} : DataW H := .agg [.lit (.int .u32 1779033703), .lit (.int .u32 3144134277), .lit (.int .u32 1013904242), .lit (.int .u32 2773480762), .lit (.int .u32 1359893119), .lit (.int .u32 2600822924), .lit (.int .u32 528734635), .lit (.int .u32 1541459225)]

/-- 'spigotlaw41.RingRanks': WHATEVER THE INPUT: true; the input reads as it did. -/
def ringRanksSpec : ChangeSpec := { name := "ringRanks", fn := fun _ => fun
  | [d1, d2, d3] => { results := [.lit (.bool true)], args := [d1, d2, d3] }
  | _ => none }
def ringRanksRow : OpenClaim := { program := "yteiekaboepdaeaadoor", sum := "d7e1205f5ae37504f2fca97fdfe0d777fb150649c2b29f4ce6e127744feef2e1", func := "spigot/spigotlaw41.RingRanks", spec := "ringRanks", inPlace := ["internal/bytealg.Compare"], unfollowed := true, recurses := true, named := ["spigot/sha.first", "spigot/sha.constants"], apart := false, laid := [("spigot/sha.constants", laid_spigot_sha_constants), ("spigot/sha.first", laid_spigot_sha_first)] }
def RingRanksSaid : Prop := ringRanksRow.holds Tryd.pinned (OpenSpec.ofChange ringRanksSpec)

/-- ITS FALSE NEIGHBOUR: 'it returns false'. Refute it at one input. -/
def ringRanksWrong : ChangeSpec := { name := "ringRanks", fn := fun _ => fun
  | [d1, d2, d3] => { results := [.lit (.bool false)], args := [d1, d2, d3] }
  | _ => none }
def RingRanksWrongFalsely : Prop := ringRanksRow.holds Tryd.pinned (OpenSpec.ofChange ringRanksWrong)

/-- 'spigotlaw41.RingRank': WHATEVER THE INPUT: true; the input reads as it did. -/
def ringRankSpec : ChangeSpec := { name := "ringRank", fn := fun _ => fun
  | [d1, d2, d3] => { results := [.lit (.bool true)], args := [d1, d2, d3] }
  | _ => none }
def ringRankRow : OpenClaim := { program := "yteiekaboepdaeaadoor", sum := "d7e1205f5ae37504f2fca97fdfe0d777fb150649c2b29f4ce6e127744feef2e1", func := "spigot/spigotlaw41.RingRank", spec := "ringRank", inPlace := ["internal/bytealg.Compare", "slices.overlaps[uint32]"], unfollowed := true, recurses := true, named := ["spigot/sha.first", "spigot/sha.constants"], apart := false, laid := [("spigot/sha.constants", laid_spigot_sha_constants), ("spigot/sha.first", laid_spigot_sha_first)] }
def RingRankSaid : Prop := ringRankRow.holds Tryd.pinned (OpenSpec.ofChange ringRankSpec)

/-- ITS FALSE NEIGHBOUR: 'it returns false'. Refute it at one input. -/
def ringRankWrong : ChangeSpec := { name := "ringRank", fn := fun _ => fun
  | [d1, d2, d3] => { results := [.lit (.bool false)], args := [d1, d2, d3] }
  | _ => none }
def RingRankWrongFalsely : Prop := ringRankRow.holds Tryd.pinned (OpenSpec.ofChange ringRankWrong)

/-- 'spigotlaw41.RingLoads': WHATEVER THE INPUT: true; the input reads as it did. -/
def ringLoadsSpec : ChangeSpec := { name := "ringLoads", fn := fun _ => fun
  | [d1, d2, d3] => { results := [.lit (.bool true)], args := [d1, d2, d3] }
  | _ => none }
def ringLoadsRow : OpenClaim := { program := "yteiekaboepdaeaadoor", sum := "d7e1205f5ae37504f2fca97fdfe0d777fb150649c2b29f4ce6e127744feef2e1", func := "spigot/spigotlaw41.RingLoads", spec := "ringLoads", inPlace := ["internal/bytealg.Compare", "slices.overlaps[uint32]"], unfollowed := true, recurses := true, named := ["spigot/sha.first", "spigot/sha.constants"], apart := false, laid := [("spigot/sha.constants", laid_spigot_sha_constants), ("spigot/sha.first", laid_spigot_sha_first)] }
def RingLoadsSaid : Prop := ringLoadsRow.holds Tryd.pinned (OpenSpec.ofChange ringLoadsSpec)

/-- ITS FALSE NEIGHBOUR: 'it returns false'. Refute it at one input. -/
def ringLoadsWrong : ChangeSpec := { name := "ringLoads", fn := fun _ => fun
  | [d1, d2, d3] => { results := [.lit (.bool false)], args := [d1, d2, d3] }
  | _ => none }
def RingLoadsWrongFalsely : Prop := ringLoadsRow.holds Tryd.pinned (OpenSpec.ofChange ringLoadsWrong)

/-- 'spigotlaw41.RingLists': WHATEVER THE INPUT: true; the input reads as it did. -/
def ringListsSpec : ChangeSpec := { name := "ringLists", fn := fun _ => fun
  | [d1, d2, d3, d4] => { results := [.lit (.bool true)], args := [d1, d2, d3, d4] }
  | _ => none }
def ringListsRow : OpenClaim := { program := "yteiekaboepdaeaadoor", sum := "d7e1205f5ae37504f2fca97fdfe0d777fb150649c2b29f4ce6e127744feef2e1", func := "spigot/spigotlaw41.RingLists", spec := "ringLists", inPlace := ["slices.overlaps[uint32]", "internal/bytealg.Compare"], unfollowed := true, recurses := true, named := ["spigot/sha.first", "spigot/sha.constants"], apart := false, laid := [("spigot/sha.constants", laid_spigot_sha_constants), ("spigot/sha.first", laid_spigot_sha_first)] }
def RingListsSaid : Prop := ringListsRow.holds Tryd.pinned (OpenSpec.ofChange ringListsSpec)

/-- ITS FALSE NEIGHBOUR: 'it returns false'. Refute it at one input. -/
def ringListsWrong : ChangeSpec := { name := "ringLists", fn := fun _ => fun
  | [d1, d2, d3, d4] => { results := [.lit (.bool false)], args := [d1, d2, d3, d4] }
  | _ => none }
def RingListsWrongFalsely : Prop := ringListsRow.holds Tryd.pinned (OpenSpec.ofChange ringListsWrong)

/-- 'spigotlaw41.RingNames': WHATEVER THE INPUT: true; the input reads as it did. -/
def ringNamesSpec : ChangeSpec := { name := "ringNames", fn := fun _ => fun
  | [] => { results := [.lit (.bool true)], args := [] }
  | _ => none }
def ringNamesRow : OpenClaim := { program := "yteiekaboepdaeaadoor", sum := "d7e1205f5ae37504f2fca97fdfe0d777fb150649c2b29f4ce6e127744feef2e1", func := "spigot/spigotlaw41.RingNames", spec := "ringNames", inPlace := ["internal/bytealg.Compare", "slices.overlaps[uint32]"], unfollowed := true, recurses := true, named := ["spigot/sha.first", "spigot/sha.constants"], apart := false, laid := [("spigot/sha.constants", laid_spigot_sha_constants), ("spigot/sha.first", laid_spigot_sha_first)] }
def RingNamesSaid : Prop := ringNamesRow.holds Tryd.pinned (OpenSpec.ofChange ringNamesSpec)

/-- ITS FALSE NEIGHBOUR: 'it returns false'. Refute it at one input. -/
def ringNamesWrong : ChangeSpec := { name := "ringNames", fn := fun _ => fun
  | [] => { results := [.lit (.bool false)], args := [] }
  | _ => none }
def RingNamesWrongFalsely : Prop := ringNamesRow.holds Tryd.pinned (OpenSpec.ofChange ringNamesWrong)

/-- 'spigotlaw41.RingFew': WHATEVER THE INPUT: true; the input reads as it did. -/
def ringFewSpec : ChangeSpec := { name := "ringFew", fn := fun _ => fun
  | [d1, d2, d3] => { results := [.lit (.bool true)], args := [d1, d2, d3] }
  | _ => none }
def ringFewRow : OpenClaim := { program := "yteiekaboepdaeaadoor", sum := "d7e1205f5ae37504f2fca97fdfe0d777fb150649c2b29f4ce6e127744feef2e1", func := "spigot/spigotlaw41.RingFew", spec := "ringFew", inPlace := ["internal/bytealg.Compare", "slices.overlaps[uint32]"], unfollowed := true, recurses := true, named := ["spigot/sha.first", "spigot/sha.constants"], apart := false, laid := [("spigot/sha.constants", laid_spigot_sha_constants), ("spigot/sha.first", laid_spigot_sha_first)] }
def RingFewSaid : Prop := ringFewRow.holds Tryd.pinned (OpenSpec.ofChange ringFewSpec)

/-- ITS FALSE NEIGHBOUR: 'it returns false'. Refute it at one input. -/
def ringFewWrong : ChangeSpec := { name := "ringFew", fn := fun _ => fun
  | [d1, d2, d3] => { results := [.lit (.bool false)], args := [d1, d2, d3] }
  | _ => none }
def RingFewWrongFalsely : Prop := ringFewRow.holds Tryd.pinned (OpenSpec.ofChange ringFewWrong)

/- THE SECOND FORM. 'bulk': how many values and letters a reading holds, each counted each time it is reached (what is shared counts as often as it is met; a slice's spare places count too). A statement '..UptoSaid' is the law's where the arguments, and the package variables that the reading takes, are together of bulk at most 1048576: NARROWER than '..Said'. Prove '..Said' where nothing that the law and all that it calls make is longer than what came in: it says more and counts as full. Else prove '..UptoSaid'. A law counts once. -/
mutual
def uptoBulk {H : Type} : DataW H → Nat
  | .lit (.string bytes) => bytes.length + 1
  | .lit _ => 1
  | .nil => 1
  | .ptr d => uptoBulk d + 1
  | .slice elems spare => uptoBulkAll elems + uptoBulkAll spare + 1
  | .agg parts => uptoBulkAll parts + 1
  | .iface _ d => uptoBulk d + 1
  | .map entries => uptoBulkEntries entries + 1
  | .held _ => 1
def uptoBulkAll {H : Type} : List (DataW H) → Nat
  | [] => 0
  | d :: r => uptoBulk d + uptoBulkAll r
def uptoBulkEntries {H : Type} : List (Lit × DataW H) → Nat
  | [] => 0
  | x :: r => uptoBulkEntry x + uptoBulkEntries r
def uptoBulkEntry {H : Type} : Lit × DataW H → Nat
  | (.string bytes, d) => bytes.length + uptoBulk d + 1
  | (_, d) => uptoBulk d + 1
 end
def uptoSmall : (H : Type) → List (DataW H) → Bool := fun _ ds => decide (uptoBulkAll ds ≤ 1048576)
def OpenSpec.upto (s : _root_.Go.ChangeSpec) : _root_.Go.OpenSpec := { _root_.Go.OpenSpec.ofChange s with cond := some uptoSmall }

/-- 'spigotlaw41.RingRanks', WHERE WHAT IT READS IS OF BULK AT MOST 1048576: true; the input reads as it did. -/
def ringRanksUptoRow : OpenClaim := { program := "yteiekaboepdaeaadoor", sum := "d7e1205f5ae37504f2fca97fdfe0d777fb150649c2b29f4ce6e127744feef2e1", func := "spigot/spigotlaw41.RingRanks", spec := "ringRanks", inPlace := ["internal/bytealg.Compare"], unfollowed := true, recurses := true, named := ["spigot/sha.first", "spigot/sha.constants"], apart := false, laid := [("spigot/sha.constants", laid_spigot_sha_constants), ("spigot/sha.first", laid_spigot_sha_first)], narrowed := true }
def RingRanksUptoSaid : Prop := ringRanksUptoRow.holds Tryd.pinned (OpenSpec.upto ringRanksSpec)

/-- 'spigotlaw41.RingRank', WHERE WHAT IT READS IS OF BULK AT MOST 1048576: true; the input reads as it did. -/
def ringRankUptoRow : OpenClaim := { program := "yteiekaboepdaeaadoor", sum := "d7e1205f5ae37504f2fca97fdfe0d777fb150649c2b29f4ce6e127744feef2e1", func := "spigot/spigotlaw41.RingRank", spec := "ringRank", inPlace := ["internal/bytealg.Compare", "slices.overlaps[uint32]"], unfollowed := true, recurses := true, named := ["spigot/sha.first", "spigot/sha.constants"], apart := false, laid := [("spigot/sha.constants", laid_spigot_sha_constants), ("spigot/sha.first", laid_spigot_sha_first)], narrowed := true }
def RingRankUptoSaid : Prop := ringRankUptoRow.holds Tryd.pinned (OpenSpec.upto ringRankSpec)

/-- 'spigotlaw41.RingLoads', WHERE WHAT IT READS IS OF BULK AT MOST 1048576: true; the input reads as it did. -/
def ringLoadsUptoRow : OpenClaim := { program := "yteiekaboepdaeaadoor", sum := "d7e1205f5ae37504f2fca97fdfe0d777fb150649c2b29f4ce6e127744feef2e1", func := "spigot/spigotlaw41.RingLoads", spec := "ringLoads", inPlace := ["internal/bytealg.Compare", "slices.overlaps[uint32]"], unfollowed := true, recurses := true, named := ["spigot/sha.first", "spigot/sha.constants"], apart := false, laid := [("spigot/sha.constants", laid_spigot_sha_constants), ("spigot/sha.first", laid_spigot_sha_first)], narrowed := true }
def RingLoadsUptoSaid : Prop := ringLoadsUptoRow.holds Tryd.pinned (OpenSpec.upto ringLoadsSpec)

/-- 'spigotlaw41.RingLists', WHERE WHAT IT READS IS OF BULK AT MOST 1048576: true; the input reads as it did. -/
def ringListsUptoRow : OpenClaim := { program := "yteiekaboepdaeaadoor", sum := "d7e1205f5ae37504f2fca97fdfe0d777fb150649c2b29f4ce6e127744feef2e1", func := "spigot/spigotlaw41.RingLists", spec := "ringLists", inPlace := ["slices.overlaps[uint32]", "internal/bytealg.Compare"], unfollowed := true, recurses := true, named := ["spigot/sha.first", "spigot/sha.constants"], apart := false, laid := [("spigot/sha.constants", laid_spigot_sha_constants), ("spigot/sha.first", laid_spigot_sha_first)], narrowed := true }
def RingListsUptoSaid : Prop := ringListsUptoRow.holds Tryd.pinned (OpenSpec.upto ringListsSpec)

/-- 'spigotlaw41.RingNames', WHERE WHAT IT READS IS OF BULK AT MOST 1048576: true; the input reads as it did. -/
def ringNamesUptoRow : OpenClaim := { program := "yteiekaboepdaeaadoor", sum := "d7e1205f5ae37504f2fca97fdfe0d777fb150649c2b29f4ce6e127744feef2e1", func := "spigot/spigotlaw41.RingNames", spec := "ringNames", inPlace := ["internal/bytealg.Compare", "slices.overlaps[uint32]"], unfollowed := true, recurses := true, named := ["spigot/sha.first", "spigot/sha.constants"], apart := false, laid := [("spigot/sha.constants", laid_spigot_sha_constants), ("spigot/sha.first", laid_spigot_sha_first)], narrowed := true }
def RingNamesUptoSaid : Prop := ringNamesUptoRow.holds Tryd.pinned (OpenSpec.upto ringNamesSpec)

/-- 'spigotlaw41.RingFew', WHERE WHAT IT READS IS OF BULK AT MOST 1048576: true; the input reads as it did. -/
def ringFewUptoRow : OpenClaim := { program := "yteiekaboepdaeaadoor", sum := "d7e1205f5ae37504f2fca97fdfe0d777fb150649c2b29f4ce6e127744feef2e1", func := "spigot/spigotlaw41.RingFew", spec := "ringFew", inPlace := ["internal/bytealg.Compare", "slices.overlaps[uint32]"], unfollowed := true, recurses := true, named := ["spigot/sha.first", "spigot/sha.constants"], apart := false, laid := [("spigot/sha.constants", laid_spigot_sha_constants), ("spigot/sha.first", laid_spigot_sha_first)], narrowed := true }
def RingFewUptoSaid : Prop := ringFewUptoRow.holds Tryd.pinned (OpenSpec.upto ringFewSpec)

end Rows
end Go.Proofs.YteiekaboepdaeaaDoor
