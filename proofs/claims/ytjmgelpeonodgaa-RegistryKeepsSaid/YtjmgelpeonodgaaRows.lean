/-
  No cell of these rows narrows 'for every input' (looked for: loops, veiled, ifaces, maps, wideKeys, modest, calm, conditions, laid).
  DERIVED. THE GIVEN ROWS OF THIS SEAT. 5 by the template 'for every input the law returns true; each argument reads behind the call as it read before'; 0 by the template 'total and deterministic' (their statements: YtjmgelpeonodgaaTotals.lean).
  GIVEN WITH THE SEED: the statements are not yours to turn. If you find one false, say at which input.
  Laid BY PROGRAM, IN A SANDBOX (cutbox-rows.mjs): the forced cells as the released guide's own fill.sh prints them over the translation c0f9832636535592… (all of the seat's roots in one cut). By AI agents, Wed Nov 11 2026. No macro, syntax, notation, axiom, sorry.
-/
import Derived.Test.YtjmgelpeonodgaaChecked
import GoSem.Claim
import GoSem.ClaimJoined
import GoSem.ClaimMapViews
import Derived.JoinedTies
import Derived.KernelRfl
namespace Go.Proofs.Ytjmgelpeonodgaa
/- THE CELL 'sum', in the pinned program and in every row, IS THE sha256 OF THE DUMP (.gsa) THAT YtjmgelpeonodgaaProg.lean LOADS. Nothing in Lean hashes anything: it is a label: what it is worth is what the hold of that sum in a sandbox is worth. -/
noncomputable def Try.pinned : Pinned := { name := "ytjmgelpeonodgaa", sum := "c0f98326365355921e4220bc57f9183003d8e4bdfcbbc21e7d754e4a8d20bb03", checked := Try.checked }
namespace Rows
def none {H : Type} : Left H := { results := [], args := [] }

/-- 'spigotlaw19.RegistryKeeps': WHATEVER THE INPUT: true; the input reads as it did. -/
def registryKeepsSpec : ChangeSpec := { name := "registryKeeps", fn := fun _ => fun
  | [d] => { results := [.lit (.bool true)], args := [d] }
  | _ => none }
def registryKeepsRow : OpenClaim := { program := "ytjmgelpeonodgaa", sum := "c0f98326365355921e4220bc57f9183003d8e4bdfcbbc21e7d754e4a8d20bb03", func := "spigot/spigotlaw19.RegistryKeeps", spec := "registryKeeps", inPlace := ["slices.overlaps[spigot/api.Part]"], unfollowed := true, recurses := true, apart := false }
def RegistryKeepsSaid : Prop := registryKeepsRow.holds Try.pinned (OpenSpec.ofChange registryKeepsSpec)

/-- ITS FALSE NEIGHBOUR: 'it returns false'. Refute it at one input. -/
def registryKeepsWrong : ChangeSpec := { name := "registryKeeps", fn := fun _ => fun
  | [d] => { results := [.lit (.bool false)], args := [d] }
  | _ => none }
def RegistryKeepsWrongFalsely : Prop := registryKeepsRow.holds Try.pinned (OpenSpec.ofChange registryKeepsWrong)

/-- 'spigotlaw19.RegistryDoes': WHATEVER THE INPUT: true; the input reads as it did. -/
def registryDoesSpec : ChangeSpec := { name := "registryDoes", fn := fun _ => fun
  | [d1, d2, d3] => { results := [.lit (.bool true)], args := [d1, d2, d3] }
  | _ => none }
def registryDoesRow : OpenClaim := { program := "ytjmgelpeonodgaa", sum := "c0f98326365355921e4220bc57f9183003d8e4bdfcbbc21e7d754e4a8d20bb03", func := "spigot/spigotlaw19.RegistryDoes", spec := "registryDoes", inPlace := ["slices.overlaps[spigot/api.Part]"], unfollowed := true, recurses := true, apart := false }
def RegistryDoesSaid : Prop := registryDoesRow.holds Try.pinned (OpenSpec.ofChange registryDoesSpec)

/-- ITS FALSE NEIGHBOUR: 'it returns false'. Refute it at one input. -/
def registryDoesWrong : ChangeSpec := { name := "registryDoes", fn := fun _ => fun
  | [d1, d2, d3] => { results := [.lit (.bool false)], args := [d1, d2, d3] }
  | _ => none }
def RegistryDoesWrongFalsely : Prop := registryDoesRow.holds Try.pinned (OpenSpec.ofChange registryDoesWrong)

/-- 'spigotlaw19.RegistryNames': WHATEVER THE INPUT: true; the input reads as it did. -/
def registryNamesSpec : ChangeSpec := { name := "registryNames", fn := fun _ => fun
  | [] => { results := [.lit (.bool true)], args := [] }
  | _ => none }
def registryNamesRow : OpenClaim := { program := "ytjmgelpeonodgaa", sum := "c0f98326365355921e4220bc57f9183003d8e4bdfcbbc21e7d754e4a8d20bb03", func := "spigot/spigotlaw19.RegistryNames", spec := "registryNames", inPlace := ["slices.overlaps[spigot/api.Part]"], unfollowed := true, recurses := true, apart := false }
def RegistryNamesSaid : Prop := registryNamesRow.holds Try.pinned (OpenSpec.ofChange registryNamesSpec)

/-- ITS FALSE NEIGHBOUR: 'it returns false'. Refute it at one input. -/
def registryNamesWrong : ChangeSpec := { name := "registryNames", fn := fun _ => fun
  | [] => { results := [.lit (.bool false)], args := [] }
  | _ => none }
def RegistryNamesWrongFalsely : Prop := registryNamesRow.holds Try.pinned (OpenSpec.ofChange registryNamesWrong)

/-- 'spigotlaw19.RegistryBack': WHATEVER THE INPUT: true; the input reads as it did. -/
def registryBackSpec : ChangeSpec := { name := "registryBack", fn := fun _ => fun
  | [d1, d2] => { results := [.lit (.bool true)], args := [d1, d2] }
  | _ => none }
def registryBackRow : OpenClaim := { program := "ytjmgelpeonodgaa", sum := "c0f98326365355921e4220bc57f9183003d8e4bdfcbbc21e7d754e4a8d20bb03", func := "spigot/spigotlaw19.RegistryBack", spec := "registryBack", inPlace := ["slices.overlaps[spigot/api.Part]"], unfollowed := true, recurses := true, apart := false }
def RegistryBackSaid : Prop := registryBackRow.holds Try.pinned (OpenSpec.ofChange registryBackSpec)

/-- ITS FALSE NEIGHBOUR: 'it returns false'. Refute it at one input. -/
def registryBackWrong : ChangeSpec := { name := "registryBack", fn := fun _ => fun
  | [d1, d2] => { results := [.lit (.bool false)], args := [d1, d2] }
  | _ => none }
def RegistryBackWrongFalsely : Prop := registryBackRow.holds Try.pinned (OpenSpec.ofChange registryBackWrong)

/-- 'spigotlaw19.RegistryReplaces': WHATEVER THE INPUT: true; the input reads as it did. -/
def registryReplacesSpec : ChangeSpec := { name := "registryReplaces", fn := fun _ => fun
  | [d1, d2, d3] => { results := [.lit (.bool true)], args := [d1, d2, d3] }
  | _ => none }
def registryReplacesRow : OpenClaim := { program := "ytjmgelpeonodgaa", sum := "c0f98326365355921e4220bc57f9183003d8e4bdfcbbc21e7d754e4a8d20bb03", func := "spigot/spigotlaw19.RegistryReplaces", spec := "registryReplaces", inPlace := ["slices.overlaps[spigot/api.Part]"], unfollowed := true, recurses := true, apart := false }
def RegistryReplacesSaid : Prop := registryReplacesRow.holds Try.pinned (OpenSpec.ofChange registryReplacesSpec)

/-- ITS FALSE NEIGHBOUR: 'it returns false'. Refute it at one input. -/
def registryReplacesWrong : ChangeSpec := { name := "registryReplaces", fn := fun _ => fun
  | [d1, d2, d3] => { results := [.lit (.bool false)], args := [d1, d2, d3] }
  | _ => none }
def RegistryReplacesWrongFalsely : Prop := registryReplacesRow.holds Try.pinned (OpenSpec.ofChange registryReplacesWrong)

/- THE SECOND FORM. 'bulk': how many values and letters a reading holds, each counted each time it is reached (what is shared counts as often as it is met; a slice's spare places count too). A statement '..UptoSaid' is the law's where the arguments, and the package variables that the reading takes, are together of bulk at most 1048576: NARROWER than '..Said'. Prove '..Said' where nothing that the law and all that it calls make is longer than what came in: it says more and counts as full. Else prove '..UptoSaid'. A law counts once. -/
mutual
def uptoBulk {H : Type} : DataW H → Nat
  | .lit (.string bytes) => bytes.length + 1
  | .lit _ => 1
  | .nil => 1
  | .ptr d => uptoBulk d + 1
  | .slice elems spare => uptoBulkAll elems + uptoBulkAll spare + 1
  | .agg parts => uptoBulkAll parts + 1
  | .iface _ d => uptoBulk d + 1
  | .map entries => uptoBulkEntries entries + 1
  | .held _ => 1
def uptoBulkAll {H : Type} : List (DataW H) → Nat
  | [] => 0
  | d :: r => uptoBulk d + uptoBulkAll r
def uptoBulkEntries {H : Type} : List (Lit × DataW H) → Nat
  | [] => 0
  | x :: r => uptoBulkEntry x + uptoBulkEntries r
def uptoBulkEntry {H : Type} : Lit × DataW H → Nat
  | (.string bytes, d) => bytes.length + uptoBulk d + 1
  | (_, d) => uptoBulk d + 1
 end
def uptoSmall : (H : Type) → List (DataW H) → Bool := fun _ ds => decide (uptoBulkAll ds ≤ 1048576)
def OpenSpec.upto (s : _root_.Go.ChangeSpec) : _root_.Go.OpenSpec := { _root_.Go.OpenSpec.ofChange s with cond := some uptoSmall }

/-- 'spigotlaw19.RegistryKeeps', WHERE WHAT IT READS IS OF BULK AT MOST 1048576: true; the input reads as it did. -/
def registryKeepsUptoRow : OpenClaim := { program := "ytjmgelpeonodgaa", sum := "c0f98326365355921e4220bc57f9183003d8e4bdfcbbc21e7d754e4a8d20bb03", func := "spigot/spigotlaw19.RegistryKeeps", spec := "registryKeeps", inPlace := ["slices.overlaps[spigot/api.Part]"], unfollowed := true, recurses := true, apart := false, narrowed := true }
def RegistryKeepsUptoSaid : Prop := registryKeepsUptoRow.holds Try.pinned (OpenSpec.upto registryKeepsSpec)

/-- 'spigotlaw19.RegistryDoes', WHERE WHAT IT READS IS OF BULK AT MOST 1048576: true; the input reads as it did. -/
def registryDoesUptoRow : OpenClaim := { program := "ytjmgelpeonodgaa", sum := "c0f98326365355921e4220bc57f9183003d8e4bdfcbbc21e7d754e4a8d20bb03", func := "spigot/spigotlaw19.RegistryDoes", spec := "registryDoes", inPlace := ["slices.overlaps[spigot/api.Part]"], unfollowed := true, recurses := true, apart := false, narrowed := true }
def RegistryDoesUptoSaid : Prop := registryDoesUptoRow.holds Try.pinned (OpenSpec.upto registryDoesSpec)

/-- 'spigotlaw19.RegistryNames', WHERE WHAT IT READS IS OF BULK AT MOST 1048576: true; the input reads as it did. -/
def registryNamesUptoRow : OpenClaim := { program := "ytjmgelpeonodgaa", sum := "c0f98326365355921e4220bc57f9183003d8e4bdfcbbc21e7d754e4a8d20bb03", func := "spigot/spigotlaw19.RegistryNames", spec := "registryNames", inPlace := ["slices.overlaps[spigot/api.Part]"], unfollowed := true, recurses := true, apart := false, narrowed := true }
def RegistryNamesUptoSaid : Prop := registryNamesUptoRow.holds Try.pinned (OpenSpec.upto registryNamesSpec)

/-- 'spigotlaw19.RegistryBack', WHERE WHAT IT READS IS OF BULK AT MOST 1048576: true; the input reads as it did. -/
def registryBackUptoRow : OpenClaim := { program := "ytjmgelpeonodgaa", sum := "c0f98326365355921e4220bc57f9183003d8e4bdfcbbc21e7d754e4a8d20bb03", func := "spigot/spigotlaw19.RegistryBack", spec := "registryBack", inPlace := ["slices.overlaps[spigot/api.Part]"], unfollowed := true, recurses := true, apart := false, narrowed := true }
def RegistryBackUptoSaid : Prop := registryBackUptoRow.holds Try.pinned (OpenSpec.upto registryBackSpec)

/-- 'spigotlaw19.RegistryReplaces', WHERE WHAT IT READS IS OF BULK AT MOST 1048576: true; the input reads as it did. -/
def registryReplacesUptoRow : OpenClaim := { program := "ytjmgelpeonodgaa", sum := "c0f98326365355921e4220bc57f9183003d8e4bdfcbbc21e7d754e4a8d20bb03", func := "spigot/spigotlaw19.RegistryReplaces", spec := "registryReplaces", inPlace := ["slices.overlaps[spigot/api.Part]"], unfollowed := true, recurses := true, apart := false, narrowed := true }
def RegistryReplacesUptoSaid : Prop := registryReplacesUptoRow.holds Try.pinned (OpenSpec.upto registryReplacesSpec)

end Rows
end Go.Proofs.Ytjmgelpeonodgaa
