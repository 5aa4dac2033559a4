/-
  No cell of these rows narrows 'for every input' (looked for: loops, veiled, ifaces, maps, wideKeys, modest, calm, conditions, laid).
  DERIVED. THE GIVEN ROWS OF THIS SEAT. 11 by the template 'for every input the law returns true; each argument reads behind the call as it read before'; 0 by the template 'total and deterministic' (their statements: YtlgfopdindklnaaTotals.lean).
  GIVEN WITH THE SEED: the statements are not yours to turn. If you find one false, say at which input.
  Laid BY PROGRAM, IN A SANDBOX (cutbox-rows.mjs): the forced cells as the released guide's own fill.sh prints them over the translation 5f0d604802a271ba… (all of the seat's roots in one cut). By AI agents, Wed Nov 11 2026. No macro, syntax, notation, axiom, sorry.
-/
import Derived.Test.YtlgfopdindklnaaChecked
import GoSem.Claim
import GoSem.ClaimJoined
import GoSem.ClaimMapViews
import Derived.JoinedTies
import Derived.KernelRfl
namespace Go.Proofs.Ytlgfopdindklnaa
/- THE CELL 'sum', in the pinned program and in every row, IS THE sha256 OF THE DUMP (.gsa) THAT YtlgfopdindklnaaProg.lean LOADS. Nothing in Lean hashes anything: it is a label: what it is worth is what the hold of that sum in a sandbox is worth. -/
noncomputable def Try.pinned : Pinned := { name := "ytlgfopdindklnaa", sum := "5f0d604802a271bab87a1a94c4183700cc11921f17bc109a10d9e173acd49876", checked := Try.checked }
namespace Rows
def none {H : Type} : Left H := { results := [], args := [] }

/-- 'spigotlaw14.ProbeFinds': WHATEVER THE INPUT: true; the input reads as it did. -/
def probeFindsSpec : ChangeSpec := { name := "probeFinds", fn := fun _ => fun
  | [d1, d2] => { results := [.lit (.bool true)], args := [d1, d2] }
  | _ => none }
def probeFindsRow : OpenClaim := { program := "ytlgfopdindklnaa", sum := "5f0d604802a271bab87a1a94c4183700cc11921f17bc109a10d9e173acd49876", func := "spigot/spigotlaw14.ProbeFinds", spec := "probeFinds", apart := false }
def ProbeFindsSaid : Prop := probeFindsRow.holds Try.pinned (OpenSpec.ofChange probeFindsSpec)

/-- ITS FALSE NEIGHBOUR: 'it returns false'. Refute it at one input. -/
def probeFindsWrong : ChangeSpec := { name := "probeFinds", fn := fun _ => fun
  | [d1, d2] => { results := [.lit (.bool false)], args := [d1, d2] }
  | _ => none }
def ProbeFindsWrongFalsely : Prop := probeFindsRow.holds Try.pinned (OpenSpec.ofChange probeFindsWrong)

/-- 'spigotlaw13.ArenaBack': WHATEVER THE INPUT: true; the input reads as it did. -/
def arenaBackSpec : ChangeSpec := { name := "arenaBack", fn := fun _ => fun
  | [d1, d2] => { results := [.lit (.bool true)], args := [d1, d2] }
  | _ => none }
def arenaBackRow : OpenClaim := { program := "ytlgfopdindklnaa", sum := "5f0d604802a271bab87a1a94c4183700cc11921f17bc109a10d9e173acd49876", func := "spigot/spigotlaw13.ArenaBack", spec := "arenaBack", apart := false }
def ArenaBackSaid : Prop := arenaBackRow.holds Try.pinned (OpenSpec.ofChange arenaBackSpec)

/-- ITS FALSE NEIGHBOUR: 'it returns false'. Refute it at one input. -/
def arenaBackWrong : ChangeSpec := { name := "arenaBack", fn := fun _ => fun
  | [d1, d2] => { results := [.lit (.bool false)], args := [d1, d2] }
  | _ => none }
def ArenaBackWrongFalsely : Prop := arenaBackRow.holds Try.pinned (OpenSpec.ofChange arenaBackWrong)

/-- 'spigotlaw13.ArenaOrder': WHATEVER THE INPUT: true; the input reads as it did. -/
def arenaOrderSpec : ChangeSpec := { name := "arenaOrder", fn := fun _ => fun
  | [d] => { results := [.lit (.bool true)], args := [d] }
  | _ => none }
def arenaOrderRow : OpenClaim := { program := "ytlgfopdindklnaa", sum := "5f0d604802a271bab87a1a94c4183700cc11921f17bc109a10d9e173acd49876", func := "spigot/spigotlaw13.ArenaOrder", spec := "arenaOrder", apart := false }
def ArenaOrderSaid : Prop := arenaOrderRow.holds Try.pinned (OpenSpec.ofChange arenaOrderSpec)

/-- ITS FALSE NEIGHBOUR: 'it returns false'. Refute it at one input. -/
def arenaOrderWrong : ChangeSpec := { name := "arenaOrder", fn := fun _ => fun
  | [d] => { results := [.lit (.bool false)], args := [d] }
  | _ => none }
def ArenaOrderWrongFalsely : Prop := arenaOrderRow.holds Try.pinned (OpenSpec.ofChange arenaOrderWrong)

/-- 'spigotlaw13.ArenaDoes': WHATEVER THE INPUT: true; the input reads as it did. -/
def arenaDoesSpec : ChangeSpec := { name := "arenaDoes", fn := fun _ => fun
  | [d1, d2, d3] => { results := [.lit (.bool true)], args := [d1, d2, d3] }
  | _ => none }
def arenaDoesRow : OpenClaim := { program := "ytlgfopdindklnaa", sum := "5f0d604802a271bab87a1a94c4183700cc11921f17bc109a10d9e173acd49876", func := "spigot/spigotlaw13.ArenaDoes", spec := "arenaDoes", apart := false }
def ArenaDoesSaid : Prop := arenaDoesRow.holds Try.pinned (OpenSpec.ofChange arenaDoesSpec)

/-- ITS FALSE NEIGHBOUR: 'it returns false'. Refute it at one input. -/
def arenaDoesWrong : ChangeSpec := { name := "arenaDoes", fn := fun _ => fun
  | [d1, d2, d3] => { results := [.lit (.bool false)], args := [d1, d2, d3] }
  | _ => none }
def ArenaDoesWrongFalsely : Prop := arenaDoesRow.holds Try.pinned (OpenSpec.ofChange arenaDoesWrong)

/-- 'spigotlaw13.ArenaNames': WHATEVER THE INPUT: true; the input reads as it did. -/
def arenaNamesSpec : ChangeSpec := { name := "arenaNames", fn := fun _ => fun
  | [] => { results := [.lit (.bool true)], args := [] }
  | _ => none }
def arenaNamesRow : OpenClaim := { program := "ytlgfopdindklnaa", sum := "5f0d604802a271bab87a1a94c4183700cc11921f17bc109a10d9e173acd49876", func := "spigot/spigotlaw13.ArenaNames", spec := "arenaNames", apart := false }
def ArenaNamesSaid : Prop := arenaNamesRow.holds Try.pinned (OpenSpec.ofChange arenaNamesSpec)

/-- ITS FALSE NEIGHBOUR: 'it returns false'. Refute it at one input. -/
def arenaNamesWrong : ChangeSpec := { name := "arenaNames", fn := fun _ => fun
  | [] => { results := [.lit (.bool false)], args := [] }
  | _ => none }
def ArenaNamesWrongFalsely : Prop := arenaNamesRow.holds Try.pinned (OpenSpec.ofChange arenaNamesWrong)

/-- 'spigotlaw13.ArenaWhole': WHATEVER THE INPUT: true; the input reads as it did. -/
def arenaWholeSpec : ChangeSpec := { name := "arenaWhole", fn := fun _ => fun
  | [d1, d2] => { results := [.lit (.bool true)], args := [d1, d2] }
  | _ => none }
def arenaWholeRow : OpenClaim := { program := "ytlgfopdindklnaa", sum := "5f0d604802a271bab87a1a94c4183700cc11921f17bc109a10d9e173acd49876", func := "spigot/spigotlaw13.ArenaWhole", spec := "arenaWhole", apart := false }
def ArenaWholeSaid : Prop := arenaWholeRow.holds Try.pinned (OpenSpec.ofChange arenaWholeSpec)

/-- ITS FALSE NEIGHBOUR: 'it returns false'. Refute it at one input. -/
def arenaWholeWrong : ChangeSpec := { name := "arenaWhole", fn := fun _ => fun
  | [d1, d2] => { results := [.lit (.bool false)], args := [d1, d2] }
  | _ => none }
def ArenaWholeWrongFalsely : Prop := arenaWholeRow.holds Try.pinned (OpenSpec.ofChange arenaWholeWrong)

/-- 'spigotlaw14.ProbeMoves': WHATEVER THE INPUT: true; the input reads as it did. -/
def probeMovesSpec : ChangeSpec := { name := "probeMoves", fn := fun _ => fun
  | [d1, d2, d3] => { results := [.lit (.bool true)], args := [d1, d2, d3] }
  | _ => none }
def probeMovesRow : OpenClaim := { program := "ytlgfopdindklnaa", sum := "5f0d604802a271bab87a1a94c4183700cc11921f17bc109a10d9e173acd49876", func := "spigot/spigotlaw14.ProbeMoves", spec := "probeMoves", apart := false }
def ProbeMovesSaid : Prop := probeMovesRow.holds Try.pinned (OpenSpec.ofChange probeMovesSpec)

/-- ITS FALSE NEIGHBOUR: 'it returns false'. Refute it at one input. -/
def probeMovesWrong : ChangeSpec := { name := "probeMoves", fn := fun _ => fun
  | [d1, d2, d3] => { results := [.lit (.bool false)], args := [d1, d2, d3] }
  | _ => none }
def ProbeMovesWrongFalsely : Prop := probeMovesRow.holds Try.pinned (OpenSpec.ofChange probeMovesWrong)

/-- 'spigotlaw14.ProbeNames': WHATEVER THE INPUT: true; the input reads as it did. -/
def probeNamesSpec : ChangeSpec := { name := "probeNames", fn := fun _ => fun
  | [] => { results := [.lit (.bool true)], args := [] }
  | _ => none }
def probeNamesRow : OpenClaim := { program := "ytlgfopdindklnaa", sum := "5f0d604802a271bab87a1a94c4183700cc11921f17bc109a10d9e173acd49876", func := "spigot/spigotlaw14.ProbeNames", spec := "probeNames", apart := false }
def ProbeNamesSaid : Prop := probeNamesRow.holds Try.pinned (OpenSpec.ofChange probeNamesSpec)

/-- ITS FALSE NEIGHBOUR: 'it returns false'. Refute it at one input. -/
def probeNamesWrong : ChangeSpec := { name := "probeNames", fn := fun _ => fun
  | [] => { results := [.lit (.bool false)], args := [] }
  | _ => none }
def ProbeNamesWrongFalsely : Prop := probeNamesRow.holds Try.pinned (OpenSpec.ofChange probeNamesWrong)

/-- 'spigotlaw14.ProbeExact': WHATEVER THE INPUT: true; the input reads as it did. -/
def probeExactSpec : ChangeSpec := { name := "probeExact", fn := fun _ => fun
  | [d1, d2] => { results := [.lit (.bool true)], args := [d1, d2] }
  | _ => none }
def probeExactRow : OpenClaim := { program := "ytlgfopdindklnaa", sum := "5f0d604802a271bab87a1a94c4183700cc11921f17bc109a10d9e173acd49876", func := "spigot/spigotlaw14.ProbeExact", spec := "probeExact", apart := false }
def ProbeExactSaid : Prop := probeExactRow.holds Try.pinned (OpenSpec.ofChange probeExactSpec)

/-- ITS FALSE NEIGHBOUR: 'it returns false'. Refute it at one input. -/
def probeExactWrong : ChangeSpec := { name := "probeExact", fn := fun _ => fun
  | [d1, d2] => { results := [.lit (.bool false)], args := [d1, d2] }
  | _ => none }
def ProbeExactWrongFalsely : Prop := probeExactRow.holds Try.pinned (OpenSpec.ofChange probeExactWrong)

/-- 'spigotlaw14.ProbeSteps': WHATEVER THE INPUT: true; the input reads as it did. -/
def probeStepsSpec : ChangeSpec := { name := "probeSteps", fn := fun _ => fun
  | [d1, d2] => { results := [.lit (.bool true)], args := [d1, d2] }
  | _ => none }
def probeStepsRow : OpenClaim := { program := "ytlgfopdindklnaa", sum := "5f0d604802a271bab87a1a94c4183700cc11921f17bc109a10d9e173acd49876", func := "spigot/spigotlaw14.ProbeSteps", spec := "probeSteps", apart := false }
def ProbeStepsSaid : Prop := probeStepsRow.holds Try.pinned (OpenSpec.ofChange probeStepsSpec)

/-- ITS FALSE NEIGHBOUR: 'it returns false'. Refute it at one input. -/
def probeStepsWrong : ChangeSpec := { name := "probeSteps", fn := fun _ => fun
  | [d1, d2] => { results := [.lit (.bool false)], args := [d1, d2] }
  | _ => none }
def ProbeStepsWrongFalsely : Prop := probeStepsRow.holds Try.pinned (OpenSpec.ofChange probeStepsWrong)

/-- 'spigotlaw14.ProbeBack': WHATEVER THE INPUT: true; the input reads as it did. -/
def probeBackSpec : ChangeSpec := { name := "probeBack", fn := fun _ => fun
  | [d1, d2, d3, d4] => { results := [.lit (.bool true)], args := [d1, d2, d3, d4] }
  | _ => none }
def probeBackRow : OpenClaim := { program := "ytlgfopdindklnaa", sum := "5f0d604802a271bab87a1a94c4183700cc11921f17bc109a10d9e173acd49876", func := "spigot/spigotlaw14.ProbeBack", spec := "probeBack", apart := false }
def ProbeBackSaid : Prop := probeBackRow.holds Try.pinned (OpenSpec.ofChange probeBackSpec)

/-- ITS FALSE NEIGHBOUR: 'it returns false'. Refute it at one input. -/
def probeBackWrong : ChangeSpec := { name := "probeBack", fn := fun _ => fun
  | [d1, d2, d3, d4] => { results := [.lit (.bool false)], args := [d1, d2, d3, d4] }
  | _ => none }
def ProbeBackWrongFalsely : Prop := probeBackRow.holds Try.pinned (OpenSpec.ofChange probeBackWrong)

/- THE SECOND FORM. 'bulk': how many values and letters a reading holds, each counted each time it is reached (what is shared counts as often as it is met; a slice's spare places count too). A statement '..UptoSaid' is the law's where the arguments, and the package variables that the reading takes, are together of bulk at most 1048576: NARROWER than '..Said'. Prove '..Said' where nothing that the law and all that it calls make is longer than what came in: it says more and counts as full. Else prove '..UptoSaid'. A law counts once. -/
mutual
def uptoBulk {H : Type} : DataW H → Nat
  | .lit (.string bytes) => bytes.length + 1
  | .lit _ => 1
  | .nil => 1
  | .ptr d => uptoBulk d + 1
  | .slice elems spare => uptoBulkAll elems + uptoBulkAll spare + 1
  | .agg parts => uptoBulkAll parts + 1
  | .iface _ d => uptoBulk d + 1
  | .map entries => uptoBulkEntries entries + 1
  | .held _ => 1
def uptoBulkAll {H : Type} : List (DataW H) → Nat
  | [] => 0
  | d :: r => uptoBulk d + uptoBulkAll r
def uptoBulkEntries {H : Type} : List (Lit × DataW H) → Nat
  | [] => 0
  | x :: r => uptoBulkEntry x + uptoBulkEntries r
def uptoBulkEntry {H : Type} : Lit × DataW H → Nat
  | (.string bytes, d) => bytes.length + uptoBulk d + 1
  | (_, d) => uptoBulk d + 1
 end
def uptoSmall : (H : Type) → List (DataW H) → Bool := fun _ ds => decide (uptoBulkAll ds ≤ 1048576)
def OpenSpec.upto (s : _root_.Go.ChangeSpec) : _root_.Go.OpenSpec := { _root_.Go.OpenSpec.ofChange s with cond := some uptoSmall }

/-- 'spigotlaw14.ProbeFinds', WHERE WHAT IT READS IS OF BULK AT MOST 1048576: true; the input reads as it did. -/
def probeFindsUptoRow : OpenClaim := { program := "ytlgfopdindklnaa", sum := "5f0d604802a271bab87a1a94c4183700cc11921f17bc109a10d9e173acd49876", func := "spigot/spigotlaw14.ProbeFinds", spec := "probeFinds", apart := false, narrowed := true }
def ProbeFindsUptoSaid : Prop := probeFindsUptoRow.holds Try.pinned (OpenSpec.upto probeFindsSpec)

/-- 'spigotlaw13.ArenaBack', WHERE WHAT IT READS IS OF BULK AT MOST 1048576: true; the input reads as it did. -/
def arenaBackUptoRow : OpenClaim := { program := "ytlgfopdindklnaa", sum := "5f0d604802a271bab87a1a94c4183700cc11921f17bc109a10d9e173acd49876", func := "spigot/spigotlaw13.ArenaBack", spec := "arenaBack", apart := false, narrowed := true }
def ArenaBackUptoSaid : Prop := arenaBackUptoRow.holds Try.pinned (OpenSpec.upto arenaBackSpec)

/-- 'spigotlaw13.ArenaOrder', WHERE WHAT IT READS IS OF BULK AT MOST 1048576: true; the input reads as it did. -/
def arenaOrderUptoRow : OpenClaim := { program := "ytlgfopdindklnaa", sum := "5f0d604802a271bab87a1a94c4183700cc11921f17bc109a10d9e173acd49876", func := "spigot/spigotlaw13.ArenaOrder", spec := "arenaOrder", apart := false, narrowed := true }
def ArenaOrderUptoSaid : Prop := arenaOrderUptoRow.holds Try.pinned (OpenSpec.upto arenaOrderSpec)

/-- 'spigotlaw13.ArenaDoes', WHERE WHAT IT READS IS OF BULK AT MOST 1048576: true; the input reads as it did. -/
def arenaDoesUptoRow : OpenClaim := { program := "ytlgfopdindklnaa", sum := "5f0d604802a271bab87a1a94c4183700cc11921f17bc109a10d9e173acd49876", func := "spigot/spigotlaw13.ArenaDoes", spec := "arenaDoes", apart := false, narrowed := true }
def ArenaDoesUptoSaid : Prop := arenaDoesUptoRow.holds Try.pinned (OpenSpec.upto arenaDoesSpec)

/-- 'spigotlaw13.ArenaNames', WHERE WHAT IT READS IS OF BULK AT MOST 1048576: true; the input reads as it did. -/
def arenaNamesUptoRow : OpenClaim := { program := "ytlgfopdindklnaa", sum := "5f0d604802a271bab87a1a94c4183700cc11921f17bc109a10d9e173acd49876", func := "spigot/spigotlaw13.ArenaNames", spec := "arenaNames", apart := false, narrowed := true }
def ArenaNamesUptoSaid : Prop := arenaNamesUptoRow.holds Try.pinned (OpenSpec.upto arenaNamesSpec)

/-- 'spigotlaw13.ArenaWhole', WHERE WHAT IT READS IS OF BULK AT MOST 1048576: true; the input reads as it did. -/
def arenaWholeUptoRow : OpenClaim := { program := "ytlgfopdindklnaa", sum := "5f0d604802a271bab87a1a94c4183700cc11921f17bc109a10d9e173acd49876", func := "spigot/spigotlaw13.ArenaWhole", spec := "arenaWhole", apart := false, narrowed := true }
def ArenaWholeUptoSaid : Prop := arenaWholeUptoRow.holds Try.pinned (OpenSpec.upto arenaWholeSpec)

/-- 'spigotlaw14.ProbeMoves', WHERE WHAT IT READS IS OF BULK AT MOST 1048576: true; the input reads as it did. -/
def probeMovesUptoRow : OpenClaim := { program := "ytlgfopdindklnaa", sum := "5f0d604802a271bab87a1a94c4183700cc11921f17bc109a10d9e173acd49876", func := "spigot/spigotlaw14.ProbeMoves", spec := "probeMoves", apart := false, narrowed := true }
def ProbeMovesUptoSaid : Prop := probeMovesUptoRow.holds Try.pinned (OpenSpec.upto probeMovesSpec)

/-- 'spigotlaw14.ProbeNames', WHERE WHAT IT READS IS OF BULK AT MOST 1048576: true; the input reads as it did. -/
def probeNamesUptoRow : OpenClaim := { program := "ytlgfopdindklnaa", sum := "5f0d604802a271bab87a1a94c4183700cc11921f17bc109a10d9e173acd49876", func := "spigot/spigotlaw14.ProbeNames", spec := "probeNames", apart := false, narrowed := true }
def ProbeNamesUptoSaid : Prop := probeNamesUptoRow.holds Try.pinned (OpenSpec.upto probeNamesSpec)

/-- 'spigotlaw14.ProbeExact', WHERE WHAT IT READS IS OF BULK AT MOST 1048576: true; the input reads as it did. -/
def probeExactUptoRow : OpenClaim := { program := "ytlgfopdindklnaa", sum := "5f0d604802a271bab87a1a94c4183700cc11921f17bc109a10d9e173acd49876", func := "spigot/spigotlaw14.ProbeExact", spec := "probeExact", apart := false, narrowed := true }
def ProbeExactUptoSaid : Prop := probeExactUptoRow.holds Try.pinned (OpenSpec.upto probeExactSpec)

/-- 'spigotlaw14.ProbeSteps', WHERE WHAT IT READS IS OF BULK AT MOST 1048576: true; the input reads as it did. -/
def probeStepsUptoRow : OpenClaim := { program := "ytlgfopdindklnaa", sum := "5f0d604802a271bab87a1a94c4183700cc11921f17bc109a10d9e173acd49876", func := "spigot/spigotlaw14.ProbeSteps", spec := "probeSteps", apart := false, narrowed := true }
def ProbeStepsUptoSaid : Prop := probeStepsUptoRow.holds Try.pinned (OpenSpec.upto probeStepsSpec)

/-- 'spigotlaw14.ProbeBack', WHERE WHAT IT READS IS OF BULK AT MOST 1048576: true; the input reads as it did. -/
def probeBackUptoRow : OpenClaim := { program := "ytlgfopdindklnaa", sum := "5f0d604802a271bab87a1a94c4183700cc11921f17bc109a10d9e173acd49876", func := "spigot/spigotlaw14.ProbeBack", spec := "probeBack", apart := false, narrowed := true }
def ProbeBackUptoSaid : Prop := probeBackUptoRow.holds Try.pinned (OpenSpec.upto probeBackSpec)

end Rows
end Go.Proofs.Ytlgfopdindklnaa
