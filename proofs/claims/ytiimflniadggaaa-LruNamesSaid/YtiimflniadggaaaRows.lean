/-
  No cell of these rows narrows 'for every input' (looked for: loops, veiled, ifaces, maps, wideKeys, modest, calm, conditions, laid).
  DERIVED. THE GIVEN ROWS OF THIS SEAT. 5 by the template 'for every input the law returns true; each argument reads behind the call as it read before'; 0 by the template 'total and deterministic' (their statements: YtiimflniadggaaaTotals.lean).
  GIVEN WITH THE SEED: the statements are not yours to turn. If you find one false, say at which input.
  Laid BY PROGRAM, IN A SANDBOX (cutbox-rows.mjs): the forced cells as the released guide's own fill.sh prints them over the translation 7cdb725c9424f202… (all of the seat's roots in one cut). By AI agents, Wed Nov 11 2026. No macro, syntax, notation, axiom, sorry.
-/
import Derived.Test.YtiimflniadggaaaChecked
import GoSem.Claim
import GoSem.ClaimJoined
import GoSem.ClaimMapViews
import Derived.JoinedTies
import Derived.KernelRfl
namespace Go.Proofs.Ytiimflniadggaaa
/- THE CELL 'sum', in the pinned program and in every row, IS THE sha256 OF THE DUMP (.gsa) THAT YtiimflniadggaaaProg.lean LOADS. Nothing in Lean hashes anything: it is a label: what it is worth is what the hold of that sum in a sandbox is worth. -/
noncomputable def Try.pinned : Pinned := { name := "ytiimflniadggaaa", sum := "7cdb725c9424f2023853826504d230cf2bc2b8f83294f65d99e8e8868a291e19", checked := Try.checked }
namespace Rows
def none {H : Type} : Left H := { results := [], args := [] }

/-- 'spigotlaw15.LruDoes': WHATEVER THE INPUT: true; the input reads as it did. -/
def lruDoesSpec : ChangeSpec := { name := "lruDoes", fn := fun _ => fun
  | [d1, d2, d3] => { results := [.lit (.bool true)], args := [d1, d2, d3] }
  | _ => none }
def lruDoesRow : OpenClaim := { program := "ytiimflniadggaaa", sum := "7cdb725c9424f2023853826504d230cf2bc2b8f83294f65d99e8e8868a291e19", func := "spigot/spigotlaw15.LruDoes", spec := "lruDoes", apart := false }
def LruDoesSaid : Prop := lruDoesRow.holds Try.pinned (OpenSpec.ofChange lruDoesSpec)

/-- ITS FALSE NEIGHBOUR: 'it returns false'. Refute it at one input. -/
def lruDoesWrong : ChangeSpec := { name := "lruDoes", fn := fun _ => fun
  | [d1, d2, d3] => { results := [.lit (.bool false)], args := [d1, d2, d3] }
  | _ => none }
def LruDoesWrongFalsely : Prop := lruDoesRow.holds Try.pinned (OpenSpec.ofChange lruDoesWrong)

/-- 'spigotlaw15.LruNames': WHATEVER THE INPUT: true; the input reads as it did. -/
def lruNamesSpec : ChangeSpec := { name := "lruNames", fn := fun _ => fun
  | [] => { results := [.lit (.bool true)], args := [] }
  | _ => none }
def lruNamesRow : OpenClaim := { program := "ytiimflniadggaaa", sum := "7cdb725c9424f2023853826504d230cf2bc2b8f83294f65d99e8e8868a291e19", func := "spigot/spigotlaw15.LruNames", spec := "lruNames", apart := false }
def LruNamesSaid : Prop := lruNamesRow.holds Try.pinned (OpenSpec.ofChange lruNamesSpec)

/-- ITS FALSE NEIGHBOUR: 'it returns false'. Refute it at one input. -/
def lruNamesWrong : ChangeSpec := { name := "lruNames", fn := fun _ => fun
  | [] => { results := [.lit (.bool false)], args := [] }
  | _ => none }
def LruNamesWrongFalsely : Prop := lruNamesRow.holds Try.pinned (OpenSpec.ofChange lruNamesWrong)

/-- 'spigotlaw15.LruUses': WHATEVER THE INPUT: true; the input reads as it did. -/
def lruUsesSpec : ChangeSpec := { name := "lruUses", fn := fun _ => fun
  | [d1, d2] => { results := [.lit (.bool true)], args := [d1, d2] }
  | _ => none }
def lruUsesRow : OpenClaim := { program := "ytiimflniadggaaa", sum := "7cdb725c9424f2023853826504d230cf2bc2b8f83294f65d99e8e8868a291e19", func := "spigot/spigotlaw15.LruUses", spec := "lruUses", apart := false }
def LruUsesSaid : Prop := lruUsesRow.holds Try.pinned (OpenSpec.ofChange lruUsesSpec)

/-- ITS FALSE NEIGHBOUR: 'it returns false'. Refute it at one input. -/
def lruUsesWrong : ChangeSpec := { name := "lruUses", fn := fun _ => fun
  | [d1, d2] => { results := [.lit (.bool false)], args := [d1, d2] }
  | _ => none }
def LruUsesWrongFalsely : Prop := lruUsesRow.holds Try.pinned (OpenSpec.ofChange lruUsesWrong)

/-- 'spigotlaw15.LruTwice': WHATEVER THE INPUT: true; the input reads as it did. -/
def lruTwiceSpec : ChangeSpec := { name := "lruTwice", fn := fun _ => fun
  | [d1, d2] => { results := [.lit (.bool true)], args := [d1, d2] }
  | _ => none }
def lruTwiceRow : OpenClaim := { program := "ytiimflniadggaaa", sum := "7cdb725c9424f2023853826504d230cf2bc2b8f83294f65d99e8e8868a291e19", func := "spigot/spigotlaw15.LruTwice", spec := "lruTwice", apart := false }
def LruTwiceSaid : Prop := lruTwiceRow.holds Try.pinned (OpenSpec.ofChange lruTwiceSpec)

/-- ITS FALSE NEIGHBOUR: 'it returns false'. Refute it at one input. -/
def lruTwiceWrong : ChangeSpec := { name := "lruTwice", fn := fun _ => fun
  | [d1, d2] => { results := [.lit (.bool false)], args := [d1, d2] }
  | _ => none }
def LruTwiceWrongFalsely : Prop := lruTwiceRow.holds Try.pinned (OpenSpec.ofChange lruTwiceWrong)

/-- 'spigotlaw15.LruRemoves': WHATEVER THE INPUT: true; the input reads as it did. -/
def lruRemovesSpec : ChangeSpec := { name := "lruRemoves", fn := fun _ => fun
  | [d1, d2] => { results := [.lit (.bool true)], args := [d1, d2] }
  | _ => none }
def lruRemovesRow : OpenClaim := { program := "ytiimflniadggaaa", sum := "7cdb725c9424f2023853826504d230cf2bc2b8f83294f65d99e8e8868a291e19", func := "spigot/spigotlaw15.LruRemoves", spec := "lruRemoves", apart := false }
def LruRemovesSaid : Prop := lruRemovesRow.holds Try.pinned (OpenSpec.ofChange lruRemovesSpec)

/-- ITS FALSE NEIGHBOUR: 'it returns false'. Refute it at one input. -/
def lruRemovesWrong : ChangeSpec := { name := "lruRemoves", fn := fun _ => fun
  | [d1, d2] => { results := [.lit (.bool false)], args := [d1, d2] }
  | _ => none }
def LruRemovesWrongFalsely : Prop := lruRemovesRow.holds Try.pinned (OpenSpec.ofChange lruRemovesWrong)

/- THE SECOND FORM. 'bulk': how many values and letters a reading holds, each counted each time it is reached (what is shared counts as often as it is met; a slice's spare places count too). A statement '..UptoSaid' is the law's where the arguments, and the package variables that the reading takes, are together of bulk at most 1048576: NARROWER than '..Said'. Prove '..Said' where nothing that the law and all that it calls make is longer than what came in: it says more and counts as full. Else prove '..UptoSaid'. A law counts once. -/
mutual
def uptoBulk {H : Type} : DataW H → Nat
  | .lit (.string bytes) => bytes.length + 1
  | .lit _ => 1
  | .nil => 1
  | .ptr d => uptoBulk d + 1
  | .slice elems spare => uptoBulkAll elems + uptoBulkAll spare + 1
  | .agg parts => uptoBulkAll parts + 1
  | .iface _ d => uptoBulk d + 1
  | .map entries => uptoBulkEntries entries + 1
  | .held _ => 1
def uptoBulkAll {H : Type} : List (DataW H) → Nat
  | [] => 0
  | d :: r => uptoBulk d + uptoBulkAll r
def uptoBulkEntries {H : Type} : List (Lit × DataW H) → Nat
  | [] => 0
  | x :: r => uptoBulkEntry x + uptoBulkEntries r
def uptoBulkEntry {H : Type} : Lit × DataW H → Nat
  | (.string bytes, d) => bytes.length + uptoBulk d + 1
  | (_, d) => uptoBulk d + 1
 end
def uptoSmall : (H : Type) → List (DataW H) → Bool := fun _ ds => decide (uptoBulkAll ds ≤ 1048576)
def OpenSpec.upto (s : _root_.Go.ChangeSpec) : _root_.Go.OpenSpec := { _root_.Go.OpenSpec.ofChange s with cond := some uptoSmall }

/-- 'spigotlaw15.LruDoes', WHERE WHAT IT READS IS OF BULK AT MOST 1048576: true; the input reads as it did. -/
def lruDoesUptoRow : OpenClaim := { program := "ytiimflniadggaaa", sum := "7cdb725c9424f2023853826504d230cf2bc2b8f83294f65d99e8e8868a291e19", func := "spigot/spigotlaw15.LruDoes", spec := "lruDoes", apart := false, narrowed := true }
def LruDoesUptoSaid : Prop := lruDoesUptoRow.holds Try.pinned (OpenSpec.upto lruDoesSpec)

/-- 'spigotlaw15.LruNames', WHERE WHAT IT READS IS OF BULK AT MOST 1048576: true; the input reads as it did. -/
def lruNamesUptoRow : OpenClaim := { program := "ytiimflniadggaaa", sum := "7cdb725c9424f2023853826504d230cf2bc2b8f83294f65d99e8e8868a291e19", func := "spigot/spigotlaw15.LruNames", spec := "lruNames", apart := false, narrowed := true }
def LruNamesUptoSaid : Prop := lruNamesUptoRow.holds Try.pinned (OpenSpec.upto lruNamesSpec)

/-- 'spigotlaw15.LruUses', WHERE WHAT IT READS IS OF BULK AT MOST 1048576: true; the input reads as it did. -/
def lruUsesUptoRow : OpenClaim := { program := "ytiimflniadggaaa", sum := "7cdb725c9424f2023853826504d230cf2bc2b8f83294f65d99e8e8868a291e19", func := "spigot/spigotlaw15.LruUses", spec := "lruUses", apart := false, narrowed := true }
def LruUsesUptoSaid : Prop := lruUsesUptoRow.holds Try.pinned (OpenSpec.upto lruUsesSpec)

/-- 'spigotlaw15.LruTwice', WHERE WHAT IT READS IS OF BULK AT MOST 1048576: true; the input reads as it did. -/
def lruTwiceUptoRow : OpenClaim := { program := "ytiimflniadggaaa", sum := "7cdb725c9424f2023853826504d230cf2bc2b8f83294f65d99e8e8868a291e19", func := "spigot/spigotlaw15.LruTwice", spec := "lruTwice", apart := false, narrowed := true }
def LruTwiceUptoSaid : Prop := lruTwiceUptoRow.holds Try.pinned (OpenSpec.upto lruTwiceSpec)

/-- 'spigotlaw15.LruRemoves', WHERE WHAT IT READS IS OF BULK AT MOST 1048576: true; the input reads as it did. -/
def lruRemovesUptoRow : OpenClaim := { program := "ytiimflniadggaaa", sum := "7cdb725c9424f2023853826504d230cf2bc2b8f83294f65d99e8e8868a291e19", func := "spigot/spigotlaw15.LruRemoves", spec := "lruRemoves", apart := false, narrowed := true }
def LruRemovesUptoSaid : Prop := lruRemovesUptoRow.holds Try.pinned (OpenSpec.upto lruRemovesSpec)

end Rows
end Go.Proofs.Ytiimflniadggaaa
