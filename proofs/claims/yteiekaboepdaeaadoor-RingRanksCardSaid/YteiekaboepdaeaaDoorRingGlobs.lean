/- What the row's listed tables are in memory; facts that all laws of this seat share. -/
import Derived.Test.YteiekaboepdaeaaDoorRows
import Derived.Test.YteiekaboepdaeaaDoorPM31
import Derived.Test.YteiekaboepdaeaaDoorZpm
import Derived.LaidMore
import GoSem.ClaimSeven
namespace Go.Proofs.YteiekaboepdaeaaDoor.PM
set_option linter.unusedSimpArgs false
set_option linter.unusedVariables false
open Go Go.Proofs Go.ChangeShapes Go.WideShapes Go.ChangeAt Go.RowKit
theorem own : ownKnob Tryd.prog.godebug = none := by kernel_rfl
theorem laidOut : laidOutB Tryd.prog = true := by kernel_rfl
theorem stand_none {P : Program} {fn : Func} (h : fn.params.toList.all (fun t => !P.wantsStandIn t) = true) : ∀ (j : Nat) t, fn.params[j]? = some t → P.wantsStandIn t = false := fun j t ht => by
  have := List.all_eq_true.1 h t (by rw [← Array.getElem?_toList] at ht; exact List.mem_of_getElem? ht)
  simpa using this
theorem glob_at {W : World} {n : String} {g t : Nat} {cs : Array Value} {m : Nat} {ik : IntKind} {fuel : Nat} {p : List MemPlace} {ns : List Int} {d : DataW Unit} (hg : Tryd.prog.globalNamed n = some g) (hv : W.var? Tryd.prog n = some cs)
    (hd : DataW.trod (fun _ => ()) Tryd.prog W 0 (fun _ => true) false fuel t cs.toList = some (d, p)) (ht : tyB Tryd.prog (.arr m (.int ik)) t = true) (hn : ns.length = m) (he : d = .agg (ns.map fun x => .lit (.int ik x))) :
    Here W g ∧ At W ⟨g, 0, none⟩ cs.toList ∧ TRel (Here W) W (.arr m (.int ik)) cs.toList ns := by
  subst he
  refine ⟨?_, fun j v hj => ?_, glob_rel ht hn hd⟩
  · simp only [World.var?, hg, Option.bind_some] at hv
    split at hv
    · rename_i ho; exact heap_lt ho
    · cases hv
  · rw [add_at, Nat.zero_add, World.var?_cell hg hv j]
    simpa using hj
theorem globs_ok {W : World} (h : laidMetH Tryd.prog [("spigot/sha.constants", Rows.laid_spigot_sha_constants), ("spigot/sha.first", Rows.laid_spigot_sha_first)] W) : GlOk globs (Here W) W := by
  rw [MakeChecks.laidMetH_plain _ _ _ (by kernel_rfl)] at h
  obtain ⟨ps, ⟨g, t, cs, fuel, p, q, hg, ht, hv, hd, ⟨g2, t2, cs2, fuel2, p2, q2, hg2, ht2, hv2, hd2, _⟩, _⟩, _⟩ := h
  obtain rfl : 2 = g := Option.some.inj ((show Tryd.prog.globalNamed "spigot/sha.constants" = some 2 by kernel_rfl).symm.trans hg)
  obtain rfl : 0 = g2 := Option.some.inj ((show Tryd.prog.globalNamed "spigot/sha.first" = some 0 by kernel_rfl).symm.trans hg2)
  obtain rfl : 100 = t := Option.some.inj ((show (Tryd.prog.globals[2]?).map (·.type) = some 100 by kernel_rfl).symm.trans ht)
  obtain rfl : 79 = t2 := Option.some.inj ((show (Tryd.prog.globals[0]?).map (·.type) = some 79 by kernel_rfl).symm.trans ht2)
  have r1 := glob_at (m := 64) (ik := .u32) (ns := glob2) hg hv hd (by kernel_rfl) (by kernel_rfl) rfl
  have r2 := glob_at (m := 8) (ik := .u32) (ns := glob0) hg2 hv2 hd2 (by kernel_rfl) (by kernel_rfl) rfl
  intro n x e
  unfold globs at e
  rw [look_cons] at e
  split at e
  · rename_i hn; subst hn
    injection e with e; subst e
    exact ⟨_, _, _, rfl, r2.1, r2.2.1, r2.2.2⟩
  · rw [look_cons] at e
    split at e
    · rename_i hn; subst hn
      injection e with e; subst e
      exact ⟨_, _, _, rfl, r1.1, r1.2.1, r1.2.2⟩
    · cases e
end Go.Proofs.YteiekaboepdaeaaDoor.PM
