/- The law RegistryReplaces in plain words, for all that an argument may hold. -/
import Derived.Test.YtjmgelpeonodgaaRegP6
namespace Go.Proofs.Ytjmgelpeonodgaa.TB
set_option linter.unusedSimpArgs false
set_option linter.unusedVariables false
open Go Go.Proofs Go.Proofs.Ytjmgelpeonodgaa.PM Go.Proofs.Ytjmgelpeonodgaa.RP
theorem replaces_F {l : List t7.den} {p : t7.den} (t : Int) (hw : ∀ q ∈ l, t7.wf q) (hp : t7.wf p) : spigotlaw19_RegistryReplaces.F l p t = some (true, ()) := by
  rw [spigotlaw19_RegistryReplaces.F_eq, alive_f, ob]
  rcases fit_f hw with e | ⟨e, g, hs, w⟩
  · rw [e]; rfl
  rw [e, ob, bnt rfl]
  rcases great18_f p with ⟨sp, e2⟩ | e2
  · have wp := pwf_of hp sp
    rw [e2, ob, bf rfl]
    rcases rpart_says wp with ⟨ok, e3⟩ | ⟨_, e3⟩
    · have H := g.reg w
      have hf : ∀ q ∈ l, fit q := fun q hq => fit_of (hs q hq)
      have hl := g.len
      have cp := (part_says wp).yes ok
      rw [e3, ob, bne_neg rfl, bnt rfl, spigotlaw19_RegistryReplaces.L1_eq]
      rcases Replace_ok H hf cp (fit_of sp) with ⟨c, hc, q, e4⟩ | ⟨n, e4⟩
      · rcases Find_ok H p.1 with ⟨c2, hc2, q2, e5⟩ | ⟨n, _⟩
        · rw [show registry_Replace.F l _ = _ from e4, ob, e5, ob, bne_neg rfl, spigotlaw19_RegistryReplaces.L2_eq, bne_neg rfl, spigotlaw19_RegistryReplaces.L3_eq]
          have g2 := greg_set g ok hc q
          have w2 : ∀ q ∈ l.set c p, PWf q := fun q hq => by
            rcases List.mem_or_eq_of_mem_set hq with h | rfl
            · exact w q h
            · exact wp
          have H2 := g2.reg w2
          have hlen : (l.set c p).length = l.length := List.length_set
          have same : ∀ (k : Nat) (h : k < l.length), ((l.set c p)[k]'(by omega)).1 = (l[k]).1 := fun k h => by
            rw [List.getElem_set]
            by_cases a : c = k
            · subst a; rw [if_pos rfl]; exact q.symm
            · rw [if_neg a]
          have ck : spigotref19_Check.F (l.set c p) = some (0, ()) := by
            rcases check_f w2 (by omega) with ⟨_, _, h⟩ | ⟨n, _⟩
            · exact h
            · exact absurd g2 n
          rcases Find_ok H t with ⟨i, hi, qi, e6⟩ | ⟨n, e6⟩
          · have e7 : registry_Find.F (l.set c p) t = some ((i : Int), 0, ()) := by
              rcases Find_ok H2 t with ⟨j, hj, qj, e7⟩ | ⟨n, _⟩
              · rw [same j (by omega)] at qj
                obtain rfl := reg_uniq H hi (by omega) (qi.trans qj.symm)
                exact e7
              · exact absurd ((same i hi).trans qi) (n _ (List.getElem_mem _))
            rw [e6, ob, e7, ob, bne_neg rfl, bne_neg rfl, hlen, bne_neg rfl, ck, ob, bne_neg rfl, spigotlaw19_RegistryReplaces.L4_eq, bne_neg rfl, bd_neg (by dsimp only; omega), bd_neg (by dsimp only; omega), spigotlaw19_RegistryReplaces.L5_eq]
            by_cases tp : t = p.1
            · have : i = c := reg_uniq H hi hc (by rw [qi, q, tp])
              subst this
              rw [beq_pos tp, bt rfl, bd_pos (by dsimp only; omega)]
              simp only [toNat_cast]
              rw [getD_get (by omega), List.getElem_set_self]
              rw [show spigotref18_Same.F p _ = _ from same18_refl sp, ob]
            · rw [beq_neg tp, spigotlaw19_RegistryReplaces.L6_eq, bt rfl, bd_pos (by dsimp only; omega), bd_pos (by dsimp only; omega)]
              simp only [toNat_cast]
              have : c ≠ i := by
                rintro rfl
                exact tp (qi.symm.trans q)
              rw [getD_get (by omega), getD_get hi, List.getElem_set_ne this, same18_refl (hs _ (List.getElem_mem hi)), ob]
          · have e7 : registry_Find.F (l.set c p) t = some (0, 6, ()) := by
              rcases Find_ok H2 t with ⟨j, hj, qj, _⟩ | ⟨_, e7⟩
              · rw [same j (by omega)] at qj
                exact absurd qj (n _ (List.getElem_mem _))
              · exact e7
            rw [e6, ob, e7, ob, bne_neg rfl, bne_neg rfl, hlen, bne_neg rfl, ck, ob, bne_neg rfl, spigotlaw19_RegistryReplaces.L4_eq, bne_pos (by decide), bt rfl]
            rfl
        · exact absurd q (n _ (List.getElem_mem hc))
      · rcases Find_ok H p.1 with ⟨c2, hc2, q2, e5⟩ | ⟨_, e5⟩
        · exact absurd q2 (n _ (List.getElem_mem hc2))
        · rw [show registry_Replace.F l _ = _ from e4, ob, e5, ob, bne_neg rfl, spigotlaw19_RegistryReplaces.L2_eq, bne_pos (by decide), bt rfl, beq_pos rfl]
          rfl
    · rw [e3, ob, bne_pos (by decide)]
  · rw [e2]; rfl
end Go.Proofs.Ytjmgelpeonodgaa.TB
namespace Go.Proofs.Ytjmgelpeonodgaa.PM
set_option linter.unusedVariables false
open Go Go.Proofs Go.Proofs.Ytjmgelpeonodgaa.TB
theorem Pure.registryReplaces : ∀ x, argsWf spigotlaw19_RegistryReplaces.sg.ps x → spigotlaw19_RegistryReplaces.Fn.F x = some (true, ())
  | ⟨l, p, t, _⟩, hx => replaces_F t hx.1.2 hx.2.1
end Go.Proofs.Ytjmgelpeonodgaa.PM
