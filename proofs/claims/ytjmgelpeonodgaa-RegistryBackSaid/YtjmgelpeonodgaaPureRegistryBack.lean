/- The law RegistryBack in plain words, for all that an argument may hold. -/
import Derived.Test.YtjmgelpeonodgaaRegP6
namespace Go.Proofs.Ytjmgelpeonodgaa.TB
set_option linter.unusedSimpArgs false
set_option linter.unusedVariables false
open Go Go.Proofs Go.Proofs.Ytjmgelpeonodgaa.PM Go.Proofs.Ytjmgelpeonodgaa.RP
theorem back_F {l : List t7.den} {p : t7.den} (hw : ∀ q ∈ l, t7.wf q) (hp : t7.wf p) : spigotlaw19_RegistryBack.F l p = some (true, ()) := by
  rw [spigotlaw19_RegistryBack.F_eq, alive_f, ob]
  rcases fit_f hw with e | ⟨e, g, hs, w⟩
  · rw [e]; rfl
  rw [e, ob, bnt rfl]
  rcases great18_f p with ⟨sp, e2⟩ | e2
  · have wp := pwf_of hp sp
    rw [e2, ob, bf rfl]
    rcases rpart_says wp with ⟨ok, e3⟩ | ⟨_, e3⟩
    · have H := g.reg w
      have hf : ∀ q ∈ l, fit q := fun q hq => fit_of (hs q hq)
      have hl := g.len
      have cp := (part_says wp).yes ok
      rw [e3, ob, bne_neg rfl, bnt rfl, spigotlaw19_RegistryBack.L1_eq]
      rcases Put_ok H hf cp (fit_of sp) with ⟨c, hc, q, e4⟩ | ⟨n, ⟨h8, e4⟩ | ⟨h8, c, cut, e4⟩⟩
      · rw [show registry_Put.F l _ = _ from e4, ob, beq_neg (by decide), spigotlaw19_RegistryBack.L2_eq, beq_neg (by decide), spigotlaw19_RegistryBack.L3_eq]
        rcases Find_ok H p.1 with ⟨c2, hc2, q2, e5⟩ | ⟨n, _⟩
        · obtain rfl := reg_uniq H hc hc2 (q.trans q2.symm)
          rw [e5, ob, bne_neg rfl, bne_neg rfl, bd_neg (by dsimp only; omega), bd_neg (by dsimp only; omega), spigotlaw19_RegistryBack.L4_eq]
          rcases Drop_ok H hf p.1 with ⟨c3, hc3, q3, e6⟩ | ⟨n, _⟩
          · obtain rfl := reg_uniq H hc hc3 (q.trans q3.symm)
            have fo := filter_one H hc
            rw [e6, ob, bd_pos (by dsimp only; omega)]
            simp only [toNat_cast]
            rw [getD_get hc]
            have ls := hs _ (List.getElem_mem hc)
            have lw := w _ (List.getElem_mem hc)
            have lok := g.ok _ (List.getElem_mem hc)
            have g2 : GReg (l.take c ++ l.drop (c + 1)) := by rw [← fo]; exact greg_out g H _
            have w2 : ∀ q ∈ l.take c ++ l.drop (c + 1), PWf q := by rw [← fo]; exact fun q hq => w q (List.mem_filter.1 hq).1
            have f2 : ∀ q ∈ l.take c ++ l.drop (c + 1), fit q := by rw [← fo]; exact fun q hq => hf q (List.mem_filter.1 hq).1
            have n2 : ∀ q ∈ l.take c ++ l.drop (c + 1), q.1 ≠ (l[c]).1 := by rw [← fo]; exact fun q hq => bne_iff_ne.1 (List.mem_filter.1 hq).2
            have H2 := g2.reg w2
            have hlen : (l.take c ++ l.drop (c + 1)).length < 8 := by rw [List.length_append, List.length_take, List.length_drop]; omega
            rcases Put_ok H2 f2 ((part_says lw).yes lok) (fit_of ls) with ⟨c4, hc4, q4, _⟩ | ⟨_, ⟨h8, _⟩ | ⟨_, c4, cut4, e7⟩⟩
            · exact absurd q4 (n2 _ (List.getElem_mem hc4))
            · omega
            · obtain rfl := Cut.one n2 (cut_out6 H hc) cut4
              have e8 : List.take c (l.take c ++ l.drop (c + 1)) ++ [l[c]] ++ List.drop c (l.take c ++ l.drop (c + 1)) = l := by
                have := ins_out6 hc (l[c])
                rw [List.set_getElem_self] at this
                unfold ins at this
                rw [List.append_assoc]; exact this
              rw [e8] at e7
              rw [e7, ob, bd_pos (by omega)]
              rcases Replace_ok H hf ((part_says lw).yes lok) (fit_of ls) with ⟨c5, hc5, q5, e9⟩ | ⟨n, _⟩
              · obtain rfl := reg_uniq H hc hc5 q5.symm
                rw [List.set_getElem_self] at e9
                rw [e9, ob, bt rfl, beq_pos rfl, beq_pos rfl, beq_pos rfl, same19_refl (by omega) hs, ob, bt rfl, ob]
              · exact absurd rfl (n _ (List.getElem_mem hc))
          · exact absurd q (n _ (List.getElem_mem hc))
        · exact absurd q (n _ (List.getElem_mem hc))
      · rw [show registry_Put.F l _ = _ from e4, ob, beq_neg (by decide), spigotlaw19_RegistryBack.L2_eq, beq_pos rfl, bt rfl, h8]
        rfl
      · have e5 : l.take c ++ [p] ++ l.drop c = ins l p c := by unfold ins; rw [List.append_assoc]; rfl
        rw [e5] at e4
        rw [show registry_Put.F l _ = _ from e4, ob, beq_pos rfl]
        have g2 := greg_ins g H ok cut n h8
        have w2 : ∀ q ∈ ins l p c, PWf q := fun q hq => by
          rcases mem_ins.1 hq with rfl | h
          · exact wp
          · exact w q h
        have f2 : ∀ q ∈ ins l p c, fit q := fun q hq => by
          rcases mem_ins.1 hq with rfl | h
          · exact fit_of sp
          · exact hf q h
        have H2 := g2.reg w2
        rcases Drop_ok H2 f2 p.1 with ⟨c3, hc3, q3, e6⟩ | ⟨n3, _⟩
        · have fo := filter_one H2 hc3
          rw [q3, filter_ins n] at fo
          rw [← fo] at e6
          rw [show registry_Drop.F (ins l p c) _ = _ from e6, ob, bt rfl, beq_pos rfl, same19_refl (by omega) hs, ob, bt rfl, W_eq (by omega) (by omega), beq_iff_eq.2 (by dsimp only; rw [ins_len]; omega)]
        · exact absurd rfl (n3 p (mem_ins.2 (.inl rfl)))
    · rw [e3, ob, bne_pos (by decide)]
  · rw [e2]; rfl
end Go.Proofs.Ytjmgelpeonodgaa.TB
namespace Go.Proofs.Ytjmgelpeonodgaa.PM
set_option linter.unusedVariables false
open Go Go.Proofs Go.Proofs.Ytjmgelpeonodgaa.TB
theorem Pure.registryBack : ∀ x, argsWf spigotlaw19_RegistryBack.sg.ps x → spigotlaw19_RegistryBack.Fn.F x = some (true, ())
  | ⟨l, p, _⟩, hx => back_F hx.1.2 hx.2.1
end Go.Proofs.Ytjmgelpeonodgaa.PM
