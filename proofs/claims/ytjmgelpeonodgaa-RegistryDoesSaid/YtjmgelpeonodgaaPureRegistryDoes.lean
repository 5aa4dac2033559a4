/- The law RegistryDoes in plain words, for all that an argument may hold. -/
import Derived.Test.YtjmgelpeonodgaaRegP4
namespace Go.Proofs.Ytjmgelpeonodgaa.TB
set_option linter.unusedSimpArgs false
set_option linter.unusedVariables false
open Go Go.Proofs Go.Proofs.Ytjmgelpeonodgaa.PM Go.Proofs.Ytjmgelpeonodgaa.RP
theorem does_F {l : List t7.den} {p : t7.den} (t : Int) (hw : ∀ q ∈ l, t7.wf q) (hp : t7.wf p) : spigotlaw19_RegistryDoes.F l p t = some (true, ()) := by
  rw [spigotlaw19_RegistryDoes.F_eq]
  rcases great19_f (l := l) with ⟨hl, hs, e⟩ | e
  · rw [e, ob, bf rfl]
    rcases great18_f p with ⟨sp, e2⟩ | e2
    · have r : Reg l := ⟨hl, hs, fun q hq => pwf_of (hw q hq) (hs q hq)⟩
      have w := pwf_of hp sp
      obtain ⟨i, e, a1, b1⟩ := find_same r t
      obtain ⟨a, e3, a2, b2, l2, s2⟩ := put_same r sp w
      obtain ⟨c, e4, a3, b3, l3, s3⟩ := drop_same r t
      obtain ⟨x, e5, a4, b4, l4, s4⟩ := replace_same r sp w
      obtain ⟨u, e6, a5, b5, l5⟩ := tenants_same r
      obtain ⟨e7, a6, b6⟩ := reg_check_same r
      rw [e2, ob, bf rfl, spigotlaw19_RegistryDoes.L1_eq, twin19_ok hl hs, ob, a1, ob, b1, ob]
      rw [show registry_Put.F l _ = _ from a2, ob, show spigotref19_Put.F l _ = _ from b2, ob, a3, ob, b3, ob, bne_neg rfl, bne_neg rfl, same19_refl l2 s2, ob, bnt rfl, bne_neg rfl, same19_refl l3 s3, ob, bnt rfl, bne_neg rfl, spigotlaw19_RegistryDoes.L2_eq]
      rw [show registry_Replace.F l _ = _ from a4, ob, show spigotref19_Replace.F l _ = _ from b4, ob, a5, ob, b5, ob, a6, ob, b6, ob, beq_pos rfl, same19_refl l4 s4, ob, bt rfl, beq_pos rfl, keys_refl l5, ob, bt rfl, beq_pos rfl, same19_refl (by omega) hs, ob]
    · rw [e2]; rfl
  · rw [e]; rfl
end Go.Proofs.Ytjmgelpeonodgaa.TB
namespace Go.Proofs.Ytjmgelpeonodgaa.PM
open Go Go.Proofs Go.Proofs.Ytjmgelpeonodgaa.TB
theorem Pure.registryDoes : ∀ x, argsWf spigotlaw19_RegistryDoes.sg.ps x → spigotlaw19_RegistryDoes.Fn.F x = some (true, ())
  | ⟨l, p, t, _⟩, hx => does_F t hx.1.2 hx.2.1
end Go.Proofs.Ytjmgelpeonodgaa.PM
