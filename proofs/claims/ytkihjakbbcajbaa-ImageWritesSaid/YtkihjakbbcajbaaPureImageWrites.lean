/- The law ImageWrites in plain words, for all that an argument may hold. -/
import Derived.Test.YtkihjakbbcajbaaImgP5
import Derived.Test.YtkihjakbbcajbaaPM29
namespace Go.Proofs.Ytkihjakbbcajbaa.TB
set_option linter.unusedSimpArgs false
set_option linter.unusedVariables false
open Go Go.Proofs Go.Proofs.Ytkihjakbbcajbaa.PM Go.Proofs.Ytkihjakbbcajbaa.RP
theorem great26_f (s : t8.den) : (List.length s.2.2.2.1 ≤ 20 ∧ (∀ p ∈ s.2.2.2.1, PSmall p) ∧ spigotref26_Great.F s = some (false, ())) ∨ spigotref26_Great.F s = some (true, ()) := by
  rw [spigotref26_Great.F_eq, spigotref20_Great.F_eq]
  rcases great19_f (l := s.2.2.2.1) with ⟨h1, h2, e⟩ | e
  · rw [e]; exact .inl ⟨h1, h2, rfl⟩
  · rw [e]; exact .inr rfl
theorem twin20_f {s : t8.den} (w : SWf s) : spigotref20_Twin.F s = some (s, ()) := by
  rw [spigotref20_Twin.F_eq, twin19_ok w.few w.small, ob]
theorem same20_f {s : t8.den} (w : SWf s) : spigotref20_Same.F s s = some (true, ()) := by
  have := w.few
  rw [spigotref20_Same.F_eq, beq_pos rfl, tbeq_pos (t := .arr 32 (.int .u8)) rfl, tbeq_pos (t := .arr 16 (.int .u32)) rfl, same19_refl (by omega) w.small, ob]
theorem swf_of {s : t8.den} (h : t8.wf s) (h1 : List.length s.2.2.2.1 ≤ 20) (h2 : ∀ p ∈ s.2.2.2.1, PSmall p) : SWf s := by
  obtain ⟨g1, g2, g3, g4, _⟩ := h
  exact ⟨h1, h2, fun p hp => pwf_of (g4.2 p hp) (h2 p hp), g3.1, g2.1⟩
end Go.Proofs.Ytkihjakbbcajbaa.TB
namespace Go.Proofs.Ytkihjakbbcajbaa.PM
set_option linter.unusedVariables false
open Go Go.Proofs Go.Proofs.Ytkihjakbbcajbaa.TB Go.Proofs.Ytkihjakbbcajbaa.RP
theorem Pure.imageWrites : ∀ x, argsWf spigotlaw33_ImageWrites.sg.ps x → spigotlaw33_ImageWrites.Fn.F x = some (true, ())
  | ⟨s, _⟩, hx => by
    show spigotlaw33_ImageWrites.F s = some (true, ())
    rw [spigotlaw33_ImageWrites.F_eq]
    rcases great26_f s with ⟨h1, h2, e⟩ | e
    · have w : SWf s := swf_of hx.1 h1 h2
      rw [e, ob, bf rfl, spigotlaw33_ImageWrites.L1_eq]
      obtain ⟨now, seed, ep, ps, ⟨⟩⟩ := s
      dsimp only
      by_cases v : SVal (now, seed, ep, ps, ())
      · rw [twin20_f w, ob, write_f w v, ob]
        dsimp only
        rw [rwrite_f w v, ob, image_Size.F_eq, write_f w v, ob, ob, spigotref33_Size.F_eq, rwrite_f w v, ob, ob, bd_pos (by rfl), beq_pos rfl, beq_pos rfl, beq_pos rfl, same20_f w, ob]
      · rw [twin20_f w, ob, write_bad w v, ob]
        dsimp only
        rw [rwrite_bad w v, ob, image_Size.F_eq, write_bad w v, ob, ob, spigotref33_Size.F_eq, rwrite_bad w v, ob, ob, bd_pos (by rfl), beq_pos rfl, beq_pos rfl, beq_pos rfl, same20_f w, ob]
    · rw [e, ob, bt rfl]
end Go.Proofs.Ytkihjakbbcajbaa.PM
