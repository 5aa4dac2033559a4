/- What a run of the pure machine comes to: more rounds give the same answer; a run's answer by the stretch that it begins with. -/
import Derived.Test.YtkihjakbbcajbaaGreatPM1
namespace Go.Proofs.YtkihjakbbcajbaaGreat.PM
set_option linter.unusedSimpArgs false
set_option linter.unusedVariables false
open Go

theorem DT.ev_mono {ρ : Type} {f g : List It → St → Option ρ} (h : ∀ its st r, f its st = some r → g its st = some r) :
    ∀ (d : DT ρ) (r : ρ), d.ev f = some r → d.ev g = some r
  | .fail, _, e => by simp [DT.ev] at e
  | .done _, _, e => e
  | .cut its st, r, e => h its st r e
  | .br b x y, r, e => by
    cases b
    · exact DT.ev_mono h y r e
    · exact DT.ev_mono h x r e
  | .opt o k, r, e => by
    cases o with
    | none => simp [DT.ev] at e
    | some v => exact DT.ev_mono h (k v) r e
theorem run_step {ρ : Type} (C : Cx ρ) : ∀ (n : Nat) (its : List It) (st : St) (r : ρ), run C n its st = some r → run C (n + 1) its st = some r
  | 0, _, _, _, e => by simp [run] at e
  | n + 1, its, st, r, e => DT.ev_mono (run_step C n) (seg C 100000 its st) r e
theorem run_mono {ρ : Type} (C : Cx ρ) {n m : Nat} (h : n ≤ m) {its : List It} {st : St} {r : ρ} (e : run C n its st = some r) : run C m its st = some r := by
  induction h with
  | refl => exact e
  | step _ ih => exact run_step C _ its st r ih
theorem lm_some {ρ : Type} {g : Nat → Option ρ} (hm : ∀ n m r, n ≤ m → g n = some r → g m = some r) {n : Nat} {r : ρ} (h : g n = some r) : lm g = some r := by
  have hx : ∃ r n, g n = some r := ⟨r, n, h⟩
  unfold lm
  rw [dif_pos hx]
  obtain ⟨m, hm'⟩ := hx.choose_spec
  have h1 := hm m (max n m) _ (Nat.le_max_right _ _) hm'
  have h2 := hm n (max n m) _ (Nat.le_max_left _ _) h
  rw [h1] at h2
  exact h2
theorem lm_out {ρ : Type} {g : Nat → Option ρ} {r : ρ} (h : lm g = some r) : ∃ n, g n = some r := by
  unfold lm at h
  split at h
  · rename_i hx
    obtain ⟨m, hm⟩ := hx.choose_spec
    have : hx.choose = r := by injection h
    exact ⟨m, this ▸ hm⟩
  · cases h
theorem res_some {ρ : Type} {C : Cx ρ} {n : Nat} {its : List It} {st : St} {r : ρ} (h : run C n its st = some r) : res C its st = some r :=
  lm_some (g := fun n => run C n its st) (fun _ _ _ hl e => run_mono C hl e) h
theorem res_out {ρ : Type} {C : Cx ρ} {its : List It} {st : St} {r : ρ} (h : res C its st = some r) : ∃ n, run C n its st = some r := lm_out h
theorem ev_res {ρ : Type} (C : Cx ρ) : ∀ (d : DT ρ) (r : ρ), d.ev (res C) = some r → ∃ n, d.ev (run C n) = some r
  | .fail, _, e => by simp [DT.ev] at e
  | .done _, _, e => ⟨0, e⟩
  | .cut _ _, _, e => res_out e
  | .br b x y, r, e => by
    cases b
    · exact ev_res C y r e
    · exact ev_res C x r e
  | .opt o k, r, e => by
    cases o with
    | none => simp [DT.ev] at e
    | some v => exact ev_res C (k v) r e
theorem res_eq0 {ρ : Type} (C : Cx ρ) (its : List It) (st : St) : res C its st = (seg C 100000 its st).ev (res C) := by
  cases h : (seg C 100000 its st).ev (res C) with
  | some r =>
    obtain ⟨n, hn⟩ := ev_res C _ r h
    exact res_some (n := n + 1) hn
  | none =>
    cases hr : res C its st with
    | none => rfl
    | some r =>
      obtain ⟨n, hn⟩ := res_out hr
      cases n with
      | zero => simp [run] at hn
      | succ n =>
        have := DT.ev_mono (fun its st r e => res_some e) _ r (show (seg C 100000 its st).ev (run C n) = some r from hn)
        rw [h] at this; cases this
theorem res_eq {ρ : Type} {C : Cx ρ} {its : List It} {st : St} {o : Option ρ} (h : (seg C 100000 its st).ev (res C) = o) : res C its st = o := (res_eq0 C its st).trans h
end Go.Proofs.YtkihjakbbcajbaaGreat.PM
