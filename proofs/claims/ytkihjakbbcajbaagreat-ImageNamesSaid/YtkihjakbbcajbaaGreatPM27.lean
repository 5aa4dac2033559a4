/- Contracts of printed functions, out of few rows each. -/
import Derived.Test.YtkihjakbbcajbaaGreatPM26
namespace Go.Proofs.YtkihjakbbcajbaaGreat.PM
set_option linter.unusedSimpArgs false
set_option linter.unusedVariables false
open Go
def okF (P : Program) (s : Sig) (fn : Func) : Bool :=
  !(fn.name == "runtime.NumGoroutine") && (fn.body.isSome && (wfC fn.ntmps (body fn) && (Nat.ble s.ps.length fn.ntmps && resOk P s.rs fn.results.toList)))
theorem spec_of {P : Program} {E : Env} (hE : EnvOk P E) (hmix : P.follows .mixedOrders = true) {s : Sig} {f : FuncId} {fn : Func} (hf : P.funcs[f]? = some fn) (h : okF P s fn = true) : FnSpec P E.globs f (fnOf E s fn) := by
  simp only [okF, Bool.and_eq_true, Bool.not_eq_true'] at h
  obtain ⟨h1, h2, h3, h4, h5⟩ := h
  obtain ⟨c, hc⟩ := Option.isSome_iff_exists.1 h2
  have hb : body fn = c := by unfold body; rw [hc]
  exact fnOf_spec hE hmix hf h1 hc (by rw [← hb]; exact h3) (Nat.le_of_ble_eq_true h4) h5
def FnsOk (P : Program) (gl : List (Nat × PV)) : List (Nat × Fun) → Prop
  | [] => True
  | p :: r => FnSpec P gl p.1 p.2 ∧ FnsOk P gl r
theorem FnsOk.nil {P : Program} {gl : List (Nat × PV)} : FnsOk P gl [] := trivial
theorem FnsOk.cons {P : Program} {gl : List (Nat × PV)} {f : Nat} {F : Fun} {r : List (Nat × Fun)} (h : FnSpec P gl f F) (t : FnsOk P gl r) : FnsOk P gl ((f, F) :: r) := ⟨h, t⟩
theorem FnsOk.look {P : Program} {gl : List (Nat × PV)} : ∀ {l : List (Nat × Fun)} {f : Nat} {F : Fun}, FnsOk P gl l → PM.look f l = some F → FnSpec P gl f F
  | [], _, _, _, e => by cases e
  | (j, G) :: r, f, F, h, e => by
    rw [look_cons] at e
    split at e
    · rename_i hj
      injection e with e; subst e hj
      exact h.1
    · exact FnsOk.look h.2 e
def PrimsOk (P : Program) : List (Nat × Prim) → Prop
  | [] => True
  | p :: r => PrimSpec P p.1 p.2 ∧ PrimsOk P r
theorem PrimsOk.look {P : Program} : ∀ {l : List (Nat × Prim)} {f : Nat} {p : Prim}, PrimsOk P l → PM.look f l = some p → PrimSpec P f p
  | [], _, _, _, e => by cases e
  | (j, G) :: r, f, p, h, e => by
    rw [look_cons] at e
    split at e
    · rename_i hj
      injection e with e; subst e hj
      exact h.1
    · exact PrimsOk.look h.2 e
theorem PrimsOk.nil {P : Program} : PrimsOk P [] := trivial
theorem PrimsOk.cons {P : Program} {f : Nat} {p : Prim} {r : List (Nat × Prim)} (h : PrimSpec P f p) (t : PrimsOk P r) : PrimsOk P ((f, p) :: r) := ⟨h, t⟩
theorem envOk_at {P : Program} {tl : List (Nat × TI)} {eqs : List Nat} (hT : tabB P tl = true) (hQ : EqOk P ⟨tl, fun _ => none, [], eqs, [], []⟩) {fl : List (Nat × Fun)} {sh : List Nat} {gl : List (Nat × PV)} {pl : List (Nat × Prim)} (hp : PrimsOk P pl) (h : FnsOk P gl fl) : EnvOk P ⟨tl, fun i => look i fl, sh, eqs, gl, pl⟩ :=
  ⟨hT, fun t τ h1 h2 => hQ t τ h1 h2, fun _ _ e => h.look e, fun _ _ e => hp.look e⟩
end Go.Proofs.YtkihjakbbcajbaaGreat.PM
