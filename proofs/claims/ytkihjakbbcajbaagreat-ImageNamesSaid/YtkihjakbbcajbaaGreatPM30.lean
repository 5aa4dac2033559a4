/- The same with a bounded number of stretches: what the kernel itself can run. -/
import Derived.Test.YtkihjakbbcajbaaGreatPM27
namespace Go.Proofs.YtkihjakbbcajbaaGreat.PM
set_option linter.unusedSimpArgs false
set_option linter.unusedVariables false
open Go
def fnFuel (E : Env) (s : Sig) (fn : Func) (n : Nat) : Fun := ⟨s, fun x => (entry E s fn x).ev (run (cxOf E s fn) n)⟩
section
variable {P : Program} {E : Env}
theorem fnFuel_spec (hE : EnvOk P E) (hmix : P.follows .mixedOrders = true) {s : Sig} {f : FuncId} {fn : Func} {c : Code} {n : Nat} (hf : P.funcs[f]? = some fn) (hname : (fn.name == "runtime.NumGoroutine") = false) (hb : fn.body = some c) (hwf : wfC fn.ntmps c = true) (hps : s.ps.length ≤ fn.ntmps) (hres : resOk P s.rs fn.results.toList = true) : FnSpec P E.globs f (fnFuel E s fn n) := by
  have hnm : fn.name ≠ "runtime.NumGoroutine" := by simpa using hname
  refine ⟨fun args w => by simp [callFunc, run_program, hf, hnm, hb], fun w A vs x bs y hgok hargs hnd hbs hA hF => ?_⟩
  have hF : (entry E s fn x).ev (run (cxOf E s fn) n) = some y := hF
  unfold entry at hF
  obtain ⟨q, ws, rs, h1, h2⟩ := toD_evT _ _ _ _ _ hF
  have h1 := OkT_Ok _ _ _ _ _ h1
  have H0 : HR (fun _ => none) A (fun r => w.heap.size ≤ r ∨ r ∈ bs) w [] :=
    { blk := fun i b e => (nomatch (show (none : Option Blk) = some b from e)), own := fun i b s r e => (nomatch (show (none : Option Blk) = some b from e)), inj := fun i j b c s s' r e => (nomatch (show (none : Option Blk) = some b from e)), dfn := fun i s e => (nomatch (show (none : Option Slot) = some s from e)), lt := hA }
  obtain ⟨g', ss, _, H, r1, r2, r3⟩ := start_ok s.ps _ _ vs x bs 0 0 q _ H0 hargs hnd (fun r hr => ⟨(hbs r hr).1, .inr hr, fun i b s e => (nomatch (show (none : Option Blk) = some b from e))⟩) h1
  have hlen : vs.length = s.ps.length := args_len _ _ _ _ hargs
  let B : Bs := ⟨A, fun r => w.heap.size ≤ r ∨ r ∈ bs, w, fn.ntmps, ss, fun r hr => .inl hr, E.globs, hgok, []⟩
  have hgl : E.globs = B.gl := rfl
  have R : RS B g' A { tmps := vs.toArray ++ Array.replicate (fn.ntmps - vs.toArray.size) undef, defers := [] } w q.1 (ws ++ []) q.2.1 := by
    refine ⟨by simp [B]; omega, rfl, fun t z hz => ?_, H, fun _ h => h, fun _ h => .inl h, fun _ _ => rfl, .refl _ w, r2⟩
    obtain ⟨j, v, h3, h4, h5⟩ := r1 t z hz
    have hj : j < vs.length := by
      by_cases h : j < vs.length
      · exact h
      · rw [List.getElem?_eq_none (by omega)] at h4; cases h4
    obtain rfl : t = j := by omega
    refine ⟨by show t < fn.ntmps; omega, ?_⟩
    have : (vs.toArray ++ Array.replicate (fn.ntmps - vs.toArray.size) undef).getD t undef = v := by
      rw [List.getElem?_eq_getElem hj] at h4
      injection h4 with h4
      simp [Array.getD, hj, h4]
      try omega
    rw [this]; exact h5
  have hbody : body fn = c := by unfold body; rw [hb]
  rw [hbody] at h2
  let Post : (outTy s.ps s.rs).den → Act → World → Prop := fun y a w' => a.defers = [] ∧ ∃ zs, resAll P w' a.tmps fn.results.toList zs ∧ Done (fnFuel E s fn n) A w vs bs y (.returned (packV zs)) w'
  have fin : ∀ (ff : List It → St → Option (outTy s.ps s.rs).den) (st : St) (r : (outTy s.ps s.rs).den), ((cxOf E s fn).fin st).ev ff = some r → ∀ g A' a w', RS B g A' a w' st.tm st.hp st.io → Post r a w' := fun ff st r e g A' a w' R => by
    obtain ⟨z, ws', rs', k1, k2⟩ := toD_evT _ _ _ _ _ e
    have k1 := OkT_Ok _ _ _ _ _ k1
    simp only [DT.ev, Option.some.injEq] at k2
    subst k2
    obtain ⟨A2, bs2, zs, G, o1, o2⟩ := outs_ok (P := P) (a := a) (st := st) (fun t x e => (R.tms t x e).2) hres s.ps st.io vs ss A' st.hp z _ (fun _ h => h) R.hr R.io r3 k1
    refine ⟨R.defs, zs, o2, ⟨⟨zs, A2, bs2, rfl, o1, G.nd, fun r hr => ?_, fun r hr => ?_, fun r hr => G.hr.lt r hr⟩, R.keep⟩⟩
    · obtain ⟨q1, q2, q3⟩ := G.own r hr
      obtain ⟨_, p2, p3⟩ := owned_out R.hr q2
      exact ⟨q3, p2, p3⟩
    · exact (G.in' r hr).elim (R.in' r) .inr
  refine calls_of_wp hf hb (fun b k cs => ?_)
  obtain ⟨ex, a', w', hex, harr⟩ := seg_ok (B := B) hE hgl hmix (C := cxOf E s fn) rfl rfl (Post := fun r _ => Post r) (fin _) (fin _) b k cs (fun its st r e g A a w R hw => run_ok (Post := fun r _ => Post r) hE hgl hmix rfl rfl fin fin b k cs n its st r e g A a w R hw) 100000 [.code c] _ y h2 g' A _ w R (by simp [wfI, hwf, B])
  refine ⟨ex, a', w', ?_, harr⟩
  rcases hex with ⟨rfl, hd, zs, hz, hdone⟩ | ⟨rfl, hd, zs, hz, hdone⟩
  · exact ⟨hd, _, results_run hz, hdone⟩
  · exact ⟨hd, _, results_run hz, hdone⟩
theorem fuel_of (hE : EnvOk P E) (hmix : P.follows .mixedOrders = true) {s : Sig} {f : FuncId} {fn : Func} {n : Nat} (hf : P.funcs[f]? = some fn) (h : okF P s fn = true) : FnSpec P E.globs f (fnFuel E s fn n) := by
  simp only [okF, Bool.and_eq_true, Bool.not_eq_true'] at h
  obtain ⟨h1, h2, h3, h4, h5⟩ := h
  obtain ⟨c, hc⟩ := Option.isSome_iff_exists.1 h2
  have hb : body fn = c := by unfold body; rw [hc]
  exact fnFuel_spec hE hmix hf h1 hc (by rw [← hb]; exact h3) (Nat.le_of_ble_eq_true h4) h5
end
end Go.Proofs.YtkihjakbbcajbaaGreat.PM
