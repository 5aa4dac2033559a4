/- A function's contract from its run in the pure machine. -/
import Derived.Test.YtjmgelpeonodgaaPM24
namespace Go.Proofs.Ytjmgelpeonodgaa.PM
set_option linter.unusedSimpArgs false
set_option linter.unusedVariables false
open Go
section
variable {P : Program} {E : Env}
theorem args_len {A : Nat → Prop} {w : World} : ∀ (ps : List PK) (vs : List Value) (x : (argTy ps).den) (bs : List Nat), ArgsRel A w ps vs x bs → vs.length = ps.length
  | [], vs, x, bs, h => by rw [h.1]; rfl
  | .val t :: r, vs, x, bs, h => by
    obtain ⟨v, us, rfl, _, h⟩ := h
    simp [args_len r us x.2 bs h]
  | .io t own :: r, vs, x, bs, h => by
    obtain ⟨v, us, p, q, rfl, _, _, h⟩ := h
    simp [args_len r us x.2 q h]
  | .mu t :: r, vs, x, bs, h => by
    obtain ⟨v, us, p, q, rfl, _, _, h⟩ := h
    simp [args_len r us x.2 q h]
  | .fn f :: r, vs, x, bs, h => by
    obtain ⟨v, us, rfl, _, h⟩ := h
    simp [args_len r us x bs h]
def resSem (tmps : Array Value) : ResultVar → Sem Value
  | .tmp t => pure (tmps.getD t undef)
  | .cell a t => do loadVar t (← asAddr (tmps.getD a undef))
theorem resAll_run {w : World} {tmps : Array Value} : ∀ (rs : List ResultVar) (zs : List Value), resAll P w tmps rs zs → (rs.mapM (resSem tmps)).run P w = .ok zs w
  | [], [], _ => by simp
  | .tmp t :: rs, z :: zs, ⟨h1, h2⟩ => by
    have := resAll_run rs zs h2
    have h1 : z = tmps.getD t undef := h1
    subst h1
    simp [List.mapM_cons, resSem, this]
  | .cell t ty :: rs, z :: zs, ⟨⟨ad, h0, _, h1⟩, h2⟩ => by
    have := resAll_run rs zs h2
    simp [List.mapM_cons, resSem, h0, asAddr, h1 w rfl, this]
  | [], _ :: _, h => h.elim
  | _ :: _, [], h => h.elim
/-- The results lie as they lay when no block of cells has turned. -/
theorem resAll_turn {w w' : World} {tmps : Array Value} (hw : ∀ (r : Nat) (c : Array Value) (e : TypeId) (z : Nat × Nat), w.heap[r]? = some (Obj.cells c e z) → w'.heap[r]? = w.heap[r]?) : ∀ (rs : List ResultVar) (zs : List Value), resAll P w tmps rs zs → resAll P w' tmps rs zs
  | [], [], _ => trivial
  | .tmp t :: rs, z :: zs, ⟨h1, h2⟩ => ⟨h1, resAll_turn hw rs zs h2⟩
  | .cell t ty :: rs, z :: zs, ⟨⟨ad, h0, ⟨c, e, f, hc⟩, h1⟩, h2⟩ => ⟨⟨ad, h0, ⟨c, e, f, (hw _ _ _ _ hc).trans hc⟩, fun w'' h => h1 w'' (h.trans (hw _ _ _ _ hc))⟩, resAll_turn hw rs zs h2⟩
  | [], _ :: _, h => h.elim
  | _ :: _, [], h => h.elim
theorem results_run {w : World} {fn : Func} {tmps : Array Value} {zs : List Value} (h : resAll P w tmps fn.results.toList zs) : (results fn tmps).run P w = .ok (packV zs) w := by
  have h1 := resAll_run _ _ h
  have h2 : (fn.results.mapM (resSem tmps)).run P w = .ok zs.toArray w := by
    rw [Array.mapM_eq_mapM_toList]
    simp [h1]
  have h3 : results fn tmps = (do let vs ← fn.results.mapM (resSem tmps); pure (if h : vs.size = 1 then vs[0] else .tuple vs)) := by
    unfold results
    congr 1
  rw [h3, Sem.run_bind, h2, Result.andThen_ok, Sem.run_pure]
  congr 1
  cases zs with
  | nil => rfl
  | cons z zs => cases zs with
    | nil => rfl
    | cons y zs => simp [packV]
theorem fnOf_spec (hE : EnvOk P E) (hmix : P.follows .mixedOrders = true) {s : Sig} {f : FuncId} {fn : Func} {c : Code} (hf : P.funcs[f]? = some fn) (hname : (fn.name == "runtime.NumGoroutine") = false) (hb : fn.body = some c) (hwf : wfC fn.ntmps c = true) (hps : s.ps.length ≤ fn.ntmps) (hres : resOk P s.rs fn.results.toList = true) : FnSpec P E.globs f (fnOf E s fn) := by
  have hnm : fn.name ≠ "runtime.NumGoroutine" := by simpa using hname
  refine ⟨fun args w => by simp [callFunc, run_program, hf, hnm, hb], fun w A vs x bs y hgok hargs hnd hbs hA hF => ?_⟩
  have hF : (entry E s fn x).ev (res (cxOf E s fn)) = some y := hF
  unfold entry at hF
  obtain ⟨q, ws, rs, h1, h2⟩ := toD_evT _ _ _ _ _ hF
  have h1 := OkT_Ok _ _ _ _ _ h1
  have H0 : HR (fun _ => none) A (fun r => w.heap.size ≤ r ∨ r ∈ bs) w [] :=
    { blk := fun i b e => (nomatch (show (none : Option Blk) = some b from e)), own := fun i b s r e => (nomatch (show (none : Option Blk) = some b from e)), inj := fun i j b c s s' r e => (nomatch (show (none : Option Blk) = some b from e)), dfn := fun i s e => (nomatch (show (none : Option Slot) = some s from e)), lt := hA }
  obtain ⟨g', ss, _, H, r1, r2, r3⟩ := start_ok s.ps _ _ vs x bs 0 0 q _ H0 hargs hnd (fun r hr => ⟨(hbs r hr).1, .inr hr, fun i b s e => (nomatch (show (none : Option Blk) = some b from e))⟩) h1
  have hlen : vs.length = s.ps.length := args_len _ _ _ _ hargs
  let B : Bs := ⟨A, fun r => w.heap.size ≤ r ∨ r ∈ bs, w, fn.ntmps, ss, fun r hr => .inl hr, E.globs, hgok, []⟩
  have hgl : E.globs = B.gl := rfl
  have R : RS B g' A { tmps := vs.toArray ++ Array.replicate (fn.ntmps - vs.toArray.size) undef, defers := [] } w q.1 (ws ++ []) q.2.1 := by
    refine ⟨by simp [B]; omega, rfl, fun t z hz => ?_, H, fun _ h => h, fun _ h => .inl h, fun _ _ => rfl, .refl _ w, r2⟩
    obtain ⟨j, v, h3, h4, h5⟩ := r1 t z hz
    have hj : j < vs.length := by
      by_cases h : j < vs.length
      · exact h
      · rw [List.getElem?_eq_none (by omega)] at h4; cases h4
    obtain rfl : t = j := by omega
    refine ⟨by show t < fn.ntmps; omega, ?_⟩
    have : (vs.toArray ++ Array.replicate (fn.ntmps - vs.toArray.size) undef).getD t undef = v := by
      rw [List.getElem?_eq_getElem hj] at h4
      injection h4 with h4
      simp [Array.getD, hj, h4]
      try omega
    rw [this]; exact h5
  have hbody : body fn = c := by unfold body; rw [hb]
  rw [hbody] at h2
  let Post : (outTy s.ps s.rs).den → Act → World → Prop := fun y a w' => a.defers = [] ∧ ∃ zs, resAll P w' a.tmps fn.results.toList zs ∧ Done (fnOf E s fn) A w vs bs y (.returned (packV zs)) w'
  have fin : ∀ (ff : List It → St → Option (outTy s.ps s.rs).den) (st : St) (r : (outTy s.ps s.rs).den), ((cxOf E s fn).fin st).ev ff = some r → ∀ g A' a w', RS B g A' a w' st.tm st.hp st.io → Post r a w' := fun ff st r e g A' a w' R => by
    obtain ⟨z, ws', rs', k1, k2⟩ := toD_evT _ _ _ _ _ e
    have k1 := OkT_Ok _ _ _ _ _ k1
    simp only [DT.ev, Option.some.injEq] at k2
    subst k2
    obtain ⟨A2, bs2, zs, G, o1, o2⟩ := outs_ok (P := P) (a := a) (st := st) (fun t x e => (R.tms t x e).2) hres s.ps st.io vs ss A' st.hp z _ (fun _ h => h) R.hr R.io r3 k1
    refine ⟨R.defs, zs, o2, ⟨⟨zs, A2, bs2, rfl, o1, G.nd, fun r hr => ?_, fun r hr => ?_, fun r hr => G.hr.lt r hr⟩, R.keep⟩⟩
    · obtain ⟨q1, q2, q3⟩ := G.own r hr
      obtain ⟨_, p2, p3⟩ := owned_out R.hr q2
      exact ⟨q3, p2, p3⟩
    · exact (G.in' r hr).elim (R.in' r) .inr
  refine calls_of_wp hf hb (fun b k cs => ?_)
  obtain ⟨ex, a', w', hex, harr⟩ := seg_ok (B := B) hE hgl hmix (C := cxOf E s fn) rfl rfl (Post := fun r _ => Post r) (fin _) (fin _) b k cs (fun its st r e g A a w R hw => res_ok (Post := fun r _ => Post r) hE hgl hmix rfl rfl fin fin b k cs e R hw) 100000 [.code c] _ y h2 g' A _ w R (by simp [wfI, hwf, B])
  refine ⟨ex, a', w', ?_, harr⟩
  rcases hex with ⟨rfl, hd, zs, hz, hdone⟩ | ⟨rfl, hd, zs, hz, hdone⟩
  · exact ⟨hd, _, results_run hz, hdone⟩
  · exact ⟨hd, _, results_run hz, hdone⟩
end
end Go.Proofs.Ytjmgelpeonodgaa.PM
