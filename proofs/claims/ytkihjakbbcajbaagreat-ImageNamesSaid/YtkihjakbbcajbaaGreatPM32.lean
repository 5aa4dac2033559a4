/- Regions within a round of a range over a function, and within no round, by the pure machine. -/
import Derived.RangeFuncNested
import Derived.RangeFuncBound
import Derived.RangeFuncCalls
import Derived.RangeFuncLeaves
import Derived.OrdersIn
import Derived.Test.YtkihjakbbcajbaaGreatPM25
namespace Go.Proofs.YtkihjakbbcajbaaGreat.PM
set_option linter.unusedSimpArgs false
set_option linter.unusedVariables false
open Go
def rnd (r : Option Nat) : Fence := { Fence.wide with round := r }
theorem rnd_none : rnd none = Fence.wide := rfl
theorem rnd_in (l : Nat) : Fence.wide.inRound l = rnd (some l) := rfl
section
variable {P : Program} {r : Option Nat} {n : Nat} {Q : Exit → Act → World → Prop}
def onlyN (Q : Exit → Act → World → Prop) : Exit → Act → World → Prop := fun e a w => e = .normal ∧ Q .normal a w
theorem wp_to {Q0 : Exit → Act → World → Prop} {o : Oper} {a : Act} {w : World} {K K' : Act → World → Prop} (hd : ∀ c, o.op ≠ .defer c) (hdef : ∀ d w', (execOp a.eval o).run P w ≠ .ok (.defer d) w') (hK : ∀ v w', K (a.put o.dst v) w' → K' (a.put o.dst v) w') (h : o.wp P a w K (onlyN Q0)) : o.wpIn (rnd r) n P a w K' Q := by
  unfold Oper.wp at h
  refine ⟨fun _ _ => trivial, ?_⟩
  rw [Oper.semAt_eq _ _ _ hd]
  generalize (execOp a.eval o).run P w = res at h hdef ⊢
  cases res with
  | ok nx w' =>
    cases nx with
    | value v => exact hK v w' h
    | skip => exact hK undef w' h
    | defer d => exact absurd rfl (hdef d w')
    | enter f args =>
      refine ⟨(fun h => by cases h), ?_⟩
      have h : Calls P f args w' fun
        | .returned v, w'' => K (a.put o.dst v) w''
        | .panicked chain, w'' => onlyN Q0 (.panic chain) a w''
        | .outgrown, _ => LetsOut (onlyN Q0) := h
      have h2 := (callsIn_wide (n := n - 1)).2 h
      refine CallsIn.mono (F := Fence.wide) h2 (fun e w'' he => ?_)
      cases e with
      | returned v => exact hK v w'' he
      | panicked c => exact absurd he.1 (by simp)
      | outgrown =>
        obtain ⟨a0, w0, he⟩ := he
        exact absurd he.1 (by simp)
    | row row args =>
      refine ⟨(fun h => by cases h), fun c cs _ => ?_⟩
      obtain ⟨v, w'', h1, h2⟩ := h c cs
      exact ⟨v, w'', hK v w'' h1, stepsIn_wide.2 h2⟩
    | _ => exact h.elim
  | halt hh w' =>
    cases hh with
    | panic v => exact absurd h.1 (by simp)
    | _ => exact h.elim
/-- An operation that defers nothing. -/
def quiet (o : Oper) : Bool := match o.op with
  | .defer _ | .call _ | .nilCheck _ | .recv .. | .select .. | .go _ | .send .. => false
  | _ => true
theorem quiet_defer {o : Oper} (h : quiet o = true) (c : Call) : o.op ≠ .defer c := fun e => by
  unfold quiet at h; rw [e] at h; cases h
theorem andThen_defer {α : Type} {x : Result α} {f : α → World → Result Next} {d : Deferred} {w' : World} (hf : ∀ a w, f a w ≠ .ok (.defer d) w') : x.andThen f ≠ .ok (.defer d) w' := by
  cases x with
  | ok a w => exact hf a w
  | halt h w => intro e; simp [Result.andThen] at e
theorem quiet_run {o : Oper} (h : quiet o = true) (ρ : Operand → Value) (w : World) (d : Deferred) (w' : World) : (execOp ρ o).run P w ≠ .ok (.defer d) w' := by
  unfold execOp
  cases ho : o.op with
  | defer c => unfold quiet at h; rw [ho] at h; cases h
  | call c => unfold quiet at h; rw [ho] at h; cases h
  | nilCheck x => unfold quiet at h; rw [ho] at h; cases h
  | recv a b c => unfold quiet at h; rw [ho] at h; cases h
  | select a b => unfold quiet at h; rw [ho] at h; cases h
  | go c => unfold quiet at h; rw [ho] at h; cases h
  | send a b => unfold quiet at h; rw [ho] at h; cases h
  | _ =>
    simp only [Sem.run_bind]
    first
      | exact andThen_defer (fun a w => by simp)
      | (intro e; simp at e; done)
      | exact andThen_defer (fun a w => by first | (simp; done) | exact andThen_defer (fun a w => by simp))
theorem wpOp_to {Q0 : Exit → Act → World → Prop} {ops : Array Oper} (hd : ∀ (i : Nat) o, ops[i]? = some o → quiet o = true) {i : Nat} {a : Act} {w : World} {K K' : Act → World → Prop} (hK : ∀ a' w', (a' = a ∨ ∃ o v, ops[i]? = some o ∧ a' = a.put o.dst v) → K a' w' → K' a' w') (h : wpOp P ops (onlyN Q0) i K a w) : wpOpIn (rnd r) n P ops Q i K' a w := by
  unfold wpOp at h
  unfold wpOpIn
  cases ho : ops[i]? with
  | none => rw [ho] at h; exact hK _ _ (.inl rfl) h
  | some o =>
    rw [ho] at h
    simp only at h ⊢
    split at h
    · rename_i hw
      rw [if_pos hw]
      rcases h with h | ⟨_, a0, w0, h⟩
      · exact wp_to (quiet_defer (hd i o ho)) (fun d w' => quiet_run (hd i o ho) _ _ d w') (fun v w' => hK _ w' (.inr ⟨o, v, ho, rfl⟩)) h
      · exact absurd h.1 (by simp)
    · rename_i hw
      rw [if_neg hw]
      exact ⟨fun _ _ => trivial, hK _ _ (.inr ⟨o, undef, ho, rfl⟩) h⟩
/-- Temporaries that no operation of a list writes. -/
def Fr (ops : Array Oper) (l : List Nat) (a a' : Act) : Prop := ∀ t, (∀ i ∈ l, ∀ o, ops[i]? = some o → o.dst ≠ some t) → a'.tmps.getD t undef = a.tmps.getD t undef
theorem put_other (a : Act) (d : Option Nat) (v : Value) (t : Nat) (h : d ≠ some t) : (a.put d v).tmps.getD t undef = a.tmps.getD t undef := by
  cases d with
  | none => rfl
  | some e =>
    have : e ≠ t := fun h' => h (by rw [h'])
    simp only [Act.put, Array.getD_eq_getD_getElem?]
    rw [Array.getElem?_setIfInBounds_ne this]
theorem wpOps_to {Q0 : Exit → Act → World → Prop} {ops : Array Oper} (hd : ∀ (i : Nat) o, ops[i]? = some o → quiet o = true) : ∀ (l : List Nat) (a : Act) (w : World), (∀ a' w', Q0 .normal a' w' → Fr ops l a a' → Q .normal a' w') → wpOps P ops (onlyN Q0) l a w → wpOpsIn (rnd r) n P ops Q l a w
  | [], a, w, hQ, h => hQ a w h.2 (fun t _ => rfl)
  | i :: l, a, w, hQ, h => by
    rw [wpOps_cons] at h
    rw [wpOpsIn_cons]
    refine wpOp_to hd (fun a1 w1 hc h => wpOps_to hd l a1 w1 (fun a' w' h1 h2 => hQ a' w' h1 (fun t ht => ?_)) h) h
    rw [h2 t (fun j hj => ht j (List.mem_cons_of_mem _ hj))]
    rcases hc with rfl | ⟨o, v, ho, rfl⟩
    · rfl
    · exact put_other a o.dst v t (ht i (List.mem_cons_self ..) o ho)
def noDefer (ops : List Oper) : Bool := ops.all quiet
theorem noDefer_at {ops : List Oper} (h : noDefer ops = true) (i : Nat) (o : Oper) (ho : ops.toArray[i]? = some o) : quiet o = true :=
  List.all_eq_true.1 h o (List.mem_of_getElem? (by simpa using ho))
end
section
variable {P : Program} {E : Env} {B : Bs} {io : List PV} {r : Option Nat} {n : Nat} {Q : Exit → Act → World → Prop}
/-- A region in its order: what the pure machine comes to, the machine comes to. -/
theorem regionIn_ok (hE : EnvOk P E) (hgl : E.globs = B.gl) {id : Nat} {ops : List Oper} {nx : Nat} {tm tm' : List (Nat × PV)} {h h' : Hp} {g : Gh} {A : Nat → Prop} {a : Act} {w : World}
    (e : (opsD E ops ops nx tm h [] (fun tm hp _ => .done (tm, hp))).ev (fun _ _ => (none : Option (List (Nat × PV) × Hp))) = some (tm', h')) (hnt : dstOk B.nt ops = true) (hnd : noDefer ops = true) (R : RS B g A a w tm h io)
    (fin : ∀ g A a' w, RS B g A a' w tm' h' io → (∀ t, (∀ o ∈ ops, o.dst ≠ some t) → a'.tmps.getD t undef = a.tmps.getD t undef) → Q .normal a' w) : (Code.region id ops.toArray false).wpIn (rnd r) n P Q a w := by
  obtain ⟨rc, tm1, hl, ran, htm, e2⟩ := opsD_ran (all := ops) (nx := nx) (tm0 := tm) (h0 := h) ops [] [] tm (by simp) rfl (fun _ => rfl) (fun j h => by simp at h) (by simpa [hpS] using e)
  simp only [DT.ev, Option.some.injEq, Prod.mk.injEq] at e2
  obtain ⟨rfl, rfl⟩ := e2
  refine wpIn_region (wpOps_to (Q0 := fun _ a' w' => ∃ g A, RS B g A a' w' tm1 (hpS (fun k => (rcAt rc k).ws) h (fun _ => true) ops.length) io) (noDefer_at hnd) _ _ _ (fun a' w' ⟨g, A, R'⟩ hf => fin g A a' w' R' (fun t ht => hf t (fun i _ o ho => ht o (List.mem_of_getElem? (by simpa using ho))))) ?_)
  have hz : ∀ {X : Nat → PV} n, tmS (dstOf ops) X tm (fun _ => false) n = tm := fun {X} n => by
    induction n with
    | zero => rfl
    | succ n ih => rw [tmS_succ]; exact ih
  have hz2 : ∀ {V : Nat → Hp} n, hpS V h (fun _ => false) n = h := fun {V} n => by
    induction n with
    | zero => rfl
    | succ n ih => rw [hpS_succ]; exact ih
  have hsz : ops.toArray.size = ops.length := by simp
  rw [hsz, List.range_eq_range']
  refine reg_seq hE hgl hl ran (dstOk_at hnt) (fun g A a w R' => ⟨rfl, g, A, R'.congr (fun t => (htm t).symm) (fun _ => rfl)⟩) ops.length 0 (by omega) g A a w ?_
  rw [tmS_ext (S' := fun _ => false) _ (fun k _ => by simp), hpS_ext (S' := fun _ => false) _ (fun k _ => by simp), hz, hz2]
  exact R
end
end Go.Proofs.YtkihjakbbcajbaaGreat.PM
