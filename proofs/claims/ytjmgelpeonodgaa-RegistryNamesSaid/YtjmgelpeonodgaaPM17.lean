/- Regions: a run of the operations in their order; the same in every order that the edges allow. -/
import Derived.Test.YtjmgelpeonodgaaPM16
namespace Go.Proofs.Ytjmgelpeonodgaa.PM
set_option linter.unusedSimpArgs false
set_option linter.unusedVariables false
open Go

theorem look_putT (tm : List (Nat × PV)) (d : Option Nat) (x : PV) (t : Nat) : look t (putT tm d x) = if d = some t then some x else look t tm := by
  cases d with
  | none => simp [putT]
  | some d =>
    simp only [putT, look_cons, Option.some.injEq]
    by_cases h : t = d
    · rw [if_pos h, if_pos h.symm]
    · rw [if_neg h, if_neg (fun e => h e.symm)]
theorem look_app (i : Nat) : ∀ (ws h : Hp), look i (ws ++ h) = if i ∈ ws.map (·.1) then look i ws else look i h
  | [], h => by simp
  | (j, o) :: ws, h => by
    rw [List.cons_append, look_cons, look_cons, look_app i ws h]
    by_cases e : i = j
    · subst e
      rw [if_pos rfl, if_pos (by simp), if_pos rfl]
    · rw [if_neg e, if_neg e, List.map_cons]
      by_cases m : i ∈ ws.map (·.1)
      · rw [if_pos m, if_pos (List.mem_cons_of_mem _ m)]
      · rw [if_neg m, if_neg (fun h => (List.mem_cons.1 h).elim e m)]
def tmS (D : Nat → Option Nat) (X : Nat → PV) (tm0 : List (Nat × PV)) (S : Nat → Bool) : Nat → List (Nat × PV)
  | 0 => tm0
  | j + 1 => cond (S j) (putT (tmS D X tm0 S j) (D j) (X j)) (tmS D X tm0 S j)
def hpS (V : Nat → Hp) (h0 : Hp) (S : Nat → Bool) : Nat → Hp
  | 0 => h0
  | j + 1 => cond (S j) (V j ++ hpS V h0 S j) (hpS V h0 S j)
def addS (S : Nat → Bool) (j : Nat) : Nat → Bool := fun k => S k || decide (k = j)
section
variable {D : Nat → Option Nat} {X : Nat → PV} {V : Nat → Hp} {tm0 : List (Nat × PV)} {h0 : Hp} {S S' : Nat → Bool}
theorem tmS_succ (n : Nat) : tmS D X tm0 S (n + 1) = cond (S n) (putT (tmS D X tm0 S n) (D n) (X n)) (tmS D X tm0 S n) := rfl
theorem hpS_succ (n : Nat) : hpS V h0 S (n + 1) = cond (S n) (V n ++ hpS V h0 S n) (hpS V h0 S n) := rfl
theorem tmS_ext : ∀ (n : Nat), (∀ k, k < n → S k = S' k) → tmS D X tm0 S n = tmS D X tm0 S' n
  | 0, _ => rfl
  | n + 1, h => by unfold tmS; rw [h n (by omega), tmS_ext n (fun k hk => h k (by omega))]
theorem hpS_ext : ∀ (n : Nat), (∀ k, k < n → S k = S' k) → hpS V h0 S n = hpS V h0 S' n
  | 0, _ => rfl
  | n + 1, h => by unfold hpS; rw [h n (by omega), hpS_ext n (fun k hk => h k (by omega))]
theorem tmS_X {X' : Nat → PV} : ∀ (n : Nat), (∀ k, k < n → X k = X' k) → tmS D X tm0 S n = tmS D X' tm0 S n
  | 0, _ => rfl
  | n + 1, h => by unfold tmS; rw [h n (by omega), tmS_X n (fun k hk => h k (by omega))]
theorem hpS_V {V' : Nat → Hp} : ∀ (n : Nat), (∀ k, k < n → V k = V' k) → hpS V h0 S n = hpS V' h0 S n
  | 0, _ => rfl
  | n + 1, h => by unfold hpS; rw [h n (by omega), hpS_V n (fun k hk => h k (by omega))]
theorem tmS_trunc {j : Nat} : ∀ (n : Nat), j ≤ n → tmS D X tm0 (fun k => decide (k < j)) n = tmS D X tm0 (fun _ => true) j
  | 0, h => by obtain rfl : j = 0 := by omega
               rfl
  | n + 1, h => by
    by_cases e : j = n + 1
    · subst e; exact tmS_ext _ (fun k hk => by simp [hk])
    · have hn : decide (n < j) = false := by simp; omega
      rw [tmS_succ, hn]; exact tmS_trunc (j := j) n (show j ≤ n by omega)
theorem hpS_trunc {j : Nat} : ∀ (n : Nat), j ≤ n → hpS V h0 (fun k => decide (k < j)) n = hpS V h0 (fun _ => true) j
  | 0, h => by obtain rfl : j = 0 := by omega
               rfl
  | n + 1, h => by
    by_cases e : j = n + 1
    · subst e; exact hpS_ext _ (fun k hk => by simp [hk])
    · have hn : decide (n < j) = false := by simp; omega
      rw [hpS_succ, hn]; exact hpS_trunc (j := j) n (show j ≤ n by omega)
theorem tmS_congr {t : Nat} : ∀ (n : Nat), (∀ k, k < n → D k = some t → S k = S' k) → look t (tmS D X tm0 S n) = look t (tmS D X tm0 S' n)
  | 0, _ => rfl
  | n + 1, h => by
    have ih := tmS_congr n (fun k hk => h k (by omega))
    unfold tmS
    by_cases hd : D n = some t
    · rw [h n (by omega) hd]
      cases S' n
      · exact ih
      · simp only [cond_true, look_putT, hd, if_true]
    · cases S n <;> cases S' n <;> simp only [cond_true, cond_false, look_putT, hd, if_false] <;> exact ih
theorem hpS_congr {i : Nat} : ∀ (n : Nat), (∀ k, k < n → i ∈ (V k).map (·.1) → S k = S' k) → look i (hpS V h0 S n) = look i (hpS V h0 S' n)
  | 0, _ => rfl
  | n + 1, h => by
    have ih := hpS_congr n (fun k hk => h k (by omega))
    unfold hpS
    by_cases hd : i ∈ (V n).map (·.1)
    · rw [h n (by omega) hd]
      cases S' n
      · exact ih
      · simp only [cond_true, look_app, hd, if_true]
    · cases S n <;> cases S' n <;> simp only [cond_true, cond_false, look_app, hd, if_false] <;> exact ih
theorem tmS_add {t j : Nat} (hj : S j = false) : ∀ (n : Nat), j < n → (∀ k, j < k → k < n → S k = true → D k = some t → D j ≠ some t) →
    look t (tmS D X tm0 (addS S j) n) = look t (putT (tmS D X tm0 S n) (D j) (X j))
  | 0, h, _ => by omega
  | n + 1, hn, h => by
    rw [look_putT]
    by_cases e : j = n
    · subst e
      have h1 : addS S j j = true := by simp [addS]
      have h2 : tmS D X tm0 (addS S j) j = tmS D X tm0 S j := tmS_ext _ (fun k hk => by
        have : k ≠ j := by omega
        simp [addS, this])
      unfold tmS
      rw [h1, hj, h2]
      simp only [cond_true, cond_false, look_putT]
    · have ih := tmS_add hj n (by omega) (fun k h1 h2 => h k h1 (by omega))
      rw [look_putT] at ih
      have h1 : addS S j n = S n := by
        have : n ≠ j := fun e' => e e'.symm
        simp [addS, this]
      unfold tmS
      rw [h1]
      cases hs : S n with
      | false => simpa using ih
      | true =>
        simp only [cond_true, look_putT]
        by_cases hd : D n = some t
        · have := h n (by omega) (by omega) hs hd
          simp [hd, this]
        · simp only [hd, if_false]; exact ih
theorem hpS_add {i j : Nat} (hj : S j = false) : ∀ (n : Nat), j < n → (∀ k, j < k → k < n → S k = true → i ∈ (V k).map (·.1) → ¬ i ∈ (V j).map (·.1)) →
    look i (hpS V h0 (addS S j) n) = look i (V j ++ hpS V h0 S n)
  | 0, h, _ => by omega
  | n + 1, hn, h => by
    rw [look_app]
    by_cases e : j = n
    · subst e
      have h1 : addS S j j = true := by simp [addS]
      have h2 : hpS V h0 (addS S j) j = hpS V h0 S j := hpS_ext _ (fun k hk => by
        have : k ≠ j := by omega
        simp [addS, this])
      unfold hpS
      rw [h1, hj, h2]
      simp only [cond_true, cond_false, look_app]
    · have ih := hpS_add hj n (by omega) (fun k h1 h2 => h k h1 (by omega))
      rw [look_app] at ih
      have h1 : addS S j n = S n := by
        have : n ≠ j := fun e' => e e'.symm
        simp [addS, this]
      unfold hpS
      rw [h1]
      cases hs : S n with
      | false => simpa using ih
      | true =>
        simp only [cond_true, look_app]
        by_cases hd : i ∈ (V n).map (·.1)
        · have := h n (by omega) (by omega) hs hd
          simp only [hd, this, if_true, if_false]
        · simp only [hd, if_false]; exact ih
end
/- one operation behind its guard -/
def Runs (all : List Oper) (tm : List (Nat × PV)) (o : Oper) : Prop := o.guard = none ∨ ∃ i b d, o.guard = some (i, b) ∧ dstOf all i = some d ∧ look d tm = some (.v .bool b)
def Skips (all : List Oper) (tm : List (Nat × PV)) (o : Oper) : Prop := ∃ i b d, o.guard = some (i, b) ∧ dstOf all i = some d ∧ (look d tm = some (.v .bool (!b)) ∨ look d tm = some .undef)
theorem known (tm : List (Nat × PV)) (d : Nat) (b : Bool) (h : look d tm = some (.v .bool b)) (t : Nat) : look t ((d, .v .bool b) :: tm) = look t tm := by
  rw [look_cons]; split
  · rename_i e; rw [e, h]
  · rfl
theorem putT_congr {tm tm' : List (Nat × PV)} (h : ∀ t, look t tm = look t tm') (d : Option Nat) (x : PV) (t : Nat) : look t (putT tm d x) = look t (putT tm' d x) := by
  rw [look_putT, look_putT, h]
theorem opD_ran {ρ : Type} {f : List It → St → Option ρ} {res : ρ} {E : Env} {all : List Oper} {o : Oper} {nw : Nat} {tm : List (Nat × PV)} {hp : Hp} {K : List (Nat × PV) → Hp → List Nat → List Nat → DT ρ} (e : (opD E all o nw tm hp K).ev f = some res) :
    ∃ x ws rs tm1, ((Runs all tm o ∧ (opQ E tm o nw).OkT hp x ws rs) ∨ (Skips all tm o ∧ x = .undef ∧ ws = [] ∧ rs = [])) ∧ (∀ t, look t tm1 = look t (putT tm o.dst x)) ∧ (K tm1 (ws ++ hp) rs.reverse (ws.map (·.1))).ev f = some res := by
  unfold opD at e
  split at e
  · rename_i hg
    obtain ⟨x, ws, rs, h1, h2⟩ := toD_evT _ _ _ _ _ e
    exact ⟨x, ws, rs, _, .inl ⟨.inl hg, h1⟩, fun _ => rfl, by simpa using h2⟩
  · rename_i j want hg
    split at e
    · simp [DT.ev] at e
    · rename_i d hd
      split at e
      · rename_i b hl
        cases want with
        | true =>
          simp only [DT.ev] at e
          cases b with
          | true =>
            simp only [cond_true] at e
            obtain ⟨x, ws, rs, h1, h2⟩ := toD_evT _ _ _ _ _ e
            rw [opQ_congr (tm' := tm) (fun t _ => known tm d true hl t)] at h1
            exact ⟨x, ws, rs, _, .inl ⟨.inr ⟨j, true, d, hg, hd, hl⟩, h1⟩, fun t => putT_congr (known tm d true hl) _ _ t, by simpa using h2⟩
          | false =>
            simp only [cond_false] at e
            exact ⟨.undef, [], [], _, .inr ⟨⟨j, true, d, hg, hd, .inl hl⟩, rfl, rfl, rfl⟩, fun t => putT_congr (known tm d false hl) _ _ t, e⟩
        | false =>
          simp only [DT.ev] at e
          cases b with
          | true =>
            simp only [cond_true] at e
            exact ⟨.undef, [], [], _, .inr ⟨⟨j, false, d, hg, hd, .inl hl⟩, rfl, rfl, rfl⟩, fun t => putT_congr (known tm d true hl) _ _ t, e⟩
          | false =>
            simp only [cond_false] at e
            obtain ⟨x, ws, rs, h1, h2⟩ := toD_evT _ _ _ _ _ e
            rw [opQ_congr (tm' := tm) (fun t _ => known tm d false hl t)] at h1
            exact ⟨x, ws, rs, _, .inl ⟨.inr ⟨j, false, d, hg, hd, hl⟩, h1⟩, fun t => putT_congr (known tm d false hl) _ _ t, by simpa using h2⟩
      · rename_i hl
        exact ⟨.undef, [], [], _, .inr ⟨⟨j, want, d, hg, hd, .inr hl⟩, rfl, rfl, rfl⟩, fun t => rfl, e⟩
      · simp [DT.ev] at e
structure Rc where
  x : PV
  ws : Hp
  rs : List Nat
def rcAt (rc : List Rc) (k : Nat) : Rc := rc.getD k ⟨.undef, [], []⟩
def RanAt (E : Env) (all : List Oper) (nx : Nat) (tm0 : List (Nat × PV)) (h0 : Hp) (rc : List Rc) (j : Nat) : Prop :=
  let tm := tmS (dstOf all) (fun k => (rcAt rc k).x) tm0 (fun _ => true) j
  let hp := hpS (fun k => (rcAt rc k).ws) h0 (fun _ => true) j
  ∃ o, all[j]? = some o ∧ ((Runs all tm o ∧ (opQ E tm o (nx + 64 * j)).OkT hp (rcAt rc j).x (rcAt rc j).ws (rcAt rc j).rs) ∨ (Skips all tm o ∧ (rcAt rc j).x = .undef ∧ (rcAt rc j).ws = [] ∧ (rcAt rc j).rs = []))
theorem rcAt_lt {rc : List Rc} {r : Rc} {k : Nat} (h : k < rc.length) : rcAt (rc ++ [r]) k = rcAt rc k := by
  unfold rcAt; simp [List.getD, List.getElem?_append_left h]
theorem rcAt_last {rc : List Rc} {r : Rc} : rcAt (rc ++ [r]) rc.length = r := by
  unfold rcAt; simp [List.getD]
theorem runs_congr {all : List Oper} {tm tm' : List (Nat × PV)} {o : Oper} (h : ∀ t, look t tm = look t tm') (r : Runs all tm o) : Runs all tm' o :=
  r.imp id (fun ⟨i, b, d, h1, h2, h3⟩ => ⟨i, b, d, h1, h2, by rw [← h]; exact h3⟩)
theorem skips_congr {all : List Oper} {tm tm' : List (Nat × PV)} {o : Oper} (h : ∀ t, look t tm = look t tm') (r : Skips all tm o) : Skips all tm' o := by
  obtain ⟨i, b, d, h1, h2, h3⟩ := r
  exact ⟨i, b, d, h1, h2, by rw [← h]; exact h3⟩
theorem opsD_ran {ρ : Type} {f : List It → St → Option ρ} {res : ρ} {E : Env} {all : List Oper} {nx : Nat} {tm0 : List (Nat × PV)} {h0 : Hp} {K : List (Nat × PV) → Hp → List (List Nat × List Nat) → DT ρ} :
    ∀ (os pre : List Oper) (rc : List Rc) (tm : List (Nat × PV)), all = pre ++ os → rc.length = pre.length → (∀ t, look t tm = look t (tmS (dstOf all) (fun k => (rcAt rc k).x) tm0 (fun _ => true) pre.length)) →
    (∀ j, j < pre.length → RanAt E all nx tm0 h0 rc j) → (opsD E all os (nx + 64 * pre.length) tm (hpS (fun k => (rcAt rc k).ws) h0 (fun _ => true) pre.length) (rc.map fun r => (r.rs.reverse, r.ws.map (·.1))) K).ev f = some res →
    ∃ rc' tm', rc'.length = all.length ∧ (∀ j, j < all.length → RanAt E all nx tm0 h0 rc' j) ∧ (∀ t, look t tm' = look t (tmS (dstOf all) (fun k => (rcAt rc' k).x) tm0 (fun _ => true) all.length)) ∧
      (K tm' (hpS (fun k => (rcAt rc' k).ws) h0 (fun _ => true) all.length) (rc'.map fun r => (r.rs.reverse, r.ws.map (·.1)))).ev f = some res
  | [], pre, rc, tm, ha, hl, ht, hr, e => by
    have ha' : all = pre := by simpa using ha
    subst ha'
    exact ⟨rc, tm, hl, hr, ht, e⟩
  | o :: os, pre, rc, tm, ha, hl, ht, hr, e => by
    unfold opsD at e
    obtain ⟨x, ws, rs, tm1, h1, h2, h3⟩ := opD_ran e
    have hj : all[pre.length]? = some o := by rw [ha]; simp
    have hd : dstOf all pre.length = o.dst := by unfold dstOf; rw [hj]; rfl
    have hx : ∀ k, k < pre.length → rcAt (rc ++ [⟨x, ws, rs⟩]) k = rcAt rc k := fun k hk => rcAt_lt (by omega)
    have hlast : rcAt (rc ++ [⟨x, ws, rs⟩]) pre.length = ⟨x, ws, rs⟩ := by rw [← hl]; exact rcAt_last
    have htm : ∀ j, j ≤ pre.length → tmS (dstOf all) (fun k => (rcAt (rc ++ [⟨x, ws, rs⟩]) k).x) tm0 (fun _ => true) j = tmS (dstOf all) (fun k => (rcAt rc k).x) tm0 (fun _ => true) j := fun j hj => tmS_X j (fun k hk => by rw [hx k (by omega)])
    have hhp : ∀ j, j ≤ pre.length → hpS (fun k => (rcAt (rc ++ [⟨x, ws, rs⟩]) k).ws) h0 (fun _ => true) j = hpS (fun k => (rcAt rc k).ws) h0 (fun _ => true) j := fun j hj => hpS_V j (fun k hk => by rw [hx k (by omega)])
    refine opsD_ran os (pre ++ [o]) (rc ++ [⟨x, ws, rs⟩]) tm1 (by simpa using ha) (by simp [hl]) (fun t => ?_) (fun j hj' => ?_) ?_
    · rw [h2, List.length_append]
      show _ = look t (tmS _ _ _ _ (pre.length + 1))
      unfold tmS
      rw [htm _ (Nat.le_refl _), hd, hlast]
      exact putT_congr ht _ _ t
    · rw [List.length_append] at hj'
      have hj'' : j < pre.length + 1 := hj'
      by_cases hjp : j < pre.length
      · obtain ⟨o', q1, q2⟩ := hr j hjp
        unfold RanAt
        simp only [htm j (by omega), hhp j (by omega), hx j hjp]
        exact ⟨o', q1, q2⟩
      · obtain rfl : j = pre.length := by omega
        unfold RanAt
        simp only [htm _ (Nat.le_refl _), hhp _ (Nat.le_refl _), hlast]
        refine ⟨o, hj, h1.imp (fun ⟨q1, q2⟩ => ⟨runs_congr ht q1, ?_⟩) (fun ⟨q1, q2⟩ => ⟨skips_congr ht q1, q2⟩)⟩
        rw [← opQ_congr (tm := tm) (fun t _ => ht t)]; exact q2
    · have hh : hpS (fun k => (rcAt (rc ++ [⟨x, ws, rs⟩]) k).ws) h0 (fun _ => true) (pre ++ [o]).length = ws ++ hpS (fun k => (rcAt rc k).ws) h0 (fun _ => true) pre.length := by
        rw [List.length_append]
        show hpS _ _ _ (pre.length + 1) = _
        rw [hpS_succ, hhp _ (Nat.le_refl _), hlast]; rfl
      rw [hh]
      have h64 : nx + 64 * (pre ++ [o]).length = nx + 64 * pre.length + 64 := by simp [Nat.mul_add]; omega
      rw [h64]
      simpa using h3
end Go.Proofs.Ytjmgelpeonodgaa.PM
