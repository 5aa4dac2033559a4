/- Footprints: what an operation of the pure machine reads and writes; the same elsewhere. -/
import Derived.Test.YtkihjakbbcajbaaGreatPM15
namespace Go.Proofs.YtkihjakbbcajbaaGreat.PM
set_option linter.unusedSimpArgs false
set_option linter.unusedVariables false
open Go

/-- A step's answer, what it wrote (the last first), what it read. -/
def Q.OkT {α : Type} : Q α → Hp → α → Hp → List Nat → Prop
  | .ret x, _, a, ws, rs => a = x ∧ ws = [] ∧ rs = []
  | .fail, _, _, _, _ => False
  | .rd id k, h, a, ws, rs => ∃ b rs', h.at id = some b ∧ (k b).OkT h a ws rs' ∧ rs = id :: rs'
  | .wr id b k, h, a, ws, rs => ∃ ws', (∃ o, look id h = some o) ∧ k.OkT ((id, b) :: h) a ws' rs ∧ ws = ws' ++ [(id, b)]
  | .new id b k, h, a, ws, rs => ∃ ws', look id h = none ∧ k.OkT ((id, some b) :: h) a ws' rs ∧ ws = ws' ++ [(id, some b)]
  | .ask b k, h, a, ws, rs => b = true ∧ k.OkT h a ws rs
  | .br b x y, h, a, ws, rs => (b = true ∧ x.OkT h a ws rs) ∨ (b = false ∧ y.OkT h a ws rs)
  | .opt o k, h, a, ws, rs => ∃ v, o = some v ∧ (k v).OkT h a ws rs
theorem OkT_Ok {α : Type} : ∀ (q : Q α) (h : Hp) (a : α) (ws : Hp) (rs : List Nat), q.OkT h a ws rs → q.Ok h a (ws ++ h)
  | .ret x, h, a, ws, rs, ⟨e1, e2, _⟩ => by subst e2; exact ⟨e1, rfl⟩
  | .fail, _, _, _, _, e => e
  | .rd id k, h, a, ws, rs, ⟨b, rs', hb, e, _⟩ => ⟨b, hb, OkT_Ok (k b) h a ws rs' e⟩
  | .wr id b k, h, a, ws, rs, ⟨ws', hb, e, hw⟩ => by
    subst hw
    refine ⟨hb, ?_⟩
    have := OkT_Ok k ((id, b) :: h) a ws' rs e
    simpa using this
  | .new id b k, h, a, ws, rs, ⟨ws', hb, e, hw⟩ => by
    subst hw
    refine ⟨hb, ?_⟩
    have := OkT_Ok k ((id, some b) :: h) a ws' rs e
    simpa using this
  | .ask b k, h, a, ws, rs, ⟨hb, e⟩ => ⟨hb, OkT_Ok k h a ws rs e⟩
  | .br b x y, h, a, ws, rs, e => e.imp (fun ⟨hb, e⟩ => ⟨hb, OkT_Ok x h a ws rs e⟩) (fun ⟨hb, e⟩ => ⟨hb, OkT_Ok y h a ws rs e⟩)
  | .opt o k, h, a, ws, rs, ⟨v, hv, e⟩ => ⟨v, hv, OkT_Ok (k v) h a ws rs e⟩
/-- What a step reads and writes being alike, it does the same. -/
theorem OkT_frame {α : Type} : ∀ (q : Q α) (h k : Hp) (a : α) (ws : Hp) (rs : List Nat), q.OkT h a ws rs → (∀ i, i ∈ rs ∨ i ∈ ws.map (·.1) → look i k = look i h) → q.OkT k a ws rs
  | .ret x, h, k, a, ws, rs, e, _ => e
  | .fail, _, _, _, _, _, e, _ => e
  | .rd id f, h, k, a, ws, rs, ⟨b, rs', hb, e, hr⟩, hk => by
    subst hr
    refine ⟨b, rs', ?_, OkT_frame (f b) h k a ws rs' e (fun i hi => hk i (hi.imp (fun h => List.mem_cons_of_mem _ h) (fun h => h))), rfl⟩
    unfold Hp.at at hb ⊢
    rw [hk id (.inl (by simp))]; exact hb
  | .wr id b f, h, k, a, ws, rs, ⟨ws', hb, e, hw⟩, hk => by
    subst hw
    refine ⟨ws', by rw [hk id (.inr (by simp))]; exact hb, OkT_frame f _ _ a ws' rs e (fun i hi => ?_), rfl⟩
    rw [look_cons, look_cons]
    split
    · rfl
    · exact hk i (hi.imp (fun h => h) (fun h => by simp at h ⊢; exact .inl h))
  | .new id b f, h, k, a, ws, rs, ⟨ws', hb, e, hw⟩, hk => by
    subst hw
    refine ⟨ws', by rw [hk id (.inr (by simp))]; exact hb, OkT_frame f _ _ a ws' rs e (fun i hi => ?_), rfl⟩
    rw [look_cons, look_cons]
    split
    · rfl
    · exact hk i (hi.imp (fun h => h) (fun h => by simp at h ⊢; exact .inl h))
  | .ask b f, h, k, a, ws, rs, ⟨hb, e⟩, hk => ⟨hb, OkT_frame f h k a ws rs e hk⟩
  | .br b x y, h, k, a, ws, rs, e, hk => e.imp (fun ⟨hb, e⟩ => ⟨hb, OkT_frame x h k a ws rs e hk⟩) (fun ⟨hb, e⟩ => ⟨hb, OkT_frame y h k a ws rs e hk⟩)
  | .opt o f, h, k, a, ws, rs, ⟨v, hv, e⟩, hk => ⟨v, hv, OkT_frame (f v) h k a ws rs e hk⟩
theorem toD_evT {α ρ : Type} {f : List It → St → Option ρ} {res : ρ} : ∀ (q : Q α) (h : Hp) (r w : List Nat) (K : α → Hp → List Nat → List Nat → DT ρ),
    (q.toD h r w K).ev f = some res → ∃ a ws rs, q.OkT h a ws rs ∧ (K a (ws ++ h) (rs.reverse ++ r) (ws.map (·.1) ++ w)).ev f = some res
  | .ret x, h, r, w, K, e => ⟨x, [], [], ⟨rfl, rfl, rfl⟩, e⟩
  | .fail, _, _, _, _, e => by simp [Q.toD, DT.ev] at e
  | .rd id k, h, r, w, K, e => by
    simp only [Q.toD] at e
    split at e
    · rename_i b hb
      obtain ⟨a, ws, rs, h1, h2⟩ := toD_evT (k b) h (id :: r) w K e
      exact ⟨a, ws, id :: rs, ⟨b, rs, hb, h1, rfl⟩, by simpa using h2⟩
    · simp [DT.ev] at e
  | .wr id b k, h, r, w, K, e => by
    simp only [Q.toD] at e
    split at e
    · rename_i o hb
      obtain ⟨a, ws, rs, h1, h2⟩ := toD_evT k ((id, b) :: h) r (id :: w) K e
      exact ⟨a, ws ++ [(id, b)], rs, ⟨ws, ⟨o, hb⟩, h1, rfl⟩, by simpa using h2⟩
    · simp [DT.ev] at e
  | .new id b k, h, r, w, K, e => by
    simp only [Q.toD] at e
    split at e
    · simp [DT.ev] at e
    · rename_i hb
      obtain ⟨a, ws, rs, h1, h2⟩ := toD_evT k ((id, some b) :: h) r (id :: w) K e
      exact ⟨a, ws ++ [(id, some b)], rs, ⟨ws, hb, h1, rfl⟩, by simpa using h2⟩
  | .ask b k, h, r, w, K, e => by
    simp only [Q.toD, DT.ev] at e
    cases b with
    | true =>
      obtain ⟨a, ws, rs, h1, h2⟩ := toD_evT k h r w K e
      exact ⟨a, ws, rs, ⟨rfl, h1⟩, h2⟩
    | false => simp at e
  | .br b x y, h, r, w, K, e => by
    simp only [Q.toD, DT.ev] at e
    cases b with
    | true =>
      obtain ⟨a, ws, rs, h1, h2⟩ := toD_evT x h r w K e
      exact ⟨a, ws, rs, .inl ⟨rfl, h1⟩, h2⟩
    | false =>
      obtain ⟨a, ws, rs, h1, h2⟩ := toD_evT y h r w K e
      exact ⟨a, ws, rs, .inr ⟨rfl, h1⟩, h2⟩
  | .opt o k, h, r, w, K, e => by
    simp only [Q.toD, DT.ev, Option.bind_eq_some_iff] at e
    obtain ⟨v, hv, e⟩ := e
    obtain ⟨a, ws, rs, h1, h2⟩ := toD_evT (k v) h r w K e
    exact ⟨a, ws, rs, ⟨v, hv, h1⟩, h2⟩
/- operands -/
theorem opd_congr {gl tm tm' : List (Nat × PV)} {x : Operand} (h : ∀ t, x = .tmp t → look t tm = look t tm') : opd gl tm x = opd gl tm' x := by
  cases x with
  | tmp t => exact h t rfl
  | _ => rfl
theorem opds_congr {gl tm tm' : List (Nat × PV)} : ∀ {xs : List Operand}, (∀ t, .tmp t ∈ xs → look t tm = look t tm') → opds gl tm xs = opds gl tm' xs
  | [], _ => rfl
  | x :: xs, h => by
    unfold opds
    rw [opd_congr (x := x) (fun t e => h t (by simp [e])), opds_congr (xs := xs) (fun t e => h t (by simp [e]))]
theorem partsQ_congr {gl tm tm' : List (Nat × PV)} : ∀ {xs : List (Nat × Operand)}, (∀ t, .tmp t ∈ xs.map (·.2) → look t tm = look t tm') → partsQ gl tm xs = partsQ gl tm' xs
  | [], _ => rfl
  | (i, x) :: xs, h => by
    unfold partsQ
    rw [opd_congr (x := x) (fun t e => h t (by simp [e])), partsQ_congr (xs := xs) (fun t e => h t (by simp at e ⊢; exact .inr e))]
theorem oopd_congr {gl tm tm' : List (Nat × PV)} {x : Option Operand} (h : ∀ t, x = some (.tmp t) → look t tm = look t tm') : oopd gl tm x = oopd gl tm' x := by
  cases x with
  | none => rfl
  | some x => simp only [oopd]; rw [opd_congr (x := x) (fun t e => h t (by rw [e]))]
theorem opQ_congr {E : Env} {tm tm' : List (Nat × PV)} {o : Oper} {nw : Nat} (h : ∀ t, .tmp t ∈ o.op.operands.toList → look t tm = look t tm') : opQ E tm o nw = opQ E tm' o nw := by
  unfold opQ
  cases hop : o.op with
  | call c =>
    rw [hop] at h
    simp only [Op.operands, Call.operands] at h
    simp only []
    rw [opds_congr (tm := tm) (tm' := tm') (fun t ht => h t (by simp at ht ⊢; exact .inr ht))]
    congr 1
    funext args
    cases hc : c.callee with
    | value f =>
      simp only []
      rw [opd_congr (tm := tm) (tm' := tm') (fun t ht => h t (by simp [hc, ht]))]
    | _ => rfl
  | makeFunc f first caps =>
    rw [hop] at h
    simp only []
    rw [opds_congr (tm := tm) (tm' := tm') (fun t ht => h t (by simp only [Op.operands, Array.toList_append, List.mem_append]; exact .inr ht))]
  | build t ps =>
    rw [hop] at h
    simp only []
    rw [partsQ_congr (tm := tm) (tm' := tm') (fun t ht => h t (by simpa [Op.operands] using ht))]
  | buildSlice t n ps =>
    rw [hop] at h
    simp only []
    rw [partsQ_congr (tm := tm) (tm' := tm') (fun t ht => h t (by simpa [Op.operands] using ht))]
  | slice t x lo hi mx =>
    rw [hop] at h
    simp only []
    rw [opd_congr (tm := tm) (tm' := tm') (fun t ht => h t (by simp [Op.operands, ht])), oopd_congr (tm := tm) (tm' := tm') (x := lo) (fun t ht => h t (by simp [Op.operands, ht])), oopd_congr (tm := tm) (tm' := tm') (x := hi) (fun t ht => h t (by simp [Op.operands, ht]))]
  | pick c a b =>
    rw [hop] at h
    simp only []
    rw [opd_congr (tm := tm) (tm' := tm') (x := c) (fun t ht => h t (by simp [Op.operands, ht])), opd_congr (tm := tm) (tm' := tm') (x := a) (fun t ht => h t (by simp [Op.operands, ht])), opd_congr (tm := tm) (tm' := tm') (x := b) (fun t ht => h t (by simp [Op.operands, ht]))]
  | store t a b | binOp _ _ a b _ | makeSlice t a b | indexAddr t a b | index t a b =>
    rw [hop] at h
    simp only []
    rw [opd_congr (tm := tm) (tm' := tm') (x := a) (fun t ht => h t (by simp [Op.operands, ht])), opd_congr (tm := tm) (tm' := tm') (x := b) (fun t ht => h t (by simp [Op.operands, ht]))]
  | move x | assign x | box _ x | load _ x | nilCheck x | unOp _ _ x | convert _ _ x | fieldAddr _ x _ | extract x _ =>
    rw [hop] at h
    simp only []
    rw [opd_congr (tm := tm) (tm' := tm') (x := x) (fun t ht => h t (by simp [Op.operands, ht]))]
  | _ => rfl
end Go.Proofs.YtkihjakbbcajbaaGreat.PM
namespace Go.Proofs.YtkihjakbbcajbaaGreat.PM
set_option linter.unusedSimpArgs false
set_option linter.unusedVariables false
open Go

theorem look_putT (tm : List (Nat × PV)) (d : Option Nat) (x : PV) (t : Nat) : look t (putT tm d x) = if d = some t then some x else look t tm := by
  cases d with
  | none => simp [putT]
  | some d =>
    simp only [putT, look_cons, Option.some.injEq]
    by_cases h : t = d
    · rw [if_pos h, if_pos h.symm]
    · rw [if_neg h, if_neg (fun e => h e.symm)]
theorem look_app (i : Nat) : ∀ (ws h : Hp), look i (ws ++ h) = if i ∈ ws.map (·.1) then look i ws else look i h
  | [], h => by simp
  | (j, o) :: ws, h => by
    rw [List.cons_append, look_cons, look_cons, look_app i ws h]
    by_cases e : i = j
    · subst e
      rw [if_pos rfl, if_pos (by simp), if_pos rfl]
    · rw [if_neg e, if_neg e, List.map_cons]
      by_cases m : i ∈ ws.map (·.1)
      · rw [if_pos m, if_pos (List.mem_cons_of_mem _ m)]
      · rw [if_neg m, if_neg (fun h => (List.mem_cons.1 h).elim e m)]
def tmS (D : Nat → Option Nat) (X : Nat → PV) (tm0 : List (Nat × PV)) (S : Nat → Bool) : Nat → List (Nat × PV)
  | 0 => tm0
  | j + 1 => cond (S j) (putT (tmS D X tm0 S j) (D j) (X j)) (tmS D X tm0 S j)
def hpS (V : Nat → Hp) (h0 : Hp) (S : Nat → Bool) : Nat → Hp
  | 0 => h0
  | j + 1 => cond (S j) (V j ++ hpS V h0 S j) (hpS V h0 S j)
def addS (S : Nat → Bool) (j : Nat) : Nat → Bool := fun k => S k || decide (k = j)
section
variable {D : Nat → Option Nat} {X : Nat → PV} {V : Nat → Hp} {tm0 : List (Nat × PV)} {h0 : Hp} {S S' : Nat → Bool}
theorem tmS_succ (n : Nat) : tmS D X tm0 S (n + 1) = cond (S n) (putT (tmS D X tm0 S n) (D n) (X n)) (tmS D X tm0 S n) := rfl
theorem hpS_succ (n : Nat) : hpS V h0 S (n + 1) = cond (S n) (V n ++ hpS V h0 S n) (hpS V h0 S n) := rfl
theorem tmS_ext : ∀ (n : Nat), (∀ k, k < n → S k = S' k) → tmS D X tm0 S n = tmS D X tm0 S' n
  | 0, _ => rfl
  | n + 1, h => by unfold tmS; rw [h n (by omega), tmS_ext n (fun k hk => h k (by omega))]
theorem hpS_ext : ∀ (n : Nat), (∀ k, k < n → S k = S' k) → hpS V h0 S n = hpS V h0 S' n
  | 0, _ => rfl
  | n + 1, h => by unfold hpS; rw [h n (by omega), hpS_ext n (fun k hk => h k (by omega))]
theorem tmS_X {X' : Nat → PV} : ∀ (n : Nat), (∀ k, k < n → X k = X' k) → tmS D X tm0 S n = tmS D X' tm0 S n
  | 0, _ => rfl
  | n + 1, h => by unfold tmS; rw [h n (by omega), tmS_X n (fun k hk => h k (by omega))]
theorem hpS_V {V' : Nat → Hp} : ∀ (n : Nat), (∀ k, k < n → V k = V' k) → hpS V h0 S n = hpS V' h0 S n
  | 0, _ => rfl
  | n + 1, h => by unfold hpS; rw [h n (by omega), hpS_V n (fun k hk => h k (by omega))]
theorem tmS_trunc {j : Nat} : ∀ (n : Nat), j ≤ n → tmS D X tm0 (fun k => decide (k < j)) n = tmS D X tm0 (fun _ => true) j
  | 0, h => by obtain rfl : j = 0 := by omega
               rfl
  | n + 1, h => by
    by_cases e : j = n + 1
    · subst e; exact tmS_ext _ (fun k hk => by simp [hk])
    · have hn : decide (n < j) = false := by simp; omega
      rw [tmS_succ, hn]; exact tmS_trunc (j := j) n (show j ≤ n by omega)
theorem hpS_trunc {j : Nat} : ∀ (n : Nat), j ≤ n → hpS V h0 (fun k => decide (k < j)) n = hpS V h0 (fun _ => true) j
  | 0, h => by obtain rfl : j = 0 := by omega
               rfl
  | n + 1, h => by
    by_cases e : j = n + 1
    · subst e; exact hpS_ext _ (fun k hk => by simp [hk])
    · have hn : decide (n < j) = false := by simp; omega
      rw [hpS_succ, hn]; exact hpS_trunc (j := j) n (show j ≤ n by omega)
theorem tmS_congr {t : Nat} : ∀ (n : Nat), (∀ k, k < n → D k = some t → S k = S' k) → look t (tmS D X tm0 S n) = look t (tmS D X tm0 S' n)
  | 0, _ => rfl
  | n + 1, h => by
    have ih := tmS_congr n (fun k hk => h k (by omega))
    unfold tmS
    by_cases hd : D n = some t
    · rw [h n (by omega) hd]
      cases S' n
      · exact ih
      · simp only [cond_true, look_putT, hd, if_true]
    · cases S n <;> cases S' n <;> simp only [cond_true, cond_false, look_putT, hd, if_false] <;> exact ih
theorem hpS_congr {i : Nat} : ∀ (n : Nat), (∀ k, k < n → i ∈ (V k).map (·.1) → S k = S' k) → look i (hpS V h0 S n) = look i (hpS V h0 S' n)
  | 0, _ => rfl
  | n + 1, h => by
    have ih := hpS_congr n (fun k hk => h k (by omega))
    unfold hpS
    by_cases hd : i ∈ (V n).map (·.1)
    · rw [h n (by omega) hd]
      cases S' n
      · exact ih
      · simp only [cond_true, look_app, hd, if_true]
    · cases S n <;> cases S' n <;> simp only [cond_true, cond_false, look_app, hd, if_false] <;> exact ih
theorem tmS_add {t j : Nat} (hj : S j = false) : ∀ (n : Nat), j < n → (∀ k, j < k → k < n → S k = true → D k = some t → D j ≠ some t) →
    look t (tmS D X tm0 (addS S j) n) = look t (putT (tmS D X tm0 S n) (D j) (X j))
  | 0, h, _ => by omega
  | n + 1, hn, h => by
    rw [look_putT]
    by_cases e : j = n
    · subst e
      have h1 : addS S j j = true := by simp [addS]
      have h2 : tmS D X tm0 (addS S j) j = tmS D X tm0 S j := tmS_ext _ (fun k hk => by
        have : k ≠ j := by omega
        simp [addS, this])
      unfold tmS
      rw [h1, hj, h2]
      simp only [cond_true, cond_false, look_putT]
    · have ih := tmS_add hj n (by omega) (fun k h1 h2 => h k h1 (by omega))
      rw [look_putT] at ih
      have h1 : addS S j n = S n := by
        have : n ≠ j := fun e' => e e'.symm
        simp [addS, this]
      unfold tmS
      rw [h1]
      cases hs : S n with
      | false => simpa using ih
      | true =>
        simp only [cond_true, look_putT]
        by_cases hd : D n = some t
        · have := h n (by omega) (by omega) hs hd
          simp [hd, this]
        · simp only [hd, if_false]; exact ih
theorem hpS_add {i j : Nat} (hj : S j = false) : ∀ (n : Nat), j < n → (∀ k, j < k → k < n → S k = true → i ∈ (V k).map (·.1) → ¬ i ∈ (V j).map (·.1)) →
    look i (hpS V h0 (addS S j) n) = look i (V j ++ hpS V h0 S n)
  | 0, h, _ => by omega
  | n + 1, hn, h => by
    rw [look_app]
    by_cases e : j = n
    · subst e
      have h1 : addS S j j = true := by simp [addS]
      have h2 : hpS V h0 (addS S j) j = hpS V h0 S j := hpS_ext _ (fun k hk => by
        have : k ≠ j := by omega
        simp [addS, this])
      unfold hpS
      rw [h1, hj, h2]
      simp only [cond_true, cond_false, look_app]
    · have ih := hpS_add hj n (by omega) (fun k h1 h2 => h k h1 (by omega))
      rw [look_app] at ih
      have h1 : addS S j n = S n := by
        have : n ≠ j := fun e' => e e'.symm
        simp [addS, this]
      unfold hpS
      rw [h1]
      cases hs : S n with
      | false => simpa using ih
      | true =>
        simp only [cond_true, look_app]
        by_cases hd : i ∈ (V n).map (·.1)
        · have := h n (by omega) (by omega) hs hd
          simp only [hd, this, if_true, if_false]
        · simp only [hd, if_false]; exact ih
end
/- one operation behind its guard -/
def Runs (all : List Oper) (tm : List (Nat × PV)) (o : Oper) : Prop := o.guard = none ∨ ∃ i b d, o.guard = some (i, b) ∧ dstOf all i = some d ∧ look d tm = some (.v .bool b)
def Skips (all : List Oper) (tm : List (Nat × PV)) (o : Oper) : Prop := ∃ i b d, o.guard = some (i, b) ∧ dstOf all i = some d ∧ (look d tm = some (.v .bool (!b)) ∨ look d tm = some .undef)
theorem known (tm : List (Nat × PV)) (d : Nat) (b : Bool) (h : look d tm = some (.v .bool b)) (t : Nat) : look t ((d, .v .bool b) :: tm) = look t tm := by
  rw [look_cons]; split
  · rename_i e; rw [e, h]
  · rfl
theorem putT_congr {tm tm' : List (Nat × PV)} (h : ∀ t, look t tm = look t tm') (d : Option Nat) (x : PV) (t : Nat) : look t (putT tm d x) = look t (putT tm' d x) := by
  rw [look_putT, look_putT, h]
theorem opD_ran {ρ : Type} {f : List It → St → Option ρ} {res : ρ} {E : Env} {all : List Oper} {o : Oper} {nw : Nat} {tm : List (Nat × PV)} {hp : Hp} {K : List (Nat × PV) → Hp → List Nat → List Nat → DT ρ} (e : (opD E all o nw tm hp K).ev f = some res) :
    ∃ x ws rs tm1, ((Runs all tm o ∧ (opQ E tm o nw).OkT hp x ws rs) ∨ (Skips all tm o ∧ x = .undef ∧ ws = [] ∧ rs = [])) ∧ (∀ t, look t tm1 = look t (putT tm o.dst x)) ∧ (K tm1 (ws ++ hp) rs.reverse (ws.map (·.1))).ev f = some res := by
  unfold opD at e
  split at e
  · rename_i hg
    obtain ⟨x, ws, rs, h1, h2⟩ := toD_evT _ _ _ _ _ e
    exact ⟨x, ws, rs, _, .inl ⟨.inl hg, h1⟩, fun _ => rfl, by simpa using h2⟩
  · rename_i j want hg
    split at e
    · simp [DT.ev] at e
    · rename_i d hd
      split at e
      · rename_i b hl
        cases want with
        | true =>
          simp only [DT.ev] at e
          cases b with
          | true =>
            simp only [cond_true] at e
            obtain ⟨x, ws, rs, h1, h2⟩ := toD_evT _ _ _ _ _ e
            rw [opQ_congr (tm' := tm) (fun t _ => known tm d true hl t)] at h1
            exact ⟨x, ws, rs, _, .inl ⟨.inr ⟨j, true, d, hg, hd, hl⟩, h1⟩, fun t => putT_congr (known tm d true hl) _ _ t, by simpa using h2⟩
          | false =>
            simp only [cond_false] at e
            exact ⟨.undef, [], [], _, .inr ⟨⟨j, true, d, hg, hd, .inl hl⟩, rfl, rfl, rfl⟩, fun t => putT_congr (known tm d false hl) _ _ t, e⟩
        | false =>
          simp only [DT.ev] at e
          cases b with
          | true =>
            simp only [cond_true] at e
            exact ⟨.undef, [], [], _, .inr ⟨⟨j, false, d, hg, hd, .inl hl⟩, rfl, rfl, rfl⟩, fun t => putT_congr (known tm d true hl) _ _ t, e⟩
          | false =>
            simp only [cond_false] at e
            obtain ⟨x, ws, rs, h1, h2⟩ := toD_evT _ _ _ _ _ e
            rw [opQ_congr (tm' := tm) (fun t _ => known tm d false hl t)] at h1
            exact ⟨x, ws, rs, _, .inl ⟨.inr ⟨j, false, d, hg, hd, hl⟩, h1⟩, fun t => putT_congr (known tm d false hl) _ _ t, by simpa using h2⟩
      · rename_i hl
        exact ⟨.undef, [], [], _, .inr ⟨⟨j, want, d, hg, hd, .inr hl⟩, rfl, rfl, rfl⟩, fun t => rfl, e⟩
      · simp [DT.ev] at e
structure Rc where
  x : PV
  ws : Hp
  rs : List Nat
def rcAt (rc : List Rc) (k : Nat) : Rc := rc.getD k ⟨.undef, [], []⟩
def RanAt (E : Env) (all : List Oper) (nx : Nat) (tm0 : List (Nat × PV)) (h0 : Hp) (rc : List Rc) (j : Nat) : Prop :=
  let tm := tmS (dstOf all) (fun k => (rcAt rc k).x) tm0 (fun _ => true) j
  let hp := hpS (fun k => (rcAt rc k).ws) h0 (fun _ => true) j
  ∃ o, all[j]? = some o ∧ ((Runs all tm o ∧ (opQ E tm o (nx + 64 * j)).OkT hp (rcAt rc j).x (rcAt rc j).ws (rcAt rc j).rs) ∨ (Skips all tm o ∧ (rcAt rc j).x = .undef ∧ (rcAt rc j).ws = [] ∧ (rcAt rc j).rs = []))
theorem rcAt_lt {rc : List Rc} {r : Rc} {k : Nat} (h : k < rc.length) : rcAt (rc ++ [r]) k = rcAt rc k := by
  unfold rcAt; simp [List.getD, List.getElem?_append_left h]
theorem rcAt_last {rc : List Rc} {r : Rc} : rcAt (rc ++ [r]) rc.length = r := by
  unfold rcAt; simp [List.getD]
theorem runs_congr {all : List Oper} {tm tm' : List (Nat × PV)} {o : Oper} (h : ∀ t, look t tm = look t tm') (r : Runs all tm o) : Runs all tm' o :=
  r.imp id (fun ⟨i, b, d, h1, h2, h3⟩ => ⟨i, b, d, h1, h2, by rw [← h]; exact h3⟩)
theorem skips_congr {all : List Oper} {tm tm' : List (Nat × PV)} {o : Oper} (h : ∀ t, look t tm = look t tm') (r : Skips all tm o) : Skips all tm' o := by
  obtain ⟨i, b, d, h1, h2, h3⟩ := r
  exact ⟨i, b, d, h1, h2, by rw [← h]; exact h3⟩
theorem opsD_ran {ρ : Type} {f : List It → St → Option ρ} {res : ρ} {E : Env} {all : List Oper} {nx : Nat} {tm0 : List (Nat × PV)} {h0 : Hp} {K : List (Nat × PV) → Hp → List (List Nat × List Nat) → DT ρ} :
    ∀ (os pre : List Oper) (rc : List Rc) (tm : List (Nat × PV)), all = pre ++ os → rc.length = pre.length → (∀ t, look t tm = look t (tmS (dstOf all) (fun k => (rcAt rc k).x) tm0 (fun _ => true) pre.length)) →
    (∀ j, j < pre.length → RanAt E all nx tm0 h0 rc j) → (opsD E all os (nx + 64 * pre.length) tm (hpS (fun k => (rcAt rc k).ws) h0 (fun _ => true) pre.length) (rc.map fun r => (r.rs.reverse, r.ws.map (·.1))) K).ev f = some res →
    ∃ rc' tm', rc'.length = all.length ∧ (∀ j, j < all.length → RanAt E all nx tm0 h0 rc' j) ∧ (∀ t, look t tm' = look t (tmS (dstOf all) (fun k => (rcAt rc' k).x) tm0 (fun _ => true) all.length)) ∧
      (K tm' (hpS (fun k => (rcAt rc' k).ws) h0 (fun _ => true) all.length) (rc'.map fun r => (r.rs.reverse, r.ws.map (·.1)))).ev f = some res
  | [], pre, rc, tm, ha, hl, ht, hr, e => by
    have ha' : all = pre := by simpa using ha
    subst ha'
    exact ⟨rc, tm, hl, hr, ht, e⟩
  | o :: os, pre, rc, tm, ha, hl, ht, hr, e => by
    unfold opsD at e
    obtain ⟨x, ws, rs, tm1, h1, h2, h3⟩ := opD_ran e
    have hj : all[pre.length]? = some o := by rw [ha]; simp
    have hd : dstOf all pre.length = o.dst := by unfold dstOf; rw [hj]; rfl
    have hx : ∀ k, k < pre.length → rcAt (rc ++ [⟨x, ws, rs⟩]) k = rcAt rc k := fun k hk => rcAt_lt (by omega)
    have hlast : rcAt (rc ++ [⟨x, ws, rs⟩]) pre.length = ⟨x, ws, rs⟩ := by rw [← hl]; exact rcAt_last
    have htm : ∀ j, j ≤ pre.length → tmS (dstOf all) (fun k => (rcAt (rc ++ [⟨x, ws, rs⟩]) k).x) tm0 (fun _ => true) j = tmS (dstOf all) (fun k => (rcAt rc k).x) tm0 (fun _ => true) j := fun j hj => tmS_X j (fun k hk => by rw [hx k (by omega)])
    have hhp : ∀ j, j ≤ pre.length → hpS (fun k => (rcAt (rc ++ [⟨x, ws, rs⟩]) k).ws) h0 (fun _ => true) j = hpS (fun k => (rcAt rc k).ws) h0 (fun _ => true) j := fun j hj => hpS_V j (fun k hk => by rw [hx k (by omega)])
    refine opsD_ran os (pre ++ [o]) (rc ++ [⟨x, ws, rs⟩]) tm1 (by simpa using ha) (by simp [hl]) (fun t => ?_) (fun j hj' => ?_) ?_
    · rw [h2, List.length_append]
      show _ = look t (tmS _ _ _ _ (pre.length + 1))
      unfold tmS
      rw [htm _ (Nat.le_refl _), hd, hlast]
      exact putT_congr ht _ _ t
    · rw [List.length_append] at hj'
      have hj'' : j < pre.length + 1 := hj'
      by_cases hjp : j < pre.length
      · obtain ⟨o', q1, q2⟩ := hr j hjp
        unfold RanAt
        simp only [htm j (by omega), hhp j (by omega), hx j hjp]
        exact ⟨o', q1, q2⟩
      · obtain rfl : j = pre.length := by omega
        unfold RanAt
        simp only [htm _ (Nat.le_refl _), hhp _ (Nat.le_refl _), hlast]
        refine ⟨o, hj, h1.imp (fun ⟨q1, q2⟩ => ⟨runs_congr ht q1, ?_⟩) (fun ⟨q1, q2⟩ => ⟨skips_congr ht q1, q2⟩)⟩
        rw [← opQ_congr (tm := tm) (fun t _ => ht t)]; exact q2
    · have hh : hpS (fun k => (rcAt (rc ++ [⟨x, ws, rs⟩]) k).ws) h0 (fun _ => true) (pre ++ [o]).length = ws ++ hpS (fun k => (rcAt rc k).ws) h0 (fun _ => true) pre.length := by
        rw [List.length_append]
        show hpS _ _ _ (pre.length + 1) = _
        rw [hpS_succ, hhp _ (Nat.le_refl _), hlast]; rfl
      rw [hh]
      have h64 : nx + 64 * (pre ++ [o]).length = nx + 64 * pre.length + 64 := by simp [Nat.mul_add]; omega
      rw [h64]
      simpa using h3
end Go.Proofs.YtkihjakbbcajbaaGreat.PM
namespace Go.Proofs.YtkihjakbbcajbaaGreat.PM
set_option linter.unusedSimpArgs false
set_option linter.unusedVariables false
open Go

def IoR (g : Gh) : List PV → List Slot → Prop
  | [], [] => True
  | x :: xs, s :: ss => (∃ id, (x = .ptr id [] ∨ x = .sl id) ∧ g id = some s) ∧ IoR g xs ss
  | _, _ => False
theorem IoR.mono {g g' : Gh} (h : g.le g') : ∀ {xs : List PV} {ss : List Slot}, IoR g xs ss → IoR g' xs ss
  | [], [], _ => trivial
  | _ :: _, _ :: _, ⟨⟨id, h1, h2⟩, h3⟩ => ⟨⟨id, h1, h _ _ h2⟩, h3.mono h⟩
  | [], _ :: _, h => h.elim
  | _ :: _, [], h => h.elim
/-- What a call stands on. -/
structure Bs where
  A0 : Nat → Prop
  W : Nat → Prop
  w0 : World
  nt : Nat
  sl : List Slot
  free : ∀ r, w0.heap.size ≤ r → W r
  gl : List (Nat × PV)
  glok : GlOk gl A0 w0
  df : List Deferred
structure RS (B : Bs) (g : Gh) (A : Nat → Prop) (a : Act) (w : World) (tm : List (Nat × PV)) (h : Hp) (io : List PV) : Prop where
  size : a.tmps.size = B.nt
  defs : a.defers = B.df
  tms : ∀ t x, look t tm = some x → t < B.nt ∧ VRel g A w x (a.tmps.getD t undef)
  hr : HR g A B.W w h
  mono : ∀ r, B.A0 r → A r
  in' : ∀ r, A r → B.A0 r ∨ B.W r
  same : ∀ r, B.A0 r → w.heap[r]? = B.w0.heap[r]?
  keep : Keep B.W B.w0 w
  io : IoR g io B.sl
section
variable {P : Program} {E : Env} {B : Bs} {g : Gh} {A : Nat → Prop} {a : Act} {w : World} {tm tm' : List (Nat × PV)} {h h' : Hp} {io : List PV}
theorem RS.congr (R : RS B g A a w tm h io) (h1 : ∀ t, look t tm = look t tm') (h2 : ∀ i, look i h = look i h') : RS B g A a w tm' h' io :=
  ⟨R.size, R.defs, fun t x e => R.tms t x (by rw [h1]; exact e), R.hr.congr h2, R.mono, R.in', R.same, R.keep, R.io⟩
theorem RS.glob (R : RS B g A a w tm h io) : GlOk B.gl A w := B.glok.mono R.mono R.same
theorem RS.opd (R : RS B g A a w tm h io) (o : Operand) (x : PV) (e : opd B.gl tm o = some x) : VRel g A w x (a.eval o) := by
  cases o with
  | tmp t => exact (R.tms t x e).2
  | const v =>
    simp only [PM.opd] at e
    unfold cst at e
    split at e
    · injection e with e; subst e; exact of_int _ _
    · injection e with e; subst e; exact of_bool _
    · injection e with e; subst e; exact of_str _
    · injection e with e; subst e; rfl
    · cases e
  | func f =>
    simp only [PM.opd, Option.some.injEq] at e; subst e
    unfold VRel; simp only [aggP]; unfold PV.rel
    exact ⟨#[], rfl, by unfold rels; rfl⟩
  | global n =>
    obtain ⟨t, y, c, rfl, h2, h3, h4⟩ := R.glob n x e
    unfold VRel; simp only [aggP]; unfold PV.rel
    exact ⟨_, c, rfl, rfl, h2, h3, h4⟩
theorem put_size (a : Act) (d : Option Nat) (v : Value) : (a.put d v).tmps.size = a.tmps.size := by
  cases d <;> simp [Act.put]
theorem put_defs (a : Act) (d : Option Nat) (v : Value) : (a.put d v).defers = a.defers := by
  cases d <;> rfl
theorem put_get (a : Act) (d : Option Nat) (v : Value) (t : Nat) (hd : ∀ e, d = some e → e < a.tmps.size) : (a.put d v).tmps.getD t undef = if d = some t then v else a.tmps.getD t undef := by
  cases d with
  | none => simp [Act.put]
  | some d =>
    have := hd d rfl
    by_cases e : d = t
    · subst e; simp [Act.put, Array.getD, this]
    · have e' : ¬ (some d = some t) := fun h => e (by injection h)
      rw [if_neg e']
      by_cases ht : t < a.tmps.size <;> simp [Act.put, Array.getD, ht, Array.getElem_setIfInBounds, e]
theorem RS.put {g' : Gh} {A' : Nat → Prop} {w' : World} {d : Option Nat} {x : PV} {v : Value} (R : RS B g A a w tm h io) (S : Step g A B.W w g' A' w' h') (hv : VRel g' A' w' x v) (hd : ∀ e, d = some e → e < B.nt) : RS B g' A' (a.put d v) w' (putT tm d x) h' io := by
  refine ⟨by rw [put_size]; exact R.size, by rw [put_defs]; exact R.defs, fun t y e => ?_, S.hr, fun r hr => S.mono r (R.mono r hr), fun r hr => (S.in' r hr).elim (R.in' r) .inr, fun r hr => (S.same r (R.mono r hr)).trans (R.same r hr), R.keep.trans S.keep, R.io.mono S.le⟩
  rw [look_putT] at e
  rw [put_get _ _ _ _ (fun e he => by rw [R.size]; exact hd e he)]
  split at e
  · rename_i hdt
    injection e with e; subst e
    exact ⟨hd t hdt, by rw [if_pos hdt]; exact hv⟩
  · rename_i hdt
    obtain ⟨h1, h2⟩ := R.tms t y e
    exact ⟨h1, by rw [if_neg hdt]; exact h2.mono S.le S.mono S.same⟩
theorem RS.wfree (R : RS B g A a w tm h io) (r : Nat) (hr : w.heap.size ≤ r) : B.W r := B.free r (Nat.le_trans R.keep.size hr)
/- two operations that do not meet -/
structure Ap (all : List Oper) (rc : List Rc) (i k : Nat) : Prop where
  dst : ∀ d, dstOf all i = some d → dstOf all k ≠ some d
  up : ∀ d o, dstOf all i = some d → all[k]? = some o → d ∉ o.looksAt all.toArray
  dn : ∀ d o, dstOf all k = some d → all[i]? = some o → d ∉ o.looksAt all.toArray
  ww : ∀ x, x ∈ (rcAt rc i).ws.map (·.1) → x ∉ (rcAt rc k).ws.map (·.1)
  wr : ∀ x, x ∈ (rcAt rc i).ws.map (·.1) → x ∉ (rcAt rc k).rs
  rw' : ∀ x, x ∈ (rcAt rc i).rs → x ∉ (rcAt rc k).ws.map (·.1)
theorem yielded_of {all : List Oper} (R : RS B g A a w tm h io) {i d : Nat} (hd : dstOf all i = some d) : (∀ b, look d tm = some (.v .bool b) → yielded all.toArray a.tmps i = some b) ∧ (look d tm = some .undef → yielded all.toArray a.tmps i = none) := by
  have hi : (all.toArray[i]?).bind (·.dst) = some d := by
    unfold dstOf at hd; simpa using hd
  refine ⟨fun b hl => ?_, fun hl => ?_⟩
  · obtain ⟨h1, h2⟩ := R.tms _ _ hl
    have h2 := v_bool h2
    have h3 : a.tmps[d]? = some (.bool b) := by
      rw [Array.getElem?_eq_getElem (by rw [R.size]; exact h1)]
      rw [Array.getD, dif_pos (by rw [R.size]; exact h1)] at h2
      exact congrArg some h2
    unfold yielded
    rw [hi]; simp [h3]
  · obtain ⟨h1, h2⟩ := R.tms _ _ hl
    have h2 : a.tmps.getD d undef = Go.undef := by
      unfold VRel at h2; simp only [aggP] at h2; unfold PV.rel at h2; injection h2
    have h3 : a.tmps[d]? = some Go.undef := by
      rw [Array.getElem?_eq_getElem (by rw [R.size]; exact h1)]
      rw [Array.getD, dif_pos (by rw [R.size]; exact h1)] at h2
      exact congrArg some h2
    unfold yielded
    rw [hi]; simp [h3, undef]
theorem mem_looks {all : List Oper} {o : Oper} {t : Nat} (h : Operand.tmp t ∈ o.op.operands.toList) : t ∈ o.looksAt all.toArray := by
  unfold Oper.looksAt
  rw [List.mem_append, List.mem_filterMap]
  exact .inl ⟨_, h, rfl⟩
theorem guard_looks {all : List Oper} {o : Oper} {i d : Nat} {b : Bool} (h : o.guard = some (i, b)) (hd : dstOf all i = some d) : d ∈ o.looksAt all.toArray := by
  unfold Oper.looksAt
  rw [List.mem_append, h]
  right
  unfold dstOf at hd
  simp [hd]
theorem reg_op (hE : EnvOk P E) (hgl : E.globs = B.gl) {all : List Oper} {rc : List Rc} {nx n : Nat} {tm0 : List (Nat × PV)} {h0 : Hp} {S : Nat → Bool} {j : Nat} (hj : j < n) (hS : S j = false) (hn : n = all.length) (ran : RanAt E all nx tm0 h0 rc j) (hnt : ∀ j d, dstOf all j = some d → d < B.nt)
    (up : ∀ k, k < n → j < k → S k = true → Ap all rc j k) (dn : ∀ k, k < j → S k = false → Ap all rc k j)
    (R : RS B g A a w (tmS (dstOf all) (fun k => (rcAt rc k).x) tm0 S n) (hpS (fun k => (rcAt rc k).ws) h0 S n) io) {K : Act → World → Prop} {Q : Exit → Act → World → Prop}
    (hK : ∀ g' A' a' w', RS B g' A' a' w' (tmS (dstOf all) (fun k => (rcAt rc k).x) tm0 (addS S j) n) (hpS (fun k => (rcAt rc k).ws) h0 (addS S j) n) io → K a' w') : wpOp P all.toArray Q j K a w := by
  obtain ⟨o, ho, hran⟩ := ran
  have hd : dstOf all j = o.dst := by unfold dstOf; rw [ho]; rfl
  have hoa : all.toArray[j]? = some o := by simpa using ho
  -- what the operation looks at is as it is in order
  have htm : ∀ t, t ∈ o.looksAt all.toArray → look t (tmS (dstOf all) (fun k => (rcAt rc k).x) tm0 S n) = look t (tmS (dstOf all) (fun k => (rcAt rc k).x) tm0 (fun _ => true) j) := fun t ht => by
    rw [← tmS_trunc n (Nat.le_of_lt hj)]
    refine tmS_congr n (fun k hk hdk => ?_)
    rcases Nat.lt_trichotomy k j with hlt | heq | hgt
    · cases hs : S k with
      | true => simp [hlt]
      | false => exact absurd ht ((dn k hlt hs).up t o hdk ho)
    · subst heq; simp [hS]
    · cases hs : S k with
      | true => exact absurd ht ((up k hk hgt hs).dn t o hdk ho)
      | false => simp; omega
  have hhp : ∀ i, i ∈ (rcAt rc j).rs ∨ i ∈ (rcAt rc j).ws.map (·.1) → look i (hpS (fun k => (rcAt rc k).ws) h0 S n) = look i (hpS (fun k => (rcAt rc k).ws) h0 (fun _ => true) j) := fun i hi => by
    rw [← hpS_trunc n (Nat.le_of_lt hj)]
    refine hpS_congr n (fun k hk hdk => ?_)
    rcases Nat.lt_trichotomy k j with hlt | heq | hgt
    · cases hs : S k with
      | true => simp [hlt]
      | false =>
        have ap := dn k hlt hs
        exact (hi.elim (ap.wr i hdk) (ap.ww i hdk)).elim
    · subst heq; simp [hS]
    · cases hs : S k with
      | true =>
        have ap := up k hk hgt hs
        exact (hi.elim (fun h => ap.rw' i h hdk) (fun h => ap.ww i h hdk)).elim
      | false => simp; omega
  have fin : ∀ g' A' w' v, Step g A B.W w g' A' w' ((rcAt rc j).ws ++ hpS (fun k => (rcAt rc k).ws) h0 S n) → VRel g' A' w' (rcAt rc j).x v → K (a.put o.dst v) w' := fun g' A' w' v St hv => by
    refine hK g' A' _ w' ((R.put St hv (d := o.dst) (fun e he => hnt j e (by rw [hd]; exact he))).congr (fun t => ?_) (fun i => ?_))
    · rw [← hd]; symm
      exact tmS_add hS n hj (fun k h1 h2 h3 h4 h5 => (up k h2 h1 h3).dst t h5 h4)
    · symm
      exact hpS_add hS n hj (fun k h1 h2 h3 h4 h5 => (up k h2 h1 h3).ww i h5 h4)
  unfold wpOp
  rw [hoa]
  simp only []
  rcases hran with ⟨hr, hq⟩ | ⟨hs, hx, hw, hrs⟩
  · have hwant : Region.wanted o (yielded all.toArray a.tmps) = true := by
      rcases hr with hg | ⟨i, b, d, hg, hdi, hl⟩
      · unfold Region.wanted; rw [hg]
      · rw [← htm d (guard_looks hg hdi)] at hl
        unfold Region.wanted; rw [hg]
        simp [(yielded_of R hdi).1 b hl]
    rw [if_pos hwant]
    left
    have hq1 := OkT_Ok _ _ _ _ _ (OkT_frame _ _ _ _ _ _ hq hhp)
    rw [← opQ_congr (tm := tmS (dstOf all) (fun k => (rcAt rc k).x) tm0 S n) (fun t ht => htm t (mem_looks ht))] at hq1
    exact op_ok hE R.hr R.wfree (by rw [hgl]; exact R.glob) (by rw [hgl]; exact R.opd) hq1 fin
  · obtain ⟨i, b, d, hg, hdi, hl⟩ := hs
    rw [← htm d (guard_looks hg hdi)] at hl
    have hwant : Region.wanted o (yielded all.toArray a.tmps) = false := by
      unfold Region.wanted; rw [hg]
      show (yielded all.toArray a.tmps i == some b) = false
      rcases hl with hl | hl
      · rw [(yielded_of R hdi).1 _ hl]; cases b <;> rfl
      · rw [(yielded_of R hdi).2 hl]; rfl
    rw [hwant]
    refine fin g A w undef ?_ ?_
    · rw [hw]; exact .refl R.hr
    · rw [hx]; exact of_undef
end
end Go.Proofs.YtkihjakbbcajbaaGreat.PM
namespace Go.Proofs.YtkihjakbbcajbaaGreat.PM
set_option linter.unusedSimpArgs false
set_option linter.unusedVariables false
open Go

def edgesOk : List Oper → Nat → Bool
  | [], _ => true
  | o :: os, j => (o.after.toList.all fun e => !binds e || decide (e.on < j)) && edgesOk os (j + 1)
theorem edgesOk_at : ∀ (os : List Oper) (j p : Nat) (o : Oper), edgesOk os j = true → os[p]? = some o → ∀ e ∈ o.after.toList, binds e = true → e.on < j + p
  | [], _, _, _, _, h => by simp at h
  | o' :: os, j, 0, o, h, hp => fun e he hb => by
    simp only [edgesOk, Bool.and_eq_true, List.all_eq_true] at h
    simp at hp; subst hp
    have := h.1 e he
    simpa [hb] using this
  | o' :: os, j, p + 1, o, h, hp => fun e he hb => by
    simp only [edgesOk, Bool.and_eq_true] at h
    have := edgesOk_at os (j + 1) p o h.2 (by simpa using hp) e he hb
    omega
theorem binds_any (e : Edge) : Region.binds .any e = binds e := by
  unfold Region.binds binds
  cases e.ground <;> rfl
theorem maskE_spec : ∀ (es : List Edge) (ms : List Nat) (i : Nat), Nat.testBit (maskE es ms) i = true → ∃ e ∈ es, binds e = true ∧ (i = e.on ∨ Nat.testBit (ms.getD e.on 0) i = true)
  | [], ms, i, h => by simp [maskE] at h
  | e :: es, ms, i, h => by
    unfold maskE at h
    have rest : Nat.testBit (maskE es ms) i = true → ∃ e' ∈ e :: es, binds e' = true ∧ (i = e'.on ∨ Nat.testBit (ms.getD e'.on 0) i = true) := fun h => by
      obtain ⟨e', h1, h2⟩ := maskE_spec es ms i h
      exact ⟨e', List.mem_cons_of_mem _ h1, h2⟩
    cases hb : binds e with
    | false => rw [hb] at h; exact rest h
    | true =>
      rw [hb] at h
      have h : Nat.testBit (((1 <<< e.on) ||| (ms.getD e.on 0)) ||| maskE es ms) i = true := h
      rw [Nat.testBit_or, Nat.testBit_or, Bool.or_eq_true, Bool.or_eq_true] at h
      rcases h with (h | h) | h
      · refine ⟨e, List.mem_cons_self .., hb, .inl ?_⟩
        rw [Nat.testBit_shiftLeft] at h
        simp only [Bool.and_eq_true, decide_eq_true_eq] at h
        have h2 := h.2
        rw [Nat.testBit_one_eq_true_iff_self_eq_zero] at h2
        omega
      · exact ⟨e, List.mem_cons_self .., hb, .inr h⟩
      · exact rest h
theorem masks_app : ∀ (os : List Oper) (ms : List Nat), ∃ r, masks os ms = ms ++ r
  | [], ms => ⟨[], by simp [masks]⟩
  | o :: os, ms => by
    obtain ⟨r, h⟩ := masks_app os (ms ++ [maskE o.after.toList ms])
    exact ⟨maskE o.after.toList ms :: r, by unfold masks; rw [h]; simp⟩
theorem masks_at : ∀ (os : List Oper) (ms : List Nat) (p : Nat) (o : Oper), os[p]? = some o → (masks os ms).getD (ms.length + p) 0 = maskE o.after.toList ((masks os ms).take (ms.length + p))
  | [], _, _, _, h => by simp at h
  | o' :: os, ms, 0, o, h => by
    simp at h; subst h
    unfold masks
    obtain ⟨r, hr⟩ := masks_app os (ms ++ [maskE o'.after.toList ms])
    rw [hr]
    simp [List.getD]
  | o' :: os, ms, p + 1, o, h => by
    have := masks_at os (ms ++ [maskE o'.after.toList ms]) p o (by simpa using h)
    unfold masks
    rw [List.length_append] at this
    have e : ms.length + (p + 1) = ms.length + [maskE o'.after.toList ms].length + p := by simp; omega
    rw [e]; exact this
theorem take_getD {α : Type} (l : List α) (n i : Nat) (d : α) (h : i < n) : (l.take n).getD i d = l.getD i d := by
  simp [List.getD, List.getElem?_take, h]
/- what the check of a drawn region says -/
theorem apartL_spec {xs ys : List Nat} (h : apartL xs ys = true) (x : Nat) (hx : x ∈ xs) : x ∉ ys := fun hy => by
  unfold apartL at h
  have : (xs.any fun x => ys.any (Nat.beq x)) = true := List.any_eq_true.2 ⟨x, hx, List.any_eq_true.2 ⟨x, hy, Nat.beq_refl x⟩⟩
  rw [this] at h; cases h
theorem drawOne_spec {all : List Oper} {m : Nat} {oj : Oper} {fj : List Nat × List Nat} : ∀ (os : List Oper) (fs : List (List Nat × List Nat)) (i p : Nat) (o : Oper) (f : List Nat × List Nat), drawOne all m oj fj os fs i = true → os[p]? = some o → fs[p]? = some f →
    Nat.testBit m (i + p) = true ∨ (o.apart all.toArray oj = true ∧ fpApart f fj = true)
  | [], _, _, _, _, _, _, h, _ => by simp at h
  | _ :: _, [], _, _, _, _, _, _, h => by simp at h
  | o' :: os, f' :: fs, i, 0, o, f, h, h1, h2 => by
    simp at h1 h2; subst h1 h2
    simp only [drawOne, Bool.and_eq_true, Bool.or_eq_true] at h
    exact h.1
  | o' :: os, f' :: fs, i, p + 1, o, f, h, h1, h2 => by
    simp only [drawOne, Bool.and_eq_true] at h
    have := drawOne_spec os fs (i + 1) p o f h.2 (by simpa using h1) (by simpa using h2)
    have e : i + (p + 1) = i + 1 + p := by omega
    rw [e]; exact this
theorem drawAll_spec {all : List Oper} {fps : List (List Nat × List Nat)} {ms : List Nat} : ∀ (os : List Oper) (fs : List (List Nat × List Nat)) (j p : Nat) (o : Oper) (f : List Nat × List Nat), drawAll all fps ms os fs j = true → os[p]? = some o → fs[p]? = some f →
    drawOne all (ms.getD (j + p) 0) o f (all.take (j + p)) fps 0 = true
  | [], _, _, _, _, _, _, h, _ => by simp at h
  | _ :: _, [], _, _, _, _, _, _, h => by simp at h
  | o' :: os, f' :: fs, j, 0, o, f, h, h1, h2 => by
    simp at h1 h2; subst h1 h2
    simp only [drawAll, Bool.and_eq_true] at h
    exact h.1
  | o' :: os, f' :: fs, j, p + 1, o, f, h, h1, h2 => by
    simp only [drawAll, Bool.and_eq_true] at h
    have := drawAll_spec os fs (j + 1) p o f h.2 (by simpa using h1) (by simpa using h2)
    have e : j + (p + 1) = j + 1 + p := by omega
    rw [e]; exact this
def fpsOf (rc : List Rc) : List (List Nat × List Nat) := rc.map fun r => (r.rs.reverse, r.ws.map (·.1))
theorem fpsOf_at {rc : List Rc} {i : Nat} (h : i < rc.length) : (fpsOf rc)[i]? = some ((rcAt rc i).rs.reverse, (rcAt rc i).ws.map (·.1)) := by
  unfold fpsOf rcAt
  simp [List.getD, List.getElem?_eq_getElem h]
theorem drawOk_spec {all : List Oper} {rc : List Rc} (hl : rc.length = all.length) (h : drawOk all (fpsOf rc) = true) {i k : Nat} (hik : i < k) (hk : k < all.length) : Nat.testBit ((masks all []).getD k 0) i = true ∨ Ap all rc i k := by
  have hok : all[k]? = some all[k] := List.getElem?_eq_getElem hk
  have hoi : all[i]? = some (all[i]'(by omega)) := List.getElem?_eq_getElem (by omega)
  have h1 := drawAll_spec all (fpsOf rc) 0 k _ _ h hok (fpsOf_at (by omega))
  rw [Nat.zero_add] at h1
  have h2 := drawOne_spec _ _ 0 i _ _ h1 (by rw [List.getElem?_take, if_pos hik]; exact hoi) (fpsOf_at (by omega))
  rw [Nat.zero_add] at h2
  refine h2.imp (fun h => h) (fun ⟨h3, h4⟩ => ?_)
  obtain ⟨s1, s2, s3⟩ := Oper.apart_spec h3
  unfold fpApart at h4
  simp only [Bool.and_eq_true] at h4
  have hdi : dstOf all i = (all[i]'(by omega)).dst := by unfold dstOf; rw [hoi]; rfl
  have hdk : dstOf all k = all[k].dst := by unfold dstOf; rw [hok]; rfl
  exact ⟨fun d hd => by rw [hdk]; rw [hdi] at hd; exact s2 d hd, fun d o hd ho => by
      rw [hdi] at hd; rw [hok] at ho; injection ho with ho; subst ho; exact s1 d hd, fun d o hd ho => by
      rw [hdk] at hd; rw [hoi] at ho; injection ho with ho; subst ho; exact s3 d hd,
    fun x hx => apartL_spec h4.1.2 x hx, fun x hx hy => apartL_spec h4.1.1 x hx (by simpa using hy), fun x hx => apartL_spec h4.2 x (by simpa using hx)⟩
section
variable {P : Program} {E : Env} {B : Bs} {io : List PV} {all : List Oper} {rc : List Rc} {nx : Nat} {tm0 : List (Nat × PV)} {h0 : Hp} {Q : Exit → Act → World → Prop}
theorem reg_seq (hE : EnvOk P E) (hgl : E.globs = B.gl) (hl : rc.length = all.length) (ran : ∀ j, j < all.length → RanAt E all nx tm0 h0 rc j) (hnt : ∀ j d, dstOf all j = some d → d < B.nt)
    (fin : ∀ g A a w, RS B g A a w (tmS (dstOf all) (fun k => (rcAt rc k).x) tm0 (fun _ => true) all.length) (hpS (fun k => (rcAt rc k).ws) h0 (fun _ => true) all.length) io → Q .normal a w) :
    ∀ (m j : Nat), j + m = all.length → ∀ (g : Gh) (A : Nat → Prop) (a : Act) (w : World), RS B g A a w (tmS (dstOf all) (fun k => (rcAt rc k).x) tm0 (fun k => decide (k < j)) all.length) (hpS (fun k => (rcAt rc k).ws) h0 (fun k => decide (k < j)) all.length) io →
    wpOps P all.toArray Q (List.range' j m) a w
  | 0, j, hj, g, A, a, w, R => by
    have hj : j = all.length := by omega
    subst hj
    rw [tmS_ext (S' := fun _ => true) _ (fun k hk => by simp [hk]), hpS_ext (S' := fun _ => true) _ (fun k hk => by simp [hk])] at R
    exact fin g A a w R
  | m + 1, j, hj, g, A, a, w, R => by
    rw [List.range'_succ, wpOps_cons]
    refine reg_op hE hgl (n := all.length) (S := fun k => decide (k < j)) (j := j) (by omega) (by simp) rfl (ran j (by omega)) hnt (fun k _ h1 h2 => by simp at h2; omega) (fun k h1 h2 => by simp at h2; omega) R (fun g' A' a' w' R' => ?_)
    have e : ∀ k, k < all.length → addS (fun k => decide (k < j)) j k = decide (k < j + 1) := fun k _ => by
      unfold addS; rw [Bool.eq_iff_iff]; simp; omega
    rw [tmS_ext _ e, hpS_ext _ e] at R'
    exact reg_seq hE hgl hl ran hnt fin m (j + 1) (by omega) g' A' a' w' R'
end
def cnt (S : Nat → Bool) : Nat → Nat
  | 0 => 0
  | n + 1 => cnt S n + cond (S n) 0 1
theorem cnt_ext {S S' : Nat → Bool} : ∀ n : Nat, (∀ k, k < n → S k = S' k) → cnt S n = cnt S' n
  | 0, _ => rfl
  | n + 1, h => by unfold cnt; rw [h n (by omega), cnt_ext n (fun k hk => h k (by omega))]
theorem cnt_add {S : Nat → Bool} {j : Nat} (hS : S j = false) : ∀ n : Nat, j < n → cnt (addS S j) n + 1 = cnt S n
  | 0, h => by omega
  | n + 1, h => by
    by_cases e : j = n
    · subst e
      have h1 : addS S j j = true := by simp [addS]
      have h2 : cnt (addS S j) j = cnt S j := cnt_ext j (fun k hk => by
        have : k ≠ j := by omega
        simp [addS, this])
      unfold cnt
      rw [h1, hS, h2]; simp
    · have ih := cnt_add hS n (by omega)
      have h1 : addS S j n = S n := by
        have : n ≠ j := fun e' => e e'.symm
        simp [addS, this]
      unfold cnt
      rw [h1]; omega
theorem cnt_zero {S : Nat → Bool} : ∀ n : Nat, cnt S n = 0 → ∀ k, k < n → S k = true
  | 0, _, k, h => by omega
  | n + 1, h, k, hk => by
    unfold cnt at h
    by_cases e : k = n
    · subst e
      cases hs : S k with
      | true => rfl
      | false => rw [hs] at h; simp at h
    · exact cnt_zero n (by omega) k (by omega)
theorem cnt_all {S : Nat → Bool} : ∀ n : Nat, (∀ k, k < n → S k = true) → cnt S n = 0
  | 0, _ => rfl
  | n + 1, h => by unfold cnt; rw [h n (by omega), cnt_all n (fun k hk => h k (by omega))]; rfl
/-- The first that is not done. -/
theorem first_free {S : Nat → Bool} : ∀ n : Nat, (∃ k, k < n ∧ S k = false) → ∃ k, k < n ∧ S k = false ∧ ∀ i, i < k → S i = true
  | 0, h => by obtain ⟨k, hk, _⟩ := h; omega
  | n + 1, h => by
    by_cases hx : ∃ k, k < n ∧ S k = false
    · obtain ⟨k, h1, h2, h3⟩ := first_free n hx
      exact ⟨k, by omega, h2, h3⟩
    · obtain ⟨k, h1, h2⟩ := h
      have hk : k = n := by
        rcases Nat.lt_or_ge k n with hlt | hge
        · exact absurd ⟨k, hlt, h2⟩ hx
        · omega
      subst hk
      refine ⟨k, h1, h2, fun i hi => ?_⟩
      cases hs : S i with
      | true => rfl
      | false => exact absurd ⟨i, hi, hs⟩ hx
theorem ready_mem {all : List Oper} {listed : Array Bool} {i : Nat} : i ∈ Region.ready .any all.toArray listed ↔ ∃ o, all[i]? = some o ∧ listed.getD i true = false ∧ ∀ e ∈ o.after.toList, binds e = true → listed.getD e.on false = true := by
  unfold Region.ready
  rw [List.mem_filter, List.mem_range]
  constructor
  · rintro ⟨h1, h2⟩
    have h1 : i < all.length := by simpa using h1
    have ho : all[i]? = some all[i] := List.getElem?_eq_getElem h1
    refine ⟨_, ho, ?_⟩
    simp only [List.getElem?_toArray, ho, Bool.and_eq_true, Option.map_some, Option.getD_some, Bool.not_eq_true', ← Array.all_toList, List.all_eq_true, Bool.or_eq_true] at h2
    refine ⟨h2.1, fun e he hb => ?_⟩
    have := h2.2 e he
    rw [binds_any, hb] at this
    simpa using this
  · rintro ⟨o, ho, h1, h2⟩
    have hi : i < all.length := by
      by_cases h : i < all.length
      · exact h
      · rw [List.getElem?_eq_none (by omega)] at ho; cases ho
    refine ⟨by simpa using hi, ?_⟩
    simp only [List.getElem?_toArray, ho, Bool.and_eq_true, Option.map_some, Option.getD_some, Bool.not_eq_true', ← Array.all_toList, List.all_eq_true, Bool.or_eq_true]
    refine ⟨h1, fun e he => ?_⟩
    rw [binds_any]
    cases hb : binds e with
    | false => exact .inl rfl
    | true => exact .inr (h2 e he hb)
section
variable {P : Program} {E : Env} {B : Bs} {io : List PV} {all : List Oper} {rc : List Rc} {nx : Nat} {tm0 : List (Nat × PV)} {h0 : Hp} {Q : Exit → Act → World → Prop}
theorem reg_any (hE : EnvOk P E) (hgl : E.globs = B.gl) (hl : rc.length = all.length) (hed : edgesOk all 0 = true) (hdr : drawOk all (fpsOf rc) = true) (ran : ∀ j, j < all.length → RanAt E all nx tm0 h0 rc j) (hnt : ∀ j d, dstOf all j = some d → d < B.nt)
    (fin : ∀ g A a w, RS B g A a w (tmS (dstOf all) (fun k => (rcAt rc k).x) tm0 (fun _ => true) all.length) (hpS (fun k => (rcAt rc k).ws) h0 (fun _ => true) all.length) io → Q .normal a w) :
    ∀ (fuel : Nat) (S : Nat → Bool) (listed : Array Bool), listed.size = all.length → (∀ k (h : k < listed.size), listed[k] = S k) → cnt S all.length = fuel → (∀ k, k < all.length → S k = true → ∀ i, Nat.testBit ((masks all []).getD k 0) i = true → S i = true) →
    ∀ (g : Gh) (A : Nat → Prop) (a : Act) (w : World), RS B g A a w (tmS (dstOf all) (fun k => (rcAt rc k).x) tm0 S all.length) (hpS (fun k => (rcAt rc k).ws) h0 S all.length) io → wpAny P .any all.toArray Q fuel listed a w
  | 0, S, listed, hsz, hSl, hc, hcl, g, A, a, w, R => by
    have hall := cnt_zero _ hc
    refine ⟨?_, ?_⟩
    · rw [List.eq_nil_iff_forall_not_mem]
      intro i hi
      obtain ⟨o, ho, h1, _⟩ := ready_mem.1 hi
      have hi : i < all.length := by
        by_cases h : i < all.length
        · exact h
        · rw [List.getElem?_eq_none (by omega)] at ho; cases ho
      rw [Array.getD, dif_pos (by omega)] at h1
      have := hSl i (by omega)
      rw [hall i hi] at this
      rw [show listed.getInternal i (by omega) = listed[i] from rfl, this] at h1
      cases h1
    · rw [tmS_ext (S' := fun _ => true) _ hall, hpS_ext (S' := fun _ => true) _ hall] at R
      exact fin g A a w R
  | fuel + 1, S, listed, hsz, hSl, hc, hcl, g, A, a, w, R => by
    have get : ∀ k d, k < all.length → listed.getD k d = S k := fun k d hk => by
      rw [Array.getD, dif_pos (by omega)]; exact hSl k (by omega)
    refine ⟨fun hnil => ?_, fun i hi => ?_⟩
    · exfalso
      have hex : ∃ k, k < all.length ∧ S k = false := by
        apply Classical.byContradiction
        intro hn
        have : cnt S all.length = 0 := cnt_all _ (fun k hk => by
          cases hs : S k with
          | true => rfl
          | false => exact absurd ⟨k, hk, hs⟩ hn)
        omega
      obtain ⟨k, h1, h2, h3⟩ := first_free _ hex
      have ho : all[k]? = some all[k] := List.getElem?_eq_getElem h1
      have : k ∈ Region.ready .any all.toArray listed := ready_mem.2 ⟨_, ho, by rw [get k _ h1]; exact h2, fun e he hb => by
        have := edgesOk_at all 0 k _ hed ho e he hb
        rw [get e.on _ (by omega)]; exact h3 _ (by omega)⟩
      rw [hnil] at this; cases this
    · obtain ⟨o, ho, h1, h2⟩ := ready_mem.1 hi
      have hil : i < all.length := by
        by_cases h : i < all.length
        · exact h
        · rw [List.getElem?_eq_none (by omega)] at ho; cases ho
      rw [get i _ hil] at h1
      have hbef : ∀ k, Nat.testBit ((masks all []).getD i 0) k = true → S k = true := fun k hk => by
        have hm := masks_at all [] i o ho
        simp only [List.length_nil, Nat.zero_add] at hm
        rw [hm] at hk
        obtain ⟨e, he, hb, hk⟩ := maskE_spec _ _ _ hk
        have hlt := edgesOk_at all 0 i o hed ho e he hb
        have hSe : S e.on = true := by rw [← get e.on false (by omega)]; exact h2 e he hb
        rcases hk with rfl | hk
        · exact hSe
        · rw [take_getD _ _ _ _ (by omega)] at hk
          exact hcl e.on (by omega) hSe k hk
      refine reg_op hE hgl (n := all.length) hil h1 rfl (ran i hil) hnt (fun k hk hik hSk => ?_) (fun k hki hSk => ?_) R (fun g' A' a' w' R' => ?_)
      · rcases drawOk_spec hl hdr hik hk with hb | ap
        · have := hcl k hk hSk i hb
          rw [h1] at this; cases this
        · exact ap
      · rcases drawOk_spec hl hdr hki hil with hb | ap
        · have := hbef k hb
          rw [hSk] at this; cases this
        · exact ap
      · refine reg_any hE hgl hl hed hdr ran hnt fin fuel (addS S i) _ (by simpa using hsz) (fun k hk => ?_) (by have := cnt_add h1 all.length hil; omega) (fun k hk hSk j hj => ?_) g' A' a' w' R'
        · have hk' : k < listed.size := by simpa using hk
          rw [Array.getElem_setIfInBounds hk']
          unfold addS
          by_cases e : i = k
          · subst e; simp
          · rw [if_neg e]
            have e' : k ≠ i := fun h => e h.symm
            simpa [e'] using hSl k hk'
        · unfold addS at hSk ⊢
          by_cases e : k = i
          · subst e; rw [hbef j hj]; rfl
          · have hSk' : S k = true := by simpa [e] using hSk
            rw [hcl k hk hSk' j hj]; rfl
/-- A region: its run in order, and the check where the order is drawn. -/
theorem region_ok (hE : EnvOk P E) (hgl : E.globs = B.gl) (hmix : P.follows .mixedOrders = true) {id : Nat} {ops : Array Oper} {draw : Bool} {g : Gh} {A : Nat → Prop} {a : Act} {w : World} (hops : all = ops.toList) (hl : rc.length = all.length) (hed : edgesOk all 0 = true) (hdr : draw = true → drawOk all (fpsOf rc) = true) (ran : ∀ j, j < all.length → RanAt E all nx tm0 h0 rc j) (hnt : ∀ j d, dstOf all j = some d → d < B.nt)
    (R : RS B g A a w tm0 h0 io)
    (fin : ∀ g A a w, RS B g A a w (tmS (dstOf all) (fun k => (rcAt rc k).x) tm0 (fun _ => true) all.length) (hpS (fun k => (rcAt rc k).ws) h0 (fun _ => true) all.length) io → Q .normal a w) : (Code.region id ops draw).wp P Q a w := by
  have hops' : ops = all.toArray := by rw [hops]
  have hsz : ops.size = all.length := by rw [hops']; simp
  have hz : ∀ {X : Nat → PV} n, tmS (dstOf all) X tm0 (fun _ => false) n = tm0 := fun {X} n => by
    induction n with
    | zero => rfl
    | succ n ih => rw [tmS_succ]; exact ih
  have hz2 : ∀ {V : Nat → Hp} n, hpS V h0 (fun _ => false) n = h0 := fun {V} n => by
    induction n with
    | zero => rfl
    | succ n ih => rw [hpS_succ]; exact ih
  cases draw with
  | false =>
    refine wp_region ?_
    rw [hsz, hops', List.range_eq_range']
    refine reg_seq hE hgl hl ran hnt fin all.length 0 (by omega) g A a w ?_
    rw [tmS_ext (S' := fun _ => false) _ (fun k _ => by simp), hpS_ext (S' := fun _ => false) _ (fun k _ => by simp), hz, hz2]
    exact R
  | true =>
    refine wp_region_any hmix ?_
    rw [hsz, hops']
    refine reg_any hE hgl hl hed (hdr rfl) ran hnt fin all.length (fun _ => false) _ (by simp) (fun k hk => by simp) ?_ (fun k _ h => by cases h) g A a _ ?_
    · have : ∀ n, cnt (fun _ => false) n = n := fun n => by
        induction n with
        | zero => rfl
        | succ n ih => unfold cnt; rw [ih]; rfl
      exact this _
    · rw [hz, hz2]
      have G : Grew w { w with drawn := w.drawn + 1 } := Grew.drew w
      have St := Step.grow R.hr G
      exact ⟨R.size, R.defs, fun t x e => ⟨(R.tms t x e).1, (R.tms t x e).2.mono St.le St.mono St.same⟩, St.hr, R.mono, R.in', fun r hr => (St.same r (R.mono r hr)).trans (R.same r hr), R.keep.trans St.keep, R.io⟩
end
end Go.Proofs.YtkihjakbbcajbaaGreat.PM
