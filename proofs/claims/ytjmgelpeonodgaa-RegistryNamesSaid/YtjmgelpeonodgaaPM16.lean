/- Footprints: what an operation of the pure machine reads and writes; the same elsewhere. -/
import Derived.Test.YtjmgelpeonodgaaPM15
namespace Go.Proofs.Ytjmgelpeonodgaa.PM
set_option linter.unusedSimpArgs false
set_option linter.unusedVariables false
open Go

/-- A step's answer, what it wrote (the last first), what it read. -/
def Q.OkT {α : Type} : Q α → Hp → α → Hp → List Nat → Prop
  | .ret x, _, a, ws, rs => a = x ∧ ws = [] ∧ rs = []
  | .fail, _, _, _, _ => False
  | .rd id k, h, a, ws, rs => ∃ b rs', h.at id = some b ∧ (k b).OkT h a ws rs' ∧ rs = id :: rs'
  | .wr id b k, h, a, ws, rs => ∃ ws', (∃ o, look id h = some o) ∧ k.OkT ((id, b) :: h) a ws' rs ∧ ws = ws' ++ [(id, b)]
  | .new id b k, h, a, ws, rs => ∃ ws', look id h = none ∧ k.OkT ((id, some b) :: h) a ws' rs ∧ ws = ws' ++ [(id, some b)]
  | .ask b k, h, a, ws, rs => b = true ∧ k.OkT h a ws rs
  | .br b x y, h, a, ws, rs => (b = true ∧ x.OkT h a ws rs) ∨ (b = false ∧ y.OkT h a ws rs)
  | .opt o k, h, a, ws, rs => ∃ v, o = some v ∧ (k v).OkT h a ws rs
theorem OkT_Ok {α : Type} : ∀ (q : Q α) (h : Hp) (a : α) (ws : Hp) (rs : List Nat), q.OkT h a ws rs → q.Ok h a (ws ++ h)
  | .ret x, h, a, ws, rs, ⟨e1, e2, _⟩ => by subst e2; exact ⟨e1, rfl⟩
  | .fail, _, _, _, _, e => e
  | .rd id k, h, a, ws, rs, ⟨b, rs', hb, e, _⟩ => ⟨b, hb, OkT_Ok (k b) h a ws rs' e⟩
  | .wr id b k, h, a, ws, rs, ⟨ws', hb, e, hw⟩ => by
    subst hw
    refine ⟨hb, ?_⟩
    have := OkT_Ok k ((id, b) :: h) a ws' rs e
    simpa using this
  | .new id b k, h, a, ws, rs, ⟨ws', hb, e, hw⟩ => by
    subst hw
    refine ⟨hb, ?_⟩
    have := OkT_Ok k ((id, some b) :: h) a ws' rs e
    simpa using this
  | .ask b k, h, a, ws, rs, ⟨hb, e⟩ => ⟨hb, OkT_Ok k h a ws rs e⟩
  | .br b x y, h, a, ws, rs, e => e.imp (fun ⟨hb, e⟩ => ⟨hb, OkT_Ok x h a ws rs e⟩) (fun ⟨hb, e⟩ => ⟨hb, OkT_Ok y h a ws rs e⟩)
  | .opt o k, h, a, ws, rs, ⟨v, hv, e⟩ => ⟨v, hv, OkT_Ok (k v) h a ws rs e⟩
/-- What a step reads and writes being alike, it does the same. -/
theorem OkT_frame {α : Type} : ∀ (q : Q α) (h k : Hp) (a : α) (ws : Hp) (rs : List Nat), q.OkT h a ws rs → (∀ i, i ∈ rs ∨ i ∈ ws.map (·.1) → look i k = look i h) → q.OkT k a ws rs
  | .ret x, h, k, a, ws, rs, e, _ => e
  | .fail, _, _, _, _, _, e, _ => e
  | .rd id f, h, k, a, ws, rs, ⟨b, rs', hb, e, hr⟩, hk => by
    subst hr
    refine ⟨b, rs', ?_, OkT_frame (f b) h k a ws rs' e (fun i hi => hk i (hi.imp (fun h => List.mem_cons_of_mem _ h) (fun h => h))), rfl⟩
    unfold Hp.at at hb ⊢
    rw [hk id (.inl (by simp))]; exact hb
  | .wr id b f, h, k, a, ws, rs, ⟨ws', hb, e, hw⟩, hk => by
    subst hw
    refine ⟨ws', by rw [hk id (.inr (by simp))]; exact hb, OkT_frame f _ _ a ws' rs e (fun i hi => ?_), rfl⟩
    rw [look_cons, look_cons]
    split
    · rfl
    · exact hk i (hi.imp (fun h => h) (fun h => by simp at h ⊢; exact .inl h))
  | .new id b f, h, k, a, ws, rs, ⟨ws', hb, e, hw⟩, hk => by
    subst hw
    refine ⟨ws', by rw [hk id (.inr (by simp))]; exact hb, OkT_frame f _ _ a ws' rs e (fun i hi => ?_), rfl⟩
    rw [look_cons, look_cons]
    split
    · rfl
    · exact hk i (hi.imp (fun h => h) (fun h => by simp at h ⊢; exact .inl h))
  | .ask b f, h, k, a, ws, rs, ⟨hb, e⟩, hk => ⟨hb, OkT_frame f h k a ws rs e hk⟩
  | .br b x y, h, k, a, ws, rs, e, hk => e.imp (fun ⟨hb, e⟩ => ⟨hb, OkT_frame x h k a ws rs e hk⟩) (fun ⟨hb, e⟩ => ⟨hb, OkT_frame y h k a ws rs e hk⟩)
  | .opt o f, h, k, a, ws, rs, ⟨v, hv, e⟩, hk => ⟨v, hv, OkT_frame (f v) h k a ws rs e hk⟩
theorem toD_evT {α ρ : Type} {f : List It → St → Option ρ} {res : ρ} : ∀ (q : Q α) (h : Hp) (r w : List Nat) (K : α → Hp → List Nat → List Nat → DT ρ),
    (q.toD h r w K).ev f = some res → ∃ a ws rs, q.OkT h a ws rs ∧ (K a (ws ++ h) (rs.reverse ++ r) (ws.map (·.1) ++ w)).ev f = some res
  | .ret x, h, r, w, K, e => ⟨x, [], [], ⟨rfl, rfl, rfl⟩, e⟩
  | .fail, _, _, _, _, e => by simp [Q.toD, DT.ev] at e
  | .rd id k, h, r, w, K, e => by
    simp only [Q.toD] at e
    split at e
    · rename_i b hb
      obtain ⟨a, ws, rs, h1, h2⟩ := toD_evT (k b) h (id :: r) w K e
      exact ⟨a, ws, id :: rs, ⟨b, rs, hb, h1, rfl⟩, by simpa using h2⟩
    · simp [DT.ev] at e
  | .wr id b k, h, r, w, K, e => by
    simp only [Q.toD] at e
    split at e
    · rename_i o hb
      obtain ⟨a, ws, rs, h1, h2⟩ := toD_evT k ((id, b) :: h) r (id :: w) K e
      exact ⟨a, ws ++ [(id, b)], rs, ⟨ws, ⟨o, hb⟩, h1, rfl⟩, by simpa using h2⟩
    · simp [DT.ev] at e
  | .new id b k, h, r, w, K, e => by
    simp only [Q.toD] at e
    split at e
    · simp [DT.ev] at e
    · rename_i hb
      obtain ⟨a, ws, rs, h1, h2⟩ := toD_evT k ((id, some b) :: h) r (id :: w) K e
      exact ⟨a, ws ++ [(id, some b)], rs, ⟨ws, hb, h1, rfl⟩, by simpa using h2⟩
  | .ask b k, h, r, w, K, e => by
    simp only [Q.toD, DT.ev] at e
    cases b with
    | true =>
      obtain ⟨a, ws, rs, h1, h2⟩ := toD_evT k h r w K e
      exact ⟨a, ws, rs, ⟨rfl, h1⟩, h2⟩
    | false => simp at e
  | .br b x y, h, r, w, K, e => by
    simp only [Q.toD, DT.ev] at e
    cases b with
    | true =>
      obtain ⟨a, ws, rs, h1, h2⟩ := toD_evT x h r w K e
      exact ⟨a, ws, rs, .inl ⟨rfl, h1⟩, h2⟩
    | false =>
      obtain ⟨a, ws, rs, h1, h2⟩ := toD_evT y h r w K e
      exact ⟨a, ws, rs, .inr ⟨rfl, h1⟩, h2⟩
  | .opt o k, h, r, w, K, e => by
    simp only [Q.toD, DT.ev, Option.bind_eq_some_iff] at e
    obtain ⟨v, hv, e⟩ := e
    obtain ⟨a, ws, rs, h1, h2⟩ := toD_evT (k v) h r w K e
    exact ⟨a, ws, rs, ⟨v, hv, h1⟩, h2⟩
/- operands -/
theorem opd_congr {gl tm tm' : List (Nat × PV)} {x : Operand} (h : ∀ t, x = .tmp t → look t tm = look t tm') : opd gl tm x = opd gl tm' x := by
  cases x with
  | tmp t => exact h t rfl
  | _ => rfl
theorem opds_congr {gl tm tm' : List (Nat × PV)} : ∀ {xs : List Operand}, (∀ t, .tmp t ∈ xs → look t tm = look t tm') → opds gl tm xs = opds gl tm' xs
  | [], _ => rfl
  | x :: xs, h => by
    unfold opds
    rw [opd_congr (x := x) (fun t e => h t (by simp [e])), opds_congr (xs := xs) (fun t e => h t (by simp [e]))]
theorem partsQ_congr {gl tm tm' : List (Nat × PV)} : ∀ {xs : List (Nat × Operand)}, (∀ t, .tmp t ∈ xs.map (·.2) → look t tm = look t tm') → partsQ gl tm xs = partsQ gl tm' xs
  | [], _ => rfl
  | (i, x) :: xs, h => by
    unfold partsQ
    rw [opd_congr (x := x) (fun t e => h t (by simp [e])), partsQ_congr (xs := xs) (fun t e => h t (by simp at e ⊢; exact .inr e))]
theorem oopd_congr {gl tm tm' : List (Nat × PV)} {x : Option Operand} (h : ∀ t, x = some (.tmp t) → look t tm = look t tm') : oopd gl tm x = oopd gl tm' x := by
  cases x with
  | none => rfl
  | some x => simp only [oopd]; rw [opd_congr (x := x) (fun t e => h t (by rw [e]))]
theorem opQ_congr {E : Env} {tm tm' : List (Nat × PV)} {o : Oper} {nw : Nat} (h : ∀ t, .tmp t ∈ o.op.operands.toList → look t tm = look t tm') : opQ E tm o nw = opQ E tm' o nw := by
  unfold opQ
  cases hop : o.op with
  | call c =>
    rw [hop] at h
    simp only [Op.operands, Call.operands] at h
    simp only []
    rw [opds_congr (tm := tm) (tm' := tm') (fun t ht => h t (by simp at ht ⊢; exact .inr ht))]
    congr 1
    funext args
    cases hc : c.callee with
    | value f =>
      simp only []
      rw [opd_congr (tm := tm) (tm' := tm') (fun t ht => h t (by simp [hc, ht]))]
    | _ => rfl
  | build t ps =>
    rw [hop] at h
    simp only []
    rw [partsQ_congr (tm := tm) (tm' := tm') (fun t ht => h t (by simpa [Op.operands] using ht))]
  | buildSlice t n ps =>
    rw [hop] at h
    simp only []
    rw [partsQ_congr (tm := tm) (tm' := tm') (fun t ht => h t (by simpa [Op.operands] using ht))]
  | slice t x lo hi mx =>
    rw [hop] at h
    simp only []
    rw [opd_congr (tm := tm) (tm' := tm') (fun t ht => h t (by simp [Op.operands, ht])), oopd_congr (tm := tm) (tm' := tm') (x := lo) (fun t ht => h t (by simp [Op.operands, ht])), oopd_congr (tm := tm) (tm' := tm') (x := hi) (fun t ht => h t (by simp [Op.operands, ht]))]
  | pick c a b =>
    rw [hop] at h
    simp only []
    rw [opd_congr (tm := tm) (tm' := tm') (x := c) (fun t ht => h t (by simp [Op.operands, ht])), opd_congr (tm := tm) (tm' := tm') (x := a) (fun t ht => h t (by simp [Op.operands, ht])), opd_congr (tm := tm) (tm' := tm') (x := b) (fun t ht => h t (by simp [Op.operands, ht]))]
  | store t a b | binOp _ _ a b _ | makeSlice t a b | indexAddr t a b | index t a b =>
    rw [hop] at h
    simp only []
    rw [opd_congr (tm := tm) (tm' := tm') (x := a) (fun t ht => h t (by simp [Op.operands, ht])), opd_congr (tm := tm) (tm' := tm') (x := b) (fun t ht => h t (by simp [Op.operands, ht]))]
  | move x | assign x | box _ x | load _ x | nilCheck x | unOp _ _ x | convert _ _ x | fieldAddr _ x _ | extract x _ =>
    rw [hop] at h
    simp only []
    rw [opd_congr (tm := tm) (tm' := tm') (x := x) (fun t ht => h t (by simp [Op.operands, ht]))]
  | _ => rfl
end Go.Proofs.Ytjmgelpeonodgaa.PM
