/- The same state in few words: numbers of rows and boxes changed. -/
import Derived.Test.YtjmgelpeonodgaaPM19
namespace Go.Proofs.Ytjmgelpeonodgaa.PM
set_option linter.unusedSimpArgs false
set_option linter.unusedVariables false
open Go

theorem pos_spec : ∀ (l : List Nat) (id n i : Nat), pos id l n = some i → n ≤ i ∧ l[i - n]? = some id
  | [], _, _, _, h => by simp [pos] at h
  | j :: l, id, n, i, h => by
    unfold pos at h
    cases hb : Nat.beq id j with
    | true =>
      rw [hb] at h
      simp only [cond_true, Option.some.injEq] at h
      subst h
      exact ⟨Nat.le_refl _, by simp [Nat.eq_of_beq_eq_true hb]⟩
    | false =>
      rw [hb] at h
      obtain ⟨h1, h2⟩ := pos_spec l id (n + 1) i h
      refine ⟨by omega, ?_⟩
      have : i - n = (i - (n + 1)) + 1 := by omega
      rw [this]; simpa using h2
def gren (l : List Nat) (g : Gh) : Gh := fun i => (l[i]?).bind g
theorem gren_pos {l : List Nat} {g : Gh} {id i : Nat} {s : Slot} (h : pos id l 0 = some i) (hg : g id = some s) : gren l g i = some s := by
  obtain ⟨_, h2⟩ := pos_spec l id 0 i h
  unfold gren
  rw [Nat.sub_zero] at h2
  rw [h2]; exact hg
section
variable {g : Gh} {A W : Nat → Prop} {w : World} {h : Hp} {l : List Nat}
mutual
theorem renV_rel : ∀ (x y : PV) (cs : List Value), renV l x = some y → x.rel g A w cs → y.rel (gren l g) A w cs
  | .sl id, y, cs, e, r => by
    unfold renV at e
    rw [Option.map_eq_some_iff] at e
    obtain ⟨i, hi, rfl⟩ := e
    unfold PV.rel at r ⊢
    obtain ⟨s, v, h1, h2⟩ := r
    exact ⟨s, v, gren_pos hi h1, h2⟩
  | .sv id p o n s m, y, cs, e, r => by
    unfold renV at e
    rw [Option.map_eq_some_iff] at e
    obtain ⟨i, hi, rfl⟩ := e
    unfold PV.rel at r ⊢
    obtain ⟨s, v, h1, h2⟩ := r
    exact ⟨s, v, gren_pos hi h1, h2⟩
  | .ptr id p, y, cs, e, r => by
    unfold renV at e
    rw [Option.map_eq_some_iff] at e
    obtain ⟨i, hi, rfl⟩ := e
    unfold PV.rel at r ⊢
    obtain ⟨s, b, h1, h2⟩ := r
    exact ⟨s, b, gren_pos hi h1, h2⟩
  | .agg xs, y, cs, e, r => by
    unfold renV at e
    rw [Option.map_eq_some_iff] at e
    obtain ⟨ys, hi, rfl⟩ := e
    unfold PV.rel at r ⊢
    exact renL_rel xs ys cs hi r
  | .tup xs, y, cs, e, r => by
    unfold renV at e
    rw [Option.map_eq_some_iff] at e
    obtain ⟨ys, hi, rfl⟩ := e
    unfold PV.rel at r ⊢
    obtain ⟨vs, h1, h2⟩ := r
    exact ⟨vs, h1, renL_tups xs ys _ hi h2⟩
  | .fn f xs, y, cs, e, r => by
    unfold renV at e
    rw [Option.map_eq_some_iff] at e
    obtain ⟨ys, hi, rfl⟩ := e
    unfold PV.rel at r ⊢
    obtain ⟨rfl, h2⟩ := r
    unfold renL at hi
    injection hi with hi
    exact ⟨hi.symm, h2⟩
  | .v t x, y, cs, e, r => by
    unfold renV at e; injection e with e; subst e
    unfold PV.rel at r ⊢; exact r
  | .iptr t x, y, cs, e, r => by
    unfold renV at e; injection e with e; subst e
    unfold PV.rel at r ⊢; exact r
  | .nils, y, cs, e, r => by
    unfold renV at e; injection e with e; subst e
    unfold PV.rel at r ⊢; exact r
  | .undef, y, cs, e, r => by
    unfold renV at e; injection e with e; subst e
    unfold PV.rel at r ⊢; exact r
theorem renL_rel : ∀ (xs ys : List PV) (cs : List Value), renL l xs = some ys → rels g A w xs cs → rels (gren l g) A w ys cs
  | [], ys, cs, e, r => by
    unfold renL at e; injection e with e; subst e
    unfold rels at r ⊢; exact r
  | x :: xs, ys, cs, e, r => by
    unfold renL at e
    simp only [Option.bind_eq_some_iff, Option.some.injEq] at e
    obtain ⟨a, h1, b, h2, rfl⟩ := e
    unfold rels at r ⊢
    obtain ⟨c, d, h3, h4, h5⟩ := r
    exact ⟨c, d, h3, renV_rel x a c h1 h4, renL_rel xs b d h2 h5⟩
theorem renL_tups : ∀ (xs ys : List PV) (vs : List Value), renL l xs = some ys → tups g A w xs vs → tups (gren l g) A w ys vs
  | [], ys, vs, e, r => by
    unfold renL at e; injection e with e; subst e
    unfold tups at r ⊢; exact r
  | x :: xs, ys, vs, e, r => by
    unfold renL at e
    simp only [Option.bind_eq_some_iff, Option.some.injEq] at e
    obtain ⟨a, h1, b, h2, rfl⟩ := e
    unfold tups at r ⊢
    obtain ⟨v, r', h3, h4, h5⟩ := r
    have hag : aggP a = aggP x := by
      cases x <;> unfold renV at h1 <;> first
        | (rw [Option.map_eq_some_iff] at h1; obtain ⟨i, _, rfl⟩ := h1; rfl)
        | (injection h1 with h1; subst h1; rfl)
    refine ⟨v, r', h3, ?_, renL_tups xs b r' h2 h5⟩
    rw [hag]
    cases hx : aggP x with
    | true =>
      rw [hx] at h4
      obtain ⟨cs, q1, q2⟩ := h4
      exact ⟨cs, q1, renV_rel x a _ h1 q2⟩
    | false =>
      rw [hx] at h4
      exact renV_rel x a _ h1 h4
end
theorem renV_agg {x y : PV} (h1 : renV l x = some y) : aggP y = aggP x := by
  cases x <;> unfold renV at h1 <;> first
    | (rw [Option.map_eq_some_iff] at h1; obtain ⟨i, _, rfl⟩ := h1; rfl)
    | (injection h1 with h1; subst h1; rfl)
theorem renV_VRel {x y : PV} {v : Value} (h : renV l x = some y) (r : VRel g A w x v) : VRel (gren l g) A w y v := by
  unfold VRel at r ⊢
  rw [renV_agg h]
  cases hx : aggP x with
  | true => rw [hx] at r; obtain ⟨cs, q1, q2⟩ := r; exact ⟨cs, q1, renV_rel x y _ h q2⟩
  | false => rw [hx] at r; exact renV_rel x y _ h r
theorem renT_look : ∀ (tm tm' : List (Nat × PV)) (t : Nat) (y : PV), renT l tm = some tm' → look t tm' = some y → ∃ x, look t tm = some x ∧ renV l x = some y
  | [], tm', t, y, e, h => by
    unfold renT at e; injection e with e; subst e; cases h
  | (u, x) :: tm, tm', t, y, e, h => by
    unfold renT at e
    simp only [Option.bind_eq_some_iff, Option.some.injEq] at e
    obtain ⟨a, h1, b, h2, rfl⟩ := e
    rw [look_cons] at h ⊢
    split at h
    · rename_i htu; rw [if_pos htu]; injection h with h; subst h; exact ⟨x, rfl, h1⟩
    · rename_i htu; rw [if_neg htu]; exact renT_look tm b t y h2 h
theorem keepT_look {m : Nat} {tm : List (Nat × PV)} : ∀ (k u t : Nat) (x : PV), look t (keepT m tm k u) = some x → look t tm = some x
  | 0, u, t, x, h => by cases h
  | k + 1, u, t, x, h => by
    unfold keepT at h
    cases hm : has m u with
    | false => rw [hm] at h; exact keepT_look k (u + 1) t x h
    | true =>
      rw [hm] at h
      simp only [cond_true] at h
      split at h
      · rename_i y hy
        rw [look_cons] at h
        split at h
        · rename_i e; injection h with h; subst h e; exact hy
        · exact keepT_look k (u + 1) t x h
      · exact keepT_look k (u + 1) t x h
theorem renH_look {hp : Hp} : ∀ (r : List Nat) (n : Nat) (h' : Hp), renH hp l r n = some h' → (∀ i, i < n → look i h' = none) ∧ ∀ i, n ≤ i → (look i h' = (r[i - n]?).bind fun id => some ((hp.at id).bind (renB l))) ∧ ∀ id b, r[i - n]? = some id → hp.at id = some b → ∃ b', renB l b = some b'
  | [], n, h', e => by
    unfold renH at e; injection e with e; subst e
    exact ⟨fun _ _ => rfl, fun i _ => ⟨by simp [look], fun id b h => by simp at h⟩⟩
  | id :: r, n, h', e => by
    unfold renH at e
    have step : ∀ (ob : Option Blk) (hh : Hp), renH hp l r (n + 1) = some hh → h' = (n, ob) :: hh → ((hp.at id).bind (renB l) = ob) → (∀ b, hp.at id = some b → ∃ b', renB l b = some b') →
        (∀ i, i < n → look i h' = none) ∧ ∀ i, n ≤ i → (look i h' = ((id :: r)[i - n]?).bind fun id => some ((hp.at id).bind (renB l))) ∧ ∀ id' b, (id :: r)[i - n]? = some id' → hp.at id' = some b → ∃ b', renB l b = some b' := fun ob hh e1 e2 e3 e4 => by
      obtain ⟨q1, q2⟩ := renH_look r (n + 1) hh e1
      subst e2
      refine ⟨fun i hi => ?_, fun i hi => ?_⟩
      · rw [look_cons, if_neg (by omega)]; exact q1 i (by omega)
      · rw [look_cons]
        by_cases ei : i = n
        · subst ei
          rw [if_pos rfl, Nat.sub_self]
          exact ⟨by simp [e3], fun id' b h => by simp at h; subst h; exact e4 b⟩
        · rw [if_neg ei]
          have hs : i - n = (i - (n + 1)) + 1 := by omega
          rw [hs]
          simpa using q2 i (by omega)
    split at e
    · rename_i b hb
      simp only [Option.bind_eq_some_iff, Option.some.injEq] at e
      obtain ⟨b', h1, hh, h2, rfl⟩ := e
      exact step (some b') hh h2 rfl (by rw [hb]; exact h1) (fun c hc => by rw [hb] at hc; injection hc with hc; subst hc; exact ⟨b', h1⟩)
    · rename_i hb
      simp only [Option.bind_eq_some_iff, Option.some.injEq] at e
      obtain ⟨hh, h2, rfl⟩ := e
      exact step none hh h2 rfl (by rw [hb]; rfl) (fun c hc => by rw [hb] at hc; cases hc)
theorem nodup_inj : ∀ (l : List Nat), nodupB l = true → ∀ (i j id : Nat), l[i]? = some id → l[j]? = some id → i = j
  | [], _, i, j, id, h, _ => by simp at h
  | a :: l, hn, i, j, id, h1, h2 => by
    simp only [nodupB, Bool.and_eq_true, Bool.not_eq_true'] at hn
    have ha : ∀ k, l[k]? = some a → False := fun k hk => by
      have : (l.any (Nat.beq a)) = true := List.any_eq_true.2 ⟨a, List.mem_of_getElem? hk, Nat.beq_refl a⟩
      rw [hn.1] at this; cases this
    cases i with
    | zero =>
      cases j with
      | zero => rfl
      | succ j =>
        simp at h1 h2; subst h1; exact (ha j h2).elim
    | succ i =>
      cases j with
      | zero => simp at h1 h2; subst h2; exact (ha i h1).elim
      | succ j =>
        have := nodup_inj l hn.2 i j id (by simpa using h1) (by simpa using h2)
        omega
theorem renH_HR (H : HR g A W w h) {h' : Hp} (hn : nodupB l = true) (e : renH h l l 0 = some h') : HR (gren l g) A W w h' := by
  obtain ⟨_, q⟩ := renH_look l 0 h' e
  have at' : ∀ i b', h'.at i = some b' → ∃ id b, l[i]? = some id ∧ h.at id = some b ∧ renB l b = some b' := fun i b' hb => by
    have := (q i (Nat.zero_le _)).1
    rw [Nat.sub_zero] at this
    unfold Hp.at at hb
    rw [this] at hb
    cases hl : l[i]? with
    | none => rw [hl] at hb; cases hb
    | some id =>
      rw [hl] at hb
      have hb : (h.at id).bind (renB l) = some b' := hb
      rw [Option.bind_eq_some_iff] at hb
      obtain ⟨b, h1, h2⟩ := hb
      exact ⟨id, b, rfl, h1, h2⟩
  have live' : ∀ b b', renB l b = some b' → b'.live = b.live := fun b b' hb => by
    cases b with
    | box x => unfold renB at hb; rw [Option.map_eq_some_iff] at hb; obtain ⟨y, _, rfl⟩ := hb; rfl
    | row t xs f => unfold renB at hb; injection hb with hb; subst hb; rfl
  have gl : ∀ i id, l[i]? = some id → gren l g i = g id := fun i id hi => by unfold gren; rw [hi]; rfl
  refine ⟨fun i b' hb => ?_, fun i b' s r hb hl hg hs => ?_, fun i j b c s s' r hb hc hbl hcl hg hg' hs hs' => ?_, fun i s hg => ?_, H.lt⟩
  · obtain ⟨id, b, h1, h2, h3⟩ := at' i b' hb
    have hB := H.blk id b h2
    cases b with
    | box x =>
      unfold renB at h3
      rw [Option.map_eq_some_iff] at h3
      obtain ⟨y, h3, rfl⟩ := h3
      obtain ⟨s, bb, c, et, q1, q2, q3, q4⟩ := hB
      exact ⟨s, bb, c, et, by rw [gl i id h1]; exact q1, q2, q3, renV_rel x y _ h3 q4⟩
    | row t xs f =>
      unfold renB at h3; injection h3 with h3; subst h3
      obtain ⟨s, q1, q2⟩ := hB
      exact ⟨s, by rw [gl i id h1]; exact q1, q2⟩
  · obtain ⟨id, b, h1, h2, h3⟩ := at' i b' hb
    rw [gl i id h1] at hg
    exact H.own id b s r h2 (by rw [← live' b b' h3]; exact hl) hg hs
  · obtain ⟨id, b1, h1, h2, h3⟩ := at' i b hb
    obtain ⟨id', c1, k1, k2, k3⟩ := at' j c hc
    rw [gl i id h1] at hg
    rw [gl j id' k1] at hg'
    have := H.inj id id' b1 c1 s s' r h2 k2 (by rw [← live' _ _ h3]; exact hbl) (by rw [← live' _ _ k3]; exact hcl) hg hg' hs hs'
    subst this
    exact nodup_inj l hn i j id h1 k1
  · unfold gren at hg
    rw [Option.bind_eq_some_iff] at hg
    obtain ⟨id, h1, _⟩ := hg
    have := (q i (Nat.zero_le _)).1
    rw [Nat.sub_zero, h1] at this
    exact ⟨_, this⟩
theorem renL_io : ∀ (xs ys : List PV) (ss : List Slot), renL l xs = some ys → IoR g xs ss → IoR (gren l g) ys ss
  | [], ys, ss, e, r => by
    unfold renL at e; injection e with e; subst e
    cases ss with
    | nil => trivial
    | cons _ _ => exact r.elim
  | x :: xs, ys, [], e, r => r.elim
  | x :: xs, ys, s :: ss, e, r => by
    unfold renL at e
    simp only [Option.bind_eq_some_iff, Option.some.injEq] at e
    obtain ⟨a, h1, b, h2, rfl⟩ := e
    obtain ⟨⟨id, hx, hg⟩, r⟩ := r
    refine ⟨?_, renL_io xs b ss h2 r⟩
    rcases hx with rfl | rfl
    · unfold renV at h1
      rw [Option.map_eq_some_iff] at h1
      obtain ⟨i, hi, rfl⟩ := h1
      exact ⟨i, .inl rfl, gren_pos hi hg⟩
    · unfold renV at h1
      rw [Option.map_eq_some_iff] at h1
      obtain ⟨i, hi, rfl⟩ := h1
      exact ⟨i, .inr rfl, gren_pos hi hg⟩
end
theorem norm_ok {B : Bs} {g : Gh} {A : Nat → Prop} {a : Act} {w : World} {nt m : Nat} {st st' : St} (R : RS B g A a w st.tm st.hp st.io) (e : norm nt m st = some st') : ∃ g', RS B g' A a w st'.tm st'.hp st'.io := by
  unfold norm at e
  simp only at e
  generalize idsB st.hp (idsB st.hp (idsB st.hp (idsT (keepT m st.tm nt 0) (idsL st.io [])) (idsT (keepT m st.tm nt 0) (idsL st.io []))) _) _ = l at e
  cases hn : nodupB l with
  | false => rw [hn] at e; cases e
  | true =>
    rw [hn] at e
    simp only [cond_true, Option.bind_eq_some_iff, Option.some.injEq] at e
    obtain ⟨tm, h1, hp, h2, io, h3, rfl⟩ := e
    refine ⟨gren l g, R.size, R.defs, fun t y hy => ?_, renH_HR R.hr hn h2, R.mono, R.in', R.same, R.keep, renL_io _ _ _ h3 R.io⟩
    obtain ⟨x, q1, q2⟩ := renT_look _ _ t y h1 hy
    obtain ⟨q3, q4⟩ := R.tms t x (keepT_look _ _ _ _ q1)
    exact ⟨q3, renV_VRel q2 q4⟩
end Go.Proofs.Ytjmgelpeonodgaa.PM
