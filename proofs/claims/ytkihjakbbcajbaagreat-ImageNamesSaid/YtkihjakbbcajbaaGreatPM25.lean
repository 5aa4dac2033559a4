/- The same state in few words: numbers of rows and boxes changed. -/
import Derived.Test.YtkihjakbbcajbaaGreatPM19
namespace Go.Proofs.YtkihjakbbcajbaaGreat.PM
set_option linter.unusedSimpArgs false
set_option linter.unusedVariables false
open Go

theorem pos_spec : ∀ (l : List Nat) (id n i : Nat), pos id l n = some i → n ≤ i ∧ l[i - n]? = some id
  | [], _, _, _, h => by simp [pos] at h
  | j :: l, id, n, i, h => by
    unfold pos at h
    cases hb : Nat.beq id j with
    | true =>
      rw [hb] at h
      simp only [cond_true, Option.some.injEq] at h
      subst h
      exact ⟨Nat.le_refl _, by simp [Nat.eq_of_beq_eq_true hb]⟩
    | false =>
      rw [hb] at h
      obtain ⟨h1, h2⟩ := pos_spec l id (n + 1) i h
      refine ⟨by omega, ?_⟩
      have : i - n = (i - (n + 1)) + 1 := by omega
      rw [this]; simpa using h2
def gren (l : List Nat) (g : Gh) : Gh := fun i => (l[i]?).bind g
theorem gren_pos {l : List Nat} {g : Gh} {id i : Nat} {s : Slot} (h : pos id l 0 = some i) (hg : g id = some s) : gren l g i = some s := by
  obtain ⟨_, h2⟩ := pos_spec l id 0 i h
  unfold gren
  rw [Nat.sub_zero] at h2
  rw [h2]; exact hg
section
variable {g : Gh} {A W : Nat → Prop} {w : World} {h : Hp} {l : List Nat}
mutual
theorem renV_rel : ∀ (x y : PV) (cs : List Value), renV l x = some y → x.rel g A w cs → y.rel (gren l g) A w cs
  | .sl id, y, cs, e, r => by
    unfold renV at e
    rw [Option.map_eq_some_iff] at e
    obtain ⟨i, hi, rfl⟩ := e
    unfold PV.rel at r ⊢
    obtain ⟨s, v, h1, h2⟩ := r
    exact ⟨s, v, gren_pos hi h1, h2⟩
  | .sv id p o n s m, y, cs, e, r => by
    unfold renV at e
    rw [Option.map_eq_some_iff] at e
    obtain ⟨i, hi, rfl⟩ := e
    unfold PV.rel at r ⊢
    obtain ⟨s, v, h1, h2⟩ := r
    exact ⟨s, v, gren_pos hi h1, h2⟩
  | .ptr id p, y, cs, e, r => by
    unfold renV at e
    rw [Option.map_eq_some_iff] at e
    obtain ⟨i, hi, rfl⟩ := e
    unfold PV.rel at r ⊢
    obtain ⟨s, b, h1, h2⟩ := r
    exact ⟨s, b, gren_pos hi h1, h2⟩
  | .agg xs, y, cs, e, r => by
    unfold renV at e
    rw [Option.map_eq_some_iff] at e
    obtain ⟨ys, hi, rfl⟩ := e
    unfold PV.rel at r ⊢
    exact renL_rel xs ys cs hi r
  | .tup xs, y, cs, e, r => by
    unfold renV at e
    rw [Option.map_eq_some_iff] at e
    obtain ⟨ys, hi, rfl⟩ := e
    unfold PV.rel at r ⊢
    obtain ⟨vs, h1, h2⟩ := r
    exact ⟨vs, h1, renL_tups xs ys _ hi h2⟩
  | .fn f xs, y, cs, e, r => by
    unfold renV at e
    rw [Option.map_eq_some_iff] at e
    obtain ⟨ys, hi, rfl⟩ := e
    unfold PV.rel at r ⊢
    obtain ⟨vs, h1, h2⟩ := r
    exact ⟨vs, h1, renL_rel xs ys _ hi h2⟩
  | .v t x, y, cs, e, r => by
    unfold renV at e; injection e with e; subst e
    unfold PV.rel at r ⊢; exact r
  | .iptr t x, y, cs, e, r => by
    unfold renV at e; injection e with e; subst e
    unfold PV.rel at r ⊢; exact r
  | .nils, y, cs, e, r => by
    unfold renV at e; injection e with e; subst e
    unfold PV.rel at r ⊢; exact r
  | .undef, y, cs, e, r => by
    unfold renV at e; injection e with e; subst e
    unfold PV.rel at r ⊢; exact r
theorem renL_rel : ∀ (xs ys : List PV) (cs : List Value), renL l xs = some ys → rels g A w xs cs → rels (gren l g) A w ys cs
  | [], ys, cs, e, r => by
    unfold renL at e; injection e with e; subst e
    unfold rels at r ⊢; exact r
  | x :: xs, ys, cs, e, r => by
    unfold renL at e
    simp only [Option.bind_eq_some_iff, Option.some.injEq] at e
    obtain ⟨a, h1, b, h2, rfl⟩ := e
    unfold rels at r ⊢
    obtain ⟨c, d, h3, h4, h5⟩ := r
    exact ⟨c, d, h3, renV_rel x a c h1 h4, renL_rel xs b d h2 h5⟩
theorem renL_tups : ∀ (xs ys : List PV) (vs : List Value), renL l xs = some ys → tups g A w xs vs → tups (gren l g) A w ys vs
  | [], ys, vs, e, r => by
    unfold renL at e; injection e with e; subst e
    unfold tups at r ⊢; exact r
  | x :: xs, ys, vs, e, r => by
    unfold renL at e
    simp only [Option.bind_eq_some_iff, Option.some.injEq] at e
    obtain ⟨a, h1, b, h2, rfl⟩ := e
    unfold tups at r ⊢
    obtain ⟨v, r', h3, h4, h5⟩ := r
    have hag : aggP a = aggP x := by
      cases x <;> unfold renV at h1 <;> first
        | (rw [Option.map_eq_some_iff] at h1; obtain ⟨i, _, rfl⟩ := h1; rfl)
        | (injection h1 with h1; subst h1; rfl)
    refine ⟨v, r', h3, ?_, renL_tups xs b r' h2 h5⟩
    rw [hag]
    cases hx : aggP x with
    | true =>
      rw [hx] at h4
      obtain ⟨cs, q1, q2⟩ := h4
      exact ⟨cs, q1, renV_rel x a _ h1 q2⟩
    | false =>
      rw [hx] at h4
      exact renV_rel x a _ h1 h4
end
theorem renV_agg {x y : PV} (h1 : renV l x = some y) : aggP y = aggP x := by
  cases x <;> unfold renV at h1 <;> first
    | (rw [Option.map_eq_some_iff] at h1; obtain ⟨i, _, rfl⟩ := h1; rfl)
    | (injection h1 with h1; subst h1; rfl)
theorem renV_VRel {x y : PV} {v : Value} (h : renV l x = some y) (r : VRel g A w x v) : VRel (gren l g) A w y v := by
  unfold VRel at r ⊢
  rw [renV_agg h]
  cases hx : aggP x with
  | true => rw [hx] at r; obtain ⟨cs, q1, q2⟩ := r; exact ⟨cs, q1, renV_rel x y _ h q2⟩
  | false => rw [hx] at r; exact renV_rel x y _ h r
theorem renT_look : ∀ (tm tm' : List (Nat × PV)) (t : Nat) (y : PV), renT l tm = some tm' → look t tm' = some y → ∃ x, look t tm = some x ∧ renV l x = some y
  | [], tm', t, y, e, h => by
    unfold renT at e; injection e with e; subst e; cases h
  | (u, x) :: tm, tm', t, y, e, h => by
    unfold renT at e
    simp only [Option.bind_eq_some_iff, Option.some.injEq] at e
    obtain ⟨a, h1, b, h2, rfl⟩ := e
    rw [look_cons] at h ⊢
    split at h
    · rename_i htu; rw [if_pos htu]; injection h with h; subst h; exact ⟨x, rfl, h1⟩
    · rename_i htu; rw [if_neg htu]; exact renT_look tm b t y h2 h
theorem keepT_look {m : Nat} {tm : List (Nat × PV)} : ∀ (k u t : Nat) (x : PV), look t (keepT m tm k u) = some x → look t tm = some x
  | 0, u, t, x, h => by cases h
  | k + 1, u, t, x, h => by
    unfold keepT at h
    cases hm : has m u with
    | false => rw [hm] at h; exact keepT_look k (u + 1) t x h
    | true =>
      rw [hm] at h
      simp only [cond_true] at h
      split at h
      · rename_i y hy
        rw [look_cons] at h
        split at h
        · rename_i e; injection h with h; subst h e; exact hy
        · exact keepT_look k (u + 1) t x h
      · exact keepT_look k (u + 1) t x h
theorem renH_look {hp : Hp} : ∀ (r : List Nat) (n : Nat) (h' : Hp), renH hp l r n = some h' → (∀ i, i < n → look i h' = none) ∧ ∀ i, n ≤ i → (look i h' = (r[i - n]?).bind fun id => some ((hp.at id).bind (renB l))) ∧ ∀ id b, r[i - n]? = some id → hp.at id = some b → ∃ b', renB l b = some b'
  | [], n, h', e => by
    unfold renH at e; injection e with e; subst e
    exact ⟨fun _ _ => rfl, fun i _ => ⟨by simp [look], fun id b h => by simp at h⟩⟩
  | id :: r, n, h', e => by
    unfold renH at e
    have step : ∀ (ob : Option Blk) (hh : Hp), renH hp l r (n + 1) = some hh → h' = (n, ob) :: hh → ((hp.at id).bind (renB l) = ob) → (∀ b, hp.at id = some b → ∃ b', renB l b = some b') →
        (∀ i, i < n → look i h' = none) ∧ ∀ i, n ≤ i → (look i h' = ((id :: r)[i - n]?).bind fun id => some ((hp.at id).bind (renB l))) ∧ ∀ id' b, (id :: r)[i - n]? = some id' → hp.at id' = some b → ∃ b', renB l b = some b' := fun ob hh e1 e2 e3 e4 => by
      obtain ⟨q1, q2⟩ := renH_look r (n + 1) hh e1
      subst e2
      refine ⟨fun i hi => ?_, fun i hi => ?_⟩
      · rw [look_cons, if_neg (by omega)]; exact q1 i (by omega)
      · rw [look_cons]
        by_cases ei : i = n
        · subst ei
          rw [if_pos rfl, Nat.sub_self]
          exact ⟨by simp [e3], fun id' b h => by simp at h; subst h; exact e4 b⟩
        · rw [if_neg ei]
          have hs : i - n = (i - (n + 1)) + 1 := by omega
          rw [hs]
          simpa using q2 i (by omega)
    split at e
    · rename_i b hb
      simp only [Option.bind_eq_some_iff, Option.some.injEq] at e
      obtain ⟨b', h1, hh, h2, rfl⟩ := e
      exact step (some b') hh h2 rfl (by rw [hb]; exact h1) (fun c hc => by rw [hb] at hc; injection hc with hc; subst hc; exact ⟨b', h1⟩)
    · rename_i hb
      simp only [Option.bind_eq_some_iff, Option.some.injEq] at e
      obtain ⟨hh, h2, rfl⟩ := e
      exact step none hh h2 rfl (by rw [hb]; rfl) (fun c hc => by rw [hb] at hc; cases hc)
theorem nodup_inj : ∀ (l : List Nat), nodupB l = true → ∀ (i j id : Nat), l[i]? = some id → l[j]? = some id → i = j
  | [], _, i, j, id, h, _ => by simp at h
  | a :: l, hn, i, j, id, h1, h2 => by
    simp only [nodupB, Bool.and_eq_true, Bool.not_eq_true'] at hn
    have ha : ∀ k, l[k]? = some a → False := fun k hk => by
      have : (l.any (Nat.beq a)) = true := List.any_eq_true.2 ⟨a, List.mem_of_getElem? hk, Nat.beq_refl a⟩
      rw [hn.1] at this; cases this
    cases i with
    | zero =>
      cases j with
      | zero => rfl
      | succ j =>
        simp at h1 h2; subst h1; exact (ha j h2).elim
    | succ i =>
      cases j with
      | zero => simp at h1 h2; subst h2; exact (ha i h1).elim
      | succ j =>
        have := nodup_inj l hn.2 i j id (by simpa using h1) (by simpa using h2)
        omega
theorem renH_HR (H : HR g A W w h) {h' : Hp} (hn : nodupB l = true) (e : renH h l l 0 = some h') : HR (gren l g) A W w h' := by
  obtain ⟨_, q⟩ := renH_look l 0 h' e
  have at' : ∀ i b', h'.at i = some b' → ∃ id b, l[i]? = some id ∧ h.at id = some b ∧ renB l b = some b' := fun i b' hb => by
    have := (q i (Nat.zero_le _)).1
    rw [Nat.sub_zero] at this
    unfold Hp.at at hb
    rw [this] at hb
    cases hl : l[i]? with
    | none => rw [hl] at hb; cases hb
    | some id =>
      rw [hl] at hb
      have hb : (h.at id).bind (renB l) = some b' := hb
      rw [Option.bind_eq_some_iff] at hb
      obtain ⟨b, h1, h2⟩ := hb
      exact ⟨id, b, rfl, h1, h2⟩
  have live' : ∀ b b', renB l b = some b' → b'.live = b.live := fun b b' hb => by
    cases b with
    | box x => unfold renB at hb; rw [Option.map_eq_some_iff] at hb; obtain ⟨y, _, rfl⟩ := hb; rfl
    | row t xs f => unfold renB at hb; injection hb with hb; subst hb; rfl
  have gl : ∀ i id, l[i]? = some id → gren l g i = g id := fun i id hi => by unfold gren; rw [hi]; rfl
  refine ⟨fun i b' hb => ?_, fun i b' s r hb hl hg hs => ?_, fun i j b c s s' r hb hc hbl hcl hg hg' hs hs' => ?_, fun i s hg => ?_, H.lt⟩
  · obtain ⟨id, b, h1, h2, h3⟩ := at' i b' hb
    have hB := H.blk id b h2
    cases b with
    | box x =>
      unfold renB at h3
      rw [Option.map_eq_some_iff] at h3
      obtain ⟨y, h3, rfl⟩ := h3
      obtain ⟨s, bb, c, et, q1, q2, q3, q4⟩ := hB
      exact ⟨s, bb, c, et, by rw [gl i id h1]; exact q1, q2, q3, renV_rel x y _ h3 q4⟩
    | row t xs f =>
      unfold renB at h3; injection h3 with h3; subst h3
      obtain ⟨s, q1, q2⟩ := hB
      exact ⟨s, by rw [gl i id h1]; exact q1, q2⟩
  · obtain ⟨id, b, h1, h2, h3⟩ := at' i b' hb
    rw [gl i id h1] at hg
    exact H.own id b s r h2 (by rw [← live' b b' h3]; exact hl) hg hs
  · obtain ⟨id, b1, h1, h2, h3⟩ := at' i b hb
    obtain ⟨id', c1, k1, k2, k3⟩ := at' j c hc
    rw [gl i id h1] at hg
    rw [gl j id' k1] at hg'
    have := H.inj id id' b1 c1 s s' r h2 k2 (by rw [← live' _ _ h3]; exact hbl) (by rw [← live' _ _ k3]; exact hcl) hg hg' hs hs'
    subst this
    exact nodup_inj l hn i j id h1 k1
  · unfold gren at hg
    rw [Option.bind_eq_some_iff] at hg
    obtain ⟨id, h1, _⟩ := hg
    have := (q i (Nat.zero_le _)).1
    rw [Nat.sub_zero, h1] at this
    exact ⟨_, this⟩
theorem renL_io : ∀ (xs ys : List PV) (ss : List Slot), renL l xs = some ys → IoR g xs ss → IoR (gren l g) ys ss
  | [], ys, ss, e, r => by
    unfold renL at e; injection e with e; subst e
    cases ss with
    | nil => trivial
    | cons _ _ => exact r.elim
  | x :: xs, ys, [], e, r => r.elim
  | x :: xs, ys, s :: ss, e, r => by
    unfold renL at e
    simp only [Option.bind_eq_some_iff, Option.some.injEq] at e
    obtain ⟨a, h1, b, h2, rfl⟩ := e
    obtain ⟨⟨id, hx, hg⟩, r⟩ := r
    refine ⟨?_, renL_io xs b ss h2 r⟩
    rcases hx with rfl | rfl
    · unfold renV at h1
      rw [Option.map_eq_some_iff] at h1
      obtain ⟨i, hi, rfl⟩ := h1
      exact ⟨i, .inl rfl, gren_pos hi hg⟩
    · unfold renV at h1
      rw [Option.map_eq_some_iff] at h1
      obtain ⟨i, hi, rfl⟩ := h1
      exact ⟨i, .inr rfl, gren_pos hi hg⟩
end
theorem norm_ok {B : Bs} {g : Gh} {A : Nat → Prop} {a : Act} {w : World} {nt m : Nat} {st st' : St} (R : RS B g A a w st.tm st.hp st.io) (e : norm nt m st = some st') : ∃ g', RS B g' A a w st'.tm st'.hp st'.io := by
  unfold norm at e
  simp only at e
  generalize idsB st.hp (idsB st.hp (idsB st.hp (idsT (keepT m st.tm nt 0) (idsL st.io [])) (idsT (keepT m st.tm nt 0) (idsL st.io []))) _) _ = l at e
  cases hn : nodupB l with
  | false => rw [hn] at e; cases e
  | true =>
    rw [hn] at e
    simp only [cond_true, Option.bind_eq_some_iff, Option.some.injEq] at e
    obtain ⟨tm, h1, hp, h2, io, h3, rfl⟩ := e
    refine ⟨gren l g, R.size, R.defs, fun t y hy => ?_, renH_HR R.hr hn h2, R.mono, R.in', R.same, R.keep, renL_io _ _ _ h3 R.io⟩
    obtain ⟨x, q1, q2⟩ := renT_look _ _ t y h1 hy
    obtain ⟨q3, q4⟩ := R.tms t x (keepT_look _ _ _ _ q1)
    exact ⟨q3, renV_VRel q2 q4⟩
end Go.Proofs.YtkihjakbbcajbaaGreat.PM
namespace Go.Proofs.YtkihjakbbcajbaaGreat.PM
set_option linter.unusedSimpArgs false
set_option linter.unusedVariables false
open Go

def items (K : List Item) : List It → List Item
  | [] => K
  | .code c :: k => .code c :: items K k
  | .blk id :: k => .inBlock id :: items K k
  | .lp b :: k => .inLoop b :: items K k
  | .join :: k => items K k
def dstOk (nt : Nat) (ops : List Oper) : Bool := ops.all fun o => match o.dst with
  | some d => decide (d < nt)
  | none => true
def wfC (nt : Nat) : Code → Bool
  | .region _ ops _ => dstOk nt ops.toList && edgesOk ops.toList 0
  | .seq a b => wfC nt a && wfC nt b
  | .cond _ a b => wfC nt a && wfC nt b
  | .block _ b => wfC nt b
  | .loop b => wfC nt b
  | _ => true
def wfI (nt : Nat) : List It → Bool
  | [] => true
  | .code c :: k => wfC nt c && wfI nt k
  | .lp b :: k => wfC nt b && wfI nt k
  | _ :: k => wfI nt k
theorem dstOk_at {nt : Nat} {ops : List Oper} (h : dstOk nt ops = true) (j d : Nat) (e : dstOf ops j = some d) : d < nt := by
  unfold dstOf at e
  rw [Option.bind_eq_some_iff] at e
  obtain ⟨o, h1, h2⟩ := e
  have := List.all_eq_true.1 h o (List.mem_of_getElem? h1)
  rw [h2] at this
  exact of_decide_eq_true this
theorem exit_items {K : List Item} {id : Nat} {nt : Nat} : ∀ (k k' : List It), exitI id k = some k' → exitTo id (items K k) = some (items K k') ∧ (wfI nt k = true → wfI nt k' = true)
  | [], k', h => by cases h
  | .blk j :: k, k', h => by
    unfold exitI at h
    cases hb : Nat.beq id j with
    | true =>
      rw [hb] at h
      simp only [cond_true, Option.some.injEq] at h
      subst h
      obtain rfl := Nat.eq_of_beq_eq_true hb
      exact ⟨by simp [items, exitTo], fun h => h⟩
    | false =>
      rw [hb] at h
      have hne : id ≠ j := Nat.ne_of_beq_eq_false hb
      obtain ⟨h1, h2⟩ := exit_items (K := K) (nt := nt) k k' h
      have hne' : j ≠ id := fun e => hne e.symm
      exact ⟨by simp [items, exitTo, hne, hne', h1], h2⟩
  | .code c :: k, k', h => by
    obtain ⟨h1, h2⟩ := exit_items (K := K) (nt := nt) k k' h
    exact ⟨by simp [items, exitTo, h1], fun h => h2 (by simp only [wfI, Bool.and_eq_true] at h; exact h.2)⟩
  | .lp b :: k, k', h => by
    obtain ⟨h1, h2⟩ := exit_items (K := K) (nt := nt) k k' h
    exact ⟨by simp [items, exitTo, h1], fun h => h2 (by simp only [wfI, Bool.and_eq_true] at h; exact h.2)⟩
  | .join :: k, k', h => by
    obtain ⟨h1, h2⟩ := exit_items (K := K) (nt := nt) k k' h
    exact ⟨by simp only [items]; exact h1, h2⟩
def Ends (P : Program) (b : Frame) (K : List Item) (cs : List Frame) (m : Machine) (Post : Bool → Act → World → Prop) : Prop :=
  ∃ e a w, ((e = Exit.normal ∧ Post false a w) ∨ (e = Exit.ret ∧ Post true a w)) ∧ Arrives P m b K cs e a w
theorem Ends.of_steps {P : Program} {b : Frame} {K : List Item} {cs : List Frame} {m m' : Machine} {Post : Bool → Act → World → Prop} (h : Steps P m m') : Ends P b K cs m' Post → Ends P b K cs m Post :=
  fun ⟨e, a, w, h1, h2⟩ => ⟨e, a, w, h1, Arrives.of_steps h h2⟩
section
variable {P : Program} {E : Env} {B : Bs} {ρ : Type}
theorem seg_ok (hE : EnvOk P E) (hgl : E.globs = B.gl) (hmix : P.follows .mixedOrders = true) {C : Cx ρ} (hCE : C.E = E) (hCn : C.nt = B.nt) {Post : ρ → Bool → Act → World → Prop} {f : List It → St → Option ρ}
    (fin : ∀ st r, (C.fin st).ev f = some r → ∀ g A a w, RS B g A a w st.tm st.hp st.io → Post r false a w) (finR : ∀ st r, (C.finR st).ev f = some r → ∀ g A a w, RS B g A a w st.tm st.hp st.io → Post r true a w) (b : Frame) (K : List Item) (cs : List Frame)
    (hf : ∀ its st r, f its st = some r → ∀ g A a w, RS B g A a w st.tm st.hp st.io → wfI B.nt its = true → Ends P b K cs (Go.lone (b.at a (items K its)) cs w) (Post r)) :
    ∀ (n : Nat) (its : List It) (st : St) (r : ρ), (seg C n its st).ev f = some r → ∀ g A a w, RS B g A a w st.tm st.hp st.io → wfI B.nt its = true → Ends P b K cs (Go.lone (b.at a (items K its)) cs w) (Post r)
  | 0, its, st, r, e, _, _, _, _, _, _ => by simp [seg, DT.ev] at e
  | n + 1, [], st, r, e, g, A, a, w, R, _ => by
    unfold seg at e
    exact ⟨.normal, a, w, .inl ⟨rfl, fin st r e g A a w R⟩, .refl _ _⟩
  | n + 1, .blk id :: k, st, r, e, g, A, a, w, R, hw => by
    unfold seg at e
    exact (seg_ok hE hgl hmix hCE hCn fin finR b K cs hf n k st r e g A a w R hw).of_steps (.one step_inBlock)
  | n + 1, .join :: k, st, r, e, g, A, a, w, R, hw => by
    unfold seg at e
    simp only at e
    split at e
    · rename_i st' hs
      obtain ⟨g', R'⟩ := norm_ok R hs
      exact hf k st' r e g' A a w R' hw
    · simp [DT.ev] at e
  | n + 1, .lp c :: k, st, r, e, g, A, a, w, R, hw => by
    unfold seg at e
    simp only at e
    split at e
    · rename_i st' hs
      obtain ⟨g', R'⟩ := norm_ok R hs
      simp only [wfI, Bool.and_eq_true] at hw
      exact (hf (.code c :: .lp c :: k) st' r e g' A a w R' (by simp [wfI, hw.1, hw.2])).of_steps (.one step_inLoop)
    · simp [DT.ev] at e
  | n + 1, .code c :: k, st, r, e, g, A, a, w, R, hw => by
    unfold seg at e
    simp only at e
    simp only [wfI, Bool.and_eq_true] at hw
    obtain ⟨hwc, hwk⟩ := hw
    split at e
    · exact (seg_ok hE hgl hmix hCE hCn fin finR b K cs hf n k st r e g A a w R hwk).of_steps (.one step_skip)
    · rename_i x y
      simp only [wfC, Bool.and_eq_true] at hwc
      exact (seg_ok hE hgl hmix hCE hCn fin finR b K cs hf n (.code x :: .code y :: k) st r e g A a w R (by simp [wfI, hwc.1, hwc.2, hwk])).of_steps (.one step_seq)
    · rename_i id x
      simp only [wfC] at hwc
      exact (seg_ok hE hgl hmix hCE hCn fin finR b K cs hf n (.code x :: .blk id :: k) st r e g A a w R (by simp [wfI, hwc, hwk])).of_steps (.one step_block)
    · rename_i x
      simp only [wfC] at hwc
      cases n with
      | zero => simp [seg, DT.ev] at e
      | succ n =>
        unfold seg at e
        simp only at e
        split at e
        · rename_i st' hs
          obtain ⟨g', R'⟩ := norm_ok R hs
          exact (hf (.code x :: .lp x :: k) st' r e g' A a w R' (by simp [wfI, hwc, hwk])).of_steps (.one step_loop)
        · simp [DT.ev] at e
    · rename_i id
      split at e
      · rename_i k' hk
        obtain ⟨h1, h2⟩ := exit_items (K := K) (nt := B.nt) k k' hk
        exact (seg_ok hE hgl hmix hCE hCn fin finR b K cs hf n k' st r e g A a w R (h2 hwk)).of_steps (.one (step_exit h1))
      · simp [DT.ev] at e
    · exact ⟨.ret, a, w, .inr ⟨rfl, finR st r e g A a w R⟩, _, .one step_ret⟩
    · rename_i c x y
      simp only [wfC, Bool.and_eq_true] at hwc
      split at e
      · rename_i t hc
        have hv := v_bool (R.opd c _ (by rw [← hgl, ← hCE]; exact hc))
        have hlit : ∀ s, look s (litC st.tm c t) = look s st.tm := fun s => by
          cases c with
          | tmp u => exact known st.tm u t hc s
          | _ => rfl
        simp only [DT.ev] at e
        cases t with
        | true =>
          simp only [cond_true] at e
          have := seg_ok hE hgl hmix hCE hCn fin finR b K cs hf n (.code x :: .join :: k) ⟨litC st.tm c true, st.hp, st.nx, st.io⟩ r e g A a w (R.congr (fun s => (hlit s).symm) (fun _ => rfl)) (by simp [wfI, hwc.1, hwk])
          exact this.of_steps (.one (step_cond hv))
        | false =>
          simp only [cond_false] at e
          have := seg_ok hE hgl hmix hCE hCn fin finR b K cs hf n (.code y :: .join :: k) ⟨litC st.tm c false, st.hp, st.nx, st.io⟩ r e g A a w (R.congr (fun s => (hlit s).symm) (fun _ => rfl)) (by simp [wfI, hwc.2, hwk])
          exact this.of_steps (.one (step_cond hv))
      · simp [DT.ev] at e
    · rename_i id ops draw
      simp only [wfC, Bool.and_eq_true] at hwc
      rw [hCE] at e
      obtain ⟨rc, tm', hl, ran, htm, e2⟩ := opsD_ran (all := ops.toList) (nx := st.nx) (tm0 := st.tm) (h0 := st.hp) ops.toList [] [] st.tm (by simp) rfl (fun _ => rfl) (fun j h => by simp at h) (by simpa [hpS] using e)
      rw [show ∀ (b : Bool) (x y : DT ρ), (cond b x y).ev f = cond b (x.ev f) (y.ev f) from fun b x y => by cases b <;> rfl] at e2
      cases hd : (!draw || drawOk ops.toList (rc.map fun r => (r.rs.reverse, r.ws.map (·.1)))) with
      | false => rw [hd] at e2; simp [DT.ev] at e2
      | true =>
        rw [hd] at e2
        simp only [cond_true] at e2
        have W := region_ok (P := P) (id := id) (ops := ops) (draw := draw) (Q := fun e a w => e = .normal ∧ ∃ g A, RS B g A a w tm' (hpS (fun k => (rcAt rc k).ws) st.hp (fun _ => true) ops.toList.length) st.io) hE hgl hmix rfl hl hwc.2 (fun hdr => by rw [hdr] at hd; simpa [fpsOf] using hd) ran (dstOk_at hwc.1) R
          (fun g A a w R' => ⟨rfl, g, A, R'.congr (fun t => (htm t).symm) (fun _ => rfl)⟩)
        obtain ⟨ex, a', w', ⟨rfl, g', A', R'⟩, harr⟩ := W b (items K k) cs
        exact (seg_ok hE hgl hmix hCE hCn fin finR b K cs hf n k _ r e2 g' A' a' w' R' hwk).of_steps harr
    · simp [DT.ev] at e
theorem run_ok (hE : EnvOk P E) (hgl : E.globs = B.gl) (hmix : P.follows .mixedOrders = true) {C : Cx ρ} (hCE : C.E = E) (hCn : C.nt = B.nt) {Post : ρ → Bool → Act → World → Prop}
    (fin : ∀ f st r, (C.fin st).ev f = some r → ∀ g A a w, RS B g A a w st.tm st.hp st.io → Post r false a w) (finR : ∀ f st r, (C.finR st).ev f = some r → ∀ g A a w, RS B g A a w st.tm st.hp st.io → Post r true a w) (b : Frame) (K : List Item) (cs : List Frame) :
    ∀ (n : Nat) (its : List It) (st : St) (r : ρ), run C n its st = some r → ∀ g A a w, RS B g A a w st.tm st.hp st.io → wfI B.nt its = true → Ends P b K cs (Go.lone (b.at a (items K its)) cs w) (Post r)
  | 0, its, st, r, e, _, _, _, _, _, _ => by simp [run] at e
  | n + 1, its, st, r, e, g, A, a, w, R, hw =>
    seg_ok hE hgl hmix hCE hCn (fin (run C n)) (finR (run C n)) b K cs (run_ok hE hgl hmix hCE hCn fin finR b K cs n) 100000 its st r e g A a w R hw
theorem res_run {C : Cx ρ} {its : List It} {st : St} {r : ρ} (h : res C its st = some r) : ∃ n, run C n its st = some r := by
  unfold res lm at h
  split at h
  · rename_i hx
    injection h with h
    subst h
    exact hx.choose_spec
  · cases h
theorem res_ok (hE : EnvOk P E) (hgl : E.globs = B.gl) (hmix : P.follows .mixedOrders = true) {C : Cx ρ} (hCE : C.E = E) (hCn : C.nt = B.nt) {Post : ρ → Bool → Act → World → Prop}
    (fin : ∀ f st r, (C.fin st).ev f = some r → ∀ g A a w, RS B g A a w st.tm st.hp st.io → Post r false a w) (finR : ∀ f st r, (C.finR st).ev f = some r → ∀ g A a w, RS B g A a w st.tm st.hp st.io → Post r true a w) (b : Frame) (K : List Item) (cs : List Frame) {its : List It} {st : St} {r : ρ} (e : res C its st = some r) {g : Gh} {A : Nat → Prop} {a : Act} {w : World} (R : RS B g A a w st.tm st.hp st.io) (hw : wfI B.nt its = true) :
    Ends P b K cs (Go.lone (b.at a (items K its)) cs w) (Post r) := by
  obtain ⟨n, e⟩ := res_run e
  exact run_ok hE hgl hmix hCE hCn fin finR b K cs n its st r e g A a w R hw
end
end Go.Proofs.YtkihjakbbcajbaaGreat.PM
namespace Go.Proofs.YtkihjakbbcajbaaGreat.PM
set_option linter.unusedSimpArgs false
set_option linter.unusedVariables false
open Go

def SlR : List PK → List Value → List Slot → Prop
  | [], _, ss => ss = []
  | .io _ _ :: r, vs, ss => ∃ v us s tt, vs = v :: us ∧ ss = s :: tt ∧ (∃ b, s.blk = some b ∧ v = .pointer (some ⟨b, 0, none⟩)) ∧ SlR r us tt
  | .mu _ :: r, vs, ss => ∃ v us s tt, vs = v :: us ∧ ss = s :: tt ∧ SlV s v ∧ SlR r us tt
  | .val _ :: r, vs, ss => SlR r vs.tail ss
  | .fn _ :: r, vs, ss => SlR r vs.tail ss
  | .eat _ :: r, vs, ss => SlR r vs.tail ss
  | .clo f _ :: r, vs, ss => ∃ v us s tt, vs = .func (.func f) #[] #[v] :: us ∧ ss = s :: tt ∧ (∃ b, s.blk = some b ∧ v = .pointer (some ⟨b, 0, none⟩)) ∧ SlR r us tt
section
variable {A W : Nat → Prop} {w : World}
theorem VRel_of {g : Gh} {x : PV} {v : Value} {t : Ty} (h1 : aggP x = t.agg) (h2 : isAggV v = t.agg) (r : x.rel g A w v.cells.toList) : VRel g A w x v := by
  have h3 := VRel.of_cells r
  have h4 : ofCells (aggP x) v.cells.toList = v := by
    rw [h1, ← h2]
    cases hx : isAggV v with
    | true => cases v <;> simp_all [isAggV, ofCells, Value.cells]
    | false => rw [isAggV_cells hx]; rfl
  rw [h4] at h3; exact h3
theorem start_ok (ps : List PK) : ∀ (g : Gh) (h : Hp) (vs : List Value) (x : (argTy ps).den) (bs : List Nat) (i n : Nat) (q : List (Nat × PV) × List PV × Nat) (h' : Hp), HR g A W w h → ArgsRel A w ps vs x bs → bs.Nodup → (∀ r, r ∈ bs → ¬ A r ∧ W r ∧ Free g h r) → (start ps x i n).Ok h q h' →
    ∃ g' ss, g.le g' ∧ HR g' A W w h' ∧ (∀ t y, look t q.1 = some y → ∃ j v, t = i + j ∧ vs[j]? = some v ∧ VRel g' A w y v) ∧ IoR g' q.2.1 ss ∧ SlR ps vs ss := by
  induction ps with
  | nil =>
    intro g h vs x bs i n q h' H ha hn hb e
    simp only [start, Ok_ret] at e
    obtain ⟨rfl, rfl⟩ := e
    exact ⟨g, [], Gh.le_refl g, H, fun t y hh => (nomatch (show (none : Option PV) = some y from hh)), trivial, rfl⟩
  | cons k ps ih =>
    intro g h vs x bs i n q h' H ha hn hb e
    -- what is behind the first parameter, moved by one
    have move : ∀ {g2 g' : Gh} {z : PV} {v : Value} {us : List Value} {tm : List (Nat × PV)}, g2.le g' → VRel g2 A w z v → (∀ t y, look t tm = some y → ∃ j u, t = i + 1 + j ∧ us[j]? = some u ∧ VRel g' A w y u) →
        ∀ t y, look t ((i, z) :: tm) = some y → ∃ j u, t = i + j ∧ (v :: us)[j]? = some u ∧ VRel g' A w y u := fun {g2 g' z v us tm} hl hz hr t y hy => by
      rw [look_cons] at hy
      split at hy
      · rename_i e; injection hy with hy; subst hy e
        exact ⟨0, v, rfl, rfl, hz.mono hl (fun _ h => h) (fun _ _ => rfl)⟩
      · obtain ⟨j, u, h1, h2, h3⟩ := hr t y hy
        exact ⟨j + 1, u, by omega, by simpa using h2, h3⟩
    cases k with
    | val t =>
      simp only [start, Ok_bind, Ok_ret] at e
      obtain ⟨q1, h1, e1, rfl, rfl⟩ := e
      obtain ⟨v, us, rfl, ⟨hv1, hv2⟩, ha⟩ := ha
      obtain ⟨g', ss, l, H', r1, r2, r3⟩ := ih g h us x.2 bs (i + 1) n q1 h' H ha hn hb e1
      have hz : VRel g A w (mk t x.1) v := VRel_of (isAgg_mk t x.1) hv1 (mk_rel t x.1 _ hv2.1)
      exact ⟨g', ss, l, H', move l hz r1, r2, r3⟩
    | fn f =>
      simp only [start, Ok_bind, Ok_ret] at e
      obtain ⟨q1, h1, e1, rfl, rfl⟩ := e
      obtain ⟨v, us, rfl, hv, ha⟩ := ha
      obtain ⟨g', ss, l, H', r1, r2, r3⟩ := ih g h us x bs (i + 1) n q1 h' H ha hn hb e1
      have hz : VRel g A w (.fn f []) v := by
        unfold VRel; simp only [aggP]; unfold PV.rel; exact ⟨#[], by rw [hv], rfl⟩
      exact ⟨g', ss, l, H', move l hz r1, r2, r3⟩
    | mu t =>
      simp only [start, Q.Ok, Ok_bind, Ok_ret] at e
      obtain ⟨e0, q1, h1, e1, rfl, rfl⟩ := e
      obtain ⟨v, us, b1, b2, rfl, rfl, ⟨s, s1, s2, rfl⟩, ha⟩ := ha
      rw [List.nodup_append] at hn
      have hu : upd g n s n = some s := upd_self g n s
      have H1 := H.add e0 s (b := .row t x.1 false) ⟨s, hu, s2, fun h => by cases h⟩ (fun _ r hr => hb r (by rw [hr]; simp))
      have hl := le_upd (s := s) (H.gnone e0)
      obtain ⟨g', ss, l, H', r1, r2, r3⟩ := ih (upd g n s) _ us x.2 b2 (i + 1) (n + 1) q1 h' H1 ha hn.2.1 (fun r hr => ⟨(hb r (by simp [hr])).1, (hb r (by simp [hr])).2.1, (hb r (by simp [hr])).2.2.add (H.gnone e0) (fun h => hn.2.2 r (by rw [h]; simp) r hr rfl)⟩) e1
      exact ⟨g', s :: ss, Gh.le_trans hl l, H', move l (of_sl hu s1) r1, ⟨⟨n, .inr rfl, l _ _ hu⟩, r2⟩, ⟨v, us, s, ss, rfl, rfl, s1, r3⟩⟩
    | eat t =>
      simp only [start, Q.Ok, Ok_bind, Ok_ret] at e
      obtain ⟨e0, q1, h1, e1, rfl, rfl⟩ := e
      obtain ⟨v, us, b1, b2, rfl, rfl, ⟨s, s1, s2, rfl⟩, ha⟩ := ha
      rw [List.nodup_append] at hn
      have hu : upd g n s n = some s := upd_self g n s
      have H1 := H.add e0 s (b := .row t x.1 false) ⟨s, hu, s2, fun h => by cases h⟩ (fun _ r hr => hb r (by rw [hr]; simp))
      have hl := le_upd (s := s) (H.gnone e0)
      obtain ⟨g', ss, l, H', r1, r2, r3⟩ := ih (upd g n s) _ us x.2 b2 (i + 1) (n + 1) q1 h' H1 ha hn.2.1 (fun r hr => ⟨(hb r (by simp [hr])).1, (hb r (by simp [hr])).2.1, (hb r (by simp [hr])).2.2.add (H.gnone e0) (fun h => hn.2.2 r (by rw [h]; simp) r hr rfl)⟩) e1
      exact ⟨g', ss, Gh.le_trans hl l, H', move l (of_sl hu s1) r1, r2, r3⟩
    | clo f t =>
      simp only [start, Q.Ok, Ok_bind, Ok_ret] at e
      obtain ⟨e0, q1, h1, e1, rfl, rfl⟩ := e
      obtain ⟨v, us, b1, b2, rfl, rfl, ⟨b, c, ty, pp, rfl, q2, rfl, q4⟩, ha⟩ := ha
      rw [List.nodup_append] at hn
      have hu : upd g n ⟨some b, 0, 0⟩ n = some ⟨some b, 0, 0⟩ := upd_self g n _
      have hl := le_upd (s := ⟨some b, 0, 0⟩) (H.gnone e0)
      have hbb := hb b (by simp)
      have H1 := H.add e0 ⟨some b, 0, 0⟩ (b := .box (mk t x.1)) ⟨_, b, c, ty, hu, rfl, q2, PV.rel_mono hl (fun _ h => h) (fun _ _ => rfl) _ _ (mk_rel t x.1 _ q4.1)⟩ (fun _ r hr => by
        injection hr with hr; subst hr
        exact hbb)
      obtain ⟨g', ss, l, H', r1, r2, r3⟩ := ih (upd g n ⟨some b, 0, 0⟩) _ us x.2 b2 (i + 1) (n + 1) q1 h' H1 ha hn.2.1 (fun r hr => ⟨(hb r (by simp [hr])).1, (hb r (by simp [hr])).2.1, (hb r (by simp [hr])).2.2.add (H.gnone e0) (fun h => hn.2.2 r (by injection h with h; simp [h]) r hr rfl)⟩) e1
      have hz : VRel (upd g n ⟨some b, 0, 0⟩) A w (.fn f [.ptr n []]) (.func (.func f) #[] #[.pointer (some ⟨b, 0, none⟩)]) := by
        unfold VRel; simp only [aggP]; unfold PV.rel
        refine ⟨#[.pointer (some ⟨b, 0, none⟩)], rfl, ?_⟩
        unfold rels
        refine ⟨[.pointer (some ⟨b, 0, none⟩)], [], rfl, ?_, rfl⟩
        have := mk_ptr (A := A) (w := w) (p := []) hu rfl trivial
        unfold VRel at this; simp only [aggP] at this; exact this
      exact ⟨g', ⟨some b, 0, 0⟩ :: ss, Gh.le_trans hl l, H', move l hz r1, ⟨⟨n, .inl rfl, l _ _ hu⟩, r2⟩, ⟨_, us, _, ss, rfl, rfl, ⟨b, rfl, rfl⟩, r3⟩⟩
    | io t own =>
      simp only [start, Ok_bind, Q.Ok, Ok_ret] at e
      obtain ⟨p, h1, e1, e0, q1, h2, e2, rfl, rfl⟩ := e
      obtain ⟨v, us, b1, b2, rfl, rfl, ⟨b, c, ty, pp, rfl, q2, rfl, q4⟩, ha⟩ := ha
      rw [List.nodup_append] at hn
      obtain ⟨hn1, hn2, hn3⟩ := hn
      rw [List.nodup_cons] at hn1
      obtain ⟨g1, l1, H1, p1, f1, _⟩ := impO_ok H q4 hn1.2 (fun r hr => hb r (by simp [hr])) (show (impO t own x.1 (n + 1)).Ok h p h1 by unfold impO; exact e1)
      have hu : upd g1 n ⟨some b, 0, 0⟩ n = some ⟨some b, 0, 0⟩ := upd_self g1 n _
      have hl := le_upd (s := ⟨some b, 0, 0⟩) (H1.gnone e0)
      have hbb := hb b (by simp)
      have H2 := H1.add e0 ⟨some b, 0, 0⟩ (b := .box p.1) ⟨_, b, c, ty, hu, rfl, q2, PV.rel_mono hl (fun _ h => h) (fun _ _ => rfl) _ _ p1⟩ (fun _ r hr => by
        injection hr with hr; subst hr
        exact ⟨hbb.1, hbb.2.1, f1 b hbb.2.2 hn1.1⟩)
      obtain ⟨g', ss, l, H', r1, r2, r3⟩ := ih (upd g1 n ⟨some b, 0, 0⟩) _ us x.2 b2 (i + 1) p.2 q1 h' H2 ha hn2 (fun r hr => ⟨(hb r (by simp [hr])).1, (hb r (by simp [hr])).2.1, (f1 r (hb r (by simp [hr])).2.2 (fun h => hn3 r (by simp [h]) r hr rfl)).add (H1.gnone e0) (fun h => hn3 r (by injection h with h; simp [h]) r hr rfl)⟩) e2
      exact ⟨g', ⟨some b, 0, 0⟩ :: ss, Gh.le_trans l1 (Gh.le_trans hl l), H', move l (mk_ptr (p := []) hu rfl trivial) r1, ⟨⟨n, .inl rfl, l _ _ hu⟩, r2⟩, ⟨_, us, _, ss, rfl, rfl, ⟨b, rfl, rfl⟩, r3⟩⟩
end
end Go.Proofs.YtkihjakbbcajbaaGreat.PM
namespace Go.Proofs.YtkihjakbbcajbaaGreat.PM
set_option linter.unusedSimpArgs false
set_option linter.unusedVariables false
open Go

structure Gv (g : Gh) (A W : Nat → Prop) (w : World) (h : Hp) (A' : Nat → Prop) (h' : Hp) (bs : List Nat) : Prop where
  le : ∀ r, A r → A' r
  in' : ∀ r, A' r → A r ∨ W r
  hr : HR g A' W w h'
  nd : bs.Nodup
  own : ∀ r, r ∈ bs → Free g h' r ∧ ¬ Free g h r ∧ ¬ A' r
  free : ∀ r, Free g h r → Free g h' r ∧ (A' r → A r)
section
variable {g : Gh} {A A1 A2 W : Nat → Prop} {w : World} {h h1 h2 : Hp} {b1 b2 : List Nat}
theorem Gv.refl (H : HR g A W w h) : Gv g A W w h A h [] := ⟨fun _ h => h, fun _ h => .inl h, H, List.nodup_nil, fun r h => by simp at h, fun _ h => ⟨h, fun h => h⟩⟩
theorem Gv.trans (a : Gv g A W w h A1 h1 b1) (b : Gv g A1 W w h1 A2 h2 b2) : Gv g A W w h A2 h2 (b1 ++ b2) := by
  refine ⟨fun r hr => b.le r (a.le r hr), fun r hr => (b.in' r hr).elim (a.in' r) .inr, b.hr, ?_, fun r hr => ?_, fun r hf => ⟨(b.free r (a.free r hf).1).1, fun hr => (a.free r hf).2 ((b.free r (a.free r hf).1).2 hr)⟩⟩
  · rw [List.nodup_append]
    exact ⟨a.nd, b.nd, fun x hx y hy e => (b.own y hy).2.1 (e ▸ (a.own x hx).1)⟩
  · rcases List.mem_append.1 hr with hr | hr
    · obtain ⟨q1, q2, q3⟩ := a.own r hr
      exact ⟨(b.free r q1).1, q2, fun h => q3 ((b.free r q1).2 h)⟩
    · obtain ⟨q1, q2, q3⟩ := b.own r hr
      exact ⟨q1, fun h => q2 (a.free r h).1, q3⟩
def Given (A : Nat → Prop) (w : World) (t : Ty) (own : Bool) (cs : List Value) (y : t.den) (bs : List Nat) : Prop := match own with
  | true => OwnT A w t cs y bs
  | false => TRel A w t cs y ∧ bs = []
theorem give_ok {t : Ty} {own : Bool} {x : PV} {cs : List Value} {y : t.den} {h' : Hp} (H : HR g A W w h) (hx : x.rel g A w cs) (e : (give t own x).Ok h y h') : ∃ A' bs, Gv g A W w h A' h' bs ∧ Given A' w t own cs y bs := by
  unfold give at e
  rw [Ok_cond] at e
  rcases e with ⟨rfl, e⟩ | ⟨rfl, e⟩
  · simp only [Ok_bind, Ok_ret] at e
    obtain ⟨z, h1, e1, u, h2, e2, rfl, rfl⟩ := e
    have := dec_same t x _ h h1 e1
    subst this
    obtain ⟨bs, q1, q2, q3, q4, q5, _⟩ := eat_own t x _ h1 h1 cs u h' H hx (fun _ _ h => h) e1 H e2
    exact ⟨A, bs, ⟨fun _ h => h, fun _ h => .inl h, q3, q2, fun r hr => ⟨(q4 r hr).1, (q4 r hr).2, (owned_out H (q4 r hr).2).1⟩, fun r hf => ⟨q5 r hf, fun h => h⟩⟩, q1⟩
  · obtain ⟨A', F, q⟩ := typed_own H hx e
    exact ⟨A', [], ⟨F.le, F.in', F.hr, List.nodup_nil, fun r h => by simp at h, F.free⟩, q, rfl⟩
theorem give_dec {t : Ty} {own : Bool} {x : PV} {y : t.den} {h' : Hp} (e : (give t own x).Ok h y h') : ∃ z, (dec t x).Ok h z h := by
  unfold give at e
  rw [Ok_cond] at e
  rcases e with ⟨rfl, e⟩ | ⟨rfl, e⟩
  · simp only [Ok_bind] at e
    obtain ⟨z, h1, e1, _⟩ := e
    have := dec_same t x _ h h1 e1
    subst this
    exact ⟨z, e1⟩
  · simp only [typed, Ok_bind] at e
    obtain ⟨z, h1, e1, _⟩ := e
    have := dec_same t x _ h h1 e1
    subst this
    exact ⟨z, e1⟩
theorem Given.mono {A' : Nat → Prop} (hA : ∀ r, A r → A' r) {t : Ty} {own : Bool} {cs : List Value} {y : t.den} {bs : List Nat} (hg : Given A w t own cs y bs) : Given A' w t own cs y bs := by
  cases own with
  | true => exact OwnT.mono hA (fun _ _ => rfl) t cs y bs (fun _ _ => rfl) hg
  | false => exact ⟨TRel.mono hA (fun _ _ => rfl) t cs y hg.1, hg.2⟩
def resOk (P : Program) : List (Ty × Bool) → List ResultVar → Bool
  | [], [] => true
  | _ :: rs, .tmp _ :: r => resOk P rs r
  | (t, _) :: rs, .cell _ ty :: r => tyB P t ty && resOk P rs r
  | _, _ => false
def resAt (P : Program) (w : World) (tmps : Array Value) : ResultVar → Value → Prop
  | .tmp t, v => v = tmps.getD t undef
  | .cell t ty, v => ∃ ad, tmps.getD t undef = .pointer (some ad) ∧ (∃ c e z, w.heap[ad.block]? = some (.cells c e z)) ∧ ∀ w'' : World, w''.heap[ad.block]? = w.heap[ad.block]? → (loadVar ty ad).run P w'' = .ok v w''
def resAll (P : Program) (w : World) (tmps : Array Value) : List ResultVar → List Value → Prop
  | [], [] => True
  | r :: rs, v :: vs => resAt P w tmps r v ∧ resAll P w tmps rs vs
  | _, _ => False
theorem gives_ok {P : Program} {a : Act} {st : St} (htm : ∀ t x, look t st.tm = some x → VRel g A w x (a.tmps.getD t undef)) : ∀ (rs : List (Ty × Bool)) (vs : List ResultVar) (A1 : Nat → Prop) (h : Hp) (y : (resTy rs).den) (h' : Hp), (∀ r, A r → A1 r) → HR g A1 W w h → resOk P rs vs = true → (gives st rs vs).Ok h y h' →
    ∃ A' bs zs, Gv g A1 W w h A' h' bs ∧ ResRel A' w rs zs y bs ∧ resAll P w a.tmps vs zs
  | [], [], A1, h, y, h', hA, H, _, e => by
    simp only [gives, Ok_ret] at e
    obtain ⟨rfl, rfl⟩ := e
    exact ⟨A1, [], [], .refl H, ⟨rfl, rfl⟩, trivial⟩
  | (t, own) :: rs, .tmp u :: vs, A1, h, y, h', hA, H, hr, e => by
    simp only [gives, resV, Ok_bind, Ok_get, Ok_ret] at e
    obtain ⟨x, h1, ⟨e1, rfl⟩, z, h2, e2, q, h3, e3, rfl, rfl⟩ := e
    have hx := (htm u x e1).mono (Gh.le_refl g) hA (fun _ _ => rfl)
    obtain ⟨c1, c2⟩ := VRel.cells hx
    obtain ⟨A2, b1, G1, g1⟩ := give_ok H c1 e2
    obtain ⟨A3, b2, zs, G2, g2, g3⟩ := gives_ok htm rs vs A2 h2 q h' (fun r hr => G1.le r (hA r hr)) G1.hr hr e3
    obtain ⟨z0, hz0⟩ := give_dec e2
    exact ⟨A3, b1 ++ b2, _ :: zs, G1.trans G2, ⟨_, _, b1, b2, rfl, rfl, ⟨by rw [c2, dec_agg _ _ _ _ _ hz0], g1.mono G2.le⟩, g2⟩, rfl, g3⟩
  | (t, own) :: rs, .cell u ty :: vs, A1, h, y, h', hA, H, hr, e => by
    simp only [resOk, Bool.and_eq_true] at hr
    simp only [gives, Ok_bind, Ok_ret] at e
    obtain ⟨x, h1, e1, z, h2, e2, q, h3, e3, rfl, rfl⟩ := e
    simp only [resV] at e1
    split at e1
    · rename_i id hid
      simp only [Q.Ok] at e1
      obtain ⟨B, hB, e1⟩ := e1
      cases B with
      | row _ _ _ => exact e1.elim
      | box x' =>
        obtain ⟨rfl, rfl⟩ := e1
        obtain ⟨s, b, hg, hs, hv, _⟩ := rel_ptr (htm u _ hid)
        obtain ⟨s', b', c, et, hg', hs', hh, hx⟩ := H.blk id _ hB
        rw [hg] at hg'; injection hg' with hg'; subst hg'
        rw [hs] at hs'; injection hs' with hs'; subst hs'
        obtain ⟨z0, hz0⟩ := give_dec e2
        have hag := dec_agg _ _ _ _ _ hz0
        have hlen : c.toList.length = t.size := TRel.len t _ _ (dec_rel H t x z0 _ _ hx hz0).2
        have hat : At w ⟨b, 0, none⟩ c.toList := At_block hh (o := 0) (fun j v hj => by simpa using hj)
        have hV := VRel.of_cells hx
        rw [hag] at hV
        obtain ⟨c1, c2⟩ := VRel.cells hV
        obtain ⟨A2, b1, G1, g1⟩ := give_ok H c1 e2
        obtain ⟨A3, b2, zs, G2, g2, g3⟩ := gives_ok htm rs vs A2 h2 q h' (fun r hr => G1.le r (hA r hr)) G1.hr hr.2 e3
        exact ⟨A3, b1 ++ b2, _ :: zs, G1.trans G2, ⟨_, _, b1, b2, rfl, rfl, ⟨by rw [c2, hag], g1.mono G2.le⟩, g2⟩, ⟨_, hv, ⟨_, _, _, hh⟩, fun w'' hw => run_loadVar_at (P := P) (t := ty) (τ := .data t) hr.1 (At.mono (a := ⟨b, 0, none⟩) hw hat) hlen⟩, g3⟩
    · exact e1.elim
  | [], _ :: _, _, _, _, _, _, _, _, e => by simp [gives, Q.Ok] at e
  | _ :: _, [], _, _, _, _, _, _, _, e => by simp [gives, Q.Ok] at e
end
end Go.Proofs.YtkihjakbbcajbaaGreat.PM
namespace Go.Proofs.YtkihjakbbcajbaaGreat.PM
set_option linter.unusedSimpArgs false
set_option linter.unusedVariables false
open Go
section
variable {g : Gh} {A A1 W : Nat → Prop} {w : World} {h : Hp}
theorem Gv.tomb (H : HR g A W w h) {id : Nat} {B : Blk} {s : Slot} (hb : h.at id = some B) (hl : B.live = true) (hg : g id = some s) : Gv g A W w h A ((id, none) :: h) s.blk.toList := by
  refine ⟨fun _ h => h, fun _ h => .inl h, H.del id, ?_, fun r hr => ?_, fun r hf => ⟨hf.del, fun h => h⟩⟩
  · cases s.blk <;> simp
  · have hs : s.blk = some r := by
      cases hh : s.blk with
      | none => rw [hh] at hr; simp at hr
      | some b => rw [hh] at hr; simp at hr; rw [hr]
    refine ⟨fun i c s' hi hc hgi hsi => ?_, fun hf => hf id B s hb hl hg hs, (H.own id B s r hb hl hg hs).1⟩
    rw [at_cons] at hi
    split at hi
    · cases hi
    · rename_i hne
      exact hne (H.inj i id c B s' s r hi hb hc hl hgi hg hsi hs)
theorem outs_ok {P : Program} {a : Act} {st : St} (htm : ∀ t x, look t st.tm = some x → VRel g A w x (a.tmps.getD t undef)) {rs : List (Ty × Bool)} {vs : List ResultVar} (hres : resOk P rs vs = true) (ps : List PK) : ∀ (l : List PV) (args : List Value) (ss : List Slot) (A1 : Nat → Prop) (h : Hp) (y : (outTy ps rs).den) (h' : Hp), (∀ r, A r → A1 r) → HR g A1 W w h → IoR g l ss → SlR ps args ss → (outs st rs vs ps l).Ok h y h' →
    ∃ A' bs zs, Gv g A1 W w h A' h' bs ∧ OutRel A' w ps rs args zs y bs ∧ resAll P w a.tmps vs zs := by
  induction ps with
  | nil =>
    intro l args ss A1 h y h' hA H _ _ e
    exact gives_ok htm rs vs A1 h y h' hA H hres (e)
  | cons k ps ih =>
    intro l args ss A1 h y h' hA H hio hsl e
    cases k with
    | val t =>
      have e : (outs st rs vs ps l).Ok h y h' := e
      exact ih l args.tail ss A1 h y h' hA H hio hsl e
    | fn f =>
      have e : (outs st rs vs ps l).Ok h y h' := e
      exact ih l args.tail ss A1 h y h' hA H hio hsl e
    | eat t =>
      have e : (outs st rs vs ps l).Ok h y h' := e
      exact ih l args.tail ss A1 h y h' hA H hio hsl e
    | io t own =>
      obtain ⟨v, us, s, tt, rfl, rfl, ⟨b, hs, rfl⟩, hsl⟩ := hsl
      cases l with
      | nil => exact hio.elim
      | cons x l =>
        obtain ⟨⟨id, hx, hg⟩, hio⟩ := hio
        simp only [outs] at e
        obtain ⟨z, h1, e1, e⟩ := (Ok_bind _ _ _ _ _).1 e
        obtain ⟨q, h2, e2, e⟩ := (Ok_bind _ _ _ _ _).1 e
        obtain ⟨rfl, rfl⟩ := e
        unfold outBox at e1
        rcases hx with rfl | rfl
        · simp only [Q.Ok] at e1
          obtain ⟨B, hB, e1⟩ := e1
          cases B with
          | row _ _ _ => exact e1.elim
          | box x =>
            simp only [Q.Ok] at e1
            obtain ⟨_, e1⟩ := e1
            obtain ⟨s', b', c, et, hg', hs', hh, hxr⟩ := H.blk id _ hB
            rw [hg] at hg'; injection hg' with hg'; subst hg'
            rw [hs] at hs'; injection hs' with hs'; subst hs'
            have T := Gv.tomb H hB rfl hg
            obtain ⟨A2, p, G2, gv⟩ := give_ok T.hr hxr e1
            obtain ⟨A3, bs, zs, G3, o1, o2⟩ := ih l us tt A2 h1 q h' (fun r hr => G2.le r (hA r hr)) G2.hr hio hsl e2
            exact ⟨A3, _, zs, (T.trans G2).trans G3, ⟨_, us, s.blk.toList ++ p, bs, rfl, rfl, ⟨b, c, et, p, rfl, hh, by rw [hs]; rfl, gv.mono G3.le⟩, o1⟩, o2⟩
        · exact e1.elim
    | clo f t =>
      obtain ⟨v, us, s, tt, rfl, rfl, ⟨b, hs, rfl⟩, hsl⟩ := hsl
      cases l with
      | nil => exact hio.elim
      | cons x l =>
        obtain ⟨⟨id, hx, hg⟩, hio⟩ := hio
        simp only [outs] at e
        obtain ⟨z, h1, e1, e⟩ := (Ok_bind _ _ _ _ _).1 e
        obtain ⟨q, h2, e2, e⟩ := (Ok_bind _ _ _ _ _).1 e
        obtain ⟨rfl, rfl⟩ := e
        unfold outBox at e1
        rcases hx with rfl | rfl
        · simp only [Q.Ok] at e1
          obtain ⟨B, hB, e1⟩ := e1
          cases B with
          | row _ _ _ => exact e1.elim
          | box x =>
            simp only [Q.Ok] at e1
            obtain ⟨_, e1⟩ := e1
            obtain ⟨s', b', c, et, hg', hs', hh, hxr⟩ := H.blk id _ hB
            rw [hg] at hg'; injection hg' with hg'; subst hg'
            rw [hs] at hs'; injection hs' with hs'; subst hs'
            have T := Gv.tomb H hB rfl hg
            obtain ⟨A2, p, G2, gv⟩ := give_ok T.hr hxr e1
            obtain ⟨A3, bs, zs, G3, o1, o2⟩ := ih l us tt A2 h1 q h' (fun r hr => G2.le r (hA r hr)) G2.hr hio hsl e2
            exact ⟨A3, _, zs, (T.trans G2).trans G3, ⟨_, us, s.blk.toList ++ p, bs, rfl, rfl, ⟨b, c, et, p, rfl, hh, by rw [hs]; rfl, gv.mono G3.le⟩, o1⟩, o2⟩
        · exact e1.elim
    | mu t =>
      obtain ⟨v, us, s, tt, rfl, rfl, hv, hsl⟩ := hsl
      cases l with
      | nil => exact hio.elim
      | cons x l =>
        obtain ⟨⟨id, hx, hg⟩, hio⟩ := hio
        simp only [outs] at e
        obtain ⟨z, h1, e1, e⟩ := (Ok_bind _ _ _ _ _).1 e
        obtain ⟨q, h2, e2, e⟩ := (Ok_bind _ _ _ _ _).1 e
        obtain ⟨rfl, rfl⟩ := e
        unfold rowIO at e1
        rcases hx with rfl | rfl
        · exact e1.elim
        · simp only [Q.Ok] at e1
          obtain ⟨B, hB, e1⟩ := e1
          cases B with
          | box _ => exact e1.elim
          | row u ys fz =>
            cases fz with
            | true => exact e1.elim
            | false =>
              obtain ⟨z', h3, f1, f2⟩ := (Ok_bind _ _ _ _ _).1 e1
              rw [Ok_get] at f1
              obtain ⟨ec, rfl⟩ := f1
              simp only [Q.Ok] at f2
              obtain ⟨_, rfl, rfl⟩ := f2
              obtain ⟨ev, _⟩ := cast_some ec
              injection ev with ev; subst ev
              obtain rfl := cast_self ec
              obtain ⟨s', hg', hrow, _⟩ := H.blk id _ hB
              rw [hg] at hg'; injection hg' with hg'; subst hg'
              have T := Gv.tomb H hB rfl hg
              obtain ⟨A3, bs, zs, G3, o1, o2⟩ := ih l us tt A1 _ q h' hA T.hr hio hsl e2
              exact ⟨A3, _, zs, T.trans G3, ⟨v, us, s.blk.toList, bs, rfl, rfl, ⟨s, hv, hrow.mono G3.le (fun _ _ => rfl) (fun _ _ => rfl), rfl⟩, o1⟩, o2⟩
end
end Go.Proofs.YtkihjakbbcajbaaGreat.PM
namespace Go.Proofs.YtkihjakbbcajbaaGreat.PM
set_option linter.unusedSimpArgs false
set_option linter.unusedVariables false
open Go
section
variable {P : Program} {E : Env}
theorem args_len {A : Nat → Prop} {w : World} : ∀ (ps : List PK) (vs : List Value) (x : (argTy ps).den) (bs : List Nat), ArgsRel A w ps vs x bs → vs.length = ps.length
  | [], vs, x, bs, h => by rw [h.1]; rfl
  | .val t :: r, vs, x, bs, h => by
    obtain ⟨v, us, rfl, _, h⟩ := h
    simp [args_len r us x.2 bs h]
  | .io t own :: r, vs, x, bs, h => by
    obtain ⟨v, us, p, q, rfl, _, _, h⟩ := h
    simp [args_len r us x.2 q h]
  | .mu t :: r, vs, x, bs, h => by
    obtain ⟨v, us, p, q, rfl, _, _, h⟩ := h
    simp [args_len r us x.2 q h]
  | .fn f :: r, vs, x, bs, h => by
    obtain ⟨v, us, rfl, _, h⟩ := h
    simp [args_len r us x bs h]
  | .eat t :: r, vs, x, bs, h => by
    obtain ⟨v, us, p, q, rfl, _, _, h⟩ := h
    simp [args_len r us x.2 q h]
  | .clo f t :: r, vs, x, bs, h => by
    obtain ⟨v, us, p, q, rfl, _, _, h⟩ := h
    simp [args_len r us x.2 q h]
def resSem (tmps : Array Value) : ResultVar → Sem Value
  | .tmp t => pure (tmps.getD t undef)
  | .cell a t => do loadVar t (← asAddr (tmps.getD a undef))
theorem resAll_run {w : World} {tmps : Array Value} : ∀ (rs : List ResultVar) (zs : List Value), resAll P w tmps rs zs → (rs.mapM (resSem tmps)).run P w = .ok zs w
  | [], [], _ => by simp
  | .tmp t :: rs, z :: zs, ⟨h1, h2⟩ => by
    have := resAll_run rs zs h2
    have h1 : z = tmps.getD t undef := h1
    subst h1
    simp [List.mapM_cons, resSem, this]
  | .cell t ty :: rs, z :: zs, ⟨⟨ad, h0, _, h1⟩, h2⟩ => by
    have := resAll_run rs zs h2
    simp [List.mapM_cons, resSem, h0, asAddr, h1 w rfl, this]
  | [], _ :: _, h => h.elim
  | _ :: _, [], h => h.elim
/-- The results lie as they lay when no block of cells has turned. -/
theorem resAll_turn {w w' : World} {tmps : Array Value} (hw : ∀ (r : Nat) (c : Array Value) (e : TypeId) (z : Nat × Nat), w.heap[r]? = some (Obj.cells c e z) → w'.heap[r]? = w.heap[r]?) : ∀ (rs : List ResultVar) (zs : List Value), resAll P w tmps rs zs → resAll P w' tmps rs zs
  | [], [], _ => trivial
  | .tmp t :: rs, z :: zs, ⟨h1, h2⟩ => ⟨h1, resAll_turn hw rs zs h2⟩
  | .cell t ty :: rs, z :: zs, ⟨⟨ad, h0, ⟨c, e, f, hc⟩, h1⟩, h2⟩ => ⟨⟨ad, h0, ⟨c, e, f, (hw _ _ _ _ hc).trans hc⟩, fun w'' h => h1 w'' (h.trans (hw _ _ _ _ hc))⟩, resAll_turn hw rs zs h2⟩
  | [], _ :: _, h => h.elim
  | _ :: _, [], h => h.elim
theorem results_run {w : World} {fn : Func} {tmps : Array Value} {zs : List Value} (h : resAll P w tmps fn.results.toList zs) : (results fn tmps).run P w = .ok (packV zs) w := by
  have h1 := resAll_run _ _ h
  have h2 : (fn.results.mapM (resSem tmps)).run P w = .ok zs.toArray w := by
    rw [Array.mapM_eq_mapM_toList]
    simp [h1]
  have h3 : results fn tmps = (do let vs ← fn.results.mapM (resSem tmps); pure (if h : vs.size = 1 then vs[0] else .tuple vs)) := by
    unfold results
    congr 1
  rw [h3, Sem.run_bind, h2, Result.andThen_ok, Sem.run_pure]
  congr 1
  cases zs with
  | nil => rfl
  | cons z zs => cases zs with
    | nil => rfl
    | cons y zs => simp [packV]
theorem fnOf_spec (hE : EnvOk P E) (hmix : P.follows .mixedOrders = true) {s : Sig} {f : FuncId} {fn : Func} {c : Code} (hf : P.funcs[f]? = some fn) (hname : (fn.name == "runtime.NumGoroutine") = false) (hb : fn.body = some c) (hwf : wfC fn.ntmps c = true) (hps : s.ps.length ≤ fn.ntmps) (hres : resOk P s.rs fn.results.toList = true) : FnSpec P E.globs f (fnOf E s fn) := by
  have hnm : fn.name ≠ "runtime.NumGoroutine" := by simpa using hname
  refine ⟨fun args w => by simp [callFunc, run_program, hf, hnm, hb], fun w A vs x bs y hgok hargs hnd hbs hA hF => ?_⟩
  have hF : (entry E s fn x).ev (res (cxOf E s fn)) = some y := hF
  unfold entry at hF
  obtain ⟨q, ws, rs, h1, h2⟩ := toD_evT _ _ _ _ _ hF
  have h1 := OkT_Ok _ _ _ _ _ h1
  have H0 : HR (fun _ => none) A (fun r => w.heap.size ≤ r ∨ r ∈ bs) w [] :=
    { blk := fun i b e => (nomatch (show (none : Option Blk) = some b from e)), own := fun i b s r e => (nomatch (show (none : Option Blk) = some b from e)), inj := fun i j b c s s' r e => (nomatch (show (none : Option Blk) = some b from e)), dfn := fun i s e => (nomatch (show (none : Option Slot) = some s from e)), lt := hA }
  obtain ⟨g', ss, _, H, r1, r2, r3⟩ := start_ok s.ps _ _ vs x bs 0 0 q _ H0 hargs hnd (fun r hr => ⟨(hbs r hr).1, .inr hr, fun i b s e => (nomatch (show (none : Option Blk) = some b from e))⟩) h1
  have hlen : vs.length = s.ps.length := args_len _ _ _ _ hargs
  let B : Bs := ⟨A, fun r => w.heap.size ≤ r ∨ r ∈ bs, w, fn.ntmps, ss, fun r hr => .inl hr, E.globs, hgok, []⟩
  have hgl : E.globs = B.gl := rfl
  have R : RS B g' A { tmps := vs.toArray ++ Array.replicate (fn.ntmps - vs.toArray.size) undef, defers := [] } w q.1 (ws ++ []) q.2.1 := by
    refine ⟨by simp [B]; omega, rfl, fun t z hz => ?_, H, fun _ h => h, fun _ h => .inl h, fun _ _ => rfl, .refl _ w, r2⟩
    obtain ⟨j, v, h3, h4, h5⟩ := r1 t z hz
    have hj : j < vs.length := by
      by_cases h : j < vs.length
      · exact h
      · rw [List.getElem?_eq_none (by omega)] at h4; cases h4
    obtain rfl : t = j := by omega
    refine ⟨by show t < fn.ntmps; omega, ?_⟩
    have : (vs.toArray ++ Array.replicate (fn.ntmps - vs.toArray.size) undef).getD t undef = v := by
      rw [List.getElem?_eq_getElem hj] at h4
      injection h4 with h4
      simp [Array.getD, hj, h4]
      try omega
    rw [this]; exact h5
  have hbody : body fn = c := by unfold body; rw [hb]
  rw [hbody] at h2
  let Post : (outTy s.ps s.rs).den → Act → World → Prop := fun y a w' => a.defers = [] ∧ ∃ zs, resAll P w' a.tmps fn.results.toList zs ∧ Done (fnOf E s fn) A w vs bs y (.returned (packV zs)) w'
  have fin : ∀ (ff : List It → St → Option (outTy s.ps s.rs).den) (st : St) (r : (outTy s.ps s.rs).den), ((cxOf E s fn).fin st).ev ff = some r → ∀ g A' a w', RS B g A' a w' st.tm st.hp st.io → Post r a w' := fun ff st r e g A' a w' R => by
    obtain ⟨z, ws', rs', k1, k2⟩ := toD_evT _ _ _ _ _ e
    have k1 := OkT_Ok _ _ _ _ _ k1
    simp only [DT.ev, Option.some.injEq] at k2
    subst k2
    obtain ⟨A2, bs2, zs, G, o1, o2⟩ := outs_ok (P := P) (a := a) (st := st) (fun t x e => (R.tms t x e).2) hres s.ps st.io vs ss A' st.hp z _ (fun _ h => h) R.hr R.io r3 k1
    refine ⟨R.defs, zs, o2, ⟨⟨zs, A2, bs2, rfl, o1, G.nd, fun r hr => ?_, fun r hr => ?_, fun r hr => G.hr.lt r hr⟩, R.keep⟩⟩
    · obtain ⟨q1, q2, q3⟩ := G.own r hr
      obtain ⟨_, p2, p3⟩ := owned_out R.hr q2
      exact ⟨q3, p2, p3⟩
    · exact (G.in' r hr).elim (R.in' r) .inr
  refine calls_of_wp hf hb (fun b k cs => ?_)
  obtain ⟨ex, a', w', hex, harr⟩ := seg_ok (B := B) hE hgl hmix (C := cxOf E s fn) rfl rfl (Post := fun r _ => Post r) (fin _) (fin _) b k cs (fun its st r e g A a w R hw => res_ok (Post := fun r _ => Post r) hE hgl hmix rfl rfl fin fin b k cs e R hw) 100000 [.code c] _ y h2 g' A _ w R (by simp [wfI, hwf, B])
  refine ⟨ex, a', w', ?_, harr⟩
  rcases hex with ⟨rfl, hd, zs, hz, hdone⟩ | ⟨rfl, hd, zs, hz, hdone⟩
  · exact ⟨hd, _, results_run hz, hdone⟩
  · exact ⟨hd, _, results_run hz, hdone⟩
end
end Go.Proofs.YtkihjakbbcajbaaGreat.PM
