/- Changes of the heap: blocks that are added, given away, frozen. -/
import Derived.Test.YtkihjakbbcajbaaGreatPM4
namespace Go.Proofs.YtkihjakbbcajbaaGreat.PM
set_option linter.unusedSimpArgs false
set_option linter.unusedVariables false
open Go

/-- No live block lies in r. -/
def Free (g : Gh) (h : Hp) (r : Nat) : Prop := ∀ i b s, h.at i = some b → b.live = true → g i = some s → s.blk ≠ some r
def upd (g : Gh) (id : Nat) (s : Slot) : Gh := fun i => if i = id then some s else g i
def OwnT (A : Nat → Prop) (w : World) : (t : Ty) → List Value → t.den → List Nat → Prop
  | .slice t, cs, x, bs => ∃ s v, cs = [v] ∧ SlV s v ∧ RowAt A w s t x ∧ bs = s.blk.toList
  | .pair a b, cs, x, bs => ∃ c d p q, cs = c ++ d ∧ bs = p ++ q ∧ OwnT A w a c x.1 p ∧ OwnT A w b d x.2 q
  | .unit, cs, _, bs => cs = [] ∧ bs = []
  | .int k, cs, x, bs => TRel A w (.int k) cs x ∧ bs = []
  | .bool, cs, x, bs => TRel A w .bool cs x ∧ bs = []
  | .str, cs, x, bs => TRel A w .str cs x ∧ bs = []
  | .arr n t, cs, x, bs => TRel A w (.arr n t) cs x ∧ bs = []
theorem OwnT.flat {A : Nat → Prop} {w : World} : ∀ (t : Ty) (cs : List Value) (x : t.den), t.flat = true → TRel A w t cs x → OwnT A w t cs x []
  | .slice t, _, _, hf, _ => by simp [Ty.flat] at hf
  | .pair a b, _, x, hf, ⟨c, d, e, h1, h2⟩ => by
    have hf' : a.flat = true ∧ b.flat = true := by simpa [Ty.flat] using hf
    exact ⟨c, d, [], [], e, rfl, OwnT.flat a c x.1 hf'.1 h1, OwnT.flat b d x.2 hf'.2 h2⟩
  | .unit, _, _, _, h => ⟨h, rfl⟩
  | .int _, _, _, _, h => ⟨h, rfl⟩
  | .bool, _, _, _, h => ⟨h, rfl⟩
  | .str, _, _, _, h => ⟨h, rfl⟩
  | .arr _ _, _, _, _, h => ⟨h, rfl⟩
mutual
theorem dec_same : ∀ (t : Ty) (x : PV) (y : t.den) (h h' : Hp), (dec t x).Ok h y h' → h' = h
  | .pair a b, x, y, h, h', e => by
    cases x with
    | agg xs =>
      cases xs with
      | nil => simp [dec, Q.Ok] at e
      | cons x xs =>
        simp only [dec, Ok_bind, Ok_ret] at e
        obtain ⟨p, h1, e1, q, h2, e2, _, e3⟩ := e
        have q1 := dec_same a x p h h1 e1
        have q2 := decs_same b xs q h1 h2 e2
        rw [e3, q2, q1]
    | v u z => simp only [dec, Ok_get] at e; exact e.2
    | _ => simp [dec, Q.Ok] at e
  | .unit, x, y, h, h', e => by
    cases x with
    | agg xs =>
      cases xs with
      | nil => simp only [dec, Ok_ret] at e; exact e.2
      | cons x xs => simp [dec, Q.Ok] at e
    | v u z => simp only [dec, Ok_get] at e; exact e.2
    | _ => simp [dec, Q.Ok] at e
  | .int _, x, y, h, h', e => by
    cases x with
    | v u z => simp only [dec, Ok_get] at e; exact e.2
    | _ => simp [dec, Q.Ok] at e
  | .bool, x, y, h, h', e => by
    cases x with
    | v u z => simp only [dec, Ok_get] at e; exact e.2
    | _ => simp [dec, Q.Ok] at e
  | .str, x, y, h, h', e => by
    cases x with
    | v u z => simp only [dec, Ok_get] at e; exact e.2
    | _ => simp [dec, Q.Ok] at e
  | .arr _ _, x, y, h, h', e => by
    cases x with
    | v u z => simp only [dec, Ok_get] at e; exact e.2
    | _ => simp [dec, Q.Ok] at e
  | .slice t, x, y, h, h', e => by
    cases x with
    | v u z => simp only [dec, Ok_get] at e; exact e.2
    | nils => simp only [dec, Ok_ret] at e; exact e.2
    | sl id =>
      simp only [dec, Q.Ok] at e
      obtain ⟨b, _, e⟩ := e
      cases b with
      | box x => simp [Q.Ok] at e
      | row u xs fz => simp only [Ok_get] at e; exact e.2
    | sv id p off len sz n =>
      simp only [dec, Q.Ok] at e
      obtain ⟨b, _, e⟩ := e
      cases b with
      | box x =>
        simp only at e
        split at e
        · simp only [Ok_cond, Ok_bind, Ok_get, Ok_ret, Ok_fail, and_false, or_false] at e
          obtain ⟨_, _, _, ⟨_, rfl⟩, _, rfl⟩ := e
          rfl
        · simp [Q.Ok] at e
      | row u xs fz =>
        simp only [Ok_bind, Ok_get] at e
        obtain ⟨ys, h1, ⟨_, rfl⟩, e'⟩ := e
        cases p with
        | nil =>
          simp only [Ok_cond, Ok_ret, Ok_fail, and_false, or_false] at e'
          exact e'.2.2
        | cons a p => simp [Q.Ok] at e'
    | _ => simp [dec, Q.Ok] at e
theorem decs_same : ∀ (t : Ty) (xs : List PV) (y : t.den) (h h' : Hp), (decs t xs).Ok h y h' → h' = h
  | .pair a b, xs, y, h, h', e => by
      cases xs with
      | nil => simp [decs, Q.Ok] at e
      | cons x xs =>
        simp only [decs, Ok_bind, Ok_ret] at e
        obtain ⟨p, h1, e1, q, h2, e2, _, e3⟩ := e
        have q1 := dec_same a x p h h1 e1
        have q2 := decs_same b xs q h1 h2 e2
        rw [e3, q2, q1]
  | .unit, xs, y, h, h', e => by
      cases xs with
      | nil => simp only [decs, Ok_ret] at e; exact e.2
      | cons x xs => simp [decs, Q.Ok] at e
  | .int _, _, _, _, _, e => by simp [decs, Q.Ok] at e
  | .bool, _, _, _, _, e => by simp [decs, Q.Ok] at e
  | .str, _, _, _, _, e => by simp [decs, Q.Ok] at e
  | .arr _ _, _, _, _, _, e => by simp [decs, Q.Ok] at e
  | .slice _, _, _, _, _, e => by simp [decs, Q.Ok] at e
end
section
variable {g : Gh} {A W : Nat → Prop} {w w' : World} {h : Hp}
theorem Gh.le_refl (g : Gh) : g.le g := fun _ _ e => e
theorem Gh.le_trans {g g' g'' : Gh} (h : g.le g') (h' : g'.le g'') : g.le g'' := fun i s e => h' i s (h i s e)
theorem le_upd {id : Nat} {s : Slot} (e : g id = none) : g.le (upd g id s) := fun i t h => by
  unfold upd; split
  · rename_i hi; subst hi; rw [e] at h; cases h
  · exact h
theorem RowAt.mono {A A' : Nat → Prop} {w w' : World} (hA : ∀ r, A r → A' r) (hw : ∀ r, A r → w'.heap[r]? = w.heap[r]?) {s : Slot} {t : Ty} {xs : List t.den} (hs : ∀ b, s.blk = some b → w'.heap[b]? = w.heap[b]?) (r : RowAt A w s t xs) : RowAt A' w' s t xs := by
  obtain ⟨h1, h2⟩ := r
  refine ⟨h1, ?_⟩
  cases hb : s.blk with
  | none => rw [hb] at h2; exact h2
  | some b =>
    rw [hb] at h2
    obtain ⟨h3, c, e, h4, h5, h6⟩ := h2
    exact ⟨h3, c, e, by rw [hs b hb]; exact h4, h5, h6.mono (TRel.mono hA hw t)⟩
theorem BRel.mono {g g' : Gh} {A A' : Nat → Prop} {w w' : World} (hg : g.le g') (hA : ∀ r, A r → A' r) (hw : ∀ r, A r → w'.heap[r]? = w.heap[r]?) {i : Nat} {b : Blk} (hs : ∀ s r, g i = some s → s.blk = some r → w'.heap[r]? = w.heap[r]?)
    (h : BRel g A w i b) : BRel g' A' w' i b := by
  cases b with
  | box x =>
    obtain ⟨s, b, c, e, h1, h2, h3, h4⟩ := h
    exact ⟨s, b, c, e, hg _ _ h1, h2, by rw [hs s b h1 h2]; exact h3, PV.rel_mono hg hA hw x _ h4⟩
  | row t xs fz =>
    obtain ⟨s, h1, h2, h3⟩ := h
    exact ⟨s, hg _ _ h1, h2.mono hA hw (fun b e => hs s b h1 e), fun e b hb => hA _ (h3 e b hb)⟩
theorem BRel.slot {i : Nat} {b : Blk} (h : BRel g A w i b) : ∃ s, g i = some s := by
  cases b with
  | box x => obtain ⟨s, _, _, _, h1, _⟩ := h; exact ⟨s, h1⟩
  | row t xs fz => obtain ⟨s, h1, _⟩ := h; exact ⟨s, h1⟩
theorem BRel.lt {i : Nat} {b : Blk} (h : BRel g A w i b) {s : Slot} {r : Nat} (hg : g i = some s) (hr : s.blk = some r) : r < w.heap.size := by
  cases b with
  | box x =>
    obtain ⟨s', b, c, e, h1, h2, h3, _⟩ := h
    rw [hg] at h1; injection h1 with h1; subst h1
    rw [hr] at h2; injection h2 with h2; subst h2
    exact heap_lt h3
  | row t xs fz =>
    obtain ⟨s', h1, ⟨_, h2⟩, _⟩ := h
    rw [hg] at h1; injection h1 with h1; subst h1
    rw [hr] at h2
    obtain ⟨_, c, e, h3, _⟩ := h2
    exact heap_lt h3
theorem HR.del (H : HR g A W w h) (id : Nat) : HR g A W w ((id, none) :: h) := by
  have at' : ∀ i b, Hp.at ((id, none) :: h) i = some b → h.at i = some b := fun i b e => by
    rw [at_cons] at e; split at e
    · cases e
    · exact e
  refine ⟨fun i b e => H.blk i b (at' i b e), fun i b s r e => H.own i b s r (at' i b e), fun i j b c s s' r e e' => H.inj i j b c s s' r (at' i b e) (at' j c e'), fun i s e => ?_, H.lt⟩
  rw [look_cons]; split
  · exact ⟨_, rfl⟩
  · exact H.dfn i s e
theorem HR.put {id : Nat} {b : Blk} (H : HR g A W w h) (hb : BRel g A w id b) (ho : b.live = true → ∀ s r, g id = some s → s.blk = some r → ¬ A r ∧ W r ∧ ∀ j c s', j ≠ id → h.at j = some c → c.live = true → g j = some s' → s'.blk ≠ some r) :
    HR g A W w ((id, some b) :: h) := by
  refine ⟨fun i c e => ?_, fun i c s r e => ?_, fun i j c d s s' r e e' hc hd => ?_, fun i s e => ?_, H.lt⟩
  · rw [at_cons] at e; split at e
    · rename_i hi; subst hi; injection e with e; subst e; exact hb
    · exact H.blk i c e
  · rw [at_cons] at e; split at e
    · rename_i hi; subst hi; injection e with e; subst e
      exact fun hl hs hr => ⟨(ho hl s r hs hr).1, (ho hl s r hs hr).2.1⟩
    · exact H.own i c s r e
  · rw [at_cons] at e e'
    split at e <;> split at e'
    · rename_i h1 h2; exact fun _ _ _ _ => h1.trans h2.symm
    · rename_i h1 h2; subst h1; injection e with e; subst e
      exact fun hs hs' hr hr' => absurd hr' ((ho hc s r hs hr).2.2 j d s' h2 e' hd hs')
    · rename_i h1 h2; subst h2; injection e' with e'; subst e'
      exact fun hs hs' hr hr' => absurd hr ((ho hd s' r hs' hr').2.2 i c s h1 e hc hs)
    · exact H.inj i j c d s s' r e e' hc hd
  · rw [look_cons]; split
    · exact ⟨_, rfl⟩
    · exact H.dfn i s e
theorem HR.gnone (H : HR g A W w h) {id : Nat} (e : look id h = none) : g id = none := by
  cases hg : g id with
  | none => rfl
  | some s => obtain ⟨o, ho⟩ := H.dfn id s hg; rw [e] at ho; cases ho
theorem HR.grow (H : HR g A W w h) {id : Nat} (s : Slot) (e : look id h = none) : HR (upd g id s) A W w ((id, none) :: h) := by
  have hn := H.gnone e
  have back : ∀ i b s', h.at i = some b → upd g id s i = some s' → g i = some s' := fun i b s' hi hu => by
    unfold upd at hu; split at hu
    · rename_i hid; subst hid; rw [at_none e] at hi; cases hi
    · exact hu
  have at' : ∀ i b, Hp.at ((id, none) :: h) i = some b → h.at i = some b := fun i b e => by
    rw [at_cons] at e; split at e
    · cases e
    · exact e
  refine ⟨fun i b hi => ?_, fun i b s' r hi hl hg => H.own i b s' r (at' i b hi) hl (back i b s' (at' i b hi) hg), fun i j b c s' s'' r hi hj hb hc hg hg' => H.inj i j b c s' s'' r (at' i b hi) (at' j c hj) hb hc (back i b s' (at' i b hi) hg) (back j c s'' (at' j c hj) hg'), fun i s' hg => ?_, H.lt⟩
  · exact (H.blk i b (at' i b hi)).mono (le_upd hn) (fun _ h => h) (fun _ _ => rfl) (fun _ _ _ _ => rfl)
  · rw [look_cons]; split
    · exact ⟨_, rfl⟩
    · rename_i hne
      unfold upd at hg; rw [if_neg hne] at hg
      exact H.dfn i s' hg
/-- Another world that is alike where blocks lie. -/
theorem HR.move (H : HR g A W w h) (hA : ∀ r, A r → w'.heap[r]? = w.heap[r]?) (hw : ∀ i b s r, h.at i = some b → g i = some s → s.blk = some r → w'.heap[r]? = w.heap[r]?) (hs : w.heap.size ≤ w'.heap.size) : HR g A W w' h :=
  ⟨fun i b e => (H.blk i b e).mono (Gh.le_refl g) (fun _ h => h) hA (fun s r hg hr => hw i b s r e hg hr), H.own, H.inj, H.dfn, fun r hr => Nat.lt_of_lt_of_le (H.lt r hr) hs⟩
/-- More that stays as it is. -/
theorem HR.more (H : HR g A W w h) {A' : Nat → Prop} (hA : ∀ r, A r → A' r) (hf : ∀ r, A' r → Free g h r ∨ A r) (hl : ∀ r, A' r → r < w.heap.size) : HR g A' W w h :=
  ⟨fun i b e => (H.blk i b e).mono (Gh.le_refl g) hA (fun _ _ => rfl) (fun _ _ _ _ => rfl), fun i b s r e hb hg hr => ⟨fun ha => by
      rcases hf r ha with hf | ha
      · exact hf i b s e hb hg hr
      · exact (H.own i b s r e hb hg hr).1 ha, (H.own i b s r e hb hg hr).2⟩, H.inj, H.dfn, hl⟩
theorem HR.congr {h h' : Hp} (e : ∀ i, look i h = look i h') (H : HR g A W w h) : HR g A W w h' := by
  have e' : ∀ i, h'.at i = h.at i := fun i => by unfold Hp.at; rw [e]
  exact ⟨fun i c hi => H.blk i c (by rw [← e']; exact hi), fun i c s r hi => H.own i c s r (by rw [← e']; exact hi), fun i j c d s s' r hi hj => H.inj i j c d s s' r (by rw [← e']; exact hi) (by rw [← e']; exact hj), fun i s hg => by rw [← e]; exact H.dfn i s hg, H.lt⟩
/-- A new row or box. -/
theorem HR.add (H : HR g A W w h) {id : Nat} (e : look id h = none) (s : Slot) {b : Blk} (hb : BRel (upd g id s) A w id b) (ho : b.live = true → ∀ r, s.blk = some r → ¬ A r ∧ W r ∧ Free g h r) : HR (upd g id s) A W w ((id, some b) :: h) := by
  have H1 := (H.grow s e)
  have hu : upd g id s id = some s := by unfold upd; rw [if_pos rfl]
  have H2 := H1.put hb (fun hl s' r hs hr => by
    rw [hu] at hs; injection hs with hs; subst hs
    obtain ⟨h1, h2, h3⟩ := ho hl r hr
    refine ⟨h1, h2, fun j c s' hj hc hl hg => ?_⟩
    rw [at_cons, if_neg hj] at hc
    unfold upd at hg; rw [if_neg hj] at hg
    exact h3 j c s' hc hl hg)
  exact H2.congr (fun i => by simp only [look_cons]; split <;> rfl)
theorem Free.add {id : Nat} {s : Slot} {b : Blk} {r : Nat} (hf : Free g h r) (_ : g id = none) (hs : s.blk ≠ some r) : Free (upd g id s) ((id, some b) :: h) r := fun i c s' e hl hg => by
  rw [at_cons] at e
  unfold upd at hg
  split at e
  · rename_i hi; rw [if_pos hi] at hg; injection hg with hg; subst hg; exact hs
  · rename_i hi; rw [if_neg hi] at hg; exact hf i c s' e hl hg
theorem Free.del {id r : Nat} (hf : Free g h r) : Free g ((id, none) :: h) r := fun i c s' e hl hg => by
  rw [at_cons] at e
  split at e
  · cases e
  · exact hf i c s' e hl hg
mutual
/-- A value that is the call's own, taken into the heap. -/
theorem imp_ok : ∀ (t : Ty) (x : t.den) (n : Nat) (g : Gh) (h : Hp) (cs : List Value) (bs : List Nat) (p : PV × Nat) (h' : Hp), HR g A W w h → OwnT A w t cs x bs → bs.Nodup → (∀ r, r ∈ bs → ¬ A r ∧ W r ∧ Free g h r) →
    (imp t x n).Ok h p h' → ∃ g', g.le g' ∧ HR g' A W w h' ∧ p.1.rel g' A w cs ∧ (∀ r, Free g h r → r ∉ bs → Free g' h' r) ∧ aggP p.1 = t.agg
  | .slice t, x, n, g, h, cs, bs, p, h', H, ho, hnd, hb, e => by
    simp only [imp, Q.Ok] at e
    obtain ⟨e1, rfl, rfl⟩ := e
    obtain ⟨s, v, rfl, hv, hr, rfl⟩ := ho
    have hu : upd g n s n = some s := by unfold upd; rw [if_pos rfl]
    refine ⟨upd g n s, le_upd (H.gnone e1), H.add e1 s ⟨s, hu, hr, fun h => by cases h⟩ (fun _ r hr => hb r (by rw [hr]; simp)), ?_, fun r hf hn => hf.add (H.gnone e1) (fun hr => hn (by rw [hr]; simp)), rfl⟩
    unfold PV.rel; exact ⟨s, v, hu, rfl, hv⟩
  | .pair a b, x, n, g, h, cs, bs, p, h', H, ho, hnd, hb, e => by
    simp only [imp, Ok_bind, Ok_ret] at e
    obtain ⟨q, h1, e1, q2, h2, e2, rfl, rfl⟩ := e
    obtain ⟨c, d, bs1, bs2, rfl, rfl, o1, o2⟩ := ho
    rw [List.nodup_append] at hnd
    obtain ⟨g1, l1, H1, r1, f1, _⟩ := imp_ok a x.1 n g h c bs1 q h1 H o1 hnd.1 (fun r hr => hb r (by simp [hr])) e1
    obtain ⟨g2, l2, H2, r2, f2⟩ := imps_ok b x.2 q.2 g1 h1 d bs2 q2 _ H1 o2 hnd.2.1 (fun r hr => ⟨(hb r (by simp [hr])).1, (hb r (by simp [hr])).2.1, f1 r (hb r (by simp [hr])).2.2 (fun hr' => hnd.2.2 r hr' r hr rfl)⟩) e2
    refine ⟨g2, Gh.le_trans l1 l2, H2, ?_, fun r hf hn => f2 r (f1 r hf (fun h => hn (by simp [h]))) (fun h => hn (by simp [h])), rfl⟩
    unfold PV.rel rels
    exact ⟨c, d, rfl, PV.rel_mono l2 (fun _ h => h) (fun _ _ => rfl) _ _ r1, r2⟩
  | .unit, x, n, g, h, cs, bs, p, h', H, ho, hnd, hb, e => by
    simp only [imp, Ok_ret] at e
    obtain ⟨rfl, rfl⟩ := e
    obtain ⟨rfl, rfl⟩ := ho
    exact ⟨g, Gh.le_refl g, H, by unfold PV.rel rels; rfl, fun r hf _ => hf, rfl⟩
  | .int k, x, n, g, h, cs, bs, p, h', H, ho, hnd, hb, e => by
    simp only [imp, Ok_ret] at e
    obtain ⟨rfl, rfl⟩ := e
    obtain ⟨ho, rfl⟩ := ho
    exact ⟨g, Gh.le_refl g, H, by unfold PV.rel; exact ho, fun r hf _ => hf, rfl⟩
  | .bool, x, n, g, h, cs, bs, p, h', H, ho, hnd, hb, e => by
    simp only [imp, Ok_ret] at e
    obtain ⟨rfl, rfl⟩ := e
    obtain ⟨ho, rfl⟩ := ho
    exact ⟨g, Gh.le_refl g, H, by unfold PV.rel; exact ho, fun r hf _ => hf, rfl⟩
  | .str, x, n, g, h, cs, bs, p, h', H, ho, hnd, hb, e => by
    simp only [imp, Ok_ret] at e
    obtain ⟨rfl, rfl⟩ := e
    obtain ⟨ho, rfl⟩ := ho
    exact ⟨g, Gh.le_refl g, H, by unfold PV.rel; exact ho, fun r hf _ => hf, rfl⟩
  | .arr m t, x, n, g, h, cs, bs, p, h', H, ho, hnd, hb, e => by
    simp only [imp, Ok_ret] at e
    obtain ⟨rfl, rfl⟩ := e
    obtain ⟨ho, rfl⟩ := ho
    exact ⟨g, Gh.le_refl g, H, by unfold PV.rel; exact ho, fun r hf _ => hf, rfl⟩
theorem imps_ok : ∀ (t : Ty) (x : t.den) (n : Nat) (g : Gh) (h : Hp) (cs : List Value) (bs : List Nat) (p : List PV × Nat) (h' : Hp), HR g A W w h → OwnT A w t cs x bs → bs.Nodup → (∀ r, r ∈ bs → ¬ A r ∧ W r ∧ Free g h r) →
    (imps t x n).Ok h p h' → ∃ g', g.le g' ∧ HR g' A W w h' ∧ rels g' A w p.1 cs ∧ (∀ r, Free g h r → r ∉ bs → Free g' h' r)
  | .pair a b, x, n, g, h, cs, bs, p, h', H, ho, hnd, hb, e => by
    simp only [imps, Ok_bind, Ok_ret] at e
    obtain ⟨q, h1, e1, q2, h2, e2, rfl, rfl⟩ := e
    obtain ⟨c, d, bs1, bs2, rfl, rfl, o1, o2⟩ := ho
    rw [List.nodup_append] at hnd
    obtain ⟨g1, l1, H1, r1, f1, _⟩ := imp_ok a x.1 n g h c bs1 q h1 H o1 hnd.1 (fun r hr => hb r (by simp [hr])) e1
    obtain ⟨g2, l2, H2, r2, f2⟩ := imps_ok b x.2 q.2 g1 h1 d bs2 q2 _ H1 o2 hnd.2.1 (fun r hr => ⟨(hb r (by simp [hr])).1, (hb r (by simp [hr])).2.1, f1 r (hb r (by simp [hr])).2.2 (fun hr' => hnd.2.2 r hr' r hr rfl)⟩) e2
    refine ⟨g2, Gh.le_trans l1 l2, H2, ?_, fun r hf hn => f2 r (f1 r hf (fun h => hn (by simp [h]))) (fun h => hn (by simp [h]))⟩
    unfold rels
    exact ⟨c, d, rfl, PV.rel_mono l2 (fun _ h => h) (fun _ _ => rfl) _ _ r1, r2⟩
  | .unit, x, n, g, h, cs, bs, p, h', H, ho, hnd, hb, e => by
    simp only [imps, Ok_ret] at e
    obtain ⟨rfl, rfl⟩ := e
    obtain ⟨rfl, rfl⟩ := ho
    exact ⟨g, Gh.le_refl g, H, by unfold rels; rfl, fun r hf _ => hf⟩
  | .int k, x, n, g, h, cs, bs, p, h', H, ho, hnd, hb, e => by
    simp only [imps, Ok_ret] at e
    obtain ⟨rfl, rfl⟩ := e
    obtain ⟨ho, rfl⟩ := ho
    exact ⟨g, Gh.le_refl g, H, by unfold rels PV.rel rels; exact ⟨cs, [], by simp, ho, rfl⟩, fun r hf _ => hf⟩
  | .bool, x, n, g, h, cs, bs, p, h', H, ho, hnd, hb, e => by
    simp only [imps, Ok_ret] at e
    obtain ⟨rfl, rfl⟩ := e
    obtain ⟨ho, rfl⟩ := ho
    exact ⟨g, Gh.le_refl g, H, by unfold rels PV.rel rels; exact ⟨cs, [], by simp, ho, rfl⟩, fun r hf _ => hf⟩
  | .str, x, n, g, h, cs, bs, p, h', H, ho, hnd, hb, e => by
    simp only [imps, Ok_ret] at e
    obtain ⟨rfl, rfl⟩ := e
    obtain ⟨ho, rfl⟩ := ho
    exact ⟨g, Gh.le_refl g, H, by unfold rels PV.rel rels; exact ⟨cs, [], by simp, ho, rfl⟩, fun r hf _ => hf⟩
  | .arr m t, x, n, g, h, cs, bs, p, h', H, ho, hnd, hb, e => by
    simp only [imps, Ok_ret] at e
    obtain ⟨rfl, rfl⟩ := e
    obtain ⟨ho, rfl⟩ := ho
    exact ⟨g, Gh.le_refl g, H, by unfold rels PV.rel rels; exact ⟨cs, [], by simp, ho, rfl⟩, fun r hf _ => hf⟩
  | .slice t, x, n, g, h, cs, bs, p, h', H, ho, hnd, hb, e => by
    simp only [imps, Q.Ok] at e
    obtain ⟨e1, rfl, rfl⟩ := e
    obtain ⟨s, v, rfl, hv, hr, rfl⟩ := ho
    have hu : upd g n s n = some s := by unfold upd; rw [if_pos rfl]
    refine ⟨upd g n s, le_upd (H.gnone e1), H.add e1 s ⟨s, hu, hr, fun h => by cases h⟩ (fun _ r hr => hb r (by rw [hr]; simp)), ?_, fun r hf hn => hf.add (H.gnone e1) (fun hr => hn (by rw [hr]; simp))⟩
    unfold rels PV.rel rels; exact ⟨[v], [], by simp, ⟨s, v, hu, rfl, hv⟩, rfl⟩
end
theorem eat_flat {t : Ty} {x : PV} {y : t.den} {h hh : Hp} {cs : List Value} {u : Unit} {h' : Hp} (H : HR g A W w h) (hx : x.rel g A w cs) (hd : (dec t x).Ok hh y hh) (he : (eat x).Ok h u h')
    (hv : ∀ x : PV, (dec t x).Ok hh y hh → ∃ u, ∃ z : u.den, x = .v u z ∧ castT u t z = some y) :
    ∃ bs, OwnT A w t cs y bs ∧ bs.Nodup ∧ HR g A W w h' ∧ (∀ r, r ∈ bs → Free g h' r ∧ ¬ Free g h r) ∧ (∀ r, Free g h r → Free g h' r) ∧ (∀ i b, h'.at i = some b → h.at i = some b) := by
  obtain ⟨u', z, rfl, e⟩ := hv x hd
  obtain ⟨rfl, rfl⟩ := cast_some e
  simp only [eat, Ok_need] at he
  obtain ⟨hf, rfl⟩ := he
  unfold PV.rel at hx
  exact ⟨[], OwnT.flat _ cs _ hf hx, List.nodup_nil, H, by simp, fun r hr => hr, fun i b e => e⟩
mutual
/-- A value whose rows are given away: the call's own no longer. -/
theorem eat_own : ∀ (t : Ty) (x : PV) (y : t.den) (h hh : Hp) (cs : List Value) (u : Unit) (h' : Hp), HR g A W w h → x.rel g A w cs → (∀ i b, h.at i = some b → hh.at i = some b) → (dec t x).Ok hh y hh → HR g A W w hh → (eat x).Ok h u h' →
    ∃ bs, OwnT A w t cs y bs ∧ bs.Nodup ∧ HR g A W w h' ∧ (∀ r, r ∈ bs → Free g h' r ∧ ¬ Free g h r) ∧ (∀ r, Free g h r → Free g h' r) ∧ (∀ i b, h'.at i = some b → h.at i = some b)
  | .pair a b, x, y, h, hh, cs, u, h', H, hx, hsub, hd, HH, he => by
    cases x with
    | agg xs =>
      cases xs with
      | nil => simp [dec, Q.Ok] at hd
      | cons x xs =>
        simp only [dec, Ok_bind, Ok_ret] at hd
        obtain ⟨p, h1, e1, q, h2, e2, rfl, e3⟩ := hd
        simp only [eat, eats, Ok_bind] at he
        obtain ⟨u1, h3, f1, f2⟩ := he
        unfold PV.rel rels at hx
        obtain ⟨c, d, rfl, hc, hdd⟩ := hx
        obtain ⟨q1, _⟩ := dec_rel HH a x p _ c hc e1
        rw [q1] at e1 e2
        obtain ⟨q2, _⟩ := decs_rel HH b xs q _ d hdd e2
        rw [q2] at e2
        obtain ⟨bs1, o1, n1, H1, k1, m1, s1⟩ := eat_own a x p h hh c u1 h3 H hc hsub e1 HH f1
        obtain ⟨bs2, o2, n2, H2, k2, m2, s2⟩ := eats_own b xs q h3 hh d u h' H1 hdd (fun i b e => hsub i b (s1 i b e)) e2 HH f2
        refine ⟨bs1 ++ bs2, ⟨c, d, bs1, bs2, rfl, rfl, o1, o2⟩, ?_, H2, ?_, fun r hr => m2 r (m1 r hr), fun i b e => s1 i b (s2 i b e)⟩
        · rw [List.nodup_append]
          exact ⟨n1, n2, fun r hr r' hr' hrr => by subst hrr; exact (k2 r hr').2 ((k1 r hr).1)⟩
        · intro r hr
          rcases List.mem_append.1 hr with hr | hr
          · exact ⟨m2 r (k1 r hr).1, (k1 r hr).2⟩
          · exact ⟨(k2 r hr).1, fun hf => (k2 r hr).2 (m1 r hf)⟩
    | v u z =>
      simp only [dec, Ok_get] at hd
      obtain ⟨e, _⟩ := hd
      obtain ⟨rfl, rfl⟩ := cast_some e
      simp only [eat, Ok_need] at he
      obtain ⟨hf, rfl⟩ := he
      unfold PV.rel at hx
      exact ⟨[], OwnT.flat _ cs _ hf hx, List.nodup_nil, H, by simp, fun r hr => hr, fun i b e => e⟩
    | _ => simp [dec, Q.Ok] at hd
  | .slice t, x, y, h, hh, cs, u, h', H, hx, hsub, hd, HH, he => by
    cases x with
    | sl id =>
      simp only [eat, Q.Ok] at he
      obtain ⟨b, hb, he⟩ := he
      cases b with
      | box x => simp [Q.Ok] at he
      | row u xs fz =>
        cases fz with
        | true => simp [Q.Ok] at he
        | false =>
          simp only [Q.Ok] at he
          obtain ⟨_, _, rfl⟩ := he
          simp only [dec, Q.Ok, hsub _ _ hb] at hd
          obtain ⟨b', hb', hd⟩ := hd
          injection hb' with hb'; subst hb'
          simp only [Ok_get] at hd
          obtain ⟨e, _⟩ := hd
          obtain ⟨eq, rfl⟩ := cast_some e
          injection eq with eq
          subst eq
          unfold PV.rel at hx
          obtain ⟨s, v, hg, rfl, hv⟩ := hx
          obtain ⟨s', hg', hr, _⟩ := H.blk id _ hb
          rw [hg] at hg'; injection hg' with hg'; subst hg'
          refine ⟨s.blk.toList, ⟨s, v, rfl, hv, hr, rfl⟩, by cases s.blk <;> simp, H.del id, fun r hr' => ?_, fun r hf => hf.del, fun i b e => ?_⟩
          · have hr'' : s.blk = some r := by cases hs : s.blk <;> simp_all
            refine ⟨fun i b s' e hl hgi hrr => ?_, fun hf => hf id _ s hb rfl hg hr''⟩
            rw [at_cons] at e
            split at e
            · cases e
            · rename_i hne
              exact hne (H.inj i id b _ s' s r e hb hl rfl hgi hg hrr hr'')
          · rw [at_cons] at e
            split at e
            · cases e
            · exact e
    | nils =>
      simp only [dec, Ok_ret] at hd
      obtain ⟨rfl, _⟩ := hd
      simp only [eat, Ok_ret] at he
      obtain ⟨_, rfl⟩ := he
      unfold PV.rel at hx
      subst hx
      exact ⟨[], ⟨⟨none, 0, 0⟩, _, rfl, ⟨rfl, rfl, rfl⟩, ⟨rfl, rfl, rfl⟩, rfl⟩, List.nodup_nil, H, by simp, fun r hr => hr, fun i b e => e⟩
    | v u z =>
      simp only [dec, Ok_get] at hd
      obtain ⟨e, _⟩ := hd
      obtain ⟨rfl, rfl⟩ := cast_some e
      simp only [eat, Ok_need] at he
      obtain ⟨hf, rfl⟩ := he
      simp [Ty.flat] at hf
    | sv id p off len sz n => simp [eat, Q.Ok] at he
    | _ => simp [dec, Q.Ok] at hd
  | .unit, x, y, h, hh, cs, u, h', H, hx, hsub, hd, HH, he => by
    cases x with
    | agg xs =>
      cases xs with
      | nil =>
        simp only [eat, eats, Ok_ret] at he
        obtain ⟨_, rfl⟩ := he
        unfold PV.rel rels at hx
        exact ⟨[], ⟨hx, rfl⟩, List.nodup_nil, H, by simp, fun r hr => hr, fun i b e => e⟩
      | cons x xs => simp [dec, Q.Ok] at hd
    | v u z =>
      simp only [dec, Ok_get] at hd
      obtain ⟨e, _⟩ := hd
      obtain ⟨rfl, rfl⟩ := cast_some e
      simp only [eat, Ok_need] at he
      obtain ⟨hf, rfl⟩ := he
      unfold PV.rel at hx
      exact ⟨[], OwnT.flat _ cs _ hf hx, List.nodup_nil, H, by simp, fun r hr => hr, fun i b e => e⟩
    | _ => simp [dec, Q.Ok] at hd
  | .int k, x, y, h, hh, cs, u, h', H, hx, hsub, hd, HH, he => eat_flat (t := .int k) H hx hd he (fun x hd => by cases x <;> first | (simp only [dec, Ok_get] at hd; exact ⟨_, _, rfl, hd.1⟩) | (simp [dec, Q.Ok] at hd))
  | .bool, x, y, h, hh, cs, u, h', H, hx, hsub, hd, HH, he => eat_flat (t := .bool) H hx hd he (fun x hd => by cases x <;> first | (simp only [dec, Ok_get] at hd; exact ⟨_, _, rfl, hd.1⟩) | (simp [dec, Q.Ok] at hd))
  | .str, x, y, h, hh, cs, u, h', H, hx, hsub, hd, HH, he => eat_flat (t := .str) H hx hd he (fun x hd => by cases x <;> first | (simp only [dec, Ok_get] at hd; exact ⟨_, _, rfl, hd.1⟩) | (simp [dec, Q.Ok] at hd))
  | .arr n t, x, y, h, hh, cs, u, h', H, hx, hsub, hd, HH, he => eat_flat (t := .arr n t) H hx hd he (fun x hd => by cases x <;> first | (simp only [dec, Ok_get] at hd; exact ⟨_, _, rfl, hd.1⟩) | (simp [dec, Q.Ok] at hd))
theorem eats_own : ∀ (t : Ty) (xs : List PV) (y : t.den) (h hh : Hp) (cs : List Value) (u : Unit) (h' : Hp), HR g A W w h → rels g A w xs cs → (∀ i b, h.at i = some b → hh.at i = some b) → (decs t xs).Ok hh y hh → HR g A W w hh → (eats xs).Ok h u h' →
    ∃ bs, OwnT A w t cs y bs ∧ bs.Nodup ∧ HR g A W w h' ∧ (∀ r, r ∈ bs → Free g h' r ∧ ¬ Free g h r) ∧ (∀ r, Free g h r → Free g h' r) ∧ (∀ i b, h'.at i = some b → h.at i = some b)
  | .pair a b, xs, y, h, hh, cs, u, h', H, hx, hsub, hd, HH, he => by
    cases xs with
    | nil => simp [decs, Q.Ok] at hd
    | cons x xs =>
        simp only [decs, Ok_bind, Ok_ret] at hd
        obtain ⟨p, h1, e1, q, h2, e2, rfl, e3⟩ := hd
        simp only [eats, Ok_bind] at he
        obtain ⟨u1, h3, f1, f2⟩ := he
        unfold rels at hx
        obtain ⟨c, d, rfl, hc, hdd⟩ := hx
        obtain ⟨q1, _⟩ := dec_rel HH a x p _ c hc e1
        rw [q1] at e1 e2
        obtain ⟨q2, _⟩ := decs_rel HH b xs q _ d hdd e2
        rw [q2] at e2
        obtain ⟨bs1, o1, n1, H1, k1, m1, s1⟩ := eat_own a x p h hh c u1 h3 H hc hsub e1 HH f1
        obtain ⟨bs2, o2, n2, H2, k2, m2, s2⟩ := eats_own b xs q h3 hh d u h' H1 hdd (fun i b e => hsub i b (s1 i b e)) e2 HH f2
        refine ⟨bs1 ++ bs2, ⟨c, d, bs1, bs2, rfl, rfl, o1, o2⟩, ?_, H2, ?_, fun r hr => m2 r (m1 r hr), fun i b e => s1 i b (s2 i b e)⟩
        · rw [List.nodup_append]
          exact ⟨n1, n2, fun r hr r' hr' hrr => by subst hrr; exact (k2 r hr').2 ((k1 r hr).1)⟩
        · intro r hr
          rcases List.mem_append.1 hr with hr | hr
          · exact ⟨m2 r (k1 r hr).1, (k1 r hr).2⟩
          · exact ⟨(k2 r hr).1, fun hf => (k2 r hr).2 (m1 r hf)⟩
  | .unit, xs, y, h, hh, cs, u, h', H, hx, hsub, hd, HH, he => by
    cases xs with
    | nil =>
      simp only [eats, Ok_ret] at he
      obtain ⟨_, rfl⟩ := he
      unfold rels at hx
      exact ⟨[], ⟨hx, rfl⟩, List.nodup_nil, H, by simp, fun r hr => hr, fun i b e => e⟩
    | cons x xs => simp [decs, Q.Ok] at hd
  | .int _, _, _, _, _, _, _, _, _, _, _, hd, _, _ => by simp [decs, Q.Ok] at hd
  | .bool, _, _, _, _, _, _, _, _, _, _, hd, _, _ => by simp [decs, Q.Ok] at hd
  | .str, _, _, _, _, _, _, _, _, _, _, hd, _, _ => by simp [decs, Q.Ok] at hd
  | .arr _ _, _, _, _, _, _, _, _, _, _, _, hd, _, _ => by simp [decs, Q.Ok] at hd
  | .slice _, _, _, _, _, _, _, _, _, _, _, hd, _, _ => by simp [decs, Q.Ok] at hd
end
/-- Rows hold the same, frozen or not. -/
def Sim (h hh : Hp) : Prop := ∀ i t xs fz, h.at i = some (.row t xs fz) → ∃ fz', hh.at i = some (.row t xs fz')
structure Frz (g : Gh) (A W : Nat → Prop) (w : World) (h : Hp) (A' : Nat → Prop) (h' : Hp) : Prop where
  le : ∀ r, A r → A' r
  in' : ∀ r, A' r → A r ∨ W r
  hr : HR g A' W w h'
  free : ∀ r, Free g h r → Free g h' r ∧ (A' r → A r)
  sim : Sim h' h
  box : ∀ i x, h'.at i = some (.box x) → h.at i = some (.box x)
theorem Frz.refl {g : Gh} {A W : Nat → Prop} {w : World} {h : Hp} (H : HR g A W w h) : Frz g A W w h A h := ⟨fun _ h => h, fun _ h => .inl h, H, fun _ h => ⟨h, fun h => h⟩, fun _ _ _ fz e => ⟨fz, e⟩, fun _ _ e => e⟩
theorem Frz.trans {g : Gh} {A A' A'' W : Nat → Prop} {w : World} {h h' h'' : Hp} (a : Frz g A W w h A' h') (b : Frz g A' W w h' A'' h'') : Frz g A W w h A'' h'' :=
  ⟨fun r hr => b.le r (a.le r hr), fun r hr => (b.in' r hr).elim (a.in' r) .inr, b.hr, fun r hf => ⟨(b.free r (a.free r hf).1).1, fun hr => (a.free r hf).2 ((b.free r (a.free r hf).1).2 hr)⟩,
    fun i t xs fz e => by obtain ⟨fz', e'⟩ := b.sim i t xs fz e; exact a.sim i t xs fz' e', fun i x e => a.box i x (b.box i x e)⟩
theorem frz_row {g : Gh} {A W : Nat → Prop} {w : World} {h : Hp} (H : HR g A W w h) {id : Nat} {t : Ty} {xs : List t.den} {fz : Bool} {s : Slot} (hb : h.at id = some (.row t xs fz)) (hg : g id = some s) :
    Frz g A W w h (fun r => A r ∨ s.blk = some r) ((id, some (.row t xs true)) :: h) := by
  have hB := H.blk id _ hb
  obtain ⟨s', hg', hr, hfz⟩ := hB
  rw [hg] at hg'; injection hg' with hg'; subst hg'
  have hW : ∀ r, s.blk = some r → A r ∨ W r := fun r hr' => by
    cases fz with
    | true => exact .inl (hfz rfl r hr')
    | false => exact .inr (H.own id _ s r hb rfl hg hr').2
  have H1 := H.del id
  have H2 : HR g (fun r => A r ∨ s.blk = some r) W w ((id, none) :: h) := H1.more (fun r h => .inl h) (fun r hr' => by
    rcases hr' with ha | hs
    · exact .inr ha
    · cases fz with
      | true => exact .inr (hfz rfl r hs)
      | false =>
        refine .inl fun i b s' e hl hgi hrr => ?_
        rw [at_cons] at e
        split at e
        · cases e
        · rename_i hne
          exact hne (H.inj i id b _ s' s r e hb hl rfl hgi hg hrr hs)) (fun r hr' => by
    rcases hr' with ha | hs
    · exact H.lt r ha
    · exact BRel.lt (H.blk id _ hb) hg hs)
  have H3 := H2.put (id := id) (b := .row t xs true) ⟨s, hg, hr.mono (fun r h => .inl h) (fun _ _ => rfl) (fun _ _ => rfl), fun _ b hb => .inr hb⟩ (fun hl => by cases hl)
  have ext : ∀ i, look i ((id, some (.row t xs true)) :: (id, none) :: h) = look i ((id, some (.row t xs true)) :: h) := fun i => by
    simp only [look_cons]; split <;> rfl
  have ext' : ∀ i, Hp.at ((id, some (.row t xs true)) :: (id, none) :: h) i = Hp.at ((id, some (.row t xs true)) :: h) i := fun i => by unfold Hp.at; rw [ext]
  refine ⟨fun r h => .inl h, fun r hr' => hr'.elim .inl (hW r), ⟨fun i c hi => H3.blk i c (by rw [ext']; exact hi), fun i c s r hi => H3.own i c s r (by rw [ext']; exact hi), fun i j c d s s' r hi hj => H3.inj i j c d s s' r (by rw [ext']; exact hi) (by rw [ext']; exact hj), fun i s hg => by rw [← ext]; exact H3.dfn i s hg, H3.lt⟩, fun r hf => ⟨fun i b s' e hl hgi hrr => ?_, fun hr' => ?_⟩, fun i t' xs' fz' e => ?_, fun i x e => ?_⟩
  · rw [at_cons] at e
    split at e
    · injection e with e; subst e; cases hl
    · exact hf i b s' e hl hgi hrr
  · rcases hr' with ha | hs
    · exact ha
    · cases fz with
      | true => exact hfz rfl r hs
      | false => exact absurd hs (hf id _ s hb rfl hg)
  · rw [at_cons] at e
    split at e
    · rename_i hi; subst hi; injection e with e; injection e with e1 e2 e3; subst e1; cases e2; exact ⟨fz, hb⟩
    · exact ⟨fz', e⟩
  · rw [at_cons] at e
    split at e
    · cases e
    · exact e
theorem frz_flat {t : Ty} {x : PV} {y : t.den} {h hh : Hp} {cs : List Value} {u : Unit} {h' : Hp} (H : HR g A W w h) (hx : x.rel g A w cs) (hd : (dec t x).Ok hh y hh) (he : (frz x).Ok h u h')
    (hv : ∀ x : PV, (dec t x).Ok hh y hh → ∃ u, ∃ z : u.den, x = .v u z ∧ castT u t z = some y) :
    ∃ A', Frz g A W w h A' h' ∧ TRel A' w t cs y := by
  obtain ⟨u', z, rfl, e⟩ := hv x hd
  obtain ⟨rfl, rfl⟩ := cast_some e
  simp only [frz, Ok_ret] at he
  obtain ⟨_, rfl⟩ := he
  unfold PV.rel at hx
  exact ⟨A, .refl H, hx⟩
mutual
/-- A value whose rows are not written any more, typed. -/
theorem frz_own : ∀ (t : Ty) (x : PV) (y : t.den) (A : Nat → Prop) (h hh : Hp) (cs : List Value) (u : Unit) (h' : Hp), HR g A W w h → x.rel g A w cs → Sim h hh → (∀ i x, h.at i = some (.box x) → hh.at i = some (.box x)) → (dec t x).Ok hh y hh → (frz x).Ok h u h' →
    ∃ A', Frz g A W w h A' h' ∧ TRel A' w t cs y
  | .pair a b, x, y, A, h, hh, cs, u, h', H, hx, hs, hbx, hd, he => by
    cases x with
    | agg xs =>
      cases xs with
      | nil => simp [dec, Q.Ok] at hd
      | cons x xs =>
        simp only [dec, Ok_bind, Ok_ret] at hd
        obtain ⟨p, h1, e1, q, h2, e2, rfl, e3⟩ := hd
        simp only [frz, frzs, Ok_bind] at he
        obtain ⟨u1, h3, f1, f2⟩ := he
        unfold PV.rel rels at hx
        obtain ⟨c, d, rfl, hc, hdd⟩ := hx
        have q1 := dec_same a x p hh _ e1
        rw [q1] at e1 e2
        have q2 := decs_same b xs q hh _ e2
        rw [q2] at e2
        obtain ⟨A1, F1, r1⟩ := frz_own a x p A h hh c u1 h3 H hc hs hbx e1 f1
        obtain ⟨A2, F2, r2⟩ := frzs_own b xs q A1 h3 hh d u h' F1.hr (rels_mono (Gh.le_refl g) F1.le (fun _ _ => rfl) xs d hdd) (fun i t xs fz e => by obtain ⟨fz', e'⟩ := F1.sim i t xs fz e; exact hs i t xs fz' e') (fun i x e => hbx i x (F1.box i x e)) e2 f2
        exact ⟨A2, F1.trans F2, c, d, rfl, r1.mono F2.le (fun _ _ => rfl), r2⟩
    | v u z =>
      simp only [dec, Ok_get] at hd
      obtain ⟨e, _⟩ := hd
      obtain ⟨rfl, rfl⟩ := cast_some e
      simp only [frz, Ok_ret] at he
      obtain ⟨_, rfl⟩ := he
      unfold PV.rel at hx
      exact ⟨A, .refl H, hx⟩
    | _ => simp [dec, Q.Ok] at hd
  | .slice t, x, y, A, h, hh, cs, u, h', H, hx, hs, hbx, hd, he => by
    cases x with
    | sl id =>
      simp only [frz, Q.Ok] at he
      obtain ⟨b, hb, he⟩ := he
      cases b with
      | box x => simp [Q.Ok] at he
      | row u xs fz =>
          simp only [Q.Ok] at he
          obtain ⟨_, _, rfl⟩ := he
          obtain ⟨fz', hb2⟩ := hs _ _ _ _ hb
          simp only [dec, Q.Ok, hb2] at hd
          obtain ⟨b', hb', hd⟩ := hd
          injection hb' with hb'; subst hb'
          simp only [Ok_get] at hd
          obtain ⟨e, _⟩ := hd
          obtain ⟨eq, rfl⟩ := cast_some e
          injection eq with eq
          subst eq
          unfold PV.rel at hx
          obtain ⟨s, v, hg, rfl, hv⟩ := hx
          obtain ⟨s', hg', hr, _⟩ := H.blk id _ hb
          rw [hg] at hg'; injection hg' with hg'; subst hg'
          exact ⟨_, frz_row H hb hg, row_TRel (fun r h => .inl h) hr (fun b hb => .inr hb) hv⟩
    | sv id p off len sz n =>
      simp only [frz, Q.Ok] at he
      obtain ⟨b, hb, he⟩ := he
      cases b with
      | box x => simp [Q.Ok] at he
      | row u xs fz =>
          simp only [Ok_cond, Q.Ok, and_false, or_false] at he
          obtain ⟨hn, _, _, rfl⟩ := he
          have hn := Nat.eq_of_beq_eq_true hn
          subst hn
          obtain ⟨fz', hb2⟩ := hs _ _ _ _ hb
          simp only [dec, Q.Ok, hb2] at hd
          obtain ⟨b', hb', hd⟩ := hd
          injection hb' with hb'; subst hb'
          simp only [Ok_bind, Ok_get] at hd
          obtain ⟨ys, h1, ⟨e, rfl⟩, e'⟩ := hd
          obtain ⟨eq, rfl⟩ := cast_some e
          injection eq with eq
          subst eq
          cases p with
          | cons a p => simp [Q.Ok] at e'
          | nil =>
            simp only [Ok_cond, Ok_ret, Ok_fail, and_false, or_false, Bool.and_eq_true] at e'
            obtain ⟨⟨e1, e2⟩, rfl, _⟩ := e'
            have e1 := Nat.eq_of_beq_eq_true e1
            subst e1
            unfold PV.rel at hx
            obtain ⟨s, v, hg, rfl, hv⟩ := hx
            obtain ⟨s', hg', hr, _⟩ := H.blk id _ hb
            rw [hg] at hg'; injection hg' with hg'; subst hg'
            exact ⟨_, frz_row H hb hg, view_TRel (fun r h => .inl h) hr (fun b hb => .inr hb) hv⟩
    | nils =>
      simp only [dec, Ok_ret] at hd
      obtain ⟨rfl, _⟩ := hd
      simp only [frz, Ok_ret] at he
      obtain ⟨_, rfl⟩ := he
      unfold PV.rel at hx
      subst hx
      exact ⟨A, .refl H, none, 0, rfl, Nat.le_refl _, fun hl => absurd hl (Nat.lt_irrefl 0)⟩
    | v u z =>
      simp only [dec, Ok_get] at hd
      obtain ⟨e, _⟩ := hd
      obtain ⟨rfl, rfl⟩ := cast_some e
      simp only [frz, Ok_ret] at he
      obtain ⟨_, rfl⟩ := he
      unfold PV.rel at hx
      exact ⟨A, .refl H, hx⟩
    | _ => simp [dec, Q.Ok] at hd
  | .unit, x, y, A, h, hh, cs, u, h', H, hx, hs, hbx, hd, he => by
    cases x with
    | agg xs =>
      cases xs with
      | nil =>
        simp only [frz, frzs, Ok_ret] at he
        obtain ⟨_, rfl⟩ := he
        unfold PV.rel rels at hx
        exact ⟨A, .refl H, hx⟩
      | cons x xs => simp [dec, Q.Ok] at hd
    | v u z =>
      simp only [dec, Ok_get] at hd
      obtain ⟨e, _⟩ := hd
      obtain ⟨rfl, rfl⟩ := cast_some e
      simp only [frz, Ok_ret] at he
      obtain ⟨_, rfl⟩ := he
      unfold PV.rel at hx
      exact ⟨A, .refl H, hx⟩
    | _ => simp [dec, Q.Ok] at hd
  | .int k, x, y, A, h, hh, cs, u, h', H, hx, hs, hbx, hd, he => frz_flat (t := .int k) H hx hd he (fun x hd => by cases x <;> first | (simp only [dec, Ok_get] at hd; exact ⟨_, _, rfl, hd.1⟩) | (simp [dec, Q.Ok] at hd))
  | .bool, x, y, A, h, hh, cs, u, h', H, hx, hs, hbx, hd, he => frz_flat (t := .bool) H hx hd he (fun x hd => by cases x <;> first | (simp only [dec, Ok_get] at hd; exact ⟨_, _, rfl, hd.1⟩) | (simp [dec, Q.Ok] at hd))
  | .str, x, y, A, h, hh, cs, u, h', H, hx, hs, hbx, hd, he => frz_flat (t := .str) H hx hd he (fun x hd => by cases x <;> first | (simp only [dec, Ok_get] at hd; exact ⟨_, _, rfl, hd.1⟩) | (simp [dec, Q.Ok] at hd))
  | .arr n t, x, y, A, h, hh, cs, u, h', H, hx, hs, hbx, hd, he => frz_flat (t := .arr n t) H hx hd he (fun x hd => by cases x <;> first | (simp only [dec, Ok_get] at hd; exact ⟨_, _, rfl, hd.1⟩) | (simp [dec, Q.Ok] at hd))
theorem frzs_own : ∀ (t : Ty) (xs : List PV) (y : t.den) (A : Nat → Prop) (h hh : Hp) (cs : List Value) (u : Unit) (h' : Hp), HR g A W w h → rels g A w xs cs → Sim h hh → (∀ i x, h.at i = some (.box x) → hh.at i = some (.box x)) → (decs t xs).Ok hh y hh → (frzs xs).Ok h u h' →
    ∃ A', Frz g A W w h A' h' ∧ TRel A' w t cs y
  | .pair a b, xs, y, A, h, hh, cs, u, h', H, hx, hs, hbx, hd, he => by
    cases xs with
    | nil => simp [decs, Q.Ok] at hd
    | cons x xs =>
        simp only [decs, Ok_bind, Ok_ret] at hd
        obtain ⟨p, h1, e1, q, h2, e2, rfl, e3⟩ := hd
        simp only [frzs, Ok_bind] at he
        obtain ⟨u1, h3, f1, f2⟩ := he
        unfold rels at hx
        obtain ⟨c, d, rfl, hc, hdd⟩ := hx
        have q1 := dec_same a x p hh _ e1
        rw [q1] at e1 e2
        have q2 := decs_same b xs q hh _ e2
        rw [q2] at e2
        obtain ⟨A1, F1, r1⟩ := frz_own a x p A h hh c u1 h3 H hc hs hbx e1 f1
        obtain ⟨A2, F2, r2⟩ := frzs_own b xs q A1 h3 hh d u h' F1.hr (rels_mono (Gh.le_refl g) F1.le (fun _ _ => rfl) xs d hdd) (fun i t xs fz e => by obtain ⟨fz', e'⟩ := F1.sim i t xs fz e; exact hs i t xs fz' e') (fun i x e => hbx i x (F1.box i x e)) e2 f2
        exact ⟨A2, F1.trans F2, c, d, rfl, r1.mono F2.le (fun _ _ => rfl), r2⟩
  | .unit, xs, y, A, h, hh, cs, u, h', H, hx, hs, hbx, hd, he => by
    cases xs with
    | nil =>
      simp only [frzs, Ok_ret] at he
      obtain ⟨_, rfl⟩ := he
      unfold rels at hx
      exact ⟨A, .refl H, hx⟩
    | cons x xs => simp [decs, Q.Ok] at hd
  | .int _, _, _, _, _, _, _, _, _, _, _, _, _, hd, _ => by simp [decs, Q.Ok] at hd
  | .bool, _, _, _, _, _, _, _, _, _, _, _, _, hd, _ => by simp [decs, Q.Ok] at hd
  | .str, _, _, _, _, _, _, _, _, _, _, _, _, hd, _ => by simp [decs, Q.Ok] at hd
  | .arr _ _, _, _, _, _, _, _, _, _, _, _, _, _, hd, _ => by simp [decs, Q.Ok] at hd
  | .slice _, _, _, _, _, _, _, _, _, _, _, _, _, hd, _ => by simp [decs, Q.Ok] at hd
end
/-- A value that goes into a list. -/
theorem typed_own {t : Ty} {x : PV} {y : t.den} {h : Hp} {cs : List Value} {h' : Hp} (H : HR g A W w h) (hx : x.rel g A w cs) (he : (typed t x).Ok h y h') : ∃ A', Frz g A W w h A' h' ∧ TRel A' w t cs y := by
  simp only [typed, Ok_bind] at he
  obtain ⟨z, h1, e1, e2⟩ := he
  have q := dec_same t x z h _ e1
  subst q
  rw [Ok_cond] at e2
  rcases e2 with ⟨hf, e2⟩ | ⟨hf, e2⟩
  · rw [Ok_ret] at e2
    obtain ⟨rfl, rfl⟩ := e2
    exact ⟨A, .refl H, TRel.flat t cs y hf (dec_rel H t x y _ cs hx e1).2⟩
  · simp only [Ok_bind, Ok_ret] at e2
    obtain ⟨u, h2, e2, rfl, rfl⟩ := e2
    exact frz_own t x y A h1 h1 cs u h' H hx (fun _ _ _ fz e => ⟨fz, e⟩) (fun _ _ e => e) e1 e2
end
end Go.Proofs.YtkihjakbbcajbaaGreat.PM
