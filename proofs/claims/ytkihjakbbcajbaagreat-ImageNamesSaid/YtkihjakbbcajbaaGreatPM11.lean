/- Contracts of functions, and calls under them. -/
import Derived.Test.YtkihjakbbcajbaaGreatPM10
namespace Go.Proofs.YtkihjakbbcajbaaGreat.PM
set_option linter.unusedSimpArgs false
set_option linter.unusedVariables false
open Go

def isFn (f : Nat) (v : Value) : Prop := v = .func (.func f) #[] #[]
/-- A value, typed: all of it in what stays, or its outer rows the call's own (in blocks bs). -/
def ValRel (A : Nat → Prop) (w : World) (t : Ty) (own : Bool) (v : Value) (x : t.den) (bs : List Nat) : Prop :=
  isAggV v = t.agg ∧ match own with
  | true => OwnT A w t v.cells.toList x bs
  | false => TRel A w t v.cells.toList x ∧ bs = []
def BoxRel (A : Nat → Prop) (w : World) (t : Ty) (own : Bool) (v : Value) (x : t.den) (bs : List Nat) : Prop :=
  ∃ b c e p, v = .pointer (some ⟨b, 0, none⟩) ∧ w.heap[b]? = some (.cells c e (0, 0)) ∧ bs = b :: p ∧ match own with
  | true => OwnT A w t c.toList x p
  | false => TRel A w t c.toList x ∧ p = []
def RowRel (A : Nat → Prop) (w : World) (t : Ty) (v : Value) (x : List t.den) (bs : List Nat) : Prop := ∃ s, SlV s v ∧ RowAt A w s t x ∧ bs = s.blk.toList
def ArgsRel (A : Nat → Prop) (w : World) : (ps : List PK) → List Value → (argTy ps).den → List Nat → Prop
  | [], vs, _, bs => vs = [] ∧ bs = []
  | .val t :: r, vs, x, bs => ∃ v us, vs = v :: us ∧ ValRel A w t false v x.1 [] ∧ ArgsRel A w r us x.2 bs
  | .io t own :: r, vs, x, bs => ∃ v us p q, vs = v :: us ∧ bs = p ++ q ∧ BoxRel A w t own v x.1 p ∧ ArgsRel A w r us x.2 q
  | .mu t :: r, vs, x, bs => ∃ v us p q, vs = v :: us ∧ bs = p ++ q ∧ RowRel A w t v x.1 p ∧ ArgsRel A w r us x.2 q
  | .fn f :: r, vs, x, bs => ∃ v us, vs = v :: us ∧ isFn f v ∧ ArgsRel A w r us x bs
  | .eat t :: r, vs, x, bs => ∃ v us p q, vs = v :: us ∧ bs = p ++ q ∧ RowRel A w t v x.1 p ∧ ArgsRel A w r us x.2 q
  | .clo f t :: r, vs, x, bs => ∃ v us p q, vs = .func (.func f) #[] #[v] :: us ∧ bs = p ++ q ∧ BoxRel A w t false v x.1 p ∧ ArgsRel A w r us x.2 q
def ResRel (A : Nat → Prop) (w : World) : (rs : List (Ty × Bool)) → List Value → (resTy rs).den → List Nat → Prop
  | [], vs, _, bs => vs = [] ∧ bs = []
  | (t, own) :: r, vs, x, bs => ∃ v us p q, vs = v :: us ∧ bs = p ++ q ∧ ValRel A w t own v x.1 p ∧ ResRel A w r us x.2 q
def packV : List Value → Value
  | [v] => v
  | vs => .tuple vs.toArray
def OutRel (A : Nat → Prop) (w : World) : (ps : List PK) → (rs : List (Ty × Bool)) → List Value → List Value → (outTy ps rs).den → List Nat → Prop
  | [], rs, _, zs, y, bs => ResRel A w rs zs y bs
  | .io t own :: r, rs, vs, zs, y, bs => ∃ v us p q, vs = v :: us ∧ bs = p ++ q ∧ BoxRel A w t own v y.1 p ∧ OutRel A w r rs us zs y.2 q
  | .mu t :: r, rs, vs, zs, y, bs => ∃ v us p q, vs = v :: us ∧ bs = p ++ q ∧ RowRel A w t v y.1 p ∧ OutRel A w r rs us zs y.2 q
  | .val _ :: r, rs, vs, zs, y, bs => OutRel A w r rs vs.tail zs y bs
  | .fn _ :: r, rs, vs, zs, y, bs => OutRel A w r rs vs.tail zs y bs
  | .eat _ :: r, rs, vs, zs, y, bs => OutRel A w r rs vs.tail zs y bs
  | .clo f t :: r, rs, vs, zs, y, bs => ∃ v us p q, vs = .func (.func f) #[] #[v] :: us ∧ bs = p ++ q ∧ BoxRel A w t false v y.1 p ∧ OutRel A w r rs us zs y.2 q
structure Done (F : Fun) (A : Nat → Prop) (w : World) (vs : List Value) (bs : List Nat) (y : (outTy F.sig.ps F.sig.rs).den) (e : Ending) (w' : World) : Prop where
  out : ∃ zs A' bs', e = .returned (packV zs) ∧ OutRel A' w' F.sig.ps F.sig.rs vs zs y bs' ∧ bs'.Nodup ∧ (∀ r, r ∈ bs' → ¬ A' r ∧ (w.heap.size ≤ r ∨ r ∈ bs) ∧ r < w'.heap.size) ∧ (∀ r, A' r → A r ∨ w.heap.size ≤ r ∨ r ∈ bs) ∧ (∀ r, A' r → r < w'.heap.size)
  keep : Keep (fun r => w.heap.size ≤ r ∨ r ∈ bs) w w'
/-- Package variables that nobody writes. -/
def GlOk (gl : List (Nat × PV)) (A : Nat → Prop) (w : World) : Prop := ∀ n x, look n gl = some x → ∃ t y c, x = .iptr t y ∧ A n ∧ At w ⟨n, 0, none⟩ c ∧ TRel A w t c y
theorem GlOk.mono {gl : List (Nat × PV)} {A A' : Nat → Prop} {w w' : World} (h : GlOk gl A w) (hA : ∀ r, A r → A' r) (hw : ∀ r, A r → w'.heap[r]? = w.heap[r]?) : GlOk gl A' w' := fun n x e => by
  obtain ⟨t, y, c, h1, h2, h3, h4⟩ := h n x e
  exact ⟨t, y, c, h1, hA _ h2, h3.mono (hw _ h2), TRel.mono hA hw t c y h4⟩
structure FnSpec (P : Program) (gl : List (Nat × PV)) (f : FuncId) (F : Fun) : Prop where
  enter : ∀ (args : Array Value) (w : World), (callFunc f args).run P w = .ok (.enter f args) w
  calls : ∀ (w : World) (A : Nat → Prop) (vs : List Value) (x : (argTy F.sig.ps).den) (bs : List Nat) (y : (outTy F.sig.ps F.sig.rs).den), GlOk gl A w → ArgsRel A w F.sig.ps vs x bs → bs.Nodup → (∀ r, r ∈ bs → ¬ A r ∧ r < w.heap.size) → (∀ r, A r → r < w.heap.size) →
    F.F x = some y → Calls P f vs.toArray w (Done F A w vs bs y)
/-- Values of a call's operands. -/
def ListR (g : Gh) (A : Nat → Prop) (w : World) : List PV → List Value → Prop
  | [], [] => True
  | x :: xs, v :: vs => VRel g A w x v ∧ ListR g A w xs vs
  | _, _ => False
section
variable {g : Gh} {A W : Nat → Prop} {w : World}
theorem ListR.mono {g' : Gh} {A' : Nat → Prop} {w' : World} (hg : g.le g') (hA : ∀ r, A r → A' r) (hw : ∀ r, A r → w'.heap[r]? = w.heap[r]?) : ∀ {xs : List PV} {vs : List Value}, ListR g A w xs vs → ListR g' A' w' xs vs
  | [], [], _ => trivial
  | _ :: _, _ :: _, ⟨h1, h2⟩ => ⟨h1.mono hg hA hw, h2.mono hg hA hw⟩
/-- What the boxes and rows that are given away hold. -/
def IoRel (A : Nat → Prop) (w : World) : (ps : List PK) → List Value → (ioTy ps).den → List Nat → Prop
  | [], vs, _, bs => vs = [] ∧ bs = []
  | .val _ :: r, vs, x, bs => ∃ v us, vs = v :: us ∧ IoRel A w r us x bs
  | .io t own :: r, vs, x, bs => ∃ v us p q, vs = v :: us ∧ bs = p ++ q ∧ BoxRel A w t own v x.1 p ∧ IoRel A w r us x.2 q
  | .mu t :: r, vs, x, bs => ∃ v us p q, vs = v :: us ∧ bs = p ++ q ∧ RowRel A w t v x.1 p ∧ IoRel A w r us x.2 q
  | .fn f :: r, vs, x, bs => ∃ v us, vs = v :: us ∧ isFn f v ∧ IoRel A w r us x bs
  | .eat t :: r, vs, x, bs => ∃ v us p q, vs = v :: us ∧ bs = p ++ q ∧ RowRel A w t v x.1 p ∧ IoRel A w r us x.2 q
  | .clo f t :: r, vs, x, bs => ∃ v us p q, vs = .func (.func f) #[] #[v] :: us ∧ bs = p ++ q ∧ BoxRel A w t false v x.1 p ∧ IoRel A w r us x.2 q
theorem OwnT.mono {A A' : Nat → Prop} {w w' : World} (hA : ∀ r, A r → A' r) (hw : ∀ r, A r → w'.heap[r]? = w.heap[r]?) : ∀ (t : Ty) (cs : List Value) (x : t.den) (bs : List Nat), (∀ r, r ∈ bs → w'.heap[r]? = w.heap[r]?) → OwnT A w t cs x bs → OwnT A' w' t cs x bs
  | .slice t, _, _, _, hb, ⟨s, v, h1, h2, h3, h4⟩ => ⟨s, v, h1, h2, h3.mono hA hw (fun b hs => hb b (by rw [h4, hs]; simp)), h4⟩
  | .pair a b, _, x, _, hb, ⟨c, d, p, q, h1, h2, h3, h4⟩ => ⟨c, d, p, q, h1, h2, OwnT.mono hA hw a c x.1 p (fun r hr => hb r (by rw [h2]; simp [hr])) h3, OwnT.mono hA hw b d x.2 q (fun r hr => hb r (by rw [h2]; simp [hr])) h4⟩
  | .unit, _, _, _, _, h => h
  | .int _, _, _, _, _, h => h
  | .bool, _, _, _, _, h => h
  | .str, _, _, _, _, h => h
  | .arr n t, cs, x, _, _, h => ⟨TRel.mono hA hw (.arr n t) cs x h.1, h.2⟩
theorem BoxRel.mono {A A' : Nat → Prop} {w w' : World} (hA : ∀ r, A r → A' r) (hw : ∀ r, A r → w'.heap[r]? = w.heap[r]?) {t : Ty} {own : Bool} {v : Value} {x : t.den} {bs : List Nat} (hb : ∀ r, r ∈ bs → w'.heap[r]? = w.heap[r]?) (h : BoxRel A w t own v x bs) : BoxRel A' w' t own v x bs := by
  obtain ⟨b, c, e, p, h1, h2, h3, h4⟩ := h
  refine ⟨b, c, e, p, h1, by rw [hb b (by rw [h3]; simp)]; exact h2, h3, ?_⟩
  cases own with
  | true => exact OwnT.mono hA hw t _ x p (fun r hr => hb r (by rw [h3]; simp [hr])) h4
  | false => exact ⟨TRel.mono hA hw t _ x h4.1, h4.2⟩
theorem RowRel.mono {A A' : Nat → Prop} {w w' : World} (hA : ∀ r, A r → A' r) (hw : ∀ r, A r → w'.heap[r]? = w.heap[r]?) {t : Ty} {v : Value} {x : List t.den} {bs : List Nat} (hb : ∀ r, r ∈ bs → w'.heap[r]? = w.heap[r]?) (h : RowRel A w t v x bs) : RowRel A' w' t v x bs := by
  obtain ⟨s, h1, h2, h3⟩ := h
  exact ⟨s, h1, h2.mono hA hw (fun b hs => hb b (by rw [h3, hs]; simp)), h3⟩
theorem IoRel.mono {A A' : Nat → Prop} {w w' : World} (hA : ∀ r, A r → A' r) (hw : ∀ r, A r → w'.heap[r]? = w.heap[r]?) : ∀ (ps : List PK) (vs : List Value) (x : (ioTy ps).den) (bs : List Nat), (∀ r, r ∈ bs → w'.heap[r]? = w.heap[r]?) → IoRel A w ps vs x bs → IoRel A' w' ps vs x bs
  | [], _, _, _, _, h => h
  | .val _ :: r, _, x, bs, hb, ⟨v, us, h1, h2⟩ => ⟨v, us, h1, h2.mono hA hw r us x bs hb⟩
  | .fn f :: r, _, x, bs, hb, ⟨v, us, h1, h2, h3⟩ => ⟨v, us, h1, h2, h3.mono hA hw r us x bs hb⟩
  | .io t own :: r, _, x, _, hb, ⟨v, us, p, q, h1, h2, h3, h4⟩ => ⟨v, us, p, q, h1, h2, h3.mono hA hw (fun r hr => hb r (by rw [h2]; simp [hr])), h4.mono hA hw r us x.2 q (fun r hr => hb r (by rw [h2]; simp [hr]))⟩
  | .mu t :: r, _, x, _, hb, ⟨v, us, p, q, h1, h2, h3, h4⟩ => ⟨v, us, p, q, h1, h2, h3.mono hA hw (fun r hr => hb r (by rw [h2]; simp [hr])), h4.mono hA hw r us x.2 q (fun r hr => hb r (by rw [h2]; simp [hr]))⟩
  | .eat t :: r, _, x, _, hb, ⟨v, us, p, q, h1, h2, h3, h4⟩ => ⟨v, us, p, q, h1, h2, h3.mono hA hw (fun r hr => hb r (by rw [h2]; simp [hr])), h4.mono hA hw r us x.2 q (fun r hr => hb r (by rw [h2]; simp [hr]))⟩
  | .clo _ t :: r, _, x, _, hb, ⟨v, us, p, q, h1, h2, h3, h4⟩ => ⟨v, us, p, q, h1, h2, h3.mono hA hw (fun r hr => hb r (by rw [h2]; simp [hr])), h4.mono hA hw r us x.2 q (fun r hr => hb r (by rw [h2]; simp [hr]))⟩
/-- What remains of a heap when boxes and rows are given away. -/
structure Gone (g : Gh) (A W : Nat → Prop) (w : World) (h : Hp) (A' : Nat → Prop) (h' : Hp) (bs : List Nat) : Prop where
  le : ∀ r, A r → A' r
  in' : ∀ r, A' r → A r ∨ W r
  hr : HR g A' W w h'
  nodup : bs.Nodup
  free : ∀ r, r ∈ bs → Free g h' r ∧ ¬ Free g h r
  mono : ∀ r, Free g h r → Free g h' r ∧ (A' r → A r)
  out : ∀ r, r ∈ bs → ¬ A' r ∧ W r ∧ r < w.heap.size
theorem not_free {h : Hp} {r : Nat} (hf : ¬ Free g h r) : ∃ i b s, h.at i = some b ∧ b.live = true ∧ g i = some s ∧ s.blk = some r := by
  apply Classical.byContradiction
  intro hn
  exact hf (fun i b s h1 h2 h3 h4 => hn ⟨i, b, s, h1, h2, h3, h4⟩)
theorem owned_out {h : Hp} (H : HR g A W w h) {r : Nat} (hf : ¬ Free g h r) : ¬ A r ∧ W r ∧ r < w.heap.size := by
  obtain ⟨i, b, s, h1, h2, h3, h4⟩ := not_free hf
  exact ⟨(H.own i b s r h1 h2 h3 h4).1, (H.own i b s r h1 h2 h3 h4).2, (H.blk i b h1).lt h3 h4⟩
theorem Gone.trans {A1 A2 : Nat → Prop} {h h1 h2 : Hp} {p q : List Nat} (a : Gone g A W w h A1 h1 p) (b : Gone g A1 W w h1 A2 h2 q) (H : HR g A W w h) : Gone g A W w h A2 h2 (p ++ q) := by
  have hpq : ∀ r, r ∈ p → r ∈ q → False := fun r hp hq => (b.free r hq).2 (a.free r hp).1
  refine ⟨fun r h => b.le r (a.le r h), fun r h => (b.in' r h).elim (a.in' r) .inr, b.hr, ?_, fun r hr => ?_, fun r hf => ⟨(b.mono r (a.mono r hf).1).1, fun h => (a.mono r hf).2 ((b.mono r (a.mono r hf).1).2 h)⟩, fun r hr => ?_⟩
  · rw [List.nodup_append]
    exact ⟨a.nodup, b.nodup, fun r hp r' hq e => hpq r hp (e ▸ hq)⟩
  · rcases List.mem_append.1 hr with hr | hr
    · exact ⟨(b.mono r (a.free r hr).1).1, (a.free r hr).2⟩
    · exact ⟨(b.free r hr).1, fun hf => (b.free r hr).2 (a.mono r hf).1⟩
  · rcases List.mem_append.1 hr with hr | hr
    · exact ⟨fun h => (a.out r hr).1 ((b.mono r (a.free r hr).1).2 h), (a.out r hr).2⟩
    · exact b.out r hr
/-- A box or a row is given away. -/
theorem gone_del {h : Hp} (H : HR g A W w h) {id : Nat} {B : Blk} {s : Slot} (hb : h.at id = some B) (hl : B.live = true) (hg : g id = some s) : Gone g A W w h A ((id, none) :: h) s.blk.toList := by
  have hfree : ∀ r, s.blk = some r → Free g ((id, none) :: h) r ∧ ¬ Free g h r := fun r hr => ⟨fun i b s' e hcl hgi hrr => by
    rw [at_cons] at e
    split at e
    · cases e
    · rename_i hne
      exact hne (H.inj i id b B s' s r e hb hcl hl hgi hg hrr hr), fun hf => hf id B s hb hl hg hr⟩
  have hm : ∀ r, r ∈ s.blk.toList → s.blk = some r := fun r hr => by cases hs : s.blk <;> simp_all
  exact ⟨fun _ h => h, fun _ h => .inl h, H.del id, by cases s.blk <;> simp, fun r hr => hfree r (hm r hr), fun r hf => ⟨hf.del, fun h => h⟩, fun r hr => owned_out H (hfree r (hm r hr)).2⟩
theorem listR_cons {x : PV} {xs : List PV} {vs : List Value} (h : ListR g A w (x :: xs) vs) : ∃ v us, vs = v :: us ∧ VRel g A w x v ∧ ListR g A w xs us := by
  cases vs with
  | nil => exact h.elim
  | cons v us => exact ⟨v, us, rfl, h.1, h.2⟩
theorem listR_nil {vs : List Value} (h : ListR g A w [] vs) : vs = [] := by
  cases vs with
  | nil => rfl
  | cons v us => exact h.elim
theorem eat_gone {t : Ty} {c : PV} {a : t.den} {h hh h' : Hp} {cs : List Value} {u : Unit} (H : HR g A W w h) (HH : HR g A W w hh) (hc : c.rel g A w cs) (hsub : ∀ i b, h.at i = some b → hh.at i = some b) (e1 : (dec t c).Ok hh a hh) (e2 : (eat c).Ok h u h') :
    ∃ bs, Gone g A W w h A h' bs ∧ OwnT A w t cs a bs := by
  obtain ⟨bs, o1, n1, H1, k1, m1, s1⟩ := eat_own t c a h hh cs u h' H hc hsub e1 HH e2
  exact ⟨bs, ⟨fun _ h => h, fun _ h => .inl h, H1, n1, k1, fun r hf => ⟨m1 r hf, fun h => h⟩, fun r hr => owned_out H (k1 r hr).2⟩, o1⟩
theorem frz_gone {A' : Nat → Prop} {h h' : Hp} (F : Frz g A W w h A' h') : Gone g A W w h A' h' [] :=
  ⟨F.le, F.in', F.hr, List.nodup_nil, by simp, fun r hf => F.free r hf, by simp⟩
theorem listR_tail {xs : List PV} {v : Value} {us : List Value} (h : ListR g A w xs (v :: us)) : ListR g A w xs.tail us := by
  cases xs with
  | nil => exact h.elim
  | cons x xs => exact h.2
theorem dec_agg : ∀ (t : Ty) (x : PV) (y : t.den) (h h' : Hp), (dec t x).Ok h y h' → aggP x = t.agg
  | .pair a b, x, y, h, h', e => by
    cases x with
    | agg xs => rfl
    | v u z => simp only [dec, Ok_get] at e; obtain ⟨rfl, _⟩ := cast_some e.1; rfl
    | _ => simp [dec, Q.Ok] at e
  | .unit, x, y, h, h', e => by
    cases x with
    | agg xs => rfl
    | v u z => simp only [dec, Ok_get] at e; obtain ⟨rfl, _⟩ := cast_some e.1; rfl
    | _ => simp [dec, Q.Ok] at e
  | .int _, x, y, h, h', e => by
    cases x with
    | v u z => simp only [dec, Ok_get] at e; obtain ⟨rfl, _⟩ := cast_some e.1; rfl
    | _ => simp [dec, Q.Ok] at e
  | .bool, x, y, h, h', e => by
    cases x with
    | v u z => simp only [dec, Ok_get] at e; obtain ⟨rfl, _⟩ := cast_some e.1; rfl
    | _ => simp [dec, Q.Ok] at e
  | .str, x, y, h, h', e => by
    cases x with
    | v u z => simp only [dec, Ok_get] at e; obtain ⟨rfl, _⟩ := cast_some e.1; rfl
    | _ => simp [dec, Q.Ok] at e
  | .arr _ _, x, y, h, h', e => by
    cases x with
    | v u z => simp only [dec, Ok_get] at e; obtain ⟨rfl, _⟩ := cast_some e.1; rfl
    | _ => simp [dec, Q.Ok] at e
  | .slice t, x, y, h, h', e => by
    cases x with
    | v u z => simp only [dec, Ok_get] at e; obtain ⟨rfl, _⟩ := cast_some e.1; rfl
    | nils => rfl
    | sl id => rfl
    | sv id p o l s n => rfl
    | _ => simp [dec, Q.Ok] at e
theorem boxIO_ok {t : Ty} {own : Bool} {x : PV} {v : Value} {h h' : Hp} {a : t.den} (H : HR g A W w h) (hx : VRel g A w x v) (e : (boxIO t own x).Ok h a h') : ∃ A' bs, Gone g A W w h A' h' bs ∧ BoxRel A' w t own v a bs := by
  unfold boxIO at e
  split at e
  · rename_i id
    simp only [Q.Ok] at e
    obtain ⟨B, hb, e⟩ := e
    cases B with
    | row u ys fz => simp [Q.Ok] at e
    | box c =>
      simp only [Ok_bind, Q.Ok] at e
      obtain ⟨a, h1, e1, _, u, h2, e2, rfl, rfl⟩ := e
      have hsame := dec_same t c a h h1 e1
      subst hsame
      obtain ⟨s, blk, hg, hs, rfl, _⟩ := rel_ptr hx
      obtain ⟨s', blk', cells, ty, hg', hs', hh, hc⟩ := H.blk id _ hb
      rw [hg] at hg'; injection hg' with hg'; subst hg'
      rw [hs] at hs'; injection hs' with hs'; subst hs'
      have G1 := gone_del H hb rfl hg
      rw [hs] at G1
      have hsub : ∀ i b, Hp.at ((id, none) :: h1) i = some b → h1.at i = some b := fun i b e => by
        rw [at_cons] at e
        split at e
        · cases e
        · exact e
      rw [Ok_cond] at e2
      rcases e2 with ⟨ho, e2⟩ | ⟨ho, e2⟩
      · subst ho
        obtain ⟨p, G2, o1⟩ := eat_gone G1.hr H hc hsub e1 e2
        exact ⟨A, _, G1.trans G2 H, blk, cells, ty, p, rfl, hh, rfl, o1⟩
      · subst ho
        obtain ⟨A1, F, ht⟩ := frz_own t c a A _ h1 cells.toList u h' G1.hr hc (fun i t xs fz e => ⟨fz, hsub i _ e⟩) (fun i x e => hsub i _ e) e1 e2
        exact ⟨A1, _, G1.trans (frz_gone F) H, blk, cells, ty, [], rfl, hh, by simp, ht, rfl⟩
  · simp [Q.Ok] at e
theorem rowIO_ok {t : Ty} {x : PV} {v : Value} {h h' : Hp} {a : List t.den} (H : HR g A W w h) (hx : VRel g A w x v) (e : (rowIO t x).Ok h a h') : ∃ bs, Gone g A W w h A h' bs ∧ RowRel A w t v a bs := by
  unfold rowIO at e
  split at e
  · rename_i id
    simp only [Q.Ok] at e
    obtain ⟨B, hb, e⟩ := e
    cases B with
    | box x => simp [Q.Ok] at e
    | row u ys fz =>
      cases fz with
      | true => simp [Q.Ok] at e
      | false =>
        simp only [Ok_bind, Ok_get, Q.Ok] at e
        obtain ⟨a, h1, ⟨ec0, rfl⟩, _, rfl, rfl⟩ := e
        obtain ⟨ec, _⟩ := cast_some ec0
        injection ec with ec
        subst ec
        obtain rfl := cast_self ec0
        obtain ⟨s, hg, hsl⟩ := to_sl hx
        obtain ⟨s', hg', hrow, _⟩ := H.blk id _ hb
        rw [hg] at hg'; injection hg' with hg'; subst hg'
        exact ⟨_, gone_del H hb rfl hg, s, hsl, hrow, rfl⟩
  · simp [Q.Ok] at e
theorem fnIO_ok {f : Nat} {x : PV} {v : Value} {h h' : Hp} {u : Unit} (hx : VRel g A w x v) (e : (fnIO f x).Ok h u h') : h' = h ∧ isFn f v := by
  unfold fnIO at e
  split at e
  · rename_i k
    rw [Ok_need] at e
    obtain ⟨hk, rfl⟩ := e
    have hk := Nat.eq_of_beq_eq_true hk
    subst hk
    have h1 := single_of rfl hx
    unfold PV.rel at h1
    obtain ⟨vs, h2, h3⟩ := h1
    injection h2 with h2
    unfold rels at h3
    have hvs : vs = #[] := Array.toList_inj.1 h3
    exact ⟨rfl, by rw [h2, hvs]; rfl⟩
  · simp [Q.Ok] at e
theorem eatIO_ok {t : Ty} {x : PV} {v : Value} {h h' : Hp} {a : List t.den} (H : HR g A W w h) (hx : VRel g A w x v) (e : (eatIO t x).Ok h a h') : ∃ bs, Gone g A W w h A h' bs ∧ RowRel A w t v a bs := by
  unfold eatIO at e
  split at e
  · rw [Ok_ret] at e
    obtain ⟨rfl, rfl⟩ := e
    refine ⟨[], ⟨fun _ h => h, fun _ h => .inl h, H, List.nodup_nil, by simp, fun r hf => ⟨hf, fun h => h⟩, by simp⟩, ⟨none, 0, 0⟩, ?_, ⟨rfl, rfl, rfl⟩, rfl⟩
    unfold VRel at hx
    simp only [aggP] at hx
    unfold PV.rel at hx
    injection hx with hx
    exact ⟨hx, rfl, rfl⟩
  · exact rowIO_ok H hx e
theorem clo_ptr {f : FuncId} {p : PV} {v : Value} (hp : aggP p = false) (h : VRel g A w (.fn f [p]) v) : ∃ u, v = .func (.func f) #[] #[u] ∧ VRel g A w p u := by
  unfold VRel at h
  simp only [aggP] at h
  unfold PV.rel at h
  obtain ⟨vs, e, h⟩ := h
  injection e with e
  unfold rels at h
  obtain ⟨c, d, h1, h2, h3⟩ := h
  unfold rels at h3
  subst h3
  obtain ⟨u, rfl, _⟩ := rel_single p c hp h2
  refine ⟨u, ?_, ?_⟩
  · rw [e]
    congr 1
    apply Array.toList_inj.1
    rw [h1]; rfl
  · unfold VRel; rw [hp]; exact h2
theorem cloIO_ok {f : FuncId} {t : Ty} {x : PV} {v : Value} {h h' : Hp} {a : t.den} (H : HR g A W w h) (hx : VRel g A w x v) (e : (cloIO f t x).Ok h a h') : ∃ u A' bs, v = .func (.func f) #[] #[u] ∧ Gone g A W w h A' h' bs ∧ BoxRel A' w t false u a bs := by
  unfold cloIO at e
  split at e
  · rename_i k id p
    rw [Ok_cond] at e
    rcases e with ⟨hk, e⟩ | ⟨_, e⟩
    · have hk := Nat.eq_of_beq_eq_true hk
      subst hk
      obtain ⟨u, rfl, hu⟩ := clo_ptr rfl hx
      obtain ⟨A', bs, G, r⟩ := boxIO_ok H hu e
      exact ⟨u, A', bs, rfl, G, r⟩
    · exact e.elim
  · simp [Q.Ok] at e
theorem takeIO_ok (ps : List PK) : ∀ (xs : List PV) (vs : List Value) (A : Nat → Prop) (h : Hp) (y : (ioTy ps).den) (h' : Hp), HR g A W w h → ListR g A w xs vs → (takeIO ps xs).Ok h y h' → ∃ A' bs, Gone g A W w h A' h' bs ∧ IoRel A' w ps vs y bs := by
  induction ps with
  | nil =>
    intro xs vs A h y h' H hv e
    cases xs with
    | nil =>
      simp only [takeIO, Ok_ret] at e
      obtain ⟨_, rfl⟩ := e
      exact ⟨A, [], ⟨fun _ h => h, fun _ h => .inl h, H, List.nodup_nil, by simp, fun r hf => ⟨hf, fun h => h⟩, by simp⟩, listR_nil hv, rfl⟩
    | cons x xs => simp only [takeIO, Ok_fail] at e
  | cons k r ih =>
    intro xs vs A h y h' H hv e
    cases xs with
    | nil => cases k <;> simp only [takeIO, Ok_fail] at e
    | cons x xs =>
      obtain ⟨v, us, rfl, hx, hxs⟩ := listR_cons hv
      cases k with
      | val t =>
        simp only [takeIO] at e
        obtain ⟨A', bs, G, r1⟩ := ih xs us A h y h' H hxs e
        exact ⟨A', bs, G, v, us, rfl, r1⟩
      | fn f =>
        simp only [takeIO] at e
        obtain ⟨_, h1, e1, e2⟩ := (Ok_bind (fnIO f x) (fun _ => takeIO r xs) h y h').1 e
        obtain ⟨rfl, hf⟩ := fnIO_ok hx e1
        obtain ⟨A', bs, G, r1⟩ := ih xs us A h1 y h' H hxs e2
        exact ⟨A', bs, G, v, us, rfl, hf, r1⟩
      | mu t =>
        simp only [takeIO, Ok_bind, Ok_ret] at e
        obtain ⟨a, h1, e1, b, h2, e2, rfl, rfl⟩ := e
        obtain ⟨p, G1, q1⟩ := rowIO_ok H hx e1
        obtain ⟨A', bs, G2, r1⟩ := ih xs us A h1 b _ G1.hr hxs e2
        exact ⟨A', _, G1.trans G2 H, v, us, p, bs, rfl, rfl, q1.mono G2.le (fun _ _ => rfl) (fun _ _ => rfl), r1⟩
      | eat t =>
        simp only [takeIO, Ok_bind, Ok_ret] at e
        obtain ⟨a, h1, e1, b, h2, e2, rfl, rfl⟩ := e
        obtain ⟨p, G1, q1⟩ := eatIO_ok H hx e1
        obtain ⟨A', bs, G2, r1⟩ := ih xs us A h1 b _ G1.hr hxs e2
        exact ⟨A', _, G1.trans G2 H, v, us, p, bs, rfl, rfl, q1.mono G2.le (fun _ _ => rfl) (fun _ _ => rfl), r1⟩
      | clo f t =>
        simp only [takeIO, Ok_bind, Ok_ret] at e
        obtain ⟨a, h1, e1, b, h2, e2, rfl, rfl⟩ := e
        obtain ⟨u, A1, p, rfl, G1, q1⟩ := cloIO_ok H hx e1
        obtain ⟨A', bs, G2, r1⟩ := ih xs us A1 h1 b _ G1.hr (hxs.mono (Gh.le_refl g) G1.le (fun _ _ => rfl)) e2
        exact ⟨A', _, G1.trans G2 H, u, us, p, bs, rfl, rfl, q1.mono G2.le (fun _ _ => rfl) (fun _ _ => rfl), r1⟩
      | io t own =>
        simp only [takeIO, Ok_bind, Ok_ret] at e
        obtain ⟨a, h1, e1, b, h2, e2, rfl, rfl⟩ := e
        obtain ⟨A1, p, G1, q1⟩ := boxIO_ok H hx e1
        obtain ⟨A', bs, G2, r1⟩ := ih xs us A1 h1 b _ G1.hr (hxs.mono (Gh.le_refl g) G1.le (fun _ _ => rfl)) e2
        exact ⟨A', _, G1.trans G2 H, v, us, p, bs, rfl, rfl, q1.mono G2.le (fun _ _ => rfl) (fun _ _ => rfl), r1⟩
theorem takeV_same (ps : List PK) : ∀ (xs : List PV) (h : Hp) (y : (ioTy ps).den) (a : (argTy ps).den) (h' : Hp), (takeV ps xs y).Ok h a h' → h' = h := by
  induction ps with
  | nil => intro xs h y a h' e; simp only [takeV, Ok_ret] at e; exact e.2
  | cons k r ih =>
    intro xs h y a h' e
    cases k with
    | val t =>
      cases xs with
      | nil => simp only [takeV, Ok_fail] at e
      | cons x xs =>
        simp only [takeV, Ok_bind, Ok_ret] at e
        obtain ⟨a, h1, e1, b, h2, e2, _, rfl⟩ := e
        rw [ih xs h1 y b _ e2, dec_same t x a h h1 e1]
    | io t own => simp only [takeV, Ok_bind, Ok_ret] at e; obtain ⟨b, h2, e2, _, rfl⟩ := e; exact ih _ _ _ _ _ e2
    | mu t => simp only [takeV, Ok_bind, Ok_ret] at e; obtain ⟨b, h2, e2, _, rfl⟩ := e; exact ih _ _ _ _ _ e2
    | fn f => simp only [takeV] at e; exact ih _ _ _ _ _ e
    | eat t => simp only [takeV, Ok_bind, Ok_ret] at e; obtain ⟨b, h2, e2, _, rfl⟩ := e; exact ih _ _ _ _ _ e2
    | clo f t => simp only [takeV, Ok_bind, Ok_ret] at e; obtain ⟨b, h2, e2, _, rfl⟩ := e; exact ih _ _ _ _ _ e2
/-- Values that are shown to a callee that hands back none of them: what is read is what stays, and what the heap's blocks hold. -/
theorem takeV_ok (ps : List PK) : ∀ (xs : List PV) (vs : List Value) (h : Hp) (y : (ioTy ps).den) (a : (argTy ps).den) (h' : Hp) (bs : List Nat), HR g A W w h → ListR g A w xs vs → IoRel A w ps vs y bs → (takeV ps xs y).Ok h a h' → ArgsRel (Rd g A h) w ps vs a bs := by
  induction ps with
  | nil => intro xs vs h y a h' bs H hv hi e; exact hi
  | cons k r ih =>
    intro xs vs h y a h' bs H hv hi e
    have hA : ∀ r, A r → Rd g A h r := fun r hr => .inl hr
    cases k with
    | val t =>
      cases xs with
      | nil => simp only [takeV, Ok_fail] at e
      | cons x xs =>
        simp only [takeV, Ok_bind, Ok_ret] at e
        obtain ⟨c, h1, e1, b, h2, e2, rfl, _⟩ := e
        have hs := dec_same t x c h h1 e1
        subst hs
        obtain ⟨v, us, rfl, hx, hxs⟩ := listR_cons hv
        obtain ⟨v', us', e0, hi'⟩ := hi
        injection e0 with e0 e0'; subst e0 e0'
        have hc := VRel.cells hx
        obtain ⟨_, r1⟩ := dec_rel H t x c h1 _ hc.1 e1
        have hagg : aggP x = t.agg := dec_agg t x c h1 h1 e1
        exact ⟨_, _, rfl, ⟨by rw [hc.2, hagg], r1, rfl⟩, ih xs _ h1 y b h2 bs H hxs hi' e2⟩
    | io t own =>
      simp only [takeV, Ok_bind, Ok_ret] at e
      obtain ⟨b, h2, e2, rfl, _⟩ := e
      obtain ⟨v, us, p, q, rfl, rfl, r1, r2⟩ := hi
      exact ⟨v, us, p, q, rfl, rfl, r1.mono hA (fun _ _ => rfl) (fun _ _ => rfl), ih xs.tail us h y.2 b h2 q H (listR_tail hv) r2 e2⟩
    | mu t =>
      simp only [takeV, Ok_bind, Ok_ret] at e
      obtain ⟨b, h2, e2, rfl, _⟩ := e
      obtain ⟨v, us, p, q, rfl, rfl, r1, r2⟩ := hi
      exact ⟨v, us, p, q, rfl, rfl, r1.mono hA (fun _ _ => rfl) (fun _ _ => rfl), ih xs.tail us h y.2 b h2 q H (listR_tail hv) r2 e2⟩
    | eat t =>
      simp only [takeV, Ok_bind, Ok_ret] at e
      obtain ⟨b, h2, e2, rfl, _⟩ := e
      obtain ⟨v, us, p, q, rfl, rfl, r1, r2⟩ := hi
      exact ⟨v, us, p, q, rfl, rfl, r1.mono hA (fun _ _ => rfl) (fun _ _ => rfl), ih xs.tail us h y.2 b h2 q H (listR_tail hv) r2 e2⟩
    | clo f t =>
      simp only [takeV, Ok_bind, Ok_ret] at e
      obtain ⟨b, h2, e2, rfl, _⟩ := e
      obtain ⟨v, us, p, q, rfl, rfl, r1, r2⟩ := hi
      exact ⟨v, us, p, q, rfl, rfl, r1.mono hA (fun _ _ => rfl) (fun _ _ => rfl), ih xs.tail us h y.2 b h2 q H (listR_tail hv) r2 e2⟩
    | fn f =>
      simp only [takeV] at e
      obtain ⟨v, us, rfl, r1, r2⟩ := hi
      exact ⟨v, us, rfl, r1, ih xs.tail us h y a h' bs H (listR_tail hv) r2 e⟩
/-- The same where the callee may hand them back: they are frozen first. -/
theorem frzArgs_ok (ps : List PK) : ∀ (xs : List PV) (vs : List Value) (A : Nat → Prop) (h hh : Hp) (y : (ioTy ps).den) (a : (argTy ps).den) (bs : List Nat) (u : Unit) (h' : Hp), HR g A W w h → Sim h hh → (∀ i x, h.at i = some (.box x) → hh.at i = some (.box x)) → ListR g A w xs vs → IoRel A w ps vs y bs → (takeV ps xs y).Ok hh a hh → (frzArgs ps xs).Ok h u h' →
    ∃ A', Frz g A W w h A' h' ∧ ArgsRel A' w ps vs a bs := by
  induction ps with
  | nil =>
    intro xs vs A h hh y a bs u h' H hs hb hv hi e e'
    simp only [frzArgs, Ok_ret] at e'
    obtain ⟨_, rfl⟩ := e'
    exact ⟨A, .refl H, hi⟩
  | cons k r ih =>
    intro xs vs A h hh y a bs u h' H hs hb hv hi e e'
    cases k with
    | val t =>
      cases xs with
      | nil => simp only [takeV, Ok_fail] at e
      | cons x xs =>
        simp only [takeV, Ok_bind, Ok_ret] at e
        obtain ⟨c, h1, e1, b, h2, e2, rfl, e3⟩ := e
        have hs1 := dec_same t x c hh h1 e1
        subst hs1
        have hs2 := takeV_same r xs h1 y b h2 e2
        subst hs2
        simp only [frzArgs, Ok_bind] at e'
        obtain ⟨u1, h3, f1, f2⟩ := e'
        obtain ⟨v, us, rfl, hx, hxs⟩ := listR_cons hv
        obtain ⟨v', us', e0, hi'⟩ := hi
        injection e0 with e0 e0'; subst e0 e0'
        have hc := VRel.cells hx
        obtain ⟨A1, F1, ht⟩ := frz_own t x c A h h2 _ u1 h3 H hc.1 hs hb e1 f1
        have hagg : aggP x = t.agg := dec_agg t x c h2 h2 e1
        obtain ⟨A2, F2, r2⟩ := ih xs _ A1 h3 h2 y b bs u h' F1.hr (fun i t xs fz e => by obtain ⟨fz', e'⟩ := F1.sim i t xs fz e; exact hs i t xs fz' e') (fun i x e => hb i x (F1.box i x e)) (hxs.mono (Gh.le_refl g) F1.le (fun _ _ => rfl)) (hi'.mono F1.le (fun _ _ => rfl) _ _ _ _ (fun _ _ => rfl)) e2 f2
        exact ⟨A2, F1.trans F2, _, _, rfl, ⟨by rw [hc.2, hagg], TRel.mono F2.le (fun _ _ => rfl) t _ c ht, rfl⟩, r2⟩
    | io t own =>
      simp only [takeV, Ok_bind, Ok_ret] at e
      obtain ⟨b, h2, e2, rfl, _⟩ := e
      have hs2 := takeV_same r xs.tail hh y.2 b h2 e2
      rw [hs2] at e2
      obtain ⟨v, us, p, q, rfl, rfl, r1, r2⟩ := hi
      simp only [frzArgs] at e'
      obtain ⟨A', F, r3⟩ := ih xs.tail us A h hh y.2 b q u h' H hs hb (listR_tail hv) r2 e2 e'
      exact ⟨A', F, v, us, p, q, rfl, rfl, r1.mono F.le (fun _ _ => rfl) (fun _ _ => rfl), r3⟩
    | mu t =>
      simp only [takeV, Ok_bind, Ok_ret] at e
      obtain ⟨b, h2, e2, rfl, _⟩ := e
      have hs2 := takeV_same r xs.tail hh y.2 b h2 e2
      rw [hs2] at e2
      obtain ⟨v, us, p, q, rfl, rfl, r1, r2⟩ := hi
      simp only [frzArgs] at e'
      obtain ⟨A', F, r3⟩ := ih xs.tail us A h hh y.2 b q u h' H hs hb (listR_tail hv) r2 e2 e'
      exact ⟨A', F, v, us, p, q, rfl, rfl, r1.mono F.le (fun _ _ => rfl) (fun _ _ => rfl), r3⟩
    | eat t =>
      simp only [takeV, Ok_bind, Ok_ret] at e
      obtain ⟨b, h2, e2, rfl, _⟩ := e
      have hs2 := takeV_same r xs.tail hh y.2 b h2 e2
      rw [hs2] at e2
      obtain ⟨v, us, p, q, rfl, rfl, r1, r2⟩ := hi
      simp only [frzArgs] at e'
      obtain ⟨A', F, r3⟩ := ih xs.tail us A h hh y.2 b q u h' H hs hb (listR_tail hv) r2 e2 e'
      exact ⟨A', F, v, us, p, q, rfl, rfl, r1.mono F.le (fun _ _ => rfl) (fun _ _ => rfl), r3⟩
    | clo f t =>
      simp only [takeV, Ok_bind, Ok_ret] at e
      obtain ⟨b, h2, e2, rfl, _⟩ := e
      have hs2 := takeV_same r xs.tail hh y.2 b h2 e2
      rw [hs2] at e2
      obtain ⟨v, us, p, q, rfl, rfl, r1, r2⟩ := hi
      simp only [frzArgs] at e'
      obtain ⟨A', F, r3⟩ := ih xs.tail us A h hh y.2 b q u h' H hs hb (listR_tail hv) r2 e2 e'
      exact ⟨A', F, v, us, p, q, rfl, rfl, r1.mono F.le (fun _ _ => rfl) (fun _ _ => rfl), r3⟩
    | fn f =>
      simp only [takeV] at e
      obtain ⟨v, us, rfl, r1, r2⟩ := hi
      simp only [frzArgs] at e'
      obtain ⟨A', F, r3⟩ := ih xs.tail us A h hh y a bs u h' H hs hb (listR_tail hv) r2 e e'
      exact ⟨A', F, v, us, rfl, r1, r3⟩
theorem Free.put {h : Hp} {id r : Nat} {B : Blk} {s : Slot} (hf : Free g h r) (hg : g id = some s) (hs : s.blk ≠ some r) : Free g ((id, some B) :: h) r := fun i c s' e hl hgi => by
  rw [at_cons] at e
  split at e
  · rename_i hi; subst hi; rw [hg] at hgi; injection hgi with hgi; subst hgi; exact hs
  · exact hf i c s' e hl hgi
theorem impO_ok {t : Ty} {own : Bool} {y : t.den} {n : Nat} {h h' : Hp} {cs : List Value} {bs : List Nat} {p : PV × Nat} (H : HR g A W w h) (ho : match own with | true => OwnT A w t cs y bs | false => TRel A w t cs y ∧ bs = []) (hn : bs.Nodup) (hb : ∀ r, r ∈ bs → ¬ A r ∧ W r ∧ Free g h r)
    (e : (impO t own y n).Ok h p h') : ∃ g', g.le g' ∧ HR g' A W w h' ∧ p.1.rel g' A w cs ∧ (∀ r, Free g h r → r ∉ bs → Free g' h' r) ∧ aggP p.1 = t.agg := by
  unfold impO at e
  rw [Ok_cond] at e
  rcases e with ⟨h1, e⟩ | ⟨h1, e⟩
  · subst h1; exact imp_ok t y n g h cs bs p h' H ho hn hb e
  · subst h1
    rw [Ok_ret] at e
    obtain ⟨rfl, rfl⟩ := e
    exact ⟨g, Gh.le_refl g, H, mk_rel t y cs ho.1, fun r hf _ => hf, isAgg_mk t y⟩
theorem takeRes_ok (rs : List (Ty × Bool)) : ∀ (g : Gh) (h : Hp) (zs : List Value) (y : (resTy rs).den) (bs : List Nat) (n : Nat) (l : List PV) (h' : Hp), HR g A W w h → ResRel A w rs zs y bs → bs.Nodup → (∀ r, r ∈ bs → ¬ A r ∧ W r ∧ Free g h r) → (takeRes rs y n).Ok h l h' →
    ∃ g', g.le g' ∧ HR g' A W w h' ∧ ListR g' A w l zs := by
  induction rs with
  | nil =>
    intro g h zs y bs n l h' H hr hn hb e
    simp only [takeRes, Ok_ret] at e
    obtain ⟨rfl, rfl⟩ := e
    obtain ⟨rfl, _⟩ := hr
    exact ⟨g, Gh.le_refl g, H, trivial⟩
  | cons k rs ih =>
    intro g h zs y bs n l h' H hr hn hb e
    obtain ⟨t, own⟩ := k
    simp only [takeRes, Ok_bind, Ok_ret] at e
    obtain ⟨p, h1, e1, q, h2, e2, rfl, rfl⟩ := e
    obtain ⟨v, us, b1, b2, rfl, rfl, ⟨hv1, hv2⟩, hr⟩ := hr
    rw [List.nodup_append] at hn
    obtain ⟨g1, l1, H1, r1, f1, a1⟩ := impO_ok H hv2 hn.1 (fun r h => hb r (by simp [h])) e1
    obtain ⟨g2, l2, H2, r2⟩ := ih g1 h1 us y.2 b2 p.2 q h' H1 hr hn.2.1 (fun r hr => ⟨(hb r (by simp [hr])).1, (hb r (by simp [hr])).2.1, f1 r (hb r (by simp [hr])).2.2 (fun h => hn.2.2 r h r hr rfl)⟩) e2
    refine ⟨g2, Gh.le_trans l1 l2, H2, ?_, r2⟩
    have : VRel g1 A w p.1 v := by
      have h3 := VRel.of_cells r1
      have h4 : ofCells (aggP p.1) v.cells.toList = v := by
        rw [a1, ← hv1]
        cases hx : isAggV v with
        | true => cases v <;> simp_all [isAggV, ofCells, Value.cells]
        | false => rw [isAggV_cells hx]; rfl
      rw [h4] at h3; exact h3
    exact this.mono l2 (fun _ h => h) (fun _ _ => rfl)
theorem back_ok (ps : List PK) (rs : List (Ty × Bool)) : ∀ (g : Gh) (h : Hp) (xs : List PV) (vs zs : List Value) (y : (outTy ps rs).den) (bs : List Nat) (n : Nat) (l : List PV) (h' : Hp), HR g A W w h → ListR g A w xs vs → OutRel A w ps rs vs zs y bs → bs.Nodup → (∀ r, r ∈ bs → ¬ A r ∧ W r ∧ Free g h r) → (back ps rs xs y n).Ok h l h' →
    ∃ g', g.le g' ∧ HR g' A W w h' ∧ ListR g' A w l zs := by
  induction ps with
  | nil => intro g h xs vs zs y bs n l h' H hv hr hn hb e; exact takeRes_ok rs g h zs y bs n l h' H hr hn hb e
  | cons k r ih =>
    intro g h xs vs zs y bs n l h' H hv hr hn hb e
    cases k with
    | val t =>
      simp only [back] at e
      have hr : OutRel A w r rs vs.tail zs y bs := hr
      refine ih g h xs.tail vs.tail zs y bs n l h' H ?_ hr hn hb e
      cases vs with
      | nil => cases xs with
        | nil => trivial
        | cons x xs => exact hv.elim
      | cons v us => exact listR_tail hv
    | fn f =>
      simp only [back] at e
      have hr : OutRel A w r rs vs.tail zs y bs := hr
      refine ih g h xs.tail vs.tail zs y bs n l h' H ?_ hr hn hb e
      cases vs with
      | nil => cases xs with
        | nil => trivial
        | cons x xs => exact hv.elim
      | cons v us => exact listR_tail hv
    | eat t =>
      simp only [back] at e
      have hr : OutRel A w r rs vs.tail zs y bs := hr
      refine ih g h xs.tail vs.tail zs y bs n l h' H ?_ hr hn hb e
      cases vs with
      | nil => cases xs with
        | nil => trivial
        | cons x xs => exact hv.elim
      | cons v us => exact listR_tail hv
    | mu t =>
      cases xs with
      | nil => simp only [back, Ok_fail] at e
      | cons x xs =>
        simp only [back] at e
        obtain ⟨u, h1, e1, e2⟩ := (Ok_bind _ _ _ _ _).1 e
        obtain ⟨v, us, b1, b2, rfl, rfl, ⟨s, q1, q2, rfl⟩, hr⟩ := hr
        rw [List.nodup_append] at hn
        unfold backRow at e1
        split at e1
        · rename_i id
          simp only [Q.Ok] at e1
          obtain ⟨_, _, rfl⟩ := e1
          obtain ⟨s', hg, hsl⟩ := to_sl hv.1
          have hss : s'.blk = s.blk ∧ s'.len = s.len ∧ s'.cap = s.cap := by
            unfold SlV at q1 hsl
            cases hb1 : s.blk <;> cases hb2 : s'.blk <;> rw [hb1] at q1 <;> rw [hb2] at hsl
            · exact ⟨rfl, by rw [q1.2.1, hsl.2.1], by rw [q1.2.2, hsl.2.2]⟩
            · rw [q1.1] at hsl; cases hsl
            · rw [q1] at hsl; cases hsl.1
            · rw [q1] at hsl; injection hsl with h1 h2 h3; injection h1 with h1; injection h1 with h1; exact ⟨by rw [h1], h2.symm, h3.symm⟩
          obtain rfl : s' = s := by cases s; cases s'; simp_all
          have H1 := H.put (id := id) (b := .row t y.1 false) ⟨s', hg, q2, fun h => by cases h⟩ (fun _ s2 r hs hr => by
            rw [hg] at hs; injection hs with hs; subst hs
            obtain ⟨r1, r2, r3⟩ := hb r (by rw [hr]; simp)
            exact ⟨r1, r2, fun j c s3 hj e hl hgj => r3 j c s3 e hl hgj⟩)
          exact ih g _ xs us zs y.2 b2 n l h' H1 hv.2 hr hn.2.1 (fun r hr => ⟨(hb r (by simp [hr])).1, (hb r (by simp [hr])).2.1, (hb r (by simp [hr])).2.2.put hg (fun h => hn.2.2 r (by rw [h]; simp) r hr rfl)⟩) e2
        · simp [Q.Ok] at e1
    | io t own =>
      cases xs with
      | nil => simp only [back, Ok_fail] at e
      | cons x xs =>
        simp only [back] at e
        obtain ⟨m, h1, e1, e2⟩ := (Ok_bind _ _ _ _ _).1 e
        obtain ⟨v, us, b1, b2, rfl, rfl, ⟨b, c, ty, p, rfl, q2, rfl, q4⟩, hr⟩ := hr
        rw [List.nodup_append] at hn
        obtain ⟨hn1, hn2, hn3⟩ := hn
        rw [List.nodup_cons] at hn1
        unfold backBox at e1
        split at e1
        · rename_i id pp
          simp only [Ok_bind, Q.Ok] at e1
          obtain ⟨z, h2, f1, _, rfl, rfl⟩ := e1
          obtain ⟨s, b', hg, hs, hp, _⟩ := rel_ptr hv.1
          injection hp with hp
          injection hp with hp
          injection hp with hp
          subst hp
          obtain ⟨g1, l1, H1, r1, fr1, _⟩ := impO_ok H q4 hn1.2 (fun r hr => hb r (by simp [hr])) f1
          have hfb : Free g1 h2 b := fr1 b (hb b (by simp)).2.2 hn1.1
          have H2 := H1.put (id := id) (b := .box z.1) ⟨s, b, c, ty, l1 _ _ hg, hs, q2, r1⟩ (fun _ s2 r hs2 hr => by
            rw [l1 _ _ hg] at hs2; injection hs2 with hs2; subst hs2
            rw [hs] at hr; injection hr with hr; subst hr
            obtain ⟨r1, r2, _⟩ := hb b (by simp)
            exact ⟨r1, r2, fun j c s3 hj e hl hgj => hfb j c s3 e hl hgj⟩)
          obtain ⟨g2, l2, H3, r3⟩ := ih g1 _ xs us zs y.2 b2 z.2 l h' H2 (hv.2.mono l1 (fun _ h => h) (fun _ _ => rfl)) hr hn2 (fun r hr => by
            obtain ⟨k1, k2, k3⟩ := hb r (by simp [hr])
            refine ⟨k1, k2, (fr1 r k3 (fun h => hn3 r (by simp [h]) r hr rfl)).put (l1 _ _ hg) (fun h => ?_)⟩
            rw [hs] at h; injection h with h; subst h
            exact hn3 b (by simp) b hr rfl) e2
          exact ⟨g2, Gh.le_trans l1 l2, H3, r3⟩
        · simp [Q.Ok] at e1
    | clo f t =>
      cases xs with
      | nil => simp only [back, Ok_fail] at e
      | cons x xs =>
        simp only [back] at e
        obtain ⟨m, h1, e1, e2⟩ := (Ok_bind _ _ _ _ _).1 e
        obtain ⟨v, us, b1, b2, rfl, rfl, ⟨b, c, ty, p, rfl, q2, rfl, q4⟩, hr⟩ := hr
        rw [List.nodup_append] at hn
        obtain ⟨hn1, hn2, hn3⟩ := hn
        rw [List.nodup_cons] at hn1
        unfold backClo at e1
        split at e1
        · rename_i f2 pv
          unfold backBox at e1
          split at e1
          · rename_i id pp
            simp only [Ok_bind, Q.Ok] at e1
            obtain ⟨z, h2, f1, _, rfl, rfl⟩ := e1
            obtain ⟨u0, hu0, hv1⟩ := clo_ptr rfl hv.1
            injection hu0 with _ _ hu0
            have hu0 : Value.pointer (some ⟨b, 0, none⟩) = u0 := by injection (congrArg Array.toList hu0)
            subst hu0
            obtain ⟨s, b', hg, hs, hp, _⟩ := rel_ptr hv1
            injection hp with hp
            injection hp with hp
            injection hp with hp
            subst hp
            obtain ⟨g1, l1, H1, r1, fr1, _⟩ := impO_ok H q4 hn1.2 (fun r hr => hb r (by simp [hr])) f1
            have hfb : Free g1 h2 b := fr1 b (hb b (by simp)).2.2 hn1.1
            have H2 := H1.put (id := id) (b := .box z.1) ⟨s, b, c, ty, l1 _ _ hg, hs, q2, r1⟩ (fun _ s2 r hs2 hr => by
              rw [l1 _ _ hg] at hs2; injection hs2 with hs2; subst hs2
              rw [hs] at hr; injection hr with hr; subst hr
              obtain ⟨r1, r2, _⟩ := hb b (by simp)
              exact ⟨r1, r2, fun j c s3 hj e hl hgj => hfb j c s3 e hl hgj⟩)
            obtain ⟨g2, l2, H3, r3⟩ := ih g1 _ xs us zs y.2 b2 z.2 l h' H2 (hv.2.mono l1 (fun _ h => h) (fun _ _ => rfl)) hr hn2 (fun r hr => by
              obtain ⟨k1, k2, k3⟩ := hb r (by simp [hr])
              refine ⟨k1, k2, (fr1 r k3 (fun h => hn3 r (by simp [h]) r hr rfl)).put (l1 _ _ hg) (fun h => ?_)⟩
              rw [hs] at h; injection h with h; subst h
              exact hn3 b (by simp) b hr rfl) e2
            exact ⟨g2, Gh.le_trans l1 l2, H3, r3⟩
          · simp [Q.Ok] at e1
        · simp [Q.Ok] at e1
theorem pack_rel {l : List PV} {zs : List Value} (h : ListR g A w l zs) : VRel g A w (pack l) (packV zs) := by
  have ht : ∀ {l : List PV} {zs : List Value}, ListR g A w l zs → tups g A w l zs := fun {l} => by
    induction l with
    | nil => intro zs h; rw [listR_nil h]; unfold tups; rfl
    | cons x xs ih =>
      intro zs h
      obtain ⟨v, us, rfl, hx, hxs⟩ := listR_cons h
      unfold tups
      exact ⟨v, us, rfl, hx, ih hxs⟩
  cases l with
  | nil =>
    rw [listR_nil h]
    unfold VRel pack packV; simp only [aggP]; unfold PV.rel
    exact ⟨_, rfl, ht trivial⟩
  | cons x xs =>
    obtain ⟨v, us, rfl, hx, hxs⟩ := listR_cons h
    cases xs with
    | nil => rw [listR_nil hxs]; exact hx
    | cons x2 xs =>
      obtain ⟨v2, us2, rfl, hx2, hxs2⟩ := listR_cons hxs
      unfold VRel pack packV; simp only [aggP]; unfold PV.rel
      exact ⟨_, rfl, ht h⟩
theorem ValRel.noImm {A' : Nat → Prop} {w : World} {t : Ty} {own : Bool} {v : Value} {x : t.den} {bs : List Nat} (hi : hasImm t own = false) (h : ValRel A' w t own v x bs) : ValRel A w t own v x bs := by
  refine ⟨h.1, ?_⟩
  cases own with
  | false =>
    have hf : t.flat = true := by simpa [hasImm] using hi
    exact ⟨TRel.flat t _ x hf h.2.1, h.2.2⟩
  | true =>
    have go : ∀ (t : Ty) (cs : List Value) (x : t.den) (bs : List Nat), hasImm t true = false → OwnT A' w t cs x bs → OwnT A w t cs x bs := by
      intro t
      induction t with
      | slice u _ =>
        intro cs x bs hi ⟨s, v, h1, h2, ⟨h3, h4⟩, h5⟩
        have hf : u.flat = true := by simpa [hasImm] using hi
        refine ⟨s, v, h1, h2, ⟨h3, ?_⟩, h5⟩
        cases hs : s.blk with
        | none => rw [hs] at h4; exact h4
        | some b => rw [hs] at h4; obtain ⟨k1, c, e, k2, k3, k4⟩ := h4; exact ⟨k1, c, e, k2, k3, k4.mono (fun c x => TRel.flat u c x hf)⟩
      | pair a b iha ihb =>
        intro cs x bs hi ⟨c, d, p, q, h1, h2, h3, h4⟩
        have hi : hasImm a true = false ∧ hasImm b true = false := by simpa [hasImm] using hi
        exact ⟨c, d, p, q, h1, h2, iha _ _ _ hi.1 h3, ihb _ _ _ hi.2 h4⟩
      | unit => intro cs x bs _ h; exact h
      | int k => intro cs x bs _ h; exact h
      | bool => intro cs x bs _ h; exact h
      | str => intro cs x bs _ h; exact h
      | arr n u _ =>
        intro cs x bs hi h
        have hf : u.flat = true := by simpa [hasImm] using hi
        exact ⟨TRel.flat (.arr n u) cs x hf h.1, h.2⟩
    exact go t _ x bs hi h.2
theorem ValRel.mono {A' : Nat → Prop} (hA : ∀ r, A r → A' r) {t : Ty} {own : Bool} {v : Value} {x : t.den} {bs : List Nat} (h : ValRel A w t own v x bs) : ValRel A' w t own v x bs := by
  refine ⟨h.1, ?_⟩
  cases own with
  | true => exact OwnT.mono hA (fun _ _ => rfl) t _ x bs (fun _ _ => rfl) h.2
  | false => exact ⟨TRel.mono hA (fun _ _ => rfl) t _ x h.2.1, h.2.2⟩
theorem ResRel.mono {A' : Nat → Prop} (hA : ∀ r, A r → A' r) (rs : List (Ty × Bool)) : ∀ (zs : List Value) (y : (resTy rs).den) (bs : List Nat), ResRel A w rs zs y bs → ResRel A' w rs zs y bs := by
  induction rs with
  | nil => intro zs y bs h; exact h
  | cons k rs ih =>
    obtain ⟨t, own⟩ := k
    intro zs y bs ⟨v, us, p, q, h1, h2, h3, h4⟩
    exact ⟨v, us, p, q, h1, h2, h3.mono hA, ih us y.2 q h4⟩
theorem OutRel.mono {A' : Nat → Prop} (hA : ∀ r, A r → A' r) (ps : List PK) (rs : List (Ty × Bool)) : ∀ (vs zs : List Value) (y : (outTy ps rs).den) (bs : List Nat), OutRel A w ps rs vs zs y bs → OutRel A' w ps rs vs zs y bs := by
  induction ps with
  | nil => intro vs zs y bs h; exact ResRel.mono hA rs zs y bs h
  | cons k ps ih =>
    intro vs zs y bs h
    cases k with
    | val t => exact ih vs.tail zs y bs h
    | fn f => exact ih vs.tail zs y bs h
    | eat t => exact ih vs.tail zs y bs h
    | clo f t =>
      obtain ⟨v, us, p, q, h1, h2, h3, h4⟩ := h
      exact ⟨v, us, p, q, h1, h2, h3.mono hA (fun _ _ => rfl) (fun _ _ => rfl), ih us zs y.2 q h4⟩
    | mu t =>
      obtain ⟨v, us, p, q, h1, h2, h3, h4⟩ := h
      exact ⟨v, us, p, q, h1, h2, h3.mono hA (fun _ _ => rfl) (fun _ _ => rfl), ih us zs y.2 q h4⟩
    | io t own =>
      obtain ⟨v, us, p, q, h1, h2, h3, h4⟩ := h
      exact ⟨v, us, p, q, h1, h2, h3.mono hA (fun _ _ => rfl) (fun _ _ => rfl), ih us zs y.2 q h4⟩
theorem ResRel.noImm {A' : Nat → Prop} (rs : List (Ty × Bool)) : ∀ (zs : List Value) (y : (resTy rs).den) (bs : List Nat), (rs.any fun r => hasImm r.1 r.2) = false → ResRel A' w rs zs y bs → ResRel A w rs zs y bs := by
  induction rs with
  | nil => intro zs y bs _ h; exact h
  | cons k rs ih =>
    obtain ⟨t, own⟩ := k
    intro zs y bs hi ⟨v, us, p, q, h1, h2, h3, h4⟩
    rw [List.any_cons, Bool.or_eq_false_iff] at hi
    exact ⟨v, us, p, q, h1, h2, h3.noImm hi.1, ih us y.2 q hi.2 h4⟩
theorem OutRel.noImm {A' : Nat → Prop} (ps : List PK) (rs : List (Ty × Bool)) (hrs : (rs.any fun r => hasImm r.1 r.2) = false) : ∀ (vs zs : List Value) (y : (outTy ps rs).den) (bs : List Nat), (ps.any fun p => match p with
    | .io t own => hasImm t own
    | .mu t => !t.flat
    | .eat t => !t.flat
    | .clo _ t => !t.flat
    | _ => false) = false → OutRel A' w ps rs vs zs y bs → OutRel A w ps rs vs zs y bs := by
  induction ps with
  | nil => intro vs zs y bs _ h; exact ResRel.noImm rs zs y bs hrs h
  | cons k ps ih =>
    intro vs zs y bs hi h
    rw [List.any_cons, Bool.or_eq_false_iff] at hi
    cases k with
    | val t => exact ih vs.tail zs y bs hi.2 h
    | fn f => exact ih vs.tail zs y bs hi.2 h
    | eat t => exact ih vs.tail zs y bs hi.2 h
    | clo f t =>
      obtain ⟨v, us, p, q, h1, h2, ⟨b, c, e, p', k1, k2, k3, k4⟩, h4⟩ := h
      have hf : t.flat = true := by simpa using hi.1
      exact ⟨v, us, p, q, h1, h2, ⟨b, c, e, p', k1, k2, k3, ⟨TRel.flat t _ _ hf k4.1, k4.2⟩⟩, ih us zs y.2 q hi.2 h4⟩
    | mu t =>
      obtain ⟨v, us, p, q, h1, h2, ⟨s, k1, ⟨k2, k3⟩, k4⟩, h4⟩ := h
      have hf : t.flat = true := by simpa using hi.1
      refine ⟨v, us, p, q, h1, h2, ⟨s, k1, ⟨k2, ?_⟩, k4⟩, ih us zs y.2 q hi.2 h4⟩
      cases hs : s.blk with
      | none => rw [hs] at k3; exact k3
      | some b => rw [hs] at k3; obtain ⟨m1, c, e, m2, m3, m4⟩ := k3; exact ⟨m1, c, e, m2, m3, m4.mono (fun c x => TRel.flat t c x hf)⟩
    | io t own =>
      obtain ⟨v, us, p, q, h1, h2, ⟨b, c, e, p', k1, k2, k3, k4⟩, h4⟩ := h
      have hv : ValRel A' w t own (ofCells t.agg c.toList) y.1 p' → ValRel A w t own (ofCells t.agg c.toList) y.1 p' := fun h => h.noImm hi.1
      refine ⟨v, us, p, q, h1, h2, ⟨b, c, e, p', k1, k2, k3, ?_⟩, ih us zs y.2 q hi.2 h4⟩
      have hcells : t.agg = true → (ofCells t.agg c.toList).cells.toList = c.toList := fun h => by rw [h]; rfl
      cases own with
      | false =>
        have hf : t.flat = true := by have := hi.1; simpa [hasImm] using this
        exact ⟨TRel.flat t _ _ hf k4.1, k4.2⟩
      | true =>
        cases ha : t.agg with
        | true =>
          have := hv ⟨by rw [ha]; rfl, by rw [hcells ha]; exact k4⟩
          have h5 := this.2
          rw [hcells ha] at h5; exact h5
        | false =>
          cases t with
          | slice u =>
            obtain ⟨s, v0, m1, m2, ⟨m3, m4⟩, m5⟩ := k4
            have hf : u.flat = true := by have := hi.1; simpa [hasImm] using this
            refine ⟨s, v0, m1, m2, ⟨m3, ?_⟩, m5⟩
            cases hs : s.blk with
            | none => rw [hs] at m4; exact m4
            | some b => rw [hs] at m4; obtain ⟨n1, c2, e2, n2, n3, n4⟩ := m4; exact ⟨n1, c2, e2, n2, n3, n4.mono (fun c x => TRel.flat u c x hf)⟩
          | int k => exact k4
          | bool => exact k4
          | str => exact k4
          | unit => cases ha
          | pair a b => cases ha
          | arr n u => cases ha
/-- A call under its contract. -/
theorem call_ok {P : Program} {gl : List (Nat × PV)} {f : FuncId} {F : Fun} (hG : GlOk gl A w) (hF : FnSpec P gl f F) {xs : List PV} {vs : List Value} {nw : Nat} {h h' : Hp} {x : PV} (H : HR g A W w h) (hW : ∀ r, w.heap.size ≤ r → W r) (hv : ListR g A w xs vs) (e : (callQ F xs nw).Ok h x h') :
    Calls P f vs.toArray w fun e w' => ∃ g' A' v, e = .returned v ∧ Step g A W w g' A' w' h' ∧ VRel g' A' w' x v := by
  simp only [callQ, Ok_bind, Q.Ok] at e
  obtain ⟨y, h1, e1, a, h2, e2, u, h3, e3, z, hz, l, h4, e4, rfl, rfl⟩ := e
  obtain ⟨A1, bs, G, hio⟩ := takeIO_ok F.sig.ps xs vs A h y h1 H hv e1
  have hs2 := takeV_same F.sig.ps xs h1 y a h2 e2
  subst hs2
  have hv1 : ListR g A1 w xs vs := hv.mono (Gh.le_refl g) G.le (fun _ _ => rfl)
  -- what the callee may read, and the heap that remains
  obtain ⟨A2, Ac, F3, hAA, hAc, hargs, hAcW⟩ : ∃ A2 Ac, Frz g A1 W w h2 A2 h3 ∧ (∀ r, A r → Ac r) ∧ (∀ r, Ac r → r < w.heap.size ∧ ¬ r ∈ bs) ∧ ArgsRel Ac w F.sig.ps vs a bs ∧ (F.sig.needs = true → ∀ r, Ac r → A2 r) := by
    rw [Ok_cond] at e3
    rcases e3 with ⟨hn, e3⟩ | ⟨hn, e3⟩
    · obtain ⟨A2, F3, r1⟩ := frzArgs_ok F.sig.ps xs vs A1 h2 h2 y a bs u h3 G.hr (fun _ _ _ fz e => ⟨fz, e⟩) (fun _ _ e => e) hv1 hio e2 e3
      exact ⟨A2, A2, F3, fun r hr => F3.le r (G.le r hr), fun r hr => ⟨F3.hr.lt r hr, fun hb => (G.out r hb).1 ((F3.free r (G.free r hb).1).2 hr)⟩, r1, fun _ r h => h⟩
    · rw [Ok_ret] at e3
      obtain ⟨_, rfl⟩ := e3
      refine ⟨A1, Rd g A1 h3, .refl G.hr, fun r hr => .inl (G.le r hr), fun r hr => ?_, takeV_ok F.sig.ps xs vs h3 y a h3 bs G.hr hv1 hio e2, fun h => by rw [hn] at h; cases h⟩
      rcases hr with hr | ⟨i, b, s, k1, k2, k3⟩
      · exact ⟨G.hr.lt r hr, fun hb => (G.out r hb).1 hr⟩
      · refine ⟨(G.hr.blk i b k1).lt k2 k3, fun hb => ?_⟩
        cases hl : b.live with
        | true => exact (G.free r hb).1 i b s k1 hl k2 k3
        | false =>
          cases b with
          | box x => cases hl
          | row t xs fz =>
            cases fz with
            | false => cases hl
            | true =>
              obtain ⟨s', m1, _, m3⟩ := G.hr.blk i _ k1
              rw [k2] at m1; injection m1 with m1; subst m1
              exact (G.out r hb).1 (m3 rfl r k3)
  refine (hF.calls w Ac vs a bs z (hG.mono hAA (fun _ _ => rfl)) hargs G.nodup (fun r hr => ⟨fun h => (hAc r h).2 hr, (G.out r hr).2.2⟩) (fun r hr => (hAc r hr).1) hz).mono fun e w' D => ?_
  obtain ⟨⟨zs, A', bs', rfl, o1, o2, o3, o4, o5⟩, K⟩ := D
  have hWc : ∀ r, (w.heap.size ≤ r ∨ r ∈ bs) → W r := fun r hr => hr.elim (hW r) (fun h => (G.out r h).2.1)
  have hsame : ∀ r, r < w.heap.size → ¬ r ∈ bs → w'.heap[r]? = w.heap[r]? := fun r hr hb => K.block r hr (fun h => h.elim (fun h => by omega) hb)
  -- blocks of the remaining heap are not the callee's
  have hlive : ∀ i b s r, h3.at i = some b → g i = some s → s.blk = some r → r < w.heap.size ∧ ¬ r ∈ bs := fun i b s r k1 k2 k3 => by
    refine ⟨(F3.hr.blk i b k1).lt k2 k3, fun hb => ?_⟩
    have hfr := F3.free r (G.free r hb).1
    cases hl : b.live with
    | true => exact hfr.1 i b s k1 hl k2 k3
    | false =>
      cases b with
      | box x => cases hl
      | row t xs fz =>
        cases fz with
        | false => cases hl
        | true =>
          obtain ⟨s', m1, _, m3⟩ := F3.hr.blk i _ k1
          rw [k2] at m1; injection m1 with m1; subst m1
          exact (G.out r hb).1 (hfr.2 (m3 rfl r k3))
  have hA2 : ∀ r, A2 r → r < w.heap.size ∧ ¬ r ∈ bs := fun r hr => ⟨F3.hr.lt r hr, fun hb => (G.out r hb).1 ((F3.free r (G.free r hb).1).2 hr)⟩
  have H3 : HR g A2 W w' h3 := F3.hr.move (fun r hr => hsame r (hA2 r hr).1 (hA2 r hr).2) (fun i b s r k1 k2 k3 => hsame r (hlive i b s r k1 k2 k3).1 (hlive i b s r k1 k2 k3).2) K.size
  have hfree : ∀ r, (w.heap.size ≤ r ∨ r ∈ bs) → Free g h3 r := fun r hr i b s k1 _ k2 k3 => by
    have := hlive i b s r k1 k2 k3
    exact hr.elim (fun h => by omega) this.2
  obtain ⟨A3, hA3, hA3in, H4, o1'⟩ : ∃ A3 : Nat → Prop, (∀ r, A2 r → A3 r) ∧ (∀ r, A3 r → A2 r ∨ (F.sig.needs = true ∧ A' r)) ∧ HR g A3 W w' h3 ∧ OutRel A3 w' F.sig.ps F.sig.rs vs zs z bs' := by
    cases hn : F.sig.needs with
    | true =>
      refine ⟨fun r => A2 r ∨ A' r, fun r h => .inl h, fun r h => h.imp id (fun h => ⟨rfl, h⟩), H3.more (fun r h => .inl h) (fun r hr => ?_) (fun r hr => ?_), OutRel.mono (fun r h => .inr h) F.sig.ps F.sig.rs vs zs z bs' o1⟩
      · rcases hr with hr | hr
        · exact .inr hr
        · rcases o4 r hr with h | h
          · exact .inr (hAcW hn r h)
          · exact .inl (hfree r h)
      · rcases hr with hr | hr
        · exact H3.lt r hr
        · exact o5 r hr
    | false =>
      have hn' : (F.sig.rs.any fun r => hasImm r.1 r.2) = false ∧ (F.sig.ps.any fun p => match p with
        | .io t own => hasImm t own
        | .mu t => !t.flat
        | .eat t => !t.flat
        | .clo _ t => !t.flat
        | _ => false) = false := by
        unfold Sig.needs at hn
        rw [Bool.or_eq_false_iff] at hn
        exact hn
      exact ⟨A2, fun _ h => h, fun _ h => .inl h, H3, OutRel.noImm F.sig.ps F.sig.rs hn'.1 vs zs z bs' hn'.2 o1⟩
  have hb' : ∀ r, r ∈ bs' → ¬ A3 r ∧ W r ∧ Free g h3 r := fun r hr => by
    obtain ⟨k1, k2, k3⟩ := o3 r hr
    refine ⟨fun h => ?_, hWc r k2, hfree r k2⟩
    rcases hA3in r h with h | h
    · have := hA2 r h
      exact k2.elim (fun h => by omega) this.2
    · exact k1 h.2
  have hv3 : ListR g A3 w' xs vs := hv.mono (Gh.le_refl g) (fun r h => hA3 r (F3.le r (G.le r h))) (fun r hr => hsame r (hA2 r (F3.le r (G.le r hr))).1 (hA2 r (F3.le r (G.le r hr))).2)
  obtain ⟨g', l', H5, hl⟩ := back_ok F.sig.ps F.sig.rs g h3 xs vs zs z bs' nw l h' H4 hv3 o1' o2 hb' e4
  refine ⟨g', A3, _, rfl, ⟨l', fun r h => hA3 r (F3.le r (G.le r h)), fun r h => ?_, H5, fun r hr => hsame r (hA2 r (F3.le r (G.le r hr))).1 (hA2 r (F3.le r (G.le r hr))).2, ⟨K.os, K.tape, K.output, K.size, fun r hr hn => hsame r hr (fun h => hn (G.out r h).2.1)⟩⟩, pack_rel hl⟩
  rcases hA3in r h with h | h
  · exact (F3.in' r h).elim (G.in' r) .inr
  · rcases o4 r h.2 with h' | h'
    · exact (F3.in' r (hAcW h.1 r h')).elim (G.in' r) .inr
    · exact .inr (hWc r h')
end
end Go.Proofs.YtkihjakbbcajbaaGreat.PM
