/- How values of the pure machine lie in the real one's memory; plain laws of that. -/
import Derived.Test.YtkihjakbbcajbaaGreatPM2
import Derived.Laws.IdiomCopy
namespace Go.Proofs.YtkihjakbbcajbaaGreat.PM
set_option linter.unusedSimpArgs false
set_option linter.unusedVariables false
open Go

/-- The cells from an address on. -/
def At (w : World) (a : Addr) (c : List Value) : Prop := ∀ j v, c[j]? = some v → w.cell? (a.add j) = some v
def Cat {α : Type} (P : List Value → α → Prop) : List Value → List α → Prop
  | cs, [] => cs = []
  | cs, x :: xs => ∃ c d, cs = c ++ d ∧ P c x ∧ Cat P d xs
def TRel (A : Nat → Prop) (w : World) : (t : Ty) → List Value → t.den → Prop
  | .int k, cs, x => cs = [.int k x]
  | .bool, cs, x => cs = [.bool x]
  | .str, cs, x => ∃ s : ByteArray, cs = [.string s] ∧ s.data.toList = x
  | .unit, cs, _ => cs = []
  | .pair a b, cs, x => ∃ c d, cs = c ++ d ∧ TRel A w a c x.1 ∧ TRel A w b d x.2
  | .arr n t, cs, x => List.length (α := t.den) x = n ∧ Cat (TRel A w t) cs x
  | .slice t, cs, x => ∃ a cap, cs = [.slice a (List.length (α := t.den) x) cap] ∧ List.length (α := t.den) x ≤ cap ∧
      (0 < List.length (α := t.den) x → ∃ ad : Addr, a = some ad ∧ ad.spot = none ∧ A ad.block ∧ ∃ c, At w ad c ∧ Cat (TRel A w t) c x)

theorem Cat.mono {α : Type} {P R : List Value → α → Prop} (h : ∀ c x, P c x → R c x) : ∀ {cs : List Value} {xs : List α}, Cat P cs xs → Cat R cs xs
  | _, [], e => e
  | _, _ :: _, ⟨c, d, e, p, r⟩ => ⟨c, d, e, h c _ p, r.mono h⟩
theorem Cat.len {α : Type} {P : List Value → α → Prop} {s : Nat} (h : ∀ c x, P c x → c.length = s) : ∀ {cs : List Value} {xs : List α}, Cat P cs xs → cs.length = xs.length * s
  | _, [], e => by cases e; simp
  | _, _ :: _, ⟨c, d, e, p, r⟩ => by
    have := r.len h; have := h c _ p; subst e
    simp only [List.length_append, List.length_cons, Nat.succ_mul]; omega
theorem Cat.append {α : Type} {P : List Value → α → Prop} : ∀ {cs ds : List Value} {xs ys : List α}, Cat P cs xs → Cat P ds ys → Cat P (cs ++ ds) (xs ++ ys)
  | _, _, [], _, e, r => by cases e; exact r
  | _, _, _ :: _, _, ⟨c, d, e, p, q⟩, r => ⟨c, _, by rw [e, List.append_assoc], p, q.append r⟩
theorem Cat.split {α : Type} {P : List Value → α → Prop} {s : Nat} (h : ∀ c x, P c x → c.length = s) : ∀ {cs : List Value} {xs ys : List α}, Cat P cs (xs ++ ys) →
    Cat P (cs.take (xs.length * s)) xs ∧ Cat P (cs.drop (xs.length * s)) ys
  | cs, [], ys, e => by simpa [Cat] using e
  | _, x :: xs, ys, ⟨c, d, e, p, q⟩ => by
    obtain ⟨i1, i2⟩ := Cat.split h q
    have hc := h c x p
    subst e
    have e1 : (x :: xs).length * s = c.length + xs.length * s := by rw [hc]; simp only [List.length_cons, Nat.succ_mul]; omega
    rw [e1, List.take_length_add_append, List.drop_length_add_append]
    exact ⟨⟨c, _, rfl, p, i1⟩, i2⟩
theorem Cat.take {α : Type} {P : List Value → α → Prop} {s : Nat} (h : ∀ c x, P c x → c.length = s) {cs : List Value} {xs : List α} (r : Cat P cs xs) (n : Nat) (hn : n ≤ xs.length) : Cat P (cs.take (n * s)) (xs.take n) := by
  have r' : Cat P cs (xs.take n ++ xs.drop n) := by rwa [List.take_append_drop]
  have := (Cat.split h r').1
  rwa [List.length_take, Nat.min_eq_left hn] at this
theorem Cat.drop {α : Type} {P : List Value → α → Prop} {s : Nat} (h : ∀ c x, P c x → c.length = s) {cs : List Value} {xs : List α} (r : Cat P cs xs) (n : Nat) (hn : n ≤ xs.length) : Cat P (cs.drop (n * s)) (xs.drop n) := by
  have r' : Cat P cs (xs.take n ++ xs.drop n) := by rwa [List.take_append_drop]
  have := (Cat.split h r').2
  rwa [List.length_take, Nat.min_eq_left hn] at this
theorem Cat.nth {α : Type} {P : List Value → α → Prop} {s : Nat} (h : ∀ c x, P c x → c.length = s) {cs : List Value} {xs : List α} (r : Cat P cs xs) {i : Nat} (hi : i < xs.length) : P ((cs.drop (i * s)).take s) xs[i] := by
  have := Cat.drop h r i (by omega)
  rw [List.drop_eq_getElem_cons hi] at this
  obtain ⟨c, d, e, p, _⟩ := this
  rw [e, ← h c _ p, List.take_left]
  exact p
theorem Cat.one {α : Type} {P : List Value → α → Prop} {c : List Value} {x : α} (h : P c x) : Cat P c [x] := ⟨c, [], by simp, h, rfl⟩
theorem Cat.replicate {α : Type} {P : List Value → α → Prop} {c : List Value} {x : α} (h : P c x) : ∀ n : Nat, Cat P (List.replicate n c).flatten (List.replicate n x)
  | 0 => rfl
  | n + 1 => ⟨c, (List.replicate n c).flatten, by rw [List.replicate_succ, List.flatten_cons], h, Cat.replicate h n⟩

theorem TRel.len {A : Nat → Prop} {w : World} : ∀ (t : Ty) (cs : List Value) (x : t.den), TRel A w t cs x → cs.length = t.size
  | .int _, _, _, e => by cases e; rfl
  | .bool, _, _, e => by cases e; rfl
  | .str, _, _, ⟨_, e, _⟩ => by cases e; rfl
  | .unit, _, _, e => by cases e; rfl
  | .pair a b, _, x, ⟨c, d, e, h1, h2⟩ => by
    subst e; rw [List.length_append, TRel.len a c x.1 h1, TRel.len b d x.2 h2]; rfl
  | .arr n t, _, x, ⟨h1, h2⟩ => by
    rw [Cat.len (TRel.len t) h2, h1]; rfl
  | .slice t, _, _, ⟨_, _, e, _⟩ => by cases e; rfl
theorem At.mono {w w' : World} {a : Addr} {c : List Value} (h : w'.heap[a.block]? = w.heap[a.block]?) (r : At w a c) : At w' a c := fun j v e => by
  have := r j v e
  rw [← this]
  have hb : (a.add j).block = a.block := by unfold Addr.add; split <;> rfl
  unfold World.cell?
  rw [hb, h]
theorem TRel.mono {A A' : Nat → Prop} {w w' : World} (hA : ∀ r, A r → A' r) (hw : ∀ r, A r → w'.heap[r]? = w.heap[r]?) :
    ∀ (t : Ty) (cs : List Value) (x : t.den), TRel A w t cs x → TRel A' w' t cs x
  | .int _, _, _, e => e
  | .bool, _, _, e => e
  | .str, _, _, e => e
  | .unit, _, _, e => e
  | .pair a b, _, x, ⟨c, d, e, h1, h2⟩ => ⟨c, d, e, TRel.mono hA hw a c x.1 h1, TRel.mono hA hw b d x.2 h2⟩
  | .arr n t, _, x, ⟨h1, h2⟩ => ⟨h1, h2.mono (TRel.mono hA hw t)⟩
  | .slice t, _, _, ⟨a, cap, e, h1, h2⟩ => ⟨a, cap, e, h1, fun hl => by
      obtain ⟨ad, e1, e2, e3, c, e4, e5⟩ := h2 hl
      exact ⟨ad, e1, e2, hA _ e3, c, e4.mono (hw _ e3), e5.mono (TRel.mono hA hw t)⟩⟩
/-- Without slices nothing is asked of memory. -/
theorem TRel.flat {A A' : Nat → Prop} {w w' : World} : ∀ (t : Ty) (cs : List Value) (x : t.den), t.flat = true → TRel A w t cs x → TRel A' w' t cs x
  | .int _, _, _, _, e => e
  | .bool, _, _, _, e => e
  | .str, _, _, _, e => e
  | .unit, _, _, _, e => e
  | .pair a b, _, x, hf, ⟨c, d, e, h1, h2⟩ => by
    have hf' : a.flat = true ∧ b.flat = true := by simpa [Ty.flat] using hf
    exact ⟨c, d, e, TRel.flat a c x.1 hf'.1 h1, TRel.flat b d x.2 hf'.2 h2⟩
  | .arr n t, _, x, hf, ⟨h1, h2⟩ => ⟨h1, h2.mono (fun c x => TRel.flat t c x hf)⟩
theorem Cat.all {α : Type} {P : List Value → α → Prop} {C : Value → Prop} (h : ∀ c x, P c x → ∀ v ∈ c, C v) : ∀ {cs : List Value} {xs : List α}, Cat P cs xs → ∀ v ∈ cs, C v
  | _, [], e => by cases e; simp
  | _, _ :: _, ⟨c, d, e, p, r⟩ => by
    intro v hv; rw [e] at hv
    rcases List.mem_append.1 hv with hv | hv
    · exact h c _ p v hv
    · exact r.all h v hv
theorem TRel.one {A : Nat → Prop} {w : World} : ∀ (t : Ty) (cs : List Value) (x : t.den), TRel A w t cs x → ∀ v ∈ cs, v.oneCell' = true
  | .int _, _, _, e => by cases e; simp [Value.oneCell']
  | .bool, _, _, e => by cases e; simp [Value.oneCell']
  | .str, _, _, ⟨_, e, _⟩ => by cases e; simp [Value.oneCell']
  | .unit, _, _, e => by cases e; simp
  | .pair a b, _, x, ⟨c, d, e, h1, h2⟩ => by
    intro v hv; rw [e] at hv
    rcases List.mem_append.1 hv with hv | hv
    · exact TRel.one a c x.1 h1 v hv
    · exact TRel.one b d x.2 h2 v hv
  | .arr n t, _, x, ⟨_, h2⟩ => h2.all (TRel.one t)
  | .slice t, _, _, ⟨_, _, e, _⟩ => by cases e; simp [Value.oneCell']

/- where a block of the pure machine lies -/
structure Slot where
  blk : Option Nat
  cap : Nat
  len : Nat
abbrev Gh := Nat → Option Slot
def aggP : PV → Bool
  | .agg _ => true
  | .v t _ => t.agg
  | _ => false
def pok (len : Nat) : List Stp → Prop
  | [] => True
  | .fld _ _ :: p => pok len p
  | .idx i _ n :: p => i < n ∧ pok len p
  | .elt i _ :: p => i < len ∧ pok len p
def SlV (s : Slot) (v : Value) : Prop := match s.blk with
  | some b => v = .slice (some ⟨b, 0, none⟩) s.len s.cap
  | none => v = .slice none 0 0 ∧ s.len = 0 ∧ s.cap = 0
def SvV (s : Slot) (p : List Stp) (off len sz n : Nat) (v : Value) : Prop :=
  pok s.len p ∧ off + len ≤ (if n = 0 then s.len else n) ∧ (n = 0 → p = []) ∧ (s.blk = none → s.len = 0 ∧ s.cap = 0 ∧ n = 0) ∧ ∃ a cap, v = .slice a len cap ∧ len ≤ cap ∧ (n = 0 ∧ off = 0 → cap = s.cap) ∧
    ((0 < len ∨ off = 0) → a = s.blk.map fun b => ⟨b, poff p + off * sz, none⟩)
section
variable (g : Gh) (A : Nat → Prop) (w : World)
mutual
def PV.rel : PV → List Value → Prop
  | .v t x, cs => TRel A w t cs x
  | .agg xs, cs => rels xs cs
  | .sl i, cs => ∃ s v, g i = some s ∧ cs = [v] ∧ SlV s v
  | .sv i p off len sz n, cs => ∃ s v, g i = some s ∧ cs = [v] ∧ SvV s p off len sz n v
  | .ptr i p, cs => ∃ s b, g i = some s ∧ s.blk = some b ∧ cs = [.pointer (some ⟨b, poff p, none⟩)] ∧ pok s.len p
  | .iptr t x, cs => ∃ a c, cs = [.pointer (some a)] ∧ a.spot = none ∧ A a.block ∧ At w a c ∧ TRel A w t c x
  | .nils, cs => cs = [.slice none 0 0]
  | .fn f caps, cs => ∃ vs, cs = [.func (.func f) #[] vs] ∧ rels caps vs.toList
  | .tup xs, cs => ∃ vs, cs = [.tuple vs] ∧ tups xs vs.toList
  | .undef, cs => cs = [Go.undef]
def rels : List PV → List Value → Prop
  | [], cs => cs = []
  | x :: xs, cs => ∃ c d, cs = c ++ d ∧ x.rel c ∧ rels xs d
def tups : List PV → List Value → Prop
  | [], vs => vs = []
  | x :: xs, vs => ∃ v r, vs = v :: r ∧ (match aggP x with
      | true => ∃ cs, v = .agg cs ∧ x.rel cs.toList
      | false => x.rel [v]) ∧ tups xs r
end
def VRel (x : PV) (v : Value) : Prop := match aggP x with
  | true => ∃ cs, v = .agg cs ∧ x.rel g A w cs.toList
  | false => x.rel g A w [v]
end
def Gh.le (g g' : Gh) : Prop := ∀ i s, g i = some s → g' i = some s
section
variable {g g' : Gh} {A A' : Nat → Prop} {w w' : World}
mutual
theorem PV.rel_mono (hg : g.le g') (hA : ∀ r, A r → A' r) (hw : ∀ r, A r → w'.heap[r]? = w.heap[r]?) : ∀ (x : PV) (cs : List Value), x.rel g A w cs → x.rel g' A' w' cs
  | .v t x, cs, h => by unfold PV.rel at *; exact TRel.mono hA hw t cs x h
  | .agg xs, cs, h => by unfold PV.rel at *; exact rels_mono hg hA hw xs cs h
  | .sl i, cs, h => by unfold PV.rel at *; obtain ⟨s, v, h1, h2⟩ := h; exact ⟨s, v, hg _ _ h1, h2⟩
  | .sv i p off len sz n, cs, h => by unfold PV.rel at *; obtain ⟨s, v, h1, h2⟩ := h; exact ⟨s, v, hg _ _ h1, h2⟩
  | .ptr i p, cs, h => by unfold PV.rel at *; obtain ⟨s, b, h1, h2⟩ := h; exact ⟨s, b, hg _ _ h1, h2⟩
  | .iptr t x, cs, h => by
    unfold PV.rel at *; obtain ⟨a, c, h1, h2, h3, h4, h5⟩ := h
    exact ⟨a, c, h1, h2, hA _ h3, h4.mono (hw _ h3), TRel.mono hA hw t c x h5⟩
  | .nils, cs, h => by unfold PV.rel at *; exact h
  | .fn f caps, cs, h => by unfold PV.rel at *; obtain ⟨vs, h1, h2⟩ := h; exact ⟨vs, h1, rels_mono hg hA hw caps vs.toList h2⟩
  | .tup xs, cs, h => by unfold PV.rel at *; obtain ⟨vs, h1, h2⟩ := h; exact ⟨vs, h1, tups_mono hg hA hw xs vs.toList h2⟩
  | .undef, cs, h => by unfold PV.rel at *; exact h
theorem rels_mono (hg : g.le g') (hA : ∀ r, A r → A' r) (hw : ∀ r, A r → w'.heap[r]? = w.heap[r]?) : ∀ (xs : List PV) (cs : List Value), rels g A w xs cs → rels g' A' w' xs cs
  | [], cs, h => by unfold rels at *; exact h
  | x :: xs, cs, h => by
    unfold rels at *; obtain ⟨c, d, h1, h2, h3⟩ := h
    exact ⟨c, d, h1, PV.rel_mono hg hA hw x c h2, rels_mono hg hA hw xs d h3⟩
theorem tups_mono (hg : g.le g') (hA : ∀ r, A r → A' r) (hw : ∀ r, A r → w'.heap[r]? = w.heap[r]?) : ∀ (xs : List PV) (cs : List Value), tups g A w xs cs → tups g' A' w' xs cs
  | [], cs, h => by unfold tups at *; exact h
  | x :: xs, cs, h => by
    unfold tups at *; obtain ⟨v, r, h1, h2, h3⟩ := h
    refine ⟨v, r, h1, ?_, tups_mono hg hA hw xs r h3⟩
    cases hx : aggP x with
    | true => rw [hx] at h2; obtain ⟨cs, e, h2⟩ := h2; exact ⟨cs, e, PV.rel_mono hg hA hw x _ h2⟩
    | false => rw [hx] at h2; exact PV.rel_mono hg hA hw x _ h2
end
theorem VRel.mono (hg : g.le g') (hA : ∀ r, A r → A' r) (hw : ∀ r, A r → w'.heap[r]? = w.heap[r]?) {x : PV} {v : Value} (h : VRel g A w x v) : VRel g' A' w' x v := by
  unfold VRel at *
  cases hx : aggP x with
  | true => rw [hx] at h; obtain ⟨cs, e, h2⟩ := h; exact ⟨cs, e, PV.rel_mono hg hA hw x _ h2⟩
  | false => rw [hx] at h; exact PV.rel_mono hg hA hw x _ h
mutual
theorem PV.rel_len : ∀ (x : PV) (cs : List Value), x.rel g A w cs → cs.length = x.size
  | .v t x, cs, h => by unfold PV.rel at h; unfold PV.size; exact TRel.len t cs x h
  | .agg xs, cs, h => by unfold PV.rel at h; unfold PV.size; exact rels_len xs cs h
  | .sl i, cs, h => by unfold PV.rel at h; obtain ⟨s, v, _, rfl, _⟩ := h; rfl
  | .sv i p off len sz n, cs, h => by unfold PV.rel at h; obtain ⟨s, v, _, rfl, _⟩ := h; rfl
  | .ptr i p, cs, h => by unfold PV.rel at h; obtain ⟨s, b, _, _, rfl, _⟩ := h; rfl
  | .iptr t x, cs, h => by unfold PV.rel at h; obtain ⟨a, c, rfl, _⟩ := h; rfl
  | .nils, cs, h => by unfold PV.rel at h; cases h; rfl
  | .fn f caps, cs, h => by unfold PV.rel at h; obtain ⟨vs, rfl, _⟩ := h; rfl
  | .tup xs, cs, h => by unfold PV.rel at h; obtain ⟨vs, rfl, _⟩ := h; rfl
  | .undef, cs, h => by unfold PV.rel at h; cases h; rfl
theorem rels_len : ∀ (xs : List PV) (cs : List Value), rels g A w xs cs → cs.length = sizes xs
  | [], cs, h => by unfold rels at h; cases h; rfl
  | x :: xs, cs, h => by
    unfold rels at h; obtain ⟨c, d, rfl, h2, h3⟩ := h
    rw [List.length_append, PV.rel_len x c h2, rels_len xs d h3]; rfl
end
mutual
/-- A typed value, laid open. -/
theorem mk_rel : ∀ (t : Ty) (x : t.den) (cs : List Value), TRel A w t cs x → (mk t x).rel g A w cs
  | .pair a b, x, cs, h => by
    obtain ⟨c, d, e, h1, h2⟩ := h
    unfold mk PV.rel rels
    exact ⟨c, d, e, mk_rel a x.1 c h1, mks_rel b x.2 d h2⟩
  | .unit, _, cs, h => by unfold mk PV.rel rels; exact h
  | .int _, _, _, h => by unfold mk PV.rel; exact h
  | .bool, _, _, h => by unfold mk PV.rel; exact h
  | .str, _, _, h => by unfold mk PV.rel; exact h
  | .arr _ _, _, _, h => by unfold mk PV.rel; exact h
  | .slice _, _, _, h => by unfold mk PV.rel; exact h
theorem mks_rel : ∀ (t : Ty) (x : t.den) (cs : List Value), TRel A w t cs x → rels g A w (mks t x) cs
  | .pair a b, x, cs, h => by
    obtain ⟨c, d, e, h1, h2⟩ := h
    unfold mks rels
    exact ⟨c, d, e, mk_rel a x.1 c h1, mks_rel b x.2 d h2⟩
  | .unit, _, cs, h => by unfold mks rels; exact h
  | .int k, x, cs, h => by unfold mks rels PV.rel; exact ⟨cs, [], by simp, h, by unfold rels; rfl⟩
  | .bool, x, cs, h => by unfold mks rels PV.rel; exact ⟨cs, [], by simp, h, by unfold rels; rfl⟩
  | .str, x, cs, h => by unfold mks rels PV.rel; exact ⟨cs, [], by simp, h, by unfold rels; rfl⟩
  | .arr n t, x, cs, h => by unfold mks rels PV.rel; exact ⟨cs, [], by simp, h, by unfold rels; rfl⟩
  | .slice t, x, cs, h => by unfold mks rels PV.rel; exact ⟨cs, [], by simp, h, by unfold rels; rfl⟩
end
theorem isAgg_mk : ∀ (t : Ty) (x : t.den), aggP (mk t x) = t.agg
  | .pair a b, x => by unfold mk; rfl
  | .unit, _ => by unfold mk; rfl
  | .int _, _ => by unfold mk; rfl
  | .bool, _ => by unfold mk; rfl
  | .str, _ => by unfold mk; rfl
  | .arr _ _, _ => by unfold mk; rfl
  | .slice _, _ => by unfold mk; rfl
theorem cast_some {t u : Ty} {x : t.den} {y : u.den} (h : castT t u x = some y) : ∃ e : t = u, e ▸ x = y := by
  unfold castT at h
  split at h
  · rename_i e; exact ⟨e, by injection h⟩
  · cases h
theorem cast_self {t : Ty} {x y : t.den} (h : castT t t x = some y) : x = y := by
  obtain ⟨_, e⟩ := cast_some h
  exact e
/-- A part of a value at a path lies where the path says. -/
theorem getF_rel : ∀ (xs : List PV) (i o : Nat) (cs : List Value) (x : PV), rels g A w xs cs → getF xs i o = some x → ∃ pre ys post, cs = pre ++ ys ++ post ∧ pre.length = o ∧ x.rel g A w ys ∧ xs[i]? = some x
  | [], _, _, _, _, _, e => by simp [getF] at e
  | x :: xs, 0, o, cs, y, h, e => by
    unfold rels at h; obtain ⟨c, d, rfl, h2, h3⟩ := h
    unfold getF at e
    cases ho : Nat.beq o 0 with
    | false => rw [ho] at e; cases e
    | true =>
      rw [ho] at e
      have : o = 0 := Nat.eq_of_beq_eq_true ho
      subst this
      injection e with e; subst e
      exact ⟨[], c, d, by simp, rfl, h2, rfl⟩
  | x :: xs, i + 1, o, cs, y, h, e => by
    unfold rels at h; obtain ⟨c, d, rfl, h2, h3⟩ := h
    unfold getF at e
    cases ho : Nat.ble x.size o with
    | false => rw [ho] at e; cases e
    | true =>
      rw [ho] at e
      have hle : x.size ≤ o := Nat.le_of_ble_eq_true ho
      obtain ⟨pre, ys, post, e1, e2, e3, e4⟩ := getF_rel xs i (o - x.size) d y h3 e
      have hl := PV.rel_len x c h2
      exact ⟨c ++ pre, ys, post, by rw [e1]; simp [List.append_assoc], by rw [List.length_append]; omega, e3, by simpa using e4⟩
theorem getD_eq {α : Type} (xs : List α) (i : Nat) (d : α) (h : i < xs.length) : xs.getD i d = xs[i] := by simp [List.getD, h]
theorem cut3 {α : Type} (cs : List α) (k s : Nat) : cs = cs.take k ++ (cs.drop k).take s ++ cs.drop (k + s) := by
  rw [List.append_assoc, ← List.drop_drop, List.take_append_drop, List.take_append_drop]
theorem getP_rel {L : Nat} : ∀ (p : List Stp) (x y : PV) (cs : List Value), x.rel g A w cs → pok L p → getP p x = some y → ∃ pre ys post, cs = pre ++ ys ++ post ∧ pre.length = poff p ∧ y.rel g A w ys
  | [], x, y, cs, h, _, e => by
    unfold getP at e; injection e with e; subst e
    exact ⟨[], cs, [], by simp, rfl, h⟩
  | .fld i o :: p, x, y, cs, h, hp, e => by
    obtain ⟨xs, rfl⟩ : ∃ xs, x = .agg xs := by
      cases x with
      | agg xs => exact ⟨xs, rfl⟩
      | _ => simp [getP] at e
    simp only [getP] at e
    rw [Option.bind_eq_some_iff] at e
    obtain ⟨z, e1, e2⟩ := e
    unfold PV.rel at h
    obtain ⟨pre, ys, post, q1, q2, q3, _⟩ := getF_rel xs i o cs z h e1
    obtain ⟨pre', ys', post', r1, r2, r3⟩ := getP_rel p z y ys q3 hp e2
    exact ⟨pre ++ pre', ys', post' ++ post, by rw [q1, r1]; simp [List.append_assoc], by rw [List.length_append, q2, r2]; rfl, r3⟩
  | .idx i s n :: p, x, y, cs, h, hp, e => by
    obtain ⟨m, t, xs, rfl⟩ : ∃ m t, ∃ xs : (Ty.arr m t).den, x = .v (.arr m t) xs := by
      cases x with
      | v t xs =>
        cases t with
        | arr m t => exact ⟨m, t, xs, rfl⟩
        | _ => simp [getP] at e
      | _ => simp [getP] at e
    simp only [getP] at e
    cases hc : (Nat.beq m n && Nat.beq s t.size) with
    | false => rw [hc] at e; cases e
    | true =>
      rw [hc] at e
      rw [Bool.and_eq_true] at hc
      have h1 : m = n := Nat.eq_of_beq_eq_true hc.1
      have h2 : s = t.size := Nat.eq_of_beq_eq_true hc.2
      unfold PV.rel at h
      obtain ⟨hl, hcat⟩ := h
      have hi : i < List.length (α := t.den) xs := by rw [hl, h1]; exact hp.1
      have hn := Cat.nth (TRel.len t) hcat hi
      have e' : getP p (mk t (List.getD (α := t.den) xs i t.zero)) = some y := e
      rw [getD_eq (α := t.den) xs i _ hi] at e'
      obtain ⟨pre', ys', post', r1, r2, r3⟩ := getP_rel p _ y _ (mk_rel t _ _ hn) hp.2 e'
      have hcl := Cat.len (TRel.len t) hcat
      refine ⟨cs.take (i * t.size) ++ pre', ys', post' ++ cs.drop (i * t.size + t.size), ?_, ?_, r3⟩
      · have := cut3 cs (i * t.size) t.size
        rw [r1] at this
        simpa only [List.append_assoc] using this
      · rw [List.length_append, r2, List.length_take, Nat.min_eq_left (by
          rw [hcl]; exact Nat.mul_le_mul_right _ (by omega))]
        subst h2; rfl
  | .elt i s :: p, x, y, cs, h, hp, e => by
    cases x <;> simp [getP] at e
mutual
theorem flatV_rel : ∀ (t : Ty) (x : PV) (y : t.den) (cs : List Value), x.rel g A w cs → flatV t x = some y → TRel A w t cs y
  | .pair a b, x, y, cs, h, e => by
    cases x with
    | agg xs =>
      cases xs with
      | nil => simp [flatV] at e
      | cons x xs =>
        simp only [flatV, Option.bind_eq_some_iff] at e
        obtain ⟨p, e1, q, e2, e3⟩ := e
        injection e3 with e3; subst e3
        unfold PV.rel rels at h
        obtain ⟨c, d, rfl, h1, h2⟩ := h
        exact ⟨c, d, rfl, flatV_rel a x p c h1 e1, flatVs_rel b xs q d h2 e2⟩
    | v u z =>
      simp only [flatV] at e
      obtain ⟨rfl, rfl⟩ := cast_some e
      unfold PV.rel at h; exact h
    | _ => simp [flatV] at e
  | .unit, x, y, cs, h, e => by
    cases x with
    | agg xs =>
      cases xs with
      | nil => unfold PV.rel rels at h; exact h
      | cons x xs => simp [flatV] at e
    | v u z =>
      simp only [flatV] at e
      obtain ⟨rfl, rfl⟩ := cast_some e
      unfold PV.rel at h; exact h
    | _ => simp [flatV] at e
  | .int k, x, y, cs, h, e => by
    cases x with
    | v u z => simp only [flatV] at e; obtain ⟨rfl, rfl⟩ := cast_some e; unfold PV.rel at h; exact h
    | _ => simp [flatV] at e
  | .bool, x, y, cs, h, e => by
    cases x with
    | v u z => simp only [flatV] at e; obtain ⟨rfl, rfl⟩ := cast_some e; unfold PV.rel at h; exact h
    | _ => simp [flatV] at e
  | .str, x, y, cs, h, e => by
    cases x with
    | v u z => simp only [flatV] at e; obtain ⟨rfl, rfl⟩ := cast_some e; unfold PV.rel at h; exact h
    | _ => simp [flatV] at e
  | .arr n t, x, y, cs, h, e => by
    cases x with
    | v u z => simp only [flatV] at e; obtain ⟨rfl, rfl⟩ := cast_some e; unfold PV.rel at h; exact h
    | _ => simp [flatV] at e
  | .slice t, x, y, cs, h, e => by
    cases x with
    | v u z => simp only [flatV] at e; obtain ⟨rfl, rfl⟩ := cast_some e; unfold PV.rel at h; exact h
    | _ => simp [flatV] at e
theorem flatVs_rel : ∀ (t : Ty) (xs : List PV) (y : t.den) (cs : List Value), rels g A w xs cs → flatVs t xs = some y → TRel A w t cs y
  | .pair a b, xs, y, cs, h, e => by
    cases xs with
    | nil => simp [flatVs] at e
    | cons x xs =>
      simp only [flatVs, Option.bind_eq_some_iff] at e
      obtain ⟨p, e1, q, e2, e3⟩ := e
      injection e3 with e3; subst e3
      unfold rels at h
      obtain ⟨c, d, rfl, h1, h2⟩ := h
      exact ⟨c, d, rfl, flatV_rel a x p c h1 e1, flatVs_rel b xs q d h2 e2⟩
  | .unit, xs, y, cs, h, e => by
    cases xs with
    | nil => unfold rels at h; exact h
    | cons x xs => simp [flatVs] at e
  | .int _, _, _, _, _, e => by simp [flatVs] at e
  | .bool, _, _, _, _, e => by simp [flatVs] at e
  | .str, _, _, _, _, e => by simp [flatVs] at e
  | .arr _ _, _, _, _, _, e => by simp [flatVs] at e
  | .slice _, _, _, _, _, e => by simp [flatVs] at e
end
theorem setI_rel : ∀ (xs : List PV) (i o : Nat) (cs : List Value) (x z : PV) (zs : List Value), rels g A w xs cs → getF xs i o = some x → z.rel g A w zs → zs.length = x.size →
    ∃ pre ys post, cs = pre ++ ys ++ post ∧ pre.length = o ∧ x.rel g A w ys ∧ rels g A w (setI xs i z) (pre ++ zs ++ post)
  | [], _, _, _, _, _, _, _, e, _, _ => by simp [getF] at e
  | x :: xs, 0, o, cs, y, z, zs, h, e, hz, hl => by
    unfold rels at h; obtain ⟨c, d, rfl, h2, h3⟩ := h
    unfold getF at e
    cases ho : Nat.beq o 0 with
    | false => rw [ho] at e; cases e
    | true =>
      rw [ho] at e
      have : o = 0 := Nat.eq_of_beq_eq_true ho
      subst this
      injection e with e; subst e
      exact ⟨[], c, d, by simp, rfl, h2, by unfold setI rels; exact ⟨zs, d, by simp, hz, h3⟩⟩
  | x :: xs, i + 1, o, cs, y, z, zs, h, e, hz, hl => by
    unfold rels at h; obtain ⟨c, d, rfl, h2, h3⟩ := h
    unfold getF at e
    cases ho : Nat.ble x.size o with
    | false => rw [ho] at e; cases e
    | true =>
      rw [ho] at e
      have hle : x.size ≤ o := Nat.le_of_ble_eq_true ho
      obtain ⟨pre, ys, post, e1, e2, e3, e4⟩ := setI_rel xs i (o - x.size) d y z zs h3 e hz hl
      have hl := PV.rel_len x c h2
      exact ⟨c ++ pre, ys, post, by rw [e1]; simp [List.append_assoc], by rw [List.length_append]; omega, e3, by
        unfold setI rels; exact ⟨c, _, by simp [List.append_assoc], h2, e4⟩⟩
theorem Cat.set {α : Type} {P : List Value → α → Prop} {s : Nat} (h : ∀ c x, P c x → c.length = s) {cs : List Value} {xs : List α} (r : Cat P cs xs) {i : Nat} (hi : i < xs.length) {c : List Value} {x : α} (hx : P c x) :
    Cat P (cs.take (i * s) ++ c ++ cs.drop (i * s + s)) (xs.set i x) := by
  have h1 := Cat.take h r i (by omega)
  have h2 := Cat.drop h r (i + 1) (by omega)
  rw [Nat.succ_mul] at h2
  rw [List.set_eq_take_append_cons_drop, if_pos hi]
  have := (h1.append (Cat.one hx)).append h2
  simpa using this
theorem setP_rel {L : Nat} : ∀ (p : List Stp) (x y z x' : PV) (cs zs : List Value), x.rel g A w cs → pok L p → getP p x = some y → setP p x z = some x' → z.rel g A w zs → zs.length = y.size →
    ∃ pre ys post, cs = pre ++ ys ++ post ∧ pre.length = poff p ∧ ys.length = zs.length ∧ x'.rel g A w (pre ++ zs ++ post)
  | [], x, y, z, x', cs, zs, h, _, e, e', hz, hl => by
    unfold getP at e; injection e with e; subst e
    unfold setP at e'; injection e' with e'; subst e'
    exact ⟨[], cs, [], by simp, rfl, by rw [hl, PV.rel_len x cs h], by simpa using hz⟩
  | .fld i o :: p, x, y, z, x', cs, zs, h, hp, e, e', hz, hl => by
    obtain ⟨xs, rfl⟩ : ∃ xs, x = .agg xs := by
      cases x with
      | agg xs => exact ⟨xs, rfl⟩
      | _ => simp [getP] at e
    simp only [getP] at e
    rw [Option.bind_eq_some_iff] at e
    obtain ⟨u, e1, e2⟩ := e
    simp only [setP, Option.bind_eq_some_iff] at e'
    obtain ⟨u', f1, u2, f2, f3⟩ := e'
    injection f3 with f3; subst f3
    unfold PV.rel at h
    obtain ⟨pre0, ys0, post0, q1, q2, q3, q4⟩ := getF_rel xs i o cs u h e1
    rw [q4] at f1; injection f1 with f1; subst f1
    obtain ⟨pre', ys', post', r1, r2, r3, r4⟩ := setP_rel p u y z u2 ys0 zs q3 hp e2 f2 hz hl
    have hlen : (pre' ++ zs ++ post').length = u.size := by
      have := PV.rel_len u ys0 q3
      rw [r1] at this
      simp only [List.length_append] at this ⊢
      omega
    obtain ⟨pre, ys, post, s1, s2, s3, s4⟩ := setI_rel xs i o cs u u2 _ h e1 r4 hlen
    have hpre : pre = pre0 := by
      have : cs.take o = pre := by rw [s1, List.append_assoc, ← s2, List.take_left]
      have : cs.take o = pre0 := by rw [q1, List.append_assoc, ← q2, List.take_left]
      simp_all
    subst hpre
    have hys : ys ++ post = ys0 ++ post0 := by
      have := s1.symm.trans q1
      simpa [List.append_assoc] using this
    have hl1 : ys.length = ys0.length := by rw [PV.rel_len u ys s3, PV.rel_len u ys0 q3]
    obtain ⟨rfl, rfl⟩ := List.append_inj hys hl1
    refine ⟨pre ++ pre', ys', post' ++ post, by rw [s1, r1]; simp [List.append_assoc], by rw [List.length_append, s2, r2]; rfl, r3, ?_⟩
    unfold PV.rel
    simpa only [List.append_assoc] using s4
  | .idx i s n :: p, x, y, z, x', cs, zs, h, hp, e, e', hz, hl => by
    obtain ⟨m, t, xs, rfl⟩ : ∃ m t, ∃ xs : (Ty.arr m t).den, x = .v (.arr m t) xs := by
      cases x with
      | v t xs =>
        cases t with
        | arr m t => exact ⟨m, t, xs, rfl⟩
        | _ => simp [getP] at e
      | _ => simp [getP] at e
    simp only [getP] at e
    cases hc : (Nat.beq m n && Nat.beq s t.size) with
    | false => rw [hc] at e; cases e
    | true =>
      rw [hc] at e
      rw [Bool.and_eq_true] at hc
      have h1 : m = n := Nat.eq_of_beq_eq_true hc.1
      have h2 : s = t.size := Nat.eq_of_beq_eq_true hc.2
      simp only [setP] at e'
      cases hf : t.flat with
      | false => rw [hf] at e'; cases e'
      | true =>
        rw [hf] at e'
        simp only [cond_true, Option.bind_eq_some_iff] at e'
        obtain ⟨u2, f2, u3, f3, f4⟩ := e'
        injection f4 with f4; subst f4
        unfold PV.rel at h
        obtain ⟨hlx, hcat⟩ := h
        have hi : i < List.length (α := t.den) xs := by rw [hlx, h1]; exact hp.1
        have hn := Cat.nth (TRel.len t) hcat hi
        have e2 : getP p (mk t (List.getD (α := t.den) xs i t.zero)) = some y := e
        rw [getD_eq (α := t.den) xs i _ hi] at e2
        have f2' : setP p (mk t (List.getD (α := t.den) xs i t.zero)) z = some u2 := f2
        rw [getD_eq (α := t.den) xs i _ hi] at f2'
        obtain ⟨pre', ys', post', r1, r2, r3, r4⟩ := setP_rel p _ y z u2 _ zs (mk_rel t _ _ hn) hp.2 e2 f2' hz hl
        have ht := flatV_rel t u2 u3 _ r4 f3
        have hs := Cat.set (TRel.len t) hcat hi ht
        have hcl := Cat.len (TRel.len t) hcat
        have hc3 := cut3 cs (i * t.size) t.size
        refine ⟨cs.take (i * t.size) ++ pre', ys', post' ++ cs.drop (i * t.size + t.size), ?_, ?_, r3, ?_⟩
        · rw [r1] at hc3
          simpa only [List.append_assoc] using hc3
        · rw [List.length_append, r2, List.length_take, Nat.min_eq_left (by
            rw [hcl]; exact Nat.mul_le_mul_right _ (by omega))]
          subst h2; rfl
        · unfold PV.rel
          exact ⟨by rw [List.length_set]; exact hlx, by simpa only [List.append_assoc] using hs⟩
  | .elt i s :: p, x, y, z, x', cs, zs, h, hp, e, e', hz, hl => by
    cases x <;> simp [getP] at e
end
end Go.Proofs.YtkihjakbbcajbaaGreat.PM
