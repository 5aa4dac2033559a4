/- What a program of the pure machine does with its heap, and that the real memory follows. -/
import Derived.Test.YtkihjakbbcajbaaGreatPM3
namespace Go.Proofs.YtkihjakbbcajbaaGreat.PM
set_option linter.unusedSimpArgs false
set_option linter.unusedVariables false
open Go

/-- The run of a small program: the answer, and the heap behind it. -/
def Q.Ok {α : Type} : Q α → Hp → α → Hp → Prop
  | .ret x, h, a, h' => a = x ∧ h' = h
  | .fail, _, _, _ => False
  | .rd id k, h, a, h' => ∃ b, h.at id = some b ∧ (k b).Ok h a h'
  | .wr id b k, h, a, h' => (∃ o, look id h = some o) ∧ k.Ok ((id, b) :: h) a h'
  | .new id b k, h, a, h' => look id h = none ∧ k.Ok ((id, some b) :: h) a h'
  | .ask b k, h, a, h' => b = true ∧ k.Ok h a h'
  | .br b x y, h, a, h' => (b = true ∧ x.Ok h a h') ∨ (b = false ∧ y.Ok h a h')
  | .opt o k, h, a, h' => ∃ v, o = some v ∧ (k v).Ok h a h'
theorem Ok_bind {α β : Type} : ∀ (q : Q α) (f : α → Q β) (h : Hp) (b : β) (h' : Hp), (q.bind f).Ok h b h' ↔ ∃ a h1, q.Ok h a h1 ∧ (f a).Ok h1 b h'
  | .ret x, f, h, b, h' => by
    simp only [Q.bind, Q.Ok]
    exact ⟨fun e => ⟨x, h, ⟨rfl, rfl⟩, e⟩, fun ⟨_, _, ⟨rfl, rfl⟩, e⟩ => e⟩
  | .fail, f, h, b, h' => by simp [Q.bind, Q.Ok]
  | .rd id k, f, h, b, h' => by
    simp only [Q.bind, Q.Ok, fun c => Ok_bind (k c) f h b h']
    exact ⟨fun ⟨c, e, a, h1, q, r⟩ => ⟨a, h1, ⟨c, e, q⟩, r⟩, fun ⟨a, h1, ⟨c, e, q⟩, r⟩ => ⟨c, e, a, h1, q, r⟩⟩
  | .wr id c k, f, h, b, h' => by
    simp only [Q.bind, Q.Ok, Ok_bind k f]
    exact ⟨fun ⟨e, a, h1, q, r⟩ => ⟨a, h1, ⟨e, q⟩, r⟩, fun ⟨a, h1, ⟨e, q⟩, r⟩ => ⟨e, a, h1, q, r⟩⟩
  | .new id c k, f, h, b, h' => by
    simp only [Q.bind, Q.Ok, Ok_bind k f]
    exact ⟨fun ⟨e, a, h1, q, r⟩ => ⟨a, h1, ⟨e, q⟩, r⟩, fun ⟨a, h1, ⟨e, q⟩, r⟩ => ⟨e, a, h1, q, r⟩⟩
  | .ask c k, f, h, b, h' => by
    simp only [Q.bind, Q.Ok, Ok_bind k f]
    exact ⟨fun ⟨e, a, h1, q, r⟩ => ⟨a, h1, ⟨e, q⟩, r⟩, fun ⟨a, h1, ⟨e, q⟩, r⟩ => ⟨e, a, h1, q, r⟩⟩
  | .br c x y, f, h, b, h' => by
    simp only [Q.bind, Q.Ok, Ok_bind x f, Ok_bind y f]
    constructor
    · rintro (⟨e, a, h1, q, r⟩ | ⟨e, a, h1, q, r⟩)
      · exact ⟨a, h1, .inl ⟨e, q⟩, r⟩
      · exact ⟨a, h1, .inr ⟨e, q⟩, r⟩
    · rintro ⟨a, h1, ⟨e, q⟩ | ⟨e, q⟩, r⟩
      · exact .inl ⟨e, a, h1, q, r⟩
      · exact .inr ⟨e, a, h1, q, r⟩
  | .opt o k, f, h, b, h' => by
    simp only [Q.bind, Q.Ok, fun c => Ok_bind (k c) f h b h']
    exact ⟨fun ⟨c, e, a, h1, q, r⟩ => ⟨a, h1, ⟨c, e, q⟩, r⟩, fun ⟨a, h1, ⟨c, e, q⟩, r⟩ => ⟨c, e, a, h1, q, r⟩⟩
theorem Ok_bind' {α β : Type} (q : Q α) (f : α → Q β) (h : Hp) (b : β) (h' : Hp) : (q >>= f).Ok h b h' ↔ ∃ a h1, q.Ok h a h1 ∧ (f a).Ok h1 b h' := Ok_bind q f h b h'
theorem Ok_ret {α : Type} (x : α) (h : Hp) (a : α) (h' : Hp) : (Q.ret x).Ok h a h' ↔ a = x ∧ h' = h := Iff.rfl
theorem Ok_pure {α : Type} (x : α) (h : Hp) (a : α) (h' : Hp) : (pure x : Q α).Ok h a h' ↔ a = x ∧ h' = h := Iff.rfl
theorem Ok_fail {α : Type} (h : Hp) (a : α) (h' : Hp) : (Q.fail : Q α).Ok h a h' ↔ False := Iff.rfl
theorem Ok_get {α : Type} (o : Option α) (h : Hp) (a : α) (h' : Hp) : (get o).Ok h a h' ↔ o = some a ∧ h' = h := by
  cases o with
  | none => simp [get, Q.Ok]
  | some x => simp only [get, Q.Ok, Option.some.injEq]; exact ⟨fun ⟨e, f⟩ => ⟨e.symm, f⟩, fun ⟨e, f⟩ => ⟨e.symm, f⟩⟩
theorem Ok_rdB (id : Nat) (h : Hp) (b : Blk) (h' : Hp) : (rdB id).Ok h b h' ↔ h.at id = some b ∧ h' = h := by
  unfold rdB; simp only [Q.Ok]
  exact ⟨fun ⟨c, e, he, f⟩ => ⟨he ▸ e, f⟩, fun ⟨e, f⟩ => ⟨b, e, rfl, f⟩⟩
theorem Ok_wrB (id : Nat) (b : Option Blk) (h : Hp) (a : Unit) (h' : Hp) : (wrB id b).Ok h a h' ↔ (∃ o, look id h = some o) ∧ h' = (id, b) :: h := by
  unfold wrB; simp only [Q.Ok]
  exact ⟨fun ⟨e, _, f⟩ => ⟨e, f⟩, fun ⟨e, f⟩ => ⟨e, trivial, f⟩⟩
theorem Ok_newB (id : Nat) (b : Blk) (h : Hp) (a : Unit) (h' : Hp) : (newB id b).Ok h a h' ↔ look id h = none ∧ h' = (id, some b) :: h := by
  unfold newB; simp only [Q.Ok]
  exact ⟨fun ⟨e, _, f⟩ => ⟨e, f⟩, fun ⟨e, f⟩ => ⟨e, trivial, f⟩⟩
theorem Ok_askB (b : Bool) (h : Hp) (a : Unit) (h' : Hp) : (askB b).Ok h a h' ↔ b = true ∧ h' = h := by
  unfold askB; simp only [Q.Ok]
  exact ⟨fun ⟨e, _, f⟩ => ⟨e, f⟩, fun ⟨e, f⟩ => ⟨e, trivial, f⟩⟩
theorem Ok_ask {α : Type} (b : Bool) (k : Q α) (h : Hp) (a : α) (h' : Hp) : (Q.ask b k).Ok h a h' ↔ b = true ∧ k.Ok h a h' := Iff.rfl
theorem Ok_cond {α : Type} (b : Bool) (x y : Q α) (h : Hp) (a : α) (h' : Hp) : (cond b x y).Ok h a h' ↔ (b = true ∧ x.Ok h a h') ∨ (b = false ∧ y.Ok h a h') := by
  cases b <;> simp
theorem Ok_need (b : Bool) (h : Hp) (a : Unit) (h' : Hp) : (cond b (Q.ret ()) Q.fail).Ok h a h' ↔ b = true ∧ h' = h := by
  cases b <;> simp [Q.Ok]
theorem toD_ev {α ρ : Type} {f : List It → St → Option ρ} {res : ρ} : ∀ (q : Q α) (h : Hp) (r w : List Nat) (K : α → Hp → List Nat → List Nat → DT ρ),
    (q.toD h r w K).ev f = some res → ∃ a h' r' w', q.Ok h a h' ∧ (K a h' r' w').ev f = some res
  | .ret x, h, r, w, K, e => ⟨x, h, r, w, ⟨rfl, rfl⟩, e⟩
  | .fail, _, _, _, _, e => by simp [Q.toD, DT.ev] at e
  | .rd id k, h, r, w, K, e => by
    simp only [Q.toD] at e
    cases hb : h.at id with
    | none => rw [hb] at e; simp [DT.ev] at e
    | some b =>
      rw [hb] at e
      obtain ⟨a, h', r', w', h1, h2⟩ := toD_ev (k b) h _ _ K e
      exact ⟨a, h', r', w', ⟨b, hb, h1⟩, h2⟩
  | .wr id b k, h, r, w, K, e => by
    simp only [Q.toD] at e
    cases hb : look id h with
    | none => rw [hb] at e; simp [DT.ev] at e
    | some o =>
      rw [hb] at e
      obtain ⟨a, h', r', w', h1, h2⟩ := toD_ev k _ _ _ K e
      exact ⟨a, h', r', w', ⟨⟨o, hb⟩, h1⟩, h2⟩
  | .new id b k, h, r, w, K, e => by
    simp only [Q.toD] at e
    cases hb : look id h with
    | some o => rw [hb] at e; simp [DT.ev] at e
    | none =>
      rw [hb] at e
      obtain ⟨a, h', r', w', h1, h2⟩ := toD_ev k _ _ _ K e
      exact ⟨a, h', r', w', ⟨hb, h1⟩, h2⟩
  | .ask b k, h, r, w, K, e => by
    simp only [Q.toD, DT.ev] at e
    cases b with
    | false => simp at e
    | true =>
      obtain ⟨a, h', r', w', h1, h2⟩ := toD_ev k _ _ _ K e
      exact ⟨a, h', r', w', ⟨rfl, h1⟩, h2⟩
  | .br b x y, h, r, w, K, e => by
    simp only [Q.toD, DT.ev] at e
    cases b with
    | false =>
      obtain ⟨a, h', r', w', h1, h2⟩ := toD_ev y _ _ _ K e
      exact ⟨a, h', r', w', .inr ⟨rfl, h1⟩, h2⟩
    | true =>
      obtain ⟨a, h', r', w', h1, h2⟩ := toD_ev x _ _ _ K e
      exact ⟨a, h', r', w', .inl ⟨rfl, h1⟩, h2⟩
  | .opt o k, h, r, w, K, e => by
    simp only [Q.toD, DT.ev] at e
    cases o with
    | none => simp at e
    | some v =>
      obtain ⟨a, h', r', w', h1, h2⟩ := toD_ev (k v) _ _ _ K e
      exact ⟨a, h', r', w', ⟨v, rfl, h1⟩, h2⟩

theorem look_cons {α : Type} (i j : Nat) (x : α) (r : List (Nat × α)) : look i ((j, x) :: r) = if i = j then some x else look i r := by
  show cond (Nat.beq i j) _ _ = _
  by_cases h : i = j
  · subst h; rw [if_pos rfl, Nat.beq_refl]; rfl
  · rw [if_neg h]
    have : Nat.beq i j = false := by
      cases hb : Nat.beq i j with
      | false => rfl
      | true => exact absurd (Nat.eq_of_beq_eq_true hb) h
    rw [this]; rfl
theorem at_cons (h : Hp) (i j : Nat) (b : Option Blk) : Hp.at ((j, b) :: h) i = if i = j then b else h.at i := by
  unfold Hp.at
  rw [look_cons]
  split
  · cases b <;> rfl
  · rfl
theorem at_look {h : Hp} {i : Nat} {b : Blk} (e : h.at i = some b) : look i h = some (some b) := by
  unfold Hp.at at e
  cases hl : look i h with
  | none => rw [hl] at e; cases e
  | some o => rw [hl] at e; cases o with
    | none => cases e
    | some c => injection e with e; rw [e]
theorem at_none {h : Hp} {i : Nat} (e : look i h = none) : h.at i = none := by unfold Hp.at; rw [e]; rfl

/- the heap's blocks in memory -/
def Blk.live : Blk → Bool
  | .box _ => true
  | .row _ _ fz => !fz
def RowAt (A : Nat → Prop) (w : World) (s : Slot) (t : Ty) (xs : List t.den) : Prop := s.len = xs.length ∧ match s.blk with
  | none => s.len = 0 ∧ s.cap = 0
  | some b => s.len ≤ s.cap ∧ ∃ c e, w.heap[b]? = some (.cells c e (0, 0)) ∧ s.cap * t.size ≤ c.size ∧ Cat (TRel A w t) (c.toList.take (s.len * t.size)) xs
def BRel (g : Gh) (A : Nat → Prop) (w : World) (i : Nat) : Blk → Prop
  | .box x => ∃ s b c e, g i = some s ∧ s.blk = some b ∧ w.heap[b]? = some (.cells c e (0, 0)) ∧ x.rel g A w c.toList
  | .row t xs fz => ∃ s, g i = some s ∧ RowAt A w s t xs ∧ (fz = true → ∀ b, s.blk = some b → A b)
structure HR (g : Gh) (A W : Nat → Prop) (w : World) (h : Hp) : Prop where
  blk : ∀ i b, h.at i = some b → BRel g A w i b
  own : ∀ i b s r, h.at i = some b → b.live = true → g i = some s → s.blk = some r → ¬ A r ∧ W r
  inj : ∀ i j b c s s' r, h.at i = some b → h.at j = some c → b.live = true → c.live = true → g i = some s → g j = some s' → s.blk = some r → s'.blk = some r → i = j
  dfn : ∀ i s, g i = some s → ∃ o, look i h = some o
  lt : ∀ r, A r → r < w.heap.size
/-- What may be read: what stays as it is, and what the heap's blocks hold. -/
def Rd (g : Gh) (A : Nat → Prop) (h : Hp) (r : Nat) : Prop := A r ∨ ∃ i b s, h.at i = some b ∧ g i = some s ∧ s.blk = some r
theorem heap_lt {w : World} {b : Nat} {o : Obj} (h : w.heap[b]? = some o) : b < w.heap.size := by
  rcases Nat.lt_or_ge b w.heap.size with hl | hl
  · exact hl
  · rw [Array.getElem?_eq_none hl] at h; cases h
theorem At_block {w : World} {b : Nat} {c : Array Value} {e : TypeId} {fz : Nat × Nat} (h : w.heap[b]? = some (.cells c e fz)) {o : Nat} {ys : List Value} (hy : ∀ j v, ys[j]? = some v → c[o + j]? = some v) :
    At w ⟨b, o, none⟩ ys := fun j v e' => by
  have : (Addr.add ⟨b, o, none⟩ j) = ⟨b, o + j, none⟩ := by unfold Addr.add; split <;> simp_all
  rw [this]
  unfold World.cell?
  simp only [h, Option.isSome_none, Bool.false_eq_true, if_false]
  exact hy j v e'
theorem sub_getElem {α : Type} {c : List α} {k n : Nat} {j : Nat} {v : α} (h : ((c.drop k).take n)[j]? = some v) : c[k + j]? = some v := by
  rw [List.getElem?_take] at h
  split at h
  · rwa [List.getElem?_drop] at h
  · cases h
section
variable {g : Gh} {A W : Nat → Prop} {w : World} {h : Hp}
theorem Rd.of (r : Nat) (ha : A r) : Rd g A h r := .inl ha
/-- The cells of a slice that a row or a part of it shows. -/
theorem row_TRel {s : Slot} {t : Ty} {xs : List t.den} {B : Nat → Prop} (hB : ∀ r, A r → B r) (hr : RowAt A w s t xs) (hb : ∀ b, s.blk = some b → B b) {v : Value} (hv : SlV s v) : TRel B w (.slice t) [v] xs := by
  obtain ⟨h1, h2⟩ := hr
  unfold SlV at hv
  cases hs : s.blk with
  | none =>
    rw [hs] at hv h2
    obtain ⟨rfl, h3, h4⟩ := hv
    exact ⟨none, 0, by rw [← h1, h3], by omega, fun hl => by omega⟩
  | some b =>
    rw [hs] at hv h2
    subst hv
    obtain ⟨h3, c, e, h4, h5, h6⟩ := h2
    refine ⟨_, s.cap, by rw [h1], by omega, fun _ => ⟨_, rfl, rfl, hb b hs, _, At_block h4 (ys := c.toList.take (s.len * t.size)) (fun j v hj => ?_), h6.mono (TRel.mono hB (fun _ _ => rfl) t)⟩⟩
    rw [List.getElem?_take] at hj
    split at hj
    · simpa using hj
    · cases hj
theorem arr_take {t : Ty} {cs : List Value} {xs : List t.den} {A : Nat → Prop} {w : World} (h : Cat (TRel A w t) cs xs) (o n : Nat) (hl : o + n ≤ xs.length) :
    Cat (TRel A w t) ((cs.drop (o * t.size)).take (n * t.size)) ((xs.drop o).take n) :=
  (h.drop (TRel.len t) o (by omega)).take (TRel.len t) n (by rw [List.length_drop]; omega)
theorem view_TRel {s : Slot} {t : Ty} {xs : List t.den} {B : Nat → Prop} (hB : ∀ r, A r → B r) (hr : RowAt A w s t xs) (hb : ∀ b, s.blk = some b → B b) {off len : Nat} {v : Value} (hv : SvV s [] off len t.size 0 v) :
    TRel B w (.slice t) [v] ((xs.drop off).take len) := by
  obtain ⟨h1, h2⟩ := hr
  obtain ⟨_, hlen, _, _, a, cap, rfl, hcap, _, ha⟩ := hv
  rw [if_pos rfl] at hlen
  have hll : ((xs.drop off).take len).length = len := by rw [List.length_take, List.length_drop]; omega
  refine ⟨a, cap, by rw [hll], by rw [hll]; exact hcap, fun hl => ?_⟩
  rw [hll] at hl
  have ha' := ha (.inl hl)
  cases hs : s.blk with
  | none => rw [hs] at h2; omega
  | some b =>
    rw [hs] at h2 ha'
    obtain ⟨h3, c, e, h4, h5, h6⟩ := h2
    have hq := arr_take h6 off len (by omega)
    refine ⟨_, ha', rfl, hb b hs, _, At_block h4 (ys := ((c.toList.take (s.len * t.size)).drop (off * t.size)).take (len * t.size)) (fun j v hj => ?_), hq.mono (TRel.mono hB (fun _ _ => rfl) t)⟩
    have hj' := sub_getElem hj
    rw [List.getElem?_take] at hj'
    split at hj'
    · simpa [poff] using hj'
    · cases hj'
theorem arrview_TRel {s : Slot} {t : Ty} {m : Nat} {B : Nat → Prop} (hB : ∀ r, A r → B r) {x : PV} {p : List Stp} {xs : (Ty.arr m t).den} {b : Nat} {c : Array Value} {e : TypeId} (hs : s.blk = some b) (hh : w.heap[b]? = some (.cells c e (0, 0)))
    (hx : x.rel g A w c.toList) (hp : getP p x = some (.v (.arr m t) xs)) (hb : B b) {off len : Nat} (hm : m ≠ 0) {v : Value} (hv : SvV s p off len t.size m v) :
    TRel B w (.slice t) [v] ((List.drop (α := t.den) off xs).take len) := by
  obtain ⟨hpk, hlen, _, _, a, cap, rfl, hcap, _, ha⟩ := hv
  rw [if_neg hm] at hlen
  obtain ⟨pre, ys, post, e1, e2, e3⟩ := getP_rel p x _ _ hx hpk hp
  unfold PV.rel at e3
  obtain ⟨hl, hcat⟩ := e3
  have hll : ((List.drop (α := t.den) off xs).take len).length = len := by rw [List.length_take, List.length_drop]; omega
  refine ⟨a, cap, by rw [hll], by rw [hll]; exact hcap, fun hl' => ?_⟩
  rw [hll] at hl'
  have ha' := ha (.inl hl')
  rw [hs] at ha'
  have hq := arr_take hcat off len (by omega)
  refine ⟨_, ha', rfl, hb, _, At_block hh (ys := (ys.drop (off * t.size)).take (len * t.size)) (fun j v hj => ?_), hq.mono (TRel.mono hB (fun _ _ => rfl) t)⟩
  have hj' := sub_getElem hj
  have : c.toList[poff p + off * t.size + j]? = some v := by
    rw [e1, List.append_assoc, List.getElem?_append_right (by omega), ← e2]
    have hlt : off * t.size + j < ys.length := (List.getElem?_eq_some_iff.1 hj').1
    rw [List.getElem?_append_left (by omega)]
    rw [← hj']; congr 1; omega
  simpa using this
mutual
theorem dec_rel (H : HR g A W w h) : ∀ (t : Ty) (x : PV) (y : t.den) (h' : Hp) (cs : List Value), x.rel g A w cs → (dec t x).Ok h y h' → h' = h ∧ TRel (Rd g A h) w t cs y
  | .pair a b, x, y, h', cs, hx, e => by
    cases x with
    | agg xs =>
      cases xs with
      | nil => simp [dec, Q.Ok] at e
      | cons x xs =>
        simp only [dec, Ok_bind, Ok_ret] at e
        obtain ⟨p, h1, e1, q, h2, e2, rfl, rfl⟩ := e
        unfold PV.rel rels at hx
        obtain ⟨c, d, rfl, hc, hd⟩ := hx
        obtain ⟨q1, r1⟩ := dec_rel H a x p _ c hc e1
        rw [q1] at e2
        obtain ⟨q2, r2⟩ := decs_rel H b xs q _ d hd e2
        exact ⟨q2, c, d, rfl, r1, r2⟩
    | v u z =>
      simp only [dec, Ok_get] at e
      obtain ⟨e, rfl⟩ := e
      obtain ⟨rfl, rfl⟩ := cast_some e
      unfold PV.rel at hx
      exact ⟨rfl, hx.mono Rd.of (fun _ _ => rfl)⟩
    | _ => simp [dec, Q.Ok] at e
  | .unit, x, y, h', cs, hx, e => by
    cases x with
    | agg xs =>
      cases xs with
      | nil => simp only [dec, Ok_ret] at e; unfold PV.rel rels at hx; exact ⟨e.2, hx⟩
      | cons x xs => simp [dec, Q.Ok] at e
    | v u z =>
      simp only [dec, Ok_get] at e
      obtain ⟨e, rfl⟩ := e
      obtain ⟨rfl, rfl⟩ := cast_some e
      unfold PV.rel at hx
      exact ⟨rfl, hx.mono Rd.of (fun _ _ => rfl)⟩
    | _ => simp [dec, Q.Ok] at e
  | .int k, x, y, h', cs, hx, e => by
    cases x with
    | v u z =>
      simp only [dec, Ok_get] at e
      obtain ⟨e, rfl⟩ := e
      obtain ⟨rfl, rfl⟩ := cast_some e
      unfold PV.rel at hx
      exact ⟨rfl, hx.mono Rd.of (fun _ _ => rfl)⟩
    | _ => simp [dec, Q.Ok] at e
  | .bool, x, y, h', cs, hx, e => by
    cases x with
    | v u z =>
      simp only [dec, Ok_get] at e
      obtain ⟨e, rfl⟩ := e
      obtain ⟨rfl, rfl⟩ := cast_some e
      unfold PV.rel at hx
      exact ⟨rfl, hx.mono Rd.of (fun _ _ => rfl)⟩
    | _ => simp [dec, Q.Ok] at e
  | .str, x, y, h', cs, hx, e => by
    cases x with
    | v u z =>
      simp only [dec, Ok_get] at e
      obtain ⟨e, rfl⟩ := e
      obtain ⟨rfl, rfl⟩ := cast_some e
      unfold PV.rel at hx
      exact ⟨rfl, hx.mono Rd.of (fun _ _ => rfl)⟩
    | _ => simp [dec, Q.Ok] at e
  | .arr n t, x, y, h', cs, hx, e => by
    cases x with
    | v u z =>
      simp only [dec, Ok_get] at e
      obtain ⟨e, rfl⟩ := e
      obtain ⟨rfl, rfl⟩ := cast_some e
      unfold PV.rel at hx
      exact ⟨rfl, hx.mono Rd.of (fun _ _ => rfl)⟩
    | _ => simp [dec, Q.Ok] at e
  | .slice t, x, y, h', cs, hx, e => by
    cases x with
    | v u z =>
      simp only [dec, Ok_get] at e
      obtain ⟨e, rfl⟩ := e
      obtain ⟨rfl, rfl⟩ := cast_some e
      unfold PV.rel at hx
      exact ⟨rfl, hx.mono Rd.of (fun _ _ => rfl)⟩
    | nils =>
      simp only [dec, Ok_ret] at e
      obtain ⟨rfl, rfl⟩ := e
      unfold PV.rel at hx
      subst hx
      exact ⟨rfl, none, 0, rfl, Nat.le_refl _, fun hl => absurd hl (Nat.lt_irrefl 0)⟩
    | sl id =>
      simp only [dec, Q.Ok] at e
      obtain ⟨b, hb, e⟩ := e
      cases b with
      | box x => simp [Q.Ok] at e
      | row u xs fz =>
        simp only [Ok_get] at e
        obtain ⟨e, rfl⟩ := e
        obtain ⟨eq, rfl⟩ := cast_some e
        injection eq with eq
        subst eq
        unfold PV.rel at hx
        obtain ⟨s, v, hg, rfl, hv⟩ := hx
        obtain ⟨s', hg', hr, _⟩ := H.blk id _ hb
        rw [hg] at hg'; injection hg' with hg'; subst hg'
        exact ⟨rfl, row_TRel Rd.of hr (fun b hs => .inr ⟨id, _, s, hb, hg, hs⟩) hv⟩
    | sv id p off len sz n =>
      simp only [dec, Q.Ok] at e
      obtain ⟨b, hb, e⟩ := e
      unfold PV.rel at hx
      obtain ⟨s, v, hg, rfl, hv⟩ := hx
      cases b with
      | row u xs fz =>
        simp only [Ok_bind, Ok_get] at e
        obtain ⟨ys, h1, ⟨e, rfl⟩, e'⟩ := e
        obtain ⟨eq, rfl⟩ := cast_some e
        injection eq with eq
        subst eq
        cases p with
        | cons a p => simp [Q.Ok] at e'
        | nil =>
          simp only [Ok_cond, Ok_ret, Ok_fail, and_false, or_false, Bool.and_eq_true] at e'
          obtain ⟨⟨e1, e2⟩, rfl, rfl⟩ := e'
          have e1 := Nat.eq_of_beq_eq_true e1
          have e2 := Nat.eq_of_beq_eq_true e2
          subst e1 e2
          obtain ⟨s', hg', hr, _⟩ := H.blk id _ hb
          rw [hg] at hg'; injection hg' with hg'; subst hg'
          exact ⟨rfl, view_TRel Rd.of hr (fun b hs => .inr ⟨id, _, s, hb, hg, hs⟩) hv⟩
      | box x =>
        simp only at e
        split at e
        · rename_i m u xs hp
          simp only [Ok_cond, Ok_bind, Ok_get, Ok_ret, Ok_fail, and_false, or_false, Bool.and_eq_true] at e
          obtain ⟨⟨⟨e1, e2⟩, e3⟩, ys, h1, ⟨e, rfl⟩, rfl, rfl⟩ := e
          obtain ⟨eq, rfl⟩ := cast_some e
          injection eq with eq
          subst eq
          have e1 := Nat.eq_of_beq_eq_true e1
          have e2 := Nat.eq_of_beq_eq_true e2
          subst e1 e2
          have hm : m ≠ 0 := by rintro rfl; simp at e3
          obtain ⟨s', b, c, ty, hg', hs, hh, hx⟩ := H.blk id _ hb
          rw [hg] at hg'; injection hg' with hg'; subst hg'
          exact ⟨rfl, arrview_TRel Rd.of hs hh hx hp (.inr ⟨id, _, s, hb, hg, hs⟩) hm hv⟩
        · simp [Q.Ok] at e
    | _ => simp [dec, Q.Ok] at e
theorem decs_rel (H : HR g A W w h) : ∀ (t : Ty) (xs : List PV) (y : t.den) (h' : Hp) (cs : List Value), rels g A w xs cs → (decs t xs).Ok h y h' → h' = h ∧ TRel (Rd g A h) w t cs y
  | .pair a b, xs, y, h', cs, hx, e => by
    cases xs with
    | nil => simp [decs, Q.Ok] at e
    | cons x xs =>
      simp only [decs, Ok_bind, Ok_ret] at e
      obtain ⟨p, h1, e1, q, h2, e2, rfl, rfl⟩ := e
      unfold rels at hx
      obtain ⟨c, d, rfl, hc, hd⟩ := hx
      obtain ⟨q1, r1⟩ := dec_rel H a x p _ c hc e1
      rw [q1] at e2
      obtain ⟨q2, r2⟩ := decs_rel H b xs q _ d hd e2
      exact ⟨q2, c, d, rfl, r1, r2⟩
  | .unit, xs, y, h', cs, hx, e => by
    cases xs with
    | nil => simp only [decs, Ok_ret] at e; unfold rels at hx; exact ⟨e.2, hx⟩
    | cons x xs => simp [decs, Q.Ok] at e
  | .int _, _, _, _, _, _, e => by simp [decs, Q.Ok] at e
  | .bool, _, _, _, _, _, e => by simp [decs, Q.Ok] at e
  | .str, _, _, _, _, _, e => by simp [decs, Q.Ok] at e
  | .arr _ _, _, _, _, _, _, e => by simp [decs, Q.Ok] at e
  | .slice _, _, _, _, _, _, e => by simp [decs, Q.Ok] at e
end
end
end Go.Proofs.YtkihjakbbcajbaaGreat.PM
