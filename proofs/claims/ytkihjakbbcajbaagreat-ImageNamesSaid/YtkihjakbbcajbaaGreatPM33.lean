/- Boxes that a function keeps, told without the pure machine's heap: what goes into a stretch and what comes out of it. -/
import Derived.Test.YtkihjakbbcajbaaGreatPM32
namespace Go.Proofs.YtkihjakbbcajbaaGreat.PM
set_option linter.unusedSimpArgs false
set_option linter.unusedVariables false
open Go
def subC (c : Code) (p : List Nat) : Code := (focus c p []).1
def regOps : Code → List Oper
  | .region _ ops _ => ops.toList
  | _ => []
def rfAsg : Code → Code
  | .rangeFunc _ _ a _ => a
  | _ => .skip
def rfBdy : Code → Code
  | .rangeFunc _ _ _ b => b
  | _ => .skip
/-- A box: its number in the pure machine's heap, its block, what it holds. -/
structure BoxF where
  id : Nat
  b : Nat
  t : Ty
  x : t.den
structure Boxes (A : Nat → Prop) (w : World) (l : List BoxF) : Prop where
  cell : ∀ q ∈ l, ∃ c e, w.heap[q.b]? = some (.cells c e (0, 0)) ∧ TRel A w q.t c.toList q.x
  out : ∀ q ∈ l, ¬ A q.b
  ids : (l.map (·.id)).Nodup
  bs : (l.map (·.b)).Nodup
  lt : ∀ r, A r → r < w.heap.size
def gL (l : List BoxF) : Gh := fun i => (l.find? fun q => Nat.beq i q.id).map fun q => ⟨some q.b, 0, 0⟩
def hpL (l : List BoxF) : Hp := l.map fun q => (q.id, some (.box (mk q.t q.x)))
def ioL (l : List BoxF) : List PV := l.map fun q => .ptr q.id []
def slL (l : List BoxF) : List Slot := l.map fun q => ⟨some q.b, 0, 0⟩
def WL (w : World) (l : List BoxF) : Nat → Prop := fun r => w.heap.size ≤ r ∨ ∃ q ∈ l, r = q.b
def BL {gl : List (Nat × PV)} {A : Nat → Prop} {w : World} (hg : GlOk gl A w) (l : List BoxF) (nt : Nat) (df : List Deferred) : Bs :=
  ⟨A, WL w l, w, nt, slL l, fun _ h => .inl h, gl, hg, df⟩
section
variable {gl : List (Nat × PV)} {A : Nat → Prop} {w : World} {l : List BoxF}
theorem gL_at : ∀ {l : List BoxF} {q : BoxF}, (l.map (·.id)).Nodup → q ∈ l → gL l q.id = some ⟨some q.b, 0, 0⟩
  | r :: l, q, hn, hq => by
    rw [List.map_cons, List.nodup_cons] at hn
    unfold gL
    rw [List.find?_cons]
    rcases List.mem_cons.1 hq with rfl | hq
    · rw [Nat.beq_refl]; rfl
    · have : Nat.beq q.id r.id = false := by
        cases hb : Nat.beq q.id r.id with
        | false => rfl
        | true => exact absurd (List.mem_map.2 ⟨q, hq, Nat.eq_of_beq_eq_true hb⟩) hn.1
      rw [this]
      exact gL_at hn.2 hq
theorem gL_out {l : List BoxF} {i : Nat} {s : Slot} (h : gL l i = some s) : ∃ q ∈ l, q.id = i ∧ s = ⟨some q.b, 0, 0⟩ := by
  unfold gL at h
  cases hf : l.find? (fun q => Nat.beq i q.id) with
  | none => rw [hf] at h; cases h
  | some q =>
    rw [hf] at h
    injection h with h
    exact ⟨q, List.mem_of_find?_eq_some hf, (Nat.eq_of_beq_eq_true (List.find?_some (p := fun q : BoxF => Nat.beq i q.id) hf)).symm, h.symm⟩
theorem hpL_at : ∀ {l : List BoxF} {i : Nat} {b : Blk}, (hpL l).at i = some b → ∃ q ∈ l, q.id = i ∧ b = .box (mk q.t q.x)
  | [], _, _, h => by cases h
  | r :: l, i, b, h => by
    unfold hpL at h
    rw [List.map_cons, at_cons] at h
    split at h
    · injection h with h
      exact ⟨r, List.mem_cons_self .., by symm; assumption, h.symm⟩
    · obtain ⟨q, h1, h2⟩ := hpL_at (l := l) h
      exact ⟨q, List.mem_cons_of_mem _ h1, h2⟩
theorem bs_inj : ∀ {l : List BoxF} {q r : BoxF}, (l.map (·.b)).Nodup → q ∈ l → r ∈ l → q.b = r.b → q = r
  | s :: l, q, r, hn, hq, hr, e => by
    rw [List.map_cons, List.nodup_cons] at hn
    rcases List.mem_cons.1 hq with h1 | h1 <;> rcases List.mem_cons.1 hr with h2 | h2
    · rw [h1, h2]
    · exact absurd (List.mem_map.2 ⟨r, h2, by rw [← e, h1]⟩ : s.b ∈ l.map (·.b)) hn.1
    · exact absurd (List.mem_map.2 ⟨q, h1, by rw [e, h2]⟩ : s.b ∈ l.map (·.b)) hn.1
    · exact bs_inj hn.2 h1 h2 e
theorem boxes_HR (C : Boxes A w l) : HR (gL l) A (WL w l) w (hpL l) where
  blk i b e := by
    obtain ⟨q, hq, rfl, rfl⟩ := hpL_at e
    obtain ⟨c, e, h1, h2⟩ := C.cell q hq
    exact ⟨_, _, c, e, gL_at C.ids hq, rfl, h1, mk_rel _ _ _ h2⟩
  own i b s r e _ hg hr := by
    obtain ⟨q, hq, rfl, rfl⟩ := hpL_at e
    rw [gL_at C.ids hq] at hg
    injection hg with hg; subst hg
    injection hr with hr; subst hr
    exact ⟨C.out q hq, .inr ⟨q, hq, rfl⟩⟩
  inj i j b c s s' r e e' _ _ hg hg' hr hr' := by
    obtain ⟨q, hq, rfl, rfl⟩ := hpL_at e
    obtain ⟨q', hq', rfl, rfl⟩ := hpL_at e'
    rw [gL_at C.ids hq] at hg
    rw [gL_at C.ids hq'] at hg'
    injection hg with hg; subst hg
    injection hr with hr; subst hr
    injection hg' with hg'; subst hg'
    injection hr' with hr'
    rw [bs_inj C.bs hq' hq hr']
  dfn i s e := by
    obtain ⟨q, hq, rfl, rfl⟩ := gL_out e
    have : ∀ {l : List BoxF}, q ∈ l → ∃ o, look q.id (hpL l) = some o := by
      intro l
      induction l with
      | nil => intro h; cases h
      | cons r l ih =>
        intro h
        unfold hpL
        rw [List.map_cons, look_cons]
        split
        · exact ⟨_, rfl⟩
        · rename_i hne
          rcases List.mem_cons.1 h with rfl | h
          · exact absurd rfl hne
          · exact ih h
    exact this hq
  lt := C.lt
theorem ioR_L (hi : (l.map (·.id)).Nodup) : ∀ {m : List BoxF}, (∀ q ∈ m, q ∈ l) → IoR (gL l) (ioL m) (slL m)
  | [], _ => trivial
  | r :: m, h => ⟨⟨r.id, .inl rfl, gL_at hi (h r (List.mem_cons_self ..))⟩, ioR_L hi (fun q hq => h q (List.mem_cons_of_mem _ hq))⟩
theorem boxes_RS (C : Boxes A w l) (hg : GlOk gl A w) {nt : Nat} {a : Act} {tm : List (Nat × PV)} (hs : a.tmps.size = nt) (htm : ∀ t x, look t tm = some x → t < nt ∧ VRel (gL l) A w x (a.tmps.getD t undef)) :
    RS (BL hg l nt a.defers) (gL l) A a w tm (hpL l) (ioL l) where
  size := hs
  defs := rfl
  tms := htm
  hr := boxes_HR C
  mono _ h := h
  in' _ h := .inl h
  same _ _ := rfl
  keep := .refl _ w
  io := ioR_L C.ids (fun _ h => h)
/-- The same, where nothing is given back in place. -/
def BL0 {gl : List (Nat × PV)} {A : Nat → Prop} {w : World} (hg : GlOk gl A w) (l : List BoxF) (nt : Nat) (df : List Deferred) : Bs :=
  ⟨A, WL w l, w, nt, [], fun _ h => .inl h, gl, hg, df⟩
theorem boxes_RS0 (C : Boxes A w l) (hg : GlOk gl A w) {nt : Nat} {a : Act} {tm : List (Nat × PV)} (hs : a.tmps.size = nt) (htm : ∀ t x, look t tm = some x → t < nt ∧ VRel (gL l) A w x (a.tmps.getD t undef)) :
    RS (BL0 hg l nt a.defers) (gL l) A a w tm (hpL l) [] where
  size := hs
  defs := rfl
  tms := htm
  hr := boxes_HR C
  mono _ h := h
  in' _ h := .inl h
  same _ _ := rfl
  keep := .refl _ w
  io := trivial
/-- What a stretch leaves of the boxes, whose data are flat. -/
theorem boxes_of {B : Bs} {g : Gh} {A' : Nat → Prop} {a : Act} {w' : World} {tm : List (Nat × PV)} {h : Hp} {l l' : List BoxF} (hA : B.A0 = A) (R : RS B g A' a w' tm h (ioL l)) (hsl : B.sl = slL l) (C : Boxes A w l) (hz : w.heap.size ≤ w'.heap.size)
    (hsub : ∀ q ∈ l', ∃ r ∈ l, r.id = q.id ∧ r.b = q.b) (hn1 : (l'.map (·.id)).Nodup) (hn2 : (l'.map (·.b)).Nodup) (hq : ∀ q ∈ l', ∃ X, h.at q.id = some (.box X) ∧ flatV q.t X = some q.x ∧ q.t.flat = true) : Boxes A w' l' := by
  have hio := R.io
  rw [hsl] at hio
  have key : ∀ {m : List BoxF}, IoR g (ioL m) (slL m) → ∀ q ∈ m, g q.id = some ⟨some q.b, 0, 0⟩ := by
    intro m
    induction m with
    | nil => intro _ q hq; cases hq
    | cons r m ih =>
      intro hm q hq
      obtain ⟨⟨i, hi, hgi⟩, h2⟩ := hm
      rcases List.mem_cons.1 hq with rfl | hq
      · have : i = q.id := by
          rcases hi with hi | hi
          · injection hi with hi; exact hi.symm
          · cases hi
        rw [this] at hgi; exact hgi
      · exact ih h2 q hq
  refine ⟨fun q hqm => ?_, fun q hqm => ?_, hn1, hn2, fun r hr => Nat.lt_of_lt_of_le (C.lt r hr) hz⟩
  · obtain ⟨X, h1, h2, h3⟩ := hq q hqm
    obtain ⟨r, hr, er, eb⟩ := hsub q hqm
    have hgq := key hio r hr
    rw [er, eb] at hgq
    obtain ⟨s, b', c, e, k1, k2, k3, k4⟩ := R.hr.blk q.id _ h1
    rw [hgq] at k1; injection k1 with k1; subst k1
    injection k2 with k2; subst k2
    exact ⟨c, e, k3, TRel.flat _ _ _ h3 (flatV_rel _ _ _ _ k4 h2)⟩
  · obtain ⟨r, hr, er, eb⟩ := hsub q hqm
    rw [← eb]; exact C.out r hr
/-- What a stretch keeps: all that is no box of it. -/
theorem kept_of {B : Bs} {g : Gh} {A' : Nat → Prop} {a : Act} {w' : World} {tm : List (Nat × PV)} {h : Hp} {io : List PV} (R : RS B g A' a w' tm h io) (hw : B.w0 = w) (hW : B.W = WL w l) (C : Boxes A w l) (B0 : Nat) : KeepsFrom B0 w w' := by
  have hk := R.keep
  rw [hw, hW] at hk
  refine ⟨hk.size, fun k o _ ho hc => (hk.block k (heap_lt ho) (fun hx => ?_)).trans ho⟩
  rcases hx with hx | ⟨q, hq, rfl⟩
  · have := heap_lt ho; omega
  · obtain ⟨c, e, h1, _⟩ := C.cell q hq
    rw [h1] at ho; injection ho with ho; subst ho
    cases hc
/-- The world may grow, and other blocks turn, as long as what is read lies as it lay. -/
theorem Boxes.turn {w' : World} (C : Boxes A w l) (hA : ∀ r, (A r ∨ ∃ q ∈ l, r = q.b) → w'.heap[r]? = w.heap[r]?) (hz : w.heap.size ≤ w'.heap.size) : Boxes A w' l := by
  refine ⟨fun q hq => ?_, C.out, C.ids, C.bs, fun r hr => Nat.lt_of_lt_of_le (C.lt r hr) hz⟩
  obtain ⟨c, e, k, r⟩ := C.cell q hq
  exact ⟨c, e, by rw [hA q.b (.inr ⟨q, hq, rfl⟩)]; exact k, TRel.mono (fun _ h => h) (fun r hr => hA r (.inl hr)) _ _ _ r⟩
end
end Go.Proofs.YtkihjakbbcajbaaGreat.PM
