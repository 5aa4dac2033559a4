/- part.Check: its loops over functions. -/
import Derived.Test.YtjmgelpeonodgaaChk1
namespace Go.Proofs.Ytjmgelpeonodgaa.PM
set_option linter.unusedSimpArgs false
set_option linter.unusedVariables false
open Go Go.Proofs Go.Proofs.Ytjmgelpeonodgaa.Kd
/-- What a loop over a function's values makes of a state; none: it was left. -/
def goR {S X : Type} (st : S → X → Option S) : List X → S → Option S
  | [], s => some s
  | x :: xs, s => (st s x).bind (goR st xs)
theorem goR_app {S X : Type} {st : S → X → Option S} : ∀ (xs ys : List X) (s : S), goR st (xs ++ ys) s = (goR st xs s).bind (goR st ys)
  | [], _, _ => rfl
  | x :: xs, ys, s => by
    show (st s x).bind (goR st (xs ++ ys)) = ((st s x).bind (goR st xs)).bind (goR st ys)
    cases st s x with
    | none => rfl
    | some s' => exact goR_app xs ys s'
def Wb (w : World) (b2 b3 : Nat) : Nat → Prop := fun r => w.heap.size ≤ r ∨ r = b2 ∨ r = b3
structure Ground (A : Nat → Prop) (w : World) (b1 b2 b3 : Nat) (c1 : List Value) (p : t7.den) : Prop where
  gl : GlOk globs A w
  lt : ∀ r, A r → r < w.heap.size
  hb1 : A b1
  at1 : At w ⟨b1, 0, none⟩ c1
  rel : TRel A w t7 c1 p
  n2 : ¬ A b2
  n3 : ¬ A b3
  lt2 : b2 < w.heap.size
  lt3 : b3 < w.heap.size
structure Inv (A : Nat → Prop) (w : World) (b2 b3 : Nat) (n : Int) (s : List t0.den) (W : World) : Prop where
  bx : Boxes A W (bx2 b2 b3 n s)
  keep : Keep (Wb w b2 b3) w W
def Pts (b1 b2 b3 : Nat) (a : Act) : Prop := a.tmps.size = 104 ∧ a.tmps.getD 1 undef = .pointer (some ⟨b1, 0, none⟩) ∧ a.tmps.getD 2 undef = .pointer (some ⟨b2, 0, none⟩) ∧ a.tmps.getD 3 undef = .pointer (some ⟨b3, 0, none⟩)
section
variable {A : Nat → Prop} {w : World} {b1 b2 b3 : Nat} {c1 : List Value} {p : t7.den} {n : Int} {s : List t0.den} {W : World}
theorem Ground.same (G : Ground A w b1 b2 b3 c1 p) (k : Keep (Wb w b2 b3) w W) (r : Nat) (hr : A r) : W.heap[r]? = w.heap[r]? :=
  k.block r (G.lt r hr) (fun h => by
    rcases h with h | rfl | rfl
    · have := G.lt r hr; omega
    · exact G.n2 hr
    · exact G.n3 hr)
theorem Ground.glAt (G : Ground A w b1 b2 b3 c1 p) (k : Keep (Wb w b2 b3) w W) : GlOk globs A W := G.gl.mono (fun _ h => h) (G.same k)
theorem Ground.iptr (G : Ground A w b1 b2 b3 c1 p) (k : Keep (Wb w b2 b3) w W) (g : Gh) : VRel g A W (.iptr t7 p) (.pointer (some ⟨b1, 0, none⟩)) :=
  mk_iptr (c := c1) rfl G.hb1 (At.mono (G.same k b1 G.hb1) G.at1) (TRel.mono (fun _ h => h) (G.same k) _ _ _ G.rel)
theorem tmP_ok (G : Ground A w b1 b2 b3 c1 p) (k : Keep (Wb w b2 b3) w W) {a : Act} (hp : Pts b1 b2 b3 a) {l : List BoxF} (g2 : gL l 1 = some ⟨some b2, 0, 0⟩) (g3 : gL l 2 = some ⟨some b3, 0, 0⟩) :
    ∀ t x, look t (tmP p) = some x → t < 104 ∧ VRel (gL l) A W x (a.tmps.getD t undef) := fun t x h => by
  obtain ⟨_, h1, h2, h3⟩ := hp
  unfold tmP at h
  rw [look_cons] at h
  split at h
  · rename_i e; subst e
    injection h with h; subst h
    exact ⟨by decide, by rw [h1]; exact G.iptr k _⟩
  · rw [look_cons] at h
    split at h
    · rename_i e; subst e
      injection h with h; subst h
      exact ⟨by decide, by rw [h2]; exact mk_ptr (p := []) g2 rfl trivial⟩
    · rw [look_cons] at h
      split at h
      · rename_i e; subst e
        injection h with h; subst h
        exact ⟨by decide, by rw [h3]; exact mk_ptr (p := []) g3 rfl trivial⟩
      · cases h
theorem tm_cons {g : Gh} {a : Act} {tm : List (Nat × PV)} {d : Nat} {y : PV} (hd : d < 104) (hy : VRel g A W y (a.tmps.getD d undef)) (h : ∀ t x, look t tm = some x → t < 104 ∧ VRel g A W x (a.tmps.getD t undef)) :
    ∀ t x, look t ((d, y) :: tm) = some x → t < 104 ∧ VRel g A W x (a.tmps.getD t undef) := fun t x e => by
  rw [look_cons] at e
  split at e
  · rename_i e'; subst e'
    injection e with e; subst e
    exact ⟨hd, hy⟩
  · exact h t x e
/-- A box that a stretch has made. -/
theorem new_box {g : Gh} {A' : Nat → Prop} {a : Act} {W' : World} {tm : List (Nat × PV)} {h : Hp} {l : List BoxF} {gl : List (Nat × PV)} {hg : GlOk gl A W} {nt : Nat} {df : List Deferred} (R : RS (BL hg l nt df) g A' a W' tm h (ioL l)) {id t : Nat} {X : PV}
    (hq : h.at id = some (.box X)) (ht : look t tm = some (.ptr id [])) (hl : ∀ q ∈ l, q.id ≠ id ∧ ∃ Y, h.at q.id = some (.box Y)) {τ : Ty} {x : τ.den} (hf : τ.flat = true) (hX : flatV τ X = some x) :
    ∃ b, a.tmps.getD t undef = .pointer (some ⟨b, 0, none⟩) ∧ W.heap.size ≤ b ∧ ∃ c e, W'.heap[b]? = some (.cells c e (0, 0)) ∧ TRel A W' τ c.toList x := by
  obtain ⟨s, b, c, e, h1, h2, h3, h4⟩ := R.hr.blk id _ hq
  have hv := (R.tms t _ ht).2
  obtain ⟨s2, b2, k1, k2, k3, _⟩ := rel_ptr hv
  rw [h1] at k1; injection k1 with k1; subst k1
  rw [h2] at k2; injection k2 with k2; subst k2
  obtain ⟨o1, o2⟩ := R.hr.own id _ s b hq rfl h1 h2
  refine ⟨b, k3, ?_, c, e, h3, TRel.flat _ _ _ hf (flatV_rel _ _ _ _ h4 hX)⟩
  rcases o2 with o2 | ⟨q, hql, rfl⟩
  · exact o2
  · exfalso
    obtain ⟨hne, Y, hY⟩ := hl q hql
    have hio := R.io
    have key : ∀ {m : List BoxF}, IoR g (ioL m) (slL m) → ∀ q ∈ m, g q.id = some ⟨some q.b, 0, 0⟩ := by
      intro m
      induction m with
      | nil => intro _ q hq; cases hq
      | cons r m ih =>
        intro hm q hq
        obtain ⟨⟨i, hi, hgi⟩, h2⟩ := hm
        rcases List.mem_cons.1 hq with rfl | hq
        · have : i = q.id := by
            rcases hi with hi | hi
            · injection hi with hi; exact hi.symm
            · cases hi
          rw [this] at hgi; exact hgi
        · exact ih h2 q hq
    have hgq := key (show IoR g (ioL l) (slL l) from hio) q hql
    exact hne (R.hr.inj q.id id _ _ _ _ q.b hY hq rfl rfl hgq h1 rfl h2)
theorem Inv.own (I : Inv A w b2 b3 n s W) (lt2 : b2 < w.heap.size) (lt3 : b3 < w.heap.size) (lt : ∀ r, A r → r < w.heap.size) {W' : World} {row : Option Nat} (hg : W.grownBy W' row) (hr : ∀ r, row = some r → w.heap.size ≤ r) : Inv A w b2 b3 n s W' := by
  have same : ∀ r, r < w.heap.size → W'.heap[r]? = W.heap[r]? := fun r h => hg.block r (Nat.lt_of_lt_of_le h I.keep.size) (fun e => by have := hr r e.symm; omega)
  refine ⟨I.bx.turn (fun r h => same r ?_) hg.size, I.keep.trans ⟨hg.os, hg.tape, hg.output, hg.size, fun r h hn => hg.block r h (fun e => hn (.inl (hr r e.symm)))⟩⟩
  rcases h with h | ⟨q, hq, rfl⟩
  · exact lt r h
  · unfold bx2 at hq
    simp only [List.mem_cons, List.not_mem_nil, or_false] at hq
    rcases hq with rfl | rfl
    · exact lt2
    · exact lt3
end
end Go.Proofs.Ytjmgelpeonodgaa.PM
