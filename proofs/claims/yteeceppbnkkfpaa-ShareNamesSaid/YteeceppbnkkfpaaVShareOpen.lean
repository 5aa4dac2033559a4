/- Arguments of a law, opened by their kinds: what reads as a datum of a type has the cells that the type's kind tells. -/
import Derived.Test.YteeceppbnkkfpaaVShare
import Derived.ProofKit
import Derived.OpenShut
import Derived.Deep.Slices
namespace Go.Proofs.YteeceppbnkkfpaaW.VOpen
open Go Go.RowKit Go.Proofs.YteeceppbnkkfpaaW.PrintWords

/-- Whatever reads as a datum of type t has the cells of a value of kind d, and this value meets wf. -/
structure Opn (P : Program) (t : TypeId) {α : Type} (d : Kd α) (wf : α → Prop) : Prop where
  out : ∀ {H : Type} {enc : TypeId × Value → H} {W : World} {base : Nat} {spare : Nat → Bool} {held : Bool} {fuel : Nat} {cs : List Value} {x : DataW H × List MemPlace},
    DataW.trod enc P W base spare held fuel t cs = some x → ∃ a : α, d.K W a cs ∧ wf a
/-- The same for the fields of a struct from cell o on. -/
structure OpnF (P : Program) (o : Nat) (fs : List Field) {α : Type} (d : Kd α) (wf : α → Prop) : Prop where
  out : ∀ {H : Type} {enc : TypeId × Value → H} {W : World} {base : Nat} {spare : Nat → Bool} {held : Bool} {fuel : Nat} {cs : List Value},
    (∀ f ∈ fs, ∃ y, DataW.trod enc P W base spare held fuel f.type ((cs.drop f.offset).take (P.cellsOf f.type)) = some y) → cs.length = o + d.sz → ∃ a : α, d.K W a (cs.drop o) ∧ wf a

section
variable {P : Program} {t e : TypeId} {α β : Type} {d : Kd α} {d2 : Kd β} {wf : α → Prop} {wf2 : β → Prop}

theorem Opn.int {k : IntKind} (ht : P.underlying t = some (.int k)) : Opn P t (Kd.int k) (fun a => (Lit.int k a).wf = true) :=
  ⟨fun h => by obtain ⟨n, rfl, _, hw⟩ := DataW.trod_int ht h; exact ⟨n, rfl, hw⟩⟩
theorem Opn.bool (ht : P.underlying t = some .bool) : Opn P t Kd.bool (fun _ => True) :=
  ⟨fun h => by obtain ⟨b, rfl, _⟩ := DataW.trod_bool ht h; exact ⟨b, rfl, trivial⟩⟩

theorem Opn.slice (ht : P.underlying t = some (.slice e)) (hc : P.cellsOf e = d.sz) (he : Opn P e d wf) : Opn P t (Kd.slice e d) (fun l => (∀ a ∈ l, wf a) ∧ l.length ≤ maxLen) :=
  ⟨fun {H enc W base spare held fuel cs x} h => by
    rcases Deep.open_slice ht h with ⟨rfl, _⟩ | ⟨a, len, cap, m, n, D, Pl, rfl, _, hl, hm, hmm, _, hel⟩
    · exact ⟨[], ⟨none, 0, rfl, Nat.le_refl _, Kd.C_nil _ _⟩, by simp, by simp⟩
    · have hle : len ≤ m := by rw [hmm]; split <;> omega
      have hx : ∀ i, i < len → ∃ (q : α) (c : List Value), c.length = d.sz ∧ d.K W q c ∧ wf q ∧ ∀ j u, c[j]? = some u → W.cell? (a.add (i * d.sz + j)) = some u := by
        intro i hi
        obtain ⟨c, hcs, hd⟩ := hel i (by omega)
        obtain ⟨q, hq, hw⟩ := he.out hd
        obtain ⟨_, hlen, hcell⟩ := World.cells?_some hcs
        refine ⟨q, c, d.K_len hq, hq, hw, fun j u hu => ?_⟩
        have hj : j < c.length := (List.getElem?_eq_some_iff.1 hu).1
        have h1 := hcell j (by omega)
        rw [Addr.add_add, hc] at h1
        rw [h1, hu]
      have hl2 : ∀ n, n ≤ len → ∃ l : List α, l.length = n ∧ (∀ q ∈ l, wf q) ∧ ∀ i q, l[i]? = some q → ∃ c : List Value, c.length = d.sz ∧ d.K W q c ∧ ∀ j u, c[j]? = some u → W.cell? (a.add (i * d.sz + j)) = some u := by
        intro n
        induction n with
        | zero => intro _; exact ⟨[], rfl, by simp, by simp⟩
        | succ n ih =>
          intro hn
          obtain ⟨l, h1, h2, h3⟩ := ih (by omega)
          obtain ⟨q, c, hc1, hc2, hc3, hc4⟩ := hx n (by omega)
          refine ⟨l ++ [q], by simp [h1], fun z hz => ?_, fun i z hz => ?_⟩
          · rcases List.mem_append.1 hz with hz | hz
            · exact h2 z hz
            · rw [List.mem_singleton.1 hz]; exact hc3
          · by_cases hi : i < n
            · rw [List.getElem?_append_left (by omega)] at hz
              exact h3 i z hz
            · have hlt := (List.getElem?_eq_some_iff.1 hz).1
              simp at hlt
              obtain rfl : i = n := by omega
              rw [List.getElem?_append_right (by omega)] at hz
              simp [h1] at hz
              subst hz
              exact ⟨c, hc1, hc2, hc4⟩
      obtain ⟨l, h1, h2, h3⟩ := hl2 len (Nat.le_refl _)
      have hmx : len ≤ 9223372036854775807 := by simp only [maxLen] at hm; omega
      refine ⟨l, ⟨some a, cap, by rw [h1], by omega, ⟨rfl, by omega, fun _ => ⟨a, rfl, fun j p hj => ?_⟩⟩⟩, h2, by omega⟩
      exact h3 j p hj⟩

theorem OpnF.one {o : Nat} {f : Field} (ho : f.offset = o) (hc : P.cellsOf f.type = d.sz) (h : Opn P f.type d wf) : OpnF P o [f] d wf :=
  ⟨fun {H enc W base spare held fuel cs} hf hl => by
    obtain ⟨y, hy⟩ := hf f (by simp)
    obtain ⟨a, ha, hw⟩ := h.out hy
    rw [ho, hc, List.take_of_length_le (by simp; omega)] at ha
    exact ⟨a, ha, hw⟩⟩
theorem OpnF.cons {o : Nat} {f : Field} {fs : List Field} (ho : f.offset = o) (hc : P.cellsOf f.type = d.sz) (h : Opn P f.type d wf) (h2 : OpnF P (o + d.sz) fs d2 wf2) : OpnF P o (f :: fs) (Kd.pair d d2) (fun x => wf x.1 ∧ wf2 x.2) :=
  ⟨fun {H enc W base spare held fuel cs} hf hl => by
    obtain ⟨y, hy⟩ := hf f (by simp)
    obtain ⟨a, ha, hw⟩ := h.out hy
    rw [ho, hc] at ha
    obtain ⟨b, hb, hw2⟩ := h2.out (fun g hg => hf g (List.mem_cons_of_mem _ hg)) (show cs.length = o + d.sz + d2.sz by rw [hl]; exact (Nat.add_assoc _ _ _).symm)
    refine ⟨(a, b), ⟨_, _, ?_, ha, hb⟩, hw, hw2⟩
    rw [← List.drop_drop, List.take_append_drop]⟩
theorem Opn.struct {fs : Array Field} (ht : P.underlying t = some (.struct fs)) (hc : P.cellsOf t = d.sz) (h : OpnF P 0 fs.toList d wf) (f : β → α) (g : α → β) (hfg : ∀ a, f (g a) = a) : Opn P t (Kd.iso d f) (fun b => wf (f b)) :=
  ⟨fun {H enc W base spare held fuel cs x} hx => by
    obtain ⟨xs, n, _, rfl, hl, hlen, hfld⟩ := DataW.trod_struct ht hx
    obtain ⟨a, ha, hw⟩ := h.out (enc := enc) (W := W) (base := base) (spare := spare) (held := held) (fuel := n) (cs := cs) (fun q hq => by
      obtain ⟨i, hi, rfl⟩ := List.getElem_of_mem hq
      have h1 := hfld i fs.toList[i] (by simp at hi; simp [hi])
      have h2 : i < xs.length := by rw [hlen]; simpa using hi
      exact ⟨xs[i], by rw [h1, List.getElem?_eq_getElem h2]⟩) (by rw [hl, hc]; omega)
    rw [List.drop_zero] at ha
    exact ⟨g a, show d.K W (f (g a)) cs by rw [hfg]; exact ha, by rw [hfg]; exact hw⟩⟩

/-- A slice's cells, as the value. -/
theorem slice_val {W : World} {l : List α} {a : Option Addr} {len cap : Nat} (h : (Kd.slice e d).K W l [.slice a len cap]) : len = l.length ∧ l.length ≤ cap ∧ d.C W a l.length l := by
  obtain ⟨A, c, he, hl, hr⟩ := h
  simp only [List.cons.injEq, Value.slice.injEq, and_true] at he
  obtain ⟨rfl, rfl, rfl⟩ := he
  exact ⟨rfl, hl, hr⟩
end
end Go.Proofs.YteeceppbnkkfpaaW.VOpen
