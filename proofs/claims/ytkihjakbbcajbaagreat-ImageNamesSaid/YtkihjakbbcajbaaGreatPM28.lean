/- A law's arguments: what reads as a datum of a type is a value of the pure machine; the law's row out of its contract. -/
import Derived.Test.YtkihjakbbcajbaaGreatPM27
import Derived.ProofKit
import Derived.OpenShut
import Derived.Deep.Slices
import Derived.WalkKit
import Derived.OpenShut
import Derived.ShutString
import Derived.ChangeOld
import Derived.SizedLaws
namespace Go.Proofs.YtkihjakbbcajbaaGreat.PM
set_option linter.unusedSimpArgs false
set_option linter.unusedVariables false
open Go Go.RowKit
/-- No list of things without cells. -/
def Ty.solid : Ty → Bool
  | .pair a b => a.solid && b.solid
  | .arr _ t => t.solid
  | .slice t => Nat.ble 1 t.size && t.solid
  | _ => true
/-- Numbers within their kinds, lists within what a machine holds. -/
def Ty.wf : (t : Ty) → t.den → Prop
  | .int k, x => (Lit.int k x).wf = true
  | .bool, _ => True
  | .str, x => List.length (α := UInt8) x ≤ maxLen
  | .unit, _ => True
  | .pair a b, x => a.wf x.1 ∧ b.wf x.2
  | .arr n t, x => List.length (α := t.den) x = n ∧ ∀ y ∈ (show List t.den from x), t.wf y
  | .slice t, x => List.length (α := t.den) x ≤ maxLen ∧ ∀ y ∈ (show List t.den from x), t.wf y
def Here (W : World) : Nat → Prop := fun r => r < W.heap.size
section
variable {P : Program} {H : Type} {enc : TypeId × Value → H} {W : World} {base : Nat} {spare : Nat → Bool} {held : Bool}
theorem ty_cells {τ : Ty} {t : TypeId} (h : tyB P τ t = true) : P.cellsOf t = τ.size := by
  obtain ⟨i, z, h1, h2, _⟩ := tyB_info h
  unfold Program.cellsOf; rw [h1]; exact h2
theorem cat_build {u : Ty} {a : Addr} : ∀ (len k : Nat), (∀ i, i < len → ∃ (q : u.den) (c : List Value), c.length = u.size ∧ TRel (Here W) W u c q ∧ u.wf q ∧ ∀ j v, c[j]? = some v → W.cell? (a.add ((k + i) * u.size + j)) = some v) →
    ∃ (l : List u.den) (c : List Value), l.length = len ∧ Cat (TRel (Here W) W u) c l ∧ (∀ q ∈ l, u.wf q) ∧ ∀ j v, c[j]? = some v → W.cell? (a.add (k * u.size + j)) = some v
  | 0, _, _ => ⟨[], [], rfl, rfl, by simp, by simp⟩
  | len + 1, k, h => by
    obtain ⟨q, c, h1, h2, h3, h4⟩ := h 0 (by omega)
    obtain ⟨l, d, g1, g2, g3, g4⟩ := cat_build len (k + 1) (fun i hi => by
      have := h (i + 1) (by omega)
      rwa [show k + (i + 1) = k + 1 + i by omega] at this)
    refine ⟨q :: l, c ++ d, by simp [g1], ⟨c, d, rfl, h2, g2⟩, fun z hz => ?_, fun j v hv => ?_⟩
    · rcases List.mem_cons.1 hz with rfl | hz
      · exact h3
      · exact g3 z hz
    · by_cases hj : j < c.length
      · rw [List.getElem?_append_left hj] at hv
        have := h4 j v hv
        rwa [Nat.add_zero] at this
      · rw [List.getElem?_append_right (by omega)] at hv
        have := g4 _ v hv
        rwa [show (k + 1) * u.size + (j - c.length) = k * u.size + j by rw [Nat.succ_mul]; omega] at this
theorem cat_of {u : Ty} : ∀ (n k : Nat) (cs : List Value), cs.length = (k + n) * u.size → (∀ i, i < n → ∃ q : u.den, TRel (Here W) W u ((cs.drop ((k + i) * u.size)).take u.size) q ∧ u.wf q) →
    ∃ l : List u.den, l.length = n ∧ Cat (TRel (Here W) W u) (cs.drop (k * u.size)) l ∧ ∀ q ∈ l, u.wf q
  | 0, k, cs, hl, _ => ⟨[], rfl, by show cs.drop (k * u.size) = []; rw [List.drop_eq_nil_iff]; simp at hl; omega, by simp⟩
  | n + 1, k, cs, hl, h => by
    obtain ⟨q, h1, h2⟩ := h 0 (by omega)
    obtain ⟨l, g1, g2, g3⟩ := cat_of n (k + 1) cs (by rw [hl]; congr 1; omega) (fun i hi => by
      have := h (i + 1) (by omega)
      rwa [show k + (i + 1) = k + 1 + i by omega] at this)
    refine ⟨q :: l, by simp [g1], ⟨(cs.drop (k * u.size)).take u.size, (cs.drop (k * u.size)).drop u.size, (List.take_append_drop _ _).symm, by simpa using h1, ?_⟩, fun z hz => ?_⟩
    · rw [List.drop_drop, show k * u.size + u.size = (k + 1) * u.size by rw [Nat.succ_mul]]; exact g2
    · rcases List.mem_cons.1 hz with rfl | hz
      · exact h2
      · exact g3 z hz
mutual
theorem trod_rel : ∀ (τ : Ty) (t : TypeId) (fuel : Nat) (cs : List Value) (x : DataW H × List MemPlace), tyB P τ t = true → τ.solid = true → DataW.trod enc P W base spare held fuel t cs = some x → ∃ a : τ.den, TRel (Here W) W τ cs a ∧ τ.wf a
  | .int k, t, fuel, cs, x, ht, _, h => by
    obtain ⟨n, rfl, _, hw⟩ := DataW.trod_int (und_int ht) h
    exact ⟨n, rfl, hw⟩
  | .bool, t, fuel, cs, x, ht, _, h => by
    have hu : P.underlying t = some .bool := by
      simp only [tyB_bool, Bool.and_eq_true] at ht
      have h2 := ht.2
      split at h2
      · assumption
      · cases h2
    obtain ⟨b, rfl, _⟩ := DataW.trod_bool hu h
    exact ⟨b, rfl, trivial⟩
  | .str, t, fuel, cs, x, ht, _, h => by
    cases fuel with
    | zero => simp [DataW.trod] at h
    | succ n =>
      unfold DataW.trod at h
      rw [und_str ht] at h
      split at h
      all_goals first
        | (rename_i s e; cases e; done)
        | skip
      all_goals simp_all
      exact ⟨_, ⟨_, rfl, rfl⟩, by
        show List.length _ ≤ maxLen
        rename_i s
        simpa using h.1⟩
  | .unit, t, fuel, cs, x, ht, _, h => by
    have ht' := ht
    simp only [tyB_unit, Bool.and_eq_true] at ht'
    obtain ⟨_, hu⟩ := ht'
    split at hu
    · rename_i fs hfs
      obtain ⟨xs, n, _, _, hl, _⟩ := DataW.trod_struct hfs h
      rw [ty_cells ht] at hl
      exact ⟨(), List.length_eq_zero_iff.1 hl, trivial⟩
    · cases hu
  | .pair a b, t, fuel, cs, x, ht, hs, h => by
    have ht' := ht
    simp only [tyB_pair, Bool.and_eq_true] at ht'
    obtain ⟨_, hu⟩ := ht'
    split at hu
    · rename_i fs hfs
      obtain ⟨xs, n, _, rfl, hl, hlen, hfld⟩ := DataW.trod_struct hfs h
      rw [ty_cells ht] at hl
      have := trod_flds (.pair a b) fs.toList 0 n cs hu hs (fun q hq => by
        obtain ⟨i, hi, rfl⟩ := List.getElem_of_mem hq
        have h1 := hfld i fs.toList[i] (by simp at hi; simp [hi])
        have h2 : i < xs.length := by rw [hlen]; simpa using hi
        exact ⟨xs[i], by rw [h1, List.getElem?_eq_getElem h2]⟩) (by rw [hl]; omega)
      simpa using this
    · cases hu
  | .arr n u, t, fuel, cs, x, ht, hs, h => by
    have ht' := ht
    simp only [tyB_arr, Bool.and_eq_true] at ht'
    obtain ⟨_, hu⟩ := ht'
    split at hu
    · rename_i m e hm
      simp only [Bool.and_eq_true] at hu
      obtain rfl := Nat.eq_of_beq_eq_true hu.1
      obtain ⟨xs, k, _, _, hl, hlen, hel⟩ := DataW.trod_array hm h
      have hc := ty_cells hu.2
      rw [ty_cells ht] at hl
      obtain ⟨l, g1, g2, g3⟩ := cat_of (W := W) (u := u) m 0 cs (by rw [hl]; simp [Ty.size]) (fun i hi => by
        have h1 := hel i hi
        rw [List.getElem?_eq_getElem (by omega), hc] at h1
        obtain ⟨q, q1, q2⟩ := trod_rel u e k _ _ hu.2 hs h1
        exact ⟨q, by simpa using q1, q2⟩)
      exact ⟨l, ⟨g1, by simpa using g2⟩, g1, g3⟩
    · cases hu
  | .slice u, t, fuel, cs, x, ht, hs, h => by
    obtain ⟨e, hu, he⟩ := slice_und ht
    simp only [Ty.solid, Bool.and_eq_true] at hs
    have h1 := Nat.le_of_ble_eq_true hs.1
    have hc := ty_cells he
    rcases Deep.open_slice hu h with ⟨rfl, _⟩ | ⟨a, len, cap, m, n, D, Pl, rfl, _, hl, hm, hmm, _, hel⟩
    · exact ⟨[], ⟨none, 0, rfl, Nat.le_refl _, fun h => by simp at h⟩, by simp [Ty.wf]⟩
    · have hle : len ≤ m := by rw [hmm]; split <;> omega
      have hcell : ∀ i, i < len → ∃ (q : u.den) (c : List Value), c.length = u.size ∧ TRel (Here W) W u c q ∧ u.wf q ∧ ∀ j v, c[j]? = some v → W.cell? (a.add ((0 + i) * u.size + j)) = some v := fun i hi => by
        obtain ⟨c, hcs, hd⟩ := hel i (by omega)
        obtain ⟨q, hq, hw⟩ := trod_rel u e _ _ _ he hs.2 hd
        obtain ⟨_, hlen, hcl⟩ := World.cells?_some hcs
        refine ⟨q, c, TRel.len u _ _ hq, hq, hw, fun j v hv => ?_⟩
        have hj : j < c.length := (List.getElem?_eq_some_iff.1 hv).1
        have k1 := hcl j (by omega)
        rw [Addr.add_add, hc] at k1
        rw [Nat.zero_add, k1, hv]
      obtain ⟨l, c, g1, g2, g3, g4⟩ := cat_build (W := W) (u := u) (a := a) len 0 hcell
      have hmx : len ≤ maxLen := by omega
      refine ⟨l, ⟨some a, cap, by rw [g1], by omega, fun hpos => ?_⟩, by omega, g3⟩
      have hlenc := Cat.len (TRel.len u) g2
      have h0 : 0 < c.length := by
        rw [hlenc]; exact Nat.mul_pos hpos h1
      have k1 := g4 0 c[0] (by rw [List.getElem?_eq_getElem h0])
      have k2 : W.cell? a = some c[0] := by simpa [Addr.add] using k1
      have k3 : a.spot = none ∧ a.block < W.heap.size := by
        unfold World.cell? at k2
        split at k2
        · rename_i hb
          split at k2
          · cases k2
          · rename_i hsp
            exact ⟨by simpa using hsp, heap_lt hb⟩
        · cases k2
      refine ⟨a, rfl, k3.1, k3.2, c, fun j v hv => ?_, g2⟩
      have := g4 j v hv
      simpa using this
  termination_by τ => (SizeOf.sizeOf τ, 1)
theorem trod_flds : ∀ (τ : Ty) (fs : List Field) (o fuel : Nat) (cs : List Value), fldB P τ fs o = true → τ.solid = true → (∀ f ∈ fs, ∃ y, DataW.trod enc P W base spare held fuel f.type ((cs.drop f.offset).take (P.cellsOf f.type)) = some y) → cs.length = o + τ.size → ∃ a : τ.den, TRel (Here W) W τ (cs.drop o) a ∧ τ.wf a
  | .pair x y, fs, o, fuel, cs, hf, hs, h, hl => by
    cases fs with
    | nil => simp [fldB_pair0] at hf
    | cons f fs =>
      simp only [fldB_pair1, Bool.and_eq_true] at hf
      simp only [Ty.solid, Bool.and_eq_true] at hs
      obtain rfl := Nat.eq_of_beq_eq_true hf.1
      obtain ⟨z, hz⟩ := h f (by simp)
      obtain ⟨a, ha, wa⟩ := trod_rel x f.type fuel _ _ hf.2.1 hs.1 hz
      obtain ⟨b, hb, wb⟩ := trod_flds y fs (f.offset + x.size) fuel cs hf.2.2 hs.2 (fun g hg => h g (List.mem_cons_of_mem _ hg)) (by rw [hl]; simp [Ty.size]; omega)
      rw [ty_cells hf.2.1] at ha
      exact ⟨(a, b), ⟨_, _, by rw [← List.drop_drop, List.take_append_drop], ha, hb⟩, wa, wb⟩
  | .unit, fs, o, fuel, cs, hf, _, _, hl => ⟨(), by
      show cs.drop o = []
      rw [List.drop_eq_nil_iff]; simp [Ty.size] at hl; omega, trivial⟩
  | .int _, _, _, _, _, hf, _, _, _ => by simp [fldB_int] at hf
  | .bool, _, _, _, _, hf, _, _, _ => by simp [fldB_bool] at hf
  | .str, _, _, _, _, hf, _, _, _ => by simp [fldB_str] at hf
  | .arr _ _, _, _, _, _, hf, _, _, _ => by simp [fldB_arr] at hf
  | .slice _, _, _, _, _, hf, _, _, _ => by simp [fldB_slice] at hf
  termination_by τ => (SizeOf.sizeOf τ, 0)
end
end
end Go.Proofs.YtkihjakbbcajbaaGreat.PM
