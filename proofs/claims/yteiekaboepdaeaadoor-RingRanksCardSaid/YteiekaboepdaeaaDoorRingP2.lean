/- Sorting by insertion: what the program's sort and the reference's rank do to a list. -/
import Derived.Test.YteiekaboepdaeaaDoorRingP1
namespace Go.Proofs.YteiekaboepdaeaaDoor.RP
set_option linter.unusedSimpArgs false
set_option linter.unusedVariables false
open Go Go.Proofs Go.Proofs.YteiekaboepdaeaaDoor.PM
section
variable {α β : Type}
/-- Where a thing goes: behind the last one whose key is not less. -/
def cut (f : α → Int) (d x : α) (A : List α) : Nat → Nat
  | 0 => 0
  | j + 1 => if f (A.getD j d) < f x then cut f d x A j else j + 1
def insC (f : α → Int) (d x : α) (A : List α) : List α := A.take (cut f d x A A.length) ++ x :: A.drop (cut f d x A A.length)
theorem cut_le (f : α → Int) (d x : α) (A : List α) : ∀ j, cut f d x A j ≤ j
  | 0 => Nat.le_refl _
  | j + 1 => by
    unfold cut
    split
    · exact Nat.le_succ_of_le (cut_le f d x A j)
    · exact Nat.le_refl _
theorem insC_len (f : α → Int) (d x : α) (A : List α) : (insC f d x A).length = A.length + 1 := by
  have := cut_le f d x A A.length
  unfold insC
  simp only [List.length_append, List.length_cons, List.length_take, List.length_drop]
  omega
theorem insC_perm (f : α → Int) (d x : α) (A : List α) : (insC f d x A).Perm (x :: A) := by
  unfold insC
  refine List.perm_middle.trans ?_
  rw [List.take_append_drop]
theorem cut_map (g : α → β) (f : β → Int) (d x : α) (A : List α) : ∀ j, j ≤ A.length → cut f (g d) (g x) (A.map g) j = cut (f ∘ g) d x A j
  | 0, _ => rfl
  | j + 1, h => by
    unfold cut
    rw [cut_map g f d x A j (by omega)]
    have : (A.map g).getD j (g d) = g (A.getD j d) := by
      rw [getD_get (by simp; omega), getD_get (by omega)]; simp
    rw [this]; rfl
theorem insC_map (g : α → β) (f : β → Int) (d x : α) (A : List α) : insC f (g d) (g x) (A.map g) = (insC (f ∘ g) d x A).map g := by
  unfold insC
  rw [List.length_map, cut_map g f d x A A.length (Nat.le_refl _)]
  simp
/-- All of them, one after another. -/
def sortC (f : α → Int) (d : α) : List α → List α → List α
  | [], A => A
  | x :: l, A => sortC f d l (insC f d x A)
theorem sortC_perm (f : α → Int) (d : α) : ∀ l A : List α, (sortC f d l A).Perm (l ++ A)
  | [], A => List.Perm.refl _
  | x :: l, A => by
    refine (sortC_perm f d l (insC f d x A)).trans ?_
    refine ((insC_perm f d x A).append_left l).trans ?_
    exact List.perm_middle
theorem sortC_len (f : α → Int) (d : α) (l A : List α) : (sortC f d l A).length = l.length + A.length := by
  rw [(sortC_perm f d l A).length_eq, List.length_append]
theorem sortC_map (g : α → β) (f : β → Int) (d : α) : ∀ l A : List α, sortC f (g d) (l.map g) (A.map g) = (sortC (f ∘ g) d l A).map g
  | [], A => rfl
  | x :: l, A => by
    show sortC f (g d) (l.map g) (insC f (g d) (g x) (A.map g)) = _
    rw [insC_map, sortC_map g f d l]; rfl
theorem sortC_app (f : α → Int) (d : α) : ∀ l l' A : List α, sortC f d (l ++ l') A = sortC f d l' (sortC f d l A)
  | [], _, _ => rfl
  | x :: l, l', A => sortC_app f d l l' _
theorem swap_at {p q : List α} {x y : α} {j : Nat} (hj : j = p.length) : ((p ++ y :: x :: q).set (j + 1) y).set j x = p ++ x :: y :: q := by
  subst hj
  simp [List.set_append]
end
/- order -/
/-- Keys fall, and where they are the same things rise. -/
def Bef (f : Int → Int) (a b : Int) : Prop := f b < f a ∨ (f a = f b ∧ a < b)
theorem Bef.trans {f : Int → Int} {a b c : Int} (h : Bef f a b) (k : Bef f b c) : Bef f a c := by
  unfold Bef at *; omega
theorem Bef.irr {f : Int → Int} {a : Int} : ¬ Bef f a a := by unfold Bef; omega
theorem Bef.tri {f : Int → Int} (a b : Int) : Bef f a b ∨ a = b ∨ Bef f b a := by unfold Bef; omega
/-- In a list that is sorted, what is put in stands behind all that are not less. -/
theorem insC_sorted {f : Int → Int} {x : Int} {A : List Int} (hs : A.Pairwise (Bef f)) (hx : ∀ a ∈ A, a < x) : (insC f 0 x A).Pairwise (Bef f) := by
  have key : ∀ j, j ≤ A.length → (∀ i, (h : i < A.length) → j ≤ i → f A[i] < f x) → (∀ i, (h : i < A.length) → cut f 0 x A j ≤ i → f A[i] < f x) ∧ (∀ i, (h : i < A.length) → i < cut f 0 x A j → ¬ f A[i] < f x) := by
    intro j
    induction j with
    | zero => exact fun _ h => ⟨h, fun i _ hi => by simp [cut] at hi⟩
    | succ j ih =>
      intro hj hall
      unfold cut
      rw [getD_get (by omega)]
      split
      · rename_i hlt
        exact ih (by omega) (fun i h hi => by
          by_cases e : i = j
          · subst e; exact hlt
          · exact hall i h (by omega))
      · rename_i hge
        refine ⟨hall, fun i h hi => ?_⟩
        by_cases e : i = j
        · subst e; exact hge
        · have := List.pairwise_iff_getElem.1 hs i j h (by omega) (by omega)
          unfold Bef at this; omega
  obtain ⟨k1, k2⟩ := key A.length (Nat.le_refl _) (fun i h hi => by omega)
  have hc := cut_le f 0 x A A.length
  unfold insC
  generalize cut f 0 x A A.length = c at k1 k2 hc
  rw [List.pairwise_append]
  refine ⟨hs.sublist (List.take_sublist _ _), List.pairwise_cons.2 ⟨fun y hy => ?_, hs.sublist (List.drop_sublist _ _)⟩, fun y hy z hz => ?_⟩
  · obtain ⟨i, hi, rfl⟩ := List.getElem_of_mem hy
    rw [List.length_drop] at hi
    rw [List.getElem_drop]
    exact .inl (k1 (c + i) (by omega) (by omega))
  · obtain ⟨i, hi, rfl⟩ := List.getElem_of_mem hy
    rw [List.length_take] at hi
    rw [List.getElem_take]
    have hxi := hx A[i] (List.getElem_mem _)
    have h2 := k2 i (by omega) (by omega)
    have hB : Bef f A[i] x := by unfold Bef; omega
    rcases List.mem_cons.1 hz with rfl | hz
    · exact hB
    · obtain ⟨m, hm, rfl⟩ := List.getElem_of_mem hz
      rw [List.length_drop] at hm
      rw [List.getElem_drop]
      exact hB.trans (.inl (k1 (c + m) (by omega) (by omega)))
theorem sortC_sorted {f : Int → Int} : ∀ l A : List Int, l.Pairwise (· < ·) → A.Pairwise (Bef f) → (∀ a ∈ A, ∀ x ∈ l, a < x) → (sortC f 0 l A).Pairwise (Bef f)
  | [], _, _, hs, _ => hs
  | x :: l, A, hl, hs, h => by
    obtain ⟨h1, h2⟩ := List.pairwise_cons.1 hl
    refine sortC_sorted l (insC f 0 x A) h2 (insC_sorted hs (fun a ha => h a ha x (by simp))) (fun a ha y hy => ?_)
    rcases List.mem_cons.1 ((insC_perm f 0 x A).mem_iff.1 ha) with rfl | ha
    · exact h1 y hy
    · exact h a ha y (by simp [hy])
/-- Sorted lists of the same things are the same. -/
theorem sorted_eq {R : Int → Int → Prop} (irr : ∀ a, ¬ R a a) (asym : ∀ a b, R a b → ¬ R b a) : ∀ {l l' : List Int}, l.Pairwise R → l'.Pairwise R → l.Perm l' → l = l'
  | [], l', _, _, h => (List.Perm.nil_eq h)
  | a :: l, [], _, _, h => by have := h.length_eq; simp at this
  | a :: l, b :: l', h1, h2, h => by
    obtain ⟨k1, k2⟩ := List.pairwise_cons.1 h1
    obtain ⟨k3, k4⟩ := List.pairwise_cons.1 h2
    have hab : a = b := by
      rcases List.mem_cons.1 (h.mem_iff.1 (List.mem_cons_self ..)) with e | ha
      · exact e
      · rcases List.mem_cons.1 (h.mem_iff.2 (List.mem_cons_self ..)) with e | hb
        · exact e.symm
        · exact absurd (k1 b hb) (asym b a (k3 a ha))
    subst hab
    rw [sorted_eq irr asym k2 k4 (List.Perm.cons_inv h)]
/- keys: bytes as one number -/
def val : List Int → Int
  | [] => 0
  | x :: xs => x * 256 ^ xs.length + val xs
def Bytes (l : List Int) : Prop := ∀ x ∈ l, 0 ≤ x ∧ x < 256
theorem val_lt : ∀ l : List Int, Bytes l → 0 ≤ val l ∧ val l < 256 ^ l.length
  | [], _ => by simp [val]
  | x :: xs, h => by
    obtain ⟨h1, h2⟩ := val_lt xs (fun y hy => h y (by simp [hy]))
    obtain ⟨h3, h4⟩ := h x (by simp)
    have hk : (0 : Int) < 256 ^ xs.length := Int.pow_pos (by decide)
    have e1 : 0 ≤ x * 256 ^ xs.length := Int.mul_nonneg h3 (Int.le_of_lt hk)
    have e2 : (x + 1) * 256 ^ xs.length ≤ 256 * 256 ^ xs.length := Int.mul_le_mul_of_nonneg_right (by omega) (Int.le_of_lt hk)
    have e3 : (256 : Int) ^ (x :: xs).length = 256 * 256 ^ xs.length := by rw [List.length_cons, Int.pow_succ, Int.mul_comm]
    rw [Int.add_mul, Int.one_mul] at e2
    rw [e3]
    unfold val
    omega
theorem cmpB_val : ∀ a b : List Int, Bytes a → Bytes b → a.length = b.length → (cmpB a b < 0 ↔ val a < val b) ∧ (val a = val b → a = b)
  | [], [], _, _, _ => by simp [cmpB, val]
  | [], _ :: _, _, _, h => by simp at h
  | _ :: _, [], _, _, h => by simp at h
  | x :: xs, y :: ys, ha, hb, h => by
    have hl : xs.length = ys.length := by simpa using h
    obtain ⟨i1, i2⟩ := cmpB_val xs ys (fun z hz => ha z (by simp [hz])) (fun z hz => hb z (by simp [hz])) hl
    obtain ⟨h1, h2⟩ := val_lt xs (fun z hz => ha z (by simp [hz]))
    obtain ⟨h3, h4⟩ := val_lt ys (fun z hz => hb z (by simp [hz]))
    obtain ⟨hx1, hx2⟩ := ha x (by simp)
    obtain ⟨hy1, hy2⟩ := hb y (by simp)
    have ex : x.toNat % 256 = x.toNat := by omega
    have ey : y.toNat % 256 = y.toNat := by omega
    have hk : (0 : Int) < 256 ^ xs.length := Int.pow_pos (by decide)
    rw [← hl] at h4
    unfold val cmpB
    rw [ex, ey, ← hl]
    generalize hK : (256 : Int) ^ xs.length = K at *
    by_cases c1 : x < y
    · have : Nat.blt x.toNat y.toNat = true := by rw [Nat.blt_eq]; omega
      have e2 : (x + 1) * K ≤ y * K := Int.mul_le_mul_of_nonneg_right (by omega) (Int.le_of_lt hk)
      rw [Int.add_mul, Int.one_mul] at e2
      rw [this]
      simp only [cond_true]
      constructor
      · constructor <;> intro <;> omega
      · intro; omega
    · have n1 : Nat.blt x.toNat y.toNat = false := by
        rw [← Bool.not_eq_true, Nat.blt_eq]; omega
      by_cases c2 : y < x
      · have : Nat.blt y.toNat x.toNat = true := by rw [Nat.blt_eq]; omega
        have e2 : (y + 1) * K ≤ x * K := Int.mul_le_mul_of_nonneg_right (by omega) (Int.le_of_lt hk)
        rw [Int.add_mul, Int.one_mul] at e2
        rw [n1, this]
        simp only [cond_true, cond_false]
        constructor
        · constructor <;> intro <;> omega
        · intro; omega
      · have n2 : Nat.blt y.toNat x.toNat = false := by
          rw [← Bool.not_eq_true, Nat.blt_eq]; omega
        obtain rfl : x = y := by omega
        rw [n1]
        simp only [cond_false]
        constructor
        · rw [i1]; omega
        · intro e
          rw [i2 (by omega)]
end Go.Proofs.YteiekaboepdaeaaDoor.RP
