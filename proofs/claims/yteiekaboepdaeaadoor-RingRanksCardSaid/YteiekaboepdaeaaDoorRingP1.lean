/- Plain laws of lists: what Check, Same, In and their like answer. -/
import Derived.Test.YteiekaboepdaeaaDoorZpm
import Derived.Test.YteiekaboepdaeaaDoorPlain0
namespace Go.Proofs.YteiekaboepdaeaaDoor.RP
set_option linter.unusedSimpArgs false
set_option linter.unusedVariables false
open Go Go.Proofs Go.Proofs.YteiekaboepdaeaaDoor.PM
/-- Strictly increasing. -/
def Asc (l : List Int) : Prop := ∀ j, 0 < j → j < l.length → l.getD (j - 1) 0 < l.getD j 0
theorem Check_loop {l : List Int} (hl : l.length ≤ 12) : ∀ m k : Nat, k + m = l.length →
    ((∀ j, k ≤ j → 0 < j → j < l.length → l.getD (j - 1) 0 < l.getD j 0) → ring_Check.L2 l (l.length : Int) (k : Int) = some (0, ())) ∧
    (∀ j, k ≤ j → 0 < j → j < l.length → ¬ l.getD (j - 1) 0 < l.getD j 0 → ring_Check.L2 l (l.length : Int) (k : Int) = some (8, ()))
  | 0, k, hk => by
    refine ⟨fun _ => ?_, fun j h1 _ h2 => by omega⟩
    rw [ring_Check.L2_eq, bd_neg (by omega)]
  | m + 1, k, hk => by
    obtain ⟨i1, i2⟩ := Check_loop hl m (k + 1) (by omega)
    have step : ring_Check.L4 l (l.length : Int) (k : Int) = ring_Check.L2 l (l.length : Int) ((k + 1 : Nat) : Int) := by
      rw [ring_Check.L4_eq, W_eq (by omega) (by omega), cast_add1]
    rw [ring_Check.L2_eq, bd_pos (by omega), ring_Check.L3_eq]
    by_cases h0 : k = 0
    · subst h0
      rw [bd_neg (by omega), step]
      exact ⟨fun h => i1 (fun j h1 => h j (by omega)), fun j h1 h2 => i2 j (by omega) h2⟩
    · rw [bd_pos (by omega), bd_pos (by omega), W_eq (by omega) (by omega), bd_pos (by omega), toNat_cast, toNat_sub1 (by omega)]
      by_cases hp : l.getD (k - 1) 0 < l.getD k 0
      · rw [bd_neg (by omega), step]
        refine ⟨fun h => i1 (fun j h1 => h j (by omega)), fun j h1 h2 h3 h4 => ?_⟩
        by_cases hj : j = k
        · subst hj; exact absurd hp h4
        · exact i2 j (by omega) h2 h3 h4
      · rw [bd_pos (by omega)]
        exact ⟨fun h => absurd (h k (by omega) (by omega) (by omega)) hp, fun _ _ _ _ _ => rfl⟩
open Classical in
/-- What Check answers. -/
noncomputable def chk (l : List Int) : Int := if 12 < l.length then 4 else if Asc l then 0 else 8
theorem chk_zero {l : List Int} : chk l = 0 ↔ l.length ≤ 12 ∧ Asc l := by
  unfold chk
  split
  · constructor
    · intro h; omega
    · intro h; omega
  · split
    · exact ⟨fun _ => ⟨by omega, by assumption⟩, fun _ => rfl⟩
    · constructor
      · intro h; omega
      · intro h; exact absurd h.2 (by assumption)
theorem Check_F (l : List Int) : ring_Check.F l = some (chk l, ()) := by
  rw [ring_Check.F_eq]
  unfold chk
  by_cases h : 12 < l.length
  · rw [bd_pos (by omega), if_pos h]
  · rw [bd_neg (by omega), if_neg h, ring_Check.L1_eq]
    obtain ⟨h1, h2⟩ := Check_loop (l := l) (by omega) l.length 0 (by omega)
    by_cases ha : Asc l
    · rw [if_pos ha]; exact h1 (fun j _ h0 hj => ha j h0 hj)
    · rw [if_neg ha]
      obtain ⟨j, hj⟩ := Classical.not_forall.1 ha
      obtain ⟨h0, hj⟩ := Classical.not_forall.1 hj
      obtain ⟨hl, hj⟩ := Classical.not_forall.1 hj
      exact h2 j (by omega) h0 hl hj
theorem RCheck_loop {l : List Int} (hl : l.length ≤ 12) : ∀ m k : Nat, k + m = l.length → 0 < k →
    ((∀ j, k ≤ j → 0 < j → j < l.length → l.getD (j - 1) 0 < l.getD j 0) → spigotref41_Check.L2 l (k : Int) = some (0, ())) ∧
    (∀ j, k ≤ j → 0 < j → j < l.length → ¬ l.getD (j - 1) 0 < l.getD j 0 → spigotref41_Check.L2 l (k : Int) = some (8, ()))
  | 0, k, hk, _ => by
    refine ⟨fun _ => ?_, fun j h1 _ h2 => by omega⟩
    rw [spigotref41_Check.L2_eq, bd_neg (by omega)]
  | m + 1, k, hk, h0 => by
    obtain ⟨i1, i2⟩ := RCheck_loop hl m (k + 1) (by omega) (by omega)
    have step : spigotref41_Check.L4 l (k : Int) = spigotref41_Check.L2 l ((k + 1 : Nat) : Int) := by
      rw [spigotref41_Check.L4_eq, W_eq (by omega) (by omega), cast_add1]
    rw [spigotref41_Check.L2_eq, bd_pos (by omega), spigotref41_Check.L3_eq, bd_pos (by omega), W_eq (by omega) (by omega), bd_pos (by omega), toNat_cast, toNat_sub1 (by omega)]
    by_cases hp : l.getD (k - 1) 0 < l.getD k 0
    · rw [bd_neg (by omega), step]
      refine ⟨fun h => i1 (fun j h1 => h j (by omega)), fun j h1 h2 h3 h4 => ?_⟩
      by_cases hj : j = k
      · subst hj; exact absurd hp h4
      · exact i2 j (by omega) h2 h3 h4
    · rw [bd_pos (by omega)]
      exact ⟨fun h => absurd (h k (by omega) (by omega) (by omega)) hp, fun _ _ _ _ _ => rfl⟩
theorem RCheck_F (l : List Int) : spigotref41_Check.F l = some (chk l, ()) := by
  rw [spigotref41_Check.F_eq]
  unfold chk
  by_cases h : 12 < l.length
  · rw [bd_pos (by omega), if_pos h]
  · rw [bd_neg (by omega), if_neg h, spigotref41_Check.L1_eq]
    by_cases hn : l.length = 0
    · have ha : Asc l := fun j h1 h2 => by omega
      rw [if_pos ha, spigotref41_Check.L2_eq, bd_neg (by omega)]
    · obtain ⟨h1, h2⟩ := RCheck_loop (l := l) (by omega) (l.length - 1) 1 (by omega) (by omega)
      by_cases ha : Asc l
      · rw [if_pos ha]; exact h1 (fun j _ h0 hj => ha j h0 hj)
      · rw [if_neg ha]
        obtain ⟨j, hj⟩ := Classical.not_forall.1 ha
        obtain ⟨h0, hj⟩ := Classical.not_forall.1 hj
        obtain ⟨hl, hj⟩ := Classical.not_forall.1 hj
        exact h2 j (by omega) h0 hl hj
theorem Same_loop {a b : List Int} (hl : a.length = b.length) (hm : a.length ≤ maxLen) : ∀ m k : Nat, k + m = a.length → a.take k = b.take k → spigotref41_Same.L2 a b (k : Int) = some (decide (a = b), ())
  | 0, k, hk, h => by
    rw [spigotref41_Same.L2_eq, bd_neg (by omega)]
    have : a = b := by
      rw [← List.take_of_length_le (l := a) (i := k) (by omega), ← List.take_of_length_le (l := b) (i := k) (by omega)]; exact h
    simp [this]
  | m + 1, k, hk, h => by
    simp only [maxLen] at hm
    rw [spigotref41_Same.L2_eq, bd_pos (by omega), spigotref41_Same.L3_eq, bd_pos (by omega), bd_pos (by omega), toNat_cast]
    by_cases hp : a.getD k 0 = b.getD k 0
    · rw [bne_neg hp, spigotref41_Same.L4_eq, W_eq (by omega) (by omega), cast_add1]
      refine Same_loop hl (by simpa [maxLen] using hm) m (k + 1) (by omega) ?_
      rw [← tk_getD (d := 0) (by omega : k < a.length), ← tk_getD (d := 0) (by omega : k < b.length), h, hp]
    · rw [bne_pos hp]
      have : a ≠ b := fun e => hp (by rw [e])
      simp [this]
theorem Same_F {a b : List Int} (hm : a.length ≤ maxLen) : spigotref41_Same.F a b = some (decide (a = b), ()) := by
  rw [spigotref41_Same.F_eq]
  by_cases h : a.length = b.length
  · rw [bne_neg (by omega), spigotref41_Same.L1_eq]
    exact Same_loop h hm a.length 0 (by omega) rfl
  · rw [bne_pos (by omega)]
    have : a ≠ b := fun e => h (by rw [e])
    simp [this]
theorem SameInts_loop {a b : List Int} (hl : a.length = b.length) (hm : a.length ≤ maxLen) : ∀ m k : Nat, k + m = a.length → a.take k = b.take k → spigotref41_SameInts.L2 a b (k : Int) = some (decide (a = b), ())
  | 0, k, hk, h => by
    rw [spigotref41_SameInts.L2_eq, bd_neg (by omega)]
    have : a = b := by
      rw [← List.take_of_length_le (l := a) (i := k) (by omega), ← List.take_of_length_le (l := b) (i := k) (by omega)]; exact h
    simp [this]
  | m + 1, k, hk, h => by
    simp only [maxLen] at hm
    rw [spigotref41_SameInts.L2_eq, bd_pos (by omega), spigotref41_SameInts.L3_eq, bd_pos (by omega), bd_pos (by omega), toNat_cast]
    by_cases hp : a.getD k 0 = b.getD k 0
    · rw [bne_neg hp, spigotref41_SameInts.L4_eq, W_eq (by omega) (by omega), cast_add1]
      refine SameInts_loop hl (by simpa [maxLen] using hm) m (k + 1) (by omega) ?_
      rw [← tk_getD (d := 0) (by omega : k < a.length), ← tk_getD (d := 0) (by omega : k < b.length), h, hp]
    · rw [bne_pos hp]
      have : a ≠ b := fun e => hp (by rw [e])
      simp [this]
theorem SameInts_F {a b : List Int} (hm : a.length ≤ maxLen) : spigotref41_SameInts.F a b = some (decide (a = b), ()) := by
  rw [spigotref41_SameInts.F_eq]
  by_cases h : a.length = b.length
  · rw [bne_neg (by omega), spigotref41_SameInts.L1_eq]
    exact SameInts_loop h hm a.length 0 (by omega) rfl
  · rw [bne_pos (by omega)]
    have : a ≠ b := fun e => h (by rw [e])
    simp [this]
end Go.Proofs.YteiekaboepdaeaaDoor.RP
