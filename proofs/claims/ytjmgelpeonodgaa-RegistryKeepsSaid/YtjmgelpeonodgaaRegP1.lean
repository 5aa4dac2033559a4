/- The registry's functions on lists of good parts, in plain words. -/
import Derived.Test.YtjmgelpeonodgaaZpm
import Derived.Test.YtjmgelpeonodgaaPlain0
namespace Go.Proofs.Ytjmgelpeonodgaa.PM
set_option linter.unusedSimpArgs false
set_option linter.unusedVariables false
open Go Go.Proofs Go.Proofs.Ytjmgelpeonodgaa.RP
def partOk (p : t7.den) : Prop := part_Check.F p = some (0, ())
/-- A list of good parts in the order of their tenants. -/
structure RegOk (l : List t7.den) : Prop where
  len : l.length ≤ 8
  ok : ∀ p ∈ l, partOk p
  inc : ∀ (i j : Nat) (hi : i < l.length) (hj : j < l.length), i < j → (l[i]).1 < (l[j]).1
theorem chk_loop {l : List t7.den} (H : RegOk l) : ∀ (k i : Nat), i + k = l.length → registry_Check.L2 l (l.length : Int) (i : Int) = some (0, ())
  | 0, i, h => by
    rw [registry_Check.L2_eq, bd_neg (by omega)]
  | k + 1, i, h => by
    have hl := H.len
    have hi : i < l.length := by omega
    rw [registry_Check.L2_eq, bd_pos (by omega), registry_Check.L3_eq, bd_pos (by omega)]
    simp only [toNat_cast]
    rw [getD_get hi, show part_Check.F l[i] = some (0, ()) from H.ok _ (List.getElem_mem hi), ob, bne_neg rfl]
    have next : registry_Check.L4 l (l.length : Int) (i : Int) = some (0, ()) := by
      rw [registry_Check.L4_eq, W_eq (by omega) (by omega), cast_add1]
      exact chk_loop H k (i + 1) (by omega)
    by_cases h0 : 0 < i
    · rw [bd_pos (by omega), W_eq (by omega) (by omega), bd_pos (by omega), toNat_sub1 h0, getD_get (by omega : i - 1 < l.length), bd_neg, next]
      exact Int.not_le.2 (H.inc (i - 1) i (by omega) hi (by omega))
    · rw [bd_neg (by omega), next]
theorem chk_ok {l : List t7.den} (H : RegOk l) : registry_Check.F l = some (0, ()) := by
  have hl := H.len
  rw [registry_Check.F_eq, bd_neg (by omega), registry_Check.L1_eq]
  exact chk_loop H l.length 0 (by omega)
theorem cmp_eq (x y : Int) : cmp_Compare.F x y = some ((if x < y then -1 else if y < x then 1 else 0), ()) := by
  rw [cmp_Compare.F_eq, cmp_isNaN.F_eq, ob, cmp_isNaN.F_eq, ob]
  simp only [bne_self_eq_false, cond_false]
  rw [cmp_Compare.L2_eq, cond_false, cmp_Compare.L3_eq]
  by_cases h1 : x < y
  · rw [bd_pos h1, if_pos h1]
  · rw [bd_neg h1, if_neg h1, cmp_Compare.L4_eq]
    by_cases h2 : y < x
    · rw [bd_pos h2, if_pos h2]
    · rw [bd_neg h2, if_neg h2, cmp_Compare.L5_eq]
/-- The place of a tenant in a list. -/
structure Cut (l : List t7.den) (t : Int) (c : Nat) : Prop where
  le : c ≤ l.length
  lo : ∀ (k : Nat) (h : k < l.length), k < c → (l[k]).1 < t
  hi : ∀ (k : Nat) (h : k < l.length), c ≤ k → t ≤ (l[k]).1
theorem mid_eq {i j : Nat} (h : i + j ≤ 1000) : IntKind.wrap .i64 (Int.fdiv (IntKind.wrap .u64 (IntKind.wrap .i64 ((i : Int) + (j : Int)))) (2 ^ min (Int.toNat 1) (IntKind.bits .u64))) = (((i + j) / 2 : Nat) : Int) := by
  have h1 : IntKind.wrap .i64 ((i : Int) + (j : Int)) = ((i + j : Nat) : Int) := by rw [W_eq (by omega) (by omega)]; omega
  have h2 : IntKind.wrap .u64 ((i + j : Nat) : Int) = ((i + j : Nat) : Int) := by rw [IntKind.wrap_u64]; omega
  rw [h1, h2]
  have h3 : (2 : Int) ^ min (Int.toNat 1) (IntKind.bits .u64) = 2 := by decide
  rw [h3]
  have h4 : Int.fdiv ((i + j : Nat) : Int) 2 = (((i + j) / 2 : Nat) : Int) := by
    rw [Int.fdiv_eq_ediv_of_nonneg _ (by decide)]; omega
  rw [h4, W_eq (by omega) (by omega)]
theorem find1_eq (p : t7.den) (t : Int) : registry_find_1.F p t = some ((if p.1 < t then -1 else if t < p.1 then 1 else 0), ()) := by
  rw [registry_find_1.F_eq, cmp_eq, ob]
theorem bs_loop {l : List t7.den} (hl : l.length ≤ 8) (inc : ∀ (i j : Nat) (hi : i < l.length) (hj : j < l.length), i < j → (l[i]).1 < (l[j]).1) (t : Int) : ∀ (k i j : Nat), i ≤ j → j - i ≤ k → j ≤ l.length → (∀ (m : Nat) (h : m < l.length), m < i → (l[m]).1 < t) → (∀ (m : Nat) (h : m < l.length), j ≤ m → t ≤ (l[m]).1) →
    ∃ c, Cut l t c ∧ slices_BinarySearchFunc.L1 l t (l.length : Int) (i : Int) (j : Int) = some ((c : Int), decide (∃ h : c < l.length, (l[c]).1 = t), ())
  | k, i, j, hij, hk, hj, lo, hi => by
    by_cases h : i < j
    · cases k with
      | zero => omega
      | succ k =>
      have hm : (i + j) / 2 < l.length := by omega
      rw [slices_BinarySearchFunc.L1_eq, bd_pos (by omega), slices_BinarySearchFunc.L2_eq, bd_pos (by decide)]
      simp only [mid_eq (by omega : i + j ≤ 1000)]
      rw [bd_pos (by omega)]
      simp only [toNat_cast]
      rw [getD_get hm, find1_eq, ob]
      by_cases hc : (l[(i + j) / 2]).1 < t
      · rw [if_pos hc, bd_pos (by decide), slices_BinarySearchFunc.L3_eq, W_eq (by omega) (by omega), cast_add1]
        refine bs_loop hl inc t k ((i + j) / 2 + 1) j (by omega) (by omega) hj (fun m h hmi => ?_) hi
        by_cases e : m = (i + j) / 2
        · subst e; exact hc
        · exact Int.lt_trans (inc m _ h hm (by omega)) hc
      · rw [if_neg hc, bd_neg (by split <;> decide), slices_BinarySearchFunc.L3_eq]
        refine bs_loop hl inc t k i ((i + j) / 2) (by omega) (by omega) (by omega) lo (fun m h hmi => ?_)
        by_cases e : m = (i + j) / 2
        · subst e; exact Int.not_lt.1 hc
        · exact Int.le_trans (Int.not_lt.1 hc) (Int.le_of_lt (inc _ m hm h (by omega)))
    · obtain rfl : i = j := by omega
      refine ⟨i, ⟨hj, lo, hi⟩, ?_⟩
      rw [slices_BinarySearchFunc.L1_eq, bd_neg (by omega)]
      by_cases hn : i < l.length
      · rw [bd_pos (by omega), bd_pos (by omega)]
        simp only [toNat_cast]
        rw [getD_get hn, find1_eq, ob, if_neg (Int.not_lt.2 (hi i hn (Nat.le_refl _)))]
        by_cases e : (l[i]).1 = t
        · rw [if_neg (by rw [e]; exact Int.lt_irrefl _), decide_eq_true ⟨hn, e⟩]; rfl
        · rw [if_pos (Int.lt_iff_le_and_ne.2 ⟨hi i hn (Nat.le_refl _), fun h => e h.symm⟩), decide_eq_false (fun ⟨_, h⟩ => e h)]; rfl
      · rw [bd_neg (by omega), decide_eq_false (fun ⟨h, _⟩ => hn h)]
theorem find_ok {l : List t7.den} (H : RegOk l) (t : Int) : ∃ c, Cut l t c ∧ registry_find.F l t = some ((c : Int), decide (∃ h : c < l.length, (l[c]).1 = t), ()) := by
  obtain ⟨c, h1, h2⟩ := bs_loop H.len H.inc t l.length 0 l.length (by omega) (by omega) (by omega) (fun m h hm => by omega) (fun m h hm => by omega)
  refine ⟨c, h1, ?_⟩
  rw [registry_find.F_eq, slices_BinarySearchFunc.F_eq]
  rw [show ((0 : Nat) : Int) = 0 from rfl] at h2
  rw [h2]; rfl
theorem Find_ok {l : List t7.den} (H : RegOk l) (t : Int) : (∃ (c : Nat) (h : c < l.length), (l[c]).1 = t ∧ registry_Find.F l t = some ((c : Int), 0, ())) ∨ ((∀ p ∈ l, p.1 ≠ t) ∧ registry_Find.F l t = some (0, 6, ())) := by
  obtain ⟨c, h1, h2⟩ := find_ok H t
  rw [registry_Find.F_eq, chk_ok H, ob, bne_neg rfl, registry_Find.L1_eq, h2, ob]
  by_cases hf : ∃ h : c < l.length, (l[c]).1 = t
  · left
    obtain ⟨h, e⟩ := hf
    refine ⟨c, h, e, ?_⟩
    rw [decide_eq_true ⟨h, e⟩]
    exact registry_Find.L2_eq _
  · right
    refine ⟨fun p hp e => ?_, by rw [decide_eq_false hf]; rfl⟩
    obtain ⟨k, hk, rfl⟩ := List.getElem_of_mem hp
    by_cases hkc : k < c
    · exact absurd e (Int.ne_of_lt (h1.lo k hk hkc))
    · have hc : c < l.length := by omega
      have h3 := h1.hi c hc (Nat.le_refl _)
      by_cases ek : k = c
      · subst ek; exact hf ⟨hc, e⟩
      · have := H.inc c k hc hk (by omega)
        rw [e] at this
        exact absurd h3 (Int.not_le.2 this)
/-- A part that can be copied. -/
def fit (p : t7.den) : Prop := registry_copied.F p = some (p, ())
theorem all_loop {l : List t7.den} (hl : l.length ≤ 8) (hf : ∀ p ∈ l, fit p) : ∀ (k i : Nat), i + k = l.length → registry_all.L1 l (l.length : Int) (i : Int) (l.take i) = some (l, ())
  | 0, i, h => by
    rw [registry_all.L1_eq, bd_neg (by omega), List.take_of_length_le (by omega)]
  | k + 1, i, h => by
    have hi : i < l.length := by omega
    rw [registry_all.L1_eq, bd_pos (by omega), registry_all.L2_eq, bd_pos (by omega)]
    simp only [toNat_cast]
    rw [getD_get hi, show registry_copied.F l[i] = some (l[i], ()) from hf _ (List.getElem_mem hi), ob]
    rw [lim_ok_small (by decide) (by simp; omega), W_eq (by omega) (by omega), cast_add1]
    show registry_all.L1 l (l.length : Int) ((i + 1 : Nat) : Int) (l.take i ++ [l[i]]) = _
    rw [List.take_append_getElem hi]
    exact all_loop hl hf k (i + 1) (by omega)
theorem all_ok {l : List t7.den} (hl : l.length ≤ 8) (hf : ∀ p ∈ l, fit p) : registry_all.F l = some (l, ()) := by
  rw [registry_all.F_eq]
  exact all_loop hl hf l.length 0 (by omega)
/-- A tenant that is there is dropped. -/
theorem Drop_ok {l : List t7.den} (H : RegOk l) (hf : ∀ p ∈ l, fit p) (t : Int) : (∃ (c : Nat) (h : c < l.length), (l[c]).1 = t ∧ registry_Drop.F l t = some (l.take c ++ l.drop (c + 1), 0, ())) ∨ ((∀ p ∈ l, p.1 ≠ t) ∧ registry_Drop.F l t = some ([], 6, ())) := by
  have hl := H.len
  rw [registry_Drop.F_eq]
  rcases Find_ok H t with ⟨c, h, e, h2⟩ | ⟨h1, h2⟩
  · left
    refine ⟨c, h, e, ?_⟩
    rw [h2, ob, bne_neg rfl, registry_Drop.L1_eq, all_ok hl hf, ob, W_eq (by omega) (by omega), bd_pos (by dsimp only; omega), cast_add1]
    simp only [toNat_cast]
  · right
    refine ⟨h1, ?_⟩
    rw [h2, ob, bne_pos (by decide)]
/-- A part is put into a list. -/
theorem Put_ok {l : List t7.den} (H : RegOk l) (hf : ∀ p ∈ l, fit p) {p : t7.den} (hp : partOk p) (hpf : fit p) : (∃ (c : Nat) (h : c < l.length), (l[c]).1 = p.1 ∧ registry_Put.F l p = some ([], 14, ())) ∨ ((∀ q ∈ l, q.1 ≠ p.1) ∧ ((l.length = 8 ∧ registry_Put.F l p = some ([], 18, ())) ∨ (l.length < 8 ∧ ∃ c, Cut l p.1 c ∧ registry_Put.F l p = some (l.take c ++ [p] ++ l.drop c, 0, ())))) := by
  have hl := H.len
  rw [registry_Put.F_eq, chk_ok H, ob, bne_neg rfl, registry_Put.L1_eq]
  rw [show part_Check.F _ = some (0, ()) from hp, ob, bne_neg rfl, registry_Put.L2_eq]
  obtain ⟨c, h1, h2⟩ := find_ok H p.1
  rw [h2, ob]
  by_cases hx : ∃ h : c < l.length, (l[c]).1 = p.1
  · left
    obtain ⟨h, e⟩ := hx
    exact ⟨c, h, e, by rw [decide_eq_true ⟨h, e⟩]; rfl⟩
  · right
    refine ⟨fun q hq e => ?_, ?_⟩
    · obtain ⟨k, hk, rfl⟩ := List.getElem_of_mem hq
      by_cases hkc : k < c
      · exact absurd e (Int.ne_of_lt (h1.lo k hk hkc))
      · have hc : c < l.length := by omega
        have h3 := h1.hi c hc (Nat.le_refl _)
        by_cases ek : k = c
        · subst ek; exact hx ⟨hc, e⟩
        · have := H.inc c k hc hk (by omega)
          rw [e] at this
          exact absurd h3 (Int.not_le.2 this)
    · rw [decide_eq_false hx]
      dsimp only [cond_false]
      rw [registry_Put.L3_eq]
      by_cases h8 : l.length = 8
      · left
        exact ⟨h8, by rw [beq_pos (by omega)]⟩
      · right
        refine ⟨by omega, c, h1, ?_⟩
        have := h1.le
        rw [beq_neg (by omega), registry_Put.L4_eq, all_ok hl hf, ob, show registry_copied.F _ = some (p, ()) from hpf, ob]
        simp only [toNat_cast]
        rw [decide_eq_true (show (0 : Int) ≤ (c : Int) ∧ (c : Int) ≤ (l.length : Int) by omega), Bool.true_and, lim_ok_small (by decide) (by simp; omega)]
end Go.Proofs.Ytjmgelpeonodgaa.PM
