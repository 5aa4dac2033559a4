/- The registry's functions and the answer's on any lists that are not great. -/
import Derived.Test.YtjmgelpeonodgaaRegP1
import Derived.Test.YtjmgelpeonodgaaTbR3
import Derived.Test.YtjmgelpeonodgaaPM29
namespace Go.Proofs.Ytjmgelpeonodgaa.TB
set_option linter.unusedSimpArgs false
set_option linter.unusedVariables false
open Go Go.Proofs Go.Proofs.Ytjmgelpeonodgaa.PM Go.Proofs.Ytjmgelpeonodgaa.RP
/-! ### sizes -/
structure TSmall (t : t5.den) : Prop where
  keys : ¬ (List.length t.2.1 : Int) > 100
  bks : ¬ (List.length t.2.2.1 : Int) > 100
  idx : ¬ (List.length t.2.2.2.2.1 : Int) > 100
  next : ¬ (List.length t.2.2.2.1.1 : Int) > 100
  used : ¬ (List.length t.2.2.2.1.2.1 : Int) > 100
  prev : ¬ (List.length t.2.2.2.2.2.1.1 : Int) > 100
  nxt : ¬ (List.length t.2.2.2.2.2.1.2.1 : Int) > 100
structure PSmall (p : t7.den) : Prop where
  us : TSmall p.2.2.2.1
  es : TSmall p.2.2.2.2.1
  rev : ¬ (List.length p.2.2.2.2.2.1 : Int) > 100
theorem great16_f (t : t5.den) : (TSmall t ∧ spigotref16_Great.F t = some (false, ())) ∨ spigotref16_Great.F t = some (true, ()) := by
  rw [spigotref16_Great.F_eq]
  by_cases h1 : (List.length t.2.1 : Int) > 100
  · rw [bd_pos h1]; exact .inr rfl
  by_cases h2 : (List.length t.2.2.1 : Int) > 100
  · rw [bd_neg h1, bd_pos h2]; exact .inr rfl
  by_cases h3 : (List.length t.2.2.2.2.1 : Int) > 100
  · rw [bd_neg h1, bd_neg h2, bd_pos h3]; exact .inr rfl
  rw [bd_neg h1, bd_neg h2, bd_neg h3, spigotref13_Great.F_eq]
  by_cases h4 : (List.length t.2.2.2.1.1 : Int) > 100
  · rw [bd_pos h4]; exact .inr rfl
  rw [bd_neg h4, ob]
  by_cases h5 : (List.length t.2.2.2.1.2.1 : Int) > 100
  · rw [decide_eq_true h5]; exact .inr rfl
  rw [decide_eq_false h5, bf rfl, spigotref15_Great.F_eq]
  by_cases h6 : (List.length t.2.2.2.2.2.1.1 : Int) > 100
  · rw [bd_pos h6]; exact .inr rfl
  rw [bd_neg h6, ob]
  by_cases h7 : (List.length t.2.2.2.2.2.1.2.1 : Int) > 100
  · rw [decide_eq_true h7]; exact .inr rfl
  · rw [decide_eq_false h7]; exact .inl ⟨⟨h1, h2, h3, h4, h5, h6, h7⟩, rfl⟩
theorem great18_f (p : t7.den) : (PSmall p ∧ spigotref18_Great.F p = some (false, ())) ∨ spigotref18_Great.F p = some (true, ()) := by
  rw [spigotref18_Great.F_eq]
  rcases great16_f p.2.2.2.1 with ⟨h1, e1⟩ | e1
  · rw [e1, ob, bf rfl]
    rcases great16_f p.2.2.2.2.1 with ⟨h2, e2⟩ | e2
    · rw [e2, ob, bf rfl]
      by_cases h3 : (List.length p.2.2.2.2.2.1 : Int) > 100
      · rw [decide_eq_true h3]; exact .inr rfl
      · rw [decide_eq_false h3]; exact .inl ⟨⟨h1, h2, h3⟩, rfl⟩
    · rw [e2]; exact .inr rfl
  · rw [e1]; exact .inr rfl
theorem great19_f {l : List t7.den} : (l.length ≤ 20 ∧ (∀ p ∈ l, PSmall p) ∧ spigotref19_Great.F l = some (false, ())) ∨ spigotref19_Great.F l = some (true, ()) := by
  have key : ∀ k i : Nat, i + k = 21 → i ≤ l.length → (∀ j : Nat, j < i → ∀ h : j < l.length, PSmall l[j]) → (l.length ≤ 20 ∧ (∀ p ∈ l, PSmall p) ∧ spigotref19_Great.L1 l (i : Int) = some (false, ())) ∨ spigotref19_Great.L1 l (i : Int) = some (true, ()) := by
    intro k
    induction k with
    | zero =>
      intro i hi hl hs
      right
      rw [spigotref19_Great.L1_eq]
      by_cases h : (i : Int) < (l.length : Int)
      · rw [bd_pos h, bd_neg (by omega), decide_eq_true (by omega)]
      · rw [bd_neg h, decide_eq_true (by omega)]
    | succ k ih =>
      intro i hi hl hs
      rw [spigotref19_Great.L1_eq]
      by_cases h : i < l.length
      · rw [bd_pos (by omega), bd_pos (by omega), spigotref19_Great.L2_eq, bd_pos (by omega)]
        simp only [toNat_cast]
        rw [getD_get h]
        rcases great18_f l[i] with ⟨h1, e1⟩ | e1
        · rw [e1, ob, bf rfl, spigotref19_Great.L3_eq, W_eq (by omega) (by omega), cast_add1]
          refine ih (i + 1) (by omega) (by omega) fun j hj hl2 => ?_
          by_cases e : j = i
          · subst e; exact h1
          · exact hs j (by omega) hl2
        · rw [e1]; exact .inr rfl
      · rw [bd_neg (by omega)]
        left
        refine ⟨by omega, fun p hp => ?_, by rw [decide_eq_false (by omega)]⟩
        obtain ⟨j, hj, rfl⟩ := List.mem_iff_getElem.1 hp
        exact hs j (by omega) hj
  rw [spigotref19_Great.F_eq]
  exact key 21 0 rfl (Nat.zero_le _) fun j hj => absurd hj (Nat.not_lt_zero j)
/-! ### copies -/
theorem rtwin_ok {t : t5.den} (h : TSmall t) : registry_twin.F t = some (t, ()) := by
  obtain ⟨h1, h2, h3, h4, h5, h6, h7⟩ := h
  rw [registry_twin.F_eq, lim_small (by decide) (by omega), lim_small (by decide) (by omega), lim_small (by decide) (by omega), lim_small (by decide) (by omega), lim_small (by decide) (by omega), lim_small (by decide) (by omega), lim_small (by decide) (by omega)]
theorem fit_of {p : t7.den} (h : PSmall p) : fit p := by
  obtain ⟨h1, h2, h3⟩ := h
  unfold fit
  rw [registry_copied.F_eq, rtwin_ok h1, ob, rtwin_ok h2, ob, lim_small (by decide) (by omega)]
theorem twin16_ok {t : t5.den} (h : TSmall t) : spigotref16_Twin.F t = some (t, ()) := by
  obtain ⟨h1, h2, h3, h4, h5, h6, h7⟩ := h
  rw [spigotref16_Twin.F_eq, lim_small (by decide) (by simp only [List.length_nil]; omega), lim_small (by decide) (by simp only [List.length_nil]; omega), spigotref13_Twin.F_eq, lim_small (by decide) (by simp only [List.length_nil]; omega), lim_small (by decide) (by simp only [List.length_nil]; omega), ob, lim_small (by decide) (by simp only [List.length_nil]; omega), spigotref15_Twin.F_eq, lim_small (by decide) (by simp only [List.length_nil]; omega), lim_small (by decide) (by simp only [List.length_nil]; omega), ob]
  rfl
theorem twin18_ok {p : t7.den} (h : PSmall p) : spigotref18_Twin.F p = some (p, ()) := by
  obtain ⟨h1, h2, h3⟩ := h
  rw [spigotref18_Twin.F_eq, twin16_ok h1, ob, twin16_ok h2, ob, lim_small (by decide) (by simp only [List.length_nil]; omega)]
  rfl
theorem twin19_ok {l : List t7.den} (hl : l.length ≤ 20) (h : ∀ p ∈ l, PSmall p) : spigotref19_Twin.F l = some (l, ()) := by
  have h2 := loop_go (n := l.length) (L := fun i => spigotref19_Twin.L1 l (i : Int) (l.take i)) (fun i hi => by
    try dsimp only
    rw [spigotref19_Twin.L1_eq, bd_pos (by omega), spigotref19_Twin.L2_eq, bd_pos (by omega)]
    simp only [toNat_cast]
    rw [getD_get hi, twin18_ok (h _ (List.getElem_mem hi)), ob, lim_small (by decide) (by simp; omega), W_eq (by omega) (by omega), cast_add1, ← List.take_append_getElem hi])
  have h2 : spigotref19_Twin.L1 l 0 [] = spigotref19_Twin.L1 l (l.length : Int) (l.take l.length) := h2
  rw [spigotref19_Twin.F_eq, h2, spigotref19_Twin.L1_eq, bd_neg (by omega), List.take_of_length_le (Nat.le_refl _)]
/-! ### the same -/
theorem keys_refl {a : List Int} (h : a.length ≤ 1000) : spigotref16_SameKeys.F a a = some (true, ()) := by
  rw [spigotref16_SameKeys.F_eq, bne_neg rfl, spigotref16_SameKeys.L1_eq]
  have h2 := loop_go (n := a.length) (L := fun i => spigotref16_SameKeys.L2 a a (i : Int)) (fun i hi => by
    try dsimp only
    rw [spigotref16_SameKeys.L2_eq, bd_pos (by omega), spigotref16_SameKeys.L3_eq, bd_pos (by omega), bd_pos (by omega), bne_neg rfl, spigotref16_SameKeys.L4_eq, W_eq (by omega) (by omega), cast_add1])
  refine Eq.trans h2 ?_
  try dsimp only
  rw [spigotref16_SameKeys.L2_eq, bd_neg (by omega)]
theorem same13_refl {a : List Int} {b : List Bool} {c : Int} (h1 : a.length ≤ 1000) (h2 : b.length ≤ 1000) : spigotref13_Same.F (a, b, c, ()) (a, b, c, ()) = some (true, ()) := by
  rw [spigotref13_Same.F_eq]
  dsimp only
  rw [bne_neg rfl, bne_neg rfl, bne_neg rfl, spigotref13_Same.L1_eq]
  have e1 := loop_go (n := a.length) (L := fun i => spigotref13_Same.L2 (i : Int) a b c a b c) (fun i hi => by
    try dsimp only
    rw [spigotref13_Same.L2_eq, bd_pos (by omega), spigotref13_Same.L3_eq, bd_pos (by omega), bd_pos (by omega), bne_neg rfl, spigotref13_Same.L7_eq, W_eq (by omega) (by omega), cast_add1])
  refine Eq.trans e1 ?_
  try dsimp only
  rw [spigotref13_Same.L2_eq, bd_neg (by omega)]
  have e2 := loop_go (n := b.length) (L := fun i => spigotref13_Same.L4 (i : Int) a b c a b c) (fun i hi => by
    try dsimp only
    rw [spigotref13_Same.L4_eq, bd_pos (by omega), spigotref13_Same.L5_eq, bd_pos (by omega), bd_pos (by omega), bnt (beq_self_eq_true _), spigotref13_Same.L6_eq, W_eq (by omega) (by omega), cast_add1])
  refine Eq.trans e2 ?_
  try dsimp only
  rw [spigotref13_Same.L4_eq, bd_neg (by omega)]
theorem same14_refl {a : List t3.den} (h : a.length ≤ 1000) : spigotref14_Same.F a a = some (true, ()) := by
  rw [spigotref14_Same.F_eq, bne_neg rfl, spigotref14_Same.L1_eq]
  have h2 := loop_go (n := a.length) (L := fun i => spigotref14_Same.L2 a a (i : Int)) (fun i hi => by
    try dsimp only
    rw [spigotref14_Same.L2_eq, bd_pos (by omega), spigotref14_Same.L3_eq, bd_pos (by omega), bd_pos (by omega), nbeq_neg rfl, spigotref14_Same.L4_eq, W_eq (by omega) (by omega), cast_add1])
  refine Eq.trans h2 ?_
  try dsimp only
  rw [spigotref14_Same.L2_eq, bd_neg (by omega)]
theorem same16_refl {t : t5.den} (h : TSmall t) : spigotref16_Same.F t t = some (true, ()) := by
  obtain ⟨h1, h2, h3, h4, h5, h6, h7⟩ := h
  obtain ⟨cap, keys, bks, ⟨next, used, free, ⟨⟩⟩, x, ⟨prev, nxt, head, tail, ⟨⟩⟩, ⟨⟩⟩ := t
  dsimp only at h1 h2 h3 h4 h5 h6 h7
  rw [spigotref16_Same.F_eq]
  dsimp only
  rw [bne_neg rfl, keys_refl (by omega), ob, bnt rfl, bne_neg rfl, same13_refl (by omega) (by omega), ob, bnt rfl, same14_refl (by omega), ob, bnt rfl, same15_f (by omega) (by omega), ob, decide_eq_true ⟨rfl, rfl, rfl, rfl⟩, bnt rfl, spigotref16_Same.L1_eq]
  have e1 := loop_go (n := bks.length) (L := fun i => spigotref16_Same.L2 (i : Int) cap keys bks next used free x prev nxt head tail cap keys bks next used free x prev nxt head tail) (fun i hi => by
    try dsimp only
    rw [spigotref16_Same.L2_eq, bd_pos (by omega), spigotref16_Same.L3_eq, bd_pos (by omega), bd_pos (by omega), nbeq_neg rfl, spigotref16_Same.L4_eq, W_eq (by omega) (by omega), cast_add1])
  refine Eq.trans e1 ?_
  try dsimp only
  rw [spigotref16_Same.L2_eq, bd_neg (by omega)]
theorem same18_refl {p : t7.den} (h : PSmall p) : spigotref18_Same.F p p = some (true, ()) := by
  obtain ⟨h1, h2, h3⟩ := h
  rw [spigotref18_Same.F_eq, beq_pos rfl, tbeq_pos (t := .arr 3 t0) rfl, tbeq_pos (t := t1) rfl, same16_refl h1, ob, bt rfl, same16_refl h2, ob, bt rfl, keys_refl (by omega), ob, bt rfl, (beq_iff t6 _ _).2 rfl]
theorem same19_refl {l : List t7.den} (hl : l.length ≤ 1000) (h : ∀ p ∈ l, PSmall p) : spigotref19_Same.F l l = some (true, ()) := by
  rw [spigotref19_Same.F_eq, bne_neg rfl, spigotref19_Same.L1_eq]
  have h2 := loop_go (n := l.length) (L := fun i => spigotref19_Same.L2 l l (i : Int)) (fun i hi => by
    try dsimp only
    rw [spigotref19_Same.L2_eq, bd_pos (by omega), spigotref19_Same.L3_eq, bd_pos (by omega), bd_pos (by omega)]
    simp only [toNat_cast]
    rw [getD_get hi, same18_refl (h _ (List.getElem_mem hi)), ob, bnt rfl, spigotref19_Same.L4_eq, W_eq (by omega) (by omega), cast_add1])
  refine Eq.trans h2 ?_
  try dsimp only
  rw [spigotref19_Same.L2_eq, bd_neg (by omega)]
/-! ### the checks of a registry -/
structure GReg (l : List t7.den) : Prop where
  len : l.length ≤ 8
  ok : ∀ p ∈ l, PartOk p
  inc : ∀ (i : Nat) (h : i + 1 < l.length), Z (l[i]).1 < (l[i + 1]).1
theorem GReg.far {l : List t7.den} (g : GReg l) : ∀ (k i : Nat) (h : i + k + 1 < l.length), Z (l[i]).1 < (l[i + k + 1]).1
  | 0, i, h => g.inc i h
  | k + 1, i, h => by
    have h1 := g.far k i (by omega)
    have h2 := g.inc (i + k + 1) h
    exact Int.lt_trans h1 h2
theorem GReg.reg {l : List t7.den} (w : ∀ p ∈ l, PWf p) (g : GReg l) : RegOk l where
  len := g.len
  ok p hp := (part_says (w p hp)).yes (g.ok p hp)
  inc i j hi hj hij := by
    have := g.far (j - i - 1) i (by omega)
    have e : i + (j - i - 1) + 1 = j := by omega
    simp only [e] at this
    exact this
def AtOk (l : List t7.den) (i : Nat) : Prop := ∀ h : i < l.length, PartOk l[i] ∧ (0 < i → Z (l[i - 1]'(by omega)).1 < (l[i]).1)
theorem at_ok {l : List t7.den} (hl : l.length ≤ 8) (h : ∀ i, i < l.length → AtOk l i) : GReg l where
  len := hl
  ok p hp := by
    obtain ⟨i, hi, rfl⟩ := List.mem_iff_getElem.1 hp
    exact (h i hi hi).1
  inc i hi := (h (i + 1) hi hi).2 (Nat.succ_pos i)
theorem at_of {l : List t7.den} (g : GReg l) (i : Nat) (hi : i < l.length) : AtOk l i := fun h => ⟨g.ok _ (List.getElem_mem h), fun i0 => by
  have := g.inc (i - 1) (by omega)
  have e : i - 1 + 1 = i := by omega
  simp only [e] at this
  exact this⟩
theorem check_f {l : List t7.den} (w : ∀ p ∈ l, PWf p) (hl : l.length ≤ 20) : (GReg l ∧ registry_Check.F l = some (0, ()) ∧ spigotref19_Check.F l = some (0, ())) ∨ (¬ GReg l ∧ ∃ e : Int, (e = 4 ∨ e = 8) ∧ registry_Check.F l = some (e, ()) ∧ spigotref19_Check.F l = some (e, ())) := by
  rw [registry_Check.F_eq, spigotref19_Check.F_eq]
  by_cases h8 : (l.length : Int) > 8
  · rw [bd_pos h8, bd_pos h8]; exact .inr ⟨fun g => by have := g.len; omega, 4, .inl rfl, rfl, rfl⟩
  rw [bd_neg h8, bd_neg h8, registry_Check.L1_eq, spigotref19_Check.L1_eq]
  have a := loop_all (n := l.length) (L := fun i => registry_Check.L2 l (l.length : Int) (i : Int)) (ok := AtOk l) (stop := some (8, ())) (fun i hi => by
    have nx_ : registry_Check.L4 l (l.length : Int) (i : Int) = registry_Check.L2 l (l.length : Int) ((i + 1 : Nat) : Int) := by
      rw [registry_Check.L4_eq, W_eq (by omega) (by omega), cast_add1]
    try dsimp only
    rw [registry_Check.L2_eq, bd_pos (by omega), registry_Check.L3_eq, bd_pos (by omega)]
    simp only [toNat_cast]
    rw [getD_get hi]
    rcases part_says (w _ (List.getElem_mem hi)) with ⟨p, e⟩ | ⟨p, e⟩
    · rw [e, ob, bne_neg rfl]
      by_cases i0 : 0 < i
      · rw [bd_pos (by omega), W_eq (by omega) (by omega), bd_pos (by omega), toNat_sub1 i0, getD_get (by omega : i - 1 < l.length)]
        by_cases q : Z (l[i - 1]).1 ≥ (l[i]).1
        · rw [bd_pos (by exact q)]; exact .inr ⟨fun h => absurd q (Int.not_le.2 ((h hi).2 i0)), rfl⟩
        · rw [bd_neg (by exact q), nx_]; exact .inl ⟨fun _ => ⟨p, fun _ => Int.not_le.1 q⟩, rfl⟩
      · rw [bd_neg (by omega), nx_]; exact .inl ⟨fun _ => ⟨p, fun h => absurd h i0⟩, rfl⟩
    · rw [e, ob, bne_pos (by decide)]; exact .inr ⟨fun h => p (h hi).1, rfl⟩)
  have b := loop_all (n := l.length) (L := fun i => spigotref19_Check.L2 l (i : Int)) (ok := AtOk l) (stop := some (8, ())) (fun i hi => by
    have nx_ : spigotref19_Check.L4 l (i : Int) = spigotref19_Check.L2 l ((i + 1 : Nat) : Int) := by
      rw [spigotref19_Check.L4_eq, W_eq (by omega) (by omega), cast_add1]
    try dsimp only
    rw [spigotref19_Check.L2_eq, bd_pos (by omega), spigotref19_Check.L3_eq, bd_pos (by omega)]
    simp only [toNat_cast]
    rw [getD_get hi]
    rcases rpart_says (w _ (List.getElem_mem hi)) with ⟨p, e⟩ | ⟨p, e⟩
    · rw [e, ob, bne_neg rfl]
      by_cases i0 : 0 < i
      · rw [bd_pos (by omega), bd_pos (by omega), W_eq (by omega) (by omega), bd_pos (by omega), toNat_sub1 i0, getD_get (by omega : i - 1 < l.length)]
        by_cases q : Z (l[i]).1 ≤ (l[i - 1]).1
        · rw [bd_pos (by exact q)]; exact .inr ⟨fun h => absurd q (Int.not_le.2 ((h hi).2 i0)), rfl⟩
        · rw [bd_neg (by exact q), nx_]; exact .inl ⟨fun _ => ⟨p, fun _ => Int.not_le.1 q⟩, rfl⟩
      · rw [bd_neg (by omega), nx_]; exact .inl ⟨fun _ => ⟨p, fun h => absurd h i0⟩, rfl⟩
    · rw [e, ob, bne_pos (by decide)]; exact .inr ⟨fun h => p (h hi).1, rfl⟩)
  rcases a with ⟨a, e⟩ | ⟨a, e⟩
  · rcases b with ⟨b, f⟩ | ⟨b, f⟩
    · refine .inl ⟨at_ok (by omega) a, Eq.trans e ?_, Eq.trans f ?_⟩
      · try dsimp only
        rw [registry_Check.L2_eq, bd_neg (by omega)]
      · try dsimp only
        rw [spigotref19_Check.L2_eq, bd_neg (by omega)]
    · exact absurd a b
  · rcases b with ⟨b, f⟩ | ⟨b, f⟩
    · exact absurd b a
    · exact .inr ⟨fun g => a (at_of g), 8, .inr rfl, e, f⟩
/-! ### the answer's lists -/
theorem at19_f {l : List t7.den} (hl : l.length ≤ 1000) (t : Int) : (∃ (i : Nat) (h : i < l.length), (l[i]).1 = t ∧ spigotref19_At.F l t = some ((i : Int), ())) ∨ ((∀ p ∈ l, p.1 ≠ t) ∧ spigotref19_At.F l t = some (-1, ())) := by
  rw [spigotref19_At.F_eq]
  rcases find_loop (n := l.length) (L := fun i => spigotref19_At.L1 l t (i : Int)) (p := fun j : Nat => ∀ h : j < l.length, (l[j]).1 = t) (hit := fun i => some ((i : Int), ())) (miss := some (-1, ())) (fun i hi => by
    try dsimp only
    rw [spigotref19_At.L1_eq, bd_pos (by omega), spigotref19_At.L2_eq, bd_pos (by omega)]
    simp only [toNat_cast]
    rw [getD_get hi]
    by_cases e : (l[i]).1 = t
    · rw [beq_pos e]; exact .inl ⟨fun _ => e, rfl⟩
    · rw [beq_neg e, spigotref19_At.L3_eq, W_eq (by omega) (by omega), cast_add1]; exact .inr ⟨fun h => e (h hi), rfl⟩) (by
    try dsimp only
    rw [spigotref19_At.L1_eq, bd_neg (by omega)]) with ⟨i, hi, h1, _, h2⟩ | ⟨h1, h2⟩
  · exact .inl ⟨i, hi, h1 hi, h2⟩
  · refine .inr ⟨fun p hp e => ?_, h2⟩
    obtain ⟨i, hi, rfl⟩ := List.mem_iff_getElem.1 hp
    exact h1 i hi fun _ => e
theorem without_f {l : List t7.den} (hl : l.length ≤ 20) (h : ∀ p ∈ l, PSmall p) (t : Int) : spigotref19_Without.F l t = some (l.filter (fun p => p.1 != t), ()) := by
  have h2 := loop_go (n := l.length) (L := fun i => spigotref19_Without.L1 l t (i : Int) ((l.take i).filter (fun p => p.1 != t))) (fun i hi => by
    have hle : ((l.take i).filter (fun p => p.1 != t)).length ≤ l.length := by
      have h1 := List.length_filter_le (fun p : t7.den => p.1 != t) (l.take i)
      have h2 := List.length_take_le' i l
      exact Nat.le_trans h1 h2
    try dsimp only
    rw [spigotref19_Without.L1_eq, bd_pos (by omega), spigotref19_Without.L2_eq, bd_pos (by omega)]
    simp only [toNat_cast]
    rw [getD_get hi, ← List.take_append_getElem hi, List.filter_append]
    by_cases e : (l[i]).1 = t
    · rw [bne_neg e, spigotref19_Without.L3_eq, W_eq (by omega) (by omega), cast_add1]
      have : List.filter (fun p : t7.den => p.1 != t) [l[i]] = [] := by
        rw [List.filter_cons, show ((l[i]).1 != t) = false by rw [e]; exact bne_self_eq_false t]; rfl
      rw [this, List.append_nil]
    · rw [bne_pos e, bd_pos (by omega), twin18_ok (h _ (List.getElem_mem hi)), ob, lim_small (by decide) (by simp only [List.length_singleton]; omega), spigotref19_Without.L3_eq, W_eq (by omega) (by omega), cast_add1]
      have : List.filter (fun p : t7.den => p.1 != t) [l[i]] = [l[i]] := by
        rw [List.filter_cons, show ((l[i]).1 != t) = true from bne_iff_ne.2 e]; rfl
      rw [this])
  have h2 : spigotref19_Without.L1 l t 0 [] = spigotref19_Without.L1 l t (l.length : Int) ((l.take l.length).filter (fun p => p.1 != t)) := h2
  rw [spigotref19_Without.F_eq, h2, spigotref19_Without.L1_eq, bd_neg (by omega), List.take_of_length_le (Nat.le_refl _)]
theorem swap_mid {α : Type} (a p : α) : ∀ (B D : List α), ((B ++ a :: p :: D).set (B.length + 1) a).set B.length p = B ++ p :: a :: D
  | [], D => rfl
  | b :: B, D => by
    show b :: ((B ++ a :: p :: D).set (B.length + 1) a).set B.length p = _
    rw [swap_mid a p B D]; rfl
theorem mid_at {α : Type} (d p : α) : ∀ (B D : List α), (B ++ p :: D).getD B.length d = p
  | [], D => rfl
  | b :: B, D => mid_at d p B D
/-- A list with p at the place i. -/
def ins (A : List t7.den) (p : t7.den) (i : Nat) : List t7.den := A.take i ++ p :: A.drop i
theorem ins_len (A : List t7.den) (p : t7.den) (i : Nat) : (ins A p i).length = A.length + 1 := by
  unfold ins
  have := congrArg List.length (List.take_append_drop i A)
  rw [List.length_append] at this
  rw [List.length_append, List.length_cons]
  omega
theorem bubble {A : List t7.den} {p : t7.den} (hl : A.length ≤ 100) : ∀ i : Nat, i ≤ A.length → (∀ (k : Nat) (h : k < A.length), i ≤ k → Z p.1 < (A[k]).1) →
    ∃ c : Nat, c ≤ A.length ∧ (∀ (k : Nat) (h : k < A.length), c ≤ k → Z p.1 < (A[k]).1) ∧ (∀ h : 0 < c, ∀ h2 : c ≤ A.length, Z (A[c - 1]'(by omega)).1 ≤ p.1) ∧ spigotref19_With.L1 (i : Int) (ins A p i) = some (ins A p c, ())
  | 0, _, hi => ⟨0, Nat.zero_le _, hi, fun h => absurd h (Nat.not_lt_zero 0), by rw [spigotref19_With.L1_eq, bd_neg (by decide)]⟩
  | i + 1, h, hi => by
    have hlt : i < A.length := h
    have hB : (A.take i).length = i := List.length_take_of_le (by omega)
    have e1 : ins A p (i + 1) = A.take i ++ A[i] :: p :: A.drop (i + 1) := by
      unfold ins
      rw [← List.take_append_getElem hlt, List.append_assoc]; rfl
    have e2 : ins A p i = A.take i ++ p :: A[i] :: A.drop (i + 1) := by
      unfold ins
      rw [List.drop_eq_getElem_cons hlt]
    have g0 : ∀ d, (ins A p (i + 1)).getD i d = A[i] := fun d => by
      rw [e1]
      have := mid_at d (A[i]) (A.take i) (p :: A.drop (i + 1))
      rw [hB] at this
      exact this
    have g1 : ∀ d, (ins A p (i + 1)).getD (i + 1) d = p := fun d => by
      have := mid_at d p (A.take (i + 1)) (A.drop (i + 1))
      rw [List.length_take_of_le h] at this
      exact this
    have hlen := ins_len A p (i + 1)
    rw [spigotref19_With.L1_eq, bd_pos (by omega), bd_pos (by omega), W_eq (by omega) (by omega), bd_pos (by omega)]
    simp only [toNat_cast, toNat_sub1 (Nat.succ_pos i), show i + 1 - 1 = i from rfl, g0, g1]
    by_cases q : Z p.1 < (A[i]).1
    · rw [bd_pos (by exact q), spigotref19_With.L2_eq, W_eq (by omega) (by omega), bd_pos (by omega), bd_pos (by omega), bd_pos (by omega), bd_pos (by rw [List.length_set]; omega)]
      simp only [toNat_cast, toNat_sub1 (Nat.succ_pos i), show i + 1 - 1 = i from rfl, g0, g1]
      have sw := swap_mid (A[i]) p (A.take i) (A.drop (i + 1))
      rw [hB, ← e1, ← e2] at sw
      rw [sw, show ((i + 1 : Nat) : Int) - 1 = (i : Int) by omega]
      refine bubble hl i (by omega) fun k hk hik => ?_
      by_cases e : k = i
      · subst e; exact q
      · exact hi k hk (by omega)
    · rw [bd_neg (by exact q)]
      exact ⟨i + 1, h, hi, fun _ _ => Int.not_lt.1 q, rfl⟩
theorem Cut.one {l : List t7.den} {t : Int} {c c' : Nat} (hn : ∀ p ∈ l, p.1 ≠ t) (h : Cut l t c) (h' : Cut l t c') : c = c' := by
  have a := h.le
  have b := h'.le
  rcases Nat.lt_trichotomy c c' with k | k | k
  · have hc : c < l.length := by omega
    exact absurd (h'.lo c hc k) (Int.not_lt.2 (h.hi c hc (Nat.le_refl _)))
  · exact k
  · have hc : c' < l.length := by omega
    exact absurd (h.lo c' hc k) (Int.not_lt.2 (h'.hi c' hc (Nat.le_refl _)))
/-- The answer's list with a part. -/
theorem with_f {l : List t7.den} (hl : l.length ≤ 20) (hs : ∀ p ∈ l, PSmall p) {p : t7.den} (hp : PSmall p) (inc : ∀ (i j : Nat) (hi : i < (l.filter (fun q => q.1 != p.1)).length) (hj : j < (l.filter (fun q => q.1 != p.1)).length), i < j → Z ((l.filter (fun q => q.1 != p.1))[i]).1 < ((l.filter (fun q => q.1 != p.1))[j]).1) :
    ∃ c : Nat, Cut (l.filter (fun q => q.1 != p.1)) p.1 c ∧ spigotref19_With.F l p = some (ins (l.filter (fun q => q.1 != p.1)) p c, ()) := by
  rw [spigotref19_With.F_eq, without_f hl hs, ob, twin18_ok hp, ob]
  have hmem : ∀ q ∈ l.filter (fun q => q.1 != p.1), q.1 ≠ p.1 := fun q hq => bne_iff_ne.1 (List.mem_filter.1 hq).2
  have hle : (l.filter (fun q => q.1 != p.1)).length ≤ 20 := Nat.le_trans (List.length_filter_le _ _) hl
  generalize l.filter (fun q => q.1 != p.1) = A at inc hmem hle ⊢
  rw [lim_small (by decide) (by simp only [List.length_singleton]; omega)]
  have e : ((A ++ [p]).length : Int) - 1 = (A.length : Int) := by rw [List.length_append, List.length_singleton]; omega
  rw [e, W_eq (by omega) (by omega)]
  have e2 : A ++ [p] = ins A p A.length := by unfold ins; rw [List.take_of_length_le (Nat.le_refl _), List.drop_of_length_le (Nat.le_refl _)]
  rw [e2]
  obtain ⟨c, h1, h2, h3, h4⟩ := bubble (p := p) (by omega) A.length (Nat.le_refl _) (fun k h hk => by omega)
  refine ⟨c, ⟨h1, fun k hk hkc => ?_, fun k hk hkc => Int.le_of_lt (h2 k hk hkc)⟩, h4⟩
  have h5 := h3 (by omega) h1
  have h6 : Z (A[c - 1]'(by omega)).1 < p.1 := Int.lt_iff_le_and_ne.2 ⟨h5, hmem _ (List.getElem_mem _)⟩
  by_cases e : k = c - 1
  · subst e; exact h6
  · exact Int.lt_trans (inc k (c - 1) hk (by omega) (by omega)) h6
theorem filter_none {l : List t7.den} {t : Int} (h : ∀ p ∈ l, p.1 ≠ t) : l.filter (fun p => p.1 != t) = l := List.filter_eq_self.2 fun p hp => bne_iff_ne.2 (h p hp)
theorem filter_one {l : List t7.den} (H : RegOk l) {c : Nat} (hc : c < l.length) : l.filter (fun p => p.1 != (l[c]).1) = l.take c ++ l.drop (c + 1) := by
  have e : l = l.take c ++ l[c] :: l.drop (c + 1) := by rw [List.getElem_cons_drop, List.take_append_drop]
  have h1 : ∀ p ∈ l.take c, (fun p : t7.den => p.1 != (l[c]).1) p = true := fun p hp => by
    obtain ⟨i, hi, rfl⟩ := List.mem_iff_getElem.1 hp
    rw [List.length_take] at hi
    rw [List.getElem_take]
    exact bne_iff_ne.2 (Int.ne_of_lt (H.inc i c (by omega) hc (by omega)))
  have h2 : ∀ p ∈ l.drop (c + 1), (fun p : t7.den => p.1 != (l[c]).1) p = true := fun p hp => by
    obtain ⟨i, hi, rfl⟩ := List.mem_iff_getElem.1 hp
    rw [List.length_drop] at hi
    rw [List.getElem_drop]
    exact bne_iff_ne.2 (Int.ne_of_gt (H.inc c (c + 1 + i) hc (by omega) (by omega)))
  generalize hl : (l[c]).1 = t at h1 h2 ⊢
  conv => lhs; rw [e]
  rw [List.filter_append, List.filter_cons, hl, List.filter_eq_self.2 h1, List.filter_eq_self.2 h2, bne_self_eq_false]
  rfl
theorem sub_inc {l : List t7.den} (H : RegOk l) (f : t7.den → Bool) : ∀ (i j : Nat) (hi : i < (l.filter f).length) (hj : j < (l.filter f).length), i < j → Z ((l.filter f)[i]).1 < ((l.filter f)[j]).1 := by
  have h : l.Pairwise (fun p q => Z p.1 < q.1) := by
    rw [List.pairwise_iff_getElem]
    exact fun i j hi hj hij => H.inc i j hi hj hij
  have h2 := h.filter f
  rw [List.pairwise_iff_getElem] at h2
  exact fun i j hi hj hij => h2 i j hi hj hij
/-! ### the program's functions, more -/
theorem Put_bad {l : List t7.den} (H : RegOk l) {p : t7.den} (hp : part_Check.F p = some (8, ())) : registry_Put.F l p = some ([], 8, ()) := by
  rw [registry_Put.F_eq, chk_ok H, ob, bne_neg rfl, registry_Put.L1_eq]
  rw [show part_Check.F _ = some (8, ()) from hp, ob, bne_pos (by decide)]
theorem Replace_bad {l : List t7.den} (H : RegOk l) {p : t7.den} (hp : part_Check.F p = some (8, ())) : registry_Replace.F l p = some ([], 8, ()) := by
  rw [registry_Replace.F_eq, chk_ok H, ob, bne_neg rfl, registry_Replace.L1_eq]
  rw [show part_Check.F _ = some (8, ()) from hp, ob, bne_pos (by decide)]
theorem Replace_ok {l : List t7.den} (H : RegOk l) (hf : ∀ p ∈ l, fit p) {p : t7.den} (hp : partOk p) (hpf : fit p) : (∃ (c : Nat) (h : c < l.length), (l[c]).1 = p.1 ∧ registry_Replace.F l p = some (l.set c p, 0, ())) ∨ ((∀ q ∈ l, q.1 ≠ p.1) ∧ registry_Replace.F l p = some ([], 6, ())) := by
  have hl := H.len
  rw [registry_Replace.F_eq, chk_ok H, ob, bne_neg rfl, registry_Replace.L1_eq]
  rw [show part_Check.F _ = some (0, ()) from hp, ob, bne_neg rfl, registry_Replace.L2_eq]
  obtain ⟨c, h1, h2⟩ := find_ok H p.1
  rw [h2, ob]
  by_cases hx : ∃ h : c < l.length, (l[c]).1 = p.1
  · left
    obtain ⟨h, e⟩ := hx
    refine ⟨c, h, e, ?_⟩
    rw [decide_eq_true ⟨h, e⟩, bnt rfl, registry_Replace.L3_eq, all_ok hl hf, ob, show registry_copied.F _ = some (p, ()) from hpf, ob, bd_pos (by dsimp only; omega), toNat_cast]
  · right
    refine ⟨fun q hq e => ?_, by rw [decide_eq_false hx]; rfl⟩
    obtain ⟨k, hk, rfl⟩ := List.getElem_of_mem hq
    by_cases hkc : k < c
    · exact absurd e (Int.ne_of_lt (h1.lo k hk hkc))
    · have hc : c < l.length := by omega
      have h3 := h1.hi c hc (Nat.le_refl _)
      by_cases ek : k = c
      · subst ek; exact hx ⟨hc, e⟩
      · have := H.inc c k hc hk (by omega)
        rw [e] at this
        exact absurd h3 (Int.not_le.2 this)
/-! ### data -/
theorem wf_i64 {x : Int} (h : (Lit.int .i64 x).wf = true) : -9223372036854775808 ≤ x ∧ x ≤ 9223372036854775807 := by
  simp only [Lit.wf, Bool.and_eq_true, decide_eq_true_eq] at h
  have a : IntKind.i64.min = -9223372036854775808 := by decide
  have b : IntKind.i64.max = 9223372036854775807 := by decide
  omega
theorem wf_u32 {x : Int} (h : (Lit.int .u32 x).wf = true) : 0 ≤ x ∧ x < 4294967296 := by
  simp only [Lit.wf, Bool.and_eq_true, decide_eq_true_eq] at h
  have a : IntKind.u32.min = 0 := by decide
  have b : IntKind.u32.max = 4294967295 := by decide
  omega
theorem twf_of {t : t5.den} (h : t5.wf t) (hs : TSmall t) : TWf t := by
  obtain ⟨h1, h2, h3, h4, h5, h6, h7⟩ := h
  have hi := hs.idx
  refine ⟨fun c hc => (wf_i64 (h3.2 c hc).2.1).2, fun i i0 i1 => ?_, by omega, fun k hk => ?_⟩
  · have hj : i.toNat < List.length t.2.2.2.2.1 := by omega
    have e2 := cl_get hj
    rw [show ((i.toNat : Nat) : Int) = i by omega] at e2
    rw [e2]
    exact wf_u32 (h5.2 _ (List.getElem_mem hj)).1
  · have : 0 ≤ Z k ∧ Z k < 4294967296 := wf_u32 (h2.2 k hk)
    omega
theorem pwf_of {p : t7.den} (h : t7.wf p) (hs : PSmall p) : PWf p := by
  obtain ⟨h1, h2, h3, h4, h5, h6, h7⟩ := h
  exact ⟨h2.1, (wf_i64 h3.2.1).2, twf_of h4 hs.us, twf_of h5 hs.es⟩
end Go.Proofs.Ytjmgelpeonodgaa.TB
