/- Servers that are not great: copies, the same, the checks. -/
import Derived.Test.YtkihjakbbcajbaaImgH
import Derived.Test.YtkihjakbbcajbaaTbR3
import Derived.Test.YtkihjakbbcajbaaPM29
namespace Go.Proofs.Ytkihjakbbcajbaa.TB
set_option linter.unusedSimpArgs false
set_option linter.unusedVariables false
open Go Go.Proofs Go.Proofs.Ytkihjakbbcajbaa.PM Go.Proofs.Ytkihjakbbcajbaa.RP
structure TSmall (t : t5.den) : Prop where
  keys : ¬ (List.length t.2.1 : Int) > 100
  bks : ¬ (List.length t.2.2.1 : Int) > 100
  idx : ¬ (List.length t.2.2.2.2.1 : Int) > 100
  next : ¬ (List.length t.2.2.2.1.1 : Int) > 100
  used : ¬ (List.length t.2.2.2.1.2.1 : Int) > 100
  prev : ¬ (List.length t.2.2.2.2.2.1.1 : Int) > 100
  nxt : ¬ (List.length t.2.2.2.2.2.1.2.1 : Int) > 100
structure PSmall (p : t7.den) : Prop where
  us : TSmall p.2.2.2.1
  es : TSmall p.2.2.2.2.1
  rev : ¬ (List.length p.2.2.2.2.2.1 : Int) > 100
theorem great16_f (t : t5.den) : (TSmall t ∧ spigotref16_Great.F t = some (false, ())) ∨ spigotref16_Great.F t = some (true, ()) := by
  rw [spigotref16_Great.F_eq]
  by_cases h1 : (List.length t.2.1 : Int) > 100
  · rw [bd_pos h1]; exact .inr rfl
  by_cases h2 : (List.length t.2.2.1 : Int) > 100
  · rw [bd_neg h1, bd_pos h2]; exact .inr rfl
  by_cases h3 : (List.length t.2.2.2.2.1 : Int) > 100
  · rw [bd_neg h1, bd_neg h2, bd_pos h3]; exact .inr rfl
  rw [bd_neg h1, bd_neg h2, bd_neg h3, spigotref13_Great.F_eq]
  by_cases h4 : (List.length t.2.2.2.1.1 : Int) > 100
  · rw [bd_pos h4]; exact .inr rfl
  rw [bd_neg h4, ob]
  by_cases h5 : (List.length t.2.2.2.1.2.1 : Int) > 100
  · rw [decide_eq_true h5]; exact .inr rfl
  rw [decide_eq_false h5, bf rfl, spigotref15_Great.F_eq]
  by_cases h6 : (List.length t.2.2.2.2.2.1.1 : Int) > 100
  · rw [bd_pos h6]; exact .inr rfl
  rw [bd_neg h6, ob]
  by_cases h7 : (List.length t.2.2.2.2.2.1.2.1 : Int) > 100
  · rw [decide_eq_true h7]; exact .inr rfl
  · rw [decide_eq_false h7]; exact .inl ⟨⟨h1, h2, h3, h4, h5, h6, h7⟩, rfl⟩
theorem great18_f (p : t7.den) : (PSmall p ∧ spigotref18_Great.F p = some (false, ())) ∨ spigotref18_Great.F p = some (true, ()) := by
  rw [spigotref18_Great.F_eq]
  rcases great16_f p.2.2.2.1 with ⟨h1, e1⟩ | e1
  · rw [e1, ob, bf rfl]
    rcases great16_f p.2.2.2.2.1 with ⟨h2, e2⟩ | e2
    · rw [e2, ob, bf rfl]
      by_cases h3 : (List.length p.2.2.2.2.2.1 : Int) > 100
      · rw [decide_eq_true h3]; exact .inr rfl
      · rw [decide_eq_false h3]; exact .inl ⟨⟨h1, h2, h3⟩, rfl⟩
    · rw [e2]; exact .inr rfl
  · rw [e1]; exact .inr rfl
theorem great19_f {l : List t7.den} : (l.length ≤ 20 ∧ (∀ p ∈ l, PSmall p) ∧ spigotref19_Great.F l = some (false, ())) ∨ spigotref19_Great.F l = some (true, ()) := by
  have key : ∀ k i : Nat, i + k = 21 → i ≤ l.length → (∀ j : Nat, j < i → ∀ h : j < l.length, PSmall l[j]) → (l.length ≤ 20 ∧ (∀ p ∈ l, PSmall p) ∧ spigotref19_Great.L1 l (i : Int) = some (false, ())) ∨ spigotref19_Great.L1 l (i : Int) = some (true, ()) := by
    intro k
    induction k with
    | zero =>
      intro i hi hl hs
      right
      rw [spigotref19_Great.L1_eq]
      by_cases h : (i : Int) < (l.length : Int)
      · rw [bd_pos h, bd_neg (by omega), decide_eq_true (by omega)]
      · rw [bd_neg h, decide_eq_true (by omega)]
    | succ k ih =>
      intro i hi hl hs
      rw [spigotref19_Great.L1_eq]
      by_cases h : i < l.length
      · rw [bd_pos (by omega), bd_pos (by omega), spigotref19_Great.L2_eq, bd_pos (by omega)]
        simp only [toNat_cast]
        rw [getD_get h]
        rcases great18_f l[i] with ⟨h1, e1⟩ | e1
        · rw [e1, ob, bf rfl, spigotref19_Great.L3_eq, W_eq (by omega) (by omega), cast_add1]
          refine ih (i + 1) (by omega) (by omega) fun j hj hl2 => ?_
          by_cases e : j = i
          · subst e; exact h1
          · exact hs j (by omega) hl2
        · rw [e1]; exact .inr rfl
      · rw [bd_neg (by omega)]
        left
        refine ⟨by omega, fun p hp => ?_, by rw [decide_eq_false (by omega)]⟩
        obtain ⟨j, hj, rfl⟩ := List.mem_iff_getElem.1 hp
        exact hs j (by omega) hj
  rw [spigotref19_Great.F_eq]
  exact key 21 0 rfl (Nat.zero_le _) fun j hj => absurd hj (Nat.not_lt_zero j)
theorem twin16_ok {t : t5.den} (h : TSmall t) : spigotref16_Twin.F t = some (t, ()) := by
  obtain ⟨h1, h2, h3, h4, h5, h6, h7⟩ := h
  rw [spigotref16_Twin.F_eq, lim_small (by decide) (by simp only [List.length_nil]; omega), lim_small (by decide) (by simp only [List.length_nil]; omega), spigotref13_Twin.F_eq, lim_small (by decide) (by simp only [List.length_nil]; omega), lim_small (by decide) (by simp only [List.length_nil]; omega), ob, lim_small (by decide) (by simp only [List.length_nil]; omega), spigotref15_Twin.F_eq, lim_small (by decide) (by simp only [List.length_nil]; omega), lim_small (by decide) (by simp only [List.length_nil]; omega), ob]
  rfl
theorem twin18_ok {p : t7.den} (h : PSmall p) : spigotref18_Twin.F p = some (p, ()) := by
  obtain ⟨h1, h2, h3⟩ := h
  rw [spigotref18_Twin.F_eq, twin16_ok h1, ob, twin16_ok h2, ob, lim_small (by decide) (by simp only [List.length_nil]; omega)]
  rfl
theorem twin19_ok {l : List t7.den} (hl : l.length ≤ 20) (h : ∀ p ∈ l, PSmall p) : spigotref19_Twin.F l = some (l, ()) := by
  have h2 := loop_go (n := l.length) (L := fun i => spigotref19_Twin.L1 l (i : Int) (l.take i)) (fun i hi => by
    try dsimp only
    rw [spigotref19_Twin.L1_eq, bd_pos (by omega), spigotref19_Twin.L2_eq, bd_pos (by omega)]
    simp only [toNat_cast]
    rw [getD_get hi, twin18_ok (h _ (List.getElem_mem hi)), ob, lim_small (by decide) (by simp; omega), W_eq (by omega) (by omega), cast_add1, ← List.take_append_getElem hi])
  have h2 : spigotref19_Twin.L1 l 0 [] = spigotref19_Twin.L1 l (l.length : Int) (l.take l.length) := h2
  rw [spigotref19_Twin.F_eq, h2, spigotref19_Twin.L1_eq, bd_neg (by omega), List.take_of_length_le (Nat.le_refl _)]
theorem keys_refl {a : List Int} (h : a.length ≤ 1000) : spigotref16_SameKeys.F a a = some (true, ()) := by
  rw [spigotref16_SameKeys.F_eq, bne_neg rfl, spigotref16_SameKeys.L1_eq]
  have h2 := loop_go (n := a.length) (L := fun i => spigotref16_SameKeys.L2 a a (i : Int)) (fun i hi => by
    try dsimp only
    rw [spigotref16_SameKeys.L2_eq, bd_pos (by omega), spigotref16_SameKeys.L3_eq, bd_pos (by omega), bd_pos (by omega), bne_neg rfl, spigotref16_SameKeys.L4_eq, W_eq (by omega) (by omega), cast_add1])
  refine Eq.trans h2 ?_
  try dsimp only
  rw [spigotref16_SameKeys.L2_eq, bd_neg (by omega)]
theorem same13_refl {a : List Int} {b : List Bool} {c : Int} (h1 : a.length ≤ 1000) (h2 : b.length ≤ 1000) : spigotref13_Same.F (a, b, c, ()) (a, b, c, ()) = some (true, ()) := by
  rw [spigotref13_Same.F_eq]
  dsimp only
  rw [bne_neg rfl, bne_neg rfl, bne_neg rfl, spigotref13_Same.L1_eq]
  have e1 := loop_go (n := a.length) (L := fun i => spigotref13_Same.L2 (i : Int) a b c a b c) (fun i hi => by
    try dsimp only
    rw [spigotref13_Same.L2_eq, bd_pos (by omega), spigotref13_Same.L3_eq, bd_pos (by omega), bd_pos (by omega), bne_neg rfl, spigotref13_Same.L7_eq, W_eq (by omega) (by omega), cast_add1])
  refine Eq.trans e1 ?_
  try dsimp only
  rw [spigotref13_Same.L2_eq, bd_neg (by omega)]
  have e2 := loop_go (n := b.length) (L := fun i => spigotref13_Same.L4 (i : Int) a b c a b c) (fun i hi => by
    try dsimp only
    rw [spigotref13_Same.L4_eq, bd_pos (by omega), spigotref13_Same.L5_eq, bd_pos (by omega), bd_pos (by omega), bnt (beq_self_eq_true _), spigotref13_Same.L6_eq, W_eq (by omega) (by omega), cast_add1])
  refine Eq.trans e2 ?_
  try dsimp only
  rw [spigotref13_Same.L4_eq, bd_neg (by omega)]
theorem same14_refl {a : List t3.den} (h : a.length ≤ 1000) : spigotref14_Same.F a a = some (true, ()) := by
  rw [spigotref14_Same.F_eq, bne_neg rfl, spigotref14_Same.L1_eq]
  have h2 := loop_go (n := a.length) (L := fun i => spigotref14_Same.L2 a a (i : Int)) (fun i hi => by
    try dsimp only
    rw [spigotref14_Same.L2_eq, bd_pos (by omega), spigotref14_Same.L3_eq, bd_pos (by omega), bd_pos (by omega), nbeq_neg rfl, spigotref14_Same.L4_eq, W_eq (by omega) (by omega), cast_add1])
  refine Eq.trans h2 ?_
  try dsimp only
  rw [spigotref14_Same.L2_eq, bd_neg (by omega)]
theorem same16_refl {t : t5.den} (h : TSmall t) : spigotref16_Same.F t t = some (true, ()) := by
  obtain ⟨h1, h2, h3, h4, h5, h6, h7⟩ := h
  obtain ⟨cap, keys, bks, ⟨next, used, free, ⟨⟩⟩, x, ⟨prev, nxt, head, tail, ⟨⟩⟩, ⟨⟩⟩ := t
  dsimp only at h1 h2 h3 h4 h5 h6 h7
  rw [spigotref16_Same.F_eq]
  dsimp only
  rw [bne_neg rfl, keys_refl (by omega), ob, bnt rfl, bne_neg rfl, same13_refl (by omega) (by omega), ob, bnt rfl, same14_refl (by omega), ob, bnt rfl, same15_f (by omega) (by omega), ob, decide_eq_true ⟨rfl, rfl, rfl, rfl⟩, bnt rfl, spigotref16_Same.L1_eq]
  have e1 := loop_go (n := bks.length) (L := fun i => spigotref16_Same.L2 (i : Int) cap keys bks next used free x prev nxt head tail cap keys bks next used free x prev nxt head tail) (fun i hi => by
    try dsimp only
    rw [spigotref16_Same.L2_eq, bd_pos (by omega), spigotref16_Same.L3_eq, bd_pos (by omega), bd_pos (by omega), nbeq_neg rfl, spigotref16_Same.L4_eq, W_eq (by omega) (by omega), cast_add1])
  refine Eq.trans e1 ?_
  try dsimp only
  rw [spigotref16_Same.L2_eq, bd_neg (by omega)]
theorem same18_refl {p : t7.den} (h : PSmall p) : spigotref18_Same.F p p = some (true, ()) := by
  obtain ⟨h1, h2, h3⟩ := h
  rw [spigotref18_Same.F_eq, beq_pos rfl, tbeq_pos (t := .arr 3 t0) rfl, tbeq_pos (t := t1) rfl, same16_refl h1, ob, bt rfl, same16_refl h2, ob, bt rfl, keys_refl (by omega), ob, bt rfl, (beq_iff t6 _ _).2 rfl]
theorem same19_refl {l : List t7.den} (hl : l.length ≤ 1000) (h : ∀ p ∈ l, PSmall p) : spigotref19_Same.F l l = some (true, ()) := by
  rw [spigotref19_Same.F_eq, bne_neg rfl, spigotref19_Same.L1_eq]
  have h2 := loop_go (n := l.length) (L := fun i => spigotref19_Same.L2 l l (i : Int)) (fun i hi => by
    try dsimp only
    rw [spigotref19_Same.L2_eq, bd_pos (by omega), spigotref19_Same.L3_eq, bd_pos (by omega), bd_pos (by omega)]
    simp only [toNat_cast]
    rw [getD_get hi, same18_refl (h _ (List.getElem_mem hi)), ob, bnt rfl, spigotref19_Same.L4_eq, W_eq (by omega) (by omega), cast_add1])
  refine Eq.trans h2 ?_
  try dsimp only
  rw [spigotref19_Same.L2_eq, bd_neg (by omega)]
structure GReg (l : List t7.den) : Prop where
  len : l.length ≤ 8
  ok : ∀ p ∈ l, PartOk p
  inc : ∀ (i : Nat) (h : i + 1 < l.length), Z (l[i]).1 < (l[i + 1]).1
theorem GReg.far {l : List t7.den} (g : GReg l) : ∀ (k i : Nat) (h : i + k + 1 < l.length), Z (l[i]).1 < (l[i + k + 1]).1
  | 0, i, h => g.inc i h
  | k + 1, i, h => by
    have h1 := g.far k i (by omega)
    have h2 := g.inc (i + k + 1) h
    exact Int.lt_trans h1 h2
def AtOk (l : List t7.den) (i : Nat) : Prop := ∀ h : i < l.length, PartOk l[i] ∧ (0 < i → Z (l[i - 1]'(by omega)).1 < (l[i]).1)
theorem at_ok {l : List t7.den} (hl : l.length ≤ 8) (h : ∀ i, i < l.length → AtOk l i) : GReg l where
  len := hl
  ok p hp := by
    obtain ⟨i, hi, rfl⟩ := List.mem_iff_getElem.1 hp
    exact (h i hi hi).1
  inc i hi := (h (i + 1) hi hi).2 (Nat.succ_pos i)
theorem at_of {l : List t7.den} (g : GReg l) (i : Nat) (hi : i < l.length) : AtOk l i := fun h => ⟨g.ok _ (List.getElem_mem h), fun i0 => by
  have := g.inc (i - 1) (by omega)
  have e : i - 1 + 1 = i := by omega
  simp only [e] at this
  exact this⟩
theorem check_f {l : List t7.den} (w : ∀ p ∈ l, PWf p) (hl : l.length ≤ 20) : (GReg l ∧ registry_Check.F l = some (0, ()) ∧ spigotref19_Check.F l = some (0, ())) ∨ (¬ GReg l ∧ ∃ e : Int, (e = 4 ∨ e = 8) ∧ registry_Check.F l = some (e, ()) ∧ spigotref19_Check.F l = some (e, ())) := by
  rw [registry_Check.F_eq, spigotref19_Check.F_eq]
  by_cases h8 : (l.length : Int) > 8
  · rw [bd_pos h8, bd_pos h8]; exact .inr ⟨fun g => by have := g.len; omega, 4, .inl rfl, rfl, rfl⟩
  rw [bd_neg h8, bd_neg h8, registry_Check.L1_eq, spigotref19_Check.L1_eq]
  have a := loop_all (n := l.length) (L := fun i => registry_Check.L2 l (l.length : Int) (i : Int)) (ok := AtOk l) (stop := some (8, ())) (fun i hi => by
    have nx_ : registry_Check.L4 l (l.length : Int) (i : Int) = registry_Check.L2 l (l.length : Int) ((i + 1 : Nat) : Int) := by
      rw [registry_Check.L4_eq, W_eq (by omega) (by omega), cast_add1]
    try dsimp only
    rw [registry_Check.L2_eq, bd_pos (by omega), registry_Check.L3_eq, bd_pos (by omega)]
    simp only [toNat_cast]
    rw [getD_get hi]
    rcases part_says (w _ (List.getElem_mem hi)) with ⟨p, e⟩ | ⟨p, e⟩
    · rw [e, ob, bne_neg rfl]
      by_cases i0 : 0 < i
      · rw [bd_pos (by omega), W_eq (by omega) (by omega), bd_pos (by omega), toNat_sub1 i0, getD_get (by omega : i - 1 < l.length)]
        by_cases q : Z (l[i - 1]).1 ≥ (l[i]).1
        · rw [bd_pos (by exact q)]; exact .inr ⟨fun h => absurd q (Int.not_le.2 ((h hi).2 i0)), rfl⟩
        · rw [bd_neg (by exact q), nx_]; exact .inl ⟨fun _ => ⟨p, fun _ => Int.not_le.1 q⟩, rfl⟩
      · rw [bd_neg (by omega), nx_]; exact .inl ⟨fun _ => ⟨p, fun h => absurd h i0⟩, rfl⟩
    · rw [e, ob, bne_pos (by decide)]; exact .inr ⟨fun h => p (h hi).1, rfl⟩)
  have b := loop_all (n := l.length) (L := fun i => spigotref19_Check.L2 l (i : Int)) (ok := AtOk l) (stop := some (8, ())) (fun i hi => by
    have nx_ : spigotref19_Check.L4 l (i : Int) = spigotref19_Check.L2 l ((i + 1 : Nat) : Int) := by
      rw [spigotref19_Check.L4_eq, W_eq (by omega) (by omega), cast_add1]
    try dsimp only
    rw [spigotref19_Check.L2_eq, bd_pos (by omega), spigotref19_Check.L3_eq, bd_pos (by omega)]
    simp only [toNat_cast]
    rw [getD_get hi]
    rcases rpart_says (w _ (List.getElem_mem hi)) with ⟨p, e⟩ | ⟨p, e⟩
    · rw [e, ob, bne_neg rfl]
      by_cases i0 : 0 < i
      · rw [bd_pos (by omega), bd_pos (by omega), W_eq (by omega) (by omega), bd_pos (by omega), toNat_sub1 i0, getD_get (by omega : i - 1 < l.length)]
        by_cases q : Z (l[i]).1 ≤ (l[i - 1]).1
        · rw [bd_pos (by exact q)]; exact .inr ⟨fun h => absurd q (Int.not_le.2 ((h hi).2 i0)), rfl⟩
        · rw [bd_neg (by exact q), nx_]; exact .inl ⟨fun _ => ⟨p, fun _ => Int.not_le.1 q⟩, rfl⟩
      · rw [bd_neg (by omega), nx_]; exact .inl ⟨fun _ => ⟨p, fun h => absurd h i0⟩, rfl⟩
    · rw [e, ob, bne_pos (by decide)]; exact .inr ⟨fun h => p (h hi).1, rfl⟩)
  rcases a with ⟨a, e⟩ | ⟨a, e⟩
  · rcases b with ⟨b, f⟩ | ⟨b, f⟩
    · refine .inl ⟨at_ok (by omega) a, Eq.trans e ?_, Eq.trans f ?_⟩
      · try dsimp only
        rw [registry_Check.L2_eq, bd_neg (by omega)]
      · try dsimp only
        rw [spigotref19_Check.L2_eq, bd_neg (by omega)]
    · exact absurd a b
  · rcases b with ⟨b, f⟩ | ⟨b, f⟩
    · exact absurd b a
    · exact .inr ⟨fun g => a (at_of g), 8, .inr rfl, e, f⟩
theorem wf_i64 {x : Int} (h : (Lit.int .i64 x).wf = true) : -9223372036854775808 ≤ x ∧ x ≤ 9223372036854775807 := by
  simp only [Lit.wf, Bool.and_eq_true, decide_eq_true_eq] at h
  have a : IntKind.i64.min = -9223372036854775808 := by decide
  have b : IntKind.i64.max = 9223372036854775807 := by decide
  omega
theorem wf_u32 {x : Int} (h : (Lit.int .u32 x).wf = true) : 0 ≤ x ∧ x < 4294967296 := by
  simp only [Lit.wf, Bool.and_eq_true, decide_eq_true_eq] at h
  have a : IntKind.u32.min = 0 := by decide
  have b : IntKind.u32.max = 4294967295 := by decide
  omega
theorem twf_of {t : t5.den} (h : t5.wf t) (hs : TSmall t) : TWf t := by
  obtain ⟨h1, h2, h3, h4, h5, h6, h7⟩ := h
  have hi := hs.idx
  refine ⟨fun c hc => (wf_i64 (h3.2 c hc).2.1).2, fun i i0 i1 => ?_, by omega, fun k hk => ?_⟩
  · have hj : i.toNat < List.length t.2.2.2.2.1 := by omega
    have e2 := cl_get hj
    rw [show ((i.toNat : Nat) : Int) = i by omega] at e2
    rw [e2]
    exact wf_u32 (h5.2 _ (List.getElem_mem hj)).1
  · have : 0 ≤ Z k ∧ Z k < 4294967296 := wf_u32 (h2.2 k hk)
    omega
theorem pwf_of {p : t7.den} (h : t7.wf p) (hs : PSmall p) : PWf p := by
  obtain ⟨h1, h2, h3, h4, h5, h6, h7⟩ := h
  exact ⟨h2.1, (wf_i64 h3.2.1).2, twf_of h4 hs.us, twf_of h5 hs.es⟩
section
variable {cap : Int} {keys : List Int} {bks : List t1.den} {next : List Int} {used : List Bool} {free : Int} {x : List t3.den} {prev nxt : List Int} {head tail : Int} {l : List Int}
theorem get_f (g : TGood cap keys bks next used free x prev nxt head tail l) (hw : ∀ c ∈ bks, Z c.2.1 ≤ 9223372036854775807) {key p : Int} (h : Has x key p) : table_Get.F (cap, keys, bks, (next, used, free, ()), x, (prev, nxt, head, tail, ()), ()) key = some (bks.getD p.toNat b0_, 0, ()) := by
  have hr := g.mem_range (g.has_mem h)
  obtain ⟨l1, l2, l3, l4, l5, l6, l7⟩ := g.lens
  rw [table_Get.F_eq, tcheck_f g hw, ob, bne_neg rfl, table_Get.L1_eq, place_has g h, ob, bd_neg (by dsimp only; omega), table_Get.L2_eq, bd_pos (by dsimp only; omega)]
end
end Go.Proofs.Ytkihjakbbcajbaa.TB
namespace Go.Proofs.Ytkihjakbbcajbaa.TB
set_option linter.unusedSimpArgs false
set_option linter.unusedVariables false
open Go Go.Proofs Go.Proofs.Ytkihjakbbcajbaa.PM Go.Proofs.Ytkihjakbbcajbaa.RP
@[reducible] def w8 (n : Int) : Int := IntKind.wrap .u8 n
@[reducible] def w64 (n : Int) : Int := IntKind.wrap .u64 n
/-- One byte of a number. -/
noncomputable def bt8 (n : Int) (k : Nat) : Int := IntKind.wrap .u8 (Int.fdiv n (2 ^ min (Int.toNat (IntKind.wrap .i64 (8 * (k : Int)))) (IntKind.bits .u64)))
/-- A number's k bytes. -/
noncomputable def be (n : Int) : Nat → List Int
  | 0 => []
  | k + 1 => bt8 n k :: be n k
theorem be_len (n : Int) : ∀ k, (be n k).length = k
  | 0 => rfl
  | k + 1 => by rw [be, List.length_cons, be_len n k]
theorem be_one (x : Int) : be (w64 x) 1 = [w8 x] := by
  have h : (2 : Int) ^ min (Int.toNat (IntKind.wrap .i64 (8 * ((0 : Nat) : Int)))) (IntKind.bits .u64) = 1 := by decide
  show [bt8 (w64 x) 0] = _
  rw [bt8, h, show Int.fdiv (w64 x) 1 = w64 x by simp]
  show [IntKind.wrap .u8 (IntKind.wrap .u64 x)] = [IntKind.wrap .u8 x]
  rw [IntKind.wrap_u64, IntKind.wrap_u8, IntKind.wrap_u8]
  congr 1
  omega
theorem flat_len {α : Type} {f : α → List Int} {c : Nat} : ∀ (x : List α), (∀ y ∈ x, (f y).length ≤ c) → (x.flatMap f).length ≤ c * x.length
  | [], _ => Nat.zero_le _
  | y :: x, h => by
    have h1 := h y List.mem_cons_self
    have h2 := flat_len x fun z hz => h z (List.mem_cons_of_mem _ hz)
    rw [List.flatMap_cons, List.length_append, List.length_cons, Nat.mul_succ]
    omega
theorem flat_take {α : Type} {f : α → List Int} {x : List α} {i : Nat} (h : i < x.length) : (x.take (i + 1)).flatMap f = (x.take i).flatMap f ++ f x[i] := by
  rw [← List.take_append_getElem h, List.flatMap_append, List.flatMap_cons, List.flatMap_nil, List.append_nil]
theorem flat_range {f : Nat → List Int} (i : Nat) : (List.range (i + 1)).flatMap f = (List.range i).flatMap f ++ f i := by
  rw [List.range_succ, List.flatMap_append, List.flatMap_cons, List.flatMap_nil, List.append_nil]
/-! ### numbers -/
theorem number_l1 (n : Int) : ∀ (k : Nat) (l : List Int), k ≤ 8 → l.length + k ≤ 50000010 → spigotref33_number.L1 n ((k : Int) - 1) l = some (l ++ be n k, ())
  | 0, l, _, _ => by rw [spigotref33_number.L1_eq, bd_neg (by omega), be, List.append_nil]
  | k + 1, l, hk, hl => by
    have e : ((k + 1 : Nat) : Int) - 1 = (k : Int) := by omega
    rw [spigotref33_number.L1_eq, bd_pos (by omega), spigotref33_number.L2_eq, e, bd_pos (by rw [W_eq (by omega) (by omega)]; omega), lim_small (by decide) (by simp only [List.length_cons, List.length_nil]; omega), W_eq (x := (k : Int) - 1) (by omega) (by omega), number_l1 n k _ (by omega) (by simp only [List.length_append, List.length_cons, List.length_nil]; omega), List.append_assoc]
    rfl
theorem num_f (n : Int) (k : Nat) {l : List Int} (hk : k ≤ 8) (hl : l.length ≤ 50000000) : spigotref33_number.F l n (k : Int) = some (l ++ be n k, ()) := by
  rw [spigotref33_number.F_eq, W_eq (by omega) (by omega), number_l1 n k l hk (by omega)]
theorem num8 {l : List Int} (hl : l.length ≤ 50000000) (n : Int) : spigotref33_number.F l n 8 = some (l ++ be n 8, ()) := num_f n 8 (by decide) hl
theorem num4 {l : List Int} (hl : l.length ≤ 50000000) (n : Int) : spigotref33_number.F l n 4 = some (l ++ be n 4, ()) := num_f n 4 (by decide) hl
theorem put_l1 (n : Int) : ∀ (k : Nat) (l : List Int), k ≤ 8 → l.length + k ≤ 50000010 → image_writer_put.L1 n ((k : Int) - 1) l = some ((l ++ be n k, ()), ())
  | 0, l, _, _ => by rw [image_writer_put.L1_eq, bd_neg (by omega), be, List.append_nil]
  | k + 1, l, hk, hl => by
    have e : ((k + 1 : Nat) : Int) - 1 = (k : Int) := by omega
    rw [image_writer_put.L1_eq, bd_pos (by omega), image_writer_put.L2_eq, e, bd_pos (by rw [W_eq (by omega) (by omega)]; omega), lim_small (by decide) (by simp only [List.length_cons, List.length_nil]; omega), W_eq (x := (k : Int) - 1) (by omega) (by omega), put_l1 n k _ (by omega) (by simp only [List.length_append, List.length_cons, List.length_nil]; omega), List.append_assoc]
    rfl
theorem put_f (n : Int) (k : Nat) {l : List Int} (hk : k ≤ 8) (hl : l.length ≤ 50000000) : image_writer_put.F (l, ()) n (k : Int) = some ((l ++ be n k, ()), ()) := by
  rw [image_writer_put.F_eq, W_eq (by omega) (by omega), put_l1 n k l hk (by omega)]
theorem put8 {l : List Int} (hl : l.length ≤ 50000000) (n : Int) : image_writer_put.F (l, ()) n 8 = some ((l ++ be n 8, ()), ()) := put_f n 8 (by decide) hl
theorem put4 {l : List Int} (hl : l.length ≤ 50000000) (n : Int) : image_writer_put.F (l, ()) n 4 = some ((l ++ be n 4, ()), ()) := put_f n 4 (by decide) hl
theorem put1 {l : List Int} (hl : l.length ≤ 50000000) (x : Int) : image_writer_put.F (l, ()) (w64 x) 1 = some ((l ++ [w8 x], ()), ()) := by
  rw [← be_one]; exact put_f (w64 x) 1 (by decide) hl
/-! ### buckets and lists -/
noncomputable def bkB (b : t1.den) : List Int := be (w64 b.2.1) 8 ++ (be (w64 b.2.2.1) 8 ++ be b.2.2.2.1 8)
theorem bkB_len (b : t1.den) : (bkB b).length = 24 := by simp only [bkB, List.length_append, be_len]
theorem bkt_f {l : List Int} (h : l.length ≤ 40000000) (b : t1.den) : spigotref33_bucket.F l b = some (l ++ bkB b, ()) := by
  rw [spigotref33_bucket.F_eq, num8 (by omega), ob]
  dsimp only
  rw [num8 (by simp only [List.length_append, be_len]; omega), ob]
  dsimp only
  rw [num8 (by simp only [List.length_append, be_len]; omega), ob, List.append_assoc, List.append_assoc]
  rfl
theorem wbkt_f {l : List Int} (h : l.length ≤ 40000000) (b : t1.den) : image_writer_bucket.F (l, ()) b = some ((l ++ bkB b, ()), ()) := by
  rw [image_writer_bucket.F_eq, put8 (by omega), ob]
  dsimp only
  rw [put8 (by simp only [List.length_append, be_len]; omega), ob]
  dsimp only
  rw [put8 (by simp only [List.length_append, be_len]; omega), ob, List.append_assoc, List.append_assoc]
  rfl
noncomputable def hdB (h : t9.den) : List Int := be (w64 h.1) 4 ++ bkB h.2.1
theorem hdB_len (h : t9.den) : (hdB h).length = 28 := by simp only [hdB, List.length_append, be_len, bkB_len]
noncomputable def hlB (x : List t9.den) : List Int := w8 (x.length : Int) :: x.flatMap hdB
theorem hl_len (x : List t9.den) : (x.flatMap hdB).length ≤ 28 * x.length := flat_len x fun y _ => Nat.le_of_eq (hdB_len y)
theorem hlB_len (x : List t9.den) : (hlB x).length ≤ 28 * x.length + 1 := by
  rw [hlB, List.length_cons]; have := hl_len x; omega
theorem held_f {l : List Int} (h : l.length ≤ 30000000) {x : List t9.den} (hx : x.length ≤ 1000) : spigotref33_held.F l x = some (l ++ hlB x, ()) := by
  have h2 := loop_go (n := x.length) (L := fun i => spigotref33_held.L1 x (i : Int) (l ++ (w8 (x.length : Int) :: (x.take i).flatMap hdB))) (fun i hi => by
    have h3 := hl_len (x.take i)
    rw [List.length_take] at h3
    try dsimp only
    rw [spigotref33_held.L1_eq, bd_pos (by omega), spigotref33_held.L2_eq, bd_pos (by omega)]
    simp only [toNat_cast]
    rw [getD_get hi, num4 (by simp only [List.length_append, List.length_cons]; omega), ob, bd_pos (by omega)]
    dsimp only
    rw [bkt_f (by simp only [List.length_append, List.length_cons, be_len]; omega), ob, W_eq (by omega) (by omega), cast_add1, flat_take hi]
    simp only [hdB, List.append_assoc, List.cons_append])
  have h2 : spigotref33_held.L1 x 0 (l ++ [w8 (x.length : Int)]) = spigotref33_held.L1 x (x.length : Int) (l ++ (w8 (x.length : Int) :: (x.take x.length).flatMap hdB)) := h2
  rw [spigotref33_held.F_eq, lim_small (by decide) (by simp only [List.length_cons, List.length_nil]; omega), h2, spigotref33_held.L1_eq, bd_neg (by omega), List.take_of_length_le (Nat.le_refl _)]
  rfl
theorem wheld_f {l : List Int} (h : l.length ≤ 30000000) {x : List t9.den} (hx : x.length ≤ 1000) : image_writer_held.F (l, ()) x = some ((l ++ hlB x, ()), ()) := by
  have h2 := loop_go (n := x.length) (L := fun i => image_writer_held.L1 x (x.length : Int) (i : Int) (l ++ (w8 (x.length : Int) :: (x.take i).flatMap hdB))) (fun i hi => by
    have h3 := hl_len (x.take i)
    rw [List.length_take] at h3
    try dsimp only
    rw [image_writer_held.L1_eq, bd_pos (by omega), image_writer_held.L2_eq, bd_pos (by omega)]
    simp only [toNat_cast]
    rw [getD_get hi, put4 (by simp only [List.length_append, List.length_cons]; omega), ob]
    dsimp only
    rw [wbkt_f (by simp only [List.length_append, List.length_cons, be_len]; omega), ob, W_eq (by omega) (by omega), cast_add1, flat_take hi]
    simp only [hdB, List.append_assoc, List.cons_append])
  have h2 : image_writer_held.L1 x (x.length : Int) 0 (l ++ [w8 (x.length : Int)]) = image_writer_held.L1 x (x.length : Int) (x.length : Int) (l ++ (w8 (x.length : Int) :: (x.take x.length).flatMap hdB)) := h2
  rw [image_writer_held.F_eq, put1 (by omega), ob]
  dsimp only
  rw [h2, image_writer_held.L1_eq, bd_neg (by omega), List.take_of_length_le (Nat.le_refl _)]
  rfl
/-! ### accounts -/
noncomputable def lmB (x : List t0.den) (i : Nat) : List Int := be (w64 (x.getD i (0, 0, 0, ())).1) 4 ++ (be (w64 (x.getD i (0, 0, 0, ())).2.1) 4 ++ be (w64 (x.getD i (0, 0, 0, ())).2.2.1) 4)
theorem lmB_len (x : List t0.den) (i : Nat) : (lmB x i).length = 12 := by simp only [lmB, List.length_append, be_len]
noncomputable def rvB (u : Int) : List Int := be (w64 u) 4
theorem rvB_len (u : Int) : (rvB u).length = 4 := be_len _ _
noncomputable def accB (a : t10.den) : List Int :=
  w8 a.1 :: ((List.range 3).flatMap (lmB a.2.1) ++ (w8 (List.getD a.2.2.1 (Int.toNat 0) 0) :: w8 (List.getD a.2.2.1 (Int.toNat 1) 0) :: (bkB a.2.2.2.1 ++ (hlB a.2.2.2.2.1 ++ (hlB a.2.2.2.2.2.1 ++ (w8 (List.length a.2.2.2.2.2.2.1 : Int) :: (List.flatMap rvB a.2.2.2.2.2.2.1 ++ (be a.2.2.2.2.2.2.2.1.1 8 ++ (be a.2.2.2.2.2.2.2.1.2.1 8 ++ be a.2.2.2.2.2.2.2.1.2.2.1 8)))))))))
structure ASmall (a : t10.den) : Prop where
  us : List.length a.2.2.2.2.1 ≤ 1000
  es : List.length a.2.2.2.2.2.1 ≤ 1000
  rv : List.length a.2.2.2.2.2.2.1 ≤ 1000
theorem lm_len (x : List t0.den) (i : Nat) : ((List.range i).flatMap (lmB x)).length ≤ 12 * i := by
  have := flat_len (c := 12) (f := lmB x) (List.range i) fun y _ => Nat.le_of_eq (lmB_len x y)
  rwa [List.length_range] at this
theorem rv_len (x : List Int) : (x.flatMap rvB).length ≤ 4 * x.length := flat_len x fun y _ => Nat.le_of_eq (rvB_len y)
theorem accB_len {a : t10.den} (s : ASmall a) : (accB a).length ≤ 100000 := by
  obtain ⟨h1, h2, h3⟩ := s
  have a1 := lm_len a.2.1 3
  have a2 := hlB_len a.2.2.2.2.1
  have a3 := hlB_len a.2.2.2.2.2.1
  have a4 := rv_len a.2.2.2.2.2.2.1
  simp only [accB, List.length_append, List.length_cons, be_len, bkB_len]
  omega
theorem acc_f {l : List Int} (h : l.length ≤ 20000000) {a : t10.den} (s : ASmall a) : spigotref33_account.F l a = some (l ++ accB a, ()) := by
  obtain ⟨h1, h2, h3⟩ := s
  obtain ⟨tn, lims, caps, ⟨⟨o1, o2, o3, ⟨⟩⟩, o4, o5, o6, ⟨⟩⟩, us, es, rv, ⟨y1, y2, y3, ⟨⟩⟩, ⟨⟩⟩ := a
  dsimp only at h1 h2 h3
  have q1 := lm_len lims 3
  have q2 := hlB_len us
  have q3 := hlB_len es
  have e1 := loop_go (n := 3) (L := fun i => spigotref33_account.L1 (i : Int) (l ++ (w8 tn :: (List.range i).flatMap (lmB lims))) tn lims caps o1 o2 o3 o4 o5 o6 us es rv y1 y2 y3) (fun i hi => by
    have q := lm_len lims i
    try dsimp only
    rw [spigotref33_account.L1_eq, bd_pos (by omega), spigotref33_account.L2_eq, bd_pos (by omega)]
    simp only [toNat_cast]
    rw [num4 (by simp only [List.length_append, List.length_cons]; omega), ob, bd_pos (by omega)]
    dsimp only
    rw [num4 (by simp only [List.length_append, List.length_cons, be_len]; omega), ob, bd_pos (by omega)]
    dsimp only
    rw [num4 (by simp only [List.length_append, List.length_cons, be_len]; omega), ob, W_eq (by omega) (by omega), cast_add1, flat_range]
    simp only [lmB, List.append_assoc, List.cons_append])
  have e1 : spigotref33_account.L1 0 (l ++ [w8 tn]) tn lims caps o1 o2 o3 o4 o5 o6 us es rv y1 y2 y3 = spigotref33_account.L1 ((3 : Nat) : Int) (l ++ (w8 tn :: (List.range 3).flatMap (lmB lims))) tn lims caps o1 o2 o3 o4 o5 o6 us es rv y1 y2 y3 := e1
  have e2 := fun (l0 : List Int) (hl0 : l0.length ≤ 25000000) => loop_go (n := rv.length) (L := fun i => spigotref33_account.L3 (i : Int) (l0 ++ (rv.take i).flatMap rvB) tn lims caps o1 o2 o3 o4 o5 o6 us es rv y1 y2 y3) (fun i hi => by
    have q := rv_len (rv.take i)
    rw [List.length_take] at q
    try dsimp only
    rw [spigotref33_account.L3_eq, bd_pos (by omega), spigotref33_account.L4_eq, bd_pos (by omega)]
    simp only [toNat_cast]
    rw [num4 (by simp only [List.length_append]; omega), ob, W_eq (by omega) (by omega), cast_add1, flat_take hi, getD_get hi]
    simp only [rvB, List.append_assoc])
  have e2 : ∀ (l0 : List Int), l0.length ≤ 25000000 → spigotref33_account.L3 0 l0 tn lims caps o1 o2 o3 o4 o5 o6 us es rv y1 y2 y3 = spigotref33_account.L3 (rv.length : Int) (l0 ++ rv.flatMap rvB) tn lims caps o1 o2 o3 o4 o5 o6 us es rv y1 y2 y3 := fun l0 hl0 => by
    have := e2 l0 hl0
    rw [List.take_of_length_le (Nat.le_refl _)] at this
    refine Eq.trans ?_ this
    show _ = spigotref33_account.L3 0 (l0 ++ []) _ _ _ _ _ _ _ _ _ _ _ _ _ _ _
    rw [List.append_nil]
  have q4 := rv_len rv
  rw [spigotref33_account.F_eq, lim_small (by decide) (by simp only [List.length_cons, List.length_nil]; omega)]
  dsimp only
  rw [e1, spigotref33_account.L1_eq, bd_neg (by omega), bd_pos (by decide), bd_pos (by decide), lim_small (by decide) (by simp only [List.length_append, List.length_cons, List.length_nil]; omega), bkt_f (by simp only [List.length_append, List.length_cons, List.length_nil]; omega), ob]
  dsimp only
  rw [held_f (by simp only [List.length_append, List.length_cons, List.length_nil, bkB_len]; omega) h1, ob]
  dsimp only
  rw [held_f (by simp only [List.length_append, List.length_cons, List.length_nil, bkB_len]; omega) h2, ob]
  dsimp only
  rw [lim_small (by decide) (by simp only [List.length_append, List.length_cons, List.length_nil, bkB_len]; omega), e2 _ (by simp only [List.length_append, List.length_cons, List.length_nil, bkB_len]; omega), spigotref33_account.L3_eq, bd_neg (by omega), num8 (by simp only [List.length_append, List.length_cons, List.length_nil, bkB_len]; omega), ob]
  dsimp only
  rw [num8 (by simp only [List.length_append, List.length_cons, List.length_nil, bkB_len, be_len]; omega), ob]
  dsimp only
  rw [num8 (by simp only [List.length_append, List.length_cons, List.length_nil, bkB_len, be_len]; omega), ob]
  simp only [accB, List.append_assoc, List.cons_append, List.nil_append]
theorem wacc_f {l : List Int} (h : l.length ≤ 20000000) {a : t10.den} (s : ASmall a) : image_writer_account.F (l, ()) a = some ((l ++ accB a, ()), ()) := by
  obtain ⟨h1, h2, h3⟩ := s
  obtain ⟨tn, lims, caps, ⟨⟨o1, o2, o3, ⟨⟩⟩, o4, o5, o6, ⟨⟩⟩, us, es, rv, ⟨y1, y2, y3, ⟨⟩⟩, ⟨⟩⟩ := a
  dsimp only at h1 h2 h3
  have q1 := lm_len lims 3
  have q2 := hlB_len us
  have q3 := hlB_len es
  have e1 := loop_go (n := 3) (L := fun i => image_writer_account.L1 lims (i : Int) tn caps o1 o2 o3 o4 o5 o6 us es rv y1 y2 y3 (l ++ (w8 tn :: (List.range i).flatMap (lmB lims)))) (fun i hi => by
    have q := lm_len lims i
    try dsimp only
    rw [image_writer_account.L1_eq, bd_pos (by omega), image_writer_account.L2_eq, bd_pos (by omega)]
    simp only [toNat_cast]
    rw [put4 (by simp only [List.length_append, List.length_cons]; omega), ob]
    dsimp only
    rw [put4 (by simp only [List.length_append, List.length_cons, be_len]; omega), ob]
    dsimp only
    rw [put4 (by simp only [List.length_append, List.length_cons, be_len]; omega), ob, W_eq (by omega) (by omega), cast_add1, flat_range]
    simp only [lmB, List.append_assoc, List.cons_append])
  have e1 : image_writer_account.L1 lims 0 tn caps o1 o2 o3 o4 o5 o6 us es rv y1 y2 y3 (l ++ [w8 tn]) = image_writer_account.L1 lims ((3 : Nat) : Int) tn caps o1 o2 o3 o4 o5 o6 us es rv y1 y2 y3 (l ++ (w8 tn :: (List.range 3).flatMap (lmB lims))) := e1
  have e2 := fun (l0 : List Int) (hl0 : l0.length ≤ 25000000) => loop_go (n := rv.length) (L := fun i => image_writer_account.L3 rv (rv.length : Int) (i : Int) tn lims caps o1 o2 o3 o4 o5 o6 us es y1 y2 y3 (l0 ++ (rv.take i).flatMap rvB)) (fun i hi => by
    have q := rv_len (rv.take i)
    rw [List.length_take] at q
    try dsimp only
    rw [image_writer_account.L3_eq, bd_pos (by omega), image_writer_account.L4_eq, bd_pos (by omega)]
    simp only [toNat_cast]
    rw [put4 (by simp only [List.length_append]; omega), ob, W_eq (by omega) (by omega), cast_add1, flat_take hi, getD_get hi]
    simp only [rvB, List.append_assoc])
  have e2 : ∀ (l0 : List Int), l0.length ≤ 25000000 → image_writer_account.L3 rv (rv.length : Int) 0 tn lims caps o1 o2 o3 o4 o5 o6 us es y1 y2 y3 l0 = image_writer_account.L3 rv (rv.length : Int) (rv.length : Int) tn lims caps o1 o2 o3 o4 o5 o6 us es y1 y2 y3 (l0 ++ rv.flatMap rvB) := fun l0 hl0 => by
    have := e2 l0 hl0
    rw [List.take_of_length_le (Nat.le_refl _)] at this
    refine Eq.trans ?_ this
    show _ = image_writer_account.L3 _ _ 0 _ _ _ _ _ _ _ _ _ _ _ _ _ _ (l0 ++ [])
    rw [List.append_nil]
  have q4 := rv_len rv
  rw [image_writer_account.F_eq]
  dsimp only
  rw [put1 (by omega), ob]
  dsimp only
  rw [e1, image_writer_account.L1_eq, bd_neg (by omega), bd_pos (by decide), put1 (by simp only [List.length_append, List.length_cons, List.length_nil]; omega), ob, bd_pos (by decide)]
  dsimp only
  rw [put1 (by simp only [List.length_append, List.length_cons, List.length_nil]; omega), ob]
  dsimp only
  rw [wbkt_f (by simp only [List.length_append, List.length_cons, List.length_nil]; omega), ob]
  dsimp only
  rw [wheld_f (by simp only [List.length_append, List.length_cons, List.length_nil, bkB_len]; omega) h1, ob]
  dsimp only
  rw [wheld_f (by simp only [List.length_append, List.length_cons, List.length_nil, bkB_len]; omega) h2, ob]
  dsimp only
  rw [put1 (by simp only [List.length_append, List.length_cons, List.length_nil, bkB_len]; omega), ob]
  dsimp only
  rw [e2 _ (by simp only [List.length_append, List.length_cons, List.length_nil, bkB_len]; omega), image_writer_account.L3_eq, bd_neg (by omega), put8 (by simp only [List.length_append, List.length_cons, List.length_nil, bkB_len]; omega), ob]
  dsimp only
  rw [put8 (by simp only [List.length_append, List.length_cons, List.length_nil, bkB_len, be_len]; omega), ob]
  dsimp only
  rw [put8 (by simp only [List.length_append, List.length_cons, List.length_nil, bkB_len, be_len]; omega), ob]
  simp only [accB, List.append_assoc, List.cons_append, List.nil_append]
end Go.Proofs.Ytkihjakbbcajbaa.TB
