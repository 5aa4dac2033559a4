/- The answers' checks of arena, index, order and bucket in plain words. -/
import Derived.Test.YtkihjakbbcajbaaZpm
import Derived.Test.YtkihjakbbcajbaaTbT
namespace Go.Proofs.Ytkihjakbbcajbaa.TB
set_option linter.unusedSimpArgs false
set_option linter.unusedVariables false
open Go Go.Proofs Go.Proofs.Ytkihjakbbcajbaa.PM Go.Proofs.Ytkihjakbbcajbaa.RP
theorem in_f {l : List Int} (hl : l.length ≤ 1000) (n : Int) : spigotref13_In.F l n = some (decide (n ∈ l), ()) := by
  rw [spigotref13_In.F_eq]
  rcases find_loop (n := l.length) (L := fun i => spigotref13_In.L1 l n (i : Int)) (p := fun i => l.getD i 0 = n) (hit := fun _ => some (true, ())) (miss := some (false, ())) (fun i hi => by
    try dsimp only
    rw [spigotref13_In.L1_eq, bd_pos (by omega), spigotref13_In.L2_eq, bd_pos (by omega)]
    simp only [toNat_cast]
    by_cases e : l.getD i 0 = n
    · rw [beq_pos e]; exact .inl ⟨e, rfl⟩
    · rw [beq_neg e, spigotref13_In.L3_eq, W_eq (by omega) (by omega), cast_add1]; exact .inr ⟨e, rfl⟩) (by
    try dsimp only
    rw [spigotref13_In.L1_eq, bd_neg (by omega)]) with ⟨i, hi, h1, _, h2⟩ | ⟨h1, h2⟩
  · refine Eq.trans h2 ?_
    rw [decide_eq_true]
    rw [getD_get hi] at h1
    rw [← h1]; exact List.getElem_mem hi
  · refine Eq.trans h2 ?_
    rw [decide_eq_false]
    intro hm
    obtain ⟨i, hi, e⟩ := List.mem_iff_getElem.1 hm
    exact h1 i hi (by rw [getD_get hi, e])
theorem free_step (next : List Int) (used : List Bool) (free : Int) (hn : next.length ≤ 100) (i : Int) (acc : List Int) (ha : acc.length ≤ 100) : spigotref13_Free.L1 i next used free acc = if i = -1 then some (acc, true, ()) else if i < 0 then some ([], false, ()) else if i ≥ next.length then some ([], false, ()) else if i ∈ acc then some ([], false, ()) else spigotref13_Free.L1 (next.getD i.toNat 0) next used free (acc ++ [i]) := by
  conv => lhs; rw [spigotref13_Free.L1_eq]
  by_cases e : i = -1
  · rw [bne_neg e, if_pos e]
  rw [bne_pos e, if_neg e, spigotref13_Free.L2_eq]
  by_cases h0 : i < 0
  · rw [bd_pos h0, if_pos h0]
  rw [bd_neg h0, if_neg h0]
  by_cases h1 : i ≥ next.length
  · rw [bd_pos h1, if_pos h1]
  rw [bd_neg h1, if_neg h1, in_f (by omega), ob]
  by_cases hm : i ∈ acc
  · rw [if_pos hm, decide_eq_true hm]; rfl
  · rw [if_neg hm, decide_eq_false hm, bf rfl, spigotref13_Free.L3_eq, lim_small (by decide) (by simp; omega), bd_pos (by omega)]
theorem free_f (next : List Int) (used : List Bool) (free : Int) (hn : next.length ≤ 100) : (∃ l, Chain next free l ∧ l.Nodup ∧ spigotref13_Free.F (next, used, free, ()) = some (l, true, ())) ∨ ((¬ ∃ l, Chain next free l ∧ l.Nodup) ∧ spigotref13_Free.F (next, used, free, ()) = some ([], false, ())) := by
  have := walk_gen (L := fun i acc => spigotref13_Free.L1 i next used free acc) hn (fun i acc ha => free_step next used free hn i acc ha) next.length [] free (by simp) (by simp) (by simp)
  simpa [spigotref13_Free.F_eq] using this
theorem all_step (prev next : List Int) (head tail : Int) (hn : next.length ≤ 100) (i : Int) (acc : List Int) (ha : acc.length ≤ 100) : spigotref15_All.L1 i prev next head tail acc = if i = -1 then some (acc, true, ()) else if i < 0 then some ([], false, ()) else if i ≥ next.length then some ([], false, ()) else if i ∈ acc then some ([], false, ()) else spigotref15_All.L1 (next.getD i.toNat 0) prev next head tail (acc ++ [i]) := by
  conv => lhs; rw [spigotref15_All.L1_eq]
  by_cases e : i = -1
  · rw [bne_neg e, if_pos e]
  rw [bne_pos e, if_neg e, spigotref15_All.L2_eq]
  by_cases h0 : i < 0
  · rw [bd_pos h0, if_pos h0]
  rw [bd_neg h0, if_neg h0]
  by_cases h1 : i ≥ next.length
  · rw [bd_pos h1, if_pos h1]
  rw [bd_neg h1, if_neg h1, in_f (by omega), ob]
  by_cases hm : i ∈ acc
  · rw [if_pos hm, decide_eq_true hm]; rfl
  · rw [if_neg hm, decide_eq_false hm, bf rfl, spigotref15_All.L3_eq, lim_small (by decide) (by simp; omega), bd_pos (by omega)]
theorem all_f (prev next : List Int) (head tail : Int) (hn : next.length ≤ 100) : (∃ l, Chain next head l ∧ l.Nodup ∧ spigotref15_All.F (prev, next, head, tail, ()) = some (l, true, ())) ∨ ((¬ ∃ l, Chain next head l ∧ l.Nodup) ∧ spigotref15_All.F (prev, next, head, tail, ()) = some ([], false, ())) := by
  have := walk_gen (L := fun i acc => spigotref15_All.L1 i prev next head tail acc) hn (fun i acc ha => all_step prev next head tail hn i acc ha) next.length [] head (by simp) (by simp) (by simp)
  simpa [spigotref15_All.F_eq] using this
theorem rarena_says (next : List Int) (used : List Bool) (free : Int) : Says (AOk next used free) (spigotref13_Check.F (next, used, free, ())) := by
  rw [spigotref13_Check.F_eq]
  dsimp only
  by_cases hlow : (next.length : Int) < 1
  · rw [bd_pos hlow]; exact .inr ⟨fun ⟨l, g⟩ => by have := g.low; omega, rfl⟩
  by_cases hhigh : (next.length : Int) > 16
  · rw [bd_neg hlow, bd_pos hhigh]; exact .inr ⟨fun ⟨l, g⟩ => by have := g.high; omega, rfl⟩
  by_cases hsame : (used.length : Int) = (next.length : Int)
  · rw [bd_neg hlow, bd_neg hhigh, bne_neg hsame, spigotref13_Check.L1_eq]
    rcases free_f next used free (by omega) with ⟨l, hc, hnd, e⟩ | ⟨hc, e⟩
    · have hs := nodup_le hnd hc.range
      rw [e, ob, bnt rfl, spigotref13_Check.L2_eq]
      refine Says.congr (P := ∀ i, i < used.length → ((used.getD i false = true ↔ ¬ (i : Int) ∈ l) ∧ (used.getD i false = true → next.getD i 0 = -1))) ?_ ⟨fun h => ⟨l, by omega, by omega, by omega, hc, hnd, fun j hj => (h j hj).1, fun j hj => (h j hj).2⟩, fun ⟨l', g⟩ i hi => ?_⟩
      · rcases loop_all (n := used.length) (L := fun i => spigotref13_Check.L3 (i : Int) next used free l) (ok := fun i => ((used.getD i false = true ↔ ¬ (i : Int) ∈ l) ∧ (used.getD i false = true → next.getD i 0 = -1))) (stop := some (8, ())) (fun i hi => by
          try dsimp only
          rw [spigotref13_Check.L3_eq, bd_pos (by omega), spigotref13_Check.L4_eq, bd_pos (by omega), in_f (by omega), ob]
          simp only [toNat_cast]
          have nxt : spigotref13_Check.L5 (i : Int) next used free l = spigotref13_Check.L3 ((i + 1 : Nat) : Int) next used free l := by
            rw [spigotref13_Check.L5_eq, W_eq (by omega) (by omega), cast_add1]
          by_cases u : used.getD i false = true
          · by_cases m : (i : Int) ∈ l
            · rw [u, decide_eq_true m]; exact .inr ⟨fun h => h.1.1 rfl m, rfl⟩
            · rw [u, decide_eq_false m, bf (b := true == false) rfl, bd_pos (by omega), bt rfl, bd_pos (by omega)]
              by_cases z : next.getD i 0 = -1
              · rw [bne_neg z, nxt]; exact .inl ⟨⟨⟨fun _ => m, fun _ => rfl⟩, fun _ => z⟩, rfl⟩
              · rw [bne_pos z]; exact .inr ⟨fun h => z (h.2 rfl), rfl⟩
          · rw [bool_not u]
            by_cases m : (i : Int) ∈ l
            · rw [decide_eq_true m, bf (b := false == true) rfl, bd_pos (by omega), bf rfl, nxt]
              exact .inl ⟨⟨⟨fun h => (by cases h), fun h => absurd m h⟩, fun h => (by cases h)⟩, rfl⟩
            · rw [decide_eq_false m]; exact .inr ⟨fun h => (by cases h.1.2 m), rfl⟩) with ⟨h, e⟩ | ⟨h, e⟩
        · refine .inl ⟨h, Eq.trans e ?_⟩
          try dsimp only
          rw [spigotref13_Check.L3_eq, bd_neg (by omega)]
        · exact .inr ⟨h, e⟩
      · obtain rfl := hc.det g.chain
        exact ⟨g.mark i hi, g.end_ i hi⟩
    · rw [e, ob, bnf rfl]
      exact .inr ⟨fun ⟨l, g⟩ => hc ⟨l, g.chain, g.nodup⟩, rfl⟩
  · rw [bd_neg hlow, bd_neg hhigh, bne_pos hsame]; exact .inr ⟨fun ⟨l, g⟩ => by have := g.same; omega, rfl⟩
/-! ### the index -/
theorem count_f {x : List t3.den} (hx : x.length ≤ 1000) : spigotref14_Count.F x = some ((cnt x : Int), ()) := by
  have h2 := loop_go (n := x.length) (L := fun i => spigotref14_Count.L1 x (((x.take i).countP (·.2.2.1) : Nat) : Int) (i : Int)) (fun i hi => by
    have hle := cnt_le x i
    try dsimp only
    rw [spigotref14_Count.L1_eq, bd_pos (by omega), spigotref14_Count.L2_eq, bd_pos (by omega), take_cnt hi]
    by_cases u : (cl x (i : Int)).2.2.1 = true
    · rw [bt u, if_pos u, spigotref14_Count.L3_eq, W_eq (by omega) (by omega), W_eq (by omega) (by omega), cast_add1, cast_add1]
    · rw [bf (bool_not u), if_neg u, spigotref14_Count.L3_eq, W_eq (x := (i : Int) + 1) (by omega) (by omega), cast_add1]; rfl)
  try dsimp only at h2
  rw [List.take_of_length_le (Nat.le_refl _)] at h2
  have h3 : spigotref14_Count.L1 x 0 0 = spigotref14_Count.L1 x (cnt x : Int) (x.length : Int) := h2
  rw [spigotref14_Count.F_eq, h3, spigotref14_Count.L1_eq, bd_neg (by omega)]
/-- The first used cell with key, or -1. -/
theorem at_f {x : List t3.den} (hx : x.length ≤ 1000) (key : Int) :
    (∃ i : Nat, i < x.length ∧ (cl x (i : Int)).2.2.1 = true ∧ (cl x (i : Int)).1 = key ∧ (∀ j : Nat, j < i → ¬ ((cl x (j : Int)).2.2.1 = true ∧ (cl x (j : Int)).1 = key)) ∧ spigotref14_At.F x key = some ((i : Int), ())) ∨
    ((∀ j : Nat, j < x.length → ¬ ((cl x (j : Int)).2.2.1 = true ∧ (cl x (j : Int)).1 = key)) ∧ spigotref14_At.F x key = some (-1, ())) := by
  rw [spigotref14_At.F_eq]
  rcases find_loop (n := x.length) (L := fun i => spigotref14_At.L1 x key (i : Int)) (p := fun j : Nat => (cl x (j : Int)).2.2.1 = true ∧ (cl x (j : Int)).1 = key) (hit := fun i => some ((i : Int), ())) (miss := some (-1, ())) (fun i hi => by
    try dsimp only
    have nxt : spigotref14_At.L3 x key (i : Int) = spigotref14_At.L1 x key ((i + 1 : Nat) : Int) := by
      rw [spigotref14_At.L3_eq, W_eq (by omega) (by omega), cast_add1]
    rw [spigotref14_At.L1_eq, bd_pos (by omega), spigotref14_At.L2_eq, bd_pos (by omega)]
    by_cases u : (cl x (i : Int)).2.2.1 = true
    · rw [bt u, bd_pos (by omega)]
      by_cases e : (cl x (i : Int)).1 = key
      · rw [beq_pos e]; exact .inl ⟨⟨u, e⟩, rfl⟩
      · rw [beq_neg e, nxt]; exact .inr ⟨fun h => e h.2, rfl⟩
    · rw [bf (bool_not u), nxt]; exact .inr ⟨fun h => u h.1, rfl⟩) (by
    try dsimp only
    rw [spigotref14_At.L1_eq, bd_neg (by omega)]) with ⟨i, hi, h1, h3, h2⟩ | ⟨h1, h2⟩
  · exact .inl ⟨i, hi, h1.1, h1.2, h3, h2⟩
  · exact .inr ⟨h1, h2⟩
theorem at_valid {x : List t3.den} (h : POk x) {i : Int} (h0 : 0 ≤ i) (h1 : i < 16) (u : (cl x i).2.2.1 = true) : spigotref14_At.F x (cl x i).1 = some (i, ()) := by
  have hl := h.len
  rcases at_f (x := x) (by omega) (cl x i).1 with ⟨j, hj, v, e, _, f⟩ | ⟨n, _⟩
  · rw [f, h.uniq (j : Int) i (by omega) (by omega) h0 h1 v u e]
  · have := n i.toNat (by omega)
    rw [show ((i.toNat : Nat) : Int) = i by omega] at this
    exact absurd ⟨u, rfl⟩ this
/-- All keys are numbers of 32 bits. -/
def Keys (x : List t3.den) : Prop := ∀ i : Int, 0 ≤ i → i < x.length → 0 ≤ Z (cl x i).1 ∧ Z (cl x i).1 < 4294967296
theorem rhome_f {key : Int} (h0 : 0 ≤ key) (h1 : key < 4294967296) : spigotref14_Home.F key = some (hm key, ()) := by
  have e1 : IntKind.wrap .u64 key = key := by rw [IntKind.wrap_u64]; omega
  have e2 : IntKind.wrap .u64 (key * 2654435769) = key * 2654435769 := by rw [IntKind.wrap_u64]; omega
  have e3 : IntKind.wrap .u64 (hm key) = hm key := by have := hm_range key; rw [IntKind.wrap_u64]; omega
  have e4 : IntKind.wrap .i64 (hm key) = hm key := by have := hm_range key; exact W_eq (by omega) (by omega)
  rw [spigotref14_Home.F_eq, bd_pos (by decide), bd_pos (by decide), e1, e2, Int.tmod_eq_emod_of_nonneg (by omega), Int.tdiv_eq_ediv_of_nonneg (by omega)]
  show some (IntKind.wrap .i64 (IntKind.wrap .u64 (hm key)), ()) = _
  rw [e3, e4]
/-- What the reference asks of a cell. -/
def RefOk (x : List t3.den) (i : Int) : Prop :=
  ((cl x i).2.2.1 = false → cl x i = (0, 0, false, ())) ∧
  ((cl x i).2.2.1 = true → 0 ≤ Z (cl x i).2.1 ∧ Z (cl x i).2.1 < 16 ∧ spigotref14_At.F x (cl x i).1 = some (i, ()) ∧
    ∀ e : Nat, (e : Int) < (i - hm (cl x i).1) % 16 → (cl x ((hm (cl x i).1 + e) % 16)).2.2.1 = true)
theorem ref_of_valid {x : List t3.den} (h : POk x) (i : Int) (h0 : 0 ≤ i) (h1 : i < 16) : RefOk x i :=
  ⟨h.zero i h0 h1, fun u => ⟨(h.place i h0 h1 u).1, (h.place i h0 h1 u).2, at_valid h h0 h1 u, h.path i h0 h1 u⟩⟩
theorem valid_of_ref {x : List t3.den} (hx : x.length = 16) (hc : cnt x ≤ 12) (h : ∀ i : Int, 0 ≤ i → i < 16 → RefOk x i) : POk x where
  len := hx
  few := hc
  zero i h0 h1 := (h i h0 h1).1
  place i h0 h1 u := ⟨((h i h0 h1).2 u).1, ((h i h0 h1).2 u).2.1⟩
  uniq i j h0 h1 g0 g1 u v hk := by
    have a := ((h i h0 h1).2 u).2.2.1
    have b := ((h j g0 g1).2 v).2.2.1
    rw [hk, b] at a
    exact (congrArg Prod.fst (Option.some.inj a)).symm
  path i h0 h1 u e he := ((h i h0 h1).2 u).2.2.2 e he
theorem rpath {x : List t3.den} (hx : x.length = 16) {i : Nat} {h : Int} (h1 : i < 16) (g0 : 0 ≤ h) (g1 : h < 16) :
    ((∀ e : Nat, (e : Int) < ((i : Int) - h) % 16 → (cl x ((h + e) % 16)).2.2.1 = true) ∧ spigotref14_Check.L7 x (i : Int) h = spigotref14_Check.L2 x ((i + 1 : Nat) : Int)) ∨
    ((¬ ∀ e : Nat, (e : Int) < ((i : Int) - h) % 16 → (cl x ((h + e) % 16)).2.2.1 = true) ∧ spigotref14_Check.L7 x (i : Int) h = some (8, ())) := by
  rcases loop_all (n := (((i : Int) - h) % 16).toNat) (L := fun e => spigotref14_Check.L7 x (i : Int) ((h + (e : Int)) % 16)) (ok := fun e => (cl x ((h + (e : Int)) % 16)).2.2.1 = true) (stop := some (8, ())) (fun e he => by
    try dsimp only
    rw [spigotref14_Check.L7_eq, bne_pos (by omega), spigotref14_Check.L8_eq, bd_pos (by omega)]
    by_cases u : (cl x ((h + (e : Int)) % 16)).2.2.1 = true
    · rw [bnt u, spigotref14_Check.L9_eq, bd_pos (by decide), W_eq (by omega) (by omega), Int.tmod_eq_emod_of_nonneg (by omega), next_pos]
      exact .inl ⟨u, rfl⟩
    · rw [bnf (bool_not u)]; exact .inr ⟨u, rfl⟩) with ⟨a, e⟩ | ⟨a, e⟩
  · left
    refine ⟨fun e he => a e (by omega), ?_⟩
    try dsimp only at e
    rw [show (h + ((0 : Nat) : Int)) % 16 = h by omega, show (h + (((((i : Int) - h) % 16).toNat : Nat) : Int)) % 16 = (i : Int) by omega] at e
    rw [e, spigotref14_Check.L7_eq, bne_neg rfl, W_eq (by omega) (by omega), cast_add1]
  · right
    refine ⟨fun h2 => a fun e he => h2 e (by omega), ?_⟩
    try dsimp only at e
    rw [show (h + ((0 : Nat) : Int)) % 16 = h by omega] at e
    exact e
theorem rprobe_says {x : List t3.den} (hk : Keys x) (hl : x.length ≤ 1000) : Says (POk x) (spigotref14_Check.F x) := by
  rw [spigotref14_Check.F_eq]
  by_cases hx : (x.length : Int) = 16
  · have hx' : x.length = 16 := by omega
    rw [bne_neg hx, count_f hl, ob]
    by_cases hc : cnt x ≤ 12
    · rw [bd_neg (by dsimp only; omega), spigotref14_Check.L1_eq]
      rcases loop_all (n := 16) (L := fun i => spigotref14_Check.L2 x (i : Int)) (ok := fun i => RefOk x (i : Int)) (stop := some (8, ())) (fun i hi => by
        try dsimp only
        rw [spigotref14_Check.L2_eq, bd_pos (by omega), spigotref14_Check.L3_eq, bd_pos (by omega)]
        by_cases u : (cl x (i : Int)).2.2.1 = true
        · have nz : ¬ ((cl x (i : Int)).2.2.1 = false) := by rw [u]; simp
          rw [bnt u, spigotref14_Check.L5_eq, bd_pos (by omega)]
          by_cases p0 : Z (cl x (i : Int)).2.1 < 0
          · rw [bd_pos (by exact p0)]; exact .inr ⟨fun hc => by have := (hc.2 u).1; omega, rfl⟩
          by_cases p1 : Z (cl x (i : Int)).2.1 ≥ 16
          · rw [bd_neg (by exact p0), bd_pos (by omega), bd_pos (by exact p1)]; exact .inr ⟨fun hc => by have := (hc.2 u).2.1; omega, rfl⟩
          rw [bd_neg (by exact p0), bd_pos (by omega), bd_neg (by exact p1), bd_pos (by omega)]
          have hr := hm_range (cl x (i : Int)).1
          have ki := hk (i : Int) (by omega) (by omega)
          rcases at_f (x := x) (by omega) (cl x (i : Int)).1 with ⟨j, hj, v, e, _, f⟩ | ⟨n, f⟩
          · rw [f, ob]
            by_cases q : (j : Int) = (i : Int)
            · rw [bne_neg q, spigotref14_Check.L6_eq, bd_pos (by omega), rhome_f ki.1 ki.2, ob]
              rcases rpath hx' hi hr.1 hr.2 with ⟨a, b⟩ | ⟨a, b⟩
              · refine .inl ⟨⟨fun uf => absurd uf nz, fun _ => ⟨by omega, by omega, by rw [f, q], a⟩⟩, b⟩
              · exact .inr ⟨fun h => a (h.2 u).2.2.2, b⟩
            · rw [bne_pos q]
              refine .inr ⟨fun h => q ?_, rfl⟩
              have := (h.2 u).2.2.1
              rw [f] at this
              exact congrArg Prod.fst (Option.some.inj this)
          · exact absurd ⟨u, rfl⟩ (n i (by omega))
        · have uf := bool_not u
          rw [bnf uf, bd_pos (by omega)]
          by_cases z : cl x (i : Int) = (0, 0, false, ())
          · rw [nbeq_neg z, spigotref14_Check.L4_eq, W_eq (by omega) (by omega), cast_add1]
            exact .inl ⟨⟨fun _ => z, fun ut => absurd ut u⟩, rfl⟩
          · rw [nbeq_pos z]; exact .inr ⟨fun hc => z (hc.1 uf), rfl⟩) with ⟨a, e⟩ | ⟨a, e⟩
      · refine .inl ⟨valid_of_ref hx' hc fun i h0 h1 => ?_, Eq.trans e ?_⟩
        · have := a i.toNat (by omega)
          rw [show ((i.toNat : Nat) : Int) = i by omega] at this
          exact this
        · try dsimp only
          rw [spigotref14_Check.L2_eq, bd_neg (by decide)]
      · exact .inr ⟨fun h => a fun i hi => ref_of_valid h i (by omega) (by omega), e⟩
    · rw [bd_pos (by dsimp only; omega)]; exact .inr ⟨fun h => hc h.few, rfl⟩
  · rw [bne_pos hx]; exact .inr ⟨fun h => hx (by rw [h.len]; rfl), rfl⟩
/-! ### limits and buckets -/
theorem rlimit_says (l : t0.den) : Says (LimOk l) (spigotref03_CheckLimit.F l) := by
  rw [spigotref03_CheckLimit.F_eq]
  exact .guard fun _ => .guard fun _ => .guard fun _ => .guard fun _ => .guard fun _ => .guard fun _ => by rw [spigotref03_CheckLimit.L1_eq]; exact .done
theorem rbucket_says (b : t1.den) : Says (BktOk b) (spigotref03_Check.F b) := by
  rw [spigotref03_Check.F_eq]
  refine (rlimit_says b.1).call (fun hl => ?_) rfl
  rw [bne_neg rfl]
  refine .guard fun a => ?_
  refine Says.congr (P := ¬ Z b.2.1 > Z b.1.1 ∧ _) (.guard fun c => .guard fun pz => .guard fun _ => ?_) (and_congr ⟨fun h => by omega, fun h => by omega⟩ Iff.rfl)
  have pz : ¬ Z b.2.2.1 < 0 := pz
  by_cases z : Z b.2.1 = Z b.1.1
  · rw [beq_pos (by exact z)]
    by_cases w : Z b.2.2.1 = 0
    · rw [bne_neg (by exact w), spigotref03_Check.L1_eq]; exact .inl ⟨fun _ => by omega, rfl⟩
    · rw [bne_pos (by exact w)]; exact .inr ⟨fun h => by have := h (by omega); omega, rfl⟩
  · rw [beq_neg (by exact z), spigotref03_Check.L1_eq]; exact .inl ⟨fun h => absurd h (by omega), rfl⟩
end Go.Proofs.Ytkihjakbbcajbaa.TB
namespace Go.Proofs.Ytkihjakbbcajbaa.TB
set_option linter.unusedSimpArgs false
set_option linter.unusedVariables false
open Go Go.Proofs Go.Proofs.Ytkihjakbbcajbaa.PM Go.Proofs.Ytkihjakbbcajbaa.RP
theorem ext_getD {α : Type} {a b : List α} {d : α} (h : a.length = b.length) (k : ∀ i : Nat, i < a.length → a.getD i d = b.getD i d) : a = b := by
  refine List.ext_getElem h fun i h1 h2 => ?_
  have := k i h1
  rw [getD_get h1, getD_get h2] at this
  exact this
theorem sameInts_f {a b : List Int} (ha : a.length ≤ 1000) : spigotref15_SameInts.F a b = some (decide (a = b), ()) := by
  rw [spigotref15_SameInts.F_eq]
  by_cases hl : (a.length : Int) = (b.length : Int)
  · rw [bne_neg hl, spigotref15_SameInts.L1_eq]
    rcases loop_all (n := a.length) (L := fun i => spigotref15_SameInts.L2 a b (i : Int)) (ok := fun i => a.getD i 0 = b.getD i 0) (stop := some (false, ())) (fun i hi => by
      try dsimp only
      rw [spigotref15_SameInts.L2_eq, bd_pos (by omega), spigotref15_SameInts.L3_eq, bd_pos (by omega), bd_pos (by omega)]
      simp only [toNat_cast]
      by_cases e : a.getD i 0 = b.getD i 0
      · rw [bne_neg e, spigotref15_SameInts.L4_eq, W_eq (by omega) (by omega), cast_add1]; exact .inl ⟨e, rfl⟩
      · rw [bne_pos e]; exact .inr ⟨e, rfl⟩) with ⟨h, e⟩ | ⟨h, e⟩
    · refine Eq.trans e ?_
      try dsimp only
      rw [spigotref15_SameInts.L2_eq, bd_neg (by omega), decide_eq_true (ext_getD (by omega) h)]
    · refine Eq.trans e ?_
      rw [decide_eq_false]
      rintro rfl
      exact h fun _ _ => rfl
  · rw [bne_pos hl, decide_eq_false]
    rintro rfl
    exact hl rfl
theorem same15_f {p q : List Int} {p' q' : List Int} {h t h' t' : Int} (hp : p.length ≤ 1000) (hq : q.length ≤ 1000) :
    spigotref15_Same.F (p, q, h, t, ()) (p', q', h', t', ()) = some (decide (p = p' ∧ q = q' ∧ h = h' ∧ t = t'), ()) := by
  rw [spigotref15_Same.F_eq]
  dsimp only
  rw [sameInts_f hp, ob]
  by_cases e1 : p = p'
  · rw [decide_eq_true e1, bt rfl, sameInts_f hq, ob]
    by_cases e2 : q = q'
    · rw [decide_eq_true e2, bt rfl]
      by_cases e3 : h = h'
      · rw [beq_pos e3]
        by_cases e4 : t = t'
        · rw [decide_eq_true ⟨e1, e2, e3, e4⟩, e4, beq_self_eq_true]
        · rw [decide_eq_false (fun h => e4 h.2.2.2), show (t == t') = false by simpa using e4]
      · rw [beq_neg e3, decide_eq_false (fun h => e3 h.2.2.1)]
    · rw [decide_eq_false e2, bf rfl, decide_eq_false (fun h => e2 h.2.1)]
  · rw [decide_eq_false e1, bf rfl, decide_eq_false (fun h => e1 h.1)]
theorem take_snoc {l : List Int} {i : Nat} (h : i < l.length) : l.take (i + 1) = l.take i ++ [l.getD i 0] := by
  rw [getD_get h, List.take_append_getElem h]
theorem Ok.take {n : Nat} {l : List Int} (h : Ok n l) (i : Nat) : Ok n (l.take i) :=
  ⟨h.1.sublist (List.take_sublist i l), fun x hx => h.2 x (List.mem_of_mem_take hx)⟩
theorem lst_snoc (c : Int) (A : List Int) (y : Int) : lst c (A ++ [y]) = y := by rw [lst_app]; rfl
/-- The order that a list makes. -/
theorem made_f {n : Nat} {l : List Int} (hn : n ≤ 100) (h : Ok n l) : spigotref15_Made.F (n : Int) l = some ((PV n l, NX n l, hd (-1) l, lst (-1) l, ()), ()) := by
  have hl := h.len
  have h1 := loop_go (n := n) (L := fun i => spigotref15_Made.L1 (n : Int) l (i : Int) [] (List.replicate i (-1))) (fun i hi => by
    try dsimp only
    rw [spigotref15_Made.L1_eq, bd_pos (by omega), spigotref15_Made.L2_eq, lim_small (by decide) (by simp; omega), lim_small (by decide) (by simp; omega), W_eq (by omega) (by omega), cast_add1, List.replicate_succ'])
  have h1 : spigotref15_Made.L1 (n : Int) l 0 [] [] = spigotref15_Made.L1 (n : Int) l (n : Int) [] (List.replicate n (-1)) := h1
  have e0 : List.replicate n (-1) = PV n [] := (row_nil n).symm
  have e1 : List.replicate n (-1) = NX n [] := (row_nil n).symm
  rw [spigotref15_Made.F_eq, h1, spigotref15_Made.L1_eq, bd_neg (by omega)]
  have h2 := loop_go (n := l.length) (L := fun i => spigotref15_Made.L3 l (i : Int) (hd (-1) (l.take i)) (lst (-1) (l.take i)) [] (PV n (l.take i)) (NX n (l.take i))) (fun i hi => by
    have ht := h.take (i + 1)
    rw [take_snoc hi] at ht
    have hm : l.getD i 0 ∈ l := by rw [getD_get hi]; exact List.getElem_mem hi
    have hr := h.2 _ hm
    try dsimp only
    rw [spigotref15_Made.L3_eq, bd_pos (by omega), spigotref15_Made.L4_eq, take_snoc hi]
    have nxt : ∀ (a b : Int) (p q : List Int), spigotref15_Made.L5 l (i : Int) a b [] p q = spigotref15_Made.L3 l ((i + 1 : Nat) : Int) a (l.getD i 0) [] p q := fun a b p q => by
      rw [spigotref15_Made.L5_eq, bd_pos (by omega), W_eq (by omega) (by omega), cast_add1, toNat_cast]
    by_cases i0 : i = 0
    · subst i0
      rw [beq_pos (show ((0 : Nat) : Int) = 0 from rfl), bd_pos (by omega), nxt]
      rw [List.take_zero, List.nil_append, PV_one, NX_one]
      rfl
    · have hi1 : i - 1 < l.length := by omega
      have hm1 : l.getD (i - 1) 0 ∈ l := by rw [getD_get hi1]; exact List.getElem_mem hi1
      have hr1 := h.2 _ hm1
      have hne : l.take i ≠ [] := by
        intro e
        have h9 := List.length_take (i := i) (l := l)
        rw [e, List.length_nil] at h9
        omega
      have hlast : lst (-1) (l.take i) = l.getD (i - 1) 0 := by
        have := take_snoc hi1
        rw [show i - 1 + 1 = i by omega] at this
        rw [this, lst_snoc]
      rw [beq_neg (by omega), bd_pos (by omega), W_eq (by omega) (by omega), bd_pos (by omega)]
      simp only [toNat_cast, toNat_sub1 (Nat.pos_of_ne_zero i0)]
      rw [PV_len, NX_len, bd_pos (by omega), bd_pos (by omega), bd_pos (by omega), bd_pos (by omega), nxt, PV_snoc ht, NX_snoc ht hne, hlast, lst_snoc, hd_app]
      congr 1
      generalize l.take i = A at hne
      cases A with
      | nil => exact absurd rfl hne
      | cons a A => rfl)
  have h2 : spigotref15_Made.L3 l 0 (-1) (-1) [] (PV n []) (NX n []) = spigotref15_Made.L3 l (l.length : Int) (hd (-1) (l.take l.length)) (lst (-1) (l.take l.length)) [] (PV n (l.take l.length)) (NX n (l.take l.length)) := h2
  rw [List.take_of_length_le (Nat.le_refl _)] at h2
  conv => lhs; rw [e0]
  conv => lhs; arg 7; rw [← e0, e1]
  rw [h2, spigotref15_Made.L3_eq, bd_neg (by omega)]
theorem rlru_says (prev next : List Int) (head tail : Int) : Says (OOk prev next head tail) (spigotref15_Check.F (prev, next, head, tail, ())) := by
  rw [spigotref15_Check.F_eq]
  dsimp only
  by_cases hlow : (prev.length : Int) < 1
  · rw [bd_pos hlow]; exact .inr ⟨fun ⟨l, g⟩ => by have := g.low; omega, rfl⟩
  by_cases hhigh : (prev.length : Int) > 16
  · rw [bd_neg hlow, bd_pos hhigh]; exact .inr ⟨fun ⟨l, g⟩ => by have := g.high; omega, rfl⟩
  by_cases hsame : (next.length : Int) = (prev.length : Int)
  · rw [bd_neg hlow, bd_neg hhigh, bne_neg hsame, spigotref15_Check.L1_eq]
    rcases all_f prev next head tail (by omega) with ⟨l, hc, hnd, e⟩ | ⟨hc, e⟩
    · have ok : Ok prev.length l := ⟨hnd, fun x hx => by have := hc.range x hx; omega⟩
      rw [e, ob, bnt rfl, made_f (by omega) ok, ob, same15_f (by omega) (by omega), ob]
      by_cases q : prev = PV prev.length l ∧ next = NX prev.length l ∧ head = hd (-1) l ∧ tail = lst (-1) l
      · rw [decide_eq_true q, bnt rfl, spigotref15_Check.L2_eq]
        have g := OGood.of (n := prev.length) (by omega) (by omega) ok
        rw [← q.1, ← q.2.1, ← q.2.2.1, ← q.2.2.2] at g
        exact .inl ⟨⟨l, g⟩, rfl⟩
      · rw [decide_eq_false q, bnf rfl]
        refine .inr ⟨fun ⟨l', g⟩ => q ?_, rfl⟩
        obtain rfl := hc.det g.both.chain
        exact g.made
    · rw [e, ob, bnf rfl]
      exact .inr ⟨fun ⟨l, g⟩ => hc ⟨l, g.both.chain, g.nodup⟩, rfl⟩
  · rw [bd_neg hlow, bd_neg hhigh, bne_pos hsame]; exact .inr ⟨fun ⟨l, g⟩ => by have := g.same; omega, rfl⟩
theorem all_good {prev next : List Int} {head tail : Int} {l : List Int} (g : OGood prev next head tail l) : spigotref15_All.F (prev, next, head, tail, ()) = some (l, true, ()) := by
  rcases all_f prev next head tail (by have := g.high; have := g.same; omega) with ⟨l', hc, hnd, e⟩ | ⟨hc, e⟩
  · rw [e, hc.det g.both.chain]
  · exact absurd ⟨l, g.both.chain, g.nodup⟩ hc
/-! ### the table -/
/-- How many cells have a place. -/
noncomputable def cn (x : List t3.den) (p : Int) : Nat := x.countP fun c => c.2.2.1 && decide (c.2.1 = p)
noncomputable def keyed (x : List t3.den) (p key : Int) : Bool := x.all fun c => !(c.2.2.1 && decide (c.2.1 = p)) || decide (c.1 = key)
theorem cells_f {x : List t3.den} (hx : x.length ≤ 1000) (p key : Int) : spigotref16_cells.F x p key = some ((cn x p : Int), keyed x p key, ()) := by
  have h2 := loop_go (n := x.length) (L := fun i => spigotref16_cells.L1 x p key (((x.take i).countP (fun c => c.2.2.1 && decide (c.2.1 = p)) : Nat) : Int) ((x.take i).all fun c => !(c.2.2.1 && decide (c.2.1 = p)) || decide (c.1 = key)) (i : Int)) (fun i hi => by
    have hle : (x.take i).countP (fun c => c.2.2.1 && decide (c.2.1 = p)) ≤ x.length := by
      have := List.countP_le_length (p := fun c : t3.den => c.2.2.1 && decide (c.2.1 = p)) (l := x.take i)
      have := List.length_take_le' i x
      omega
    try dsimp only
    rw [spigotref16_cells.L1_eq, bd_pos (by omega), spigotref16_cells.L2_eq, bd_pos (by omega)]
    have nxt : ∀ (n : Int) (b : Bool), spigotref16_cells.L3 x p key n b (i : Int) = spigotref16_cells.L1 x p key n b ((i + 1 : Nat) : Int) := fun n b => by
      rw [spigotref16_cells.L3_eq, W_eq (by omega) (by omega), cast_add1]
    rw [← List.take_append_getElem hi, List.countP_append, List.all_append, ← cl_get hi]
    simp only [List.countP_cons, List.countP_nil, List.all_cons, List.all_nil, Bool.and_true, Nat.zero_add]
    by_cases u : (cl x (i : Int)).2.2.1 = true
    · rw [bt u, bd_pos (by omega), u, Bool.true_and]
      by_cases e : (cl x (i : Int)).2.1 = p
      · rw [beq_pos e, decide_eq_true e, if_pos rfl, Bool.not_true, Bool.false_or, W_eq (by omega) (by omega), cast_add1, bd_pos (by omega), nxt, nxt]
        cases (x.take i).all fun c => !(c.2.2.1 && decide (c.2.1 = p)) || decide (c.1 = key)
        · rfl
        · rfl
      · rw [beq_neg e, decide_eq_false e, if_neg (by decide), Bool.not_false, Bool.true_or, Bool.and_true, nxt]; rfl
    · rw [bf (bool_not u), bool_not u, Bool.false_and, if_neg (by decide), Bool.not_false, Bool.true_or, Bool.and_true, nxt]; rfl)
  try dsimp only at h2
  rw [List.take_of_length_le (Nat.le_refl _)] at h2
  have h3 : spigotref16_cells.L1 x p key 0 true 0 = spigotref16_cells.L1 x p key (cn x p : Int) (keyed x p key) (x.length : Int) := h2
  rw [spigotref16_cells.F_eq, h3, spigotref16_cells.L1_eq, bd_neg (by omega)]
/-- The places of the used cells. -/
noncomputable def plc (x : List t3.den) : List Int := (x.filter (·.2.2.1)).map fun c => c.2.1
theorem plc_len (x : List t3.den) : (plc x).length = cnt x := by
  unfold plc cnt
  rw [List.length_map, List.countP_eq_length_filter]
theorem plc_count (x : List t3.den) (p : Int) : (plc x).count p = cn x p := by
  unfold plc cn
  rw [List.count, List.countP_map, List.countP_filter]
  refine List.countP_congr fun c _ => ?_
  simp only [Function.comp, Bool.and_eq_true, decide_eq_true_eq, beq_iff_eq]
  exact And.comm
theorem mem_plc {x : List t3.den} (hx : x.length = 16) {p : Int} : p ∈ plc x ↔ ∃ j : Int, 0 ≤ j ∧ j < 16 ∧ (cl x j).2.2.1 = true ∧ (cl x j).2.1 = p := by
  unfold plc
  rw [List.mem_map]
  constructor
  · rintro ⟨c, hc, e⟩
    obtain ⟨hc, u⟩ := List.mem_filter.1 hc
    obtain ⟨i, hi, rfl⟩ := List.mem_iff_getElem.1 hc
    exact ⟨(i : Int), by omega, by omega, by rw [cl_get hi]; exact u, by rw [cl_get hi]; exact e⟩
  · rintro ⟨j, h0, h1, u, e⟩
    have hj : j.toNat < x.length := by omega
    have e2 := cl_get hj
    rw [show ((j.toNat : Nat) : Int) = j by omega] at e2
    exact ⟨cl x j, List.mem_filter.2 ⟨by rw [e2]; exact List.getElem_mem hj, u⟩, e⟩
/-- What the reference asks of a place. -/
def RefRow (keys : List Int) (bks : List t1.den) (used : List Bool) (x : List t3.den) (l : List Int) (i : Nat) : Prop :=
  (used.getD i false = true ↔ (i : Int) ∈ l) ∧ (used.getD i false = true ↔ cn x (i : Int) = 1) ∧ keyed x (i : Int) (keys.getD i 0) = true ∧
  (used.getD i false = true → BktOk (bks.getD i b0_)) ∧ (used.getD i false = false → keys.getD i 0 = 0 ∧ bks.getD i b0_ = b0_)
theorem rows_iff {keys : List Int} {bks : List t1.den} {used : List Bool} {x : List t3.den} {l : List Int} (hx : POk x) (hn : l.Nodup) (hr : ∀ y ∈ l, 0 ≤ y ∧ y < used.length) :
    ((∀ i : Nat, i < used.length → RowOk keys bks used x l i) ∧ used.countP id = cnt x) ↔ (cnt x = l.length ∧ ∀ i : Nat, i < used.length → RefRow keys bks used x l i) := by
  constructor
  · rintro ⟨h, hc⟩
    have hcl := count_mem hn hr (fun i hi => (h i hi).1)
    have hS := count_of_sub (U := l) (S := plc x) hn (fun y hy => by
      have hy2 := hr y hy
      have ey : ((y.toNat : Nat) : Int) = y := by omega
      have hro := h y.toNat (by omega)
      rw [RowOk, ey] at hro
      obtain ⟨⟨j, h0, h1, u, e, f⟩, _⟩ := hro.2.2 (hro.1.2 hy)
      exact (mem_plc hx.len).2 ⟨j, h0, h1, u, f⟩) (by rw [plc_len]; omega)
    refine ⟨by omega, fun i hi => ?_⟩
    obtain ⟨a, b, c⟩ := h i hi
    have hcn : cn x (i : Int) = l.count (i : Int) := by rw [← plc_count]; exact hS _
    have hle : ∀ p, l.count p ≤ 1 := List.nodup_iff_count.1 hn
    refine ⟨a, ?_, ?_, fun u => (c u).2, b⟩
    · rw [a, hcn, ← List.count_pos_iff]
      have := hle (i : Int)
      omega
    · unfold keyed
      rw [List.all_eq_true]
      intro y hy
      by_cases w : y.2.2.1 = true ∧ y.2.1 = (i : Int)
      · have hp : (i : Int) ∈ plc x := List.mem_map.2 ⟨y, List.mem_filter.2 ⟨hy, w.1⟩, w.2⟩
        have hil : (i : Int) ∈ l := by
          have := List.count_pos_iff.2 hp
          rw [hS] at this
          exact List.count_pos_iff.1 this
        obtain ⟨⟨j, h0, h1, u, e, f⟩, _⟩ := c (a.2 hil)
        have hj : j.toNat < x.length := by rw [hx.len]; omega
        have e2 := cl_get hj
        rw [show ((j.toNat : Nat) : Int) = j by omega] at e2
        have hndp : (plc x).Nodup := nodup_of_count fun p => by rw [hS]; exact hle p
        have := inj_of_nodup_map hndp y (List.mem_filter.2 ⟨hy, w.1⟩) (cl x j) (List.mem_filter.2 ⟨by rw [e2]; exact List.getElem_mem hj, u⟩) (w.2.trans f.symm)
        rw [this, decide_eq_true e, Bool.or_true]
      · have : (y.2.2.1 && decide (y.2.1 = (i : Int))) = false := by
          apply bool_not
          rw [Bool.and_eq_true, decide_eq_true_eq]
          exact w
        rw [this]; rfl
  · rintro ⟨hc, h⟩
    refine ⟨fun i hi => ?_, by rw [hc]; exact count_mem hn hr fun i hi => (h i hi).1⟩
    obtain ⟨a, b, c, d, e⟩ := h i hi
    refine ⟨a, e, fun u => ⟨?_, d u⟩⟩
    have h1 := b.1 u
    rw [← plc_count] at h1
    have hp : (i : Int) ∈ plc x := List.count_pos_iff.1 (by omega)
    obtain ⟨j, h0, h1, v, f⟩ := (mem_plc hx.len).1 hp
    refine ⟨j, h0, h1, v, ?_, f⟩
    unfold keyed at c
    rw [List.all_eq_true] at c
    have hj : j.toNat < x.length := by rw [hx.len]; omega
    have e2 := cl_get hj
    rw [show ((j.toNat : Nat) : Int) = j by omega] at e2
    have := c (cl x j) (by rw [e2]; exact List.getElem_mem hj)
    rw [v, decide_eq_true f] at this
    simpa using this
theorem rtable_l4 {cap : Int} {keys : List Int} {bks : List t1.den} {next : List Int} {used : List Bool} {free : Int} {x : List t3.den} {prev nxt : List Int} {head tail : Int} {l : List Int}
    (hcap : cap = (used.length : Int)) (hk : keys.length = used.length) (hb : bks.length = used.length) (hu : used.length ≤ 8) (hx : x.length ≤ 1000) (hl : l.length ≤ 16) :
    Says (∀ i : Nat, i < used.length → RefRow keys bks used x l i) (spigotref16_Check.L4 0 cap keys bks next used free x prev nxt head tail l) := by
  rcases loop_all (n := used.length) (L := fun i => spigotref16_Check.L4 (i : Int) cap keys bks next used free x prev nxt head tail l) (ok := RefRow keys bks used x l) (stop := some (8, ())) (fun i hi => by
    have nxt_ : spigotref16_Check.L8 (i : Int) cap keys bks next used free x prev nxt head tail l = spigotref16_Check.L4 ((i + 1 : Nat) : Int) cap keys bks next used free x prev nxt head tail l := by
      rw [spigotref16_Check.L8_eq, W_eq (by omega) (by omega), cast_add1]
    try dsimp only
    rw [spigotref16_Check.L4_eq, bd_pos (by omega), spigotref16_Check.L5_eq, bd_pos (by omega), cells_f hx, ob, bd_pos (by omega), in_f (by omega), ob]
    simp only [toNat_cast]
    by_cases a : used.getD i false = true ↔ (i : Int) ∈ l
    · have ea : (used.getD i false == decide ((i : Int) ∈ l)) = true := by
        rw [beq_iff_eq, Bool.eq_iff_iff, decide_eq_true_eq]; exact a
      rw [bnt ea, bd_pos (by omega)]
      by_cases b : used.getD i false = true ↔ cn x (i : Int) = 1
      · have eb : (used.getD i false == (((cn x (i : Int) : Nat) : Int) == 1)) = true := by
          rw [beq_iff_eq, Bool.eq_iff_iff, beq_iff_eq]; rw [b]; omega
        rw [bnt eb]
        by_cases c : keyed x (i : Int) (keys.getD i 0) = true
        · rw [bnt c, spigotref16_Check.L6_eq, bd_pos (by omega)]
          simp only [toNat_cast]
          by_cases u : used.getD i false = true
          · rw [bt u, bd_pos (by omega)]
            rcases rbucket_says (bks.getD i b0_) with ⟨ok, f⟩ | ⟨ok, f⟩
            · rw [f, ob, bne_neg rfl, spigotref16_Check.L7_eq, bd_pos (by omega), toNat_cast, bnt u, nxt_]
              exact .inl ⟨⟨a, b, c, fun _ => ok, fun h => (by rw [u] at h; cases h)⟩, rfl⟩
            · rw [f, ob, bne_pos (by decide)]; exact .inr ⟨fun h => ok (h.2.2.2.1 u), rfl⟩
          · have uf := bool_not u
            rw [bf uf, spigotref16_Check.L7_eq, bd_pos (by omega)]
            simp only [toNat_cast]
            rw [bnf uf, bd_pos (by omega)]
            by_cases k0 : keys.getD i 0 = 0
            · rw [bne_neg k0, bd_pos (by omega)]
              by_cases z : bks.getD i b0_ = b0_
              · rw [nbeq_neg z, nxt_]
                exact .inl ⟨⟨a, b, c, fun h => absurd h u, fun _ => ⟨k0, z⟩⟩, rfl⟩
              · rw [nbeq_pos z]; exact .inr ⟨fun h => z (h.2.2.2.2 uf).2, rfl⟩
            · rw [bne_pos k0]; exact .inr ⟨fun h => k0 (h.2.2.2.2 uf).1, rfl⟩
        · rw [bnf (bool_not c)]; exact .inr ⟨fun h => c h.2.2.1, rfl⟩
      · have eb : (used.getD i false == (((cn x (i : Int) : Nat) : Int) == 1)) = false := by
          apply bool_not
          rw [beq_iff_eq, Bool.eq_iff_iff, beq_iff_eq]
          intro h
          exact b (h.trans (by omega))
        rw [bnf eb]; exact .inr ⟨fun h => b h.2.1, rfl⟩
    · have ea : (used.getD i false == decide ((i : Int) ∈ l)) = false := by
        apply bool_not
        rw [beq_iff_eq, Bool.eq_iff_iff, decide_eq_true_eq]; exact a
      rw [bnf ea]; exact .inr ⟨fun h => a h.1, rfl⟩) with ⟨h, e⟩ | ⟨h, e⟩
  · refine .inl ⟨h, Eq.trans e ?_⟩
    try dsimp only
    rw [spigotref16_Check.L4_eq, bd_neg (by omega)]
  · exact .inr ⟨h, e⟩
theorem rtable_says (t : t5.den) (hk : Keys t.2.2.2.2.1) (hl : t.2.2.2.2.1.length ≤ 1000) : Says (TOk t) (spigotref16_Check.F t) := by
  obtain ⟨cap, keys, bks, ⟨next, used, free, ⟨⟩⟩, x, ⟨prev, nxt, head, tail, ⟨⟩⟩, ⟨⟩⟩ := t
  rw [spigotref16_Check.F_eq]
  dsimp only at hk hl ⊢
  refine Says.congr (P := ¬ (Z cap < 1) ∧ ¬ (Z cap > 8) ∧ ((keys.length : Int) = Z cap) ∧ ((bks.length : Int) = Z cap) ∧ ((next.length : Int) = Z cap) ∧ ((prev.length : Int) = Z cap) ∧ AOk next used free ∧ POk x ∧ OOk prev nxt head tail ∧ ∃ l, OGood prev nxt head tail l ∧ cnt x = l.length ∧ ∀ i : Nat, i < used.length → RefRow keys bks used x l i) ?_ ?_
  · refine .guard fun c0 => .guard fun c1 => .neq fun s1 => .neq fun s2 => .neq fun s3 => .neq fun s4 => ?_
    have c0 : ¬ Z cap < 1 := c0
    have c1 : ¬ Z cap > 8 := c1
    have s1 : (keys.length : Int) = Z cap := s1
    have s2 : (bks.length : Int) = Z cap := s2
    have s3 : (next.length : Int) = Z cap := s3
    have s4 : (prev.length : Int) = Z cap := s4
    rw [spigotref16_Check.L1_eq]
    refine (rarena_says next used free).call (fun ha => ?_) rfl
    rw [bne_neg rfl]
    refine (rprobe_says hk hl).call (fun hp => ?_) rfl
    rw [bne_neg rfl]
    refine (rlru_says prev nxt head tail).call (fun ho => ?_) rfl
    rw [bne_neg rfl, spigotref16_Check.L2_eq]
    obtain ⟨l, g⟩ := ho
    have hs := g.short
    have hlen : used.length = next.length := by obtain ⟨_, g⟩ := ha; exact g.same
    rw [all_good g, ob, count_f hl, ob]
    by_cases e : cnt x = l.length
    · rw [bne_neg (by exact congrArg Nat.cast e), spigotref16_Check.L3_eq]
      refine (rtable_l4 (cap := cap) (next := next) (free := free) (prev := prev) (nxt := nxt) (head := head) (tail := tail) (show Z cap = _ by omega) (by omega) (by omega) (by omega) hl hs).congr ⟨fun h => ⟨l, g, e, h⟩, fun ⟨l', g', _, h⟩ => ?_⟩
      obtain rfl := g.det g'
      exact h
    · rw [bne_pos (by dsimp only; omega)]
      refine .inr ⟨fun ⟨l', g', h, _⟩ => ?_, rfl⟩
      obtain rfl := g.det g'
      exact e h
  · have key : ∀ l, OGood prev nxt head tail l → AOk next used free → POk x → ((prev.length : Int) = Z cap) → ((next.length : Int) = Z cap) → (((∀ i : Nat, i < used.length → RowOk keys bks used x l i) ∧ used.countP id = cnt x) ↔ (cnt x = l.length ∧ ∀ i : Nat, i < used.length → RefRow keys bks used x l i)) := fun l g ha hp h1 h2 =>
      rows_iff hp g.nodup (fun y hy => by
        have := g.ok.2 y hy
        obtain ⟨_, ga⟩ := ha
        have := ga.same
        omega)
    constructor
    · rintro ⟨c0, c1, s1, s2, s3, s4, ha, hp, _, l, g, h⟩
      have := (key l g ha hp s4 s3).2 h
      exact ⟨l, Int.not_lt.1 c0, Int.not_lt.1 c1, s1, s2, s3, s4, ha, hp, g, this.1, this.2⟩
    · rintro ⟨l, g⟩
      exact ⟨Int.not_lt.2 g.low, Int.not_lt.2 g.high, g.nkeys, g.nbks, g.nnext, g.nprev, g.arena, g.index, ⟨l, g.order⟩, l, g.order, (key l g.order g.arena g.index g.nprev g.nnext).1 ⟨g.row, g.count⟩⟩
end Go.Proofs.Ytkihjakbbcajbaa.TB
namespace Go.Proofs.Ytkihjakbbcajbaa.TB
set_option linter.unusedSimpArgs false
set_option linter.unusedVariables false
open Go Go.Proofs Go.Proofs.Ytkihjakbbcajbaa.PM Go.Proofs.Ytkihjakbbcajbaa.RP Go.Proofs.Ytkihjakbbcajbaa.Kd
@[reducible] noncomputable def z0_ : t0.den := (0, 0, 0, ())
def Lims (l : List t0.den) : Prop := ∀ i : Nat, i < 3 → LimOk (l.getD i z0_)
theorem valid_f (l : List t0.den) : (Lims l ∧ part_valid.F l = some (true, ())) ∨ (¬ Lims l ∧ part_valid.F l = some (false, ())) := by
  rw [part_valid.F_eq]
  rcases loop_all (n := 3) (L := fun i => part_valid.L1 l (i : Int)) (ok := fun i => LimOk (l.getD i z0_)) (stop := some (false, ())) (fun i hi => by
    try dsimp only
    rw [part_valid.L1_eq, bd_pos (by omega), part_valid.L2_eq, bd_pos (by omega)]
    simp only [toNat_cast]
    rcases limit_says (l.getD i z0_) with ⟨h, e⟩ | ⟨h, e⟩
    · rw [e, ob, bne_neg rfl, part_valid.L3_eq, W_eq (by omega) (by omega), cast_add1]; exact .inl ⟨h, rfl⟩
    · rw [e, ob, bne_pos (by decide)]; exact .inr ⟨h, rfl⟩) with ⟨h, e⟩ | ⟨h, e⟩
  · refine .inl ⟨h, Eq.trans e ?_⟩
    try dsimp only
    rw [part_valid.L1_eq, bd_neg (by decide)]
  · exact .inr ⟨h, e⟩
theorem limited_f (l : List t0.den) : (Lims l ∧ spigotref18_Limited.F l = some (true, ())) ∨ (¬ Lims l ∧ spigotref18_Limited.F l = some (false, ())) := by
  rw [spigotref18_Limited.F_eq]
  rcases loop_all (n := 3) (L := fun i => spigotref18_Limited.L1 (i : Int) l) (ok := fun i => LimOk (l.getD i z0_)) (stop := some (false, ())) (fun i hi => by
    try dsimp only
    rw [spigotref18_Limited.L1_eq, bd_pos (by omega), spigotref18_Limited.L2_eq, bd_pos (by omega)]
    simp only [toNat_cast]
    rcases rlimit_says (l.getD i z0_) with ⟨h, e⟩ | ⟨h, e⟩
    · rw [e, ob, bne_neg rfl, spigotref18_Limited.L3_eq, W_eq (by omega) (by omega), cast_add1]; exact .inl ⟨h, rfl⟩
    · rw [e, ob, bne_pos (by decide)]; exact .inr ⟨h, rfl⟩) with ⟨h, e⟩ | ⟨h, e⟩
  · refine .inl ⟨h, Eq.trans e ?_⟩
    try dsimp only
    rw [spigotref18_Limited.L1_eq, bd_neg (by decide)]
  · exact .inr ⟨h, e⟩
/-- All buckets of a table have a limit, and all keys are at most some number. -/
def Alike (t : t5.den) (l : t0.den) (most : Int) : Prop := ∀ i : Nat, i < List.length t.2.2.2.1.2.1 → List.getD t.2.2.2.1.2.1 i false = true → (List.getD t.2.2.1 i b0_).1 = l ∧ ¬ Z (List.getD t.2.1 i 0) > most
theorem TOk.lens {t : t5.den} (h : TOk t) : Z t.1 = (List.length t.2.2.2.1.2.1 : Int) ∧ List.length t.2.1 = List.length t.2.2.2.1.2.1 ∧ List.length t.2.2.1 = List.length t.2.2.2.1.2.1 ∧ List.length t.2.2.2.1.2.1 ≤ 8 := by
  obtain ⟨l, g⟩ := h
  have a1 := g.nkeys
  have a2 := g.nbks
  have a3 := g.nnext
  have a4 : Z t.1 ≤ 8 := g.high
  obtain ⟨_, ga⟩ := g.arena
  have a5 := ga.same
  have a6 : (List.length t.2.1 : Int) = Z t.1 := a1
  have a7 : (List.length t.2.2.1 : Int) = Z t.1 := a2
  have a8 : (List.length t.2.2.2.1.1 : Int) = Z t.1 := a3
  refine ⟨by omega, by omega, by omega, by omega⟩
theorem alike_l1 {cap : Int} {keys : List Int} {bks : List t1.den} {next : List Int} {used : List Bool} {free : Int} {x : List t3.den} {prev : List Int} {nxt : List Int} {head : Int} {tail : Int} {most b1 b12 b13 : Int} (hcap : cap = (used.length : Int)) (hk : keys.length = used.length) (hb : bks.length = used.length) (hu : used.length ≤ 8) :
    ((∀ i : Nat, i < used.length → used.getD i false = true → (bks.getD i b0_).1 = (b1, b12, b13, ()) ∧ ¬ Z (keys.getD i 0) > most) ∧ spigotref18_alike.L1 most 0 cap keys bks next used free x prev nxt head tail b1 b12 b13 = some (true, ())) ∨
    ((¬ ∀ i : Nat, i < used.length → used.getD i false = true → (bks.getD i b0_).1 = (b1, b12, b13, ()) ∧ ¬ Z (keys.getD i 0) > most) ∧ spigotref18_alike.L1 most 0 cap keys bks next used free x prev nxt head tail b1 b12 b13 = some (false, ())) := by
  rcases loop_all (n := used.length) (L := fun i => spigotref18_alike.L1 most (i : Int) cap keys bks next used free x prev nxt head tail b1 b12 b13) (ok := fun i => used.getD i false = true → (bks.getD i b0_).1 = (b1, b12, b13, ()) ∧ ¬ Z (keys.getD i 0) > most) (stop := some (false, ())) (fun i hi => by
    have nx_ : spigotref18_alike.L3 most (i : Int) cap keys bks next used free x prev nxt head tail b1 b12 b13 = spigotref18_alike.L1 most ((i + 1 : Nat) : Int) cap keys bks next used free x prev nxt head tail b1 b12 b13 := by
      rw [spigotref18_alike.L3_eq, W_eq (by omega) (by omega), cast_add1]
    try dsimp only
    rw [spigotref18_alike.L1_eq, bd_pos (by omega), spigotref18_alike.L2_eq, bd_pos (by omega)]
    simp only [toNat_cast]
    by_cases u : used.getD i false = true
    · rw [bt u, bd_pos (by omega)]
      by_cases e : (bks.getD i b0_).1 = (b1, b12, b13, ())
      · rw [nbeq_neg e, bd_pos (by omega)]
        by_cases k : Z (keys.getD i 0) > most
        · rw [bd_pos (by exact k)]; exact .inr ⟨fun h => (h u).2 k, rfl⟩
        · rw [bd_neg (by exact k), nx_]; exact .inl ⟨fun _ => ⟨e, k⟩, rfl⟩
      · rw [nbeq_pos e]; exact .inr ⟨fun h => e (h u).1, rfl⟩
    · rw [bf (bool_not u), nx_]; exact .inl ⟨fun h => absurd h u, rfl⟩) with ⟨h, e⟩ | ⟨h, e⟩
  · refine .inl ⟨h, Eq.trans e ?_⟩
    try dsimp only
    rw [spigotref18_alike.L1_eq, bd_neg (by omega)]
  · exact .inr ⟨h, e⟩
theorem alike_f {t : t5.den} (h : TOk t) (l : t0.den) (most : Int) : (Alike t l most ∧ spigotref18_alike.F t l most = some (true, ())) ∨ (¬ Alike t l most ∧ spigotref18_alike.F t l most = some (false, ())) := by
  obtain ⟨h1, h2, h3, h4⟩ := h.lens
  rw [spigotref18_alike.F_eq]
  exact alike_l1 h1 h2 h3 h4
def Rises (l : List Int) : Prop := ∀ i : Nat, i < l.length - 1 → ¬ Z (l.getD i 0) ≥ l.getD (i + 1) 0
theorem rrev_l4 {b0 : Int} {b02 : List t0.den} {b03 : Int} {b04 : Int} {b05 : Int} {b06 : Int} {b07 : Int} {b08 : Int} {b09 : Int} {b010 : List Int} {b011 : List t1.den} {b012 : List Int} {b013 : List Bool} {b014 : Int} {b015 : List t3.den} {b016 : List Int} {b017 : List Int} {b018 : Int} {b019 : Int} {b020 : Int} {b021 : List Int} {b022 : List t1.den} {b023 : List Int} {b024 : List Bool} {b025 : Int} {b026 : List t3.den} {b027 : List Int} {b028 : List Int} {b029 : Int} {b030 : Int} {rv : List Int} {b032 : Int} {b033 : Int} {b034 : Int} (hl : rv.length ≤ 8) : Says (Rises rv) (spigotref18_Check.L4 1 b0 b02 b03 b04 b05 b06 b07 b08 b09 b010 b011 b012 b013 b014 b015 b016 b017 b018 b019 b020 b021 b022 b023 b024 b025 b026 b027 b028 b029 b030 rv b032 b033 b034) := by
  rcases loop_all (n := rv.length - 1) (L := fun i => spigotref18_Check.L4 ((i + 1 : Nat) : Int) b0 b02 b03 b04 b05 b06 b07 b08 b09 b010 b011 b012 b013 b014 b015 b016 b017 b018 b019 b020 b021 b022 b023 b024 b025 b026 b027 b028 b029 b030 rv b032 b033 b034) (ok := fun i => ¬ Z (rv.getD i 0) ≥ rv.getD (i + 1) 0) (stop := some (8, ())) (fun i hi => by
    try dsimp only
    rw [spigotref18_Check.L4_eq, bd_pos (by omega), spigotref18_Check.L5_eq, W_eq (by omega) (by omega), bd_pos (by omega), bd_pos (by omega)]
    simp only [toNat_cast, toNat_sub1 (Nat.succ_pos i)]
    rw [show i + 1 - 1 = i by omega]
    by_cases a : Z (rv.getD i 0) ≥ rv.getD (i + 1) 0
    · rw [bd_pos (by exact a)]; exact .inr ⟨fun h => h a, rfl⟩
    · rw [bd_neg (by exact a), spigotref18_Check.L6_eq, W_eq (by omega) (by omega), cast_add1]; exact .inl ⟨a, rfl⟩) with ⟨h, e⟩ | ⟨h, e⟩
  · refine .inl ⟨h, Eq.trans e ?_⟩
    try dsimp only
    rw [spigotref18_Check.L4_eq, bd_neg (by omega)]
  · exact .inr ⟨h, e⟩
theorem prev_l3 {p : t7.den} {n : Int} (hl : List.length p.2.2.2.2.2.1 ≤ 8) : Says (Rises p.2.2.2.2.2.1) (part_Check.L2 p n) := by
  rw [part_Check.L2_eq]
  generalize hr : (p.2.2.2.2.2.1 : List Int) = rv at hl ⊢
  rcases loop_all (n := rv.length) (L := fun i => part_Check.L3 p rv (rv.length : Int) (i : Int) n) (ok := fun i => 0 < i → ¬ Z (rv.getD (i - 1) 0) ≥ rv.getD i 0) (stop := some (8, ())) (fun i hi => by
    have nx_ : part_Check.L5 p rv (rv.length : Int) (i : Int) n = part_Check.L3 p rv (rv.length : Int) ((i + 1 : Nat) : Int) n := by
      rw [part_Check.L5_eq, W_eq (by omega) (by omega), cast_add1]
    try dsimp only
    rw [part_Check.L3_eq, bd_pos (by omega), part_Check.L4_eq, bd_pos (by omega)]
    simp only [hr]
    by_cases i0 : 0 < i
    · rw [bd_pos (by omega), W_eq (by omega) (by omega), bd_pos (by omega)]
      simp only [toNat_cast, toNat_sub1 i0]
      by_cases a : Z (rv.getD (i - 1) 0) ≥ rv.getD i 0
      · rw [bd_pos (by exact a)]; exact .inr ⟨fun h => h i0 a, rfl⟩
      · rw [bd_neg (by exact a), nx_]; exact .inl ⟨fun _ => a, rfl⟩
    · rw [bd_neg (by omega), nx_]; exact .inl ⟨fun h => absurd h i0, rfl⟩) with ⟨h, e⟩ | ⟨h, e⟩
  · refine .inl ⟨fun i hi => ?_, Eq.trans e ?_⟩
    · have := h (i + 1) (by omega) (by omega)
      rw [show i + 1 - 1 = i by omega] at this
      exact this
    · try dsimp only
      rw [part_Check.L3_eq, bd_neg (by omega)]
  · refine .inr ⟨fun h2 => h fun i hi i0 => ?_, e⟩
    have := h2 (i - 1) (by omega)
    rw [show i - 1 + 1 = i by omega] at this
    exact this
/-- A valid part. -/
def PartOk (p : t7.den) : Prop := ¬ Z p.1 ≥ 16 ∧ Lims p.2.1 ∧ BktOk p.2.2.1 ∧ TOk p.2.2.2.1 ∧ TOk p.2.2.2.2.1 ∧ p.2.2.1.1 = List.getD p.2.1 0 z0_ ∧ Alike p.2.2.2.1 (List.getD p.2.1 1 z0_) 4294967295 ∧ Alike p.2.2.2.2.1 (List.getD p.2.1 2 z0_) 65535 ∧ ¬ (List.length p.2.2.2.2.2.1 : Int) > 8 ∧ Rises p.2.2.2.2.2.1
/-- What every table's data keep to. -/
structure TWf (t : t5.den) : Prop where
  lev : ∀ c ∈ t.2.2.1, Z c.2.1 ≤ 9223372036854775807
  cells : Keys t.2.2.2.2.1
  few : List.length t.2.2.2.2.1 ≤ 1000
  keys : ∀ k ∈ t.2.1, Z k ≤ 4294967295
structure PWf (p : t7.den) : Prop where
  three : List.length p.2.1 = 3
  lev : Z p.2.2.1.2.1 ≤ 9223372036854775807
  us : TWf p.2.2.2.1
  es : TWf p.2.2.2.2.1
theorem rpart_says {p : t7.den} (w : PWf p) : Says (PartOk p) (spigotref18_Check.F p) := by
  rw [spigotref18_Check.F_eq]
  refine Says.congr (P := ¬ Z p.1 ≥ 16 ∧ Lims p.2.1 ∧ BktOk p.2.2.1 ∧ p.2.2.1.1 = List.getD p.2.1 0 z0_ ∧ TOk p.2.2.2.1 ∧ TOk p.2.2.2.2.1 ∧ Alike p.2.2.2.1 (List.getD p.2.1 1 z0_) 4294967295 ∧ Alike p.2.2.2.2.1 (List.getD p.2.1 2 z0_) 65535 ∧ ¬ (List.length p.2.2.2.2.2.1 : Int) > 8 ∧ Rises p.2.2.2.2.2.1) (.guard fun _ => .bflag (limited_f p.2.1) rfl fun _ => ?_) ⟨fun ⟨a, b, c, d, e, f, g⟩ => ⟨a, b, c, e, f, d, g⟩, fun ⟨a, b, c, e, f, d, g⟩ => ⟨a, b, c, d, e, f, g⟩⟩
  rw [bnt rfl]
  refine (rbucket_says p.2.2.1).call (fun _ => ?_) rfl
  rw [bne_neg rfl, bd_pos (by decide)]
  refine .same fun _ => ?_
  rw [spigotref18_Check.L1_eq]
  refine (rtable_says p.2.2.2.1 w.us.cells w.us.few).call (fun hu => ?_) rfl
  rw [bne_neg rfl]
  refine (rtable_says p.2.2.2.2.1 w.es.cells w.es.few).call (fun he => ?_) rfl
  rw [bne_neg rfl, bd_pos (by decide)]
  refine .bflag (alike_f hu _ _) rfl fun _ => ?_
  rw [bnt rfl, bd_pos (by decide)]
  refine .bflag (alike_f he _ _) rfl fun _ => ?_
  rw [bnt rfl, spigotref18_Check.L2_eq]
  refine .guard fun hl => ?_
  rw [spigotref18_Check.L3_eq]
  exact rrev_l4 (by omega)
/-! ### the program's side -/
theorem list3 {l : List t0.den} (h : l.length = 3) : l = [l.getD 0 z0_, l.getD 1 z0_, l.getD 2 z0_] := by
  match l, h with
  | [a, b, c], _ => rfl
theorem titems {t : t5.den} (h : TOk t) : tItems t = some (come (useT t) (keyT t) (limT t) (usedN t)) := by
  obtain ⟨h1, h2, h3, h4⟩ := h.lens
  unfold tItems
  have a1 : usedN t ≤ 1000 := Nat.le_trans h4 (by decide)
  have a2 : ((List.range (usedN t)).all fun j => !(useT t j) || (decide (j < List.length (α := Int) t.2.1) && decide (j < List.length (α := t1.den) t.2.2.1))) = true := by
    rw [List.all_eq_true]
    intro j hj
    have hj := List.mem_range.1 hj
    rw [decide_eq_true (show j < List.length (α := Int) t.2.1 from Nat.lt_of_lt_of_eq hj h2.symm), decide_eq_true (show j < List.length (α := t1.den) t.2.2.1 from Nat.lt_of_lt_of_eq hj h3.symm)]
    simp
  rw [decide_eq_true a1, a2]; rfl
/-- Items all of which pass leave the state, one that does not ends it. -/
theorem goR_all {S X : Type} {st : S → X → Option S} {ok : X → Prop} {s : S} (h : ∀ x, (ok x ∧ st s x = some s) ∨ (¬ ok x ∧ st s x = none)) : ∀ xs, ((∀ x ∈ xs, ok x) ∧ goR st xs s = some s) ∨ ((¬ ∀ x ∈ xs, ok x) ∧ goR st xs s = none)
  | [] => .inl ⟨fun _ h => (by cases h), rfl⟩
  | x :: xs => by
    show _ ∧ (st s x).bind (goR st xs) = _ ∨ _ ∧ (st s x).bind (goR st xs) = _
    rcases h x with ⟨a, e⟩ | ⟨a, e⟩
    · rw [e]
      rcases goR_all h xs with ⟨b, f⟩ | ⟨b, f⟩
      · exact .inl ⟨fun y hy => by
          rcases List.mem_cons.1 hy with rfl | hy
          · exact a
          · exact b y hy, f⟩
      · exact .inr ⟨fun c => b fun y hy => c y (List.mem_cons_of_mem _ hy), f⟩
    · rw [e]; exact .inr ⟨fun c => a (c x List.mem_cons_self), rfl⟩
theorem goR_bad {S X : Type} {st : S → X → Option S} {s : S} (h : ∀ x, st s x = none) (xs : List X) : goR st xs s = none ∨ goR st xs s = some s := by
  cases xs with
  | nil => exact .inr rfl
  | cons x xs =>
    left
    show (st s x).bind (goR st xs) = none
    rw [h x]; rfl
theorem mem_come {us : Nat → Bool} {ks : Nat → Int} {ls : Nat → Int × Int × Int} {k : Nat} {x : Int × Int × Int × Int} : x ∈ come us ks ls k ↔ ∃ j, j < k ∧ us j = true ∧ (ks j, ls j) = x := by
  unfold come
  rw [List.mem_map]
  constructor
  · rintro ⟨j, hj, e⟩
    obtain ⟨h1, h2⟩ := List.mem_filter.1 hj
    exact ⟨j, List.mem_range.1 h1, h2, e⟩
  · rintro ⟨j, h1, h2, e⟩
    exact ⟨j, List.mem_filter.2 ⟨List.mem_range.2 h1, h2⟩, e⟩
theorem come_all {t : t5.den} {l : t0.den} {most : Int} : (∀ x ∈ come (useT t) (keyT t) (limT t) (usedN t), toL x = l ∧ ¬ Z x.1 > most) ↔ Alike t l most := by
  constructor
  · intro h i hi u
    exact h _ (mem_come.2 ⟨i, hi, u, rfl⟩)
  · intro h x hx
    obtain ⟨i, hi, u, rfl⟩ := mem_come.1 hx
    exact h i hi u
theorem rest_says {p : t7.den} (w : PWf p) (hu : TOk p.2.2.2.1) (he : TOk p.2.2.2.2.1) : Says (p.2.2.1.1 = List.getD p.2.1 0 z0_ ∧ Alike p.2.2.2.1 (List.getD p.2.1 1 z0_) 4294967295 ∧ Alike p.2.2.2.2.1 (List.getD p.2.1 2 z0_) 65535 ∧ ¬ (List.length p.2.2.2.2.2.1 : Int) > 8 ∧ Rises p.2.2.2.2.2.1) (part_Check.Rest p) := by
  unfold part_Check.Rest
  rw [titems hu, ob, titems he]
  have h3 := list3 w.three
  have s0 : same0 p = [p.2.2.1.1, List.getD p.2.1 1 z0_, List.getD p.2.1 2 z0_] := rfl
  by_cases e : p.2.2.1.1 = List.getD p.2.1 0 z0_
  · have s1 : same0 p = p.2.1 := by rw [s0, e]; exact h3.symm
    rw [s1]
    have set1 : ∀ v : t0.den, List.set (α := t0.den) p.2.1 1 v = p.2.1 ↔ v = List.getD p.2.1 1 z0_ := fun v => by
      constructor
      · intro h
        have := congrArg (fun l : List t0.den => l.getD 1 z0_) h
        rw [h3] at this
        exact this
      · rintro rfl
        conv => lhs; rw [h3]
        conv => rhs; rw [h3]
        rfl
    have set2 : ∀ v : t0.den, List.set (α := t0.den) p.2.1 2 v = p.2.1 ↔ v = List.getD p.2.1 2 z0_ := fun v => by
      constructor
      · intro h
        have := congrArg (fun l : List t0.den => l.getD 2 z0_) h
        rw [h3] at this
        exact this
      · rintro rfl
        conv => lhs; rw [h3]
        conv => rhs; rw [h3]
        rfl
    have g1 := goR_all (st := st1 p) (ok := fun x => toL x = List.getD p.2.1 1 z0_) (s := p.2.1) (fun x => by
      unfold st1
      by_cases q : toL x = List.getD p.2.1 1 z0_
      · rw [tbeq_pos (t := .arr 3 t0) ((set1 _).2 q), (set1 _).2 q]; exact .inl ⟨q, rfl⟩
      · rw [tbeq_neg (t := .arr 3 t0) (fun h => q ((set1 _).1 h))]; exact .inr ⟨q, rfl⟩) (come (useT p.2.2.2.1) (keyT p.2.2.2.1) (limT p.2.2.2.1) (usedN p.2.2.2.1))
    have g2 := goR_all (st := st2 p) (ok := fun x => toL x = List.getD p.2.1 2 z0_ ∧ ¬ Z x.1 > 65535) (s := p.2.1) (fun x => by
      unfold st2
      by_cases q : toL x = List.getD p.2.1 2 z0_
      · rw [tbeq_pos (t := .arr 3 t0) ((set2 _).2 q), (set2 _).2 q]
        by_cases k : Z x.1 > 65535
        · rw [bd_pos (by exact k)]; exact .inr ⟨fun h => h.2 k, rfl⟩
        · rw [bd_neg (by exact k)]; exact .inl ⟨⟨q, k⟩, rfl⟩
      · rw [tbeq_neg (t := .arr 3 t0) (fun h => q ((set2 _).1 h))]; exact .inr ⟨fun h => q h.1, rfl⟩) (come (useT p.2.2.2.2.1) (keyT p.2.2.2.2.1) (limT p.2.2.2.2.1) (usedN p.2.2.2.2.1))
    have al1 : (∀ x ∈ come (useT p.2.2.2.1) (keyT p.2.2.2.1) (limT p.2.2.2.1) (usedN p.2.2.2.1), toL x = List.getD p.2.1 1 z0_) ↔ Alike p.2.2.2.1 (List.getD p.2.1 1 z0_) 4294967295 := by
      rw [← come_all]
      refine ⟨fun h x hx => ⟨h x hx, ?_⟩, fun h x hx => (h x hx).1⟩
      obtain ⟨j, hj, u, rfl⟩ := mem_come.1 hx
      have hl := hu.lens
      have hj2 : j < List.length p.2.2.2.1.2.1 := Nat.lt_of_lt_of_eq hj hl.2.1.symm
      have := w.us.keys _ (List.getElem_mem hj2)
      rw [← getD_get (d := 0) hj2] at this
      show ¬ Z (List.getD p.2.2.2.1.2.1 j 0) > 4294967295
      omega
    rw [al1] at g1
    rw [come_all] at g2
    rcases g1 with ⟨a1, e1⟩ | ⟨a1, e1⟩
    · rw [e1]
      rcases g2 with ⟨a2, e2⟩ | ⟨a2, e2⟩
      · dsimp only
        rw [ob, e2]
        show Says _ (part_Check.T p 0 p.2.1)
        rw [part_Check.T_eq, nbeq_neg rfl]
        refine Says.congr (P := ¬ (List.length p.2.2.2.2.2.1 : Int) > 8 ∧ Rises p.2.2.2.2.2.1) (.guard fun hl => prev_l3 (by omega)) ⟨fun h => ⟨e, a1, a2, h⟩, fun h => h.2.2.2⟩
      · dsimp only
        rw [ob, e2]
        exact .inr ⟨fun h => a2 h.2.2.1, rfl⟩
    · rw [e1]
      exact .inr ⟨fun h => a1 h.2.1, rfl⟩
  · have b1 : ∀ x, st1 p (same0 p) x = none := fun x => by
      unfold st1
      rw [tbeq_neg (t := .arr 3 t0)]
      intro h
      have := congrArg (fun l : List t0.den => l.getD 0 z0_) h
      rw [s0] at this
      exact e this
    have b2 : ∀ x, st2 p (same0 p) x = none := fun x => by
      unfold st2
      rw [tbeq_neg (t := .arr 3 t0)]
      intro h
      have := congrArg (fun l : List t0.den => l.getD 0 z0_) h
      rw [s0] at this
      exact e this
    have no : ∀ o, o = some (8, ()) → Says (p.2.2.1.1 = List.getD p.2.1 0 z0_ ∧ Alike p.2.2.2.1 (List.getD p.2.1 1 z0_) 4294967295 ∧ Alike p.2.2.2.2.1 (List.getD p.2.1 2 z0_) 65535 ∧ ¬ (List.length p.2.2.2.2.2.1 : Int) > 8 ∧ Rises p.2.2.2.2.2.1) o := fun o h => .inr ⟨fun h => e h.1, h⟩
    apply no
    rcases goR_bad b1 (come (useT p.2.2.2.1) (keyT p.2.2.2.1) (limT p.2.2.2.1) (usedN p.2.2.2.1)) with e1 | e1
    · rw [e1]
    · rw [e1]
      rcases goR_bad b2 (come (useT p.2.2.2.2.1) (keyT p.2.2.2.2.1) (limT p.2.2.2.2.1) (usedN p.2.2.2.2.1)) with e2 | e2
      · dsimp only
        rw [ob, e2]
      · dsimp only
        rw [ob, e2]
        show part_Check.T p 0 (same0 p) = _
        rw [part_Check.T_eq, nbeq_pos (t := .arr 3 t0)]
        intro h
        have := congrArg (fun l : List t0.den => l.getD 0 z0_) h
        rw [s0] at this
        exact e this
theorem part_says {p : t7.den} (w : PWf p) : Says (PartOk p) (part_Check.F p) := by
  rw [part_Check.F_eq]
  refine .guard fun _ => .bflag (valid_f p.2.1) rfl fun _ => ?_
  rw [bnt rfl]
  refine (bucket_says p.2.2.1 w.lev).call (fun _ => ?_) rfl
  rw [bne_neg rfl]
  refine (table_says p.2.2.2.1 w.us.lev).call (fun hu => ?_) rfl
  rw [bne_neg rfl]
  refine (table_says p.2.2.2.2.1 w.es.lev).call (fun he => ?_) rfl
  rw [bne_neg rfl]
  exact rest_says w hu he
end Go.Proofs.Ytkihjakbbcajbaa.TB
