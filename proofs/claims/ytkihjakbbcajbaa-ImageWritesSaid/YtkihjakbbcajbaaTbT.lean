/- The arena's check in plain words. -/
import Derived.Test.YtkihjakbbcajbaaZpm
import Derived.Test.YtkihjakbbcajbaaTbW
import Derived.Test.YtkihjakbbcajbaaTbOw
namespace Go.Proofs.Ytkihjakbbcajbaa.TB
set_option linter.unusedSimpArgs false
set_option linter.unusedVariables false
open Go Go.Proofs Go.Proofs.Ytkihjakbbcajbaa.PM Go.Proofs.Ytkihjakbbcajbaa.RP
/-- l is the free list of a valid arena. -/
structure AGood (next : List Int) (used : List Bool) (free : Int) (l : List Int) : Prop where
  low : 1 ≤ next.length
  high : next.length ≤ 16
  same : used.length = next.length
  chain : Chain next free l
  nodup : l.Nodup
  mark : ∀ j : Nat, j < used.length → (used.getD j false = true ↔ ¬ (j : Int) ∈ l)
  end_ : ∀ j : Nat, j < used.length → used.getD j false = true → next.getD j 0 = -1
def AOk (next : List Int) (used : List Bool) (free : Int) : Prop := ∃ l, AGood next used free l
theorem AGood.short {next : List Int} {used : List Bool} {free : Int} {l : List Int} (g : AGood next used free l) : l.length ≤ 16 := by
  have := nodup_le g.nodup g.chain.range
  have := g.high
  omega
def AllOk (s used : List Bool) (next : List Int) (i : Nat) : Prop := s.getD i false = true ∧ (used.getD i false = true → next.getD i 0 = -1)
theorem arena_l4 {s used : List Bool} {next : List Int} {free : Int} (h1 : s.length = used.length) (h2 : next.length = used.length) (hu : used.length ≤ 16) :
    Says (∀ i, i < used.length → AllOk s used next i) (arena_Check.L4 used (used.length : Int) 0 next free s) := by
  have := loop_all (n := used.length) (L := fun i => arena_Check.L4 used (used.length : Int) (i : Int) next free s) (ok := AllOk s used next) (stop := some (8, ())) (fun i hi => by
    have nxt : arena_Check.L6 used (used.length : Int) (i : Int) next free s = arena_Check.L4 used (used.length : Int) ((i + 1 : Nat) : Int) next free s := by
      rw [arena_Check.L6_eq, W_eq (by omega) (by omega), cast_add1]
    try dsimp only
    rw [arena_Check.L4_eq, bd_pos (by omega), arena_Check.L5_eq, bd_pos (by omega), bd_pos (by omega)]
    simp only [toNat_cast]
    by_cases a : s.getD i false = true
    · rw [bnt a]
      by_cases u : used.getD i false = true
      · rw [bt u, bd_pos (by omega)]
        by_cases e : next.getD i 0 = -1
        · rw [bne_neg e, nxt]; exact .inl ⟨⟨a, fun _ => e⟩, rfl⟩
        · rw [bne_pos e]; exact .inr ⟨fun h => e (h.2 u), rfl⟩
      · rw [bf (bool_not u), nxt]; exact .inl ⟨⟨a, fun h => absurd h u⟩, rfl⟩
    · rw [bnf (bool_not a)]; exact .inr ⟨fun h => a h.1, rfl⟩)
  rcases this with ⟨h, e⟩ | ⟨h, e⟩
  · refine .inl ⟨h, ?_⟩
    refine Eq.trans e ?_
    try dsimp only
    rw [arena_Check.L4_eq, bd_neg (by omega)]
  · exact .inr ⟨h, e⟩
theorem arena_walk_yes {used : List Bool} {next : List Int} {free : Int} {i : Int} {l : List Int} (h : Chain next i l) :
    ∀ s : List Bool, s.length = next.length → l.Nodup → (∀ x ∈ l, s.getD x.toNat false = false) →
      arena_Check.L2 (next.length : Int) i next used free s = arena_Check.L4 used (used.length : Int) 0 next free (marks s l) := by
  induction h with
  | nil =>
    intro s hs _ _
    rw [arena_Check.L2_eq, bne_neg rfl]; rfl
  | @cons i l h0 h1 hc ih =>
    intro s hs hn hf
    obtain ⟨hi, hn⟩ := List.nodup_cons.1 hn
    have hr := ih (s.set i.toNat true) (by simpa using hs) hn (fun x hx => by
      have hxr := hc.range x hx
      rw [set_at h0 (by omega) hxr.1, if_neg (fun e => hi (by rw [e]; exact hx))]
      exact hf x (by simp [hx]))
    rw [arena_Check.L2_eq, bne_pos (by omega), arena_Check.L3_eq, bd_neg (by omega), bd_neg (by omega), bd_pos (by omega), bf (hf i (by simp)), arena_Check.L7_eq, bd_pos (by omega), bd_pos (by omega)]
    exact hr
theorem arena_walk_no {used : List Bool} {next : List Int} {free : Int} (d : Nat) :
    ∀ (s : List Bool) (i : Int), s.length = next.length → s.count false ≤ d → (¬ ∃ l, Chain next i l ∧ l.Nodup ∧ ∀ x ∈ l, s.getD x.toNat false = false) →
      arena_Check.L2 (next.length : Int) i next used free s = some (8, ()) := by
  induction d with
  | zero =>
    intro s i hs hd hn
    by_cases e : i = -1
    · exact absurd ⟨[], by rw [e]; exact .nil, by simp, by simp⟩ hn
    rw [arena_Check.L2_eq, bne_pos e, arena_Check.L3_eq]
    by_cases h0 : i < 0
    · rw [bd_pos h0]
    by_cases h1 : i ≥ next.length
    · rw [bd_neg h0, bd_pos h1]
    rw [bd_neg h0, bd_neg h1, bd_pos (by omega)]
    by_cases hf : s.getD i.toNat false = true
    · rw [bt hf]
    · have := count_set (by omega) (by omega) hf
      omega
  | succ d ih =>
    intro s i hs hd hn
    by_cases e : i = -1
    · exact absurd ⟨[], by rw [e]; exact .nil, by simp, by simp⟩ hn
    rw [arena_Check.L2_eq, bne_pos e, arena_Check.L3_eq]
    by_cases h0 : i < 0
    · rw [bd_pos h0]
    by_cases h1 : i ≥ next.length
    · rw [bd_neg h0, bd_pos h1]
    rw [bd_neg h0, bd_neg h1, bd_pos (by omega)]
    by_cases hf : s.getD i.toNat false = true
    · rw [bt hf]
    · have hc := count_set (s := s) (i := i) (by omega) (by omega) hf
      have hr := ih (s.set i.toNat true) (next.getD i.toNat 0) (by simpa using hs) (by omega) (by
        rintro ⟨l, hl, hnd, hx⟩
        refine hn ⟨i :: l, .cons (by omega) (by omega) hl, List.nodup_cons.2 ⟨fun hi => ?_, hnd⟩, ?_⟩
        · have := hx i hi
          rw [set_at (by omega) (by omega) (by omega), if_pos rfl] at this
          exact Bool.noConfusion this
        · intro x hxm
          rcases List.mem_cons.1 hxm with rfl | hxm
          · exact bool_not hf
          · have := hx x hxm
            have hxr := hl.range x hxm
            rw [set_at (by omega) (by omega) hxr.1] at this
            split at this
            · exact Bool.noConfusion this
            · exact this)
      rw [bf (bool_not hf), arena_Check.L7_eq, bd_pos (by omega), bd_pos (by omega)]
      exact hr
theorem arena_says (next : List Int) (used : List Bool) (free : Int) : Says (AOk next used free) (arena_Check.F (next, used, free, ())) := by
  rw [arena_Check.F_eq]
  try dsimp only
  by_cases hlow : (next.length : Int) < 1
  · rw [bd_pos hlow]; exact .inr ⟨fun ⟨l, g⟩ => by have := g.low; omega, rfl⟩
  by_cases hhigh : (next.length : Int) > 16
  · rw [bd_neg hlow, bd_pos hhigh]; exact .inr ⟨fun ⟨l, g⟩ => by have := g.high; omega, rfl⟩
  by_cases hsame : (used.length : Int) = (next.length : Int)
  · rw [bd_neg hlow, bd_neg hhigh, bne_neg hsame, arena_Check.L1_eq, lim_small (by decide) (by omega)]
    by_cases hc : ∃ l, Chain next free l ∧ l.Nodup ∧ ∀ x ∈ l, used.getD x.toNat false = false
    · obtain ⟨l, hl, hnd, hx⟩ := hc
      rw [arena_walk_yes hl used (by omega) hnd hx]
      have hr : ∀ x ∈ l, 0 ≤ x ∧ x < used.length := fun x hx => by have := hl.range x hx; omega
      refine (arena_l4 (by rw [marks_length]) (by omega) (by omega)).congr ⟨fun h => ⟨l, by omega, by omega, by omega, hl, hnd, fun j hj => ?_, fun j hj => (h j hj).2⟩, fun ⟨l', g⟩ i hi => ?_⟩
      · have h2 := (marks_at hr (j := (j : Int)) (by omega)).1 (h j hj).1
        constructor
        · intro ht hm; have := hx _ hm; rw [toNat_cast, ht] at this; exact Bool.noConfusion this
        · intro hm; exact h2.resolve_right hm
      · obtain rfl := hl.det g.chain
        refine ⟨(marks_at hr (j := (i : Int)) (by omega)).2 ?_, g.end_ i hi⟩
        by_cases m : (i : Int) ∈ l
        · exact .inr m
        · exact .inl ((g.mark i hi).2 m)
    · rw [arena_walk_no (used.count false) used free (by omega) (Nat.le_refl _) hc]
      refine .inr ⟨fun ⟨l, g⟩ => hc ⟨l, g.chain, g.nodup, fun x hx => ?_⟩, rfl⟩
      have hr := g.chain.range x hx
      have e : ((x.toNat : Nat) : Int) = x := by omega
      apply bool_not
      intro h
      have hm := (g.mark x.toNat (by omega)).1 h
      rw [e] at hm; exact hm hx
  · rw [bd_neg hlow, bd_neg hhigh, bne_pos hsame]; exact .inr ⟨fun ⟨l, g⟩ => by have := g.same; omega, rfl⟩
end Go.Proofs.Ytkihjakbbcajbaa.TB
namespace Go.Proofs.Ytkihjakbbcajbaa.TB
set_option linter.unusedSimpArgs false
set_option linter.unusedVariables false
open Go Go.Proofs Go.Proofs.Ytkihjakbbcajbaa.PM Go.Proofs.Ytkihjakbbcajbaa.RP
/-- The cell i. -/
@[reducible] noncomputable def cl (x : List t3.den) (i : Int) : t3.den := List.getD x (Int.toNat i) (0, 0, false, ())
theorem and15_fin : ∀ n : Fin 81, PM.bits .and .i64 ((n.val : Int) - 40) 15 = ((n.val : Int) - 40) % 16 := by decide +kernel
theorem wrap_f {a : Int} (h0 : -40 ≤ a) (h1 : a ≤ 40) : probe_wrap.F a = some (a % 16, ()) := by
  rw [probe_wrap.F_eq]
  have := and15_fin ⟨(a + 40).toNat, by omega⟩
  have e : (((a + 40).toNat : Int) - 40) = a := by omega
  simp only [e] at this
  rw [this]
/-- The home of a key. -/
def hm (key : Int) : Int := ((key * 2654435769) % 4294967296) / 268435456
theorem hm_range (key : Int) : 0 ≤ hm key ∧ hm key < 16 := by unfold hm; omega
theorem home_f (key : Int) : probe_Home.F key = some (hm key, ()) := by
  rw [probe_Home.F_eq, bd_pos (by decide), show (2 : Int) ^ min (Int.toNat 28) (IntKind.bits .u32) = 268435456 by decide, Int.fdiv_eq_ediv_of_nonneg _ (by decide), IntKind.wrap_u32, W_eq]
  · rfl
  · omega
  · omega
/-- The first d cells from the home of key on are used and have other keys. -/
def Oth (x : List t3.den) (key : Int) (d : Nat) : Prop := ∀ e : Nat, e < d → (cl x ((hm key + e) % 16)).2.2.1 = true ∧ (cl x ((hm key + e) % 16)).1 ≠ key
/-- The d-th cell from the home of key on ends the search. -/
def Ends (x : List t3.den) (key : Int) (d : Nat) : Prop := (cl x ((hm key + d) % 16)).2.2.1 = true → (cl x ((hm key + d) % 16)).1 = key
theorem next_pos (h : Int) (e : Nat) : ((h + (e : Int)) % 16 + 1) % 16 = (h + ((e + 1 : Nat) : Int)) % 16 := by omega
theorem look_l1 {x : List t3.den} {key : Int} (hx : x.length = 16) {d : Nat} (hd : d ≤ 16) (hp : Oth x key d) (hq : Ends x key d) (n : Nat) :
    ∀ e : Nat, e + n = d → probe_look.L1 x key ((hm key + e) % 16) (e : Int) = some ((hm key + d) % 16, (d : Int) + 1, ()) := by
  induction n with
  | zero =>
    intro e he
    have : e = d := by omega
    subst this
    rw [probe_look.L1_eq, bd_pos (by omega), W_eq (by omega) (by omega)]
    by_cases u : (cl x ((hm key + e) % 16)).2.2.1 = true
    · rw [bt u, bd_pos (by omega), bne_neg (hq u)]
    · rw [bf (bool_not u)]
  | succ n ih =>
    intro e he
    obtain ⟨u, v⟩ := hp e (by omega)
    rw [probe_look.L1_eq, bd_pos (by omega), bt u, bd_pos (by omega), bne_pos v, probe_look.L2_eq, W_eq (x := (hm key + e) % 16 + 1) (by omega) (by omega), wrap_f (by omega) (by omega), ob, next_pos, W_eq (by omega) (by omega), cast_add1]
    exact ih (e + 1) (by omega)
theorem look_f {x : List t3.den} {key : Int} (hx : x.length = 16) {d : Nat} (hd : d ≤ 16) (hp : Oth x key d) (hq : Ends x key d) :
    probe_look.F x key = some ((hm key + d) % 16, (d : Int) + 1, ()) := by
  have h := look_l1 hx hd hp hq d 0 (by omega)
  have := hm_range key
  rw [probe_look.F_eq, home_f, ob]
  rw [show (hm key + ((0 : Nat) : Int)) % 16 = hm key by omega] at h
  exact h
/-- How many cells are used. -/
noncomputable def cnt (x : List t3.den) : Nat := x.countP (·.2.2.1)
theorem cl_get {x : List t3.den} {i : Nat} (h : i < x.length) : cl x (i : Int) = x[i] := by
  unfold cl; rw [toNat_cast, getD_get h]
theorem free_ex {x : List t3.den} (hx : x.length = 16) (hc : cnt x ≤ 12) : ∃ i : Int, 0 ≤ i ∧ i < 16 ∧ (cl x i).2.2.1 = false := by
  by_cases h : ∀ c ∈ x, c.2.2.1 = true
  · have : cnt x = x.length := List.countP_eq_length.2 h
    omega
  · obtain ⟨c, hc, hu⟩ : ∃ c ∈ x, ¬ c.2.2.1 = true := by
      apply Classical.byContradiction; intro hn; exact h fun c hc => Classical.byContradiction fun hu => hn ⟨c, hc, hu⟩
    obtain ⟨i, hi, rfl⟩ := List.mem_iff_getElem.1 hc
    exact ⟨i, by omega, by omega, by rw [cl_get hi]; exact bool_not hu⟩
theorem first_ex (P : Nat → Prop) (n : Nat) (h : P n) : ∃ d, d ≤ n ∧ P d ∧ ∀ e, e < d → ¬ P e := by
  induction n using Nat.strongRecOn with
  | _ n ih =>
    by_cases hq : ∃ e, e < n ∧ P e
    · obtain ⟨e, he, hp⟩ := hq
      obtain ⟨d, h1, h2, h3⟩ := ih e he hp
      exact ⟨d, by omega, h2, h3⟩
    · exact ⟨n, Nat.le_refl _, h, fun e he hp => hq ⟨e, he, hp⟩⟩
/-- Where the search for key ends. -/
theorem look_ex {x : List t3.den} (hx : x.length = 16) (hc : cnt x ≤ 12) (key : Int) : ∃ d : Nat, d < 16 ∧ Oth x key d ∧ Ends x key d := by
  obtain ⟨i, h0, h1, hu⟩ := free_ex hx hc
  have hr := hm_range key
  obtain ⟨d, hd, hp, hq⟩ := first_ex (fun d => Ends x key d) ((i - hm key) % 16).toNat (by
    intro u
    rw [show (hm key + (((i - hm key) % 16).toNat : Int)) % 16 = i by omega] at u
    rw [hu] at u; exact absurd u (by simp))
  exact ⟨d, by omega, fun e he => by
    have := hq e he
    unfold Ends at this
    by_cases u : (cl x ((hm key + e) % 16)).2.2.1 = true
    · exact ⟨u, fun hk => this fun _ => hk⟩
    · exact absurd (fun u' => absurd u' u) this, hp⟩
theorem drop_cnt {x : List t3.den} {i : Nat} (h : i < x.length) : (x.drop i).countP (·.2.2.1) = (if (cl x (i : Int)).2.2.1 = true then 1 else 0) + (x.drop (i + 1)).countP (·.2.2.1) := by
  rw [List.drop_eq_getElem_cons h, List.countP_cons, cl_get h]; omega
theorem take_cnt {x : List t3.den} {i : Nat} (h : i < x.length) : (x.take (i + 1)).countP (·.2.2.1) = (x.take i).countP (·.2.2.1) + (if (cl x (i : Int)).2.2.1 = true then 1 else 0) := by
  rw [← List.take_append_getElem h, List.countP_append, cl_get h]
  simp [List.countP_cons]
theorem cnt_le (x : List t3.den) (i : Nat) : (x.take i).countP (·.2.2.1) ≤ x.length := by
  have := List.countP_le_length (p := fun c : t3.den => c.2.2.1) (l := x.take i)
  have := List.length_take_le' i x
  omega
/-- Valid: 16 cells, at most 12 used, unused cells zero, places in range, no key twice, and all cells from a key's home to its cell used. -/
structure POk (x : List t3.den) : Prop where
  len : x.length = 16
  few : cnt x ≤ 12
  zero : ∀ i : Int, 0 ≤ i → i < 16 → (cl x i).2.2.1 = false → cl x i = (0, 0, false, ())
  place : ∀ i : Int, 0 ≤ i → i < 16 → (cl x i).2.2.1 = true → 0 ≤ Z (cl x i).2.1 ∧ Z (cl x i).2.1 < 16
  uniq : ∀ i j : Int, 0 ≤ i → i < 16 → 0 ≤ j → j < 16 → (cl x i).2.2.1 = true → (cl x j).2.2.1 = true → (cl x i).1 = (cl x j).1 → i = j
  path : ∀ i : Int, 0 ≤ i → i < 16 → (cl x i).2.2.1 = true → ∀ e : Nat, (e : Int) < (i - hm (cl x i).1) % 16 → (cl x ((hm (cl x i).1 + e) % 16)).2.2.1 = true
/-- What the program asks of a cell. -/
def CellOk (x : List t3.den) (i : Int) : Prop :=
  ((cl x i).2.2.1 = false → cl x i = (0, 0, false, ())) ∧
  ((cl x i).2.2.1 = true → 0 ≤ Z (cl x i).2.1 ∧ Z (cl x i).2.1 < 16 ∧ Oth x (cl x i).1 ((i - hm (cl x i).1) % 16).toNat)
theorem look_at {x : List t3.den} (i : Int) (h0 : 0 ≤ i) (h1 : i < 16) {d : Nat} (hd : d < 16) (hp : Oth x (cl x i).1 d) (hq : Ends x (cl x i).1 d) :
    (hm (cl x i).1 + d) % 16 = i ↔ Oth x (cl x i).1 ((i - hm (cl x i).1) % 16).toNat := by
  have hr := hm_range (cl x i).1
  constructor
  · intro h
    rw [show ((i - hm (cl x i).1) % 16).toNat = d by omega]; exact hp
  · intro h
    generalize hD : ((i - hm (cl x i).1) % 16).toNat = D at h
    have hi : (hm (cl x i).1 + D) % 16 = i := by omega
    rcases Nat.lt_trichotomy d D with hl | he | hg
    · have := h d hl
      exact absurd (hq this.1) this.2
    · rw [he]; exact hi
    · have := hp D hg
      rw [hi] at this
      exact absurd rfl this.2
theorem cells_of_valid {x : List t3.den} (h : POk x) (i : Int) (h0 : 0 ≤ i) (h1 : i < 16) : CellOk x i := by
  refine ⟨h.zero i h0 h1, fun u => ⟨(h.place i h0 h1 u).1, (h.place i h0 h1 u).2, fun e he => ?_⟩⟩
  have hr := hm_range (cl x i).1
  have hu := h.path i h0 h1 u e (by omega)
  refine ⟨hu, fun hk => ?_⟩
  have := h.uniq _ i (by omega) (by omega) h0 h1 hu u hk
  omega
theorem valid_of_cells {x : List t3.den} (hx : x.length = 16) (hc : cnt x ≤ 12) (h : ∀ i : Int, 0 ≤ i → i < 16 → CellOk x i) : POk x where
  len := hx
  few := hc
  zero i h0 h1 := (h i h0 h1).1
  place i h0 h1 u := ⟨((h i h0 h1).2 u).1, ((h i h0 h1).2 u).2.1⟩
  uniq i j h0 h1 g0 g1 u v hk := by
    obtain ⟨d, hd, hp, hq⟩ := look_ex hx hc (cl x i).1
    have a := (look_at i h0 h1 hd hp hq).2 ((h i h0 h1).2 u).2.2
    have b := (look_at j g0 g1 hd (hk ▸ hp) (hk ▸ hq)).2 ((h j g0 g1).2 v).2.2
    rw [hk] at a; omega
  path i h0 h1 u e he := (((h i h0 h1).2 u).2.2 e (by omega)).1
theorem check_l5_step {x : List t3.den} (hx : x.length = 16) (hc : cnt x ≤ 12) {i : Nat} (h1 : i < 16) :
    (CellOk x (i : Int) ∧ probe_Check.L5 x (i : Int) = probe_Check.L5 x ((i + 1 : Nat) : Int)) ∨ (¬ CellOk x (i : Int) ∧ probe_Check.L5 x (i : Int) = some (8, ())) := by
  obtain ⟨d, hd, hp, hq⟩ := look_ex hx hc (cl x (i : Int)).1
  have hl := look_f hx (by omega) hp hq
  have hat := look_at (i : Int) (by omega) (by omega) hd hp hq
  have nxt : probe_Check.L8 x (i : Int) = probe_Check.L5 x ((i + 1 : Nat) : Int) := by
    rw [probe_Check.L8_eq, W_eq (by omega) (by omega), cast_add1]
  rw [probe_Check.L5_eq, bd_pos (by omega), probe_Check.L6_eq, bd_pos (by omega)]
  by_cases u : (cl x (i : Int)).2.2.1 = true
  · have nz : ¬ ((cl x (i : Int)).2.2.1 = false) := by rw [u]; simp
    rw [bnt u, bt u]
    by_cases p0 : Z (cl x (i : Int)).2.1 < 0
    · rw [bd_pos (by exact p0)]; exact .inr ⟨fun hc => by have := (hc.2 u).1; omega, rfl⟩
    by_cases p1 : Z (cl x (i : Int)).2.1 ≥ 16
    · rw [bd_neg (by exact p0), bd_pos (by exact p1)]; exact .inr ⟨fun hc => by have := (hc.2 u).2.1; omega, rfl⟩
    rw [bd_neg (by exact p0), bd_neg (by exact p1), probe_Check.L7_eq, hl, ob, bt u]
    by_cases hh : (hm (cl x (i : Int)).1 + d) % 16 = (i : Int)
    · rw [bne_neg hh, nxt]
      exact .inl ⟨⟨fun uf => absurd uf nz, fun _ => ⟨by omega, by omega, hat.1 hh⟩⟩, rfl⟩
    · rw [bne_pos hh]
      exact .inr ⟨fun hc => hh (hat.2 (hc.2 u).2.2), rfl⟩
  · have uf := bool_not u
    rw [bnf uf]
    by_cases z : cl x (i : Int) = (0, 0, false, ())
    · rw [nbeq_neg z, bf uf, probe_Check.L7_eq, hl, ob, bf uf, nxt]
      exact .inl ⟨⟨fun _ => z, fun ut => absurd ut u⟩, rfl⟩
    · rw [nbeq_pos z]; exact .inr ⟨fun hc => z (hc.1 uf), rfl⟩
theorem probe_says (x : List t3.den) : Says (POk x) (probe_Check.F x) := by
  rw [probe_Check.F_eq]
  by_cases hx : (x.length : Int) = 16
  · have hx' : x.length = 16 := by omega
    rw [bne_neg hx, probe_Check.L1_eq]
    have h2 := loop_go (n := x.length) (L := fun i => probe_Check.L2 x (((x.take i).countP (·.2.2.1) : Nat) : Int) (x.length : Int) (i : Int)) (fun i hi => by
      have hle := cnt_le x i
      try dsimp only
      rw [probe_Check.L2_eq, bd_pos (by omega), probe_Check.L3_eq, bd_pos (by omega), take_cnt hi]
      by_cases u : (cl x (i : Int)).2.2.1 = true
      · rw [bt u, if_pos u, probe_Check.L9_eq, W_eq (by omega) (by omega), W_eq (by omega) (by omega), cast_add1, cast_add1]
      · rw [bf (bool_not u), if_neg u, probe_Check.L9_eq, W_eq (x := (i : Int) + 1) (by omega) (by omega), cast_add1]; rfl)
    try dsimp only at h2
    rw [List.take_of_length_le (Nat.le_refl _)] at h2
    have h3 : probe_Check.L2 x 0 (x.length : Int) 0 = probe_Check.L2 x (cnt x : Int) (x.length : Int) (x.length : Int) := h2
    rw [h3, probe_Check.L2_eq, bd_neg (by omega)]
    by_cases hc : cnt x ≤ 12
    · rw [bd_neg (by omega), probe_Check.L4_eq]
      rcases loop_all (n := 16) (L := fun i => probe_Check.L5 x (i : Int)) (ok := fun i => CellOk x (i : Int)) (stop := some (8, ())) (fun i hi => check_l5_step hx' hc hi) with ⟨a, e⟩ | ⟨a, e⟩
      · refine .inl ⟨valid_of_cells hx' hc fun i h0 h1 => ?_, Eq.trans e ?_⟩
        · have := a i.toNat (by omega)
          rw [show ((i.toNat : Nat) : Int) = i by omega] at this
          exact this
        · try dsimp only
          rw [probe_Check.L5_eq, bd_neg (by decide)]
      · exact .inr ⟨fun h => a fun i hi => cells_of_valid h i (by omega) (by omega), e⟩
    · rw [bd_pos (by omega)]; exact .inr ⟨fun h => hc h.few, rfl⟩
  · rw [bne_pos hx]; exact .inr ⟨fun h => hx (by rw [h.len]; rfl), rfl⟩
/-- In a valid index the search for a key ends at the key's cell, or the key is not there. -/
theorem found {x : List t3.den} (h : POk x) (key : Int) : ∃ d : Nat, d < 16 ∧ Oth x key d ∧ Ends x key d ∧ probe_look.F x key = some ((hm key + d) % 16, (d : Int) + 1, ()) ∧
    (((cl x ((hm key + d) % 16)).2.2.1 = true ∧ (cl x ((hm key + d) % 16)).1 = key) ∨
     ((cl x ((hm key + d) % 16)).2.2.1 = false ∧ (∀ j : Int, 0 ≤ j → j < 16 → ¬ ((cl x j).2.2.1 = true ∧ (cl x j).1 = key)))) := by
  obtain ⟨d, hd, hp, hq⟩ := look_ex h.len h.few key
  have hr := hm_range key
  refine ⟨d, hd, hp, hq, look_f h.len (by omega) hp hq, ?_⟩
  by_cases u : (cl x ((hm key + d) % 16)).2.2.1 = true
  · exact Or.inl ⟨u, hq u⟩
  · refine Or.inr ⟨bool_not u, ?_⟩
    intro j h0 h1 ⟨v, e⟩
    have ho := ((cells_of_valid h j h0 h1).2 v).2.2
    have := (look_at j h0 h1 hd (e ▸ hp) (e ▸ hq)).2 ho
    rw [e] at this; rw [this] at u; exact u v
/-- What Find answers on a valid index. -/
theorem probe_Find_ok {x : List t3.den} (h : POk x) (key : Int) :
    (∃ i : Int, 0 ≤ i ∧ i < 16 ∧ (cl x i).2.2.1 = true ∧ (cl x i).1 = key ∧ probe_Find.F x key = some ((cl x i).2.1, 0, ())) ∨
    ((∀ j : Int, 0 ≤ j → j < 16 → ¬ ((cl x j).2.2.1 = true ∧ (cl x j).1 = key)) ∧ probe_Find.F x key = some (0, 6, ())) := by
  obtain ⟨d, hd, hp, hq, hl, hc⟩ := found h key
  have hx := h.len
  have hr := hm_range key
  rw [probe_Find.F_eq, (probe_says x).yes h, ob, bne_neg rfl, probe_Find.L1_eq, hl, ob, bd_pos (by dsimp only; omega)]
  rcases hc with ⟨u, e⟩ | ⟨u, n⟩
  · refine .inl ⟨(hm key + d) % 16, by omega, by omega, u, e, ?_⟩
    rw [bnt u, probe_Find.L2_eq, bd_pos (by dsimp only; omega)]
  · refine .inr ⟨n, ?_⟩
    rw [bnf u]
end Go.Proofs.Ytkihjakbbcajbaa.TB
namespace Go.Proofs.Ytkihjakbbcajbaa.TB
set_option linter.unusedSimpArgs false
set_option linter.unusedVariables false
open Go Go.Proofs Go.Proofs.Ytkihjakbbcajbaa.PM Go.Proofs.Ytkihjakbbcajbaa.RP
/-- The list that begins at i behind c, and goes on by next, with the ones ahead. -/
inductive Both (prev next : List Int) : Int → Int → List Int → Prop
  | nil (c : Int) : Both prev next c (-1) []
  | cons {c i : Int} {l : List Int} (h0 : 0 ≤ i) (h1 : i < next.length) (hp : prev.getD i.toNat 0 = c) (h : Both prev next i (next.getD i.toNat 0) l) : Both prev next c i (i :: l)
theorem Both.chain {prev next : List Int} {c i : Int} {l : List Int} (h : Both prev next c i l) : Chain next i l := by
  induction h with
  | nil => exact .nil
  | cons h0 h1 _ _ ih => exact .cons h0 h1 ih
theorem Both.to {prev next : List Int} {c i : Int} {l : List Int} (h : Both prev next c i l) : both prev next c i l := by
  induction h with
  | nil => rfl
  | cons h0 h1 hp _ ih => exact ⟨rfl, by omega, hp, ih⟩
theorem Both.of {prev next : List Int} : ∀ {l : List Int} {c i : Int}, both prev next c i l → (∀ x ∈ l, 0 ≤ x ∧ x < next.length) → Both prev next c i l
  | [], c, i, h, _ => by
    have e : i = -1 := h
    rw [e]; exact .nil c
  | y :: l, c, i, h, hr => by
    obtain ⟨h1, h2, h3, h4⟩ := h
    subst h1
    have := hr i (by simp)
    exact .cons this.1 this.2 h3 (Both.of h4 fun x hx => hr x (by simp [hx]))
/-- l is the list of a valid order. -/
structure OGood (prev next : List Int) (head tail : Int) (l : List Int) : Prop where
  low : 1 ≤ prev.length
  high : prev.length ≤ 16
  same : next.length = prev.length
  both : Both prev next (-1) head l
  nodup : l.Nodup
  out : ∀ j : Nat, j < prev.length → ¬ (j : Int) ∈ l → prev.getD j 0 = -1 ∧ next.getD j 0 = -1
  tail : tail = lst (-1) l
def OOk (prev next : List Int) (head tail : Int) : Prop := ∃ l, OGood prev next head tail l
theorem OGood.ok {prev next : List Int} {head tail : Int} {l : List Int} (g : OGood prev next head tail l) : Ok prev.length l :=
  ⟨g.nodup, fun x hx => by have := g.both.chain.range x hx; have := g.same; omega⟩
theorem OGood.det {prev next : List Int} {head tail : Int} {l l' : List Int} (g : OGood prev next head tail l) (g' : OGood prev next head tail l') : l = l' := g.both.chain.det g'.both.chain
theorem OGood.short {prev next : List Int} {head tail : Int} {l : List Int} (g : OGood prev next head tail l) : l.length ≤ 16 := by
  have := g.ok.len
  have := g.high
  omega
/-- A valid order is the one that its list makes. -/
theorem OGood.made {prev next : List Int} {head tail : Int} {l : List Int} (g : OGood prev next head tail l) : prev = PV prev.length l ∧ next = NX prev.length l ∧ head = hd (-1) l ∧ tail = lst (-1) l := by
  have hb := g.both.to
  have hn := nx_of_path (both_path hb) g.nodup
  have hp := both_pv hb g.nodup
  refine ⟨?_, ?_, hn.1, g.tail⟩
  · refine Eq.trans (row_of prev) (row_congr fun i h0 h1 => ?_)
    by_cases m : i ∈ l
    · exact hp i m
    · have := g.out i.toNat (by omega) (by rw [show ((i.toNat : Nat) : Int) = i by omega]; exact m)
      rw [pv_out m]; exact this.1
  · refine Eq.trans (row_of next) ?_
    rw [g.same]
    refine row_congr fun i h0 h1 => ?_
    by_cases m : i ∈ l
    · exact hn.2 i m
    · have := g.out i.toNat (by omega) (by rw [show ((i.toNat : Nat) : Int) = i by omega]; exact m)
      rw [nx_out m]; exact this.2
theorem OGood.of {n : Nat} {l : List Int} (h1 : 1 ≤ n) (h2 : n ≤ 16) (h : Ok n l) : OGood (PV n l) (NX n l) (hd (-1) l) (lst (-1) l) l where
  low := by rw [PV_len]; exact h1
  high := by rw [PV_len]; exact h2
  same := by rw [PV_len, NX_len]
  both := Both.of (both_made (A := []) h) (by rw [NX_len]; exact h.2)
  nodup := h.1
  out j hj hm := by
    rw [PV_len] at hj
    have a := rd_PV (L := l) (n := n) (i := (j : Int)) (by omega) (by omega)
    have b := rd_NX (L := l) (n := n) (i := (j : Int)) (by omega) (by omega)
    unfold rd at a b
    rw [toNat_cast] at a b
    rw [a, b]
    exact ⟨pv_out hm, nx_out hm⟩
  tail := rfl
theorem lru_walk_yes {prev next : List Int} {head tail last i : Int} {l : List Int} (hl : prev.length = next.length) (h : Both prev next last i l) :
    ∀ s : List Bool, s.length = next.length → l.Nodup → (∀ x ∈ l, s.getD x.toNat false = false) →
      lru_Check.L2 (next.length : Int) last i prev next head tail s = lru_Check.L4 (lst last l) (next.length : Int) 0 prev next head tail (marks s l) := by
  induction h with
  | nil c =>
    intro s hs _ _
    rw [lru_Check.L2_eq, bne_neg rfl, ← hs]; rfl
  | @cons c i l h0 h1 hp hc ih =>
    intro s hs hn hf
    obtain ⟨hi, hn⟩ := List.nodup_cons.1 hn
    have hr := ih (s.set i.toNat true) (by simpa using hs) hn (fun x hx => by
      have hxr := hc.chain.range x hx
      rw [set_at h0 (by omega) hxr.1, if_neg (fun e => hi (by rw [e]; exact hx))]
      exact hf x (by simp [hx]))
    rw [lru_Check.L2_eq, bne_pos (by omega), lru_Check.L3_eq, bd_neg (by omega), bd_neg (by omega), bd_pos (by omega), bf (hf i (by simp)), bd_pos (by omega), bne_neg hp, lru_Check.L8_eq, bd_pos (by omega), bd_pos (by omega)]
    exact hr
theorem lru_walk_no {prev next : List Int} {head tail : Int} (hl : prev.length = next.length) (d : Nat) :
    ∀ (s : List Bool) (last i : Int), s.length = next.length → s.count false ≤ d → (¬ ∃ l, Both prev next last i l ∧ l.Nodup ∧ ∀ x ∈ l, s.getD x.toNat false = false) →
      lru_Check.L2 (next.length : Int) last i prev next head tail s = some (8, ()) := by
  induction d with
  | zero =>
    intro s last i hs hd hn
    by_cases e : i = -1
    · exact absurd ⟨[], by rw [e]; exact .nil _, by simp, by simp⟩ hn
    rw [lru_Check.L2_eq, bne_pos e, lru_Check.L3_eq]
    by_cases h0 : i < 0
    · rw [bd_pos h0]
    by_cases h1 : i ≥ next.length
    · rw [bd_neg h0, bd_pos h1]
    rw [bd_neg h0, bd_neg h1, bd_pos (by omega)]
    by_cases hf : s.getD i.toNat false = true
    · rw [bt hf]
    · have := count_set (by omega) (by omega) hf
      omega
  | succ d ih =>
    intro s last i hs hd hn
    by_cases e : i = -1
    · exact absurd ⟨[], by rw [e]; exact .nil _, by simp, by simp⟩ hn
    rw [lru_Check.L2_eq, bne_pos e, lru_Check.L3_eq]
    by_cases h0 : i < 0
    · rw [bd_pos h0]
    by_cases h1 : i ≥ next.length
    · rw [bd_neg h0, bd_pos h1]
    rw [bd_neg h0, bd_neg h1, bd_pos (by omega)]
    by_cases hf : s.getD i.toNat false = true
    · rw [bt hf]
    rw [bf (bool_not hf), bd_pos (by omega)]
    by_cases hp : prev.getD i.toNat 0 = last
    · have hc := count_set (s := s) (i := i) (by omega) (by omega) hf
      have hr := ih (s.set i.toNat true) i (next.getD i.toNat 0) (by simpa using hs) (by omega) (by
        rintro ⟨l, hl, hnd, hx⟩
        refine hn ⟨i :: l, .cons (by omega) (by omega) hp hl, List.nodup_cons.2 ⟨fun hi => ?_, hnd⟩, ?_⟩
        · have := hx i hi
          rw [set_at (by omega) (by omega) (by omega), if_pos rfl] at this
          exact Bool.noConfusion this
        · intro x hxm
          rcases List.mem_cons.1 hxm with rfl | hxm
          · exact bool_not hf
          · have := hx x hxm
            have hxr := hl.chain.range x hxm
            rw [set_at (by omega) (by omega) hxr.1] at this
            split at this
            · exact Bool.noConfusion this
            · exact this)
      rw [bne_neg hp, lru_Check.L8_eq, bd_pos (by omega), bd_pos (by omega)]
      exact hr
    · rw [bne_pos hp]
def OutOk (s : List Bool) (prev next : List Int) (i : Nat) : Prop := s.getD i false = false → prev.getD i 0 = -1 ∧ next.getD i 0 = -1
theorem lru_l4 {s : List Bool} {prev next : List Int} {head tail last : Int} (h1 : s.length = next.length) (h2 : prev.length = next.length) (hu : next.length ≤ 16) :
    Says ((∀ i, i < next.length → OutOk s prev next i) ∧ tail = last) (lru_Check.L4 last (next.length : Int) 0 prev next head tail s) := by
  have := loop_all (n := next.length) (L := fun i => lru_Check.L4 last (next.length : Int) (i : Int) prev next head tail s) (ok := OutOk s prev next) (stop := some (8, ())) (fun i hi => by
    have nxt : lru_Check.L7 last (next.length : Int) (i : Int) prev next head tail s = lru_Check.L4 last (next.length : Int) ((i + 1 : Nat) : Int) prev next head tail s := by
      rw [lru_Check.L7_eq, W_eq (by omega) (by omega), cast_add1]
    try dsimp only
    rw [lru_Check.L4_eq, bd_pos (by omega), lru_Check.L5_eq, bd_pos (by omega)]
    simp only [toNat_cast]
    by_cases a : s.getD i false = true
    · rw [bnt a, nxt]; exact .inl ⟨fun h => (by rw [a] at h; cases h), rfl⟩
    · rw [bnf (bool_not a), bd_pos (by omega)]
      by_cases e : prev.getD i 0 = -1
      · rw [bne_neg e, bd_pos (by omega)]
        by_cases f : next.getD i 0 = -1
        · rw [bne_neg f, nxt]; exact .inl ⟨fun _ => ⟨e, f⟩, rfl⟩
        · rw [bne_pos f]; exact .inr ⟨fun h => f (h (bool_not a)).2, rfl⟩
      · rw [bne_pos e]; exact .inr ⟨fun h => e (h (bool_not a)).1, rfl⟩)
  rcases this with ⟨h, e⟩ | ⟨h, e⟩
  · have e2 : lru_Check.L4 last (next.length : Int) 0 prev next head tail s = lru_Check.L4 last (next.length : Int) (next.length : Int) prev next head tail s := e
    rw [e2, lru_Check.L4_eq, bd_neg (by omega)]
    by_cases t : tail = last
    · rw [bne_neg t, lru_Check.L6_eq]; exact .inl ⟨⟨h, t⟩, rfl⟩
    · rw [bne_pos t]; exact .inr ⟨fun h => t h.2, rfl⟩
  · exact .inr ⟨fun h2 => h h2.1, e⟩
theorem lru_says (prev next : List Int) (head tail : Int) : Says (OOk prev next head tail) (lru_Check.F (prev, next, head, tail, ())) := by
  rw [lru_Check.F_eq]
  try dsimp only
  by_cases hlow : (prev.length : Int) < 1
  · rw [bd_pos hlow]; exact .inr ⟨fun ⟨l, g⟩ => by have := g.low; omega, rfl⟩
  by_cases hhigh : (prev.length : Int) > 16
  · rw [bd_neg hlow, bd_pos hhigh]; exact .inr ⟨fun ⟨l, g⟩ => by have := g.high; omega, rfl⟩
  by_cases hsame : (next.length : Int) = (prev.length : Int)
  · have hl : prev.length = next.length := by omega
    rw [bd_neg hlow, bd_neg hhigh, bne_neg hsame, lru_Check.L1_eq, decide_eq_true (show (0 : Int) ≤ (prev.length : Int) ∧ (prev.length : Int) ≤ (prev.length : Int) by omega), Bool.true_and, lim_small (by decide) (by omega), toNat_cast, hl]
    have h0 : ∀ i : Nat, (List.replicate next.length false).getD i false = false := fun i => by simp [List.getD_eq_getElem?_getD, List.getElem?_replicate]; split <;> rfl
    by_cases hc : ∃ l, Both prev next (-1) head l ∧ l.Nodup
    · obtain ⟨l, hb, hnd⟩ := hc
      rw [lru_walk_yes hl hb _ (by simp) hnd (fun x _ => h0 _)]
      have hr : ∀ x ∈ l, 0 ≤ x ∧ x < (List.replicate next.length false).length := fun x hx => by have := hb.chain.range x hx; simp; omega
      have hm : ∀ i : Nat, (marks (List.replicate next.length false) l).getD i false = true ↔ (i : Int) ∈ l := fun i => by
        have := marks_at hr (j := (i : Int)) (by omega)
        rw [toNat_cast, h0] at this
        simpa using this
      refine (lru_l4 (by rw [marks_length]; simp) hl (by omega)).congr ⟨fun h => ⟨l, by omega, by omega, by omega, hb, hnd, fun j hj m => h.1 j (by omega) (bool_not fun e => m ((hm j).1 e)), h.2⟩, fun ⟨l', g⟩ => ?_⟩
      obtain rfl := hb.chain.det g.both.chain
      exact ⟨fun i hi e => g.out i (by omega) fun m => (by rw [(hm i).2 m] at e; cases e), g.tail⟩
    · rw [lru_walk_no hl ((List.replicate next.length false).count false) _ _ _ (by simp) (Nat.le_refl _) (fun ⟨l, a, b, _⟩ => hc ⟨l, a, b⟩)]
      exact .inr ⟨fun ⟨l, g⟩ => hc ⟨l, g.both, g.nodup⟩, rfl⟩
  · rw [bd_neg hlow, bd_neg hhigh, bne_pos hsame]; exact .inr ⟨fun ⟨l, g⟩ => by have := g.same; omega, rfl⟩
theorem list_walk {prev next : List Int} {head tail i : Int} {l : List Int} (h : Chain next i l) : ∀ acc : List Int, acc.length + l.length ≤ 1000 → lru_List.L2 i prev next head tail acc = some (acc ++ l, 0, ()) := by
  induction h with
  | nil =>
    intro acc _
    rw [lru_List.L2_eq, bne_neg rfl, List.append_nil]
  | @cons i l h0 h1 hc ih =>
    intro acc ha
    have ha : acc.length + (l.length + 1) ≤ 1000 := ha
    rw [lru_List.L2_eq, bne_pos (by omega), lru_List.L3_eq, lim_small (by decide) (by simp; omega), bd_pos (by omega), ih _ (by simp; omega)]
    simp
/-- What List answers. -/
theorem lru_List_ok {prev next : List Int} {head tail : Int} {l : List Int} (g : OGood prev next head tail l) : lru_List.F (prev, next, head, tail, ()) = some (l, 0, ()) := by
  have := g.short
  rw [lru_List.F_eq, (lru_says prev next head tail).yes ⟨l, g⟩, ob, bne_neg rfl, lru_List.L1_eq]
  try dsimp only
  rw [list_walk g.both.chain [] (by simp; omega)]
  rfl
theorem lru_List_no {prev next : List Int} {head tail : Int} (h : ¬ OOk prev next head tail) : lru_List.F (prev, next, head, tail, ()) = some ([], 8, ()) := by
  rw [lru_List.F_eq, (lru_says prev next head tail).no h, ob, bne_pos (by decide)]
end Go.Proofs.Ytkihjakbbcajbaa.TB
namespace Go.Proofs.Ytkihjakbbcajbaa.TB
set_option linter.unusedSimpArgs false
set_option linter.unusedVariables false
open Go Go.Proofs Go.Proofs.Ytkihjakbbcajbaa.PM Go.Proofs.Ytkihjakbbcajbaa.RP
def LimOk (l : t0.den) : Prop := ¬ (Z l.1) < 1 ∧ ¬ (Z l.1) > 1000000000 ∧ ¬ (Z l.2.1) < 0 ∧ ¬ (Z l.2.1) > 1000000000 ∧ ¬ (Z l.2.2.1) < 1 ∧ ¬ (Z l.2.2.1) > 1000000000 ∧ True
theorem limit_says (l : t0.den) : Says (LimOk l) (bucket_CheckLimit.F l) := by
  rw [bucket_CheckLimit.F_eq]
  exact .guard fun _ => .guard fun _ => .guard fun _ => .guard fun _ => .guard fun _ => .guard fun _ => by rw [bucket_CheckLimit.L1_eq]; exact .done
def BktOk (b : t1.den) : Prop := LimOk b.1 ∧ ¬ (Z b.2.1) < 0 ∧ ¬ ((Z b.1.1) - Z b.2.1) < 0 ∧ ¬ (Z b.2.2.1) < 0 ∧ ¬ (Z b.2.2.1) ≥ Z b.1.2.2.1 ∧ ((Z b.1.1) - Z b.2.1 = 0 → ¬ (Z b.2.2.1) > 0)
theorem bucket_says (b : t1.den) (hb : (Z b.2.1) ≤ 9223372036854775807) : Says (BktOk b) (bucket_Check.F b) := by
  rw [bucket_Check.F_eq]
  refine (limit_says b.1).call (fun hl => ?_) rfl
  obtain ⟨h1, h2, _⟩ := hl
  rw [bne_neg rfl, bucket_Check.L1_eq]
  refine .guard fun a => ?_
  have e : IntKind.wrap .i64 ((Z b.1.1) - Z b.2.1) = (Z b.1.1) - Z b.2.1 := W_eq (by omega) (by omega)
  rw [e]
  refine .guard fun _ => .guard fun _ => .guard fun _ => ?_
  by_cases z : (Z b.1.1) - Z b.2.1 = 0
  · rw [beq_pos z]
    by_cases w : (Z b.2.2.1) > 0
    · rw [bd_pos (by exact w)]; exact .inr ⟨fun h => h z w, rfl⟩
    · rw [bd_neg (by exact w), bucket_Check.L2_eq]; exact .inl ⟨fun _ => w, rfl⟩
  · rw [beq_neg z, bucket_Check.L2_eq]; exact .inl ⟨fun h => absurd h z, rfl⟩
theorem index_l1 {s : List Int} {v : Int} (hs : s.length ≤ 1000) : ∀ (k i : Nat), i + k = s.length → ∃ r : Int, slices_Index.L1 s v (s.length : Int) (i : Int) = some (r, ()) ∧ (0 ≤ r ↔ v ∈ s.drop i)
  | 0, i, h => by
    refine ⟨-1, by rw [slices_Index.L1_eq, bd_neg (by omega)], ?_⟩
    rw [List.drop_of_length_le (by omega)]; simp
  | k + 1, i, h => by
    have hi : i < s.length := by omega
    rw [slices_Index.L1_eq, bd_pos (by omega), slices_Index.L2_eq, bd_pos (by omega)]
    simp only [toNat_cast]
    rw [getD_get hi, List.drop_eq_getElem_cons hi]
    by_cases e : v = s[i]
    · exact ⟨i, by rw [beq_pos e], ⟨fun _ => by rw [e]; exact List.mem_cons_self, fun _ => by omega⟩⟩
    · obtain ⟨r, h1, h2⟩ := index_l1 hs k (i + 1) (by omega)
      refine ⟨r, by rw [beq_neg e, slices_Index.L3_eq, W_eq (by omega) (by omega), cast_add1, h1], ?_⟩
      rw [h2, List.mem_cons]
      exact ⟨Or.inr, fun h => h.resolve_left e⟩
theorem contains_f {s : List Int} (hs : s.length ≤ 1000) (v : Int) : slices_Contains.F s v = some (decide (v ∈ s), ()) := by
  obtain ⟨r, h1, h2⟩ := index_l1 (v := v) hs s.length 0 (by omega)
  have h1 : slices_Index.L1 s v (s.length : Int) 0 = some (r, ()) := h1
  rw [slices_Contains.F_eq, slices_Index.F_eq, h1, ob]
  rw [List.drop_zero] at h2
  show some (decide (r ≥ 0), ()) = _
  rw [decide_eq_decide.2 h2]
end Go.Proofs.Ytkihjakbbcajbaa.TB
namespace Go.Proofs.Ytkihjakbbcajbaa.TB
set_option linter.unusedSimpArgs false
set_option linter.unusedVariables false
open Go Go.Proofs Go.Proofs.Ytkihjakbbcajbaa.PM Go.Proofs.Ytkihjakbbcajbaa.RP
@[reducible] noncomputable def b0_ : t1.den := ((0, 0, 0, ()), 0, 0, 0, ())
/-- What is asked of a place. -/
def RowOk (keys : List Int) (bks : List t1.den) (used : List Bool) (x : List t3.den) (l : List Int) (i : Nat) : Prop :=
  (used.getD i false = true ↔ (i : Int) ∈ l) ∧
  (used.getD i false = false → keys.getD i 0 = 0 ∧ bks.getD i b0_ = b0_) ∧
  (used.getD i false = true → (∃ j : Int, 0 ≤ j ∧ j < 16 ∧ (cl x j).2.2.1 = true ∧ (cl x j).1 = keys.getD i 0 ∧ (cl x j).2.1 = (i : Int)) ∧ BktOk (bks.getD i b0_))
/-- l is the list of the places of a valid table, the last used one first. -/
structure TGood (cap : Int) (keys : List Int) (bks : List t1.den) (next : List Int) (used : List Bool) (free : Int) (x : List t3.den) (prev nxt : List Int) (head tail : Int) (l : List Int) : Prop where
  low : 1 ≤ cap
  high : cap ≤ 8
  nkeys : (keys.length : Int) = cap
  nbks : (bks.length : Int) = cap
  nnext : (next.length : Int) = cap
  nprev : (prev.length : Int) = cap
  arena : AOk next used free
  index : POk x
  order : OGood prev nxt head tail l
  row : ∀ i : Nat, i < used.length → RowOk keys bks used x l i
  count : used.countP id = cnt x
def TOk (t : t5.den) : Prop := ∃ l, TGood t.1 t.2.1 t.2.2.1 t.2.2.2.1.1 t.2.2.2.1.2.1 t.2.2.2.1.2.2.1 t.2.2.2.2.1 t.2.2.2.2.2.1.1 t.2.2.2.2.2.1.2.1 t.2.2.2.2.2.1.2.2.1 t.2.2.2.2.2.1.2.2.2.1 l
theorem take_count {used : List Bool} {i : Nat} (h : i < used.length) : (used.take (i + 1)).countP id = (used.take i).countP id + (if used.getD i false = true then 1 else 0) := by
  rw [← List.take_append_getElem h, List.countP_append, getD_get h]
  simp [List.countP_cons]
theorem count_le (used : List Bool) (i : Nat) : (used.take i).countP id ≤ used.length := by
  have := List.countP_le_length (p := id) (l := used.take i)
  have := List.length_take_le' i used
  omega
theorem table_l5 {x : List t3.den} (hx : x.length = 16) (n : Nat) (hn : n ≤ 1000) : Says (n = cnt x) (table_Check.L5 (n : Int) x (x.length : Int) 0) := by
  have h2 := loop_go (n := x.length) (L := fun i => table_Check.L5 ((n : Int) - (((x.take i).countP (·.2.2.1) : Nat) : Int)) x (x.length : Int) (i : Int)) (fun i hi => by
    have hle := cnt_le x i
    try dsimp only
    rw [table_Check.L5_eq, bd_pos (by omega), table_Check.L6_eq, bd_pos (by omega), take_cnt hi]
    by_cases u : (cl x (i : Int)).2.2.1 = true
    · rw [bt u, if_pos u, table_Check.L8_eq, W_eq (by omega) (by omega), W_eq (by omega) (by omega), cast_add1]
      congr 1
      omega
    · rw [bf (bool_not u), if_neg u, table_Check.L8_eq, W_eq (x := (i : Int) + 1) (by omega) (by omega), cast_add1]; rfl)
  try dsimp only at h2
  rw [List.take_of_length_le (Nat.le_refl _)] at h2
  have h3 : table_Check.L5 ((n : Int) - ((0 : Nat) : Int)) x (x.length : Int) 0 = table_Check.L5 ((n : Int) - (cnt x : Int)) x (x.length : Int) (x.length : Int) := h2
  rw [show ((n : Int) - ((0 : Nat) : Int)) = n by omega] at h3
  rw [h3, table_Check.L5_eq, bd_neg (by omega)]
  by_cases e : n = cnt x
  · rw [bne_neg (by omega), table_Check.L7_eq]; exact .inl ⟨e, rfl⟩
  · rw [bne_pos (by omega)]; exact .inr ⟨e, rfl⟩
theorem find_place {x : List t3.den} (h : POk x) (key : Int) (i : Int) {o : Option (Int × Unit)} {P : Prop} (ho : (∃ j : Int, 0 ≤ j ∧ j < 16 ∧ (cl x j).2.2.1 = true ∧ (cl x j).1 = key ∧ (cl x j).2.1 = i) → Says P o) :
    Says ((∃ j : Int, 0 ≤ j ∧ j < 16 ∧ (cl x j).2.2.1 = true ∧ (cl x j).1 = key ∧ (cl x j).2.1 = i) ∧ P) ((probe_Find.F x key).bind fun r0 => bif (r0.2.1 != 0) then some (8, ()) else bif (r0.1 != i) then some (8, ()) else o) := by
  rcases probe_Find_ok h key with ⟨j, h0, h1, u, e, f⟩ | ⟨n, f⟩
  · rw [f, ob, bne_neg rfl]
    by_cases q : Z (cl x j).2.1 = i
    · rw [bne_neg q]
      have ex : ∃ j : Int, 0 ≤ j ∧ j < 16 ∧ (cl x j).2.2.1 = true ∧ (cl x j).1 = key ∧ (cl x j).2.1 = i := ⟨j, h0, h1, u, e, q⟩
      exact (ho ex).congr ⟨fun p => ⟨ex, p⟩, fun k => k.2⟩
    · rw [bne_pos q]
      refine .inr ⟨fun ⟨⟨k, a, b, c, d, g⟩, _⟩ => q ?_, rfl⟩
      rw [h.uniq j k h0 h1 a b u c (e.trans d.symm)]; exact g
  · rw [f, ob, bne_pos (by decide)]
    exact .inr ⟨fun ⟨⟨k, a, b, c, d, g⟩, _⟩ => n k a b ⟨c, d⟩, rfl⟩
theorem table_l3 {cap : Int} {keys : List Int} {bks : List t1.den} {next : List Int} {used : List Bool} {free : Int} {x : List t3.den} {prev nxt : List Int} {head tail : Int} {l : List Int}
    (hk : keys.length = used.length) (hb : bks.length = used.length) (hu : used.length ≤ 8) (hx : POk x) (hl : l.length ≤ 16) (hw : ∀ c ∈ bks, Z c.2.1 ≤ 9223372036854775807) :
    Says ((∀ i, i < used.length → RowOk keys bks used x l i) ∧ used.countP id = cnt x) (table_Check.L3 0 used (used.length : Int) 0 cap keys bks next free x prev nxt head tail l) := by
  have hx16 := hx.len
  rcases loop_all (n := used.length) (L := fun i => table_Check.L3 (((used.take i).countP id : Nat) : Int) used (used.length : Int) (i : Int) cap keys bks next free x prev nxt head tail l) (ok := RowOk keys bks used x l) (stop := some (8, ())) (fun i hi => by
    have hle := count_le used i
    try dsimp only
    rw [take_count hi]
    rw [table_Check.L3_eq, bd_pos (by omega), table_Check.L4_eq, bd_pos (by omega), contains_f (by omega), ob]
    simp only [toNat_cast]
    by_cases u : used.getD i false = true
    · rw [if_pos u]
      rw [u]
      by_cases m : (i : Int) ∈ l
      · rw [decide_eq_true m, bnt (b := true == true) rfl, bnt rfl, table_Check.L9_eq, bnt rfl, table_Check.L10_eq, bd_pos (by omega)]
        simp only [toNat_cast]
        have hbi : Z (bks.getD i b0_).2.1 ≤ 9223372036854775807 := by
          rw [getD_get (by omega)]; exact hw _ (List.getElem_mem _)
        rcases probe_Find_ok hx (keys.getD i 0) with ⟨j, h0, h1, v, e, f⟩ | ⟨n, f⟩
        · rw [f, ob, bne_neg rfl]
          by_cases q : Z (cl x j).2.1 = (i : Int)
          · rw [bne_neg q, bd_pos (by omega)]
            rcases bucket_says _ hbi with ⟨ok, g⟩ | ⟨ok, g⟩
            · rw [g, ob, bne_neg rfl, table_Check.L11_eq, W_eq (by omega) (by omega), W_eq (by omega) (by omega), cast_add1, cast_add1]
              exact .inl ⟨⟨⟨fun _ => m, fun _ => u⟩, fun h => (by rw [u] at h; cases h), fun _ => ⟨⟨j, h0, h1, v, e, q⟩, ok⟩⟩, rfl⟩
            · rw [g, ob, bne_pos (by decide)]
              exact .inr ⟨fun h => ok (h.2.2 u).2, rfl⟩
          · rw [bne_pos q]
            refine .inr ⟨fun h => ?_, rfl⟩
            obtain ⟨⟨k, a, b, c, d, g⟩, _⟩ := h.2.2 u
            exact q (by rw [hx.uniq j k h0 h1 a b v c (e.trans d.symm)]; exact g)
        · rw [f, ob, bne_pos (by decide)]
          refine .inr ⟨fun h => ?_, rfl⟩
          obtain ⟨⟨k, a, b, c, d, g⟩, _⟩ := h.2.2 u
          exact n k a b ⟨c, d⟩
      · rw [decide_eq_false m]
        exact .inr ⟨fun h => m (h.1.1 u), rfl⟩
    · have uf := bool_not u
      rw [if_neg u]
      rw [uf]
      by_cases m : (i : Int) ∈ l
      · rw [decide_eq_true m]
        exact .inr ⟨fun h => u (h.1.2 m), rfl⟩
      · rw [decide_eq_false m, bnt (b := false == false) rfl, bnf rfl, bd_pos (by omega)]
        by_cases k0 : keys.getD i 0 = 0
        · rw [bne_neg k0, bd_pos (by omega)]
          by_cases z : bks.getD i b0_ = b0_
          · rw [nbeq_neg z, table_Check.L9_eq, bnf rfl, W_eq (by omega) (by omega), cast_add1]
            exact .inl ⟨⟨⟨fun h => absurd h u, fun h => absurd h m⟩, fun _ => ⟨k0, z⟩, fun h => absurd h u⟩, rfl⟩
          · rw [nbeq_pos z]
            exact .inr ⟨fun h => z (h.2.1 uf).2, rfl⟩
        · rw [bne_pos k0]
          exact .inr ⟨fun h => k0 (h.2.1 uf).1, rfl⟩) with ⟨a, e⟩ | ⟨a, e⟩
  · have e2 : table_Check.L3 0 used (used.length : Int) 0 cap keys bks next free x prev nxt head tail l = table_Check.L3 (((used.take used.length).countP id : Nat) : Int) used (used.length : Int) (used.length : Int) cap keys bks next free x prev nxt head tail l := e
    have hle := count_le used used.length
    rw [List.take_of_length_le (Nat.le_refl _)] at e2 hle
    rw [e2, table_Check.L3_eq, bd_neg (by omega)]
    exact (table_l5 hx16 (used.countP id) (by omega)).congr ⟨fun h => ⟨a, h⟩, fun h => h.2⟩
  · exact .inr ⟨fun h => a h.1, e⟩
theorem table_says (t : t5.den) (hw : ∀ c ∈ t.2.2.1, Z c.2.1 ≤ 9223372036854775807) : Says (TOk t) (table_Check.F t) := by
  obtain ⟨cap, keys, bks, ⟨next, used, free, ⟨⟩⟩, x, ⟨prev, nxt, head, tail, ⟨⟩⟩, ⟨⟩⟩ := t
  rw [table_Check.F_eq]
  dsimp only at hw ⊢
  refine Says.congr (P := ¬ (Z cap < 1) ∧ ¬ (Z cap > 8) ∧ (([(keys.length : Int), (bks.length : Int), (next.length : Int), (prev.length : Int)] : List Int) = [cap, cap, cap, cap]) ∧ AOk next used free ∧ POk x ∧ ∃ l, OGood prev nxt head tail l ∧ (∀ i, i < used.length → RowOk keys bks used x l i) ∧ used.countP id = cnt x) ?_ ?_
  · refine .guard fun c0 => .guard fun c1 => .same (t := .arr 4 (.int .i64)) fun hs => ?_
    have c0 : ¬ Z cap < 1 := c0
    have c1 : ¬ Z cap > 8 := c1
    have hs : [(keys.length : Int), (bks.length : Int), (next.length : Int), (prev.length : Int)] = [Z cap, Z cap, Z cap, Z cap] := hs
    simp only [List.cons.injEq, and_true] at hs
    obtain ⟨s1, s2, s3, s4⟩ := hs
    refine (arena_says next used free).call (fun ha => ?_) rfl
    rw [bne_neg rfl]
    refine (probe_says x).call (fun hp => ?_) rfl
    rw [bne_neg rfl, table_Check.L1_eq]
    have hlen : used.length = next.length := by obtain ⟨_, g⟩ := ha; exact g.same
    by_cases ho : OOk prev nxt head tail
    · obtain ⟨l, g⟩ := ho
      rw [lru_List_ok g, ob, bne_neg rfl, table_Check.L2_eq]
      have hs := g.short
      refine (table_l3 (cap := cap) (next := next) (free := free) (prev := prev) (nxt := nxt) (head := head) (tail := tail) (by omega) (by omega) (by omega) hp hs hw).congr ⟨fun h => ⟨l, g, h⟩, fun ⟨l', g', h⟩ => ?_⟩
      obtain rfl := g.det g'
      exact h
    · rw [lru_List_no ho, ob, bne_pos (by decide)]
      exact .inr ⟨fun ⟨l, g, _⟩ => ho ⟨l, g⟩, rfl⟩
  · constructor
    · rintro ⟨c0, c1, hs, ha, hp, l, g, hr, hc⟩
      simp only [List.cons.injEq, and_true] at hs
      obtain ⟨s1, s2, s3, s4⟩ := hs
      exact ⟨l, Int.not_lt.1 c0, Int.not_lt.1 c1, s1, s2, s3, s4, ha, hp, g, hr, hc⟩
    · rintro ⟨l, g⟩
      have h1 := g.low
      have h2 := g.high
      refine ⟨Int.not_lt.2 h1, Int.not_lt.2 h2, ?_, g.arena, g.index, l, g.order, g.row, g.count⟩
      rw [g.nkeys, g.nbks, g.nnext, g.nprev]
end Go.Proofs.Ytkihjakbbcajbaa.TB
