/- Putting into the index, and dropping out of it: what a valid index has afterwards. -/
import Derived.Test.YtecbgbfegpnilaaTbN
namespace Go.Proofs.Ytecbgbfegpnilaa.TB
set_option linter.unusedSimpArgs false
set_option linter.unusedVariables false
open Go Go.Proofs Go.Proofs.Ytecbgbfegpnilaa.PM Go.Proofs.Ytecbgbfegpnilaa.RP
theorem rdc_set {l : List t3.den} {i j : Int} {v : t3.den} (h0 : 0 ≤ i) (h1 : i < l.length) (h2 : 0 ≤ j) : cl (l.set i.toNat v) j = if i = j then v else cl l j := by
  unfold cl
  simp only [List.getD_eq_getElem?_getD, List.getElem?_set]
  by_cases e : i = j
  · subst e; rw [if_pos rfl, if_pos rfl, if_pos (by omega)]; rfl
  · rw [if_neg (by omega), if_neg e]

/-! ### how many cells are used -/
theorem cnt_range {x : List t3.den} (hx : x.length = 16) : cnt x = ((List.range 16).filter (fun i : Nat => (cl x (i : Int)).2.2.1)).length := by
  have e : x = (List.range 16).map (fun i : Nat => cl x (i : Int)) := by
    apply List.ext_getElem
    · simp [hx]
    · intro i h1 h2
      simp only [List.getElem_map, List.getElem_range]; exact (cl_get h1).symm
  unfold cnt
  rw [← List.countP_eq_length_filter]
  conv => lhs; rw [e]
  rw [List.countP_map]; rfl

theorem used_le {x : List t3.den} (hx : x.length = 16) {h : Int} {D : Nat} (hD : D ≤ 16) (hu : ∀ e : Nat, e < D → (cl x ((h + e) % 16)).2.2.1 = true) : D ≤ cnt x := by
  rw [cnt_range hx]
  have n : ((List.range D).map (fun e : Nat => ((h + (e : Int)) % 16).toNat)).Nodup := by
    rw [List.Nodup, List.pairwise_map]
    refine List.Pairwise.imp_of_mem ?_ (List.pairwise_lt_range (n := D))
    intro a b ha hb hab
    rw [List.mem_range] at ha hb
    omega
  have s : ((List.range D).map (fun e : Nat => ((h + (e : Int)) % 16).toNat)) ⊆ ((List.range 16).filter (fun i : Nat => (cl x (i : Int)).2.2.1)) := by
    intro y hy
    obtain ⟨e, he, rfl⟩ := List.mem_map.1 hy
    rw [List.mem_range] at he
    rw [List.mem_filter, List.mem_range]
    refine ⟨by omega, ?_⟩
    rw [Int.toNat_of_nonneg (by omega)]; exact hu e he
  have := List.Nodup.length_le_of_subset n s
  simpa using this

theorem cnt_set {x : List t3.den} {i : Int} {v : t3.den} (h0 : 0 ≤ i) (h1 : i < x.length) : cnt (x.set i.toNat v) + (if (cl x i).2.2.1 = true then 1 else 0) = cnt x + (if v.2.2.1 = true then 1 else 0) := by
  have hi : i.toNat < x.length := by omega
  have g : cl x i = x[i.toNat] := by
    have := cl_get hi
    rwa [Int.toNat_of_nonneg h0] at this
  unfold cnt
  rw [List.countP_set hi, g]
  by_cases u : x[i.toNat].2.2.1 = true
  · have : 0 < x.countP (·.2.2.1) := List.countP_pos_iff.2 ⟨x[i.toNat], List.getElem_mem _, u⟩
    rw [if_pos u]; omega
  · rw [if_neg u]; omega

/-- The cells after the hole i is filled from the n used cells from j on, and cleared. -/
noncomputable def fill : Nat → Int → List t3.den → Int → List t3.den
  | 0, i, p, _ => p.set i.toNat c0_
  | n + 1, i, p, j => if (hm (cl p j).1 - i - 1) % 16 ≥ (j - i) % 16 then fill n j (p.set i.toNat (cl p j)) ((j + 1) % 16) else fill n i p ((j + 1) % 16)
/-- n used cells from j on, an unused one behind them, and the hole i ahead of them. -/
structure Run (p : List t3.den) (i j : Int) (n : Nat) : Prop where
  len : p.length = 16
  i0 : 0 ≤ i
  i1 : i < 16
  j0 : 0 ≤ j
  j1 : j < 16
  ahead : 1 ≤ (j - i) % 16
  fits : (j - i) % 16 + n < 16
  used : ∀ e : Nat, e < n → (cl p ((j + e) % 16)).2.2.1 = true
  last : (cl p ((j + n) % 16)).2.2.1 = false

theorem Run.next {p : List t3.den} {i j : Int} {n : Nat} (h : Run p i j (n + 1)) : Run p i ((j + 1) % 16) n := by
  obtain ⟨a, b, c, d, e, f, g, u, l⟩ := h
  refine ⟨a, b, c, by omega, by omega, by omega, by omega, ?_, ?_⟩
  · intro m hm
    have := u (m + 1) (by omega)
    rw [show (((j + 1) % 16 + (m : Int)) % 16) = (j + ((m + 1 : Nat) : Int)) % 16 by omega]; exact this
  · rw [show (((j + 1) % 16 + (n : Int)) % 16) = (j + ((n + 1 : Nat) : Int)) % 16 by omega]; exact l
theorem Run.move {p : List t3.den} {i j : Int} {n : Nat} (h : Run p i j (n + 1)) : Run (p.set i.toNat (cl p j)) j ((j + 1) % 16) n := by
  obtain ⟨a, b, c, d, e, f, g, u, l⟩ := h
  refine ⟨by simpa using a, d, e, by omega, by omega, by omega, by omega, ?_, ?_⟩
  · intro m hm
    have := u (m + 1) (by omega)
    rw [show (((j + 1) % 16 + (m : Int)) % 16) = (j + ((m + 1 : Nat) : Int)) % 16 by omega, rdc_set b (by omega) (by omega), if_neg (by omega)]; exact this
  · rw [show (((j + 1) % 16 + (n : Int)) % 16) = (j + ((n + 1 : Nat) : Int)) % 16 by omega, rdc_set b (by omega) (by omega), if_neg (by omega)]; exact l

theorem drop_l3 (n : Nat) : ∀ (p : List t3.den) (i j : Int), Run p i j n → probe_Drop.L3 i j p = some (fill n i p j, 0, ()) := by
  induction n with
  | zero =>
    intro p i j h
    obtain ⟨a, b, c, d, e, f, g, u, l⟩ := h
    rw [show (j + ((0 : Nat) : Int)) % 16 = j by omega] at l
    rw [probe_Drop.L3_eq, bd_pos (by omega), bf l, bd_pos (by omega)]
    rfl
  | succ n ih =>
    intro p i j h
    have hn := h.next
    have hmv := h.move
    obtain ⟨a, b, c, d, e, f, g, u, l⟩ := h
    have hr := hm_range (cl p j).1
    have u0 := u 0 (by omega)
    rw [show (j + ((0 : Nat) : Int)) % 16 = j by omega] at u0
    rw [fill, probe_Drop.L3_eq, bd_pos (by omega), bt u0, probe_Drop.L4_eq, W_eq (x := j - i) (by omega) (by omega), wrap_f (by omega) (by omega), ob, bd_pos (by omega), home_f, ob]
    dsimp only
    rw [W_eq (x := hm (cl p j).1 - i) (by omega) (by omega), W_eq (x := hm (cl p j).1 - i - 1) (by omega) (by omega), wrap_f (by omega) (by omega), ob]
    by_cases t : (hm (cl p j).1 - i - 1) % 16 ≥ (j - i) % 16
    · rw [if_pos t, bd_pos t, bd_pos (by omega), bd_pos (by omega), probe_Drop.L5_eq, W_eq (by omega) (by omega), wrap_f (by omega) (by omega), ob]
      exact ih _ _ _ hmv
    · rw [if_neg t, bd_neg t, probe_Drop.L5_eq, W_eq (by omega) (by omega), wrap_f (by omega) (by omega), ob]
      exact ih _ _ _ hn
/-- From a used cell of a valid index on there is a run. -/
theorem run_ex {x : List t3.den} (hx : x.length = 16) (hc : cnt x ≤ 12) {i : Int} (h0 : 0 ≤ i) (h1 : i < 16) (hu : (cl x i).2.2.1 = true) : ∃ n, Run x i ((i + 1) % 16) n := by
  obtain ⟨f, f0, f1, fu⟩ := free_ex hx hc
  have hne : f ≠ i := fun e => by rw [e, hu] at fu; exact absurd fu (by simp)
  obtain ⟨d, hd, hp, hq⟩ := first_ex (fun d : Nat => (cl x (((i + 1) % 16 + (d : Int)) % 16)).2.2.1 = false) ((f - i - 1) % 16).toNat (by
    rw [show ((i + 1) % 16 + ((((f - i - 1) % 16).toNat : Nat) : Int)) % 16 = f by omega]; exact fu)
  exact ⟨d, hx, h0, h1, by omega, by omega, by omega, by omega, fun e he => by simpa using hq e he, hp⟩

/-- The index has the key with the place. -/
def Has (x : List t3.den) (key place : Int) : Prop := ∃ m : Int, 0 ≤ m ∧ m < 16 ∧ (cl x m).2.2.1 = true ∧ (cl x m).1 = key ∧ (cl x m).2.1 = place
/-- The same but for the cell i. -/
def HasBut (x : List t3.den) (i key place : Int) : Prop := ∃ m : Int, 0 ≤ m ∧ m < 16 ∧ m ≠ i ∧ (cl x m).2.2.1 = true ∧ (cl x m).1 = key ∧ (cl x m).2.1 = place

theorem has_place {x : List t3.den} (h : POk x) {key place : Int} (hh : Has x key place) : 0 ≤ place ∧ place < 16 := by
  obtain ⟨m, a, b, u, _, e⟩ := hh
  rw [← e]; exact h.place m a b u
theorem has_one {x : List t3.den} (h : POk x) {key p q : Int} (hp : Has x key p) (hq : Has x key q) : p = q := by
  obtain ⟨m, a, b, u, e, f⟩ := hp
  obtain ⟨m', a', b', u', e', f'⟩ := hq
  have := h.uniq m m' a b a' b' u u' (by rw [e, e'])
  subst this; rw [← f, ← f']

/-- Filling, part by part: the hole i counts as used. -/
structure Inv (p : List t3.den) (i j : Int) (n : Nat) : Prop where
  run : Run p i j n
  iu : (cl p i).2.2.1 = true
  few : cnt p ≤ 12
  zero : ∀ m : Int, 0 ≤ m → m < 16 → (cl p m).2.2.1 = false → cl p m = (0, 0, false, ())
  place : ∀ m : Int, 0 ≤ m → m < 16 → m ≠ i → (cl p m).2.2.1 = true → 0 ≤ Z (cl p m).2.1 ∧ Z (cl p m).2.1 < 16
  uniq : ∀ m m' : Int, 0 ≤ m → m < 16 → m ≠ i → 0 ≤ m' → m' < 16 → m' ≠ i → (cl p m).2.2.1 = true → (cl p m').2.2.1 = true → (cl p m).1 = (cl p m').1 → m = m'
  path : ∀ m : Int, 0 ≤ m → m < 16 → m ≠ i → (cl p m).2.2.1 = true → ∀ e : Nat, (e : Int) < (m - hm (cl p m).1) % 16 → (cl p ((hm (cl p m).1 + e) % 16)).2.2.1 = true
  later : ∀ m : Int, 0 ≤ m → m < 16 → m ≠ i → (cl p m).2.2.1 = true → (i - hm (cl p m).1) % 16 < (m - hm (cl p m).1) % 16 → (j - i) % 16 ≤ (m - i) % 16

theorem fill_ok (n : Nat) : ∀ (p : List t3.den) (i j : Int), Inv p i j n →
    POk (fill n i p j) ∧ (∀ key place, Has (fill n i p j) key place ↔ HasBut p i key place) ∧ cnt (fill n i p j) + 1 = cnt p := by
  induction n with
  | zero =>
    intro p i j v
    obtain ⟨a, b, c, d, e, f, g, u, l⟩ := v.run
    rw [show (j + ((0 : Nat) : Int)) % 16 = j by omega] at l
    have rs : ∀ m : Int, 0 ≤ m → cl (p.set i.toNat c0_) m = if i = m then c0_ else cl p m := fun m m0 => rdc_set b (by omega) m0
    have cs := cnt_set (x := p) (v := c0_) b (by omega)
    rw [if_pos v.iu, if_neg (by decide)] at cs
    rw [fill]
    have few := v.few
    refine ⟨?_, ?_, by omega⟩
    · constructor
      · simpa using a
      · omega
      · intro m m0 m1 hu
        rw [rs m m0] at hu ⊢
        by_cases q : i = m
        · rw [if_pos q]
        · rw [if_neg q] at hu ⊢; exact v.zero m m0 m1 hu
      · intro m m0 m1 hu
        rw [rs m m0] at hu ⊢
        by_cases q : i = m
        · rw [if_pos q] at hu; exact absurd hu (by decide)
        · rw [if_neg q] at hu ⊢; exact v.place m m0 m1 (fun z => q z.symm) hu
      · intro m m' m0 m1 m0' m1' hu hu' hk
        rw [rs m m0] at hu hk
        rw [rs m' m0'] at hu' hk
        by_cases q : i = m
        · rw [if_pos q] at hu; exact absurd hu (by decide)
        · by_cases q' : i = m'
          · rw [if_pos q'] at hu'; exact absurd hu' (by decide)
          · rw [if_neg q] at hu hk; rw [if_neg q'] at hu' hk
            exact v.uniq m m' m0 m1 (fun z => q z.symm) m0' m1' (fun z => q' z.symm) hu hu' hk
      · intro m m0 m1 hu t ht
        rw [rs m m0] at hu ht ⊢
        by_cases q : i = m
        · rw [if_pos q] at hu; exact absurd hu (by decide)
        · rw [if_neg q] at hu ht ⊢
          have hr := hm_range (cl p m).1
          rw [rs _ (by omega)]
          by_cases q2 : i = (hm (cl p m).1 + (t : Int)) % 16
          · exfalso
            have hl := v.later m m0 m1 (fun z => q z.symm) hu (by omega)
            have hne : m ≠ j := fun z => by rw [z, l] at hu; exact absurd hu (by simp)
            have := v.path m m0 m1 (fun z => q z.symm) hu ((j - hm (cl p m).1) % 16).toNat (by omega)
            rw [show (hm (cl p m).1 + (((j - hm (cl p m).1) % 16).toNat : Int)) % 16 = j by omega, l] at this
            exact absurd this (by simp)
          · rw [if_neg q2]
            exact v.path m m0 m1 (fun z => q z.symm) hu t ht
    · intro key place
      constructor
      · rintro ⟨m, m0, m1, hu, hk, hp⟩
        rw [rs m m0] at hu hk hp
        by_cases q : i = m
        · rw [if_pos q] at hu; exact absurd hu (by decide)
        · rw [if_neg q] at hu hk hp; exact ⟨m, m0, m1, fun z => q z.symm, hu, hk, hp⟩
      · rintro ⟨m, m0, m1, hne, hu, hk, hp⟩
        refine ⟨m, m0, m1, ?_⟩
        rw [rs m m0, if_neg (fun z => hne z.symm)]; exact ⟨hu, hk, hp⟩
  | succ n ih =>
    intro p i j v
    have hn := v.run.next
    have hmv := v.run.move
    obtain ⟨a, b, c, d, e, f, g, u, l⟩ := v.run
    have hr := hm_range (cl p j).1
    have u0 := u 0 (by omega)
    rw [show (j + ((0 : Nat) : Int)) % 16 = j by omega] at u0
    have hij : j ≠ i := by omega
    rw [fill]
    by_cases t : (hm (cl p j).1 - i - 1) % 16 ≥ (j - i) % 16
    · rw [if_pos t]
      have rs : ∀ m : Int, 0 ≤ m → cl (p.set i.toNat (cl p j)) m = if i = m then cl p j else cl p m := fun m m0 => rdc_set b (by omega) m0
      have fl : ∀ m : Int, 0 ≤ m → (cl (p.set i.toNat (cl p j)) m).2.2.1 = (cl p m).2.2.1 := by
        intro m m0
        rw [rs m m0]
        by_cases q : i = m
        · rw [if_pos q, u0, ← q, v.iu]
        · rw [if_neg q]
      have cs := cnt_set (x := p) (v := cl p j) b (by omega)
      rw [if_pos v.iu, if_pos u0] at cs
      have v' : Inv (p.set i.toNat (cl p j)) j ((j + 1) % 16) n := by
        refine ⟨hmv, by rw [fl j d]; exact u0, by have := v.few; omega, ?_, ?_, ?_, ?_, ?_⟩
        · intro m m0 m1 hu
          have hu2 := hu
          rw [fl m m0] at hu2
          rw [rs m m0]
          by_cases q : i = m
          · rw [← q, v.iu] at hu2; exact absurd hu2 (by simp)
          · rw [if_neg q]; exact v.zero m m0 m1 hu2
        · intro m m0 m1 hne hu
          rw [fl m m0] at hu
          rw [rs m m0]
          by_cases q : i = m
          · rw [if_pos q]; exact v.place j d e hij u0
          · rw [if_neg q]; exact v.place m m0 m1 (fun z => q z.symm) hu
        · intro m m' m0 m1 hne m0' m1' hne' hu hu' hk
          rw [fl m m0] at hu
          rw [fl m' m0'] at hu'
          rw [rs m m0, rs m' m0'] at hk
          by_cases q : i = m
          · by_cases q' : i = m'
            · omega
            · rw [if_pos q, if_neg q'] at hk
              exact absurd (v.uniq j m' d e hij m0' m1' (fun z => q' z.symm) u0 hu' hk).symm hne'
          · by_cases q' : i = m'
            · rw [if_neg q, if_pos q'] at hk
              exact absurd (v.uniq m j m0 m1 (fun z => q z.symm) d e hij hu u0 hk) hne
            · rw [if_neg q, if_neg q'] at hk
              exact v.uniq m m' m0 m1 (fun z => q z.symm) m0' m1' (fun z => q' z.symm) hu hu' hk
        · intro m m0 m1 hne hu s hs
          rw [fl m m0] at hu
          rw [rs m m0] at hs ⊢
          by_cases q : i = m
          · rw [if_pos q] at hs ⊢
            rw [fl _ (by omega)]
            exact v.path j d e hij u0 s (by omega)
          · rw [if_neg q] at hs ⊢
            have hr2 := hm_range (cl p m).1
            rw [fl _ (by omega)]
            exact v.path m m0 m1 (fun z => q z.symm) hu s hs
        · intro m m0 m1 hne _ _
          omega
      obtain ⟨w1, w2, w3⟩ := ih _ _ _ v'
      refine ⟨w1, fun key place => (w2 key place).trans ?_, by omega⟩
      constructor
      · rintro ⟨m, m0, m1, hne, hu, hk, hp⟩
        rw [rs m m0] at hu hk hp
        by_cases q : i = m
        · rw [if_pos q] at hu hk hp; exact ⟨j, d, e, hij, hu, hk, hp⟩
        · rw [if_neg q] at hu hk hp; exact ⟨m, m0, m1, fun z => q z.symm, hu, hk, hp⟩
      · rintro ⟨m, m0, m1, hne, hu, hk, hp⟩
        by_cases q : m = j
        · refine ⟨i, b, c, fun z => hij z.symm, ?_⟩
          rw [rs i b, if_pos rfl, ← q]; exact ⟨hu, hk, hp⟩
        · refine ⟨m, m0, m1, q, ?_⟩
          rw [rs m m0, if_neg (fun z => hne z.symm)]; exact ⟨hu, hk, hp⟩
    · rw [if_neg t]
      refine ih _ _ _ ⟨hn, v.iu, v.few, v.zero, v.place, v.uniq, v.path, ?_⟩
      intro m m0 m1 hne hu hlt
      have h1 := v.later m m0 m1 hne hu hlt
      have hne2 : m ≠ j := by
        intro z
        subst z
        omega
      omega

theorem inv_start {x : List t3.den} (h : POk x) {i : Int} (h0 : 0 ≤ i) (h1 : i < 16) (hu : (cl x i).2.2.1 = true) {n : Nat} (hr : Run x i ((i + 1) % 16) n) : Inv x i ((i + 1) % 16) n where
  run := hr
  iu := hu
  few := h.few
  zero := h.zero
  place m m0 m1 _ u := h.place m m0 m1 u
  uniq m m' m0 m1 _ m0' m1' _ u u' hk := h.uniq m m' m0 m1 m0' m1' u u' hk
  path m m0 m1 _ u := h.path m m0 m1 u
  later m m0 m1 hne _ _ := by omega

/-- Dropping a key that is there. -/
theorem probe_Drop_ok {x : List t3.den} (h : POk x) {key place : Int} (hh : Has x key place) :
    ∃ z, probe_Drop.F x key = some (z, 0, ()) ∧ POk z ∧ (∀ k p, Has z k p ↔ Has x k p ∧ k ≠ key) ∧ cnt z + 1 = cnt x := by
  obtain ⟨m, m0, m1, hu, hk, hp⟩ := hh
  obtain ⟨d, hd, ho, hq, hl, hc⟩ := found h key
  have hx := h.len
  have hr0 := hm_range key
  rcases hc with ⟨u, e⟩ | ⟨_, hn⟩
  · obtain ⟨n, hr⟩ := run_ex h.len h.few (i := (hm key + d) % 16) (by omega) (by omega) u
    have ev := drop_l3 n _ _ _ hr
    obtain ⟨w1, w2, w3⟩ := fill_ok n _ _ _ (inv_start h (by omega) (by omega) u hr)
    refine ⟨_, ?_, w1, fun k p => (w2 k p).trans ?_, w3⟩
    · rw [probe_Drop.F_eq, (probe_says x).yes h, ob, bne_neg rfl, probe_Drop.L1_eq, hl, ob, bd_pos (by dsimp only; omega), bnt u, probe_Drop.L2_eq, lim_small (by decide) (by omega)]
      dsimp only
      rw [W_eq (by omega) (by omega), wrap_f (by omega) (by omega), ob, ev]
    constructor
    · rintro ⟨c, c0, c1, cne, cu, ck, cp⟩
      refine ⟨⟨c, c0, c1, cu, ck, cp⟩, fun z => cne ?_⟩
      exact h.uniq c _ c0 c1 (by omega) (by omega) cu u (by rw [ck, z, e])
    · rintro ⟨⟨c, c0, c1, cu, ck, cp⟩, hne⟩
      refine ⟨c, c0, c1, fun z => hne ?_, cu, ck, cp⟩
      rw [← ck, z, e]
  · exact absurd ⟨hu, hk⟩ (hn m m0 m1)
theorem find_has {x : List t3.den} (h : POk x) {key place : Int} (hh : Has x key place) : probe_Find.F x key = some (place, 0, ()) := by
  rcases probe_Find_ok h key with ⟨i, i0, i1, u, e, f⟩ | ⟨n, _⟩
  · rw [f, has_one h (p := (cl x i).2.1) ⟨i, i0, i1, u, e, rfl⟩ hh]
  · obtain ⟨m, m0, m1, mu, mk, _⟩ := hh
    exact absurd ⟨mu, mk⟩ (n m m0 m1)
theorem find_none {x : List t3.den} (h : POk x) {key : Int} (hh : ∀ p, ¬ Has x key p) : probe_Find.F x key = some (0, 6, ()) := by
  rcases probe_Find_ok h key with ⟨i, i0, i1, u, e, f⟩ | ⟨n, f⟩
  · exact absurd ⟨i, i0, i1, u, e, rfl⟩ (hh _)
  · exact f
theorem put_l4 {x : List t3.den} (hx : x.length = 16) {key place pos : Int} (p0 : 0 ≤ pos) (p1 : pos < 16) (hc : cnt x < 12) : probe_Put.L3 x key place pos = some (x.set pos.toNat (key, place, true, ()), 0, ()) := by
  have h2 := loop_go (n := x.length) (L := fun i => probe_Put.L4 x key place pos (((x.take i).countP (·.2.2.1) : Nat) : Int) (x.length : Int) (i : Int)) (fun i hi => by
    have hle := cnt_le x i
    try dsimp only
    rw [probe_Put.L4_eq, bd_pos (by omega), probe_Put.L5_eq, bd_pos (by omega), take_cnt hi]
    by_cases u : (cl x (i : Int)).2.2.1 = true
    · rw [bt u, if_pos u, probe_Put.L7_eq, W_eq (by omega) (by omega), W_eq (by omega) (by omega), cast_add1, cast_add1]
    · rw [bf (bool_not u), if_neg u, probe_Put.L7_eq, W_eq (x := (i : Int) + 1) (by omega) (by omega), cast_add1]; rfl)
  try dsimp only at h2
  rw [List.take_of_length_le (Nat.le_refl _)] at h2
  have h3 : probe_Put.L4 x key place pos 0 (x.length : Int) 0 = probe_Put.L4 x key place pos (cnt x : Int) (x.length : Int) (x.length : Int) := h2
  rw [probe_Put.L3_eq, h3, probe_Put.L4_eq, bd_neg (by omega), bd_neg (by omega), probe_Put.L6_eq, lim_small (by decide) (by omega), bd_pos (by omega)]
/-- Put on a valid index: what it answers by the keys that are there. -/
theorem probe_Put_ok {x : List t3.den} (h : POk x) {key place : Int} (hn : ∀ p, ¬ Has x key p) (p0 : 0 ≤ place) (p1 : place < 16) (hc : cnt x < 12) :
    ∃ y, probe_Put.F x key place = some (y, 0, ()) ∧ POk y ∧ (∀ k p, Has y k p ↔ Has x k p ∨ (k = key ∧ p = place)) ∧ cnt y = cnt x + 1 := by
  have hl := h.len
  have hr := hm_range key
  obtain ⟨d, hd, ho, hq, hlk, hw⟩ := found h key
  rcases hw with ⟨u, e⟩ | ⟨u, hno⟩
  · exact absurd ⟨(hm key + d) % 16, by omega, by omega, u, e, rfl⟩ (hn (cl x ((hm key + d) % 16)).2.1)
  have ev : probe_Put.F x key place = some (x.set ((hm key + d) % 16).toNat (key, place, true, ()), 0, ()) := by
    rw [probe_Put.F_eq, (probe_says x).yes h, ob, bne_neg rfl, probe_Put.L1_eq, bd_neg (by omega), bd_neg (by omega), probe_Put.L2_eq, hlk, ob, bd_pos (by dsimp only; omega), bf u]
    exact put_l4 hl (by omega) (by omega) hc
  generalize hpos : (hm key + (d : Int)) % 16 = pos at ev u
  have q0 : 0 ≤ pos := by omega
  have q1 : pos < 16 := by omega
  have rs : ∀ m : Int, 0 ≤ m → cl (x.set pos.toNat (key, place, true, ())) m = if pos = m then (key, place, true, ()) else cl x m := fun m m0 => rdc_set q0 (by omega) m0
  have cs := cnt_set (x := x) (v := (key, place, true, ())) q0 (by omega)
  rw [if_neg (by rw [u]; simp), if_pos rfl] at cs
  have up : ∀ m : Int, 0 ≤ m → (cl x m).2.2.1 = true → (cl (x.set pos.toNat (key, place, true, ())) m).2.2.1 = true := by
    intro m m0 hu
    rw [rs m m0]
    by_cases q : pos = m
    · rw [if_pos q]
    · rw [if_neg q]; exact hu
  refine ⟨_, ev, ⟨by simpa using hl, by omega, ?_, ?_, ?_, ?_⟩, ?_, by omega⟩
  · intro m m0 m1 hu
    rw [rs m m0] at hu ⊢
    by_cases q : pos = m
    · rw [if_pos q] at hu; exact absurd hu (by simp)
    · rw [if_neg q] at hu ⊢; exact h.zero m m0 m1 hu
  · intro m m0 m1 hu
    rw [rs m m0] at hu ⊢
    by_cases q : pos = m
    · rw [if_pos q]; exact ⟨p0, p1⟩
    · rw [if_neg q] at hu ⊢; exact h.place m m0 m1 hu
  · intro m m' m0 m1 m0' m1' hu hu' hk
    rw [rs m m0] at hu hk
    rw [rs m' m0'] at hu' hk
    by_cases q : pos = m
    · by_cases q' : pos = m'
      · omega
      · rw [if_pos q, if_neg q'] at hk
        rw [if_neg q'] at hu'
        exact absurd ⟨hu', hk.symm⟩ (hno m' m0' m1')
    · by_cases q' : pos = m'
      · rw [if_neg q, if_pos q'] at hk
        rw [if_neg q] at hu
        exact absurd ⟨hu, hk⟩ (hno m m0 m1)
      · rw [if_neg q] at hu hk; rw [if_neg q'] at hu' hk
        exact h.uniq m m' m0 m1 m0' m1' hu hu' hk
  · intro m m0 m1 hu s hs
    rw [rs m m0] at hu hs ⊢
    by_cases q : pos = m
    · rw [if_pos q] at hs ⊢
      refine up _ (by omega) (ho s ?_).1
      have : (s : Int) < (m - hm key) % 16 := hs
      omega
    · rw [if_neg q] at hu hs ⊢
      have hr2 := hm_range (cl x m).1
      exact up _ (by omega) (h.path m m0 m1 hu s hs)
  · intro k p
    constructor
    · rintro ⟨m, m0, m1, hu, hk, hp⟩
      rw [rs m m0] at hu hk hp
      by_cases q : pos = m
      · rw [if_pos q] at hk hp; exact Or.inr ⟨hk.symm, hp.symm⟩
      · rw [if_neg q] at hu hk hp; exact Or.inl ⟨m, m0, m1, hu, hk, hp⟩
    · rintro (⟨m, m0, m1, hu, hk, hp⟩ | ⟨hk, hp⟩)
      · refine ⟨m, m0, m1, ?_⟩
        rw [rs m m0, if_neg (fun z => by rw [← z, u] at hu; exact absurd hu (by simp))]
        exact ⟨hu, hk, hp⟩
      · refine ⟨pos, q0, q1, ?_⟩
        rw [rs pos q0, if_pos rfl]
        exact ⟨rfl, hk.symm, hp.symm⟩

theorem keys_of {x : List t3.den} (h : POk x) (hk : ∀ k p, Has x k p → 0 ≤ k ∧ k < 4294967296) : ∀ i : Int, 0 ≤ i → i < x.length → 0 ≤ Z (cl x i).1 ∧ Z (cl x i).1 < 4294967296 := by
  intro i i0 i1
  have hl := h.len
  by_cases u : (cl x i).2.2.1 = true
  · exact hk _ _ ⟨i, i0, by omega, u, rfl, rfl⟩
  · rw [h.zero i i0 (by omega) (bool_not u)]; decide
end Go.Proofs.Ytecbgbfegpnilaa.TB
