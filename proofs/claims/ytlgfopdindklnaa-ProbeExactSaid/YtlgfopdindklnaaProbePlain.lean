/- What the printed functions of the probe come to: homes, looking, valid indices; Check, Find, Steps, Put on both sides. -/
import Derived.Test.YtlgfopdindklnaaPProbex0
import Derived.Test.YtlgfopdindklnaaPProbex2
import Derived.Test.YtlgfopdindklnaaPProbex3
import Derived.Test.YtlgfopdindklnaaPProbex4
import Derived.Test.YtlgfopdindklnaaPProbex5
import Derived.Test.YtlgfopdindklnaaPProbex6
import Derived.Test.YtlgfopdindklnaaPProbex7
import Derived.Test.YtlgfopdindklnaaPProbex8
namespace Go.Proofs.Ytlgfopdindklnaa.ProbePlain
open Go.RowKit Go.Proofs.Ytlgfopdindklnaa.PProbe Go.Proofs.YtlgfopdindklnaaW.PrintWords Go.Proofs.YtlgfopdindklnaaW.PrintLast

theorem Ev.succ {α : Type} {g : Nat → Option α} {r : α} (K : Nat) (h : ∀ k, K ≤ k → g (k + 1) = some r) : Ev g r := ⟨K + 1, fun k hk => by
  obtain ⟨m, rfl⟩ : ∃ m, k = m + 1 := ⟨k - 1, by omega⟩
  exact h m (by omega)⟩
theorem Ev.get {α : Type} {g : Nat → Option α} {r : α} (h : Ev g r) : ∃ K, ∀ k, K ≤ k → g k = some r := h

theorem w0 {i : Int} (h0 : -1000000 ≤ i) (h1 : i ≤ 1000000) : wrap64 i = i := by unfold wrap64; omega
theorem u32_wf {x : Int} (h : (Lit.int .u32 x).wf = true) : 0 ≤ x ∧ x < 4294967296 := by
  simp only [Lit.wf, Bool.and_eq_true, decide_eq_true_eq] at h
  have a : IntKind.u32.min = 0 := by decide
  have b : IntKind.u32.max = 4294967295 := by decide
  omega

theorem and15_fin : ∀ n : Fin 81, Go.bits .and .i64 ((n.val : Int) - 40) 15 = ((n.val : Int) - 40) % 16 := by decide +kernel
theorem wrap_f {a : Int} (h0 : -40 ≤ a) (h1 : a ≤ 40) : probe_wrap.f a = some (a % 16) := by
  unfold probe_wrap.f
  have := and15_fin ⟨(a + 40).toNat, by omega⟩
  have e : (((a + 40).toNat : Int) - 40) = a := by omega
  simp only [e] at this
  rw [this]

/-- The home of a key. -/
def hm (key : Int) : Int := ((key * 2654435769) % 4294967296) / 268435456
theorem hm_range (key : Int) : 0 ≤ hm key ∧ hm key < 16 := by unfold hm; omega
theorem home_f (key : Int) : probe_Home.f key = some (hm key) := rfl
theorem wraps_u64 (n : Int) (h0 : 0 ≤ n) (h1 : n < 2 ^ 64) : IntKind.u64.wrap n = n := by rw [IntKind.wrap_u64]; omega
theorem rhome_f {key : Int} (h0 : 0 ≤ key) (h1 : key < 4294967296) : spigotref14_Home.f key = some (hm key) := by
  unfold spigotref14_Home.f hm
  rw [wraps_u64 key h0 (by omega), wraps_u64 (key * 2654435769) (by omega) (by omega)]
  rw [Int.tmod_eq_emod_of_nonneg (by omega), Int.tdiv_eq_ediv_of_nonneg (by omega), wraps_u64 _ (by omega) (by omega), w0 (by omega) (by omega)]

/-! ### looking -/
/-- The first d cells from the home of key on are used and have other keys. -/
def Other (x : List S71) (key : Int) (d : Nat) : Prop := ∀ e : Nat, e < d → (rd_T71 x ((hm key + e) % 16)).f2 = true ∧ (rd_T71 x ((hm key + e) % 16)).f0 ≠ key
/-- The d-th cell from the home of key on ends the search. -/
def Ends (x : List S71) (key : Int) (d : Nat) : Prop := (rd_T71 x ((hm key + d) % 16)).f2 = true → (rd_T71 x ((hm key + d) % 16)).f0 = key

theorem next_pos (h : Int) (e : Nat) : ((h + (e : Int)) % 16 + 1) % 16 = (h + ((e + 1 : Nat) : Int)) % 16 := by omega

theorem look_l0 {x : List S71} {key : Int} (hx : x.length = 16) {d : Nat} (hd : d ≤ 16) (hp : Other x key d) (hq : Ends x key d) (n : Nat) :
    ∀ e : Nat, e + n = d → Ev (fun k => probe_look.l0 k x key ((hm key + e) % 16) e) ((hm key + d) % 16, (d : Int) + 1) := by
  induction n with
  | zero =>
    intro e he
    have : e = d := by omega
    subst this
    refine Ev.step (f := fun _ => some ((hm key + e) % 16, (e : Int) + 1)) (fun k => ?_) (Ev.now _)
    rw [probe_look.l0, if_pos (by omega), if_pos (by omega), w0 (by omega) (by omega)]
    by_cases u : (rd_T71 x ((hm key + e) % 16)).f2 = true
    · rw [if_pos u, if_pos (hq u)]
    · rw [if_neg u]
  | succ n ih =>
    intro e he
    have hr := ih (e + 1) (by omega)
    refine Ev.step (fun k => ?_) hr
    obtain ⟨u, v⟩ := hp e (by omega)
    rw [probe_look.l0, if_pos (by omega), if_pos (by omega), if_pos u, if_neg v, w0 (i := (hm key + e) % 16 + 1) (by omega) (by omega), wrap_f (by omega) (by omega), Option.bind_some, next_pos, w0 (by omega) (by omega)]
    rfl

theorem look_ev {x : List S71} {key : Int} (hx : x.length = 16) {d : Nat} (hd : d ≤ 16) (hp : Other x key d) (hq : Ends x key d) :
    Ev (fun k => probe_look.f k x key) ((hm key + d) % 16, (d : Int) + 1) := by
  have h := look_l0 hx hd hp hq d 0 (by omega)
  refine Ev.congr (fun k => ?_) h
  have := hm_range key
  unfold probe_look.f
  rw [home_f, Option.bind_some, show (hm key + ((0 : Nat) : Int)) % 16 = hm key by omega]; rfl

/-- How many cells are used. -/
def cnt (x : List S71) : Nat := x.countP (·.f2)

theorem rd_get {x : List S71} {i : Nat} (h : i < x.length) : rd_T71 x (i : Int) = x[i] := by
  unfold rd_T71; simp [List.getD_eq_getElem?_getD, h]

theorem free_ex {x : List S71} (hx : x.length = 16) (hc : cnt x ≤ 12) : ∃ i : Int, 0 ≤ i ∧ i < 16 ∧ (rd_T71 x i).f2 = false := by
  by_cases h : ∀ c ∈ x, c.f2 = true
  · have : cnt x = x.length := List.countP_eq_length.2 h
    omega
  · obtain ⟨c, hc, hu⟩ : ∃ c ∈ x, ¬ c.f2 = true := by
      apply Classical.byContradiction; intro hn; exact h fun c hc => Classical.byContradiction fun hu => hn ⟨c, hc, hu⟩
    obtain ⟨i, hi, rfl⟩ := List.mem_iff_getElem.1 hc
    exact ⟨i, by omega, by omega, by rw [rd_get hi]; simpa using hu⟩

theorem first_ex (P : Nat → Prop) (n : Nat) (h : P n) : ∃ d, d ≤ n ∧ P d ∧ ∀ e, e < d → ¬ P e := by
  induction n using Nat.strongRecOn with
  | _ n ih =>
    by_cases hq : ∃ e, e < n ∧ P e
    · obtain ⟨e, he, hp⟩ := hq
      obtain ⟨d, h1, h2, h3⟩ := ih e he hp
      exact ⟨d, by omega, h2, h3⟩
    · exact ⟨n, Nat.le_refl _, h, fun e he hp => hq ⟨e, he, hp⟩⟩

/-- Where the search for key ends. -/
theorem look_ex {x : List S71} (hx : x.length = 16) (hc : cnt x ≤ 12) (key : Int) : ∃ d : Nat, d < 16 ∧ Other x key d ∧ Ends x key d := by
  obtain ⟨i, h0, h1, hu⟩ := free_ex hx hc
  have hr := hm_range key
  obtain ⟨d, hd, hp, hq⟩ := first_ex (fun d => Ends x key d) ((i - hm key) % 16).toNat (by
    intro u
    rw [show (hm key + (((i - hm key) % 16).toNat : Int)) % 16 = i by omega] at u
    rw [hu] at u; exact absurd u (by simp))
  exact ⟨d, by omega, fun e he => by
    have := hq e he
    unfold Ends at this
    by_cases u : (rd_T71 x ((hm key + e) % 16)).f2 = true
    · exact ⟨u, fun hk => this fun _ => hk⟩
    · exact absurd (fun u' => absurd u' u) this, hp⟩

/-! ### Count and At -/
theorem drop_cnt {x : List S71} {i : Nat} (h : i < x.length) : (x.drop i).countP (·.f2) = (if (rd_T71 x (i : Int)).f2 = true then 1 else 0) + (x.drop (i + 1)).countP (·.f2) := by
  rw [List.drop_eq_getElem_cons h, List.countP_cons, rd_get h]; omega

theorem count_l0 {x : List S71} (hx : x.length ≤ 1000) (n : Nat) : ∀ (i s : Nat), i + n = x.length → s ≤ i →
    Ev (fun k => spigotref14_Count.l0 k x s i) ((s + (x.drop i).countP (·.f2) : Nat) : Int) := by
  induction n with
  | zero =>
    intro i s hi hs
    refine Ev.step (f := fun _ => some _) (fun k => ?_) (Ev.now _)
    rw [spigotref14_Count.l0, if_neg (by omega), List.drop_eq_nil_of_le (by omega)]; rfl
  | succ n ih =>
    intro i s hi hs
    by_cases u : (rd_T71 x (i : Int)).f2 = true
    · have hr := ih (i + 1) (s + 1) (by omega) (by omega)
      rw [drop_cnt (by omega), if_pos u, ← Nat.add_assoc]
      refine Ev.step (fun k => ?_) hr
      rw [spigotref14_Count.l0, if_pos (by omega), if_pos (by omega), if_pos u, w0 (by omega) (by omega), w0 (by omega) (by omega)]; rfl
    · have hr := ih (i + 1) s (by omega) (by omega)
      rw [drop_cnt (by omega), if_neg u, Nat.zero_add]
      refine Ev.step (fun k => ?_) hr
      rw [spigotref14_Count.l0, if_pos (by omega), if_pos (by omega), if_neg u, w0 (by omega) (by omega)]; rfl
theorem count_ev {x : List S71} (hx : x.length ≤ 1000) : Ev (fun k => spigotref14_Count.f k x) (cnt x : Int) := by
  have h := count_l0 hx x.length 0 0 (by omega) (by omega)
  simpa [cnt, spigotref14_Count.f] using h

theorem at_l0_yes {x : List S71} {key : Int} (hx : x.length ≤ 1000) {i : Nat} (hi : i < x.length) (hu : (rd_T71 x i).f2 = true) (hk : (rd_T71 x i).f0 = key)
    (hb : ∀ j : Nat, j < i → ¬ ((rd_T71 x j).f2 = true ∧ (rd_T71 x j).f0 = key)) (n : Nat) : ∀ j : Nat, j + n = i → Ev (fun k => spigotref14_At.l0 k x key j) (i : Int) := by
  induction n with
  | zero =>
    intro j hj
    have : j = i := by omega
    subst this
    refine Ev.step (f := fun _ => some _) (fun k => ?_) (Ev.now _)
    rw [spigotref14_At.l0, if_pos (by omega), if_pos (by omega), if_pos hu, if_pos hk]
  | succ n ih =>
    intro j hj
    refine Ev.step (fun k => ?_) (ih (j + 1) (by omega))
    rw [spigotref14_At.l0, if_pos (by omega), if_pos (by omega), w0 (by omega) (by omega)]
    have := hb j (by omega)
    by_cases u : (rd_T71 x (j : Int)).f2 = true
    · rw [if_pos u, if_neg (fun h => this ⟨u, h⟩)]; rfl
    · rw [if_neg u]; rfl
theorem at_l0_no {x : List S71} {key : Int} (hx : x.length ≤ 1000) 
    (hb : ∀ j : Nat, j < x.length → ¬ ((rd_T71 x j).f2 = true ∧ (rd_T71 x j).f0 = key)) (n : Nat) : ∀ j : Nat, j + n = x.length → Ev (fun k => spigotref14_At.l0 k x key j) (-1) := by
  induction n with
  | zero =>
    intro j hj
    refine Ev.step (f := fun _ => some _) (fun k => ?_) (Ev.now _)
    rw [spigotref14_At.l0, if_neg (by omega)]
  | succ n ih =>
    intro j hj
    refine Ev.step (fun k => ?_) (ih (j + 1) (by omega))
    rw [spigotref14_At.l0, if_pos (by omega), if_pos (by omega), w0 (by omega) (by omega)]
    have := hb j (by omega)
    by_cases u : (rd_T71 x (j : Int)).f2 = true
    · rw [if_pos u, if_neg (fun h => this ⟨u, h⟩)]; rfl
    · rw [if_neg u]; rfl
/-- The first used cell with key, or -1. -/
theorem at_ex {x : List S71} (hx : x.length ≤ 1000) (key : Int) : ∃ r : Int, Ev (fun k => spigotref14_At.f k x key) r ∧
    ((r = -1 ∧ ∀ j : Int, 0 ≤ j → j < x.length → ¬ ((rd_T71 x j).f2 = true ∧ (rd_T71 x j).f0 = key)) ∨ (0 ≤ r ∧ r < x.length ∧ (rd_T71 x r).f2 = true ∧ (rd_T71 x r).f0 = key)) := by
  by_cases h : ∃ i : Nat, i < x.length ∧ (rd_T71 x i).f2 = true ∧ (rd_T71 x i).f0 = key
  · obtain ⟨i, hi⟩ := h
    obtain ⟨d, hd, hp, hq⟩ := first_ex (fun i => i < x.length ∧ (rd_T71 x (i : Int)).f2 = true ∧ (rd_T71 x (i : Int)).f0 = key) i hi
    refine ⟨d, ?_, Or.inr ⟨by omega, by omega, hp.2.1, hp.2.2⟩⟩
    have := at_l0_yes hx hp.1 hp.2.1 hp.2.2 (fun j hj hc => hq j hj ⟨by omega, hc.1, hc.2⟩) d 0 (by omega)
    simpa [spigotref14_At.f] using this
  · refine ⟨-1, ?_, Or.inl ⟨rfl, fun j h0 h1 hc => h ⟨j.toNat, by omega, by rw [Int.toNat_of_nonneg h0]; exact hc⟩⟩⟩
    have := at_l0_no hx (fun j hj hc => h ⟨j, hj, hc⟩) x.length 0 (by omega)
    simpa [spigotref14_At.f] using this

/-! ### valid indices -/
/-- Valid: 16 cells, at most 12 used, unused cells zero, places in range, no key twice, and all cells from a key's home to its cell used. -/
structure Valid (x : List S71) : Prop where
  len : x.length = 16
  few : cnt x ≤ 12
  zero : ∀ i : Int, 0 ≤ i → i < 16 → (rd_T71 x i).f2 = false → (rd_T71 x i).f0 = 0 ∧ (rd_T71 x i).f1 = 0
  place : ∀ i : Int, 0 ≤ i → i < 16 → (rd_T71 x i).f2 = true → 0 ≤ (rd_T71 x i).f1 ∧ (rd_T71 x i).f1 < 16
  uniq : ∀ i j : Int, 0 ≤ i → i < 16 → 0 ≤ j → j < 16 → (rd_T71 x i).f2 = true → (rd_T71 x j).f2 = true → (rd_T71 x i).f0 = (rd_T71 x j).f0 → i = j
  path : ∀ i : Int, 0 ≤ i → i < 16 → (rd_T71 x i).f2 = true → ∀ e : Nat, (e : Int) < (i - hm (rd_T71 x i).f0) % 16 → (rd_T71 x ((hm (rd_T71 x i).f0 + e) % 16)).f2 = true

/-- What the program asks of a cell. -/
def CellOk (x : List S71) (i : Int) : Prop :=
  ((rd_T71 x i).f2 = false → (rd_T71 x i).f0 = 0 ∧ (rd_T71 x i).f1 = 0) ∧
  ((rd_T71 x i).f2 = true → 0 ≤ (rd_T71 x i).f1 ∧ (rd_T71 x i).f1 < 16 ∧ Other x (rd_T71 x i).f0 ((i - hm (rd_T71 x i).f0) % 16).toNat)

theorem look_at {x : List S71} (i : Int) (h0 : 0 ≤ i) (h1 : i < 16) {d : Nat} (hd : d < 16) (hp : Other x (rd_T71 x i).f0 d) (hq : Ends x (rd_T71 x i).f0 d) :
    (hm (rd_T71 x i).f0 + d) % 16 = i ↔ Other x (rd_T71 x i).f0 ((i - hm (rd_T71 x i).f0) % 16).toNat := by
  have hr := hm_range (rd_T71 x i).f0
  constructor
  · intro h
    rw [show ((i - hm (rd_T71 x i).f0) % 16).toNat = d by omega]; exact hp
  · intro h
    generalize hD : ((i - hm (rd_T71 x i).f0) % 16).toNat = D at h
    have hi : (hm (rd_T71 x i).f0 + D) % 16 = i := by omega
    rcases Nat.lt_trichotomy d D with hl | he | hg
    · have := h d hl
      exact absurd (hq this.1) this.2
    · rw [he]; exact hi
    · have := hp D hg
      rw [hi] at this
      exact absurd rfl this.2

theorem cells_of_valid {x : List S71} (h : Valid x) (i : Int) (h0 : 0 ≤ i) (h1 : i < 16) : CellOk x i := by
  refine ⟨h.zero i h0 h1, fun u => ⟨(h.place i h0 h1 u).1, (h.place i h0 h1 u).2, fun e he => ?_⟩⟩
  have hr := hm_range (rd_T71 x i).f0
  have hu := h.path i h0 h1 u e (by omega)
  refine ⟨hu, fun hk => ?_⟩
  have := h.uniq _ i (by omega) (by omega) h0 h1 hu u hk
  omega

theorem valid_of_cells {x : List S71} (hx : x.length = 16) (hc : cnt x ≤ 12) (h : ∀ i : Int, 0 ≤ i → i < 16 → CellOk x i) : Valid x where
  len := hx
  few := hc
  zero i h0 h1 := (h i h0 h1).1
  place i h0 h1 u := ⟨((h i h0 h1).2 u).1, ((h i h0 h1).2 u).2.1⟩
  uniq i j h0 h1 g0 g1 u v hk := by
    obtain ⟨d, hd, hp, hq⟩ := look_ex hx hc (rd_T71 x i).f0
    have a := (look_at i h0 h1 hd hp hq).2 ((h i h0 h1).2 u).2.2
    have b := (look_at j g0 g1 hd (hk ▸ hp) (hk ▸ hq)).2 ((h j g0 g1).2 v).2.2
    rw [hk] at a; omega
  path i h0 h1 u e he := (((h i h0 h1).2 u).2.2 e (by omega)).1

/-! ### probe.Check -/
theorem check_l1_step {x : List S71} (hx : x.length = 16) (hc : cnt x ≤ 12) {i : Int} (h0 : 0 ≤ i) (h1 : i < 16) {r : Int}
    (hy : CellOk x i → Ev (fun k => probe_Check.l1 k x (i + 1)) r) (hn : ¬ CellOk x i → r = 8) : Ev (fun k => probe_Check.l1 k x i) r := by
  obtain ⟨d, hd, hp, hq⟩ := look_ex hx hc (rd_T71 x i).f0
  have hl := look_ev hx (by omega) hp hq
  have hat := look_at i h0 h1 hd hp hq
  have stop : ∀ a b c, Ev (fun k => probe_Check.j2 k x i i true a b c) 8 := by
    intro a b c
    refine Ev.step (f := fun _ => some 8) (fun k => ?_) (Ev.now _)
    rw [probe_Check.j2, if_pos rfl]
  have go : ∀ b c, (c = true → (hm (rd_T71 x i).f0 + d) % 16 = i) → Ev (fun k => probe_Check.l1 k x (i + 1)) r → Ev (fun k => probe_Check.j2 k x i i false (rd_T71 x i).f0 b c) r := by
    intro b c hcc hr
    refine Ev.step (fun k => ?_) (Ev.bind hl (f := fun k bt => if c = true then (if bt.1 = i then probe_Check.l1 k x (wrap64 (i + 1)) else some 8) else probe_Check.l1 k x (wrap64 (i + 1))) ?_)
    · rw [probe_Check.j2, if_neg (by simp)]
    · refine Ev.congr (fun k => ?_) hr
      rw [w0 (by omega) (by omega)]
      by_cases hcT : c = true
      · rw [if_pos hcT, if_pos (hcc hcT)]
      · rw [if_neg hcT]
  have no : ∀ b, ¬ (hm (rd_T71 x i).f0 + d) % 16 = i → Ev (fun k => probe_Check.j2 k x i i false (rd_T71 x i).f0 b true) 8 := by
    intro b hne
    refine Ev.step (fun k => ?_) (Ev.bind hl (f := fun k bt => if true = true then (if bt.1 = i then probe_Check.l1 k x (wrap64 (i + 1)) else some 8) else probe_Check.l1 k x (wrap64 (i + 1))) ?_)
    · rw [probe_Check.j2, if_neg (by simp)]
    · refine Ev.congr (f := fun _ => some 8) (fun k => ?_) (Ev.now _)
      rw [if_pos rfl, if_neg hne]
  by_cases u : (rd_T71 x i).f2 = true
  · by_cases p0 : (rd_T71 x i).f1 < 0
    · rw [hn (fun hc => by have := (hc.2 u).1; omega)]
      refine Ev.step (fun k => ?_) (stop (rd_T71 x i).f0 (rd_T71 x i).f1 (rd_T71 x i).f2)
      rw [probe_Check.l1, if_pos h1, if_pos h0, if_pos (by omega), if_pos u, if_pos u, if_pos p0]
    · by_cases p1 : (rd_T71 x i).f1 ≥ 16
      · rw [hn (fun hc => by have := (hc.2 u).2.1; omega)]
        refine Ev.step (fun k => ?_) (stop (rd_T71 x i).f0 (rd_T71 x i).f1 (rd_T71 x i).f2)
        rw [probe_Check.l1, if_pos h1, if_pos h0, if_pos (by omega), if_pos u, if_pos u, if_neg p0, decide_eq_true p1]
      · by_cases hh : (hm (rd_T71 x i).f0 + d) % 16 = i
        · have ok : CellOk x i := ⟨fun uf => by rw [uf] at u; exact absurd u (by simp), fun _ => ⟨by omega, by omega, hat.1 hh⟩⟩
          refine Ev.step (fun k => ?_) (go (rd_T71 x i).f1 (rd_T71 x i).f2 (fun _ => hh) (hy ok))
          rw [probe_Check.l1, if_pos h1, if_pos h0, if_pos (by omega), if_pos u, if_pos u, if_neg p0, decide_eq_false p1]
        · rw [hn (fun hc => hh (hat.2 (hc.2 u).2.2))]
          have := no (rd_T71 x i).f1 hh
          rw [← u] at this
          refine Ev.step (fun k => ?_) this
          rw [probe_Check.l1, if_pos h1, if_pos h0, if_pos (by omega), if_pos u, if_pos u, if_neg p0, decide_eq_false p1]
  · have uf : (rd_T71 x i).f2 = false := by simpa using u
    by_cases z : (rd_T71 x i).f0 = 0 ∧ (rd_T71 x i).f1 = 0
    · have ok : CellOk x i := ⟨fun _ => z, fun ut => absurd ut u⟩
      refine Ev.step (fun k => ?_) (go (rd_T71 x i).f1 (rd_T71 x i).f2 (fun hu => absurd hu u) (hy ok))
      rw [probe_Check.l1, if_pos h1, if_pos h0, if_pos (by omega), if_neg u, if_neg (by simp [z.1, z.2, uf]), if_neg u]
    · rw [hn (fun hc => z (hc.1 uf))]
      refine Ev.step (fun k => ?_) (stop (rd_T71 x i).f0 (rd_T71 x i).f1 (rd_T71 x i).f2)
      rw [probe_Check.l1, if_pos h1, if_pos h0, if_pos (by omega), if_neg u, if_pos (by
        by_cases a : (rd_T71 x i).f0 = 0
        · have b : ¬ (rd_T71 x i).f1 = 0 := fun b => z ⟨a, b⟩
          simp [b]
        · simp [a])]

theorem check_l1_yes {x : List S71} (hx : x.length = 16) (hc : cnt x ≤ 12) (h : ∀ i : Int, 0 ≤ i → i < 16 → CellOk x i) (n : Nat) :
    ∀ i : Int, 0 ≤ i → i + n = 16 → Ev (fun k => probe_Check.l1 k x i) 0 := by
  induction n with
  | zero =>
    intro i h0 hi
    refine Ev.step (f := fun _ => some 0) (fun k => ?_) (Ev.now _)
    rw [probe_Check.l1, if_neg (by omega)]
  | succ n ih =>
    intro i h0 hi
    exact check_l1_step hx hc h0 (by omega) (fun _ => ih (i + 1) (by omega) (by omega)) (fun hn => absurd (h i h0 (by omega)) hn)
theorem check_l1_no {x : List S71} (hx : x.length = 16) (hc : cnt x ≤ 12) (n : Nat) :
    ∀ i : Int, 0 ≤ i → i + n = 16 → (∃ j : Int, i ≤ j ∧ j < 16 ∧ ¬ CellOk x j) → Ev (fun k => probe_Check.l1 k x i) 8 := by
  induction n with
  | zero => intro i h0 hi ⟨j, a, b, _⟩; omega
  | succ n ih =>
    intro i h0 hi ⟨j, a, b, hj⟩
    refine check_l1_step hx hc h0 (by omega) (fun ok => ih (i + 1) (by omega) (by omega) ⟨j, ?_, b, hj⟩) (fun _ => rfl)
    by_cases e : i = j
    · subst e; exact absurd ok hj
    · omega

theorem check_l0 {x : List S71} (hx : x.length = 16) {r : Int} (hf : cnt x ≤ 12 → Ev (fun k => probe_Check.l1 k x 0) r) (hm : ¬ cnt x ≤ 12 → r = 8) (n : Nat) :
    ∀ (i s : Nat), i + n = 16 → s ≤ i → s + (x.drop i).countP (·.f2) = cnt x → Ev (fun k => probe_Check.l0 k x s x 16 i) r := by
  induction n with
  | zero =>
    intro i s hi hs he
    rw [List.drop_eq_nil_of_le (by omega)] at he
    have he : s = cnt x := by simpa using he
    by_cases h : cnt x ≤ 12
    · refine Ev.step (fun k => ?_) (hf h)
      rw [probe_Check.l0, if_neg (by omega), if_neg (by omega)]
    · rw [hm h]
      refine Ev.step (f := fun _ => some 8) (fun k => ?_) (Ev.now _)
      rw [probe_Check.l0, if_neg (by omega), if_pos (by omega)]
  | succ n ih =>
    intro i s hi hs he
    rw [drop_cnt (by omega)] at he
    by_cases u : (rd_T71 x (i : Int)).f2 = true
    · rw [if_pos u] at he
      refine Ev.step (fun k => ?_) (ih (i + 1) (s + 1) (by omega) (by omega) (by omega))
      rw [probe_Check.l0, if_pos (by omega), if_pos (by omega), if_pos (by omega), if_pos u, w0 (by omega) (by omega), w0 (by omega) (by omega)]; rfl
    · rw [if_neg u] at he
      refine Ev.step (fun k => ?_) (ih (i + 1) s (by omega) (by omega) (by omega))
      rw [probe_Check.l0, if_pos (by omega), if_pos (by omega), if_pos (by omega), if_neg u, w0 (by omega) (by omega)]; rfl

theorem check_yes {x : List S71} (h : Valid x) : Ev (fun k => probe_Check.f k x) 0 := by
  have hl := check_l0 h.len (r := 0) (fun hc => check_l1_yes h.len hc (cells_of_valid h) 16 0 (by omega) (by omega)) (fun hn => absurd h.few hn) 16 0 0 (by omega) (by omega) (by simp [cnt])
  refine Ev.congr (fun k => ?_) hl
  unfold probe_Check.f
  rw [if_pos (by rw [h.len]; rfl), h.len]; rfl
theorem check_no {x : List S71} (h : ¬ Valid x) : Ev (fun k => probe_Check.f k x) 8 := by
  by_cases hx : x.length = 16
  · have hl := check_l0 hx (r := 8) (fun hc => check_l1_no hx hc 16 0 (by omega) (by omega) (by
      apply Classical.byContradiction; intro hn
      exact h (valid_of_cells hx hc fun i h0 h1 => Classical.byContradiction fun hb => hn ⟨i, h0, h1, hb⟩))) (fun _ => rfl) 16 0 0 (by omega) (by omega) (by simp [cnt])
    refine Ev.congr (fun k => ?_) hl
    unfold probe_Check.f
    rw [if_pos (by rw [hx]; rfl), hx]; rfl
  · refine Ev.congr (f := fun _ => some 8) (fun k => ?_) (Ev.now _)
    unfold probe_Check.f
    rw [if_neg (by omega)]

/-! ### the reference's Check -/
/-- What the reference asks of a cell. -/
def RefOk (x : List S71) (i : Int) : Prop :=
  ((rd_T71 x i).f2 = false → (rd_T71 x i).f0 = 0 ∧ (rd_T71 x i).f1 = 0) ∧
  ((rd_T71 x i).f2 = true → 0 ≤ (rd_T71 x i).f1 ∧ (rd_T71 x i).f1 < 16 ∧ Ev (fun k => spigotref14_At.f k x (rd_T71 x i).f0) i ∧
    ∀ e : Nat, (e : Int) < (i - hm (rd_T71 x i).f0) % 16 → (rd_T71 x ((hm (rd_T71 x i).f0 + e) % 16)).f2 = true)

theorem Ev.det {α : Type} {g : Nat → Option α} {a b : α} (h : Ev g a) (k : Ev g b) : a = b := by
  obtain ⟨K, hK⟩ := h
  obtain ⟨L, hL⟩ := k
  have a1 := hK (K + L) (by omega)
  have b1 := hL (K + L) (by omega)
  rw [a1] at b1; exact Option.some.inj b1

theorem at_valid {x : List S71} (h : Valid x) (i : Int) (h0 : 0 ≤ i) (h1 : i < 16) (u : (rd_T71 x i).f2 = true) : Ev (fun k => spigotref14_At.f k x (rd_T71 x i).f0) i := by
  obtain ⟨r, hr, hc⟩ := at_ex (x := x) (by rw [h.len]; omega) (rd_T71 x i).f0
  have hl := h.len
  rcases hc with ⟨_, hb⟩ | ⟨a, b, c, d⟩
  · exact absurd ⟨u, rfl⟩ (hb i h0 (by omega))
  · have := h.uniq r i a (by omega) h0 h1 c u d
    rw [← this]; rw [this] at hr ⊢; exact hr

theorem ref_of_valid {x : List S71} (h : Valid x) (i : Int) (h0 : 0 ≤ i) (h1 : i < 16) : RefOk x i :=
  ⟨h.zero i h0 h1, fun u => ⟨(h.place i h0 h1 u).1, (h.place i h0 h1 u).2, at_valid h i h0 h1 u, h.path i h0 h1 u⟩⟩
theorem valid_of_ref {x : List S71} (hx : x.length = 16) (hc : cnt x ≤ 12) (h : ∀ i : Int, 0 ≤ i → i < 16 → RefOk x i) : Valid x where
  len := hx
  few := hc
  zero i h0 h1 := (h i h0 h1).1
  place i h0 h1 u := ⟨((h i h0 h1).2 u).1, ((h i h0 h1).2 u).2.1⟩
  uniq i j h0 h1 g0 g1 u v hk := by
    have a := ((h i h0 h1).2 u).2.2.1
    have b := ((h j g0 g1).2 v).2.2.1
    rw [hk] at a; exact Ev.det a b
  path i h0 h1 u e he := ((h i h0 h1).2 u).2.2.2 e he

/-- All keys of x are numbers of 32 bits. -/
def Keys (x : List S71) : Prop := ∀ i : Int, 0 ≤ i → i < x.length → 0 ≤ (rd_T71 x i).f0 ∧ (rd_T71 x i).f0 < 4294967296

theorem rpath_yes {x : List S71} (hx : x.length = 16) {i h : Int} (h0 : 0 ≤ i) (h1 : i < 16) (g0 : 0 ≤ h) (g1 : h < 16) {r : Int}
    (hp : ∀ e : Nat, (e : Int) < (i - h) % 16 → (rd_T71 x ((h + e) % 16)).f2 = true) (hr : Ev (fun k => spigotref14_Check.l0 k x (i + 1)) r) (n : Nat) :
    ∀ e : Nat, (e : Int) + n = (i - h) % 16 → Ev (fun k => spigotref14_Check.l1 k x i ((h + e) % 16)) r := by
  induction n with
  | zero =>
    intro e he
    refine Ev.step (fun k => ?_) hr
    rw [spigotref14_Check.l1, if_pos (by omega), w0 (by omega) (by omega)]
  | succ n ih =>
    intro e he
    refine Ev.step (fun k => ?_) (ih (e + 1) (by omega))
    rw [spigotref14_Check.l1, if_neg (by omega), if_pos (by omega), if_pos (by omega), if_pos (hp e (by omega)), w0 (by omega) (by omega), Int.tmod_eq_emod_of_nonneg (by omega), next_pos]
theorem rpath_no {x : List S71} (hx : x.length = 16) {i h : Int} (h0 : 0 ≤ i) (h1 : i < 16) (g0 : 0 ≤ h) (g1 : h < 16) {d : Nat} (hd : (d : Int) < (i - h) % 16)
    (hn : (rd_T71 x ((h + d) % 16)).f2 = false) (n : Nat) :
    ∀ e : Nat, (e : Int) + n = d → Ev (fun k => spigotref14_Check.l1 k x i ((h + e) % 16)) 8 := by
  induction n with
  | zero =>
    intro e he
    have : e = d := by omega
    subst this
    refine Ev.step (f := fun _ => some 8) (fun k => ?_) (Ev.now _)
    rw [spigotref14_Check.l1, if_neg (by omega), if_pos (by omega), if_pos (by omega), if_neg (by rw [hn]; simp)]
  | succ n ih =>
    intro e he
    by_cases u : (rd_T71 x ((h + e) % 16)).f2 = true
    · refine Ev.step (fun k => ?_) (ih (e + 1) (by omega))
      rw [spigotref14_Check.l1, if_neg (by omega), if_pos (by omega), if_pos (by omega), if_pos u, w0 (by omega) (by omega), Int.tmod_eq_emod_of_nonneg (by omega), next_pos]
    · refine Ev.step (f := fun _ => some 8) (fun k => ?_) (Ev.now _)
      rw [spigotref14_Check.l1, if_neg (by omega), if_pos (by omega), if_pos (by omega), if_neg u]

theorem rcheck_step {x : List S71} (hx : x.length = 16) (hk : Keys x) {i : Int} (h0 : 0 ≤ i) (h1 : i < 16) {r : Int}
    (hy : RefOk x i → Ev (fun k => spigotref14_Check.l0 k x (i + 1)) r) (hn : ¬ RefOk x i → r = 8) : Ev (fun k => spigotref14_Check.l0 k x i) r := by
  have stop : Ev (fun k => spigotref14_Check.j2 k x i true) 8 := by
    refine Ev.step (f := fun _ => some 8) (fun k => ?_) (Ev.now _)
    rw [spigotref14_Check.j2, if_pos rfl]
  have hr := hm_range (rd_T71 x i).f0
  by_cases u : (rd_T71 x i).f2 = true
  · by_cases p0 : (rd_T71 x i).f1 < 0
    · rw [hn (fun hc => by have := (hc.2 u).1; omega)]
      refine Ev.step (fun k => ?_) stop
      rw [spigotref14_Check.l0, if_pos h1, if_pos h0, if_pos (by omega), if_pos u, if_pos p0]
    · by_cases p1 : (rd_T71 x i).f1 ≥ 16
      · rw [hn (fun hc => by have := (hc.2 u).2.1; omega)]
        refine Ev.step (fun k => ?_) stop
        rw [spigotref14_Check.l0, if_pos h1, if_pos h0, if_pos (by omega), if_pos u, if_neg p0, if_pos p1]
      · obtain ⟨a, ha, hc⟩ := at_ex (x := x) (by omega) (rd_T71 x i).f0
        refine Ev.step (g := fun k => spigotref14_Check.l0 k x i) (fun k => ?_) (Ev.bind ha (f := fun k t => spigotref14_Check.j2 k x i (t != i)) ?_)
        · rw [spigotref14_Check.l0, if_pos h1, if_pos h0, if_pos (by omega), if_pos u, if_neg p0, if_neg p1]
        · by_cases e : a = i
          · subst e
            rw [show (a != a) = false by simp]
            have home := rhome_f (hk a h0 (by omega)).1 (hk a h0 (by omega)).2
            have enter : ∀ q, Ev (fun k => spigotref14_Check.l1 k x a (hm (rd_T71 x a).f0)) q → Ev (fun k => spigotref14_Check.j2 k x a false) q := by
              intro q hq
              refine Ev.step (fun k => ?_) hq
              rw [spigotref14_Check.j2, if_neg (by simp), if_pos h0, if_pos (by omega), home, Option.bind_some]
            have e0 : (hm (rd_T71 x a).f0 + ((0 : Nat) : Int)) % 16 = hm (rd_T71 x a).f0 := by omega
            by_cases hp : ∀ e : Nat, (e : Int) < (a - hm (rd_T71 x a).f0) % 16 → (rd_T71 x ((hm (rd_T71 x a).f0 + e) % 16)).f2 = true
            · have ok : RefOk x a := ⟨fun uf => by rw [uf] at u; exact absurd u (by simp), fun _ => ⟨by omega, by omega, ha, hp⟩⟩
              have := rpath_yes hx h0 h1 hr.1 hr.2 hp (hy ok) ((a - hm (rd_T71 x a).f0) % 16).toNat 0 (by omega)
              rw [e0] at this
              exact enter _ this
            · rw [hn (fun hc => hp (hc.2 u).2.2.2)]
              obtain ⟨d, hd, hf⟩ : ∃ d : Nat, (d : Int) < (a - hm (rd_T71 x a).f0) % 16 ∧ (rd_T71 x ((hm (rd_T71 x a).f0 + d) % 16)).f2 = false := by
                apply Classical.byContradiction; intro hne
                exact hp fun e he => by
                  apply Classical.byContradiction; intro hf
                  exact hne ⟨e, he, by simpa using hf⟩
              have := rpath_no hx h0 h1 hr.1 hr.2 hd hf d 0 (by omega)
              rw [e0] at this
              exact enter _ this
          · rw [hn (fun hc => e (Ev.det ha (hc.2 u).2.2.1)), show (a != i) = true by simp [e]]
            exact stop
  · have uf : (rd_T71 x i).f2 = false := by simpa using u
    by_cases z : (rd_T71 x i).f0 = 0 ∧ (rd_T71 x i).f1 = 0
    · refine Ev.step (fun k => ?_) (hy ⟨fun _ => z, fun ut => absurd ut u⟩)
      rw [spigotref14_Check.l0, if_pos h1, if_pos h0, if_pos (by omega), if_neg u, if_neg (by simp [z.1, z.2, uf]), w0 (by omega) (by omega)]
    · rw [hn (fun hc => z (hc.1 uf))]
      refine Ev.step (f := fun _ => some 8) (fun k => ?_) (Ev.now _)
      rw [spigotref14_Check.l0, if_pos h1, if_pos h0, if_pos (by omega), if_neg u, if_pos (by
        by_cases a : (rd_T71 x i).f0 = 0
        · have b : ¬ (rd_T71 x i).f1 = 0 := fun b => z ⟨a, b⟩
          simp [b]
        · simp [a])]

theorem rcheck_l0_yes {x : List S71} (hx : x.length = 16) (hk : Keys x) (h : ∀ i : Int, 0 ≤ i → i < 16 → RefOk x i) (n : Nat) :
    ∀ i : Int, 0 ≤ i → i + n = 16 → Ev (fun k => spigotref14_Check.l0 k x i) 0 := by
  induction n with
  | zero =>
    intro i h0 hi
    refine Ev.step (f := fun _ => some 0) (fun k => ?_) (Ev.now _)
    rw [spigotref14_Check.l0, if_neg (by omega)]
  | succ n ih =>
    intro i h0 hi
    exact rcheck_step hx hk h0 (by omega) (fun _ => ih (i + 1) (by omega) (by omega)) (fun hn => absurd (h i h0 (by omega)) hn)
theorem rcheck_l0_no {x : List S71} (hx : x.length = 16) (hk : Keys x) (n : Nat) :
    ∀ i : Int, 0 ≤ i → i + n = 16 → (∃ j : Int, i ≤ j ∧ j < 16 ∧ ¬ RefOk x j) → Ev (fun k => spigotref14_Check.l0 k x i) 8 := by
  induction n with
  | zero => intro i h0 hi ⟨j, a, b, _⟩; omega
  | succ n ih =>
    intro i h0 hi ⟨j, a, b, hj⟩
    refine rcheck_step hx hk h0 (by omega) (fun ok => ih (i + 1) (by omega) (by omega) ⟨j, ?_, b, hj⟩) (fun _ => rfl)
    by_cases e : i = j
    · subst e; exact absurd ok hj
    · omega

theorem rcheck_j0 {x : List S71} {r : Int} (h : Ev (fun k => spigotref14_Check.l0 k x 0) r) : Ev (fun k => spigotref14_Check.j0 k x false) r := by
  refine Ev.step (fun k => ?_) h
  rw [spigotref14_Check.j0, if_neg (by simp)]
theorem rcheck_j0_no {x : List S71} : Ev (fun k => spigotref14_Check.j0 k x true) 8 := by
  refine Ev.step (f := fun _ => some 8) (fun k => ?_) (Ev.now _)
  rw [spigotref14_Check.j0, if_pos rfl]

theorem rcheck_len {x : List S71} (hx : x.length = 16) {r : Int} (h : Ev (fun k => spigotref14_Check.j0 k x (decide ((cnt x : Int) > 12))) r) : Ev (fun k => spigotref14_Check.f k x) r := by
  refine Ev.congr (fun k => ?_) (Ev.bind (count_ev (x := x) (by omega)) (f := fun k t => spigotref14_Check.j0 k x (decide (t > 12))) h)
  unfold spigotref14_Check.f
  rw [if_pos (by rw [hx]; rfl)]

theorem rcheck_yes {x : List S71} (hk : Keys x) (h : Valid x) : Ev (fun k => spigotref14_Check.f k x) 0 := by
  apply rcheck_len h.len
  have := h.few
  rw [decide_eq_false (by omega)]
  exact rcheck_j0 (rcheck_l0_yes h.len hk (ref_of_valid h) 16 0 (by omega) (by omega))
theorem rcheck_no {x : List S71} (hk : Keys x) (h : ¬ Valid x) : Ev (fun k => spigotref14_Check.f k x) 8 := by
  by_cases hx : x.length = 16
  · apply rcheck_len hx
    by_cases hc : cnt x ≤ 12
    · rw [decide_eq_false (by omega)]
      refine rcheck_j0 (rcheck_l0_no hx hk 16 0 (by omega) (by omega) ?_)
      apply Classical.byContradiction; intro hn
      exact h (valid_of_ref hx hc fun i h0 h1 => Classical.byContradiction fun hb => hn ⟨i, h0, h1, hb⟩)
    · rw [decide_eq_true (by omega)]; exact rcheck_j0_no
  · refine Ev.congr (fun k => ?_) (rcheck_j0_no (x := x))
    unfold spigotref14_Check.f
    rw [if_neg (by omega)]

theorem check_zero {x : List S71} (hk : Keys x) : (Valid x ∧ Ev (fun k => probe_Check.f k x) 0 ∧ Ev (fun k => spigotref14_Check.f k x) 0) ∨ (¬ Valid x ∧ Ev (fun k => probe_Check.f k x) 8 ∧ Ev (fun k => spigotref14_Check.f k x) 8) := by
  by_cases h : Valid x
  · exact Or.inl ⟨h, check_yes h, rcheck_yes hk h⟩
  · exact Or.inr ⟨h, check_no h, rcheck_no hk h⟩

/-! ### where a key is -/
/-- In a valid index the search for a key ends at the key's cell, or the key is not there. -/
theorem found {x : List S71} (h : Valid x) (key : Int) : ∃ d : Nat, d < 16 ∧ Other x key d ∧ Ends x key d ∧
    (((rd_T71 x ((hm key + d) % 16)).f2 = true ∧ (rd_T71 x ((hm key + d) % 16)).f0 = key ∧ Ev (fun k => spigotref14_At.f k x key) ((hm key + d) % 16)) ∨
     ((rd_T71 x ((hm key + d) % 16)).f2 = false ∧ (∀ j : Int, 0 ≤ j → j < 16 → ¬ ((rd_T71 x j).f2 = true ∧ (rd_T71 x j).f0 = key)) ∧ Ev (fun k => spigotref14_At.f k x key) (-1))) := by
  obtain ⟨d, hd, hp, hq⟩ := look_ex h.len h.few key
  have hl := h.len
  have hr := hm_range key
  refine ⟨d, hd, hp, hq, ?_⟩
  by_cases u : (rd_T71 x ((hm key + d) % 16)).f2 = true
  · refine Or.inl ⟨u, hq u, ?_⟩
    have := at_valid h ((hm key + d) % 16) (by omega) (by omega) u
    rw [hq u] at this; exact this
  · refine Or.inr ⟨by simpa using u, ?_, ?_⟩
    · intro j h0 h1 ⟨v, e⟩
      have ho := ((cells_of_valid h j h0 h1).2 v).2.2
      have := (look_at j h0 h1 hd (e ▸ hp) (e ▸ hq)).2 ho
      rw [e] at this; rw [this] at u; exact u v
    · obtain ⟨r, hr2, hc⟩ := at_ex (x := x) (by omega) key
      rcases hc with ⟨rfl, _⟩ | ⟨a, b, v, e⟩
      · exact hr2
      · exfalso
        have ho := ((cells_of_valid h r a (by omega)).2 v).2.2
        have := (look_at r a (by omega) hd (e ▸ hp) (e ▸ hq)).2 ho
        rw [e] at this; rw [this] at u; exact u v

theorem rsteps_l0 {x : List S71} {key : Int} (hx : x.length = 16) {d : Nat} (hd : d ≤ 16) (hp : Other x key d) (hq : Ends x key d) (n : Nat) :
    ∀ e : Nat, e + n = d → Ev (fun k => spigotref14_Steps.l0 k x key e ((hm key + e) % 16)) ((d : Int) + 1, 0) := by
  induction n with
  | zero =>
    intro e he
    have : e = d := by omega
    subst this
    refine Ev.step (f := fun _ => some ((e : Int) + 1, 0)) (fun k => ?_) (Ev.now _)
    rw [spigotref14_Steps.l0, if_pos (by omega), if_pos (by omega), w0 (by omega) (by omega)]
    by_cases u : (rd_T71 x ((hm key + e) % 16)).f2 = true
    · rw [if_pos u, if_pos (hq u)]
    · rw [if_neg u]
  | succ n ih =>
    intro e he
    refine Ev.step (fun k => ?_) (ih (e + 1) (by omega))
    obtain ⟨u, v⟩ := hp e (by omega)
    rw [spigotref14_Steps.l0, if_pos (by omega), if_pos (by omega), if_pos u, if_neg v, w0 (i := (hm key + e) % 16 + 1) (by omega) (by omega), Int.tmod_eq_emod_of_nonneg (by omega), next_pos, w0 (by omega) (by omega)]
    rfl

theorem steps_ev {x : List S71} (h : Valid x) {key : Int} {d : Nat} (hd : d < 16) (hp : Other x key d) (hq : Ends x key d) : Ev (fun k => probe_Steps.f k x key) ((d : Int) + 1, 0) := by
  refine Ev.bind (check_yes h) (f := fun k t134 => (if t134 = 0 then ((probe_look.f k x key).bind fun bt135 => (some (bt135.2, 0))) else (some (0, t134)))) ?_
  simp only [if_true]
  exact Ev.bind (look_ev h.len (by omega) hp hq) (f := fun _ bt135 => some (bt135.2, (0 : Int))) (Ev.now _)
theorem rsteps_ev {x : List S71} (hk : Keys x) (h : Valid x) {key : Int} (k0 : 0 ≤ key) (k1 : key < 4294967296) {d : Nat} (hd : d < 16) (hp : Other x key d) (hq : Ends x key d) : Ev (fun k => spigotref14_Steps.f k x key) ((d : Int) + 1, 0) := by
  have hr := hm_range key
  refine Ev.bind (rcheck_yes hk h) (f := fun k t137 => (if t137 = 0 then ((spigotref14_Home.f key).bind fun t139 => (spigotref14_Steps.l0 k x key 0 t139)) else ((spigotref14_Check.f k x).bind fun t138 => (some (0, t138))))) ?_
  simp only [if_true, rhome_f k0 k1, Option.bind_some]
  have := rsteps_l0 h.len (by omega) hp hq d 0 (by omega)
  rw [show (hm key + ((0 : Nat) : Int)) % 16 = hm key by omega] at this
  exact this

/-- What Find answers at a search that ends at d. -/
def findAt (x : List S71) (key : Int) (d : Nat) : Int × Int := if (rd_T71 x ((hm key + d) % 16)).f2 = true then ((rd_T71 x ((hm key + d) % 16)).f1, 0) else (0, 6)
theorem find_ev {x : List S71} (h : Valid x) {key : Int} {d : Nat} (hd : d < 16) (hp : Other x key d) (hq : Ends x key d) : Ev (fun k => probe_Find.f k x key) (findAt x key d) := by
  have hl := h.len
  refine Ev.bind (check_yes h) (f := fun k t111 => (if t111 = 0 then ((probe_look.f k x key).bind fun bt112 => (if 0 ≤ bt112.1 then (if bt112.1 < (x.length : Int) then (if ((rd_T71 x bt112.1).f2 = true) then (some ((rd_T71 x bt112.1).f1, 0)) else (some (0, 6))) else (none)) else (none))) else (some (0, t111)))) ?_
  simp only [if_true]
  refine Ev.bind (look_ev h.len (by omega) hp hq) (f := fun _ bt112 => (if 0 ≤ bt112.1 then (if bt112.1 < (x.length : Int) then (if ((rd_T71 x bt112.1).f2 = true) then (some ((rd_T71 x bt112.1).f1, (0 : Int))) else (some (0, 6))) else (none)) else (none))) ?_
  refine Ev.congr (fun k => ?_) (Ev.now _)
  show (if 0 ≤ (hm key + (d : Int)) % 16 then _ else _) = _
  rw [if_pos (by omega), if_pos (by show (hm key + (d : Int)) % 16 < _; omega)]
  unfold findAt
  by_cases u : (rd_T71 x ((hm key + d) % 16)).f2 = true
  · rw [if_pos u, if_pos u]
  · rw [if_neg u, if_neg u]
theorem rfind_ev {x : List S71} (hk : Keys x) (h : Valid x) {key : Int} {d : Nat}
    (hc : (((rd_T71 x ((hm key + d) % 16)).f2 = true ∧ (rd_T71 x ((hm key + d) % 16)).f0 = key ∧ Ev (fun k => spigotref14_At.f k x key) ((hm key + d) % 16)) ∨
     ((rd_T71 x ((hm key + d) % 16)).f2 = false ∧ (∀ j : Int, 0 ≤ j → j < 16 → ¬ ((rd_T71 x j).f2 = true ∧ (rd_T71 x j).f0 = key)) ∧ Ev (fun k => spigotref14_At.f k x key) (-1)))) :
    Ev (fun k => spigotref14_Find.f k x key) (findAt x key d) := by
  have hl := h.len
  refine Ev.bind (rcheck_yes hk h) (f := fun k t129 => (if t129 = 0 then ((spigotref14_At.f k x key).bind fun t131 => (if t131 < 0 then (some (0, 6)) else ((spigotref14_At.f k x key).bind fun t132 => (if 0 ≤ t132 then (if t132 < (x.length : Int) then (some ((rd_T71 x t132).f1, 0)) else (none)) else (none))))) else ((spigotref14_Check.f k x).bind fun t130 => (some (0, t130))))) ?_
  simp only [if_true]
  rcases hc with ⟨u, e, ha⟩ | ⟨u, _, ha⟩
  · refine Ev.bind ha (f := fun k t131 => (if t131 < 0 then (some (0, 6)) else ((spigotref14_At.f k x key).bind fun t132 => (if 0 ≤ t132 then (if t132 < (x.length : Int) then (some ((rd_T71 x t132).f1, 0)) else (none)) else (none))))) ?_
    refine Ev.congr (f := fun k => (spigotref14_At.f k x key).bind fun t132 => (if 0 ≤ t132 then (if t132 < (x.length : Int) then (some ((rd_T71 x t132).f1, (0 : Int))) else (none)) else (none))) (fun k => by rw [if_neg (by omega)]) ?_
    refine Ev.bind ha (f := fun k t132 => (if 0 ≤ t132 then (if t132 < (x.length : Int) then (some ((rd_T71 x t132).f1, (0 : Int))) else (none)) else (none))) ?_
    refine Ev.congr (fun k => ?_) (Ev.now _)
    rw [if_pos (by omega), if_pos (by omega)]
    unfold findAt; rw [if_pos u]
  · refine Ev.bind ha (f := fun k t131 => (if t131 < 0 then (some (0, 6)) else ((spigotref14_At.f k x key).bind fun t132 => (if 0 ≤ t132 then (if t132 < (x.length : Int) then (some ((rd_T71 x t132).f1, 0)) else (none)) else (none))))) ?_
    refine Ev.congr (fun k => ?_) (Ev.now _)
    rw [if_pos (by omega)]
    unfold findAt; rw [if_neg (by rw [u]; simp)]

/-! ### not valid -/
theorem find_no {x : List S71} (h : ¬ Valid x) (key : Int) : Ev (fun k => probe_Find.f k x key) (0, 8) := by
  refine Ev.bind (check_no h) (f := fun k t111 => (if t111 = 0 then ((probe_look.f k x key).bind fun bt112 => (if 0 ≤ bt112.1 then (if bt112.1 < (x.length : Int) then (if ((rd_T71 x bt112.1).f2 = true) then (some ((rd_T71 x bt112.1).f1, 0)) else (some (0, 6))) else (none)) else (none))) else (some (0, t111)))) ?_
  exact Ev.now _
theorem rfind_no {x : List S71} (hk : Keys x) (h : ¬ Valid x) (key : Int) : Ev (fun k => spigotref14_Find.f k x key) (0, 8) := by
  refine Ev.bind (rcheck_no hk h) (f := fun k t129 => (if t129 = 0 then ((spigotref14_At.f k x key).bind fun t131 => (if t131 < 0 then (some (0, 6)) else ((spigotref14_At.f k x key).bind fun t132 => (if 0 ≤ t132 then (if t132 < (x.length : Int) then (some ((rd_T71 x t132).f1, 0)) else (none)) else (none))))) else ((spigotref14_Check.f k x).bind fun t130 => (some (0, t130))))) ?_
  exact Ev.bind (rcheck_no hk h) (f := fun _ t130 => some ((0 : Int), t130)) (Ev.now _)
theorem steps_no {x : List S71} (h : ¬ Valid x) (key : Int) : Ev (fun k => probe_Steps.f k x key) (0, 8) := by
  refine Ev.bind (check_no h) (f := fun k t134 => (if t134 = 0 then ((probe_look.f k x key).bind fun bt135 => (some (bt135.2, 0))) else (some (0, t134)))) ?_
  exact Ev.now _
theorem rsteps_no {x : List S71} (hk : Keys x) (h : ¬ Valid x) (key : Int) : Ev (fun k => spigotref14_Steps.f k x key) (0, 8) := by
  refine Ev.bind (rcheck_no hk h) (f := fun k t137 => (if t137 = 0 then ((spigotref14_Home.f key).bind fun t139 => (spigotref14_Steps.l0 k x key 0 t139)) else ((spigotref14_Check.f k x).bind fun t138 => (some (0, t138))))) ?_
  exact Ev.bind (rcheck_no hk h) (f := fun _ t138 => some ((0 : Int), t138)) (Ev.now _)
end Go.Proofs.Ytlgfopdindklnaa.ProbePlain
