/- What keys a valid index has after Put and Drop of the probe; alike. -/
import Derived.Test.YtlgfopdindklnaaProbePlain2
import Derived.Test.YtlgfopdindklnaaPProbex21
namespace Go.Proofs.Ytlgfopdindklnaa.ProbePlain
open Go.RowKit Go.Proofs.Ytlgfopdindklnaa.PProbe Go.Proofs.YtlgfopdindklnaaW.PrintWords Go.Proofs.YtlgfopdindklnaaW.PrintLast

/-- The index has the key with the place. -/
def Has (x : List S71) (key place : Int) : Prop := ∃ m : Int, 0 ≤ m ∧ m < 16 ∧ (rd_T71 x m).f2 = true ∧ (rd_T71 x m).f0 = key ∧ (rd_T71 x m).f1 = place
/-- The same but for the cell i. -/
def HasBut (x : List S71) (i key place : Int) : Prop := ∃ m : Int, 0 ≤ m ∧ m < 16 ∧ m ≠ i ∧ (rd_T71 x m).f2 = true ∧ (rd_T71 x m).f0 = key ∧ (rd_T71 x m).f1 = place

theorem has_place {x : List S71} (h : Valid x) {key place : Int} (hh : Has x key place) : 0 ≤ place ∧ place < 16 := by
  obtain ⟨m, a, b, u, _, e⟩ := hh
  rw [← e]; exact h.place m a b u
theorem has_one {x : List S71} (h : Valid x) {key p q : Int} (hp : Has x key p) (hq : Has x key q) : p = q := by
  obtain ⟨m, a, b, u, e, f⟩ := hp
  obtain ⟨m', a', b', u', e', f'⟩ := hq
  have := h.uniq m m' a b a' b' u u' (by rw [e, e'])
  subst this; rw [← f, ← f']

/-- Filling, part by part: the hole i counts as used. -/
structure Inv (p : List S71) (i j : Int) (n : Nat) : Prop where
  run : Run p i j n
  iu : (rd_T71 p i).f2 = true
  few : cnt p ≤ 12
  zero : ∀ m : Int, 0 ≤ m → m < 16 → (rd_T71 p m).f2 = false → (rd_T71 p m).f0 = 0 ∧ (rd_T71 p m).f1 = 0
  place : ∀ m : Int, 0 ≤ m → m < 16 → m ≠ i → (rd_T71 p m).f2 = true → 0 ≤ (rd_T71 p m).f1 ∧ (rd_T71 p m).f1 < 16
  uniq : ∀ m m' : Int, 0 ≤ m → m < 16 → m ≠ i → 0 ≤ m' → m' < 16 → m' ≠ i → (rd_T71 p m).f2 = true → (rd_T71 p m').f2 = true → (rd_T71 p m).f0 = (rd_T71 p m').f0 → m = m'
  path : ∀ m : Int, 0 ≤ m → m < 16 → m ≠ i → (rd_T71 p m).f2 = true → ∀ e : Nat, (e : Int) < (m - hm (rd_T71 p m).f0) % 16 → (rd_T71 p ((hm (rd_T71 p m).f0 + e) % 16)).f2 = true
  later : ∀ m : Int, 0 ≤ m → m < 16 → m ≠ i → (rd_T71 p m).f2 = true → (i - hm (rd_T71 p m).f0) % 16 < (m - hm (rd_T71 p m).f0) % 16 → (j - i) % 16 ≤ (m - i) % 16

theorem fill_ok (n : Nat) : ∀ (p : List S71) (i j : Int), Inv p i j n →
    Valid (fill n i p j) ∧ (∀ key place, Has (fill n i p j) key place ↔ HasBut p i key place) ∧ cnt (fill n i p j) + 1 = cnt p := by
  induction n with
  | zero =>
    intro p i j v
    obtain ⟨a, b, c, d, e, f, g, u, l⟩ := v.run
    rw [show (j + ((0 : Nat) : Int)) % 16 = j by omega] at l
    have rs : ∀ m : Int, 0 ≤ m → rd_T71 (p.set i.toNat z71) m = if i = m then z71 else rd_T71 p m := fun m m0 => rdc_set b (by omega) m0
    have cs := cnt_set (x := p) (v := z71) b (by omega)
    rw [if_pos v.iu, if_neg (by decide)] at cs
    rw [fill]
    have few := v.few
    refine ⟨?_, ?_, by omega⟩
    · constructor
      · simpa using a
      · omega
      · intro m m0 m1 hu
        rw [rs m m0] at hu ⊢
        by_cases q : i = m
        · rw [if_pos q]; exact ⟨rfl, rfl⟩
        · rw [if_neg q] at hu ⊢; exact v.zero m m0 m1 hu
      · intro m m0 m1 hu
        rw [rs m m0] at hu ⊢
        by_cases q : i = m
        · rw [if_pos q] at hu; exact absurd hu (by decide)
        · rw [if_neg q] at hu ⊢; exact v.place m m0 m1 (fun z => q z.symm) hu
      · intro m m' m0 m1 m0' m1' hu hu' hk
        rw [rs m m0] at hu hk
        rw [rs m' m0'] at hu' hk
        by_cases q : i = m
        · rw [if_pos q] at hu; exact absurd hu (by decide)
        · by_cases q' : i = m'
          · rw [if_pos q'] at hu'; exact absurd hu' (by decide)
          · rw [if_neg q] at hu hk; rw [if_neg q'] at hu' hk
            exact v.uniq m m' m0 m1 (fun z => q z.symm) m0' m1' (fun z => q' z.symm) hu hu' hk
      · intro m m0 m1 hu t ht
        rw [rs m m0] at hu ht ⊢
        by_cases q : i = m
        · rw [if_pos q] at hu; exact absurd hu (by decide)
        · rw [if_neg q] at hu ht ⊢
          have hr := hm_range (rd_T71 p m).f0
          rw [rs _ (by omega)]
          by_cases q2 : i = (hm (rd_T71 p m).f0 + (t : Int)) % 16
          · exfalso
            have hl := v.later m m0 m1 (fun z => q z.symm) hu (by omega)
            have hne : m ≠ j := fun z => by rw [z, l] at hu; exact absurd hu (by simp)
            have := v.path m m0 m1 (fun z => q z.symm) hu ((j - hm (rd_T71 p m).f0) % 16).toNat (by omega)
            rw [show (hm (rd_T71 p m).f0 + (((j - hm (rd_T71 p m).f0) % 16).toNat : Int)) % 16 = j by omega, l] at this
            exact absurd this (by simp)
          · rw [if_neg q2]
            exact v.path m m0 m1 (fun z => q z.symm) hu t ht
    · intro key place
      constructor
      · rintro ⟨m, m0, m1, hu, hk, hp⟩
        rw [rs m m0] at hu hk hp
        by_cases q : i = m
        · rw [if_pos q] at hu; exact absurd hu (by decide)
        · rw [if_neg q] at hu hk hp; exact ⟨m, m0, m1, fun z => q z.symm, hu, hk, hp⟩
      · rintro ⟨m, m0, m1, hne, hu, hk, hp⟩
        refine ⟨m, m0, m1, ?_⟩
        rw [rs m m0, if_neg (fun z => hne z.symm)]; exact ⟨hu, hk, hp⟩
  | succ n ih =>
    intro p i j v
    have hn := v.run.next
    have hmv := v.run.move
    obtain ⟨a, b, c, d, e, f, g, u, l⟩ := v.run
    have hr := hm_range (rd_T71 p j).f0
    have u0 := u 0 (by omega)
    rw [show (j + ((0 : Nat) : Int)) % 16 = j by omega] at u0
    have hij : j ≠ i := by omega
    rw [fill]
    by_cases t : (hm (rd_T71 p j).f0 - i - 1) % 16 ≥ (j - i) % 16
    · rw [if_pos t]
      have rs : ∀ m : Int, 0 ≤ m → rd_T71 (p.set i.toNat (rd_T71 p j)) m = if i = m then rd_T71 p j else rd_T71 p m := fun m m0 => rdc_set b (by omega) m0
      have fl : ∀ m : Int, 0 ≤ m → (rd_T71 (p.set i.toNat (rd_T71 p j)) m).f2 = (rd_T71 p m).f2 := by
        intro m m0
        rw [rs m m0]
        by_cases q : i = m
        · rw [if_pos q, u0, ← q, v.iu]
        · rw [if_neg q]
      have cs := cnt_set (x := p) (v := rd_T71 p j) b (by omega)
      rw [if_pos v.iu, if_pos u0] at cs
      have v' : Inv (p.set i.toNat (rd_T71 p j)) j ((j + 1) % 16) n := by
        refine ⟨hmv, by rw [fl j d]; exact u0, by have := v.few; omega, ?_, ?_, ?_, ?_, ?_⟩
        · intro m m0 m1 hu
          have hu2 := hu
          rw [fl m m0] at hu2
          rw [rs m m0]
          by_cases q : i = m
          · rw [← q, v.iu] at hu2; exact absurd hu2 (by simp)
          · rw [if_neg q]; exact v.zero m m0 m1 hu2
        · intro m m0 m1 hne hu
          rw [fl m m0] at hu
          rw [rs m m0]
          by_cases q : i = m
          · rw [if_pos q]; exact v.place j d e hij u0
          · rw [if_neg q]; exact v.place m m0 m1 (fun z => q z.symm) hu
        · intro m m' m0 m1 hne m0' m1' hne' hu hu' hk
          rw [fl m m0] at hu
          rw [fl m' m0'] at hu'
          rw [rs m m0, rs m' m0'] at hk
          by_cases q : i = m
          · by_cases q' : i = m'
            · omega
            · rw [if_pos q, if_neg q'] at hk
              exact absurd (v.uniq j m' d e hij m0' m1' (fun z => q' z.symm) u0 hu' hk).symm hne'
          · by_cases q' : i = m'
            · rw [if_neg q, if_pos q'] at hk
              exact absurd (v.uniq m j m0 m1 (fun z => q z.symm) d e hij hu u0 hk) hne
            · rw [if_neg q, if_neg q'] at hk
              exact v.uniq m m' m0 m1 (fun z => q z.symm) m0' m1' (fun z => q' z.symm) hu hu' hk
        · intro m m0 m1 hne hu s hs
          rw [fl m m0] at hu
          rw [rs m m0] at hs ⊢
          by_cases q : i = m
          · rw [if_pos q] at hs ⊢
            rw [fl _ (by omega)]
            exact v.path j d e hij u0 s (by omega)
          · rw [if_neg q] at hs ⊢
            have hr2 := hm_range (rd_T71 p m).f0
            rw [fl _ (by omega)]
            exact v.path m m0 m1 (fun z => q z.symm) hu s hs
        · intro m m0 m1 hne _ _
          omega
      obtain ⟨w1, w2, w3⟩ := ih _ _ _ v'
      refine ⟨w1, fun key place => (w2 key place).trans ?_, by omega⟩
      constructor
      · rintro ⟨m, m0, m1, hne, hu, hk, hp⟩
        rw [rs m m0] at hu hk hp
        by_cases q : i = m
        · rw [if_pos q] at hu hk hp; exact ⟨j, d, e, hij, hu, hk, hp⟩
        · rw [if_neg q] at hu hk hp; exact ⟨m, m0, m1, fun z => q z.symm, hu, hk, hp⟩
      · rintro ⟨m, m0, m1, hne, hu, hk, hp⟩
        by_cases q : m = j
        · refine ⟨i, b, c, fun z => hij z.symm, ?_⟩
          rw [rs i b, if_pos rfl, ← q]; exact ⟨hu, hk, hp⟩
        · refine ⟨m, m0, m1, q, ?_⟩
          rw [rs m m0, if_neg (fun z => hne z.symm)]; exact ⟨hu, hk, hp⟩
    · rw [if_neg t]
      refine ih _ _ _ ⟨hn, v.iu, v.few, v.zero, v.place, v.uniq, v.path, ?_⟩
      intro m m0 m1 hne hu hlt
      have h1 := v.later m m0 m1 hne hu hlt
      have hne2 : m ≠ j := by
        intro z
        subst z
        omega
      omega

theorem inv_start {x : List S71} (h : Valid x) {i : Int} (h0 : 0 ≤ i) (h1 : i < 16) (hu : (rd_T71 x i).f2 = true) {n : Nat} (hr : Run x i ((i + 1) % 16) n) : Inv x i ((i + 1) % 16) n where
  run := hr
  iu := hu
  few := h.few
  zero := h.zero
  place m m0 m1 _ u := h.place m m0 m1 u
  uniq m m' m0 m1 _ m0' m1' _ u u' hk := h.uniq m m' m0 m1 m0' m1' u u' hk
  path m m0 m1 _ u := h.path m m0 m1 u
  later m m0 m1 hne _ _ := by omega

theorem drop_ok {x : List S71} (h : Valid x) {key place : Int} (hh : Has x key place) :
    ∃ z, Ev (fun k => probe_Drop.f k x key) (z, 0) ∧ Valid z ∧ (∀ k p, Has z k p ↔ Has x k p ∧ k ≠ key) ∧ cnt z + 1 = cnt x := by
  obtain ⟨m, m0, m1, hu, hk, hp⟩ := hh
  obtain ⟨d, hd, ho, hq, hc⟩ := found h key
  rcases hc with ⟨u, e, _⟩ | ⟨_, hn, _⟩
  · obtain ⟨n, hr⟩ := run_ex h.len h.few (i := (hm key + d) % 16) (by omega) (by omega) u
    have ev := drop_ev h hd ho hq (fun _ => hr)
    rw [if_pos u] at ev
    obtain ⟨w1, w2, w3⟩ := fill_ok n _ _ _ (inv_start h (by omega) (by omega) u hr)
    refine ⟨_, ev, w1, fun k p => (w2 k p).trans ?_, w3⟩
    constructor
    · rintro ⟨c, c0, c1, cne, cu, ck, cp⟩
      refine ⟨⟨c, c0, c1, cu, ck, cp⟩, fun z => cne ?_⟩
      exact h.uniq c _ c0 c1 (by omega) (by omega) cu u (by rw [ck, z, e])
    · rintro ⟨⟨c, c0, c1, cu, ck, cp⟩, hne⟩
      refine ⟨c, c0, c1, fun z => hne ?_, cu, ck, cp⟩
      rw [← ck, z, e]
  · exact absurd ⟨hu, hk⟩ (hn m m0 m1)

theorem drop_none {x : List S71} (h : Valid x) {key : Int} (hh : ∀ p, ¬ Has x key p) : Ev (fun k => probe_Drop.f k x key) ([], 6) := by
  obtain ⟨d, hd, ho, hq, hc⟩ := found h key
  rcases hc with ⟨u, e, _⟩ | ⟨u, hn, _⟩
  · exact absurd ⟨(hm key + d) % 16, by omega, by omega, u, e, rfl⟩ (hh (rd_T71 x ((hm key + d) % 16)).f1)
  · have ev := drop_ev h (n := 0) hd ho hq (fun z => by rw [u] at z; exact absurd z (by simp))
    rw [if_neg (by rw [u]; simp)] at ev
    exact ev

theorem find_has {x : List S71} (h : Valid x) {key place : Int} (hh : Has x key place) : Ev (fun k => probe_Find.f k x key) (place, 0) := by
  obtain ⟨d, hd, ho, hq, hc⟩ := found h key
  have ev := find_ev h hd ho hq
  rcases hc with ⟨u, e, _⟩ | ⟨u, hn, _⟩
  · have : findAt x key d = (place, 0) := by
      unfold findAt; rw [if_pos u, has_one h hh ⟨(hm key + d) % 16, by omega, by omega, u, e, rfl⟩]
    rw [this] at ev; exact ev
  · obtain ⟨m, m0, m1, mu, mk, _⟩ := hh
    exact absurd ⟨mu, mk⟩ (hn m m0 m1)
theorem find_none {x : List S71} (h : Valid x) {key : Int} (hh : ∀ p, ¬ Has x key p) : Ev (fun k => probe_Find.f k x key) (0, 6) := by
  obtain ⟨d, hd, ho, hq, hc⟩ := found h key
  have ev := find_ev h hd ho hq
  rcases hc with ⟨u, e, _⟩ | ⟨u, hn, _⟩
  · exact absurd ⟨(hm key + d) % 16, by omega, by omega, u, e, rfl⟩ (hh (rd_T71 x ((hm key + d) % 16)).f1)
  · have : findAt x key d = (0, 6) := by unfold findAt; rw [if_neg (by rw [u]; simp)]
    rw [this] at ev; exact ev

theorem at_has {x : List S71} (h : Valid x) {key place : Int} (hh : Has x key place) : ∃ r : Int, 0 ≤ r ∧ r < 16 ∧ Ev (fun k => spigotref14_At.f k x key) r ∧ (rd_T71 x r).f1 = place := by
  have hl := h.len
  obtain ⟨m, m0, m1, mu, mk, mp⟩ := hh
  have := at_valid h m m0 m1 mu
  rw [mk] at this
  exact ⟨m, m0, m1, this, mp⟩
theorem at_none {x : List S71} (h : Valid x) {key : Int} (hh : ∀ p, ¬ Has x key p) : Ev (fun k => spigotref14_At.f k x key) (-1) := by
  have hl := h.len
  obtain ⟨r, hr, hc⟩ := at_ex (x := x) (by omega) key
  rcases hc with ⟨rfl, _⟩ | ⟨a, b, u, e⟩
  · exact hr
  · exact absurd ⟨r, a, by omega, u, e, rfl⟩ (hh _)

/-- Put on a valid index: what it answers by the keys that are there. -/
theorem put_ok {x : List S71} (h : Valid x) {key place : Int} (hn : ∀ p, ¬ Has x key p) (p0 : 0 ≤ place) (p1 : place < 16) (hc : cnt x < 12) :
    ∃ y, Ev (fun k => probe_Put.f k x key place) (y, 0) ∧ Valid y ∧ (∀ k p, Has y k p ↔ Has x k p ∨ (k = key ∧ p = place)) ∧ cnt y = cnt x + 1 := by
  have hl := h.len
  have hr := hm_range key
  obtain ⟨d, hd, ho, hq, hw⟩ := found h key
  have ev := put_ev h place hd ho hq
  rcases hw with ⟨u, e, _⟩ | ⟨u, hno, _⟩
  · exact absurd ⟨(hm key + d) % 16, by omega, by omega, u, e, rfl⟩ (hn (rd_T71 x ((hm key + d) % 16)).f1)
  have e1 : putAt x key place d = (x.set ((hm key + d) % 16).toNat ⟨key, place, true⟩, 0) := by
    unfold putAt
    rw [if_neg (by omega), if_neg (by rw [u]; simp), if_neg (by omega)]
  rw [e1] at ev
  generalize hpos : (hm key + (d : Int)) % 16 = pos at ev u
  have q0 : 0 ≤ pos := by omega
  have q1 : pos < 16 := by omega
  have rs : ∀ m : Int, 0 ≤ m → rd_T71 (x.set pos.toNat ⟨key, place, true⟩) m = if pos = m then ⟨key, place, true⟩ else rd_T71 x m := fun m m0 => rdc_set q0 (by omega) m0
  have cs := cnt_set (x := x) (v := ⟨key, place, true⟩) q0 (by omega)
  rw [if_neg (by rw [u]; simp), if_pos rfl] at cs
  have up : ∀ m : Int, 0 ≤ m → (rd_T71 x m).f2 = true → (rd_T71 (x.set pos.toNat ⟨key, place, true⟩) m).f2 = true := by
    intro m m0 hu
    rw [rs m m0]
    by_cases q : pos = m
    · rw [if_pos q]
    · rw [if_neg q]; exact hu
  refine ⟨_, ev, ⟨by simpa using hl, by omega, ?_, ?_, ?_, ?_⟩, ?_, by omega⟩
  · intro m m0 m1 hu
    rw [rs m m0] at hu ⊢
    by_cases q : pos = m
    · rw [if_pos q] at hu; exact absurd hu (by simp)
    · rw [if_neg q] at hu ⊢; exact h.zero m m0 m1 hu
  · intro m m0 m1 hu
    rw [rs m m0] at hu ⊢
    by_cases q : pos = m
    · rw [if_pos q]; exact ⟨p0, p1⟩
    · rw [if_neg q] at hu ⊢; exact h.place m m0 m1 hu
  · intro m m' m0 m1 m0' m1' hu hu' hk
    rw [rs m m0] at hu hk
    rw [rs m' m0'] at hu' hk
    by_cases q : pos = m
    · by_cases q' : pos = m'
      · omega
      · rw [if_pos q, if_neg q'] at hk
        rw [if_neg q'] at hu'
        exact absurd ⟨hu', hk.symm⟩ (hno m' m0' m1')
    · by_cases q' : pos = m'
      · rw [if_neg q, if_pos q'] at hk
        rw [if_neg q] at hu
        exact absurd ⟨hu, hk⟩ (hno m m0 m1)
      · rw [if_neg q] at hu hk; rw [if_neg q'] at hu' hk
        exact h.uniq m m' m0 m1 m0' m1' hu hu' hk
  · intro m m0 m1 hu s hs
    rw [rs m m0] at hu hs ⊢
    by_cases q : pos = m
    · rw [if_pos q] at hs ⊢
      refine up _ (by omega) (ho s ?_).1
      have : (s : Int) < (m - hm key) % 16 := hs
      omega
    · rw [if_neg q] at hu hs ⊢
      have hr2 := hm_range (rd_T71 x m).f0
      exact up _ (by omega) (h.path m m0 m1 hu s hs)
  · intro k p
    constructor
    · rintro ⟨m, m0, m1, hu, hk, hp⟩
      rw [rs m m0] at hu hk hp
      by_cases q : pos = m
      · rw [if_pos q] at hk hp; exact Or.inr ⟨hk.symm, hp.symm⟩
      · rw [if_neg q] at hu hk hp; exact Or.inl ⟨m, m0, m1, hu, hk, hp⟩
    · rintro (⟨m, m0, m1, hu, hk, hp⟩ | ⟨hk, hp⟩)
      · refine ⟨m, m0, m1, ?_⟩
        rw [rs m m0, if_neg (fun z => by rw [← z, u] at hu; exact absurd hu (by simp))]
        exact ⟨hu, hk, hp⟩
      · refine ⟨pos, q0, q1, ?_⟩
        rw [rs pos q0, if_pos rfl]
        exact ⟨rfl, hk.symm, hp.symm⟩

/-- Put on a valid index, when it refuses. -/
theorem put_not {x : List S71} (h : Valid x) {key place : Int} (hn : place < 0 ∨ place ≥ 16 ∨ (∃ p, Has x key p) ∨ 12 ≤ cnt x) :
    ∃ e : Int, e ≠ 0 ∧ Ev (fun k => probe_Put.f k x key place) ([], e) := by
  have hl := h.len
  obtain ⟨d, hd, ho, hq, hw⟩ := found h key
  have ev := put_ev h place hd ho hq
  unfold putAt at ev
  by_cases a : place < 0 ∨ place ≥ 16
  · rw [if_pos a] at ev; exact ⟨2, by omega, ev⟩
  · rw [if_neg a] at ev
    rcases hw with ⟨u, e, _⟩ | ⟨u, hno, _⟩
    · rw [if_pos u] at ev; exact ⟨14, by omega, ev⟩
    · rw [if_neg (by rw [u]; simp)] at ev
      by_cases c : 12 ≤ cnt x
      · rw [if_pos c] at ev; exact ⟨18, by omega, ev⟩
      · rcases hn with b | b | ⟨p, m, m0, m1, mu, mk, _⟩ | b
        · omega
        · omega
        · exact absurd ⟨mu, mk⟩ (hno m m0 m1)
        · exact absurd b c
/-- Put on a valid index that is full, of a key that isn't there. -/
theorem put_full {x : List S71} (h : Valid x) {key place : Int} (hn : ∀ p, ¬ Has x key p) (p0 : 0 ≤ place) (p1 : place < 16) (hc : 12 ≤ cnt x) :
    Ev (fun k => probe_Put.f k x key place) ([], 18) := by
  obtain ⟨d, hd, ho, hq, hw⟩ := found h key
  have ev := put_ev h place hd ho hq
  unfold putAt at ev
  rw [if_neg (by omega)] at ev
  rcases hw with ⟨u, e, _⟩ | ⟨u, hno, _⟩
  · exact absurd ⟨(hm key + d) % 16, by omega, by omega, u, e, rfl⟩ (hn (rd_T71 x ((hm key + d) % 16)).f1)
  · rw [if_neg (by rw [u]; simp), if_pos hc] at ev; exact ev

theorem keys_of {x : List S71} (h : Valid x) (hk : ∀ k p, Has x k p → 0 ≤ k ∧ k < 4294967296) : Keys x := by
  intro i i0 i1
  have hl := h.len
  by_cases u : (rd_T71 x i).f2 = true
  · exact hk _ _ ⟨i, i0, by omega, u, rfl, rfl⟩
  · have := (h.zero i i0 (by omega) (by simpa using u)).1
    omega
theorem has_keys {x : List S71} (h : Valid x) (hk : Keys x) : ∀ k p, Has x k p → 0 ≤ k ∧ k < 4294967296 := by
  rintro k p ⟨m, m0, m1, _, e, _⟩
  have hl := h.len
  rw [← e]; exact hk m m0 (by omega)

/-! ### alike -/
theorem alike_l0 {x z : List S71} (hx : Valid x) (hz : Valid z) (hh : ∀ k p, Has x k p → Has z k p) (n : Nat) : ∀ i : Int, 0 ≤ i → i + n = 16 → Ev (fun k => spigotlaw14_alike.l0 k x z i) true := by
  have lx := hx.len
  have lz := hz.len
  induction n with
  | zero =>
    intro i i0 hi
    refine Ev.step (f := fun _ => some _) (fun k => ?_) (Ev.now _)
    rw [spigotlaw14_alike.l0, if_neg (by omega)]
  | succ n ih =>
    intro i i0 hi
    have hr := ih (i + 1) (by omega) (by omega)
    by_cases u : (rd_T71 x i).f2 = true
    · obtain ⟨r, r0, r1, ha, hp⟩ := at_has hz (hh _ _ ⟨i, i0, by omega, u, rfl, rfl⟩)
      refine Ev.step (g := fun k => spigotlaw14_alike.l0 k x z i) (fun k => ?_) (Ev.bind ha (f := fun k t440 => (if (rd_T71 x i).f2 = true then (if t440 < 0 then (some false) else (if 0 ≤ t440 then (if t440 < (z.length : Int) then (if ((rd_T71 z t440).f1) = ((rd_T71 x i).f1) then (spigotlaw14_alike.l0 k x z (wrap64 (i + 1))) else (some false)) else (none)) else (none))) else (spigotlaw14_alike.l0 k x z (wrap64 (i + 1))))) ?_)
      · rw [spigotlaw14_alike.l0, if_pos (by omega), if_pos i0]
      · refine Ev.congr (fun k => ?_) hr
        rw [if_pos u, if_neg (by omega), if_pos r0, if_pos (by omega), if_pos hp, w0 (by omega) (by omega)]
    · obtain ⟨r, ha, _⟩ := at_ex (x := z) (by omega) (rd_T71 x i).f0
      refine Ev.step (g := fun k => spigotlaw14_alike.l0 k x z i) (fun k => ?_) (Ev.bind ha (f := fun k t440 => (if (rd_T71 x i).f2 = true then (if t440 < 0 then (some false) else (if 0 ≤ t440 then (if t440 < (z.length : Int) then (if ((rd_T71 z t440).f1) = ((rd_T71 x i).f1) then (spigotlaw14_alike.l0 k x z (wrap64 (i + 1))) else (some false)) else (none)) else (none))) else (spigotlaw14_alike.l0 k x z (wrap64 (i + 1))))) ?_)
      · rw [spigotlaw14_alike.l0, if_pos (by omega), if_pos i0]
      · refine Ev.congr (fun k => ?_) hr
        rw [if_neg u, w0 (by omega) (by omega)]
theorem alike_ev {x z : List S71} (hx : Valid x) (hz : Valid z) (hh : ∀ k p, Has x k p → Has z k p) (hc : cnt x = cnt z) : Ev (fun k => spigotlaw14_alike.f k x z) true := by
  have lx := hx.len
  have lz := hz.len
  refine Ev.congr (f := fun k => ((spigotref14_Count.f k x).bind fun t437 => ((spigotref14_Count.f k z).bind fun t438 => (spigotlaw14_alike.j0 k x z (t437 != t438))))) (fun k => ?_) ?_
  · unfold spigotlaw14_alike.f
    rw [if_pos (by omega)]
  · refine Ev.bind (count_ev (x := x) (by omega)) (f := fun k t437 => ((spigotref14_Count.f k z).bind fun t438 => (spigotlaw14_alike.j0 k x z (t437 != t438)))) ?_
    refine Ev.bind (count_ev (x := z) (by omega)) (f := fun k t438 => (spigotlaw14_alike.j0 k x z ((cnt x : Int) != t438))) ?_
    rw [show (((cnt x : Int)) != (cnt z : Int)) = false by simp [hc]]
    refine Ev.step (fun k => ?_) (alike_l0 hx hz hh 16 0 (by omega) (by omega))
    rw [spigotlaw14_alike.j0, if_neg (by simp)]
end Go.Proofs.Ytlgfopdindklnaa.ProbePlain
