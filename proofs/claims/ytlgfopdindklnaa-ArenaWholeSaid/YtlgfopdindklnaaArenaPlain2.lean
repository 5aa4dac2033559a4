/- What taking, giving back and counting come to, over valid arenas and others. -/
import Derived.Test.YtlgfopdindklnaaArenaPlain
namespace Go.Proofs.Ytlgfopdindklnaa.ArenaPlain
open Go.RowKit Go.Proofs.Ytlgfopdindklnaa.PArena Go.Proofs.YtlgfopdindklnaaW.PrintWords Go.Proofs.YtlgfopdindklnaaW.PrintLast

theorem Ev.both {α : Type} {g : Nat → Option α} {r q : α} (h : Ev g r) (h' : Ev g q) : r = q := by
  obtain ⟨K1, h⟩ := Ev.get h
  obtain ⟨K2, h'⟩ := Ev.get h'
  have h1 := h (max K1 K2) (by omega)
  have h2 := h' (max K1 K2) (by omega)
  rw [h1] at h2
  exact Option.some.inj h2

theorem Good.det {next : List Int} {used : List Bool} {free : Int} {l l' : List Int} (g : Good next used free l) (g' : Good next used free l') : l = l' := g.chain.det g'.chain

theorem Chain.set {next : List Int} {i p v : Int} {l : List Int} (h : Chain next i l) (h0 : 0 ≤ p) (h1 : p < next.length) (hp : ¬ p ∈ l) : Chain (next.set p.toNat v) i l := by
  induction h with
  | nil => exact .nil
  | @cons i l a b _ ih =>
    have hne : ¬ p = i := fun e => hp (by simp [e])
    refine .cons a (by simpa using b) ?_
    rw [rd_set h0 h1 a, if_neg hne]
    exact ih (fun hm => hp (by simp [hm]))

theorem Good.take {next : List Int} {used : List Bool} {free p : Int} {l : List Int} (g : Good next used free (p :: l)) :
    p = free ∧ 0 ≤ p ∧ p < next.length ∧ ¬ rdOf false used p = true ∧ Good (next.set p.toNat (-1)) (used.set p.toNat true) (rd next p) l := by
  have hc := g.chain
  have hs := g.same
  obtain ⟨hpl, hnd⟩ := List.nodup_cons.1 g.nodup
  cases hc with
  | cons h0 h1 hc =>
    have hm := g.mark free h0 (by omega)
    refine ⟨rfl, h0, h1, by rw [hm]; simp, ⟨by simpa using g.low, by simpa using g.high, by simpa using g.same, hc.set h0 h1 hpl, hnd, fun j a b => ?_, fun j a b c => ?_⟩⟩
    · simp at b
      rw [rdOf_set h0 (by omega) a]
      by_cases e : free = j
      · subst e; simp [hpl]
      · rw [if_neg e, g.mark j a b]
        simp [show ¬ j = free from fun h => e h.symm]
    · simp at b
      rw [rdOf_set h0 (by omega) a] at c
      rw [rd_set h0 h1 a]
      by_cases e : free = j
      · rw [if_pos e]
      · rw [if_neg e] at c ⊢
        exact g.end_ j a b c

theorem Good.give {next : List Int} {used : List Bool} {free p : Int} {l : List Int} (g : Good next used free l) (h0 : 0 ≤ p) (h1 : p < next.length) (hu : rdOf false used p = true) :
    Good (next.set p.toNat free) (used.set p.toNat false) p (p :: l) := by
  have hs := g.same
  have hpl : ¬ p ∈ l := (g.mark p h0 (by omega)).1 hu
  refine ⟨by simpa using g.low, by simpa using g.high, by simpa using g.same, .cons h0 (by simpa using h1) ?_, List.nodup_cons.2 ⟨hpl, g.nodup⟩, fun j a b => ?_, fun j a b c => ?_⟩
  · rw [rd_set h0 h1 h0, if_pos rfl]
    exact g.chain.set h0 h1 hpl
  · simp at b
    rw [rdOf_set h0 (by omega) a]
    by_cases e : p = j
    · subst e; simp
    · rw [if_neg e, g.mark j a b]
      simp [show ¬ j = p from fun h => e h.symm]
  · simp at b
    rw [rdOf_set h0 (by omega) a] at c
    rw [rd_set h0 h1 a]
    by_cases e : p = j
    · rw [if_pos e] at c; exact Bool.noConfusion c
    · rw [if_neg e] at c ⊢
      exact g.end_ j a b c

/-! ### arena.Take -/
theorem Take_yes {next : List Int} {used : List Bool} {free p : Int} {l : List Int} (g : Good next used free (p :: l)) :
    Ev (fun k => arena_Take.f k next used free) (next.set p.toNat (-1), used.set p.toNat true, rd next p, p, 0) := by
  obtain ⟨K, h⟩ := Ev.get (Check_yes g)
  obtain ⟨rfl, h0, h1, _⟩ := g.take
  have hh := g.high
  have hs := g.same
  refine Ev.succ K fun k hk => ?_
  unfold arena_Take.f
  rw [h (k + 1) (by omega)]
  simp only [Option.bind_some, if_true]
  rw [if_neg (by omega), twin_f (by omega) (by omega)]
  simp only [Option.bind_some]
  rw [if_pos h0, if_pos h1, if_pos h1, if_pos (by omega)]
theorem Take_full {next : List Int} {used : List Bool} {free : Int} (g : Good next used free []) : free = -1 ∧ Ev (fun k => arena_Take.f k next used free) ([], [], 0, 0, 18) := by
  obtain ⟨K, h⟩ := Ev.get (Check_yes g)
  have hc := g.chain
  have e : free = -1 := by
    generalize hl : ([] : List Int) = l at hc
    cases hc with
    | nil => rfl
    | cons => cases hl
  refine ⟨e, Ev.succ K fun k hk => ?_⟩
  unfold arena_Take.f
  rw [h (k + 1) (by omega)]
  simp only [Option.bind_some, if_true]
  rw [if_pos e]
theorem Take_no {next : List Int} {used : List Bool} {free : Int} (hn : ¬ Valid next used free) : Ev (fun k => arena_Take.f k next used free) ([], [], 0, 0, 8) := by
  obtain ⟨K, h⟩ := Ev.get (Check_no hn)
  refine Ev.succ K fun k hk => ?_
  unfold arena_Take.f
  rw [h (k + 1) (by omega)]
  rfl
theorem rd_cons (x : Int) (l : List Int) : rd (x :: l) 0 = x := rfl
theorem rd_cons1 (x y : Int) (l : List Int) : rd (x :: y :: l) 1 = y := rfl
theorem RefTake_yes {next : List Int} {used : List Bool} {free p : Int} {l : List Int} (g : Good next used free (p :: l)) :
    Ev (fun k => spigotref13_Take.f k next used free) (next.set p.toNat (-1), used.set p.toNat true, rd next p, p, 0) := by
  obtain ⟨K, h⟩ := Ev.get (Ref_yes g)
  obtain ⟨K2, h2⟩ := Ev.get (Free_f_yes (used := used) g.high g.chain g.nodup)
  obtain ⟨e, h0, h1, _, g2⟩ := g.take
  have hh := g.high
  have hs := g.same
  refine Ev.succ (max K K2) fun k hk => ?_
  unfold spigotref13_Take.f
  rw [h (k + 1) (by omega), h2 (k + 1) (by omega)]
  simp only [Option.bind_some, if_true]
  rw [if_neg (by simp; omega), Twin_f (by omega) (by omega)]
  simp only [Option.bind_some, rd_cons]
  rw [if_pos (by simp), if_pos h0, if_pos (by omega), if_pos h1]
  have hc := g2.chain
  cases l with
  | nil =>
    have : rd next p = -1 := by
      generalize hl : ([] : List Int) = l at hc
      generalize rd next p = q at hc ⊢
      cases hc with
      | nil => rfl
      | cons => cases hl
    rw [if_neg (by simp), this]
  | cons q l =>
    have : rd next p = q := by
      generalize hl : (q :: l : List Int) = l' at hc
      generalize rd next p = q' at hc ⊢
      cases hc with
      | nil => cases hl
      | cons => injection hl with h1; exact h1.symm
    rw [if_pos (by simp; omega), if_pos (by simp; omega), rd_cons1, this]
theorem RefTake_full {next : List Int} {used : List Bool} {free : Int} (g : Good next used free []) : Ev (fun k => spigotref13_Take.f k next used free) ([], [], 0, 0, 18) := by
  obtain ⟨K, h⟩ := Ev.get (Ref_yes g)
  obtain ⟨K2, h2⟩ := Ev.get (Free_f_yes (used := used) g.high g.chain g.nodup)
  refine Ev.succ (max K K2) fun k hk => ?_
  unfold spigotref13_Take.f
  rw [h (k + 1) (by omega), h2 (k + 1) (by omega)]
  rfl
theorem RefTake_no {next : List Int} {used : List Bool} {free : Int} (hn : ¬ Valid next used free) : Ev (fun k => spigotref13_Take.f k next used free) ([], [], 0, 0, 8) := by
  obtain ⟨K, h⟩ := Ev.get (Ref_no hn)
  refine Ev.succ K fun k hk => ?_
  unfold spigotref13_Take.f
  rw [h (k + 1) (by omega)]
  rfl
theorem take_both {next : List Int} {used : List Bool} {free : Int} : ∃ r, Ev (fun k => arena_Take.f k next used free) r ∧ Ev (fun k => spigotref13_Take.f k next used free) r ∧ r.1.length ≤ 1000 ∧ r.2.1.length ≤ 1000 := by
  by_cases hv : Valid next used free
  · obtain ⟨l, g⟩ := hv
    have hh := g.high
    have hs := g.same
    cases l with
    | nil => exact ⟨_, (Take_full g).2, RefTake_full g, by simp, by simp⟩
    | cons p l => exact ⟨_, Take_yes g, RefTake_yes g, by simp; omega, by simp; omega⟩
  · exact ⟨_, Take_no hv, RefTake_no hv, by simp, by simp⟩

/-! ### arena.Give -/
theorem Give_yes {next : List Int} {used : List Bool} {free p : Int} {l : List Int} (g : Good next used free l) (h0 : 0 ≤ p) (h1 : p < next.length) (hu : rdOf false used p = true) :
    Ev (fun k => arena_Give.f k next used free p) (next.set p.toNat free, used.set p.toNat false, p, 0) ∧ Ev (fun k => spigotref13_Give.f k next used free p) (next.set p.toNat free, used.set p.toNat false, p, 0) := by
  obtain ⟨K, h⟩ := Ev.get (Check_yes g)
  obtain ⟨K2, h2⟩ := Ev.get (Ref_yes g)
  have hh := g.high
  have hs := g.same
  refine ⟨Ev.succ K fun k hk => ?_, Ev.succ K2 fun k hk => ?_⟩
  · unfold arena_Give.f
    rw [h (k + 1) (by omega)]
    simp only [Option.bind_some, if_true]
    rw [if_neg (by omega), decide_eq_false (by omega), arena_Give.j0, if_neg (by decide), if_pos h0, if_pos (by omega), if_pos hu, twin_f (by omega) (by omega)]
    simp only [Option.bind_some]
    rw [if_pos h1, if_pos (by omega)]
  · unfold spigotref13_Give.f
    rw [h2 (k + 1) (by omega)]
    simp only [Option.bind_some, if_true]
    rw [if_neg (by omega), decide_eq_false (by omega), spigotref13_Give.j0, if_neg (by decide), if_pos h0, if_pos (by omega), if_pos hu, Twin_f (by omega) (by omega)]
    simp only [Option.bind_some]
    rw [if_pos (by omega), if_pos h1]
theorem Give_state {next : List Int} {used : List Bool} {free p : Int} {l : List Int} (g : Good next used free l) (h0 : 0 ≤ p) (h1 : p < next.length) (hu : ¬ rdOf false used p = true) :
    Ev (fun k => arena_Give.f k next used free p) ([], [], 0, 36) ∧ Ev (fun k => spigotref13_Give.f k next used free p) ([], [], 0, 36) := by
  obtain ⟨K, h⟩ := Ev.get (Check_yes g)
  obtain ⟨K2, h2⟩ := Ev.get (Ref_yes g)
  have hs := g.same
  refine ⟨Ev.succ K fun k hk => ?_, Ev.succ K2 fun k hk => ?_⟩
  · unfold arena_Give.f
    rw [h (k + 1) (by omega)]
    simp only [Option.bind_some, if_true]
    rw [if_neg (by omega), decide_eq_false (by omega), arena_Give.j0, if_neg (by decide), if_pos h0, if_pos (by omega), if_neg hu]
  · unfold spigotref13_Give.f
    rw [h2 (k + 1) (by omega)]
    simp only [Option.bind_some, if_true]
    rw [if_neg (by omega), decide_eq_false (by omega), spigotref13_Give.j0, if_neg (by decide), if_pos h0, if_pos (by omega), if_neg hu]
theorem Give_arg {next : List Int} {used : List Bool} {free p : Int} {l : List Int} (g : Good next used free l) (hp : p < 0 ∨ next.length ≤ p) :
    Ev (fun k => arena_Give.f k next used free p) ([], [], 0, 2) ∧ Ev (fun k => spigotref13_Give.f k next used free p) ([], [], 0, 2) := by
  obtain ⟨K, h⟩ := Ev.get (Check_yes g)
  obtain ⟨K2, h2⟩ := Ev.get (Ref_yes g)
  have hs := g.same
  refine ⟨Ev.succ K fun k hk => ?_, Ev.succ K2 fun k hk => ?_⟩
  · unfold arena_Give.f
    rw [h (k + 1) (by omega)]
    simp only [Option.bind_some, if_true]
    by_cases h0 : p < 0
    · rw [if_pos h0, arena_Give.j0, if_pos rfl]
    · rw [if_neg h0, decide_eq_true (by omega), arena_Give.j0, if_pos rfl]
  · unfold spigotref13_Give.f
    rw [h2 (k + 1) (by omega)]
    simp only [Option.bind_some, if_true]
    by_cases h0 : p < 0
    · rw [if_pos h0, spigotref13_Give.j0, if_pos rfl]
    · rw [if_neg h0, decide_eq_true (by omega), spigotref13_Give.j0, if_pos rfl]
theorem Give_no {next : List Int} {used : List Bool} {free p : Int} (hn : ¬ Valid next used free) :
    Ev (fun k => arena_Give.f k next used free p) ([], [], 0, 8) ∧ Ev (fun k => spigotref13_Give.f k next used free p) ([], [], 0, 8) := by
  obtain ⟨K, h⟩ := Ev.get (Check_no hn)
  obtain ⟨K2, h2⟩ := Ev.get (Ref_no hn)
  refine ⟨Ev.succ K fun k hk => ?_, Ev.succ K2 fun k hk => ?_⟩
  · unfold arena_Give.f
    rw [h (k + 1) (by omega)]; rfl
  · unfold spigotref13_Give.f
    rw [h2 (k + 1) (by omega)]; rfl
theorem give_both {next : List Int} {used : List Bool} {free : Int} (p : Int) : ∃ r, Ev (fun k => arena_Give.f k next used free p) r ∧ Ev (fun k => spigotref13_Give.f k next used free p) r ∧ r.1.length ≤ 1000 ∧ r.2.1.length ≤ 1000 := by
  by_cases hv : Valid next used free
  · obtain ⟨l, g⟩ := hv
    have hh := g.high
    have hs := g.same
    by_cases hp : p < 0 ∨ next.length ≤ p
    · obtain ⟨a, b⟩ := Give_arg g hp; exact ⟨_, a, b, by simp, by simp⟩
    · by_cases hu : rdOf false used p = true
      · obtain ⟨a, b⟩ := Give_yes g (by omega) (by omega) hu; exact ⟨_, a, b, by simp; omega, by simp; omega⟩
      · obtain ⟨a, b⟩ := Give_state g (by omega) (by omega) hu; exact ⟨_, a, b, by simp, by simp⟩
  · obtain ⟨a, b⟩ := Give_no (p := p) hv; exact ⟨_, a, b, by simp, by simp⟩

/-! ### arena.Count -/
theorem count_l0 {used : List Bool} {next : List Int} {free : Int} (hu : used.length ≤ 16) (d : Nat) :
    ∀ (c j : Int), 0 ≤ j → j ≤ used.length → (used.length : Int) - j ≤ d → 0 ≤ c → c ≤ j → Ev (fun k => arena_Count.l0 k c used used.length j next used free) (c + (used.drop j.toNat).count true, (used.length : Int) - (c + (used.drop j.toNat).count true), 0) := by
  induction d with
  | zero =>
    intro c j h0 hle hd hc hj
    rw [List.drop_of_length_le (by omega)]
    refine Ev.succ 0 fun k _ => ?_
    rw [arena_Count.l0, if_neg (by omega)]
    simp [show wrap64 ((used.length : Int) - c) = (used.length : Int) - c by unfold wrap64; omega]
  | succ d ih =>
    intro c j h0 hle hd hc hj
    by_cases hlt : j < used.length
    · have hn : j.toNat < used.length := by omega
      rw [List.drop_eq_getElem_cons hn]
      have hrd : rdOf false used j = used[j.toNat] := by simp [rdOf, List.getD_eq_getElem?_getD, hn]
      by_cases hb : rdOf false used j = true
      · obtain ⟨K, h⟩ := Ev.get (ih (c + 1) (j + 1) (by omega) (by omega) (by omega) (by omega) (by omega))
        refine Ev.succ K fun k hk => ?_
        rw [arena_Count.l0, if_pos hlt, if_pos h0, if_pos hlt, if_pos hb, w1 hc (by omega), w1 h0 (by omega), h k hk]
        rw [show (j + 1).toNat = j.toNat + 1 by omega, List.count_cons, ← hrd, hb]
        simp; omega
      · obtain ⟨K, h⟩ := Ev.get (ih c (j + 1) (by omega) (by omega) (by omega) (by omega) (by omega))
        refine Ev.succ K fun k hk => ?_
        rw [arena_Count.l0, if_pos hlt, if_pos h0, if_pos hlt, if_neg hb, w1 h0 (by omega), h k hk]
        rw [show (j + 1).toNat = j.toNat + 1 by omega, List.count_cons, ← hrd]
        simp [hb]
    · rw [List.drop_of_length_le (by omega)]
      refine Ev.succ 0 fun k _ => ?_
      rw [arena_Count.l0, if_neg hlt]
      simp [show wrap64 ((used.length : Int) - c) = (used.length : Int) - c by unfold wrap64; omega]

/-- The free places are those that are not used. -/
theorem Good.count {next : List Int} {used : List Bool} {free : Int} {l : List Int} (g : Good next used free l) : used.count true + l.length = used.length := by
  have h1 : l.Perm (((List.range used.length).filter fun i => !(used.getD i false)).map Int.ofNat) := by
    apply (List.perm_ext_iff_of_nodup g.nodup ?_).2
    · intro x
      have hr := g.chain.range x
      constructor
      · intro hx
        have hxr := hr hx
        have hs := g.same
        have hm := g.mark x hxr.1 (by omega)
        refine List.mem_map.2 ⟨x.toNat, ?_, by simp; omega⟩
        rw [List.mem_filter]
        refine ⟨by simp; omega, ?_⟩
        have : ¬ rdOf false used x = true := fun h => (hm.1 h) hx
        simpa [rdOf] using this
      · intro hx
        obtain ⟨i, hi, rfl⟩ := List.mem_map.1 hx
        rw [List.mem_filter] at hi
        have hi1 : i < used.length := by simpa using hi.1
        have hm := g.mark (Int.ofNat i) (by simp) (by simpa using hi1)
        refine Classical.byContradiction fun hc => ?_
        have := hm.2 hc
        simp [rdOf] at this hi
        simp [this] at hi
    · apply List.Pairwise.map (R := (· ≠ ·)) (S := (· ≠ ·))
      · intro a b h e; exact h (Int.ofNat.inj e)
      · exact (List.nodup_range).filter _
  have h2 : ∀ (u : List Bool), ((List.range u.length).filter fun i => !(u.getD i false)).length = u.count false := by
    intro u
    induction u with
    | nil => rfl
    | cons b u ih =>
      rw [List.length_cons, List.range_succ_eq_map, List.filter_cons, List.filter_map, List.count_cons]
      have : ((fun i => !((b :: u).getD i false)) ∘ Nat.succ) = fun i => !(u.getD i false) := by funext i; simp
      rw [this]
      have ih' : (List.filter (fun i => !u[i]?.getD false) (List.range u.length)).length = List.count false u := by simpa using ih
      cases b <;> simp [ih']
  have h3 : ∀ u : List Bool, u.count true + u.count false = u.length := by
    intro u
    induction u with
    | nil => rfl
    | cons b u ih => cases b <;> simp <;> omega
  rw [h1.length_eq, List.length_map, h2]
  exact h3 used
end Go.Proofs.Ytlgfopdindklnaa.ArenaPlain
