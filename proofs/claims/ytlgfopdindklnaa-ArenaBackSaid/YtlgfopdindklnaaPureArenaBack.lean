/- ArenaBack, plain: the printed law answers true. -/
import Derived.Test.YtlgfopdindklnaaPArenax12
import Derived.Test.YtlgfopdindklnaaArenaPlain2
namespace Go.Proofs.Ytlgfopdindklnaa.Pure
open Go.RowKit Go.Proofs.Ytlgfopdindklnaa.PArena Go.Proofs.Ytlgfopdindklnaa.ArenaPlain Go.Proofs.YtlgfopdindklnaaW.PrintWords Go.Proofs.YtlgfopdindklnaaW.PrintLast

theorem back_alive : Ev (fun k => spigotlaw13_alive.f k) true := Ev.of (fun k => spigotlaw13_alive.mono k) (k := 60) (by decide +kernel)

theorem set_back {l : List Int} {p v : Int} (h0 : 0 ≤ p) (h1 : p < l.length) : (l.set p.toNat v).set p.toNat (rd l p) = l := by
  have hp : p.toNat < l.length := by omega
  rw [List.set_set]
  have : rd l p = l[p.toNat] := by simp [rd, List.getD_eq_getElem?_getD, hp]
  rw [this, List.set_getElem_self]
theorem set_backB {l : List Bool} {p : Int} {v b : Bool} (h0 : 0 ≤ p) (h1 : p < l.length) (hb : rdOf false l p = b) : (l.set p.toNat v).set p.toNat b = l := by
  have hp : p.toNat < l.length := by omega
  rw [List.set_set]
  have : b = l[p.toNat] := by rw [← hb]; simp [rdOf, List.getD_eq_getElem?_getD, hp]
  rw [this, List.set_getElem_self]

/-- Giving back and taking: the arena as it was. -/
theorem give_take {next : List Int} {used : List Bool} {free p : Int} {l : List Int} (g : ArenaPlain.Good next used free l) (h0 : 0 ≤ p) (h1 : p < next.length) (hu : rdOf false used p = true) :
    Ev (fun k => arena_Take.f k (next.set p.toNat free) (used.set p.toNat false) p) (next, used, free, p, 0) := by
  have g2 := g.give h0 h1 hu
  have h := Take_yes g2
  have hs := g.same
  have e := g.end_ p h0 (by omega) hu
  rw [rd_set h0 h1 h0, if_pos rfl] at h
  rw [show (-1 : Int) = rd next p from e.symm] at h
  rw [set_back h0 h1, set_backB h0 (by omega) hu] at h
  exact h
theorem take_give {next : List Int} {used : List Bool} {free p : Int} {l : List Int} (g : ArenaPlain.Good next used free (p :: l)) :
    Ev (fun k => arena_Give.f k (next.set p.toNat (-1)) (used.set p.toNat true) (rd next p) p) (next, used, p, 0) := by
  obtain ⟨e, h0, h1, hu, g2⟩ := g.take
  have hs := g.same
  have h := (Give_yes g2 h0 (by simpa using h1) (by rw [rdOf_set h0 (by omega) h0, if_pos rfl])).1
  rw [set_back h0 h1, set_backB h0 (by omega) (by simpa using hu)] at h
  exact h

/-- What follows the first half. -/
theorem second {next : List Int} {used : List Bool} {free place : Int} {l : List Int} (g : ArenaPlain.Good next used free l) :
    ∃ r, Ev (fun k => arena_Give.f k next used free place) r ∧ (r.2.2.2 = 2 ∨ r.2.2.2 = 36 ∨ (r.2.2.2 = 0 ∧ Ev (fun k => arena_Take.f k r.1 r.2.1 r.2.2.1) (next, used, free, place, 0))) := by
  have hh := g.high
  have hs := g.same
  by_cases hp : place < 0 ∨ next.length ≤ place
  · exact ⟨_, (Give_arg g hp).1, .inl rfl⟩
  · by_cases hu : rdOf false used place = true
    · exact ⟨_, (Give_yes g (by omega) (by omega) hu).1, .inr (.inr ⟨rfl, give_take g (by omega) (by omega) hu⟩)⟩
    · exact ⟨_, (Give_state g (by omega) (by omega) hu).1, .inr (.inl rfl)⟩

theorem ArenaBack : spigotlaw13_ArenaBack.Pure := by
  intro next used free place _ _
  obtain ⟨K1, ha⟩ := Ev.get back_alive
  by_cases hg : 100 < next.length ∨ 100 < used.length
  · refine ⟨K1, ?_⟩
    have : spigotref13_Great.f next used free = some true := by
      unfold spigotref13_Great.f
      by_cases h : (next.length : Int) > 100
      · rw [if_pos h]
      · rw [if_neg h, decide_eq_true (by omega)]
    unfold spigotlaw13_ArenaBack.f
    rw [ha K1 (Nat.le_refl _), this]; rfl
  · have h0 : spigotref13_Great.f next used free = some false := by
      unfold spigotref13_Great.f
      rw [if_neg (by omega), decide_eq_false (by omega)]
    by_cases hv : Valid next used free
    · obtain ⟨l, g⟩ := hv
      obtain ⟨K2, hc⟩ := Ev.get (Ref_yes g)
      obtain ⟨r, hr, hr2⟩ := second (place := place) g
      obtain ⟨K3, hr⟩ := Ev.get hr
      obtain ⟨K4, ht⟩ : ∃ K, r.2.2.2 = 0 → ∀ k, K ≤ k → arena_Take.f k r.1 r.2.1 r.2.2.1 = some (next, used, free, place, 0) := by
        rcases hr2 with h | h | h
        · exact ⟨0, fun e => by omega⟩
        · exact ⟨0, fun e => by omega⟩
        · obtain ⟨K, h⟩ := Ev.get h.2; exact ⟨K, fun _ => h⟩
      have hr3 : r.2.2.2 = 2 ∨ r.2.2.2 = 36 ∨ r.2.2.2 = 0 := by
        rcases hr2 with h | h | h
        · exact .inl h
        · exact .inr (.inl h)
        · exact .inr (.inr h.1)
      obtain ⟨K5, hs⟩ := Ev.get (Same_self (next := next) (used := used) (free := free) (by omega) (by omega))
      cases l with
      | nil =>
        obtain ⟨e, hf⟩ := Take_full g
        obtain ⟨K6, hf⟩ := Ev.get hf
        refine ⟨K1 + K2 + K3 + K4 + K5 + K6, ?_⟩
        generalize hk : K1 + K2 + K3 + K4 + K5 + K6 = k
        unfold spigotlaw13_ArenaBack.f
        simp only [ha k (by omega), h0, hc k (by omega), hf k (by omega), hr k (by omega), Option.bind_some, if_true, if_neg (show ¬ (false = true) by decide), if_neg (show ¬ ((18 : Int) = 0) by decide), if_pos e]
        rcases hr3 with h | h | h
        · rw [if_neg (by omega), if_pos h]
        · rw [if_neg (by omega), if_neg (by omega), h]; rfl
        · rw [if_pos h, ht h k (by omega)]
          simp only [Option.bind_some, if_true, hs k (by omega)]
      | cons p l =>
        obtain ⟨K6, h1⟩ := Ev.get (Take_yes g)
        obtain ⟨K7, h2⟩ := Ev.get (take_give g)
        have g2 := g.take.2.2.2.2
        have e := g.take.1
        obtain ⟨K8, h3⟩ := Ev.get (Ref_yes g2)
        subst e
        refine ⟨K1 + K2 + K3 + K4 + K5 + K6 + K7 + K8, ?_⟩
        generalize hk : K1 + K2 + K3 + K4 + K5 + K6 + K7 + K8 = k
        unfold spigotlaw13_ArenaBack.f
        simp only [ha k (by omega), h0, hc k (by omega), h1 k (by omega), h2 k (by omega), hs k (by omega), h3 k (by omega), hr k (by omega), Option.bind_some, if_true, if_neg (show ¬ (false = true) by decide)]
        rcases hr3 with h | h | h
        · rw [if_neg (by omega), if_pos h]
        · rw [if_neg (by omega), if_neg (by omega), h]; rfl
        · rw [if_pos h, ht h k (by omega)]
          simp only [Option.bind_some, if_true, hs k (by omega)]
    · obtain ⟨K2, hc⟩ := Ev.get (Ref_no hv)
      refine ⟨K1 + K2, ?_⟩
      unfold spigotlaw13_ArenaBack.f
      simp only [ha (K1 + K2) (by omega), h0, hc (K1 + K2) (by omega), Option.bind_some, if_true, if_neg (show ¬ (false = true) by decide), if_neg (show ¬ ((8 : Int) = 0) by decide)]
end Go.Proofs.Ytlgfopdindklnaa.Pure
