/- ProbeBack, plain: put and dropped again, all other keys as before. -/
import Derived.Test.YtlgfopdindklnaaPProbex22
import Derived.Test.YtlgfopdindklnaaProbePlain3
namespace Go.Proofs.Ytlgfopdindklnaa.Pure
open Go.RowKit Go.Proofs.Ytlgfopdindklnaa.PProbe Go.Proofs.YtlgfopdindklnaaW.PrintWords Go.Proofs.YtlgfopdindklnaaW.PrintLast

theorem back_keys {x : List S71} (h : ∀ c ∈ x, ((Lit.int .u32 c.f0).wf = true) ∧ ((Lit.int .i64 c.f1).wf = true) ∧ True) : ProbePlain.Keys x := by
  intro i h0 h1
  obtain ⟨n, rfl⟩ : ∃ n : Nat, i = n := ⟨i.toNat, by omega⟩
  rw [ProbePlain.rd_get (by omega)]
  exact ProbePlain.u32_wf (h _ (List.getElem_mem _)).1
theorem back_alive_60 : spigotlaw14_alive.f 60 = some true := by decide +kernel
theorem back_alive : Ev (fun k => spigotlaw14_alive.f k) true := Ev.of (fun k => spigotlaw14_alive.mono k) back_alive_60

/-- The second half: dropping key keeps all others. -/
theorem back_tail {x : List S71} (hv : ProbePlain.Valid x) (hkeys : ProbePlain.Keys x) (key other : Int) :
    Ev (fun k => ((probe_Drop.f k x key).bind fun bt456 => (if bt456.2 = 0 then ((probe_Find.f k x other).bind fun bt460 => ((probe_Find.f k bt456.1 other).bind fun bt462 => ((spigotref14_Check.f k bt456.1).bind fun t464 => (if t464 = 0 then ((spigotref14_At.f k bt456.1 key).bind fun t465 => (if t465 < 0 then (if other = key then (if bt462.2 = 6 then (some true) else (some false)) else (if bt460.1 = bt462.1 then (some (bt460.2 == bt462.2)) else (some false))) else (some false))) else (some false))))) else (some (bt456.2 == 6))))) true := by
  by_cases hh : ∃ p, ProbePlain.Has x key p
  · obtain ⟨p, hh⟩ := hh
    obtain ⟨z, hd, vz, hz, _⟩ := ProbePlain.drop_ok hv hh
    have kz : ProbePlain.Keys z := ProbePlain.keys_of vz fun k q h => ProbePlain.has_keys hv hkeys k q ((hz k q).1 h).1
    have nz : ∀ q, ¬ ProbePlain.Has z key q := fun q h => ((hz key q).1 h).2 rfl
    obtain ⟨K1, h1⟩ : ∃ K, ∀ k, K ≤ k → probe_Drop.f k x key = some (z, 0) := hd
    obtain ⟨K2, h2⟩ : ∃ K, ∀ k, K ≤ k → spigotref14_Check.f k z = some 0 := ProbePlain.rcheck_yes kz vz
    obtain ⟨K3, h3⟩ : ∃ K, ∀ k, K ≤ k → spigotref14_At.f k z key = some (-1) := ProbePlain.at_none vz nz
    have fin : ∀ (a b : Int × Int), Ev (fun k => probe_Find.f k x other) a → Ev (fun k => probe_Find.f k z other) b → (if other = key then b.2 = 6 else a = b) →
        Ev (fun k => ((probe_Drop.f k x key).bind fun bt456 => (if bt456.2 = 0 then ((probe_Find.f k x other).bind fun bt460 => ((probe_Find.f k bt456.1 other).bind fun bt462 => ((spigotref14_Check.f k bt456.1).bind fun t464 => (if t464 = 0 then ((spigotref14_At.f k bt456.1 key).bind fun t465 => (if t465 < 0 then (if other = key then (if bt462.2 = 6 then (some true) else (some false)) else (if bt460.1 = bt462.1 then (some (bt460.2 == bt462.2)) else (some false))) else (some false))) else (some false))))) else (some (bt456.2 == 6))))) true := by
      intro a b ha hb hab
      obtain ⟨K4, h4⟩ : ∃ K, ∀ k, K ≤ k → probe_Find.f k x other = some a := ha
      obtain ⟨K5, h5⟩ : ∃ K, ∀ k, K ≤ k → probe_Find.f k z other = some b := hb
      refine ⟨K1 + K2 + K3 + K4 + K5, fun k hk => ?_⟩
      show (probe_Drop.f k x key).bind _ = _
      rw [h1 k (by omega), Option.bind_some, if_pos rfl, h4 k (by omega), Option.bind_some]
      show (probe_Find.f k z other).bind _ = _
      rw [h5 k (by omega), Option.bind_some]
      show (spigotref14_Check.f k z).bind _ = _
      rw [h2 k (by omega), Option.bind_some, if_pos rfl]
      show (spigotref14_At.f k z key).bind _ = _
      rw [h3 k (by omega), Option.bind_some, if_pos (by omega)]
      by_cases e : other = key
      · rw [if_pos e] at hab ⊢; rw [if_pos hab]
      · rw [if_neg e] at hab ⊢; rw [hab, if_pos rfl]; simp
    by_cases e : other = key
    · subst e
      exact fin _ _ (ProbePlain.find_has hv hh) (ProbePlain.find_none vz nz) (by rw [if_pos rfl])
    · by_cases ho : ∃ q, ProbePlain.Has x other q
      · obtain ⟨q, ho⟩ := ho
        exact fin _ _ (ProbePlain.find_has hv ho) (ProbePlain.find_has vz ((hz other q).2 ⟨ho, e⟩)) (by rw [if_neg e])
      · have ho : ∀ q, ¬ ProbePlain.Has x other q := fun q h => ho ⟨q, h⟩
        exact fin _ _ (ProbePlain.find_none hv ho) (ProbePlain.find_none vz fun q h => ho q ((hz other q).1 h).1) (by rw [if_neg e])
  · obtain ⟨K1, h1⟩ : ∃ K, ∀ k, K ≤ k → probe_Drop.f k x key = some ([], 6) := ProbePlain.drop_none hv fun p h => hh ⟨p, h⟩
    refine ⟨K1, fun k hk => ?_⟩
    show (probe_Drop.f k x key).bind _ = _
    rw [h1 k (by omega), Option.bind_some, if_neg (by show ¬ (6 : Int) = 0; omega)]
    rfl

theorem ProbeBack : spigotlaw14_ProbeBack.Pure := by
  intro x key other place hx hk _ _
  have hkeys := back_keys hx.1
  have hk := ProbePlain.u32_wf hk
  obtain ⟨K0, h0⟩ : ∃ K, ∀ k, K ≤ k → spigotlaw14_alive.f k = some true := back_alive
  by_cases hv : ProbePlain.Valid x
  · obtain ⟨K1, h1⟩ : ∃ K, ∀ k, K ≤ k → spigotref14_Check.f k x = some 0 := ProbePlain.rcheck_yes hkeys hv
    obtain ⟨KT, hT⟩ := back_tail hv hkeys key other
    by_cases hp : place < 0 ∨ place ≥ 16 ∨ (∃ p, ProbePlain.Has x key p) ∨ 12 ≤ ProbePlain.cnt x
    · obtain ⟨e, he, hput⟩ := ProbePlain.put_not hv hp
      obtain ⟨K2, h2⟩ : ∃ K, ∀ k, K ≤ k → probe_Put.f k x key place = some ([], e) := hput
      refine ⟨K0 + K1 + K2 + KT, ?_⟩
      unfold spigotlaw14_ProbeBack.f
      rw [h0 _ (by omega), Option.bind_some, if_pos rfl, h1 _ (by omega), Option.bind_some, if_pos rfl, h2 _ (by omega), Option.bind_some, if_neg he]
      exact hT _ (by omega)
    · have hn : ∀ p, ¬ ProbePlain.Has x key p := fun p h => hp (Or.inr (Or.inr (Or.inl ⟨p, h⟩)))
      obtain ⟨y, hput, vy, hy, cy⟩ := ProbePlain.put_ok hv hn (place := place) (by omega) (by omega) (by omega)
      obtain ⟨z, hd, vz, hz, cz⟩ := ProbePlain.drop_ok vy ((hy key place).2 (Or.inr ⟨rfl, rfl⟩))
      have ky : ProbePlain.Keys y := ProbePlain.keys_of vy fun k q h => by
        rcases (hy k q).1 h with a | a
        · exact ProbePlain.has_keys hv hkeys k q a
        · rw [a.1]; exact hk
      have hxz : ∀ k q, ProbePlain.Has x k q → ProbePlain.Has z k q := fun k q h => (hz k q).2 ⟨(hy k q).2 (Or.inl h), fun e => by rw [e] at h; exact hn q h⟩
      obtain ⟨K2, h2⟩ : ∃ K, ∀ k, K ≤ k → probe_Put.f k x key place = some (y, 0) := hput
      obtain ⟨K3, h3⟩ : ∃ K, ∀ k, K ≤ k → probe_Drop.f k y key = some (z, 0) := hd
      obtain ⟨K4, h4⟩ : ∃ K, ∀ k, K ≤ k → spigotlaw14_alike.f k x z = some true := ProbePlain.alike_ev hv vz hxz (by omega)
      obtain ⟨K5, h5⟩ : ∃ K, ∀ k, K ≤ k → spigotref14_Check.f k y = some 0 := ProbePlain.rcheck_yes ky vy
      refine ⟨K0 + K1 + K2 + K3 + K4 + K5 + KT, ?_⟩
      unfold spigotlaw14_ProbeBack.f
      rw [h0 _ (by omega), Option.bind_some, if_pos rfl, h1 _ (by omega), Option.bind_some, if_pos rfl, h2 _ (by omega), Option.bind_some, if_pos rfl]
      show (probe_Drop.f _ y key).bind _ = _
      rw [h3 _ (by omega), Option.bind_some, if_pos rfl]
      show (spigotlaw14_alike.f _ x z).bind _ = _
      rw [h4 _ (by omega), Option.bind_some, if_pos rfl]
      show (spigotref14_Check.f _ y).bind _ = _
      rw [h5 _ (by omega), Option.bind_some, if_pos rfl]
      exact hT _ (by omega)
  · obtain ⟨K1, h1⟩ : ∃ K, ∀ k, K ≤ k → spigotref14_Check.f k x = some 8 := ProbePlain.rcheck_no hkeys hv
    refine ⟨K0 + K1, ?_⟩
    unfold spigotlaw14_ProbeBack.f
    rw [h0 _ (by omega), Option.bind_some, if_pos rfl, h1 _ (by omega), Option.bind_some, if_neg (by omega)]
end Go.Proofs.Ytlgfopdindklnaa.Pure
