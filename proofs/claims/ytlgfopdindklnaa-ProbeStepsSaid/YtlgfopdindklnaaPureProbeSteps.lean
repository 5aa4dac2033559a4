/- ProbeSteps, plain: the search looks at no more cells than there are keys, and one. -/
import Derived.Test.YtlgfopdindklnaaPProbex20
import Derived.Test.YtlgfopdindklnaaProbePlain2
namespace Go.Proofs.Ytlgfopdindklnaa.Pure
open Go.RowKit Go.Proofs.Ytlgfopdindklnaa.PProbe Go.Proofs.YtlgfopdindklnaaW.PrintWords Go.Proofs.YtlgfopdindklnaaW.PrintLast

theorem steps_keys {x : List S71} (h : ∀ c ∈ x, ((Lit.int .u32 c.f0).wf = true) ∧ ((Lit.int .i64 c.f1).wf = true) ∧ True) : ProbePlain.Keys x := by
  intro i h0 h1
  obtain ⟨n, rfl⟩ : ∃ n : Nat, i = n := ⟨i.toNat, by omega⟩
  rw [ProbePlain.rd_get (by omega)]
  exact ProbePlain.u32_wf (h _ (List.getElem_mem _)).1
theorem steps_alive_60 : spigotlaw14_alive.f 60 = some true := by decide +kernel
theorem steps_alive : Ev (fun k => spigotlaw14_alive.f k) true := Ev.of (fun k => spigotlaw14_alive.mono k) steps_alive_60

theorem ProbeSteps : spigotlaw14_ProbeSteps.Pure := by
  intro x key hx hk
  have hkeys := steps_keys hx.1
  have hk := ProbePlain.u32_wf hk
  obtain ⟨K0, h0⟩ : ∃ K, ∀ k, K ≤ k → spigotlaw14_alive.f k = some true := steps_alive
  by_cases hv : ProbePlain.Valid x
  · have hl := hv.len
    have hr := ProbePlain.hm_range key
    obtain ⟨d, hd, hp, hq, hc⟩ := ProbePlain.found hv key
    obtain ⟨K1, h1⟩ : ∃ K, ∀ k, K ≤ k → spigotref14_Check.f k x = some 0 := ProbePlain.rcheck_yes hkeys hv
    obtain ⟨K2, h2⟩ : ∃ K, ∀ k, K ≤ k → probe_Find.f k x key = some (ProbePlain.findAt x key d) := ProbePlain.find_ev hv hd hp hq
    obtain ⟨K3, h3⟩ : ∃ K, ∀ k, K ≤ k → probe_Steps.f k x key = some ((d : Int) + 1, 0) := ProbePlain.steps_ev hv hd hp hq
    obtain ⟨K4, h4⟩ : ∃ K, ∀ k, K ≤ k → spigotref14_Count.f k x = some (ProbePlain.cnt x : Int) := ProbePlain.count_ev (by omega)
    have hle : d ≤ ProbePlain.cnt x := ProbePlain.used_le hl (h := ProbePlain.hm key) (by omega) (fun e he => (hp e he).1)
    have few := hv.few
    have one : (((d : Int) + 1 == 1) = true) ↔ ((rd_T71 x (ProbePlain.hm key)).f2 = true → (rd_T71 x (ProbePlain.hm key)).f0 = key) := by
      rw [beq_iff_eq]
      have e0 : (ProbePlain.hm key + ((0 : Nat) : Int)) % 16 = ProbePlain.hm key := by omega
      constructor
      · intro h
        have : d = 0 := by omega
        subst this
        rw [ProbePlain.Ends, e0] at hq; exact hq
      · intro h
        by_cases hz : d = 0
        · omega
        · have := hp 0 (by omega)
          rw [e0] at this
          exact absurd (h this.1) this.2
    refine ⟨K0 + K1 + K2 + K3 + K4, ?_⟩
    unfold spigotlaw14_ProbeSteps.f
    rw [h0 _ (by omega), Option.bind_some, if_pos rfl, h1 _ (by omega), Option.bind_some, if_pos rfl, h2 _ (by omega), Option.bind_some, h3 _ (by omega), Option.bind_some, h4 _ (by omega), Option.bind_some]
    have tail : (spigotref14_Home.f key).bind (fun t433 => (if 0 ≤ t433 then (if t433 < (x.length : Int) then (if ((rd_T71 x t433).f2 = true) then ((spigotref14_Home.f key).bind fun t435 => (if 0 ≤ t435 then (if t435 < (x.length : Int) then (some (((d : Int) + 1 == 1) == (((rd_T71 x t435).f0) == key))) else (none)) else (none))) else (some (((d : Int) + 1 == 1) == true))) else (none)) else (none))) = some true := by
      rw [ProbePlain.rhome_f hk.1 hk.2, Option.bind_some, if_pos hr.1, if_pos (by omega)]
      by_cases u : (rd_T71 x (ProbePlain.hm key)).f2 = true
      · rw [if_pos u, Option.bind_some, if_pos hr.1, if_pos (by omega)]
        congr 1
        rw [beq_iff_eq, Bool.eq_iff_iff, one, beq_iff_eq]
        exact ⟨fun h => h u, fun h _ => h⟩
      · rw [if_neg u]
        congr 1
        rw [beq_iff_eq, one]
        exact fun h => absurd h u
    rcases hc with ⟨u, e, _⟩ | ⟨u, _, _⟩
    · have hle2 : d + 1 ≤ ProbePlain.cnt x := ProbePlain.used_le hl (h := ProbePlain.hm key) (by omega) (fun m hm => by
        by_cases q : m < d
        · exact (hp m q).1
        · have : m = d := by omega
          subst this; exact u)
      have hf : ProbePlain.findAt x key d = ((rd_T71 x ((ProbePlain.hm key + d) % 16)).f1, 0) := by unfold ProbePlain.findAt; rw [if_pos u]
      rw [hf]
      rw [if_neg (by show ¬ (0 : Int) = 6; omega), if_pos rfl, if_pos (by show (d : Int) + 1 ≥ 1; omega), if_pos (by show (d : Int) + 1 ≤ _; omega)]
      exact tail
    · have hf : ProbePlain.findAt x key d = (0, 6) := by unfold ProbePlain.findAt; rw [if_neg (by rw [u]; simp)]
      rw [hf]
      rw [if_pos rfl, if_pos rfl, if_pos (by show (d : Int) + 1 ≥ 1; omega), if_pos (by rw [ProbePlain.w0 (by omega) (by omega)]; show (d : Int) + 1 ≤ _; omega)]
      exact tail
  · obtain ⟨K1, h1⟩ : ∃ K, ∀ k, K ≤ k → spigotref14_Check.f k x = some 8 := ProbePlain.rcheck_no hkeys hv
    refine ⟨K0 + K1, ?_⟩
    unfold spigotlaw14_ProbeSteps.f
    rw [h0 _ (by omega), Option.bind_some, if_pos rfl, h1 _ (by omega), Option.bind_some, if_neg (by omega)]
end Go.Proofs.Ytlgfopdindklnaa.Pure
