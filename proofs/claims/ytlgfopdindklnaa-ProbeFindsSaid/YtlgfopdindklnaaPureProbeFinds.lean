/- ProbeFinds, plain: the program and the reference answer alike on every list of cells. -/
import Derived.Test.YtlgfopdindklnaaPProbex9
import Derived.Test.YtlgfopdindklnaaProbePlain
namespace Go.Proofs.Ytlgfopdindklnaa.Pure
open Go.RowKit Go.Proofs.Ytlgfopdindklnaa.PProbe Go.Proofs.YtlgfopdindklnaaW.PrintWords Go.Proofs.YtlgfopdindklnaaW.PrintLast

theorem probe_keys {x : List S71} (h : ∀ c ∈ x, ((Lit.int .u32 c.f0).wf = true) ∧ ((Lit.int .i64 c.f1).wf = true) ∧ True) : ProbePlain.Keys x := by
  intro i h0 h1
  obtain ⟨n, rfl⟩ : ∃ n : Nat, i = n := ⟨i.toNat, by omega⟩
  rw [ProbePlain.rd_get (by omega)]
  exact ProbePlain.u32_wf (h _ (List.getElem_mem _)).1

theorem ProbeFinds : spigotlaw14_ProbeFinds.Pure := by
  intro x key hx hk
  have hkeys := probe_keys hx.1
  have hk := ProbePlain.u32_wf hk
  by_cases hlen : (x.length : Int) > 100
  · exact ⟨0, by unfold spigotlaw14_ProbeFinds.f; rw [if_pos hlen]⟩
  have fin : ∀ (a : Int × Int) (b : Int × Int) (c : Int), Ev (fun k => probe_Find.f k x key) a → Ev (fun k => spigotref14_Find.f k x key) a → Ev (fun k => probe_Steps.f k x key) b → Ev (fun k => spigotref14_Steps.f k x key) b →
      Ev (fun k => probe_Check.f k x) c → Ev (fun k => spigotref14_Check.f k x) c → Ev (fun k => spigotlaw14_ProbeFinds.f k x key) true := by
    intro a b c h1 h2 h3 h4 h5 h6
    obtain ⟨K1, h1⟩ : ∃ K, ∀ k, K ≤ k → probe_Find.f k x key = some a := h1
    obtain ⟨K2, h2⟩ : ∃ K, ∀ k, K ≤ k → spigotref14_Find.f k x key = some a := h2
    obtain ⟨K3, h3⟩ : ∃ K, ∀ k, K ≤ k → probe_Steps.f k x key = some b := h3
    obtain ⟨K4, h4⟩ : ∃ K, ∀ k, K ≤ k → spigotref14_Steps.f k x key = some b := h4
    obtain ⟨K5, h5⟩ : ∃ K, ∀ k, K ≤ k → probe_Check.f k x = some c := h5
    obtain ⟨K6, h6⟩ : ∃ K, ∀ k, K ≤ k → spigotref14_Check.f k x = some c := h6
    refine ⟨K1 + K2 + K3 + K4 + K5 + K6, fun k hk2 => ?_⟩
    unfold spigotlaw14_ProbeFinds.f
    show (if (x.length : Int) > 100 then _ else _) = _
    rw [if_neg hlen, h1 k (by omega), Option.bind_some, h2 k (by omega), Option.bind_some, h3 k (by omega), Option.bind_some, h4 k (by omega), Option.bind_some,
      ProbePlain.home_f, Option.bind_some, ProbePlain.rhome_f hk.1 hk.2, Option.bind_some, if_pos rfl, h5 k (by omega), Option.bind_some, h6 k (by omega), Option.bind_some, if_pos rfl, if_pos rfl, if_pos rfl, if_pos rfl]
    simp
  apply Ev.rounds
  by_cases hv : ProbePlain.Valid x
  · obtain ⟨d, hd, hp, hq, hc⟩ := ProbePlain.found hv key
    exact fin _ _ _ (ProbePlain.find_ev hv hd hp hq) (ProbePlain.rfind_ev hkeys hv hc) (ProbePlain.steps_ev hv hd hp hq) (ProbePlain.rsteps_ev hkeys hv hk.1 hk.2 hd hp hq) (ProbePlain.check_yes hv) (ProbePlain.rcheck_yes hkeys hv)
  · exact fin _ _ _ (ProbePlain.find_no hv key) (ProbePlain.rfind_no hkeys hv key) (ProbePlain.steps_no hv key) (ProbePlain.rsteps_no hkeys hv key) (ProbePlain.check_no hv) (ProbePlain.rcheck_no hkeys hv)
end Go.Proofs.Ytlgfopdindklnaa.Pure
