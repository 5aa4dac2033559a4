/- ProbeMoves, plain: Put and Drop answer alike on both sides. -/
import Derived.Test.YtlgfopdindklnaaPProbex16
import Derived.Test.YtlgfopdindklnaaProbePlain2
namespace Go.Proofs.Ytlgfopdindklnaa.Pure
open Go.RowKit Go.Proofs.Ytlgfopdindklnaa.PProbe Go.Proofs.YtlgfopdindklnaaW.PrintWords Go.Proofs.YtlgfopdindklnaaW.PrintLast

theorem moves_keys {x : List S71} (h : ∀ c ∈ x, ((Lit.int .u32 c.f0).wf = true) ∧ ((Lit.int .i64 c.f1).wf = true) ∧ True) : ProbePlain.Keys x := by
  intro i h0 h1
  obtain ⟨n, rfl⟩ : ∃ n : Nat, i = n := ⟨i.toNat, by omega⟩
  rw [ProbePlain.rd_get (by omega)]
  exact ProbePlain.u32_wf (h _ (List.getElem_mem _)).1

theorem ProbeMoves : spigotlaw14_ProbeMoves.Pure := by
  intro x key place hx hk _
  have hkeys := moves_keys hx.1
  have hk := ProbePlain.u32_wf hk
  by_cases hlen : (x.length : Int) > 100
  · exact ⟨0, by unfold spigotlaw14_ProbeMoves.f; rw [if_pos hlen]⟩
  have fin : ∀ (a b : List S71 × Int), a.1.length ≤ 16 → b.1.length ≤ 16 → Ev (fun k => probe_Put.f k x key place) a → Ev (fun k => spigotref14_Put.f k x key place) a → Ev (fun k => probe_Drop.f k x key) b → Ev (fun k => spigotref14_Drop.f k x key) b →
      Ev (fun k => spigotlaw14_ProbeMoves.f k x key place) true := by
    intro a b la lb h1 h2 h3 h4
    obtain ⟨K1, h1⟩ : ∃ K, ∀ k, K ≤ k → probe_Put.f k x key place = some a := h1
    obtain ⟨K2, h2⟩ : ∃ K, ∀ k, K ≤ k → spigotref14_Put.f k x key place = some a := h2
    obtain ⟨K3, h3⟩ : ∃ K, ∀ k, K ≤ k → probe_Drop.f k x key = some b := h3
    obtain ⟨K4, h4⟩ : ∃ K, ∀ k, K ≤ k → spigotref14_Drop.f k x key = some b := h4
    obtain ⟨K5, h5⟩ : ∃ K, ∀ k, K ≤ k → spigotref14_Same.f k a.1 a.1 = some true := ProbePlain.same_ev (by omega)
    obtain ⟨K6, h6⟩ : ∃ K, ∀ k, K ≤ k → spigotref14_Same.f k b.1 b.1 = some true := ProbePlain.same_ev (by omega)
    obtain ⟨K7, h7⟩ : ∃ K, ∀ k, K ≤ k → spigotref14_Same.f k x x = some true := ProbePlain.same_ev (by omega)
    refine ⟨K1 + K2 + K3 + K4 + K5 + K6 + K7, fun k hk2 => ?_⟩
    show spigotlaw14_ProbeMoves.f k x key place = some true
    unfold spigotlaw14_ProbeMoves.f
    rw [if_neg hlen]
    simp only [Option.bind_some, List.length_nil, List.nil_append]
    rw [if_pos (by omega), h1 k (by omega), Option.bind_some, h2 k (by omega), Option.bind_some, h3 k (by omega), Option.bind_some, h4 k (by omega), Option.bind_some,
      h5 k (by omega), Option.bind_some, if_pos rfl, if_pos rfl, h6 k (by omega), Option.bind_some, if_pos rfl, if_pos rfl, h7 k (by omega), Option.bind_some]
  apply Ev.rounds
  by_cases hv : ProbePlain.Valid x
  · have hl := hv.len
    obtain ⟨d, hd, hp, hq, hc⟩ := ProbePlain.found hv key
    obtain ⟨n, hr⟩ : ∃ n, (rd_T71 x ((ProbePlain.hm key + d) % 16)).f2 = true → ProbePlain.Run x ((ProbePlain.hm key + d) % 16) (((ProbePlain.hm key + d) % 16 + 1) % 16) n := by
      by_cases u : (rd_T71 x ((ProbePlain.hm key + d) % 16)).f2 = true
      · obtain ⟨n, hn⟩ := ProbePlain.run_ex hv.len hv.few (i := (ProbePlain.hm key + d) % 16) (by omega) (by omega) u
        exact ⟨n, fun _ => hn⟩
      · exact ⟨0, fun h => absurd h u⟩
    refine fin _ _ ?_ ?_ (ProbePlain.put_ev hv place hd hp hq) (ProbePlain.rput_ev hkeys hv hk.1 hk.2 place hd hp hc) (ProbePlain.drop_ev hv hd hp hq hr) (ProbePlain.rdrop_ev hkeys hv hd hc hr)
    · unfold ProbePlain.putAt
      split
      · simp
      · split
        · simp
        · split
          · simp
          · simp [hl]
    · split
      · have : ∀ (n : Nat) (i : Int) (p : List S71) (j : Int), (ProbePlain.fill n i p j).length = p.length := by
          intro n
          induction n with
          | zero => intro i p j; simp [ProbePlain.fill]
          | succ n ih => intro i p j; rw [ProbePlain.fill]; split <;> rw [ih]; simp
        show (ProbePlain.fill _ _ _ _).length ≤ 16
        rw [this]; omega
      · simp
  · exact fin _ _ (by simp) (by simp) (ProbePlain.put_no hv key place) (ProbePlain.rput_no hkeys hv key place) (ProbePlain.drop_no hv key) (ProbePlain.rdrop_no hkeys hv key)
end Go.Proofs.Ytlgfopdindklnaa.Pure
