/- ArenaDoes, plain: the printed law answers true. -/
import Derived.Test.YtlgfopdindklnaaPArenax19
import Derived.Test.YtlgfopdindklnaaArenaPlain2
namespace Go.Proofs.Ytlgfopdindklnaa.Pure
open Go.RowKit Go.Proofs.Ytlgfopdindklnaa.PArena Go.Proofs.Ytlgfopdindklnaa.ArenaPlain Go.Proofs.YtlgfopdindklnaaW.PrintWords Go.Proofs.YtlgfopdindklnaaW.PrintLast

theorem new_closed : ∀ n : Fin 17, 1 ≤ n.val → ((arena_New.f 40 n.val).any fun r => decide (spigotref13_New.f 40 n.val = some r) && decide (r.1.length ≤ 1000) && decide (r.2.1.length ≤ 1000)) = true := by decide +kernel
theorem new_both (n : Int) : ∃ r, Ev (fun k => arena_New.f k n) r ∧ Ev (fun k => spigotref13_New.f k n) r ∧ r.1.length ≤ 1000 ∧ r.2.1.length ≤ 1000 := by
  by_cases h : 1 ≤ n ∧ n ≤ 16
  · have h1 := new_closed ⟨n.toNat, by omega⟩ (by show 1 ≤ n.toNat; omega)
    have e : ((n.toNat : Nat) : Int) = n := by omega
    simp only [e] at h1
    cases hr : arena_New.f 40 n with
    | none => rw [hr] at h1; simp at h1
    | some r =>
      rw [hr] at h1
      simp only [Option.any_some, Bool.and_eq_true, decide_eq_true_eq] at h1
      exact ⟨r, Ev.of (fun k => arena_New.mono n k) hr, Ev.of (fun k => spigotref13_New.mono n k) h1.1.1, h1.1.2, h1.2⟩
  · refine ⟨([], [], 0, 2), Ev.succ 0 fun k _ => ?_, Ev.succ 0 fun k _ => ?_, by simp, by simp⟩
    · unfold arena_New.f
      by_cases h0 : n < 1
      · rw [if_pos h0, arena_New.j0, if_pos rfl]
      · rw [if_neg h0, decide_eq_true (by omega), arena_New.j0, if_pos rfl]
    · unfold spigotref13_New.f
      by_cases h0 : n < 1
      · rw [if_pos h0, spigotref13_New.j0, if_pos rfl]
      · rw [if_neg h0, decide_eq_true (by omega), spigotref13_New.j0, if_pos rfl]
theorem check_both (next : List Int) (used : List Bool) (free : Int) : ∃ r, Ev (fun k => arena_Check.f k next used free) r ∧ Ev (fun k => spigotref13_Check.f k next used free) r := by
  by_cases hv : Valid next used free
  · obtain ⟨l, g⟩ := hv; exact ⟨0, Check_yes g, Ref_yes g⟩
  · exact ⟨8, Check_no hv, Ref_no hv⟩
theorem count_both (next : List Int) (used : List Bool) (free : Int) : ∃ r, Ev (fun k => arena_Count.f k next used free) r ∧ Ev (fun k => spigotref13_Count.f k next used free) r := by
  by_cases hv : Valid next used free
  · obtain ⟨l, g⟩ := hv
    have hc := g.count
    have hh := g.high
    have hs := g.same
    obtain ⟨K, h⟩ := Ev.get (Check_yes g)
    obtain ⟨K2, h2⟩ := Ev.get (Ref_yes g)
    obtain ⟨K3, h3⟩ := Ev.get (count_l0 (used := used) (next := next) (free := free) (by omega) used.length 0 0 (Int.le_refl _) (by omega) (by omega) (Int.le_refl _) (Int.le_refl _))
    obtain ⟨K4, h4⟩ := Ev.get (Free_f_yes (used := used) g.high g.chain g.nodup)
    refine ⟨((used.length : Int) - l.length, l.length, 0), Ev.succ (max K K3) fun k hk => ?_, Ev.succ (max K2 K4) fun k hk => ?_⟩
    · unfold arena_Count.f
      rw [h (k + 1) (by omega)]
      simp only [Option.bind_some, if_true]
      rw [h3 (k + 1) (by omega)]
      simp
      omega
    · unfold spigotref13_Count.f
      rw [h2 (k + 1) (by omega)]
      simp only [Option.bind_some, if_true]
      rw [h4 (k + 1) (by omega)]
      simp only [Option.bind_some]
      rw [show wrap64 ((used.length : Int) - (l.length : Int)) = (used.length : Int) - l.length by unfold wrap64; omega]
  · obtain ⟨K, h⟩ := Ev.get (Check_no hv)
    obtain ⟨K2, h2⟩ := Ev.get (Ref_no hv)
    refine ⟨(0, 0, 8), Ev.succ K fun k hk => ?_, Ev.succ K2 fun k hk => ?_⟩
    · unfold arena_Count.f
      rw [h (k + 1) (by omega)]; rfl
    · unfold spigotref13_Count.f
      rw [h2 (k + 1) (by omega)]; rfl

theorem ArenaDoes : spigotlaw13_ArenaDoes.Pure := by
  intro n next used free place _ _ _
  by_cases hg : 100 < next.length ∨ 100 < used.length
  · refine ⟨0, ?_⟩
    have : spigotref13_Great.f next used free = some true := by
      unfold spigotref13_Great.f
      by_cases h : (next.length : Int) > 100
      · rw [if_pos h]
      · rw [if_neg h, decide_eq_true (by omega)]
    unfold spigotlaw13_ArenaDoes.f
    rw [this]; rfl
  · have h0 : spigotref13_Great.f next used free = some false := by
      unfold spigotref13_Great.f
      rw [if_neg (by omega), decide_eq_false (by omega)]
    obtain ⟨x, hx1, hx2, hxl1, hxl2⟩ := new_both n
    obtain ⟨p, hp1, hp2, hpl1, hpl2⟩ := take_both (next := next) (used := used) (free := free)
    obtain ⟨u, hu1, hu2, hul1, hul2⟩ := give_both (next := next) (used := used) (free := free) place
    obtain ⟨c, hc1, hc2⟩ := check_both next used free
    obtain ⟨m, hm1, hm2⟩ := count_both next used free
    obtain ⟨K1, hx1⟩ := Ev.get hx1
    obtain ⟨K2, hx2⟩ := Ev.get hx2
    obtain ⟨K3, hp1⟩ := Ev.get hp1
    obtain ⟨K4, hp2⟩ := Ev.get hp2
    obtain ⟨K5, hu1⟩ := Ev.get hu1
    obtain ⟨K6, hu2⟩ := Ev.get hu2
    obtain ⟨K7, hc1⟩ := Ev.get hc1
    obtain ⟨K8, hc2⟩ := Ev.get hc2
    obtain ⟨K9, hm1⟩ := Ev.get hm1
    obtain ⟨K10, hm2⟩ := Ev.get hm2
    obtain ⟨K11, s1⟩ := Ev.get (Same_self (next := x.1) (used := x.2.1) (free := x.2.2.1) hxl1 hxl2)
    obtain ⟨K12, s2⟩ := Ev.get (Same_self (next := p.1) (used := p.2.1) (free := p.2.2.1) hpl1 hpl2)
    obtain ⟨K13, s3⟩ := Ev.get (Same_self (next := u.1) (used := u.2.1) (free := u.2.2.1) hul1 hul2)
    obtain ⟨K14, s4⟩ := Ev.get (Same_self (next := next) (used := used) (free := free) (by omega) (by omega))
    refine ⟨K1 + K2 + K3 + K4 + K5 + K6 + K7 + K8 + K9 + K10 + K11 + K12 + K13 + K14, ?_⟩
    generalize hk : K1 + K2 + K3 + K4 + K5 + K6 + K7 + K8 + K9 + K10 + K11 + K12 + K13 + K14 = k
    unfold spigotlaw13_ArenaDoes.f
    simp only [h0, Option.bind_some, Twin_f (next := next) (used := used) (free := free) (by omega) (by omega), hx1 k (by omega), hx2 k (by omega), hp1 k (by omega), hp2 k (by omega), hu1 k (by omega), hu2 k (by omega), hc1 k (by omega), hc2 k (by omega), hm1 k (by omega), hm2 k (by omega), s1 k (by omega), s2 k (by omega), s3 k (by omega), s4 k (by omega), if_true, if_neg (show ¬ (false = true) by decide)]
end Go.Proofs.Ytlgfopdindklnaa.Pure
