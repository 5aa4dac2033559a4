/- The registry's functions answer as the reference does. -/
import Derived.Test.YtjmgelpeonodgaaRegP3
namespace Go.Proofs.Ytjmgelpeonodgaa.TB
set_option linter.unusedSimpArgs false
set_option linter.unusedVariables false
open Go Go.Proofs Go.Proofs.Ytjmgelpeonodgaa.PM Go.Proofs.Ytjmgelpeonodgaa.RP
/-- What the statements say of a registry: not great, and data. -/
structure Reg (l : List t7.den) : Prop where
  len : l.length ≤ 20
  small : ∀ p ∈ l, PSmall p
  wf : ∀ p ∈ l, PWf p
theorem Reg.fits {l : List t7.den} (r : Reg l) : ∀ p ∈ l, fit p := fun p hp => fit_of (r.small p hp)
theorem find_same {l : List t7.den} (r : Reg l) (t : Int) : ∃ i e : Int, registry_Find.F l t = some (i, e, ()) ∧ spigotref19_Find.F l t = some (i, e, ()) := by
  rcases check_f r.wf r.len with ⟨g, h1, h2⟩ | ⟨g, e, he, h1, h2⟩
  · have H := g.reg r.wf
    have hl := r.len
    rw [spigotref19_Find.F_eq, h2, ob, bne_neg rfl, spigotref19_Find.L1_eq]
    rcases Find_ok H t with ⟨c, h, e, f⟩ | ⟨n, f⟩
    · rcases at19_f (l := l) (by omega) t with ⟨i, hi, e2, f2⟩ | ⟨n, _⟩
      · have : i = c := by
          rcases Nat.lt_trichotomy i c with k | k | k
          · exact absurd (H.inc i c hi h k) (by rw [e, e2]; exact Int.lt_irrefl _)
          · exact k
          · exact absurd (H.inc c i h hi k) (by rw [e, e2]; exact Int.lt_irrefl _)
        subst this
        exact ⟨_, _, f, by rw [f2, ob, bd_neg (by dsimp only; omega), spigotref19_Find.L2_eq, f2, ob]⟩
      · exact absurd e (n _ (List.getElem_mem h))
    · rcases at19_f (l := l) (by omega) t with ⟨i, hi, e2, f2⟩ | ⟨_, f2⟩
      · exact absurd e2 (n _ (List.getElem_mem hi))
      · exact ⟨_, _, f, by rw [f2]; rfl⟩
  · refine ⟨0, e, ?_, ?_⟩
    · rw [registry_Find.F_eq, h1, ob, bne_pos (by omega)]
    · rw [spigotref19_Find.F_eq, h2, ob, bne_pos (by omega), ob]
theorem part_cases {p : t7.den} (w : PWf p) : (PartOk p ∧ part_Check.F p = some (0, ()) ∧ spigotref18_Check.F p = some (0, ())) ∨ (¬ PartOk p ∧ part_Check.F p = some (8, ()) ∧ spigotref18_Check.F p = some (8, ())) := by
  by_cases h : PartOk p
  · exact .inl ⟨h, (part_says w).yes h, (rpart_says w).yes h⟩
  · exact .inr ⟨h, (part_says w).no h, (rpart_says w).no h⟩
theorem ins_small {l : List t7.den} {p : t7.den} {c : Nat} (hl : ∀ q ∈ l, PSmall q) (hp : PSmall p) : ∀ q ∈ ins l p c, PSmall q := fun q hq => by
  unfold ins at hq
  rcases List.mem_append.1 hq with h | h
  · exact hl q (List.mem_of_mem_take h)
  · rcases List.mem_cons.1 h with rfl | h
    · exact hp
    · exact hl q (List.mem_of_mem_drop h)
theorem put_same {l : List t7.den} (r : Reg l) {p : t7.den} (hs : PSmall p) (w : PWf p) : ∃ (a : List t7.den) (e : Int), registry_Put.F l p = some (a, e, ()) ∧ spigotref19_Put.F l p = some (a, e, ()) ∧ a.length ≤ 1000 ∧ ∀ q ∈ a, PSmall q := by
  rcases check_f r.wf r.len with ⟨g, h1, h2⟩ | ⟨g, e, he, h1, h2⟩
  · have H := g.reg r.wf
    have hl := r.len
    rw [spigotref19_Put.F_eq, h2, ob, bne_neg rfl, spigotref19_Put.L1_eq]
    rcases part_cases w with ⟨ok, q1, q2⟩ | ⟨_, q1, q2⟩
    · rw [show spigotref18_Check.F _ = some (0, ()) from q2, ob, bne_neg rfl, spigotref19_Put.L2_eq]
      rcases Put_ok H r.fits q1 (fit_of hs) with ⟨c, h, e, f⟩ | ⟨n, f⟩
      · rcases at19_f (l := l) (by omega) p.1 with ⟨i, hi, e2, f2⟩ | ⟨n, _⟩
        · refine ⟨_, _, f, ?_, by simp, fun q hq => by cases hq⟩
          rw [f2, ob, bd_pos (by dsimp only; omega)]
        · exact absurd e (n _ (List.getElem_mem h))
      · rcases at19_f (l := l) (by omega) p.1 with ⟨i, hi, e2, f2⟩ | ⟨_, f2⟩
        · exact absurd e2 (n _ (List.getElem_mem hi))
        · rw [f2, ob, bd_neg (by decide), spigotref19_Put.L3_eq]
          rcases f with ⟨h8, f⟩ | ⟨h8, c, cut, f⟩
          · exact ⟨_, _, f, by rw [beq_pos (by omega)], by simp, fun q hq => by cases hq⟩
          · rw [beq_neg (by omega), spigotref19_Put.L4_eq]
            obtain ⟨c', cut', f'⟩ := with_f hl r.small hs (sub_inc H _)
            rw [filter_none n] at cut' f'
            rw [show spigotref19_With.F l _ = _ from f', ob]
            obtain rfl := Cut.one n cut cut'
            refine ⟨ins l p c, 0, ?_, rfl, ?_, ins_small r.small hs⟩
            · rw [f]; unfold ins; rw [List.append_assoc]; rfl
            · rw [ins_len]; omega
    · refine ⟨[], 8, Put_bad H q1, ?_, by simp, fun q hq => by cases hq⟩
      rw [show spigotref18_Check.F _ = some (8, ()) from q2, ob, bne_pos (by decide)]
  · refine ⟨[], e, ?_, ?_, by simp, fun q hq => by cases hq⟩
    · rw [registry_Put.F_eq, h1, ob, bne_pos (by omega)]
    · rw [spigotref19_Put.F_eq, h2, ob, bne_pos (by omega), ob]
theorem drop_same {l : List t7.den} (r : Reg l) (t : Int) : ∃ (a : List t7.den) (e : Int), registry_Drop.F l t = some (a, e, ()) ∧ spigotref19_Drop.F l t = some (a, e, ()) ∧ a.length ≤ 1000 ∧ ∀ q ∈ a, PSmall q := by
  rcases check_f r.wf r.len with ⟨g, h1, h2⟩ | ⟨g, e, he, h1, h2⟩
  · have H := g.reg r.wf
    have hl := r.len
    rw [spigotref19_Drop.F_eq, h2, ob, bne_neg rfl, spigotref19_Drop.L1_eq]
    rcases Drop_ok H r.fits t with ⟨c, h, e, f⟩ | ⟨n, f⟩
    · rcases at19_f (l := l) (by omega) t with ⟨i, hi, e2, f2⟩ | ⟨n, _⟩
      · rw [f2, ob, bd_neg (by dsimp only; omega), spigotref19_Drop.L2_eq, without_f hl r.small, ob, ← e, filter_one H h]
        refine ⟨_, _, by rw [e, f], rfl, ?_, fun q hq => ?_⟩
        · rw [List.length_append, List.length_take, List.length_drop]; omega
        · rcases List.mem_append.1 hq with k | k
          · exact r.small q (List.mem_of_mem_take k)
          · exact r.small q (List.mem_of_mem_drop k)
      · exact absurd e (n _ (List.getElem_mem h))
    · rcases at19_f (l := l) (by omega) t with ⟨i, hi, e2, f2⟩ | ⟨_, f2⟩
      · exact absurd e2 (n _ (List.getElem_mem hi))
      · exact ⟨_, _, f, by rw [f2]; rfl, by simp, fun q hq => by cases hq⟩
  · refine ⟨[], e, ?_, ?_, by simp, fun q hq => by cases hq⟩
    · rw [registry_Drop.F_eq, registry_Find.F_eq, h1, ob, bne_pos (by omega), ob, bne_pos (by dsimp only; omega)]
    · rw [spigotref19_Drop.F_eq, h2, ob, bne_pos (by omega), ob]
theorem cut_out {l : List t7.den} (H : RegOk l) {c : Nat} (hc : c < l.length) : Cut (l.take c ++ l.drop (c + 1)) (l[c]).1 c where
  le := by rw [List.length_append, List.length_take, List.length_drop]; omega
  lo k hk hkc := by
    rw [List.getElem_append_left (by rw [List.length_take]; omega), List.getElem_take]
    exact H.inc k c (by omega) hc hkc
  hi k hk hkc := by
    rw [List.length_append, List.length_take, List.length_drop] at hk
    rw [List.getElem_append_right (by rw [List.length_take]; omega), List.getElem_drop]
    exact Int.le_of_lt (H.inc c _ hc (by rw [List.length_take]; omega) (by omega))
theorem ins_out {l : List t7.den} {c : Nat} (hc : c < l.length) (p : t7.den) : ins (l.take c ++ l.drop (c + 1)) p c = l.set c p := by
  have h1 : (l.take c).length = c := List.length_take_of_le (by omega)
  unfold ins
  rw [List.take_append_of_le_length (by omega), List.take_of_length_le (by omega), List.drop_append_of_le_length (by omega), List.drop_of_length_le (by omega), List.nil_append, List.set_eq_take_append_cons_drop, if_pos hc]
theorem replace_same {l : List t7.den} (r : Reg l) {p : t7.den} (hs : PSmall p) (w : PWf p) : ∃ (a : List t7.den) (e : Int), registry_Replace.F l p = some (a, e, ()) ∧ spigotref19_Replace.F l p = some (a, e, ()) ∧ a.length ≤ 1000 ∧ ∀ q ∈ a, PSmall q := by
  rcases check_f r.wf r.len with ⟨g, h1, h2⟩ | ⟨g, e, he, h1, h2⟩
  · have H := g.reg r.wf
    have hl := r.len
    rw [spigotref19_Replace.F_eq, h2, ob, bne_neg rfl, spigotref19_Replace.L1_eq]
    rcases part_cases w with ⟨ok, q1, q2⟩ | ⟨_, q1, q2⟩
    · rw [show spigotref18_Check.F _ = some (0, ()) from q2, ob, bne_neg rfl, spigotref19_Replace.L2_eq]
      rcases Replace_ok H r.fits q1 (fit_of hs) with ⟨c, h, e, f⟩ | ⟨n, f⟩
      · rcases at19_f (l := l) (by omega) p.1 with ⟨i, hi, e2, f2⟩ | ⟨n, _⟩
        · rw [f2, ob, bd_neg (by dsimp only; omega), spigotref19_Replace.L3_eq]
          obtain ⟨c', cut', f'⟩ := with_f hl r.small hs (sub_inc H _)
          have hn : ∀ q ∈ l.filter (fun q => q.1 != p.1), q.1 ≠ p.1 := fun q hq => bne_iff_ne.1 (List.mem_filter.1 hq).2
          have cut := cut_out H h
          have fo := filter_one H h
          rw [e] at cut fo
          rw [fo] at cut' f' hn
          obtain rfl := Cut.one hn cut cut'
          rw [ins_out h] at f'
          rw [show spigotref19_With.F l _ = _ from f', ob]
          refine ⟨_, _, f, rfl, by rw [List.length_set]; omega, fun q hq => ?_⟩
          rcases List.mem_or_eq_of_mem_set hq with k | rfl
          · exact r.small q k
          · exact hs
        · exact absurd e (n _ (List.getElem_mem h))
      · rcases at19_f (l := l) (by omega) p.1 with ⟨i, hi, e2, f2⟩ | ⟨_, f2⟩
        · exact absurd e2 (n _ (List.getElem_mem hi))
        · exact ⟨_, _, f, by rw [f2]; rfl, by simp, fun q hq => by cases hq⟩
    · refine ⟨[], 8, Replace_bad H q1, ?_, by simp, fun q hq => by cases hq⟩
      rw [show spigotref18_Check.F _ = some (8, ()) from q2, ob, bne_pos (by decide)]
  · refine ⟨[], e, ?_, ?_, by simp, fun q hq => by cases hq⟩
    · rw [registry_Replace.F_eq, h1, ob, bne_pos (by omega)]
    · rw [spigotref19_Replace.F_eq, h2, ob, bne_pos (by omega), ob]
theorem tenants_ok {l : List t7.den} (H : RegOk l) : registry_Tenants.F l = some (l.map (fun p => p.1), 0, ()) := by
  have hl := H.len
  rw [registry_Tenants.F_eq, chk_ok H, ob, bne_neg rfl, registry_Tenants.L1_eq]
  have h2 := loop_go (n := l.length) (L := fun i => registry_Tenants.L2 l (l.length : Int) (i : Int) ((l.take i).map (fun p => p.1))) (fun i hi => by
    try dsimp only
    rw [registry_Tenants.L2_eq, bd_pos (by omega), registry_Tenants.L3_eq, bd_pos (by omega)]
    simp only [toNat_cast]
    rw [getD_get hi, lim_small (by decide) (by simp; omega), W_eq (by omega) (by omega), cast_add1, ← List.take_append_getElem hi, List.map_append]
    rfl)
  refine Eq.trans h2 ?_
  try dsimp only
  rw [registry_Tenants.L2_eq, bd_neg (by omega), List.take_of_length_le (Nat.le_refl _)]
theorem rtenants_ok {l : List t7.den} (hl : l.length ≤ 20) (h : spigotref19_Check.F l = some (0, ())) : spigotref19_Tenants.F l = some (l.map (fun p => p.1), 0, ()) := by
  rw [spigotref19_Tenants.F_eq, h, ob, bne_neg rfl, spigotref19_Tenants.L1_eq]
  have h2 := loop_go (n := l.length) (L := fun i => spigotref19_Tenants.L2 l (i : Int) ((l.take i).map (fun p => p.1))) (fun i hi => by
    try dsimp only
    rw [spigotref19_Tenants.L2_eq, bd_pos (by omega), spigotref19_Tenants.L3_eq, bd_pos (by omega)]
    simp only [toNat_cast]
    rw [getD_get hi, lim_small (by decide) (by simp; omega), W_eq (by omega) (by omega), cast_add1, ← List.take_append_getElem hi, List.map_append]
    rfl)
  refine Eq.trans h2 ?_
  try dsimp only
  rw [spigotref19_Tenants.L2_eq, bd_neg (by omega), List.take_of_length_le (Nat.le_refl _)]
theorem tenants_same {l : List t7.den} (r : Reg l) : ∃ (a : List Int) (e : Int), registry_Tenants.F l = some (a, e, ()) ∧ spigotref19_Tenants.F l = some (a, e, ()) ∧ a.length ≤ 1000 := by
  rcases check_f r.wf r.len with ⟨g, h1, h2⟩ | ⟨g, e, he, h1, h2⟩
  · have hl := r.len
    exact ⟨_, _, tenants_ok (g.reg r.wf), rtenants_ok hl h2, by rw [List.length_map]; omega⟩
  · refine ⟨[], e, ?_, ?_, by simp⟩
    · rw [registry_Tenants.F_eq, h1, ob, bne_pos (by omega)]
    · rw [spigotref19_Tenants.F_eq, h2, ob, bne_pos (by omega), ob]
theorem reg_check_same {l : List t7.den} (r : Reg l) : ∃ e : Int, registry_Check.F l = some (e, ()) ∧ spigotref19_Check.F l = some (e, ()) := by
  rcases check_f r.wf r.len with ⟨g, h1, h2⟩ | ⟨g, e, he, h1, h2⟩
  · exact ⟨_, h1, h2⟩
  · exact ⟨e, h1, h2⟩
end Go.Proofs.Ytjmgelpeonodgaa.TB
