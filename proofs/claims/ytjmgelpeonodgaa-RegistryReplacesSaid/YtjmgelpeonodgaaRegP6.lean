/- Lists of good parts: more on putting in and taking out. -/
import Derived.Test.YtjmgelpeonodgaaRegP5
namespace Go.Proofs.Ytjmgelpeonodgaa.TB
set_option linter.unusedSimpArgs false
set_option linter.unusedVariables false
open Go Go.Proofs Go.Proofs.Ytjmgelpeonodgaa.PM Go.Proofs.Ytjmgelpeonodgaa.RP
theorem reg_uniq {l : List t7.den} (H : RegOk l) {i j : Nat} (hi : i < l.length) (hj : j < l.length) (e : (l[i]).1 = (l[j]).1) : i = j := by
  rcases Nat.lt_trichotomy i j with k | k | k
  · exact absurd (H.inc i j hi hj k) (by rw [e]; exact Int.lt_irrefl _)
  · exact k
  · exact absurd (H.inc j i hj hi k) (by rw [e]; exact Int.lt_irrefl _)
theorem cut_out6 {l : List t7.den} (H : RegOk l) {c : Nat} (hc : c < l.length) : Cut (l.take c ++ l.drop (c + 1)) (l[c]).1 c where
  le := by rw [List.length_append, List.length_take, List.length_drop]; omega
  lo k hk hkc := by
    rw [List.getElem_append_left (by rw [List.length_take]; omega), List.getElem_take]
    exact H.inc k c (by omega) hc hkc
  hi k hk hkc := by
    rw [List.length_append, List.length_take, List.length_drop] at hk
    rw [List.getElem_append_right (by rw [List.length_take]; omega), List.getElem_drop]
    exact Int.le_of_lt (H.inc c _ hc (by rw [List.length_take]; omega) (by omega))
theorem ins_out6 {l : List t7.den} {c : Nat} (hc : c < l.length) (p : t7.den) : ins (l.take c ++ l.drop (c + 1)) p c = l.set c p := by
  have h1 : (l.take c).length = c := List.length_take_of_le (by omega)
  unfold ins
  rw [List.take_append_of_le_length (by omega), List.take_of_length_le (by omega), List.drop_append_of_le_length (by omega), List.drop_of_length_le (by omega), List.nil_append, List.set_eq_take_append_cons_drop, if_pos hc]
theorem filter_ins {l : List t7.den} {p : t7.den} {c : Nat} (n : ∀ q ∈ l, q.1 ≠ p.1) : (ins l p c).filter (fun q => q.1 != p.1) = l := by
  unfold ins
  rw [List.filter_append, List.filter_cons, bne_self_eq_false]
  have h1 : (l.take c).filter (fun q => q.1 != p.1) = l.take c := List.filter_eq_self.2 fun q hq => bne_iff_ne.2 (n q (List.mem_of_mem_take hq))
  have h2 : (l.drop c).filter (fun q => q.1 != p.1) = l.drop c := List.filter_eq_self.2 fun q hq => bne_iff_ne.2 (n q (List.mem_of_mem_drop hq))
  rw [h1]
  show l.take c ++ (l.drop c).filter _ = l
  rw [h2, List.take_append_drop]
theorem greg_ins {l : List t7.den} (g : GReg l) (H : RegOk l) {p : t7.den} (hp : PartOk p) {c : Nat} (cut : Cut l p.1 c) (n : ∀ q ∈ l, q.1 ≠ p.1) (h8 : l.length < 8) : GReg (ins l p c) :=
  reg_of (by rw [ins_len]; omega) (fun q hq => by
    rcases mem_ins.1 hq with rfl | h
    · exact hp
    · exact g.ok q h) (ris_ins (ris_of H) cut n)
theorem greg_out {l : List t7.den} (g : GReg l) (H : RegOk l) (f : t7.den → Bool) : GReg (l.filter f) :=
  reg_of (Nat.le_trans (List.length_filter_le _ _) g.len) (fun q hq => g.ok q (List.mem_filter.1 hq).1) ((ris_of H).filter f)
theorem greg_set {l : List t7.den} (g : GReg l) {p : t7.den} (hp : PartOk p) {c : Nat} (hc : c < l.length) (e : (l[c]).1 = p.1) : GReg (l.set c p) where
  len := by rw [List.length_set]; exact g.len
  ok q hq := by
    rcases List.mem_or_eq_of_mem_set hq with h | rfl
    · exact g.ok q h
    · exact hp
  inc i hi := by
    rw [List.length_set] at hi
    have h := g.inc i hi
    rw [List.getElem_set, List.getElem_set]
    by_cases a : c = i
    · subst a
      rw [if_pos rfl, if_neg (by omega)]
      rw [e] at h; exact h
    · rw [if_neg a]
      by_cases b : c = i + 1
      · subst b
        rw [if_pos rfl]
        rw [e] at h; exact h
      · rw [if_neg b]; exact h
theorem fit_f {l : List t7.den} (w : ∀ p ∈ l, t7.wf p) : (spigotlaw19_fit.F l = some (false, ())) ∨ (spigotlaw19_fit.F l = some (true, ()) ∧ GReg l ∧ (∀ p ∈ l, PSmall p) ∧ (∀ p ∈ l, PWf p)) := by
  rw [spigotlaw19_fit.F_eq]
  rcases great19_f (l := l) with ⟨hl, hs, e⟩ | e
  · have w2 : ∀ p ∈ l, PWf p := fun p hp => pwf_of (w p hp) (hs p hp)
    rw [e, ob, bnf rfl]
    rcases check_f w2 hl with ⟨g, _, h2⟩ | ⟨g, k, hk, _, h2⟩
    · rw [h2]; exact .inr ⟨rfl, g, hs, w2⟩
    · left
      rw [h2, ob]
      rcases hk with rfl | rfl <;> rfl
  · rw [e]; exact .inl rfl
end Go.Proofs.Ytjmgelpeonodgaa.TB
