/- The pure statement of ShareFair. -/
import Derived.Test.YteeceppbnkkfpaaPSharex33
import Derived.Test.YteeceppbnkkfpaaShareAlive
import Derived.Test.YteeceppbnkkfpaaSharePlain5
namespace Go.Proofs.Yteeceppbnkkfpaa.Pure
open Go.RowKit Go.Proofs.Yteeceppbnkkfpaa.PShare Go.Proofs.YteeceppbnkkfpaaW.PrintWords Go.Proofs.YteeceppbnkkfpaaW.PrintLast Go.Proofs.Yteeceppbnkkfpaa.SharePlain

section
variable {P : List (D × Int)} {S : Int} (hn : P.length ≤ 12) (hr : ∀ x ∈ P, Okd x.1 ∧ 0 ≤ x.2 ∧ x.2 ≤ W x.1) (hq : ∀ x ∈ P, ∀ y ∈ P, x.2 < W x.1 → (y.2 - 1) * G x.1 < (x.2 + 1) * G y.1)
include hn hr hq
theorem fair_l1 {x8 x9 : Int} {A B : List (D × Int)} {d : D} {v : Int} (e : P = A ++ (d, v) :: B) {r : Bool} (h : Ev (fun k => spigotlaw36_ShareFair.l0 k (P.map (·.1)) S true (P.map (·.2)) x8 x9 ((A.length : Int) + 1)) r) : ∀ B' A' : List (D × Int), P = A' ++ B' →
    Ev (fun k => spigotlaw36_ShareFair.l1 k (P.map (·.1)) S true (P.map (·.2)) x8 x9 (A.length : Int) (A'.length : Int)) r := by
  intro B'
  have lP : P.length = A.length + 1 + B.length := by rw [e]; simp; omega
  have y1 : rd_T37 (P.map (·.1)) (A.length : Int) = d := by rw [e]; have := rd_mid (A.map (·.1)) (B.map (·.1)) d; simpa using this
  have y2 : rd (P.map (·.2)) (A.length : Int) = v := by rw [e]; have := rdi_mid (A.map (·.2)) (B.map (·.2)) v; simpa using this
  induction B' with
  | nil =>
    intro A' f
    have lf : P.length = A'.length := by rw [f]; simp
    refine Ev.step (fun k => ?_) h
    rw [spigotlaw36_ShareFair.l1, if_neg (by simp; omega), w0 (by omega) (by omega)]
  | cons z B' ih =>
    intro A' f
    obtain ⟨c, u⟩ := z
    have lf : P.length = A'.length + 1 + B'.length := by rw [f]; simp; omega
    have z1 : rd_T37 (P.map (·.1)) (A'.length : Int) = c := by rw [f]; have := rd_mid (A'.map (·.1)) (B'.map (·.1)) c; simpa using this
    have z2 : rd (P.map (·.2)) (A'.length : Int) = u := by rw [f]; have := rdi_mid (A'.map (·.2)) (B'.map (·.2)) u; simpa using this
    have md : (d, v) ∈ P := by rw [e]; simp
    have mc : (c, u) ∈ P := by rw [f]; simp
    have rdv := hr _ md
    have rcu := hr _ mc
    have od : 0 ≤ d.f0 ∧ d.f0 ≤ 1000000000 ∧ 1 ≤ d.f1 ∧ d.f1 ≤ 1000 := rdv.1
    have oc : 0 ≤ c.f0 ∧ c.f0 ≤ 1000000000 ∧ 1 ≤ c.f1 ∧ c.f1 ≤ 1000 := rcu.1
    have v1 : 0 ≤ v ∧ v ≤ d.f0 := rdv.2
    have u1 : 0 ≤ u ∧ u ≤ c.f0 := rcu.2
    have nx : wrap64 ((A'.length : Int) + 1) = ((A' ++ [(c, u)]).length : Int) := by rw [w0 (by omega) (by omega)]; simp
    refine Ev.step (fun k => ?_) (ih (A' ++ [(c, u)]) (by rw [f]; simp))
    rw [spigotlaw36_ShareFair.l1, if_pos (by simp; omega), if_pos (by omega), if_pos (by simp; omega), if_pos (by simp; omega), y1, y2, nx]
    by_cases g : v < d.f0
    · rw [if_pos g]
      by_cases s : (A'.length : Int) = A.length
      · rw [if_pos s]
      · have key : (u - 1) * d.f1 < (v + 1) * c.f1 := hq _ md _ mc g
        have b1 : -1000 ≤ (u - 1) * d.f1 ∧ (u - 1) * d.f1 ≤ 1000000000000 := by
          have h1 := mul_bound (m := 1000000000) (n := 1000) (a := u) (b := d.f1) u1.1 (by omega) (by omega) od.2.2.2
          rw [Int.sub_mul]; omega
        have b2 : 0 ≤ (v + 1) * c.f1 ∧ (v + 1) * c.f1 ≤ 2000000000000 := by
          have h1 := mul_bound (m := 1000000000) (n := 1000) (a := v) (b := c.f1) v1.1 (by omega) (by omega) oc.2.2.2
          rw [Int.add_mul]; omega
        rw [if_neg s, if_pos (by omega), if_pos (by simp; omega), z1, z2, if_pos (by omega), if_pos (by omega), w0 (i := u - 1) (by omega) (by omega), w0 (i := v + 1) (by omega) (by omega), w0 (i := (u - 1) * d.f1) (by omega) (by omega), w0 (i := (v + 1) * c.f1) (by omega) (by omega), if_neg (by omega)]
    · rw [if_neg g]
theorem fair_l0 (_hS : 0 ≤ S) (hsum : si (P.map (·.2)) = if sm W (P.map (·.1)) ≤ S then sm W (P.map (·.1)) else S) (hf : Ev (fun k => share_Fair.f k (P.map (·.1)) S (P.map (·.2))) (true, 0)) : ∀ B A : List (D × Int), P = A ++ B →
    Ev (fun k => spigotlaw36_ShareFair.l0 k (P.map (·.1)) S true (P.map (·.2)) (si (A.map (·.2))) (sm W (A.map (·.1))) (A.length : Int)) true := by
  intro B
  induction B with
  | nil =>
    intro A e
    rw [List.append_nil] at e
    subst e
    obtain ⟨K, hK⟩ := Ev.get hf
    refine ⟨K + 1, fun k hk => ?_⟩
    obtain ⟨k, rfl⟩ : ∃ j, k = j + 1 := ⟨k - 1, by omega⟩
    dsimp only
    rw [spigotlaw36_ShareFair.l0, if_neg (by simp), hK k (by omega), Option.bind_some, if_pos rfl]
    have e : si (P.map (·.2)) = mn (sm W (P.map (·.1))) S := by
      rw [hsum]; unfold mn
      by_cases q : sm W (P.map (·.1)) ≤ S
      · rw [if_pos q]
        by_cases q2 : S < sm W (P.map (·.1))
        · omega
        · rw [if_neg q2]
      · rw [if_neg q, if_pos (by omega)]
    rw [if_pos e, if_pos rfl]
  | cons z B ih =>
    intro A e
    obtain ⟨d, v⟩ := z
    have lP : P.length = A.length + 1 + B.length := by rw [e]; simp; omega
    have y1 : rd_T37 (P.map (·.1)) (A.length : Int) = d := by rw [e]; have := rd_mid (A.map (·.1)) (B.map (·.1)) d; simpa using this
    have y2 : rd (P.map (·.2)) (A.length : Int) = v := by rw [e]; have := rdi_mid (A.map (·.2)) (B.map (·.2)) v; simpa using this
    have rdv := hr (d, v) (by rw [e]; simp)
    have od : 0 ≤ d.f0 ∧ d.f0 ≤ 1000000000 ∧ 1 ≤ d.f1 ∧ d.f1 ≤ 1000 := rdv.1
    have v1 : 0 ≤ v ∧ v ≤ d.f0 := rdv.2
    have h2 := ih (A ++ [(d, v)]) (by rw [e]; simp)
    have e5 : si ((A ++ [(d, v)]).map (·.2)) = si (A.map (·.2)) + v := by rw [List.map_append, si_app]; simp [si]
    have e6 : sm W ((A ++ [(d, v)]).map (·.1)) = sm W (A.map (·.1)) + d.f0 := by rw [List.map_append, sm_app]; simp [sm, W]
    have e7 : ((A ++ [(d, v)]).length : Int) = (A.length : Int) + 1 := by simp
    rw [e5, e6, e7] at h2
    have h3 := fair_l1 hn hr hq e h2 P [] rfl
    have hAm : ∀ x ∈ A.map (·.1), Okd x := fun x hx => by
      obtain ⟨y, hy, rfl⟩ := List.mem_map.1 hx
      exact (hr y (by rw [e]; exact List.mem_append_left _ hy)).1
    have b1 := sm_nonneg (f := W) (A := A.map (·.1)) (fun x hx => (hAm x hx).1)
    have b2 := sm_bound (f := W) (A := A.map (·.1)) (m := 1000000000) (fun x hx => (hAm x hx).2.1)
    have b3 : ∀ Q : List (D × Int), (∀ x ∈ Q, x ∈ P) → 0 ≤ si (Q.map (·.2)) ∧ si (Q.map (·.2)) ≤ sm W (Q.map (·.1)) := by
      intro Q
      induction Q with
      | nil => intro _; simp [si, sm]
      | cons x Q ih2 =>
        intro hQ
        have := ih2 fun y hy => hQ y (List.mem_cons_of_mem _ hy)
        have := (hr x (hQ x List.mem_cons_self)).2
        simp only [List.map_cons, si, sm]; omega
    have b4 := b3 A fun x hx => by rw [e]; exact List.mem_append_left _ hx
    have lm : ((A.map (·.1)).length : Int) ≤ 12 := by simp; omega
    refine Ev.step (fun k => ?_) h3
    rw [spigotlaw36_ShareFair.l0, if_pos (by simp; omega), if_pos (by omega), if_pos (by simp; omega), y1, y2, if_neg (by omega), if_neg (by omega), w0 (i := si (A.map (·.2)) + v) (by omega) (by omega), w0 (i := sm W (A.map (·.1)) + d.f0) (by omega) (by omega)]
    rfl
end

theorem ShareFair : spigotlaw36_ShareFair.Pure := by
  intro l S _ _
  obtain ⟨K0, k0⟩ := Ev.get alive_ev
  by_cases g : l.length > 20
  · refine ⟨K0, ?_⟩
    unfold spigotlaw36_ShareFair.f
    rw [k0 _ (Nat.le_refl _), Option.bind_some, if_pos rfl, if_pos (by omega)]
  obtain ⟨r, hr, _, h2⟩ := asks l S
  obtain ⟨K1, k1⟩ := Ev.get h2
  by_cases c : r = 0
  · subst c
    have h := hr.1 rfl
    obtain ⟨a, b, ok, hv, _, _, _, _, h5, h6⟩ := all_of h
    have sl := shr_len ok a b S l
    have hl := h.1
    have m1 : (l.zip (Shr ok a b S l)).map (·.1) = l := List.map_fst_zip (by omega)
    have m2 : (l.zip (Shr ok a b S l)).map (·.2) = Shr ok a b S l := List.map_snd_zip (by omega)
    obtain ⟨K2, k2⟩ := Ev.get h5
    have hf : Ev (fun k => share_Fair.f k l S (Shr ok a b S l)) (true, 0) := by
      obtain ⟨_, _, q3⟩ := same_ev (a := Shr ok a b S l) (b := Shr ok a b S l) (by omega)
      obtain ⟨K4, k4⟩ := Ev.get q3
      refine ⟨K2 + K4, fun k hk => ?_⟩
      dsimp only
      unfold share_Fair.f
      rw [k2 k (by omega), Option.bind_some, if_pos rfl, if_pos (by omega), k4 k (by omega), Option.bind_some]
      simp
    have main := fair_l0 (P := l.zip (Shr ok a b S l)) (S := S) (by rw [List.length_zip]; omega) (fun x hx => shr_range h hv hx) (fun x hx y hy hs => shr_fair h hv hx hy hs) h.2.2.1 (by rw [m1, m2]; exact shr_sum hv) (by rw [m1, m2]; exact hf) _ [] rfl
    rw [m1, m2] at main
    obtain ⟨K3, k3⟩ := Ev.get main
    refine ⟨K0 + K1 + K2 + K3, ?_⟩
    unfold spigotlaw36_ShareFair.f
    rw [k0 _ (by omega), Option.bind_some, if_pos rfl, if_neg (by omega), k1 _ (by omega), Option.bind_some, if_pos rfl, k2 _ (by omega), Option.bind_some]
    dsimp only
    rw [if_pos rfl, if_pos (by omega)]
    exact k3 _ (by omega)
  · refine ⟨K0 + K1, ?_⟩
    unfold spigotlaw36_ShareFair.f
    rw [k0 _ (by omega), Option.bind_some, if_pos rfl, if_neg (by omega), k1 _ (by omega), Option.bind_some, if_neg c]

end Go.Proofs.Yteeceppbnkkfpaa.Pure
