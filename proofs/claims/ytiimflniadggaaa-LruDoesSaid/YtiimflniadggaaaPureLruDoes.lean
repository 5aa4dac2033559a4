/- The pure statement of LruDoes. -/
import Derived.Test.YtiimflniadggaaaPLrux22
import Derived.Test.YtiimflniadggaaaLruPlain4
namespace Go.Proofs.Ytiimflniadggaaa.Pure
open Go.RowKit Go.Proofs.Ytiimflniadggaaa.PLru Go.Proofs.YtiimflniadggaaaW.PrintWords Go.Proofs.YtiimflniadggaaaW.PrintLast Go.Proofs.Ytiimflniadggaaa.LruPlain

theorem LruDoes : spigotlaw15_LruDoes.Pure := by
  intro n P N h t p _ _ _
  by_cases g : P.length > 100 ∨ N.length > 100
  · refine ⟨0, ?_⟩
    unfold spigotlaw15_LruDoes.f
    rw [great_f, Option.bind_some, if_pos (decide_eq_true g)]
  have hP : P.length ≤ 100 := by omega
  have hN : N.length ≤ 100 := by omega
  obtain ⟨K1, h1⟩ := Ev.get (lnew_ev n)
  obtain ⟨K2, h2⟩ := Ev.get (rnew_ev n)
  obtain ⟨x, hx1, hx2, hx3, hx4⟩ := touches (P := P) (N := N) (h := h) (t := t) p hP hN
  obtain ⟨y, hy1, hy2, hy3, hy4⟩ := removes (P := P) (N := N) (h := h) (t := t) p hP hN
  obtain ⟨z, hz1, hz2⟩ := lasts (P := P) (N := N) (h := h) (t := t) hP hN
  obtain ⟨u, hu1, hu2, hu3⟩ := lists (P := P) (N := N) (h := h) (t := t) hP hN
  obtain ⟨c, hc1, hc2, _⟩ := checks P N h t hP hN
  obtain ⟨v, hv, hv1, hv2⟩ : ∃ v : List Int × List Int × Int × Int × Int, v = (if 1 ≤ n ∧ n ≤ 16 then (PV n.toNat [], NX n.toNat [], -1, -1, 0) else ([], [], 0, 0, 2)) ∧ v.1.length ≤ 100 ∧ v.2.1.length ≤ 100 := by
    refine ⟨_, rfl, ?_, ?_⟩
    · split
      · show (PV _ _).length ≤ 100; rw [PV_len]; omega
      · simp
    · split
      · show (NX _ _).length ≤ 100; rw [NX_len]; omega
      · simp
  rw [← hv] at h1 h2
  obtain ⟨A1, a1⟩ := Ev.get hx1
  obtain ⟨A2, a2⟩ := Ev.get hx2
  obtain ⟨A3, a3⟩ := Ev.get hy1
  obtain ⟨A4, a4⟩ := Ev.get hy2
  obtain ⟨A5, a5⟩ := Ev.get hz1
  obtain ⟨A6, a6⟩ := Ev.get hz2
  obtain ⟨A7, a7⟩ := Ev.get hu1
  obtain ⟨A8, a8⟩ := Ev.get hu2
  obtain ⟨A9, a9⟩ := Ev.get hc1
  obtain ⟨B1, b1⟩ := Ev.get hc2
  obtain ⟨B2, b2⟩ := Ev.get (same_ev (P := v.1) (N := v.2.1) (h := v.2.2.1) (t := v.2.2.2.1) (P' := v.1) (N' := v.2.1) (h' := v.2.2.1) (t' := v.2.2.2.1) (by omega) (by omega))
  obtain ⟨B3, b3⟩ := Ev.get (same_ev (P := x.1) (N := x.2.1) (h := x.2.2.1) (t := x.2.2.2.1) (P' := x.1) (N' := x.2.1) (h' := x.2.2.1) (t' := x.2.2.2.1) (by omega) (by omega))
  obtain ⟨B4, b4⟩ := Ev.get (same_ev (P := y.1) (N := y.2.1) (h := y.2.2.1) (t := y.2.2.2.1) (P' := y.1) (N' := y.2.1) (h' := y.2.2.1) (t' := y.2.2.2.1) (by omega) (by omega))
  obtain ⟨B5, b5⟩ := Ev.get (ints_ev (a := u.1) (b := u.1) (by omega))
  obtain ⟨B6, b6⟩ := Ev.get (same_ev (P := P) (N := N) (h := h) (t := t) (P' := P) (N' := N) (h' := h) (t' := t) (by omega) (by omega))
  refine ⟨K1 + K2 + A1 + A2 + A3 + A4 + A5 + A6 + A7 + A8 + A9 + B1 + B2 + B3 + B4 + B5 + B6, ?_⟩
  unfold spigotlaw15_LruDoes.f
  rw [great_f, Option.bind_some, if_neg (by rw [decide_eq_false g]; simp), rtwin_f (by omega) (by omega), Option.bind_some]
  rw [h1 _ (by omega), Option.bind_some, h2 _ (by omega), Option.bind_some, a1 _ (by omega), Option.bind_some, a2 _ (by omega), Option.bind_some, a3 _ (by omega), Option.bind_some, a4 _ (by omega), Option.bind_some]
  rw [b2 _ (by omega), Option.bind_some, if_pos (by simp), if_pos rfl, b3 _ (by omega), Option.bind_some, if_pos (by simp), if_pos rfl, b4 _ (by omega), Option.bind_some, if_pos (by simp), if_pos rfl]
  rw [a5 _ (by omega), Option.bind_some, a6 _ (by omega), Option.bind_some, a7 _ (by omega), Option.bind_some, a8 _ (by omega), Option.bind_some, a9 _ (by omega), Option.bind_some, b1 _ (by omega), Option.bind_some]
  rw [if_pos rfl, if_pos rfl, if_pos rfl, b5 _ (by omega), Option.bind_some, if_pos (by simp), if_pos rfl, b6 _ (by omega), Option.bind_some]
  simp

end Go.Proofs.Ytiimflniadggaaa.Pure
