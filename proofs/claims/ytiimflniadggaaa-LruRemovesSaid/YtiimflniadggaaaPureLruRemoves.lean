/- The pure statement of LruRemoves. -/
import Derived.Test.YtiimflniadggaaaPLrux26
import Derived.Test.YtiimflniadggaaaLruAlive
namespace Go.Proofs.Ytiimflniadggaaa.Pure
open Go.RowKit Go.Proofs.Ytiimflniadggaaa.PLru Go.Proofs.YtiimflniadggaaaW.PrintWords Go.Proofs.YtiimflniadggaaaW.PrintLast Go.Proofs.Ytiimflniadggaaa.LruPlain

theorem LruRemoves : spigotlaw15_LruRemoves.Pure := by
  intro P N h t p _ _
  obtain ⟨K0, h0'⟩ := Ev.get alive_ev
  by_cases g : P.length > 100 ∨ N.length > 100
  · refine ⟨K0, ?_⟩
    unfold spigotlaw15_LruRemoves.f
    rw [h0' _ (Nat.le_refl _), Option.bind_some, if_pos rfl, great_f, Option.bind_some, if_pos (decide_eq_true g)]
  have hP : P.length ≤ 100 := by omega
  have hN : N.length ≤ 100 := by omega
  obtain ⟨r, _, hr, hq, _⟩ := places (P := P) (N := N) (h := h) (t := t) p hP hN
  obtain ⟨K1, h1'⟩ := Ev.get hr
  by_cases r0 : r = 0
  rotate_left
  · refine ⟨K0 + K1, ?_⟩
    unfold spigotlaw15_LruRemoves.f
    rw [h0' _ (by omega), Option.bind_some, if_pos rfl, great_f, Option.bind_some, if_neg (by rw [decide_eq_false g]; simp), h1' _ (by omega), Option.bind_some, if_neg r0]
  obtain ⟨⟨n1, n2, L, hL, e1, e2, e3, e4⟩, p0, p1⟩ := hq.1 r0
  obtain ⟨n, hn⟩ : ∃ n, n = P.length := ⟨_, rfl⟩
  rw [← hn] at n1 n2 hL e1 e2 p1
  have hlen := hL.len
  have hwl := wo_len p L
  obtain ⟨K2, h2'⟩ := Ev.get (llist_made n1 n2 hL)
  obtain ⟨K3, h3'⟩ := Ev.get (lremove_ev n1 n2 hL p0 p1)
  obtain ⟨K4, h4'⟩ := Ev.get (in_ev (l := L) (by omega) p)
  obtain ⟨K5, h5'⟩ := Ev.get (llist_made n1 n2 (hL.wo p).1)
  obtain ⟨K6, h6'⟩ := Ev.get (without_ev (l := L) (by omega) p)
  obtain ⟨K7, h7'⟩ := Ev.get (ints_ev (a := wo p L) (b := wo p L) (by omega))
  obtain ⟨c, _, hc, _, hcv⟩ := checks (PV n (wo p L)) (NX n (wo p L)) (hd (-1) (wo p L)) (lst (-1) (wo p L)) (by rw [PV_len]; omega) (by rw [NX_len]; omega)
  have c0 : c = 0 := hcv.2 (Val.made n1 n2 (hL.wo p).1)
  subst c0
  obtain ⟨K8, h8'⟩ := Ev.get hc
  have gr := great_f P N h t
  have q1 := fun k hk => h1' k hk
  rw [e1, e2, e3, e4] at gr q1
  rw [r0] at q1
  refine ⟨K0 + K1 + K2 + K3 + K4 + K5 + K6 + K7 + K8, ?_⟩
  unfold spigotlaw15_LruRemoves.f
  rw [e1, e2, e3, e4, h0' _ (by omega), Option.bind_some, if_pos rfl, gr, Option.bind_some, if_neg (by rw [PV_len, NX_len, decide_eq_false (by omega)]; simp), q1 _ (by omega), Option.bind_some, if_pos rfl]
  rw [h2' _ (by omega), Option.bind_some, h3' _ (by omega), Option.bind_some]
  dsimp only
  rw [if_pos rfl]
  by_cases m : p ∈ L
  · simp only [if_pos m]
    rw [if_pos trivial, if_neg (by omega), h5' _ (by omega), Option.bind_some]
    dsimp only
    rw [if_pos rfl, h4' _ (by omega), Option.bind_some, if_pos (decide_eq_true m), h6' _ (by omega), Option.bind_some, h7' _ (by omega), Option.bind_some, if_pos (by simp), h8' _ (by omega), Option.bind_some]
    rfl
  · simp only [if_neg m]
    rw [if_neg (by omega), if_pos trivial, h4' _ (by omega), Option.bind_some, decide_eq_false m]
    rfl

end Go.Proofs.Ytiimflniadggaaa.Pure
