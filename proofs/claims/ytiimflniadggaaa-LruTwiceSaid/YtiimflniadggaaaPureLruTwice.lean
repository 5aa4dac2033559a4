/- The pure statement of LruTwice. -/
import Derived.Test.YtiimflniadggaaaPLrux25
import Derived.Test.YtiimflniadggaaaLruAlive
namespace Go.Proofs.Ytiimflniadggaaa.Pure
open Go.RowKit Go.Proofs.Ytiimflniadggaaa.PLru Go.Proofs.YtiimflniadggaaaW.PrintWords Go.Proofs.YtiimflniadggaaaW.PrintLast Go.Proofs.Ytiimflniadggaaa.LruPlain

theorem LruTwice : spigotlaw15_LruTwice.Pure := by
  intro P N h t p _ _
  obtain ⟨K0, h0'⟩ := Ev.get alive_ev
  by_cases g : P.length > 100 ∨ N.length > 100
  · refine ⟨K0, ?_⟩
    unfold spigotlaw15_LruTwice.f
    rw [h0' _ (Nat.le_refl _), Option.bind_some, if_pos rfl, great_f, Option.bind_some, if_pos (decide_eq_true g)]
  have hP : P.length ≤ 100 := by omega
  have hN : N.length ≤ 100 := by omega
  obtain ⟨r, _, hr, hq, _⟩ := places (P := P) (N := N) (h := h) (t := t) p hP hN
  obtain ⟨K1, h1'⟩ := Ev.get hr
  by_cases r0 : r = 0
  rotate_left
  · refine ⟨K0 + K1, ?_⟩
    unfold spigotlaw15_LruTwice.f
    rw [h0' _ (by omega), Option.bind_some, if_pos rfl, great_f, Option.bind_some, if_neg (by rw [decide_eq_false g]; simp), h1' _ (by omega), Option.bind_some, if_neg r0]
  obtain ⟨⟨n1, n2, L, hL, e1, e2, e3, e4⟩, p0, p1⟩ := hq.1 r0
  obtain ⟨n, hn⟩ : ∃ n, n = P.length := ⟨_, rfl⟩
  rw [← hn] at n1 n2 hL e1 e2 p1
  have hM := hL.touch p0 p1
  have ew : wo p (p :: wo p L) = wo p L := by
    have := wo_out (hL.wo p).2
    unfold wo at *
    rw [List.filter_cons_of_neg (by simp)]; exact this
  have t1 := ltouch_ev n1 n2 hL p0 p1
  have t2 := ltouch_ev n1 n2 hM p0 p1
  have r1 := lremove_ev n1 n2 hM p0 p1
  have r2 := lremove_ev n1 n2 hL p0 p1
  rw [ew] at t2 r1
  rw [if_pos List.mem_cons_self] at r1
  obtain ⟨K2, h2'⟩ := Ev.get t1
  obtain ⟨K3, h3'⟩ := Ev.get t2
  obtain ⟨K4, h4'⟩ := Ev.get r1
  obtain ⟨K5, h5'⟩ := Ev.get r2
  have sm : ∀ (X : List Int) (a b : Int), ∃ K, ∀ k, K ≤ k → spigotref15_Same.f k (PV n X) (NX n X) a b (PV n X) (NX n X) a b = some true := fun X a b => by
    have := same_ev (P := PV n X) (N := NX n X) (h := a) (t := b) (P' := PV n X) (N' := NX n X) (h' := a) (t' := b) (by rw [PV_len]; omega) (by rw [NX_len]; omega)
    rw [decide_eq_true (by simp)] at this
    exact this
  obtain ⟨K6, h6'⟩ := sm (p :: wo p L) p (lst (-1) (p :: wo p L))
  obtain ⟨K7, h7'⟩ := sm L (hd (-1) L) (lst (-1) L)
  obtain ⟨K8, h8'⟩ := sm (wo p L) (hd (-1) (wo p L)) (lst (-1) (wo p L))
  have gr := great_f P N h t
  have q1 := fun k hk => h1' k hk
  rw [e1, e2, e3, e4] at gr q1
  rw [r0] at q1
  refine ⟨K0 + K1 + K2 + K3 + K4 + K5 + K6 + K7 + K8, ?_⟩
  unfold spigotlaw15_LruTwice.f
  rw [e1, e2, e3, e4, h0' _ (by omega), Option.bind_some, if_pos rfl, gr, Option.bind_some, if_neg (by rw [PV_len, NX_len, decide_eq_false (by omega)]; simp), q1 _ (by omega), Option.bind_some, if_pos rfl]
  rw [h2' _ (by omega), Option.bind_some]
  have hpc : ∀ X, hd (-1) (p :: X) = p := fun _ => rfl
  simp only [hpc] at h3' h4'
  rw [h3' _ (by omega), Option.bind_some, h4' _ (by omega), Option.bind_some, h5' _ (by omega), Option.bind_some]
  dsimp only
  rw [if_pos rfl, if_pos rfl, if_pos rfl, h6' _ (by omega), Option.bind_some, if_pos rfl, if_pos rfl]
  have last_ : (if (if p ∈ L then (PV n (wo p L), NX n (wo p L), hd (-1) (wo p L), lst (-1) (wo p L), 0) else (([] : List Int), ([] : List Int), (0 : Int), (0 : Int), (6 : Int))).2.2.2.2 = 6 then
      (spigotref15_Same.f (K0 + K1 + K2 + K3 + K4 + K5 + K6 + K7 + K8) (PV n (wo p L)) (NX n (wo p L)) (hd (-1) (wo p L)) (lst (-1) (wo p L)) (PV n L) (NX n L) (hd (-1) L) (lst (-1) L)).bind fun t744 => (some t744)
      else if (if p ∈ L then (PV n (wo p L), NX n (wo p L), hd (-1) (wo p L), lst (-1) (wo p L), 0) else (([] : List Int), ([] : List Int), (0 : Int), (0 : Int), (6 : Int))).2.2.2.2 = 0 then
      (spigotref15_Same.f (K0 + K1 + K2 + K3 + K4 + K5 + K6 + K7 + K8) (PV n (wo p L)) (NX n (wo p L)) (hd (-1) (wo p L)) (lst (-1) (wo p L)) (if p ∈ L then (PV n (wo p L), NX n (wo p L), hd (-1) (wo p L), lst (-1) (wo p L), 0) else (([] : List Int), ([] : List Int), (0 : Int), (0 : Int), (6 : Int))).1 (if p ∈ L then (PV n (wo p L), NX n (wo p L), hd (-1) (wo p L), lst (-1) (wo p L), 0) else (([] : List Int), ([] : List Int), (0 : Int), (0 : Int), (6 : Int))).2.1 (if p ∈ L then (PV n (wo p L), NX n (wo p L), hd (-1) (wo p L), lst (-1) (wo p L), 0) else (([] : List Int), ([] : List Int), (0 : Int), (0 : Int), (6 : Int))).2.2.1 (if p ∈ L then (PV n (wo p L), NX n (wo p L), hd (-1) (wo p L), lst (-1) (wo p L), 0) else (([] : List Int), ([] : List Int), (0 : Int), (0 : Int), (6 : Int))).2.2.2.1).bind fun t745 => (some t745)
      else some false) = some true := by
    by_cases m : p ∈ L
    · simp only [if_pos m]
      rw [if_neg (by omega), if_pos trivial, h8' _ (by omega), Option.bind_some]
    · simp only [if_neg m]
      rw [if_pos trivial, wo_out m, h7' _ (by omega), Option.bind_some]
  by_cases f : hd (-1) L = p
  · rw [if_pos f]
    have eL : p :: wo p L = L := by
      cases L with
      | nil => simp [hd] at f; omega
      | cons y l =>
        have e : y = p := f
        subst e
        have h9 := wo_mid (A := []) hL.1
        rw [List.nil_append] at h9
        rw [h9]; rfl
    have h10 := h7' (K0 + K1 + K2 + K3 + K4 + K5 + K6 + K7 + K8) (by omega)
    have h11 : spigotref15_Same.f (K0 + K1 + K2 + K3 + K4 + K5 + K6 + K7 + K8) (PV n (p :: wo p L)) (NX n (p :: wo p L)) p (lst (-1) (p :: wo p L)) (PV n L) (NX n L) (hd (-1) L) (lst (-1) L) = some true := by
      rw [eL, f] at *
      exact h10
    rw [h11, Option.bind_some, if_pos rfl]
    exact last_
  · rw [if_neg f]
    exact last_

end Go.Proofs.Ytiimflniadggaaa.Pure
