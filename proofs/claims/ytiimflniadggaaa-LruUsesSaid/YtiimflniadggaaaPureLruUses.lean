/- The pure statement of LruUses. -/
import Derived.Test.YtiimflniadggaaaPLrux24
import Derived.Test.YtiimflniadggaaaLruAlive
namespace Go.Proofs.Ytiimflniadggaaa.Pure
open Go.RowKit Go.Proofs.Ytiimflniadggaaa.PLru Go.Proofs.YtiimflniadggaaaW.PrintWords Go.Proofs.YtiimflniadggaaaW.PrintLast Go.Proofs.Ytiimflniadggaaa.LruPlain

theorem snoc_ind {C : List Int → Prop} (h0 : C []) (h1 : ∀ l x, C l → C (l ++ [x])) (l : List Int) : C l := by
  have h : ∀ r : List Int, C r.reverse := by
    intro r
    induction r with
    | nil => exact h0
    | cons x r ih => rw [List.reverse_cons]; exact h1 _ _ ih
  have := h l.reverse
  rwa [List.reverse_reverse] at this
/-- The list after one touch. -/
def stp (n : Nat) (D : List Int) (x : Int) : List Int := if 0 ≤ x ∧ x < n then x :: wo x D else D
def dn (n : Nat) (S : List Int) (l : List Int) : List Int := l.foldl (stp n) S
theorem dn_snoc (n : Nat) (S l : List Int) (x : Int) : dn n S (l ++ [x]) = stp n (dn n S l) x := by simp [dn]
theorem dn_ok {n : Nat} (l : List Int) : Ok n (dn n [] l) := by
  refine snoc_ind (C := fun l => Ok n (dn n [] l)) (Ok.nil n) (fun l x ih => ?_) l
  show Ok n (dn n [] (l ++ [x]))
  rw [dn_snoc]
  unfold stp
  split
  · next h => exact ih.touch h.1 h.2
  · exact ih
theorem wo_app (x : Int) (A B : List Int) : wo x (A ++ B) = wo x A ++ wo x B := by simp [wo]
theorem dn_one (n : Nat) (x : Int) (l : List Int) : dn n [x] l = dn n [] l ++ (if x ∈ dn n [] l then [] else [x]) := by
  refine snoc_ind (C := fun l => dn n [x] l = dn n [] l ++ (if x ∈ dn n [] l then [] else [x])) ?_ (fun l y ih => ?_) l
  · simp [dn]
  · rw [dn_snoc, dn_snoc, ih]
    unfold stp
    by_cases v : 0 ≤ y ∧ y < n
    · rw [if_pos v, if_pos v, wo_app]
      by_cases q : x = y
      · subst q
        rw [if_pos List.mem_cons_self]
        split <;> simp [wo]
      · have h1 : (x ∈ y :: wo y (dn n [] l)) ↔ x ∈ dn n [] l := by
          simp [wo, q]
        by_cases m : x ∈ dn n [] l
        · rw [if_pos m, if_pos (h1.2 m)]; simp [wo]
        · rw [if_neg m, if_neg (fun e => m (h1.1 e))]; simp [wo, q]
    · rw [if_neg v, if_neg v]
theorem dn_cons (n : Nat) (x : Int) (l : List Int) : dn n [] (x :: l) = if (0 ≤ x ∧ x < n) ∧ x ∉ dn n [] l then dn n [] l ++ [x] else dn n [] l := by
  have e : dn n [] (x :: l) = dn n (stp n [] x) l := rfl
  rw [e]
  unfold stp
  by_cases v : 0 ≤ x ∧ x < n
  · rw [if_pos v]
    have e2 : x :: wo x [] = [x] := rfl
    rw [e2, dn_one]
    by_cases m : x ∈ dn n [] l
    · rw [if_pos m, if_neg (fun c => c.2 m), List.append_nil]
    · rw [if_neg m, if_pos ⟨v, m⟩]
  · rw [if_neg v, if_neg (fun c => v c.1)]

theorem uses_end {n : Nat} (hn1 : 1 ≤ n) (hn : n ≤ 16) (l D : List Int) (hD : Ok n D) : Ev (fun k => spigotlaw15_LruUses.l1 k n l true D (-1) (PV n D) (NX n D) (hd (-1) D) (lst (-1) D)) true := by
  have hlen := hD.len
  obtain ⟨K1, h1⟩ := Ev.get (llist_made hn1 hn hD)
  obtain ⟨K2, h2⟩ := Ev.get (llast_made hn1 hn hD)
  obtain ⟨K3, h3⟩ := Ev.get (ints_ev (a := D) (b := D) (by omega))
  refine ⟨K1 + K2 + K3 + 1, fun k hk => ?_⟩
  obtain ⟨k, rfl⟩ : ∃ j, k = j + 1 := ⟨k - 1, by omega⟩
  dsimp only
  rw [spigotlaw15_LruUses.l1, if_neg (by omega), h1 _ (by omega), Option.bind_some, h2 _ (by omega), Option.bind_some, if_pos rfl]
  dsimp only
  rw [if_pos rfl, h3 _ (by omega), Option.bind_some, if_pos (by simp)]
  by_cases e : D = []
  · subst e; rfl
  · have hp : 0 < D.length := List.length_pos_iff.2 e
    have hr : rd D ((D.length : Int) - 1) = lst (-1) D := by
      have := rd_last [] e (-1); rwa [List.append_nil] at this
    simp only [if_neg e]
    rw [if_pos (by rw [decide_eq_true (by omega)]; rfl), if_pos trivial, w0 (by omega) (by omega), if_pos (by omega), if_pos (by omega), hr]
    simp
theorem uses_back {n : Nat} (hn1 : 1 ≤ n) (hn : n ≤ 16) {l : List Int} (hl : l.length ≤ 60) : ∀ B A : List Int, l = A.reverse ++ B →
    Ev (fun k => spigotlaw15_LruUses.l1 k n l true (dn n [] B) ((A.length : Int) - 1) (PV n (dn n [] l)) (NX n (dn n [] l)) (hd (-1) (dn n [] l)) (lst (-1) (dn n [] l))) true := by
  intro B A
  induction A generalizing B with
  | nil =>
    intro e
    have e2 : l = B := by simpa using e
    subst e2
    exact uses_end hn1 hn l _ (dn_ok l)
  | cons x A ih =>
    intro e
    have e2 : l = A.reverse ++ x :: B := by rw [e]; simp
    have h1 := ih (x :: B) e2
    have hll : l.length = A.length + 1 + B.length := by rw [e2]; simp; omega
    have hy : rd l (A.length : Int) = x := by
      have := rd_mid A.reverse B x
      rw [List.length_reverse] at this
      rw [e2]; exact this
    have hdl := (dn_ok (n := n) B).len
    obtain ⟨K1, k1⟩ := Ev.get h1
    obtain ⟨K2, k2⟩ := Ev.get (in_ev (l := dn n [] B) (by omega) x)
    refine ⟨K1 + K2 + 1, fun k hk => ?_⟩
    obtain ⟨k, rfl⟩ : ∃ j, k = j + 1 := ⟨k - 1, by omega⟩
    have e3 : (((x :: A).length : Nat) : Int) - 1 = (A.length : Int) := by simp
    have k1' := k1 k (by omega)
    rw [dn_cons] at k1'
    dsimp only
    rw [e3, spigotlaw15_LruUses.l1, if_pos (by omega), if_pos (by omega), if_pos (by omega), hy, w0 (by omega) (by omega)]
    by_cases v : 0 ≤ x ∧ x < n
    · rw [if_pos v.1, if_pos v.2, k2 _ (by omega), Option.bind_some]
      by_cases m : x ∈ dn n [] B
      · rw [if_pos (decide_eq_true m)]
        rw [if_neg (fun c => c.2 m)] at k1'
        exact k1'
      · rw [if_neg (by rw [decide_eq_false m]; simp), if_pos (by omega)]
        rw [if_pos ⟨v, m⟩] at k1'
        exact k1'
    · rw [if_neg (fun c => v c.1)] at k1'
      by_cases v0 : x ≥ 0
      · rw [if_pos v0, if_neg (by omega)]; exact k1'
      · rw [if_neg v0]; exact k1'
theorem uses_l0 {n : Nat} (hn1 : 1 ≤ n) (hn : n ≤ 16) {l : List Int} (hl : l.length ≤ 60) : ∀ B A : List Int, l = A ++ B →
    Ev (fun k => spigotlaw15_LruUses.l0 k n l true (A.length : Int) (PV n (dn n [] A)) (NX n (dn n [] A)) (hd (-1) (dn n [] A)) (lst (-1) (dn n [] A))) true := by
  intro B
  induction B with
  | nil =>
    intro A e
    rw [List.append_nil] at e
    subst e
    have h1 := uses_back hn1 hn hl [] l.reverse (by simp)
    rw [List.length_reverse] at h1
    refine Ev.step (fun k => ?_) h1
    rw [spigotlaw15_LruUses.l0, if_neg (by omega), w0 (by omega) (by omega)]; rfl
  | cons x B ih =>
    intro A e
    have h1 := ih (A ++ [x]) (by rw [e]; simp)
    rw [dn_snoc] at h1
    have hll : l.length = A.length + 1 + B.length := by rw [e]; simp; omega
    have hy : rd l (A.length : Int) = x := by rw [e]; exact rd_mid _ _ _
    have hA := dn_ok (n := n) A
    have e4 : (A.length : Int) + 1 = ((A ++ [x]).length : Int) := by simp
    obtain ⟨K1, k1⟩ := Ev.get h1
    by_cases v : 0 ≤ x ∧ x < n
    · have hT := hA.touch v.1 v.2
      obtain ⟨K2, k2⟩ := Ev.get (ltouch_ev hn1 hn hA v.1 v.2)
      obtain ⟨c, _, hc, _, hcv⟩ := checks (PV n (x :: wo x (dn n [] A))) (NX n (x :: wo x (dn n [] A))) x (lst (-1) (x :: wo x (dn n [] A))) (by rw [PV_len]; omega) (by rw [NX_len]; omega)
      have c0 : c = 0 := hcv.2 (Val.made hn1 hn hT)
      subst c0
      obtain ⟨K3, k3⟩ := Ev.get hc
      refine ⟨K1 + K2 + K3 + 1, fun k hk => ?_⟩
      obtain ⟨k, rfl⟩ : ∃ j, k = j + 1 := ⟨k - 1, by omega⟩
      have k1' := k1 k (by omega)
      rw [stp, if_pos v] at k1'
      dsimp only
      rw [spigotlaw15_LruUses.l0, if_pos (by omega), if_pos (by omega), hy, k2 _ (by omega), Option.bind_some, if_neg (by omega), if_neg (by omega)]
      dsimp only
      rw [if_pos rfl, k3 _ (by omega), Option.bind_some, if_pos rfl, w0 (by omega) (by omega), e4]
      exact k1'
    · obtain ⟨r, hr, _, _, hq⟩ := places (P := PV n (dn n [] A)) (N := NX n (dn n [] A)) (h := hd (-1) (dn n [] A)) (t := lst (-1) (dn n [] A)) x (by rw [PV_len]; omega) (by rw [NX_len]; omega)
      have r2 : r = 2 := by rw [hq (Val.made hn1 hn hA), PV_len, if_neg v]
      subst r2
      obtain ⟨K2, k2⟩ := Ev.get hr
      have k3 : ∀ k, K2 ≤ k → lru_Touch.f k (PV n (dn n [] A)) (NX n (dn n [] A)) (hd (-1) (dn n [] A)) (lst (-1) (dn n [] A)) x = some ([], [], 0, 0, 2) := fun k hk => by
        unfold lru_Touch.f; rw [k2 k hk, Option.bind_some, if_neg (by omega)]
      refine ⟨K1 + K2 + 1, fun k hk => ?_⟩
      obtain ⟨k, rfl⟩ : ∃ j, k = j + 1 := ⟨k - 1, by omega⟩
      have k1' := k1 k (by omega)
      rw [stp, if_neg v] at k1'
      dsimp only
      rw [spigotlaw15_LruUses.l0, if_pos (by omega), if_pos (by omega), hy, k3 _ (by omega), Option.bind_some, w0 (by omega) (by omega), e4]
      by_cases v0 : x < 0
      · rw [if_pos v0, if_pos rfl]; exact k1'
      · rw [if_neg v0, if_pos (by omega), if_pos rfl]; exact k1'
theorem LruUses : spigotlaw15_LruUses.Pure := by
  intro n l _ _
  obtain ⟨K0, h0⟩ := Ev.get alive_ev
  obtain ⟨K1, h1⟩ := Ev.get (lnew_ev n)
  by_cases c : 1 ≤ n ∧ n ≤ 16
  · rw [if_pos c] at h1
    by_cases g : l.length > 60
    · refine ⟨K0 + K1, ?_⟩
      unfold spigotlaw15_LruUses.f
      rw [h0 _ (by omega), Option.bind_some, if_pos rfl, h1 _ (by omega), Option.bind_some]
      dsimp only
      rw [if_pos rfl, if_pos (by omega), if_neg (by omega), decide_eq_false (by omega)]; rfl
    · have h2 := uses_l0 (n := n.toNat) (by omega) (by omega) (l := l) (by omega) l [] rfl
      have e : ((n.toNat : Nat) : Int) = n := by omega
      rw [e] at h2
      obtain ⟨K2, k2⟩ := Ev.get h2
      refine ⟨K0 + K1 + K2, ?_⟩
      unfold spigotlaw15_LruUses.f
      rw [h0 _ (by omega), Option.bind_some, if_pos rfl, h1 _ (by omega), Option.bind_some]
      dsimp only
      rw [if_pos rfl, if_neg (by omega), if_neg (by omega), if_neg (by omega)]
      exact k2 _ (by omega)
  · rw [if_neg c] at h1
    refine ⟨K0 + K1, ?_⟩
    unfold spigotlaw15_LruUses.f
    rw [h0 _ (by omega), Option.bind_some, if_pos rfl, h1 _ (by omega), Option.bind_some]
    dsimp only
    rw [if_neg (by omega)]
    by_cases v : n < 1
    · rw [if_pos v]; rfl
    · rw [if_neg v, decide_eq_true (by omega)]; rfl

end Go.Proofs.Ytiimflniadggaaa.Pure
