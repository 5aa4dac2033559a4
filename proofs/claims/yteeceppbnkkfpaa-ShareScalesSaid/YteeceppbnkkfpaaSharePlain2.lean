/- What the printed functions of sorting, of the greatest common divisor and of the level come to. -/
import Derived.Test.YteeceppbnkkfpaaSharePlain
import Derived.Test.YteeceppbnkkfpaaPSharex3
import Derived.Test.YteeceppbnkkfpaaPSharex4
import Derived.Test.YteeceppbnkkfpaaPSharex5
import Derived.Test.YteeceppbnkkfpaaPSharex9
import Derived.Test.YteeceppbnkkfpaaPSharex10
import Derived.Test.YteeceppbnkkfpaaPSharex11
namespace Go.Proofs.Yteeceppbnkkfpaa.SharePlain
open Go.RowKit Go.Proofs.Yteeceppbnkkfpaa.PShare Go.Proofs.YteeceppbnkkfpaaW.PrintWords Go.Proofs.YteeceppbnkkfpaaW.PrintLast

theorem w0 {i : Int} (h0 : -9000000000000000000 ≤ i) (h1 : i ≤ 9000000000000000000) : wrap64 i = i := by unfold wrap64; omega
theorem rd_mid (A B : List D) (y : D) : rd_T37 (A ++ y :: B) (A.length : Int) = y := by
  unfold rd_T37; simp [List.getD_eq_getElem?_getD]
theorem mul_bound {a b m n : Int} (ha : 0 ≤ a) (hb : 0 ≤ b) (h1 : a ≤ m) (h2 : b ≤ n) : 0 ≤ a * b ∧ a * b ≤ m * n :=
  ⟨Int.mul_nonneg ha hb, Int.mul_le_mul h1 h2 hb (by omega)⟩

/-! ### sorting -/
/-- Less or equal, by what is wanted for the weight. -/
def Le (x y : D) : Prop := W x * G y ≤ W y * G x
theorem Le.trans {x y z : D} (hy : Okd y) (hx : Okd x) (hz : Okd z) (h : Le x y) (k : Le y z) : Le x z := by
  unfold Le at *
  have gy : 0 < G y := by have := hy.2.2.1; unfold G; omega
  have gx : 0 ≤ G x := by have := hx.2.2.1; unfold G; omega
  have gz : 0 ≤ G z := by have := hz.2.2.1; unfold G; omega
  refine le_mul (c := G y) ?_ gy
  have k1 := mul_le h gz
  have k2 := mul_le k gx
  have e1 : W x * G y * G z = W x * G z * G y := by rw [Int.mul_assoc, Int.mul_comm (G y), ← Int.mul_assoc]
  have e2 : W y * G x * G z = W y * G z * G x := by rw [Int.mul_assoc, Int.mul_comm (G x), ← Int.mul_assoc]
  have e3 : W z * G y * G x = W z * G x * G y := by rw [Int.mul_assoc, Int.mul_comm (G y), ← Int.mul_assoc]
  omega
def Srt (l : List D) : Prop := l.Pairwise Le
theorem cmp_f {x y : D} (hx : Okd x) (hy : Okd y) : share_level_1.f x.f0 x.f1 y.f0 y.f1 = some (W x * G y - W y * G x) := by
  unfold share_level_1.f
  have h1 := mul_bound hx.1 (show 0 ≤ y.f1 by have := hy.2.2.1; omega) hx.2.1 hy.2.2.2
  have h2 := mul_bound hy.1 (show 0 ≤ x.f1 by have := hx.2.2.1; omega) hy.2.1 hx.2.2.2
  rw [w0 (i := x.f0 * y.f1) (by omega) (by omega), w0 (i := y.f0 * x.f1) (by omega) (by omega), w0 (by omega) (by omega)]; rfl
theorem set_two (A X : List D) (p q : D) : ((A ++ p :: q :: X).set (A.length + 1) p).set A.length q = A ++ q :: p :: X := by
  rw [List.set_append_right _ _ (by omega), show A.length + 1 - A.length = 1 by omega]
  simp
theorem ins_l1 {n i : Int} (hn : n ≤ 1000) {R : List D} (hR : n = (i + 1 + R.length)) : ∀ (m : Nat) (A B : List D) (q : D), A.length = m → (i = A.length + B.length) → (∀ x ∈ A ++ q :: B, Okd x) → Srt (A ++ B) → (∀ b ∈ B, Le q b) →
    ∃ P, P.Perm (A ++ q :: B) ∧ Srt P ∧ ∀ r, Ev (fun k => api_Demand_38.l0 k (P ++ R) 0 n (i + 1)) r → Ev (fun k => api_Demand_38.l1 k (A ++ q :: B ++ R) 0 n i (A.length : Int)) r := by
  intro m
  induction m with
  | zero =>
    intro A B q hA hi hok hs hq
    obtain rfl : A = [] := List.eq_nil_of_length_eq_zero hA
    refine ⟨q :: B, List.Perm.refl _, List.pairwise_cons.2 ⟨hq, hs⟩, fun r hr => Ev.step (fun k => ?_) hr⟩
    simp only [List.length_nil] at hi ⊢
    rw [api_Demand_38.l1, if_neg (by simp), w0 (by omega) (by omega)]; rfl
  | succ m ih =>
    intro A B q hA hi hok hs hq
    obtain ⟨A, p, rfl⟩ : ∃ A' p, A = A' ++ [p] := by
      rcases List.eq_nil_or_concat A with h | ⟨A', p, h⟩
      · rw [h] at hA; simp at hA
      · exact ⟨A', p, by rw [h, List.concat_eq_append]⟩
    have hAl : A.length = m := by simpa using hA
    have op : Okd p := hok p (by simp)
    have oq : Okd q := hok q (by simp)
    have e1 : A ++ [p] ++ q :: B ++ R = A ++ p :: q :: (B ++ R) := by simp
    have r1 : rd_T37 (A ++ p :: q :: (B ++ R)) ((A.length : Int) + 1) = q := by
      have := rd_mid (A ++ [p]) (B ++ R) q
      simp only [List.length_append, List.length_cons, List.length_nil, Int.natCast_add, List.append_assoc, List.cons_append, List.nil_append] at this
      simpa using this
    have r2 : rd_T37 (A ++ p :: q :: (B ++ R)) (A.length : Int) = p := rd_mid _ _ _
    have hlen : ((A ++ p :: q :: (B ++ R)).length : Int) = n := by
      simp only [List.length_append, List.length_cons, List.length_nil] at hi ⊢
      omega
    have hi' : i = A.length + 1 + B.length := by simp at hi; omega
    have hl : (((A ++ [p]).length : Nat) : Int) = (A.length : Int) + 1 := by simp
    by_cases c : W q * G p - W p * G q < 0
    · have hpq : Le q p := by unfold Le; omega
      have hs1 : Srt (A ++ p :: B) := by simpa using hs
      obtain ⟨P, hp1, hp2, hp3⟩ := ih A (p :: B) q hAl (by simp; omega) (fun x hx => hok x (by
        simp only [List.mem_append, List.mem_cons] at hx ⊢
        rcases hx with h | h | h | h
        · exact .inl (.inl h)
        · exact .inr (.inl h)
        · exact .inl (.inr (.inl h))
        · exact .inr (.inr h))) hs1 (fun b hb => by
        rcases List.mem_cons.1 hb with h | h
        · rw [h]; exact hpq
        · exact hq b h)
      refine ⟨P, hp1.trans (by
        have : (A ++ [p] ++ q :: B) = A ++ p :: q :: B := by simp
        rw [this]
        exact List.Perm.append_left A (List.Perm.swap p q B)), hp2, fun r hr => ?_⟩
      refine Ev.step (fun k => ?_) (hp3 r hr)
      rw [e1, hl, api_Demand_38.l1, if_pos (by omega), if_pos (by omega), hlen, if_pos (by omega), w0 (i := (A.length : Int) + 1 - 1) (by omega) (by omega), show (A.length : Int) + 1 - 1 = A.length by omega, if_pos (by omega), if_pos (by omega), r1, r2, cmp_f oq op, Option.bind_some, if_pos c]
      have e5 : ((A.length : Int) + 1).toNat = A.length + 1 := by omega
      rw [e5, Int.toNat_natCast]
      have e6 := set_two A (B ++ R) p q
      have e7 : A ++ q :: p :: B ++ R = A ++ q :: p :: (B ++ R) := by simp
      rw [e7, ← e6]
    · have hqp : Le p q := by unfold Le; omega
      refine ⟨A ++ [p] ++ q :: B, List.Perm.refl _, ?_, fun r hr => ?_⟩
      · have hs2 := List.pairwise_append.1 hs
        refine List.pairwise_append.2 ⟨hs2.1, List.pairwise_cons.2 ⟨hq, hs2.2.1⟩, fun a ha b hb => ?_⟩
        have oa : Okd a := hok a (List.mem_append_left _ ha)
        rcases List.mem_cons.1 hb with h | h
        · rw [h]
          rcases List.mem_append.1 ha with h2 | h2
          · have h3 := (List.pairwise_append.1 hs2.1).2.2 a h2 p List.mem_cons_self
            exact h3.trans op oa oq hqp
          · rw [List.mem_singleton.1 h2]; exact hqp
        · exact hs2.2.2 a ha b h
      · refine Ev.step (fun k => ?_) hr
        rw [e1, hl, api_Demand_38.l1, if_pos (by omega), if_pos (by omega), hlen, if_pos (by omega), w0 (i := (A.length : Int) + 1 - 1) (by omega) (by omega), show (A.length : Int) + 1 - 1 = A.length by omega, if_pos (by omega), if_pos (by omega), r1, r2, cmp_f oq op, Option.bind_some, if_neg c, w0 (by omega) (by omega)]
theorem ins_l0 {n : Int} (hn : n ≤ 1000) : ∀ (R P : List D), n = P.length + R.length → (∀ x ∈ P ++ R, Okd x) → Srt P →
    ∃ E, E.Perm (P ++ R) ∧ Srt E ∧ Ev (fun k => api_Demand_38.l0 k (P ++ R) 0 n (P.length : Int)) E := by
  intro R
  induction R with
  | nil =>
    intro P e hok hs
    refine ⟨P, by simp, hs, Ev.step (f := fun _ => some P) (fun k => ?_) (Ev.now _)⟩
    rw [api_Demand_38.l0, if_neg (by simp at e; omega), List.append_nil]
  | cons q R ih =>
    intro P e hok hs
    obtain ⟨P2, hp1, hp2, hp3⟩ := ins_l1 (n := n) (i := P.length) (R := R) hn (by simp at e; omega) P.length P [] q rfl (by simp) (fun x hx => hok x (by
      simp only [List.mem_append, List.mem_cons] at hx ⊢
      rcases hx with h | h | h
      · exact .inl h
      · exact .inr (.inl h)
      · cases h)) (by simpa using hs) (fun b hb => by cases hb)
    have hl : P2.length = P.length + 1 := by have := hp1.length_eq; simpa using this
    obtain ⟨E, h1, h2, h3⟩ := ih P2 (by simp at e; omega) (fun x hx => hok x (by
      rcases List.mem_append.1 hx with h | h
      · have := (hp1.mem_iff).1 h
        simp at this ⊢
        rcases this with h | h
        · exact .inl h
        · exact .inr (.inl h)
      · simp [h])) hp2
    refine ⟨E, h1.trans ?_, h2, ?_⟩
    · have := hp1.append_right R
      simpa using this
    · rw [hl] at h3
      have h4 := hp3 E (by simpa using h3)
      refine Ev.step (fun k => ?_) h4
      rw [api_Demand_38.l0, if_pos (by simp at e; omega)]
      simp
theorem sort_ev {l : List D} (hl : l.length ≤ 19) (hok : ∀ x ∈ l, Okd x) : ∃ E, E.Perm l ∧ Srt E ∧ Ev (fun k => api_Demand_32.f k l ()) E := by
  have ins : ∃ E, E.Perm l ∧ Srt E ∧ Ev (fun k => api_Demand_38.f k l 0 l.length ()) E := by
    cases l with
    | nil =>
      refine ⟨[], List.Perm.refl _, List.Pairwise.nil, Ev.step (f := fun _ => some []) (fun k => ?_) (Ev.now _)⟩
      unfold api_Demand_38.f
      rw [w0 (by omega) (by omega), api_Demand_38.l0, if_neg (by simp)]
    | cons q R =>
      obtain ⟨E, h1, h2, h3⟩ := ins_l0 (n := ((q :: R).length : Int)) (by omega) R [q] (by simp; omega) hok (List.pairwise_singleton _ _)
      refine ⟨E, h1, h2, Ev.congr (fun k => ?_) h3⟩
      unfold api_Demand_38.f
      rw [w0 (by omega) (by omega)]; rfl
  obtain ⟨E, h1, h2, h3⟩ := ins
  obtain ⟨K, hK⟩ := Ev.get h3
  refine ⟨E, h1, h2, K + 2, fun k hk => ?_⟩
  obtain ⟨k, rfl⟩ : ∃ j, k = j + 2 := ⟨k - 2, by omega⟩
  dsimp only
  unfold api_Demand_32.f api_Demand_35.f api_Demand_36.f api_Demand_37.f
  simp only [Option.bind_some]
  rw [if_pos (by simp; omega), List.nil_append, Option.bind_some, api_Demand_37.l0, if_neg (by omega), hK (k + 1) (by omega), Option.bind_some, api_Demand_37.l1, if_neg (by omega)]
  rfl

/-! ### the greatest common divisor -/
theorem gcd_ev (n : Nat) : ∀ m : Nat, Ev (fun k => share_gcd.f k (m : Int) (n : Int)) ((Nat.gcd m n : Nat) : Int) := by
  induction n using Nat.strongRecOn with
  | _ n ih =>
    intro m
    by_cases c : n = 0
    · subst c
      refine Ev.step (f := fun _ => some (m : Int)) (fun k => ?_) (by rw [Nat.gcd_zero_right]; exact Ev.now _)
      rw [share_gcd.f, if_pos (by simp)]
    · have h := ih (m % n) (Nat.mod_lt _ (by omega)) n
      have e : Nat.gcd n (m % n) = Nat.gcd m n := by rw [Nat.gcd_comm m n, Nat.gcd_rec n m, Nat.gcd_comm]
      rw [e] at h
      refine Ev.step (f := fun k => (share_gcd.f k (n : Int) ((m % n : Nat) : Int)).bind fun t => some t) (fun k => ?_) ?_
      · rw [share_gcd.f, if_neg (by omega), Int.ofNat_tmod]
      · exact Ev.bind (f := fun _ t => some t) h (Ev.now _)

/-! ### the level -/
theorem wsum_l0 {l : List D} {S : Int} {E : List D} (hl : l.length ≤ 19) (hok : ∀ x ∈ l, Okd x) {r : Int × Int × Bool} (hr : Ev (fun k => share_level.l1 k S (sm G l) E (E.length : Int) 0) r) : ∀ B A : List D, l = A ++ B → Ev (fun k => share_level.l0 k S E (sm G A) l (l.length : Int) (A.length : Int)) r := by
  intro B
  induction B with
  | nil =>
    intro A e
    rw [List.append_nil] at e
    subst e
    refine Ev.step (fun k => ?_) hr
    rw [share_level.l0, if_neg (by omega)]
  | cons d B ih =>
    intro A e
    have hll : l.length = A.length + 1 + B.length := by rw [e]; simp; omega
    have hy : rd_T37 l (A.length : Int) = d := by rw [e]; exact rd_mid _ _ _
    have hb := sm_bound (f := G) (A := A) (m := 1000) (fun x hx => (hok x (by rw [e]; exact List.mem_append_left _ hx)).2.2.2)
    have hb0 := sm_nonneg (f := G) (A := A) (fun x hx => by have := (hok x (by rw [e]; exact List.mem_append_left _ hx)).2.2.1; unfold G; omega)
    have hd := hok d (by rw [e]; simp)
    refine Ev.step (fun k => ?_) (ih (A ++ [d]) (by rw [e]; simp))
    have e4 : (A.length : Int) + 1 = ((A ++ [d]).length : Int) := by simp
    have e5 : sm G A + d.f1 = sm G (A ++ [d]) := by rw [sm_app]; simp [sm, G]
    rw [share_level.l0, if_pos (by omega), if_pos (by omega), if_pos (by omega), hy, w0 (i := (A.length : Int) + 1) (by omega) (by omega), w0 (by have := hd.2.2.1; omega) (by have := hd.2.2.2; omega), e4, e5]
theorem level_l1 {E : List D} (hl : E.length ≤ 19) (hok : ∀ x ∈ E, Okd x) (hs : Srt E) {S : Int} : ∀ B A : List D, E = A ++ B → 0 ≤ S - sm W A → S ≤ 1000000000000 → (∀ x ∈ A, W x * sm G B ≤ (S - sm W A) * G x) →
    (∃ a b : Nat, (Lev E S a b ∧ (b : Int) ≤ sm G E ∧ (a : Int) ≤ S) ∧ Ev (fun k => share_level.l1 k (S - sm W A) (sm G B) E (E.length : Int) (A.length : Int)) ((a : Int) / (Nat.gcd a b : Int), (b : Int) / (Nat.gcd a b : Int), true)) ∨
    (sm W E ≤ S ∧ Ev (fun k => share_level.l1 k (S - sm W A) (sm G B) E (E.length : Int) (A.length : Int)) (0, 0, false)) := by
  intro B
  induction B with
  | nil =>
    intro A e h0 hS hA
    rw [List.append_nil] at e
    subst e
    right
    refine ⟨by omega, Ev.step (f := fun _ => some (0, 0, false)) (fun k => ?_) (Ev.now _)⟩
    rw [share_level.l1, if_neg (by omega)]
  | cons d B ih =>
    intro A e h0 hS hA
    have hll : E.length = A.length + 1 + B.length := by rw [e]; simp; omega
    have hy : rd_T37 E (A.length : Int) = d := by rw [e]; exact rd_mid _ _ _
    have hd := hok d (by rw [e]; simp)
    have hBk : ∀ x ∈ d :: B, Okd x := fun x hx => hok x (by rw [e]; exact List.mem_append_right _ hx)
    have hAk : ∀ x ∈ A, Okd x := fun x hx => hok x (by rw [e]; exact List.mem_append_left _ hx)
    have gB0 := sm_nonneg (f := G) (A := B) (fun x hx => by have := (hBk x (List.mem_cons_of_mem _ hx)).2.2.1; unfold G; omega)
    have gB1 := sm_bound (f := G) (A := d :: B) (m := 1000) (fun x hx => (hBk x hx).2.2.2)
    have wA0 := sm_nonneg (f := W) (A := A) (fun x hx => (hAk x hx).1)
    have ed : sm G (d :: B) = G d + sm G B := rfl
    have hg : 1 ≤ G d := hd.2.2.1
    have hg2 : G d ≤ 1000 := hd.2.2.2
    have hw : 0 ≤ W d := hd.1
    have hw2 : W d ≤ 1000000000 := hd.2.1
    have hlen : ((d :: B).length : Int) ≤ 19 := by simp; omega
    have hGb : 0 < sm G (d :: B) ∧ sm G (d :: B) ≤ 19000 := by omega
    have m1 := mul_bound (m := 1000000000) (n := 19000) hw (Int.le_of_lt hGb.1) hw2 hGb.2
    have m2 := mul_bound (m := 1000000000000) (n := 1000) h0 (show 0 ≤ G d by omega) (by omega) hg2
    by_cases c : W d * sm G (d :: B) > (S - sm W A) * G d
    · left
      obtain ⟨a, ha⟩ := Int.eq_ofNat_of_zero_le h0
      obtain ⟨b, hb⟩ := Int.eq_ofNat_of_zero_le (Int.le_of_lt hGb.1)
      have gA0 := sm_nonneg (f := G) (A := A) (fun x hx => by have := (hAk x hx).2.2.1; unfold G; omega)
      refine ⟨a, b, ⟨?_, by rw [e, sm_app]; omega, by omega⟩, ?_⟩
      · rw [e]
        refine lev_parts (A := A) (B := d :: B) ?_ ?_ (by simp) hb.symm (by omega) (by omega) (by omega)
        · intro x hx
          have := hA x hx
          rw [hb, ha] at this; exact this
        · intro y hy'
          rw [← hb, ← ha]
          rcases List.mem_cons.1 hy' with h | h
          · rw [h]; omega
          · have hle : Le d y := by
              have := hs; rw [e] at this
              exact (List.pairwise_cons.1 (List.pairwise_append.1 this).2.1).1 y h
            have oy := hBk y hy'
            have gy : 0 < G y := by have := oy.2.2.1; unfold G; omega
            refine lt_mul (c := G d) ?_ (by omega)
            have k1 := mul_lt (show (S - sm W A) * G d < W d * sm G (d :: B) by omega) gy
            have k2 : W d * G y * sm G (d :: B) ≤ W y * G d * sm G (d :: B) := mul_le hle (Int.le_of_lt hGb.1)
            have q1 : (S - sm W A) * G d * G y = (S - sm W A) * G y * G d := by rw [Int.mul_assoc, Int.mul_comm (G d), ← Int.mul_assoc]
            have q2 : W d * sm G (d :: B) * G y = W d * G y * sm G (d :: B) := by rw [Int.mul_assoc, Int.mul_comm (sm G (d :: B)), ← Int.mul_assoc]
            have q3 : W y * G d * sm G (d :: B) = W y * sm G (d :: B) * G d := by rw [Int.mul_assoc, Int.mul_comm (G d), ← Int.mul_assoc]
            omega
      · obtain ⟨K, hK⟩ := Ev.get (gcd_ev b a)
        have hbp : 0 < b := by omega
        have gp : 0 < Nat.gcd a b := Nat.gcd_pos_of_pos_right _ hbp
        have d1 : a / Nat.gcd a b ≤ a := Nat.div_le_self _ _
        have d2 : b / Nat.gcd a b ≤ b := Nat.div_le_self _ _
        have n1 : 0 ≤ ((a / Nat.gcd a b : Nat) : Int) := Int.natCast_nonneg _
        have n2 : 0 ≤ ((b / Nat.gcd a b : Nat) : Int) := Int.natCast_nonneg _
        refine ⟨K + 1, fun k hk => ?_⟩
        obtain ⟨k, rfl⟩ : ∃ j, k = j + 1 := ⟨k - 1, by omega⟩
        dsimp only
        rw [share_level.l1, if_pos (by omega), if_pos (by omega), if_pos (by omega), hy, w0 (i := d.f0 * sm G (d :: B)) (by unfold W at m1; omega) (by unfold W at m1; omega), w0 (i := (S - sm W A) * d.f1) (by unfold G at m2; omega) (by unfold G at m2; omega), if_pos (show d.f0 * sm G (d :: B) > (S - sm W A) * d.f1 from c), ha, hb, hK k (by omega), Option.bind_some, if_neg (by omega), ← Int.ofNat_tdiv, ← Int.ofNat_tdiv, w0 (by omega) (by omega), w0 (by omega) (by omega)]
        rw [Int.natCast_ediv, Int.natCast_ediv]
    · have c' : W d * sm G (d :: B) ≤ (S - sm W A) * G d := by omega
      have hWd : W d ≤ S - sm W A := by
        have k1 : W d * G d ≤ W d * sm G (d :: B) := by
          rw [Int.mul_comm (W d), Int.mul_comm (W d)]; exact mul_le (by omega) hw
        exact le_mul (c := G d) (by omega) (by omega)
      have e5 : S - sm W (A ++ [d]) = S - sm W A - W d := by rw [sm_app]; simp [sm]; omega
      have e6 : sm G B = sm G (d :: B) - G d := by omega
      have rs := rise c' e5
      rw [← e6] at rs
      have h2 := ih (A ++ [d]) (by rw [e]; simp) (by omega) hS (fun x hx => by
        rcases List.mem_append.1 hx with h | h
        · exact stay hGb.1 (by have := (hAk x h).2.2.1; unfold G; omega) gB0 (hA x h) rs
        · rw [List.mem_singleton.1 h]
          exact stay hGb.1 (by omega) gB0 c' rs)
      have st : ∀ r, Ev (fun k => share_level.l1 k (S - sm W (A ++ [d])) (sm G B) E (E.length : Int) ((A ++ [d]).length : Int)) r → Ev (fun k => share_level.l1 k (S - sm W A) (sm G (d :: B)) E (E.length : Int) (A.length : Int)) r := by
        intro r hr
        refine Ev.step (fun k => ?_) hr
        have e4 : (A.length : Int) + 1 = ((A ++ [d]).length : Int) := by simp
        rw [share_level.l1, if_pos (by omega), if_pos (by omega), if_pos (by omega), hy, w0 (i := d.f0 * sm G (d :: B)) (by unfold W at m1; omega) (by unfold W at m1; omega), w0 (i := (S - sm W A) * d.f1) (by unfold G at m2; omega) (by unfold G at m2; omega), if_neg (show ¬ (d.f0 * sm G (d :: B) > (S - sm W A) * d.f1) from c), w0 (i := (A.length : Int) + 1) (by omega) (by omega), e4]
        have x1 : wrap64 (S - sm W A - d.f0) = S - sm W (A ++ [d]) := by rw [e5]; exact w0 (i := S - sm W A - W d) (by omega) (by omega)
        have x2 : wrap64 (sm G (d :: B) - d.f1) = sm G B := by rw [e6]; exact w0 (i := sm G (d :: B) - G d) (by omega) (by omega)
        rw [x1, x2]
      rcases h2 with ⟨a, b, h3, h4⟩ | ⟨h3, h4⟩
      · exact .inl ⟨a, b, h3, st _ h4⟩
      · exact .inr ⟨h3, st _ h4⟩

/-- The level, of any demands in their limits: in lowest terms, or none. -/
theorem Lev.perm {A B : List D} (h : A.Perm B) {S a b : Int} (k : Lev A S a b) : Lev B S a b :=
  ⟨k.1, k.2.1, by rw [← sm_perm _ h]; exact k.2.2.1, by rw [← sm_perm _ h]; exact k.2.2.2⟩
/-- a / b in lowest terms. -/
def Low (a b : Int) : Prop := ∃ x y : Nat, a = (x : Int) / (Nat.gcd x y : Int) ∧ b = (y : Int) / (Nat.gcd x y : Int) ∧ 0 < y
theorem level_ev {l : List D} (hl : l.length ≤ 12) (hok : ∀ x ∈ l, Okd x) {S : Int} (h0 : 0 ≤ S) (h1 : S ≤ 1000000000000) :
    (∃ a b : Nat, (Lev l S a b ∧ (b : Int) ≤ sm G l ∧ (a : Int) ≤ S) ∧ Ev (fun k => share_level.f k l S) ((a : Int) / (Nat.gcd a b : Int), (b : Int) / (Nat.gcd a b : Int), true)) ∨ (sm W l ≤ S ∧ Ev (fun k => share_level.f k l S) (0, 0, false)) := by
  obtain ⟨E, p, s, hE⟩ := sort_ev (l := l) (by omega) hok
  obtain ⟨K, hK⟩ := Ev.get hE
  have hEl := p.length_eq
  have hEo : ∀ x ∈ E, Okd x := fun x hx => hok x ((p.mem_iff).1 hx)
  have e1 : sm G E = sm G l := sm_perm _ p
  have main := level_l1 (E := E) (by omega) hEo s (S := S) E [] rfl (by simpa [sm] using h0) h1 (fun x hx => by cases hx)
  have go : ∀ r, Ev (fun k => share_level.l1 k (S - sm W []) (sm G E) E (E.length : Int) (([] : List D).length : Int)) r → Ev (fun k => share_level.f k l S) r := by
    intro r hr
    have e2 : S - sm W [] = S := by simp [sm]
    rw [e2, e1] at hr
    obtain ⟨K2, h2⟩ := Ev.get (wsum_l0 (l := l) (S := S) (E := E) (by omega) hok hr l [] rfl)
    refine ⟨K + K2, fun k hk => ?_⟩
    dsimp only
    unfold share_level.f
    rw [hK k (by omega), Option.bind_some]
    exact h2 k (by omega)
  rcases main with ⟨a, b, h2, h3⟩ | ⟨h2, h3⟩
  · exact .inl ⟨a, b, ⟨h2.1.perm p, by rw [← sm_perm _ p]; exact h2.2.1, h2.2.2⟩, go _ h3⟩
  · exact .inr ⟨by rw [← sm_perm _ p]; exact h2, go _ h3⟩

end Go.Proofs.Yteeceppbnkkfpaa.SharePlain
