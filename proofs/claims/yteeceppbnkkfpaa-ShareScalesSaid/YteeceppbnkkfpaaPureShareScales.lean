/- The pure statement of ShareScales. -/
import Derived.Test.YteeceppbnkkfpaaPSharex21
import Derived.Test.YteeceppbnkkfpaaShareAlive
import Derived.Test.YteeceppbnkkfpaaSharePlain6
namespace Go.Proofs.Yteeceppbnkkfpaa.Pure
open Go.RowKit Go.Proofs.Yteeceppbnkkfpaa.PShare Go.Proofs.YteeceppbnkkfpaaW.PrintWords Go.Proofs.YteeceppbnkkfpaaW.PrintLast Go.Proofs.Yteeceppbnkkfpaa.SharePlain

/-- A demand that wants c times as much. -/
def sc (c : Int) (d : D) : D := ⟨c * d.f0, d.f1⟩
theorem sc_cap {c a b : Int} (hc : 0 < c) (d : D) : cap (c * a) b (sc c d) = cap a b d * c := by
  have e1 : W (sc c d) * b = W d * b * c := by
    show c * d.f0 * b = d.f0 * b * c
    rw [Int.mul_assoc, Int.mul_comm]
  have e2 : c * a * G (sc c d) = a * G d * c := by
    show c * a * d.f1 = a * d.f1 * c
    rw [Int.mul_assoc, Int.mul_comm]
  unfold cap
  rw [e1, e2]
  by_cases q : W d * b ≤ a * G d
  · rw [if_pos q, if_pos (mul_le q (by omega))]
  · rw [if_neg q, if_neg (fun h => q (le_mul h hc))]
theorem sc_sum {c a b : Int} (hc : 0 < c) (l : List D) : sm (cap (c * a) b) (l.map (sc c)) = sm (cap a b) l * c := by
  induction l with
  | nil => simp [sm]
  | cons d l ih => rw [List.map_cons, sm, sm, ih, sc_cap hc, Int.add_mul]
theorem sc_want (c : Int) (l : List D) : sm W (l.map (sc c)) = sm W l * c := by
  induction l with
  | nil => simp [sm]
  | cons d l ih =>
    have e : W (sc c d) = W d * c := Int.mul_comm _ _
    rw [List.map_cons, sm, sm, ih, e, Int.add_mul]
theorem sc_lev {c : Int} (hc : 0 < c) {l : List D} {S a b : Int} (h : Lev l S a b) : Lev (l.map (sc c)) (c * S) (c * a) b := by
  obtain ⟨h1, h2, h3, h4⟩ := h
  refine ⟨h1, Int.mul_nonneg (by omega) h2, ?_, ?_⟩
  · rw [sc_sum hc, h3, Int.mul_comm c S, Int.mul_assoc, Int.mul_assoc, Int.mul_comm b c]
  · rw [sc_want, Int.mul_comm c]; exact mul_lt h4 hc
theorem sc_ask {c : Int} (h1 : 1 ≤ c) (h2 : c ≤ 1000) {l : List D} {S : Int} (hA : SharePlain.Ask l S) (hS : S ≤ 1000000) (hw : ∀ x ∈ l, W x ≤ 1000000) : SharePlain.Ask (l.map (sc c)) (c * S) := by
  have p := mul_bound (a := c) (b := S) (m := 1000) (n := 1000000) (by omega) hA.2.2.1 h2 hS
  refine ⟨by rw [List.length_map]; exact hA.1, fun x hx => ?_, p.1, by omega⟩
  obtain ⟨d, hd, rfl⟩ := List.mem_map.1 hx
  have o := hA.2.1 d hd
  have q := mul_bound (a := c) (b := d.f0) (m := 1000) (n := 1000000) (by omega) o.1 h2 (hw d hd)
  exact ⟨q.1, by show c * d.f0 ≤ _; omega, o.2.2.1, o.2.2.2⟩
theorem num_le {l : List D} {S a b : Int} (h : SharePlain.Ask l S) (hE : Ev (fun k => share_Level.f k l S) (a, b, 0)) : a ≤ S := by
  obtain ⟨r, hr, h1, _⟩ := asks l S
  have r0 : r = 0 := hr.2 h
  subst r0
  obtain ⟨K1, k1⟩ := Ev.get h1
  rcases level_ev h.1 h.2.1 h.2.2.1 h.2.2.2 with ⟨x, y, ⟨q1, _, q3⟩, q4⟩ | ⟨_, q2⟩
  · obtain ⟨K2, k2⟩ := Ev.get q4
    have hE2 : Ev (fun k => share_Level.f k l S) ((x : Int) / (Nat.gcd x y : Int), (y : Int) / (Nat.gcd x y : Int), 0) := ⟨K1 + K2, fun k hk => by
      dsimp only
      unfold share_Level.f
      rw [k1 k (by omega), Option.bind_some, if_pos rfl, k2 k (by omega), Option.bind_some]; rfl⟩
    have e := Ev.one hE hE2
    simp only [Prod.mk.injEq] at e
    rw [e.1]
    exact Int.le_trans (by rw [← Int.natCast_ediv]; exact Int.ofNat_le.2 (Nat.div_le_self _ _)) q3
  · obtain ⟨K2, k2⟩ := Ev.get q2
    have hE2 : Ev (fun k => share_Level.f k l S) (0, 0, 6) := ⟨K1 + K2, fun k hk => by
      dsimp only
      unfold share_Level.f
      rw [k1 k (by omega), Option.bind_some, if_pos rfl, k2 k (by omega), Option.bind_some]; rfl⟩
    have e := Ev.one hE hE2
    simp only [Prod.mk.injEq] at e
    omega
theorem toNat1 (n : Nat) : ((n : Int) + 1).toNat = n + 1 := by omega
theorem scale_l0 {l : List D} {S c t : Int} (hl : l.length ≤ 11) (hok : ∀ x ∈ l, Okd x) (h1 : 1 ≤ c) (h2 : c ≤ 1000)
    (hend : (∀ x ∈ l, W x ≤ 1000000) → Ev (fun k => spigotlaw36_ShareScales.l0 k l S c t true (l.map (sc c)) (l.length : Int)) true) : ∀ B A : List D, l = A ++ B → (∀ x ∈ A, W x ≤ 1000000) →
    Ev (fun k => spigotlaw36_ShareScales.l0 k l S c t true (A.map (sc c)) (A.length : Int)) true := by
  intro B
  induction B with
  | nil =>
    intro A e h
    rw [List.append_nil] at e
    subst e
    exact hend h
  | cons d B ih =>
    intro A e h
    have hd : d ∈ l := by rw [e]; simp
    have o := hok d hd
    have hll : l.length = A.length + 1 + B.length := by rw [e]; simp; omega
    have y1 : rd_T37 l (A.length : Int) = d := by rw [e]; exact rd_mid _ _ _
    have ml : (A.map (sc c)).length = A.length := List.length_map _
    by_cases g : d.f0 > 1000000
    · refine Ev.step (f := fun _ => some true) (fun k => ?_) (Ev.now _)
      rw [spigotlaw36_ShareScales.l0, if_pos (by omega), if_pos (by omega), y1, if_pos g]
    · have h3 := ih (A ++ [d]) (by rw [e]; simp) (fun x hx => by
        rcases List.mem_append.1 hx with q | q
        · exact h x q
        · rw [List.mem_singleton.1 q]; unfold W; omega)
      have q := mul_bound (a := c) (b := d.f0) (m := 1000) (n := 1000000) (by omega) o.1 h2 (by omega)
      have n1 : ∀ _ : Unit, wrap64 (c * d.f0) = c * d.f0 := fun _ => w0 (i := c * d.f0) (by omega) (by omega)
      have e4 : ∀ _ : Unit, (A.length : Int) + 1 = ((A ++ [d]).length : Int) := fun _ => by simp
      have e5 : A.map (sc c) ++ [(⟨c * d.f0, d.f1⟩ : D)] = (A ++ [d]).map (sc c) := by rw [List.map_append]; rfl
      refine Ev.step (fun k => ?_) h3
      rw [spigotlaw36_ShareScales.l0, if_pos (by omega), if_pos (by omega), y1, if_neg g, n1 (), Option.bind_some, if_pos (by rw [ml]; simp; omega), e5, w0 (by omega) (by omega), e4 ()]

theorem tail_facts {A B : List D} {X Y : List Int} (hl : A.length + B.length ≤ 11) (hX : X.length = A.length) (hY : Y.length = B.length) :
    (A ++ B).take A.length = A ∧ (A ++ B).drop A.length = B ∧ (X ++ 0 :: Y).take A.length = X ∧ (X ++ 0 :: Y).drop (A.length + 1) = Y ∧ rd (X ++ 0 :: Y) (A.length : Int) = 0 ∧ wrap64 ((A.length : Int) + 1) = (A.length : Int) + 1 ∧ (X ++ Y).length ≤ 100000 := by
  refine ⟨by simp, by simp, by rw [← hX]; simp, by rw [← hX]; simp, ?_, w0 (by omega) (by omega), by rw [List.length_append]; omega⟩
  have := rdi_mid X Y 0; rw [hX] at this; exact this
theorem prod_facts {c S a b a2 b2 : Int} (hc1 : 1 ≤ c) (hc2 : c ≤ 1000) (hS0 : 0 ≤ S) (hS : S ≤ 1000000) (ha0 : 0 ≤ a) (ha : a ≤ 1000000) (hb0 : 0 ≤ b) (hb : b ≤ 12000) (ha20 : 0 ≤ a2) (ha2 : a2 ≤ c * S) (_hb20 : 0 ≤ b2) (_hb2 : b2 ≤ 12000) (h : a2 * b = c * a * b2) :
    a2 ≤ 1000000000 ∧ wrap64 (a2 * b) = wrap64 (wrap64 (c * a) * b2) := by
  have p1 := mul_bound (a := c) (b := S) (m := 1000) (n := 1000000) (by omega) hS0 hc2 hS
  have p2 := mul_bound (a := c) (b := a) (m := 1000) (n := 1000000) (by omega) ha0 hc2 ha
  have h2 : a2 ≤ 1000000000 := by omega
  have p3 := mul_bound (a := a2) (b := b) (m := 1000000000) (n := 12000) ha20 hb0 h2 hb
  exact ⟨h2, by rw [w0 (i := c * a) (by omega) (by omega), h]⟩
theorem scale_end {A B : List D} {S c : Int} (hA : SharePlain.Ask (A ++ B) S) (hl : (A ++ B).length ≤ 11) (hS : S ≤ 1000000) (hc1 : 1 ≤ c) (hc2 : c ≤ 1000) (hw : ∀ x ∈ A ++ B, W x ≤ 1000000) :
    Ev (fun k => spigotlaw36_ShareScales.l0 k (A ++ B) S c (A.length : Int) true ((A ++ B).map (sc c)) ((A ++ B).length : Int)) true := by
  have hM := sc_ask hc1 hc2 hA hS hw
  have hZ : SharePlain.Ask (A ++ (⟨0, 5⟩ : D) :: B) S := by
    refine ⟨by simp at hl ⊢; omega, fun x hx => ?_, hA.2.2⟩
    rcases List.mem_append.1 hx with q | q
    · exact hA.2.1 x (List.mem_append_left _ q)
    · rcases List.mem_cons.1 q with q | q
      · rw [q]; exact ⟨by decide, by decide, by decide, by decide⟩
      · exact hA.2.1 x (List.mem_append_right _ q)
  obtain ⟨a, b, ok, hv, q1, _, _, _, q5, _⟩ := all_of hA
  obtain ⟨a2, b2, ok2, hv2, p1, _⟩ := all_of hM
  obtain ⟨a3, b3, ok3, hv3, r1, _, _, _, r5, _⟩ := all_of hZ
  have wz : S - W (⟨0, 5⟩ : D) = S := Int.sub_zero S
  have hf : ¬ flag ok3 a3 b3 (⟨0, 5⟩ : D) = true := by
    have := (nums hv3).2.1
    unfold flag
    intro h
    rw [Bool.and_eq_true] at h
    have h2 := of_decide_eq_true h.2
    have e1 : W (⟨0, 5⟩ : D) * b3 = 0 := Int.zero_mul _
    have e2 : a3 * G (⟨0, 5⟩ : D) = a3 * 5 := rfl
    omega
  obtain ⟨e1, e2, e3⟩ := rest_same hZ hv3 r1 hf (a2 := a) (b2 := b) (ok2 := ok) (by rw [wz]; exact hv) (by rw [wz]; exact q1)
  subst e1 e2 e3
  obtain ⟨X, Y, hX, hs, ht⟩ := rest_shr (A := A) (B := B) (d := ⟨0, 5⟩) (S := S) (a := a) (b := b) (ok := ok) hf
  rw [wz] at ht
  have hs' : Shr ok a b S (A ++ (⟨0, 5⟩ : D) :: B) = X ++ 0 :: Y := hs
  clear hs
  have sl := shr_len ok a b S (A ++ B)
  rw [ht] at sl q5
  rw [hs'] at r5
  have hl' : A.length + B.length ≤ 11 := by simp at hl; omega
  have hY : Y.length = B.length := by simp at sl; omega
  obtain ⟨t1, t2, t3, t4, y2, n2, xl⟩ := tail_facts hl' hX hY
  have y2' : ∀ _ : Unit, rd (X ++ 0 :: Y) (A.length : Int) = 0 := fun _ => y2
  have n2' : ∀ _ : Unit, wrap64 ((A.length : Int) + 1) = (A.length : Int) + 1 := fun _ => n2
  have n1 : ((A.length : Int)).toNat = A.length := Int.toNat_natCast _
  have n3 : ((A.length : Int) + 1).toNat = A.length + 1 := toNat1 _
  have n4 : ∀ _ : Unit, wrap64 (c * S) = c * S := fun _ => by
    have p := mul_bound (a := c) (b := S) (m := 1000) (n := 1000000) (by omega) hA.2.2.1 hc2 hS
    exact w0 (i := c * S) (by omega) (by omega)
  have l1 : ((A ++ B).length : Int) = A.length + B.length := by simp
  have l2 : ((X ++ 0 :: Y).length : Int) = A.length + 1 + B.length := by simp; omega
  have l3 : ((X ++ Y).length : Int) = A.length + B.length := by simp; omega
  have l4 : ((A ++ (⟨0, 5⟩ : D) :: B).length : Int) = A.length + 1 + B.length := by simp; omega
  have e5 : (A ++ [(⟨0, 5⟩ : D)]) ++ B = A ++ (⟨0, 5⟩ : D) :: B := by simp
  obtain ⟨_, s2, _⟩ := same_ev (a := X ++ Y) (b := X ++ Y) xl
  obtain ⟨K1, k1⟩ := Ev.get q1
  obtain ⟨K2, k2⟩ := Ev.get p1
  obtain ⟨K3, k3⟩ := Ev.get q5
  obtain ⟨K4, k4⟩ := Ev.get r5
  obtain ⟨K5, k5⟩ := Ev.get s2
  have hwn : sm W ((A ++ B).map (sc c)) = sm W (A ++ B) * c := sc_want _ _
  refine ⟨K1 + K2 + K3 + K4 + K5 + 1, fun k hk => ?_⟩
  obtain ⟨k, rfl⟩ : ∃ j, k = j + 1 := ⟨k - 1, by omega⟩
  cases ok
  · have ok2f : ok2 = false := by
      cases hk2 : ok2
      · rfl
      · have g := (hv2.1 hk2).1.2.2.2
        have g2 := (hv.2 rfl).2.2
        rw [hwn, Int.mul_comm c] at g
        have := lt_mul g (by omega)
        omega
    subst ok2f
    replace k1 : ∀ k, K1 ≤ k → share_Level.f k (A ++ B) S = some (a, b, 6) := k1
    replace k2 : ∀ k, K2 ≤ k → share_Level.f k ((A ++ B).map (sc c)) (c * S) = some (a2, b2, 6) := k2
    clear hv hv2 hv3 hwn q1 p1 q5 r1 r5 hM hZ hA hw hf y2 n2 s2
    dsimp only
    rw [spigotlaw36_ShareScales.l0, if_neg (by omega), k1 k (by omega), Option.bind_some, n4 (), k2 k (by omega), Option.bind_some]
    dsimp only
    rw [if_pos rfl, if_neg (by decide), if_pos rfl, Option.bind_some, if_pos (by omega), if_pos (by omega), n1, t1, Option.bind_some, if_pos (by simp; omega), Option.bind_some, Option.bind_some, if_pos (by simp; omega), Option.bind_some, t2, Option.bind_some, if_pos (by simp; omega), Option.bind_some, List.nil_append, e5, k3 k (by omega), Option.bind_some, k4 k (by omega), Option.bind_some]
    dsimp only
    rw [if_pos rfl, if_pos rfl, if_pos (by omega), if_pos (by omega), if_pos (by omega), y2' (), if_pos rfl, if_pos rfl, Option.bind_some, if_pos (by omega), t3, Option.bind_some, if_pos (by simp; omega), Option.bind_some, n2' (), if_pos (by omega), if_pos (by omega), n3, t4, Option.bind_some, if_pos (by simp; omega), List.nil_append, k5 k (by omega), Option.bind_some]
    simp
  · have ok2t : ok2 = true := by
      cases hk2 : ok2
      · have g := (hv.1 rfl).1.2.2.2
        have g2 := (hv2.2 hk2).2.2
        rw [hwn, Int.mul_comm c] at g2
        have := le_mul g2 (by omega)
        omega
      · rfl
    subst ok2t
    replace k1 : ∀ k, K1 ≤ k → share_Level.f k (A ++ B) S = some (a, b, 0) := k1
    replace k2 : ∀ k, K2 ≤ k → share_Level.f k ((A ++ B).map (sc c)) (c * S) = some (a2, b2, 0) := k2
    have hL := (hv.1 rfl).1
    have hL2 := (hv2.1 rfl).1
    have hm : a2 * b = c * a * b2 := Lev.one hM.2.1 hL2 (sc_lev (by omega) hL)
    have z1 := num_le hA q1
    have z2 := num_le hM p1
    have m1 := nums hv
    have m2 := nums hv2
    obtain ⟨z3, z4⟩ := prod_facts hc1 hc2 hA.2.2.1 hS m1.2.1 (by omega) m1.2.2.2.1 m1.2.2.2.2 m2.2.1 z2 m2.2.2.2.1 m2.2.2.2.2 hm
    have z4' : ∀ _ : Unit, wrap64 (a2 * b) = wrap64 (wrap64 (c * a) * b2) := fun _ => z4
    have m3 : 0 < b ∧ b ≤ 12000 ∧ 0 ≤ a ∧ a ≤ 1000000 ∧ 0 < b2 ∧ b2 ≤ 12000 ∧ 0 ≤ a2 := ⟨m1.1 rfl, m1.2.2.2.2, m1.2.1, by omega, m2.1 rfl, m2.2.2.2.2, m2.2.1⟩
    clear hv hv2 hv3 hwn q1 p1 q5 r1 r5 hM hZ hA hw hf y2 n2 s2 hL hL2 hm z1 z2 m1 m2 z4
    dsimp only
    rw [spigotlaw36_ShareScales.l0, if_neg (by omega), k1 k (by omega), Option.bind_some, n4 (), k2 k (by omega), Option.bind_some]
    dsimp only
    rw [if_pos rfl, if_pos rfl, if_neg (by omega), if_neg (by omega), if_neg (by omega), if_neg (by omega), if_neg (by omega), if_neg (by omega), if_neg (by omega), if_neg (by omega), if_pos (z4' ()), Option.bind_some, if_pos (by omega), if_pos (by omega), n1, t1, Option.bind_some, if_pos (by simp; omega), Option.bind_some, Option.bind_some, if_pos (by simp; omega), Option.bind_some, t2, Option.bind_some, if_pos (by simp; omega), Option.bind_some, List.nil_append, e5, k3 k (by omega), Option.bind_some, k4 k (by omega), Option.bind_some]
    dsimp only
    rw [if_pos rfl, if_pos rfl, if_pos (by omega), if_pos (by omega), if_pos (by omega), y2' (), if_pos rfl, if_pos rfl, Option.bind_some, if_pos (by omega), t3, Option.bind_some, if_pos (by simp; omega), Option.bind_some, n2' (), if_pos (by omega), if_pos (by omega), n3, t4, Option.bind_some, if_pos (by simp; omega), List.nil_append, k5 k (by omega), Option.bind_some]
    simp

theorem ShareScales : spigotlaw36_ShareScales.Pure := by
  intro l S c t _ _ _ _
  obtain ⟨K0, k0⟩ := Ev.get alive_ev
  by_cases g : l.length > 11
  · refine ⟨K0, ?_⟩
    unfold spigotlaw36_ShareScales.f
    rw [k0 _ (Nat.le_refl _), Option.bind_some, if_pos rfl, if_pos (by omega)]
  obtain ⟨r, hr, _, h2⟩ := asks l S
  obtain ⟨K1, k1⟩ := Ev.get h2
  by_cases q0 : r = 0
  · by_cases u : S ≤ 1000000 ∧ 1 ≤ c ∧ c ≤ 1000 ∧ 0 ≤ t ∧ t ≤ l.length
    · obtain ⟨u1, u2, u3, u4, u5⟩ := u
      have hA := hr.1 q0
      obtain ⟨A, B, e, ht⟩ : ∃ A B, l = A ++ B ∧ A.length = t.toNat := ⟨l.take t.toNat, l.drop t.toNat, (List.take_append_drop _ _).symm, by simp; omega⟩
      have et : t = (A.length : Int) := by omega
      have main := scale_l0 (l := l) (S := S) (c := c) (t := t) (by omega) hA.2.1 u2 u3 (fun hw => by
        rw [et]
        subst e
        exact scale_end hA (by omega) u1 u2 u3 hw) l [] rfl (by simp)
      obtain ⟨K5, k5⟩ := Ev.get main
      refine ⟨K0 + K1 + K5, ?_⟩
      unfold spigotlaw36_ShareScales.f
      rw [k0 _ (by omega), Option.bind_some, if_pos rfl, if_neg (by omega), k1 _ (by omega), Option.bind_some, if_pos q0, if_neg (by omega), if_neg (by omega), if_neg (by omega), if_neg (by omega), if_neg (by omega)]
      exact k5 _ (by omega)
    · refine ⟨K0 + K1, ?_⟩
      unfold spigotlaw36_ShareScales.f
      rw [k0 _ (by omega), Option.bind_some, if_pos rfl, if_neg (by omega), k1 _ (by omega), Option.bind_some, if_pos q0]
      by_cases v1 : S > 1000000
      · rw [if_pos v1]
      by_cases v2 : c < 1
      · rw [if_neg v1, if_pos v2]
      by_cases v3 : c > 1000
      · rw [if_neg v1, if_neg v2, if_pos v3]
      by_cases v4 : t < 0
      · rw [if_neg v1, if_neg v2, if_neg v3, if_pos v4]
      · rw [if_neg v1, if_neg v2, if_neg v3, if_neg v4, if_pos (by omega)]
  · refine ⟨K0 + K1, ?_⟩
    unfold spigotlaw36_ShareScales.f
    rw [k0 _ (by omega), Option.bind_some, if_pos rfl, if_neg (by omega), k1 _ (by omega), Option.bind_some, if_neg q0]

end Go.Proofs.Yteeceppbnkkfpaa.Pure
