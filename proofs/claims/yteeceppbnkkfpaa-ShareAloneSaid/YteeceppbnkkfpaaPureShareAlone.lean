/- The pure statement of ShareAlone. -/
import Derived.Test.YteeceppbnkkfpaaPSharex22
import Derived.Test.YteeceppbnkkfpaaShareAlive
import Derived.Test.YteeceppbnkkfpaaSharePlain6
namespace Go.Proofs.Yteeceppbnkkfpaa.Pure
open Go.RowKit Go.Proofs.Yteeceppbnkkfpaa.PShare Go.Proofs.YteeceppbnkkfpaaW.PrintWords Go.Proofs.YteeceppbnkkfpaaW.PrintLast Go.Proofs.Yteeceppbnkkfpaa.SharePlain

theorem toNat1 (n : Nat) : ((n : Int) + 1).toNat = n + 1 := by omega
theorem alone_l0 {l : List D} {S t : Int} {s I : List Int} (hI : I.length ≤ 1000) : ∀ B A : List Int, I = A ++ B → (t ∉ B → Ev (fun k => spigotlaw36_ShareAlone.l0 k l S t true s I (I.length : Int)) true) →
    Ev (fun k => spigotlaw36_ShareAlone.l0 k l S t true s I (A.length : Int)) true := by
  intro B
  induction B with
  | nil =>
    intro A e h
    rw [List.append_nil] at e
    have := h (by simp)
    rw [e] at this ⊢
    exact this
  | cons v B ih =>
    intro A e h
    have hll : I.length = A.length + 1 + B.length := by rw [e]; simp; omega
    have hy : rd I (A.length : Int) = v := by rw [e]; exact rdi_mid _ _ _
    by_cases c : v = t
    · refine Ev.step (f := fun _ => some true) (fun k => ?_) (Ev.now _)
      rw [spigotlaw36_ShareAlone.l0, if_pos (by omega), if_pos (by omega), hy, if_pos c]
    · have h2 := ih (A ++ [v]) (by rw [e]; simp) (fun hb => h (fun m => by rcases List.mem_cons.1 m with q | q; exact c q.symm; exact hb q))
      have e4 : (A.length : Int) + 1 = ((A ++ [v]).length : Int) := by simp
      refine Ev.step (fun k => ?_) h2
      rw [spigotlaw36_ShareAlone.l0, if_pos (by omega), if_pos (by omega), hy, if_neg c, w0 (by omega) (by omega), e4]

theorem alone_end {A B : List D} {d : D} {S a b : Int} {ok : Bool} (hA : SharePlain.Ask (A ++ d :: B) S) (hv : Lvl (A ++ d :: B) S a b ok) (hE : Ev (fun k => share_Level.f k (A ++ d :: B) S) (a, b, if ok = true then 0 else 6)) (hf : ¬ flag ok a b d = true) (I : List Int) :
    Ev (fun k => spigotlaw36_ShareAlone.l0 k (A ++ d :: B) S (A.length : Int) true (Shr ok a b S (A ++ d :: B)) I (I.length : Int)) true := by
  obtain ⟨hw, hA2⟩ := rest_ask hA hv hf
  obtain ⟨a2, b2, ok2, hv2, q1, _, _, _, q5, _⟩ := all_of hA2
  obtain ⟨e1, e2, e3⟩ := rest_same hA hv hE hf hv2 q1
  subst e1 e2 e3
  obtain ⟨X, Y, hX, hs, ht⟩ := rest_shr (A := A) (B := B) (d := d) (S := S) (a := a2) (b := b2) (ok := ok2) hf
  have hl := hA.1
  have sl := shr_len ok2 a2 b2 S (A ++ d :: B)
  have hl' : A.length + 1 + B.length ≤ 12 := by simp at hl; omega
  have hY : Y.length = B.length := by rw [hs] at sl; simp at sl; omega
  obtain ⟨K1, k1⟩ := Ev.get hE
  obtain ⟨K2, k2⟩ := Ev.get q1
  obtain ⟨K3, k3⟩ := Ev.get q5
  obtain ⟨_, s2, _⟩ := same_ev (a := X ++ Y) (b := X ++ Y) (by simp; omega)
  obtain ⟨K4, k4⟩ := Ev.get s2
  have hd : d ∈ A ++ d :: B := by simp
  have o := hA.2.1 d hd
  have od : 0 ≤ d.f0 ∧ d.f0 ≤ 1000000000 := ⟨o.1, o.2.1⟩
  have hS := hA.2.2
  have hw' : d.f0 ≤ S := hw
  have y1 : rd_T37 (A ++ d :: B) (A.length : Int) = d := rd_mid _ _ _
  have y2 : ∀ _ : Unit, rd (X ++ W d :: Y) (A.length : Int) = d.f0 := fun _ => by have := rdi_mid X Y (W d); rw [hX] at this; exact this
  have t1 : (A ++ d :: B).take A.length = A := by simp
  have t2 : (A ++ d :: B).drop (A.length + 1) = B := by simp
  have t3 : (X ++ W d :: Y).take A.length = X := by rw [← hX]; simp
  have t4 : (X ++ W d :: Y).drop (A.length + 1) = Y := by rw [← hX]; simp
  have n1 : ∀ _ : Unit, ((A.length : Int)).toNat = A.length := fun _ => Int.toNat_natCast _
  have n2 : ∀ _ : Unit, wrap64 ((A.length : Int) + 1) = (A.length : Int) + 1 := fun _ => w0 (by omega) (by omega)
  have n3 : ∀ _ : Unit, ((A.length : Int) + 1).toNat = A.length + 1 := fun _ => toNat1 _
  have n4 : ∀ _ : Unit, wrap64 (S - d.f0) = S - W d := fun _ => w0 (i := S - d.f0) (by omega) (by omega)
  have l1 : ((A ++ d :: B).length : Int) = A.length + 1 + B.length := by simp; omega
  have l2 : ((X ++ W d :: Y).length : Int) = A.length + 1 + B.length := by simp; omega
  refine ⟨K1 + K2 + K3 + K4 + 1, fun k hk => ?_⟩
  obtain ⟨k, rfl⟩ : ∃ j, k = j + 1 := ⟨k - 1, by omega⟩
  dsimp only
  rw [hs, spigotlaw36_ShareAlone.l0, if_neg (by omega), if_pos (by omega), if_pos (by omega), if_pos (by omega), y1, y2 (), if_pos rfl, if_neg (by omega), Option.bind_some, if_pos (by omega), n1 (), t1, Option.bind_some, if_pos (by simp; omega), Option.bind_some, n2 (), if_pos (by omega), if_pos (by omega), n3 (), t2, Option.bind_some, if_pos (by simp; omega), Option.bind_some, List.nil_append, n4 (), k3 k (by omega), Option.bind_some, k1 k (by omega), Option.bind_some, k2 k (by omega), Option.bind_some, if_pos rfl]
  dsimp only
  rw [if_pos rfl, Option.bind_some, if_pos (by omega), t3, Option.bind_some, if_pos (by simp; omega), Option.bind_some, if_pos (by omega), t4, Option.bind_some, if_pos (by simp; omega), List.nil_append, ht, k4 k (by omega), Option.bind_some, if_pos (by simp), if_pos rfl]
  simp

theorem ShareAlone : spigotlaw36_ShareAlone.Pure := by
  intro l S t _ _ _
  obtain ⟨K0, k0⟩ := Ev.get alive_ev
  by_cases g : l.length > 20
  · refine ⟨K0, ?_⟩
    unfold spigotlaw36_ShareAlone.f
    rw [k0 _ (Nat.le_refl _), Option.bind_some, if_pos rfl, if_pos (by omega)]
  obtain ⟨r, hr, _, h2⟩ := asks l S
  obtain ⟨K1, k1⟩ := Ev.get h2
  by_cases c : r = 0
  · by_cases u : 0 ≤ t ∧ t < l.length
    · have hA := hr.1 c
      obtain ⟨a, b, ok, hv, q1, _, q2, _, q3, _⟩ := all_of hA
      obtain ⟨K3, k3⟩ := Ev.get q2
      obtain ⟨K4, k4⟩ := Ev.get q3
      have sl := shr_len ok a b S l
      obtain ⟨A, d, B, e, ht⟩ : ∃ A d B, l = A ++ d :: B ∧ A.length = t.toNat := by
        refine ⟨l.take t.toNat, l[t.toNat]'(by omega), l.drop (t.toNat + 1), ?_, by simp; omega⟩
        rw [← List.drop_eq_getElem_cons, List.take_append_drop]
      have et : t = (A.length : Int) := by omega
      have il := idxs_len 0 (Zs ok a b l)
      have zl : (Zs ok a b l).length = l.length := by simp [Zs]
      have main := alone_l0 (l := l) (S := S) (t := t) (s := Shr ok a b S l) (I := idxs 0 (Zs ok a b l)) (by omega) (idxs 0 (Zs ok a b l)) [] rfl (fun hm => by
        have hf : ¬ flag ok a b d = true := fun f => hm (by rw [et, e]; exact idx_mem f)
        rw [et]
        subst e
        exact alone_end hA hv q1 hf _)
      obtain ⟨K5, k5⟩ := Ev.get main
      refine ⟨K0 + K1 + K3 + K4 + K5, ?_⟩
      unfold spigotlaw36_ShareAlone.f
      rw [k0 _ (by omega), Option.bind_some, if_pos rfl, if_neg (by omega), k1 _ (by omega), Option.bind_some, if_pos c, if_neg (by omega), if_neg (by omega), k4 _ (by omega), Option.bind_some, k3 _ (by omega), Option.bind_some]
      dsimp only
      rw [if_pos rfl, if_pos rfl, if_pos (by omega)]
      exact k5 _ (by omega)
    · refine ⟨K0 + K1, ?_⟩
      unfold spigotlaw36_ShareAlone.f
      rw [k0 _ (by omega), Option.bind_some, if_pos rfl, if_neg (by omega), k1 _ (by omega), Option.bind_some, if_pos c]
      by_cases q : t < 0
      · rw [if_pos q]
      · rw [if_neg q, if_pos (by omega)]
  · refine ⟨K0 + K1, ?_⟩
    unfold spigotlaw36_ShareAlone.f
    rw [k0 _ (by omega), Option.bind_some, if_pos rfl, if_neg (by omega), k1 _ (by omega), Option.bind_some, if_neg c]

end Go.Proofs.Yteeceppbnkkfpaa.Pure
