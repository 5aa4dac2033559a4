/- One level in lowest terms; and demands of which one that is not short is taken out. -/
import Derived.Test.YteeceppbnkkfpaaSharePlain5
namespace Go.Proofs.Yteeceppbnkkfpaa.SharePlain
open Go.RowKit Go.Proofs.Yteeceppbnkkfpaa.PShare Go.Proofs.YteeceppbnkkfpaaW.PrintWords Go.Proofs.YteeceppbnkkfpaaW.PrintLast

theorem Ev.one {α : Type} {g : Nat → Option α} {r s : α} (h : Ev g r) (k : Ev g s) : r = s := by
  obtain ⟨K1, h1⟩ := Ev.get h
  obtain ⟨K2, h2⟩ := Ev.get k
  have a := h1 (K1 + K2) (by omega)
  have b := h2 (K1 + K2) (by omega)
  rw [a] at b
  exact Option.some.inj b
theorem low_of {l : List D} {S a b : Int} (h : Ask l S) (hE : Ev (fun k => share_Level.f k l S) (a, b, 0)) : Int.gcd a b = 1 := by
  obtain ⟨r, hr, h1, _⟩ := asks l S
  have r0 : r = 0 := hr.2 h
  subst r0
  obtain ⟨K1, k1⟩ := Ev.get h1
  rcases level_ev h.1 h.2.1 h.2.2.1 h.2.2.2 with ⟨x, y, ⟨q1, _, _⟩, q4⟩ | ⟨_, q2⟩
  · obtain ⟨K2, k2⟩ := Ev.get q4
    have hE2 : Ev (fun k => share_Level.f k l S) ((x : Int) / (Nat.gcd x y : Int), (y : Int) / (Nat.gcd x y : Int), 0) := ⟨K1 + K2, fun k hk => by
      dsimp only
      unfold share_Level.f
      rw [k1 k (by omega), Option.bind_some, if_pos rfl, k2 k (by omega), Option.bind_some]; rfl⟩
    have e := Ev.one hE hE2
    simp only [Prod.mk.injEq] at e
    obtain ⟨e1, e2, _⟩ := e
    have hb : 0 < y := by have := q1.1; omega
    rw [e1, e2, ← Int.natCast_ediv, ← Int.natCast_ediv, Int.gcd_natCast_natCast]
    exact Nat.coprime_div_gcd_div_gcd (Nat.gcd_pos_of_pos_right _ hb)
  · obtain ⟨K2, k2⟩ := Ev.get q2
    have hE2 : Ev (fun k => share_Level.f k l S) (0, 0, 6) := ⟨K1 + K2, fun k hk => by
      dsimp only
      unfold share_Level.f
      rw [k1 k (by omega), Option.bind_some, if_pos rfl, k2 k (by omega), Option.bind_some]; rfl⟩
    have e := Ev.one hE hE2
    simp only [Prod.mk.injEq] at e
    omega
theorem low_eq {a b c e : Int} (ha : 0 ≤ a) (hb : 0 < b) (hc : 0 ≤ c) (he : 0 < e) (h : a * e = c * b) (g1 : Int.gcd a b = 1) (g2 : Int.gcd c e = 1) : a = c ∧ b = e := by
  obtain ⟨h1, h2⟩ := low_terms ha hb hc he h
  rw [g1, g2] at h1 h2
  exact ⟨by simpa using h1, by simpa using h2⟩
theorem idx_mem {A B : List D} {d : D} {ok : Bool} {a b : Int} (f : flag ok a b d = true) : (A.length : Int) ∈ idxs 0 (Zs ok a b (A ++ d :: B)) := by
  have e : Zs ok a b (A ++ d :: B) = Zs ok a b A ++ (part ok a b d, flag ok a b d) :: Zs ok a b B := by simp [Zs]
  have zl : (Zs ok a b A).length = A.length := by simp [Zs]
  rw [e, idxs_app, zl]
  simp [idxs, f]
/-- What stays of the demands is asked, too. -/
theorem rest_ask {A B : List D} {d : D} {S a b : Int} {ok : Bool} (hA : Ask (A ++ d :: B) S) (hv : Lvl (A ++ d :: B) S a b ok) (hf : ¬ flag ok a b d = true) : W d ≤ S ∧ Ask (A ++ B) (S - W d) := by
  have hd : d ∈ A ++ d :: B := by simp
  have hw : W d ≤ S := by
    have wn : ∀ x ∈ A ++ d :: B, 0 ≤ W x := fun x hx => (hA.2.1 x hx).1
    cases hok : ok
    · obtain ⟨_, _, h3⟩ := hv.2 hok
      rw [sm_app, sm] at h3
      have a1 := sm_nonneg (f := W) (A := A) (fun x hx => wn x (by simp [hx]))
      have a2 := sm_nonneg (f := W) (A := B) (fun x hx => wn x (by simp [hx]))
      omega
    · have u := unflag hd hok hf
      rw [hok] at hv
      have hL := (hv.1 rfl).1
      have hb := hL.1
      have cn : ∀ x ∈ A ++ d :: B, 0 ≤ cap a b x := fun x hx => by
        have := prods hA (ok := true) hv hx
        unfold cap; split <;> omega
      have h3 := hL.2.2.1
      rw [sm_app, sm] at h3
      have a1 := sm_nonneg (f := cap a b) (A := A) (fun x hx => cn x (by simp [hx]))
      have a2 := sm_nonneg (f := cap a b) (A := B) (fun x hx => cn x (by simp [hx]))
      have a3 : cap a b d = W d * b := by unfold cap; rw [if_pos u.2]
      exact le_mul (c := b) (by omega) hb
  have w0' : 0 ≤ W d := (hA.2.1 d hd).1
  refine ⟨hw, ?_, fun x hx => hA.2.1 x ?_, by omega, by have := hA.2.2.2; omega⟩
  · have := hA.1; simp at this ⊢; omega
  · rcases List.mem_append.1 hx with h | h
    · exact List.mem_append_left _ h
    · exact List.mem_append_right _ (List.mem_cons_of_mem _ h)
theorem rest_lev {A B : List D} {d : D} {S a b : Int} (hL : Lev (A ++ d :: B) S a b) (hu : W d * b ≤ a * G d) : Lev (A ++ B) (S - W d) a b := by
  obtain ⟨h1, h2, h3, h4⟩ := hL
  refine ⟨h1, h2, ?_, ?_⟩
  · rw [sm_app, sm] at h3
    have a3 : cap a b d = W d * b := by unfold cap; rw [if_pos hu]
    rw [sm_app, Int.sub_mul]; omega
  · rw [sm_app, sm] at h4
    rw [sm_app]; omega
/-- And its level is the same. -/
theorem rest_same {A B : List D} {d : D} {S a b : Int} {ok : Bool} (hA : Ask (A ++ d :: B) S) (hv : Lvl (A ++ d :: B) S a b ok) (hE : Ev (fun k => share_Level.f k (A ++ d :: B) S) (a, b, if ok = true then 0 else 6)) (hf : ¬ flag ok a b d = true)
    {a2 b2 : Int} {ok2 : Bool} (hv2 : Lvl (A ++ B) (S - W d) a2 b2 ok2) (hE2 : Ev (fun k => share_Level.f k (A ++ B) (S - W d)) (a2, b2, if ok2 = true then 0 else 6)) : a2 = a ∧ b2 = b ∧ ok2 = ok := by
  have hd : d ∈ A ++ d :: B := by simp
  have hA2 := (rest_ask hA hv hf).2
  cases hok : ok
  · obtain ⟨h1, h2, h3⟩ := hv.2 hok
    rw [sm_app, sm] at h3
    cases hok2 : ok2
    · obtain ⟨q1, q2, _⟩ := hv2.2 hok2
      exact ⟨by omega, by omega, rfl⟩
    · have := (hv2.1 hok2).1.2.2.2
      rw [sm_app] at this; omega
  · have u := unflag hd hok hf
    have hL := (hv.1 hok).1
    have hR := rest_lev hL u.2
    cases hok2 : ok2
    · obtain ⟨_, _, q3⟩ := hv2.2 hok2
      have := hR.2.2.2; omega
    · have hL2 := (hv2.1 hok2).1
      rw [hok] at hE
      rw [hok2] at hE2
      have g1 := low_of hA hE
      have g2 := low_of hA2 hE2
      obtain ⟨e1, e2⟩ := low_eq hL2.2.1 hL2.1 hL.2.1 hL.1 (hL2.one hA2.2.1 hR) g2 g1
      exact ⟨e1, e2, rfl⟩
/-- What is shared out among the rest is what these had. -/
theorem rest_shr {A B : List D} {d : D} {S a b : Int} {ok : Bool} (hf : ¬ flag ok a b d = true) : ∃ X Y : List Int, X.length = A.length ∧ Shr ok a b S (A ++ d :: B) = X ++ W d :: Y ∧ Shr ok a b (S - W d) (A ++ B) = X ++ Y := by
  have hp : part ok a b d = W d := by unfold part; rw [if_neg hf]
  have e : Zs ok a b (A ++ d :: B) = Zs ok a b A ++ (part ok a b d, flag ok a b d) :: Zs ok a b B := by simp [Zs]
  have e2 : Zs ok a b (A ++ B) = Zs ok a b A ++ Zs ok a b B := by simp [Zs]
  have e3 : S - W d - sm (part ok a b) (A ++ B) = S - sm (part ok a b) (A ++ d :: B) := by rw [sm_app, sm_app, sm, hp]; omega
  refine ⟨give (Zs ok a b A) (S - sm (part ok a b) (A ++ d :: B)), give (Zs ok a b B) (lft (Zs ok a b A) (S - sm (part ok a b) (A ++ d :: B))), ?_, ?_, ?_⟩
  · rw [give_len]; simp [Zs]
  · unfold Shr
    rw [e, give_app]
    congr 1
    simp only [give]
    rw [if_neg (fun c => hf c.1), hp]
  · unfold Shr
    rw [e2, give_app, e3]

end Go.Proofs.Yteeceppbnkkfpaa.SharePlain
