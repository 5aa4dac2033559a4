/- What is shared out: each share, and their sum. -/
import Derived.Test.YteeceppbnkkfpaaSharePlain4
namespace Go.Proofs.Yteeceppbnkkfpaa.SharePlain
open Go.RowKit Go.Proofs.Yteeceppbnkkfpaa.PShare Go.Proofs.YteeceppbnkkfpaaW.PrintWords Go.Proofs.YteeceppbnkkfpaaW.PrintLast

def si : List Int → Int
  | [] => 0
  | v :: r => v + si r
theorem si_app (A B : List Int) : si (A ++ B) = si A + si B := by
  induction A with
  | nil => simp [si]
  | cons v r ih => rw [List.cons_append, si, si, ih]; omega
def cnt : List (Int × Bool) → Int
  | [] => 0
  | (_, s) :: r => if s = true then cnt r + 1 else cnt r
theorem si_give (Z : List (Int × Bool)) : ∀ n : Int, 0 ≤ n → n ≤ cnt Z → si (give Z n) = si (Z.map (·.1)) + n := by
  induction Z with
  | nil => intro n h0 h1; simp [cnt] at h1; simp [give, si]; omega
  | cons z Z ih =>
    obtain ⟨v, s⟩ := z
    intro n h0 h1
    simp only [cnt] at h1
    simp only [give, List.map_cons, si]
    by_cases c : s = true ∧ n > 0
    · rw [if_pos c, si, ih (n - 1) (by omega) (by rw [if_pos c.1] at h1; omega)]; omega
    · rw [if_neg c, si]
      by_cases d : s = true
      · have hn : n = 0 := by have : ¬ n > 0 := fun q => c ⟨d, q⟩; omega
        subst hn
        have hc : 0 ≤ cnt Z := by
          have : ∀ Y : List (Int × Bool), 0 ≤ cnt Y := by
            intro Y
            induction Y with
            | nil => exact Int.le_refl _
            | cons y Y ih => obtain ⟨_, t⟩ := y; simp only [cnt]; split <;> omega
          exact this Z
        rw [ih 0 (by omega) hc]; omega
      · rw [if_neg d] at h1
        rw [ih n h0 h1]; omega
/-- A share is what falls to it, or one more. -/
theorem give_mem {ok : Bool} {a b : Int} : ∀ (l : List D) (n : Int) (x : D × Int), x ∈ l.zip (give (Zs ok a b l) n) → x.1 ∈ l ∧ (x.2 = part ok a b x.1 ∨ (flag ok a b x.1 = true ∧ x.2 = part ok a b x.1 + 1)) := by
  intro l
  induction l with
  | nil => intro n x hx; simp at hx
  | cons d l ih =>
    intro n x hx
    have e : Zs ok a b (d :: l) = (part ok a b d, flag ok a b d) :: Zs ok a b l := rfl
    rw [e] at hx
    simp only [give] at hx
    by_cases c : flag ok a b d = true ∧ n > 0
    · rw [if_pos c, List.zip_cons_cons] at hx
      rcases List.mem_cons.1 hx with h | h
      · rw [h]; exact ⟨List.mem_cons_self, .inr ⟨c.1, rfl⟩⟩
      · have := ih (n - 1) x h; exact ⟨List.mem_cons_of_mem _ this.1, this.2⟩
    · rw [if_neg c, List.zip_cons_cons] at hx
      rcases List.mem_cons.1 hx with h | h
      · rw [h]; exact ⟨List.mem_cons_self, .inl rfl⟩
      · have := ih n x h; exact ⟨List.mem_cons_of_mem _ this.1, this.2⟩

section
variable {l : List D} {S a b : Int} {ok : Bool} (hA : Ask l S) (hv : Lvl l S a b ok)
include hA hv
omit hA in
theorem floor_of {d : D} (_hd : d ∈ l) (hf : flag ok a b d = true) : 0 < b ∧ a * G d < W d * b ∧ part ok a b d * b ≤ a * G d ∧ a * G d < (part ok a b d + 1) * b := by
  have hn := nums hv
  have hf2 := hf
  unfold flag at hf2
  rw [Bool.and_eq_true] at hf2
  have hb := hn.1 hf2.1
  have hlt := of_decide_eq_true hf2.2
  have hp : part ok a b d = a * G d / b := by unfold part; rw [if_pos hf]
  rw [hp]
  refine ⟨hb, hlt, Int.ediv_mul_le _ (by omega), ?_⟩
  exact Int.lt_ediv_add_one_mul_self _ hb
omit hA hv in
theorem unflag {d : D} (_hd : d ∈ l) (hok : ok = true) (hf : ¬ flag ok a b d = true) : part ok a b d = W d ∧ W d * b ≤ a * G d := by
  refine ⟨by unfold part; rw [if_neg hf], ?_⟩
  unfold flag at hf
  rw [hok, Bool.true_and] at hf
  have := of_decide_eq_false (Bool.eq_false_iff.2 hf)
  omega
omit hA in
/-- How much is left to be given: not less than nothing, and not more than are short. -/
theorem left_range : 0 ≤ S - sm (part ok a b) l ∧ (ok = true → S - sm (part ok a b) l ≤ cnt (Zs ok a b l)) := by
  cases hok : ok
  · obtain ⟨_, _, h3⟩ := hv.2 hok
    have e : sm (part false a b) l = sm W l := sm_congr fun x _ => by unfold part flag; simp
    rw [e]
    exact ⟨by omega, fun h => by cases h⟩
  · rw [hok] at hv
    have hL := (hv.1 rfl).1
    have e1 : sm (part true a b) l * b ≤ sm (cap a b) l := by
      rw [← sm_mul]
      refine sm_le fun x hx => ?_
      by_cases f : flag true a b x = true
      · have := floor_of hv hx f
        unfold cap; rw [if_neg (by omega)]; exact this.2.2.1
      · have := unflag hx rfl f
        unfold cap; rw [if_pos this.2, this.1]; exact Int.le_refl _
    have e2 : ∀ m : List D, (∀ x ∈ m, x ∈ l) → sm (cap a b) m ≤ sm (part true a b) m * b + cnt (Zs true a b m) * b := by
      intro m
      induction m with
      | nil => intro _; simp [sm, cnt, Zs]
      | cons x m ih =>
        intro hm
        have h1 := ih fun y hy => hm y (List.mem_cons_of_mem _ hy)
        have hx := hm x List.mem_cons_self
        have eZ : Zs true a b (x :: m) = (part true a b x, flag true a b x) :: Zs true a b m := rfl
        rw [eZ]
        simp only [sm, cnt]
        by_cases f : flag true a b x = true
        · have h2 := floor_of hv hx f
          rw [if_pos f, Int.add_mul, Int.add_mul]
          have h3 : cap a b x = a * G x := by unfold cap; rw [if_neg (by omega)]
          have h4 := h2.2.2.2
          rw [Int.add_mul] at h4
          omega
        · have h2 := unflag hx rfl f
          rw [if_neg f, Int.add_mul]
          have h3 : cap a b x = W x * b := by unfold cap; rw [if_pos h2.2]
          rw [h3, h2.1]; omega
    have e3 := e2 l fun x hx => hx
    rw [hL.2.2.1] at e1 e3
    have hb := hL.1
    refine ⟨?_, fun _ => ?_⟩
    · have := le_mul e1 hb; omega
    · rw [← Int.add_mul] at e3
      have := le_mul e3 hb; omega
omit hA hv in
theorem zs_sum : si ((Zs ok a b l).map (·.1)) = sm (part ok a b) l := by
  induction l with
  | nil => rfl
  | cons d l ih =>
    have e : Zs ok a b (d :: l) = (part ok a b d, flag ok a b d) :: Zs ok a b l := rfl
    rw [e, List.map_cons, si, sm, ih]
omit hA in
theorem shr_sum : si (Shr ok a b S l) = if sm W l ≤ S then sm W l else S := by
  have h := left_range hv
  unfold Shr
  cases hok : ok
  · obtain ⟨_, _, h3⟩ := hv.2 hok
    have e : ∀ (m : List D) (n : Int), give (Zs false a b m) n = (Zs false a b m).map (·.1) := by
      intro m
      induction m with
      | nil => intro n; rfl
      | cons d m ih =>
        intro n
        have e : Zs false a b (d :: m) = (part false a b d, flag false a b d) :: Zs false a b m := rfl
        rw [e]; simp only [give, List.map_cons]
        rw [if_neg (by simp [flag]), ih]
    rw [hok] at hv
    rw [e, zs_sum, if_pos h3]
    exact sm_congr fun x _ => by unfold part flag; simp
  · rw [hok] at h hv
    have hL := (hv.1 rfl).1
    rw [if_neg (by have := hL.2.2.2; omega), si_give _ _ h.1 (h.2 rfl), zs_sum]
    omega
theorem shr_range {x : D × Int} (hx : x ∈ l.zip (Shr ok a b S l)) : Okd x.1 ∧ 0 ≤ x.2 ∧ x.2 ≤ W x.1 := by
  obtain ⟨h1, h2⟩ := give_mem l _ x hx
  have o := hA.2.1 _ h1
  have pr := part_range hA hv h1
  refine ⟨o, ?_, ?_⟩
  · rcases h2 with h | ⟨_, h⟩ <;> omega
  · rcases h2 with h | ⟨f, h⟩
    · omega
    · have fl := floor_of hv h1 f
      have : part ok a b x.1 < W x.1 := lt_mul (c := b) (by omega) fl.1
      omega
/-- No share is too small beside another. -/
theorem shr_fair {x y : D × Int} (hx : x ∈ l.zip (Shr ok a b S l)) (hy : y ∈ l.zip (Shr ok a b S l)) (hs : x.2 < W x.1) : (y.2 - 1) * G x.1 < (x.2 + 1) * G y.1 := by
  obtain ⟨x1, x2⟩ := give_mem l _ x hx
  obtain ⟨y1, y2⟩ := give_mem l _ y hy
  have ox := hA.2.1 _ x1
  have oy := hA.2.1 _ y1
  have gx : 0 < G x.1 := by have := ox.2.2.1; unfold G; omega
  have gy : 0 < G y.1 := by have := oy.2.2.1; unfold G; omega
  have fx : flag ok a b x.1 = true := by
    apply Classical.byContradiction
    intro f
    have hp : part ok a b x.1 = W x.1 := by unfold part; rw [if_neg f]
    rcases x2 with h | ⟨h, _⟩
    · omega
    · exact f h
  have hok : ok = true := by unfold flag at fx; rw [Bool.and_eq_true] at fx; exact fx.1
  have flx := floor_of hv x1 fx
  have hb := flx.1
  have k1 : a * G x.1 < (x.2 + 1) * b := by
    have : part ok a b x.1 + 1 ≤ x.2 + 1 := by rcases x2 with h | ⟨_, h⟩ <;> omega
    have := mul_le this (Int.le_of_lt hb)
    omega
  have k2 : (y.2 - 1) * b ≤ a * G y.1 := by
    by_cases f : flag ok a b y.1 = true
    · have fly := floor_of hv y1 f
      have : y.2 - 1 ≤ part ok a b y.1 := by rcases y2 with h | ⟨_, h⟩ <;> omega
      have := mul_le this (Int.le_of_lt hb)
      omega
    · have u := unflag y1 hok f
      have : y.2 - 1 ≤ W y.1 := by
        rcases y2 with h | ⟨h, _⟩
        · omega
        · exact absurd h f
      have := mul_le this (Int.le_of_lt hb)
      omega
  refine lt_mul (c := b) ?_ hb
  have m1 := mul_le k2 (Int.le_of_lt gx)
  have m2 := mul_lt k1 gy
  have e1 : (y.2 - 1) * b * G x.1 = (y.2 - 1) * G x.1 * b := by rw [Int.mul_assoc, Int.mul_comm b, ← Int.mul_assoc]
  have e2 : a * G y.1 * G x.1 = a * G x.1 * G y.1 := by rw [Int.mul_assoc, Int.mul_comm (G y.1), ← Int.mul_assoc]
  have e3 : (x.2 + 1) * b * G y.1 = (x.2 + 1) * G y.1 * b := by rw [Int.mul_assoc, Int.mul_comm b, ← Int.mul_assoc]
  omega
end

end Go.Proofs.Yteeceppbnkkfpaa.SharePlain
