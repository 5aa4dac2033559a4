/- Comparing lists, and what the printed functions of shares come to: Short, Split and Fair on both sides. -/
import Derived.Test.YteeceppbnkkfpaaSharePlain3
import Derived.Test.YteeceppbnkkfpaaPSharex12
import Derived.Test.YteeceppbnkkfpaaPSharex13
import Derived.Test.YteeceppbnkkfpaaPSharex14
import Derived.Test.YteeceppbnkkfpaaPSharex15
import Derived.Test.YteeceppbnkkfpaaPSharex16
import Derived.Test.YteeceppbnkkfpaaPSharex27
import Derived.Test.YteeceppbnkkfpaaPSharex28
import Derived.Test.YteeceppbnkkfpaaPSharex29
import Derived.Test.YteeceppbnkkfpaaPSharex30
namespace Go.Proofs.Yteeceppbnkkfpaa.SharePlain
open Go.RowKit Go.Proofs.Yteeceppbnkkfpaa.PShare Go.Proofs.YteeceppbnkkfpaaW.PrintWords Go.Proofs.YteeceppbnkkfpaaW.PrintLast

theorem rdi_mid (A B : List Int) (y : Int) : rd (A ++ y :: B) (A.length : Int) = y := by
  unfold rd; simp [List.getD_eq_getElem?_getD]
theorem same_l0 {a b : List Int} (hl : a.length ≤ 100000) (he : a.length = b.length) : ∀ B C A : List Int, a = A ++ B → b = A ++ C →
    Ev (fun k => spigotref36_SameInts.l0 k a b (A.length : Int)) (decide (B = C)) ∧ Ev (fun k => spigotref36_Same.l0 k a b (A.length : Int)) (decide (B = C)) ∧ Ev (fun k => slices_Equal_int64_int64.l0 k a b (a.length : Int) (A.length : Int)) (decide (B = C)) := by
  intro B
  induction B with
  | nil =>
    intro C A e f
    have hC : C = [] := by
      have := congrArg List.length e; have := congrArg List.length f
      simp at *
      exact List.eq_nil_of_length_eq_zero (by omega)
    subst hC
    have := congrArg List.length e
    simp at this
    refine ⟨Ev.step (f := fun _ => some (decide (([] : List Int) = []))) (fun k => ?_) (Ev.now _), Ev.step (f := fun _ => some (decide (([] : List Int) = []))) (fun k => ?_) (Ev.now _), Ev.step (f := fun _ => some (decide (([] : List Int) = []))) (fun k => ?_) (Ev.now _)⟩
    · rw [spigotref36_SameInts.l0, if_neg (by omega)]; simp
    · rw [spigotref36_Same.l0, if_neg (by omega)]; simp
    · rw [slices_Equal_int64_int64.l0, if_neg (by omega)]; simp
  | cons y B ih =>
    intro C A e f
    cases C with
    | nil =>
      have := congrArg List.length e; have := congrArg List.length f
      simp at *
      omega
    | cons z C =>
      have l1 : a.length = A.length + 1 + B.length := by rw [e]; simp; omega
      have l2 : b.length = A.length + 1 + C.length := by rw [f]; simp; omega
      have hy : rd a (A.length : Int) = y := by rw [e]; exact rdi_mid _ _ _
      have hz : rd b (A.length : Int) = z := by rw [f]; exact rdi_mid _ _ _
      have e4 : (A.length : Int) + 1 = ((A ++ [y]).length : Int) := by simp
      by_cases c : y = z
      · subst c
        have e2 : decide (y :: B = y :: C) = decide (B = C) := by simp
        rw [e2]
        obtain ⟨h1, h2, h3⟩ := ih C (A ++ [y]) (by rw [e]; simp) (by rw [f]; simp)
        refine ⟨Ev.step (fun k => ?_) h1, Ev.step (fun k => ?_) h2, Ev.step (fun k => ?_) h3⟩
        · rw [spigotref36_SameInts.l0, if_pos (by omega), if_pos (by omega), if_pos (by omega), hy, hz, if_pos rfl, w0 (by omega) (by omega), e4]
        · rw [spigotref36_Same.l0, if_pos (by omega), if_pos (by omega), if_pos (by omega), hy, hz, if_pos rfl, w0 (by omega) (by omega), e4]
        · rw [slices_Equal_int64_int64.l0, if_pos (by omega), if_pos (by omega), if_pos (by omega), if_pos (by omega), hy, hz, if_pos rfl, w0 (by omega) (by omega), e4]
      · refine ⟨Ev.step (f := fun _ => some (decide (y :: B = z :: C))) (fun k => ?_) (Ev.now _), Ev.step (f := fun _ => some (decide (y :: B = z :: C))) (fun k => ?_) (Ev.now _), Ev.step (f := fun _ => some (decide (y :: B = z :: C))) (fun k => ?_) (Ev.now _)⟩
        · rw [spigotref36_SameInts.l0, if_pos (by omega), if_pos (by omega), if_pos (by omega), hy, hz, if_neg c]; simp [c]
        · rw [spigotref36_Same.l0, if_pos (by omega), if_pos (by omega), if_pos (by omega), hy, hz, if_neg c]; simp [c]
        · rw [slices_Equal_int64_int64.l0, if_pos (by omega), if_pos (by omega), if_pos (by omega), if_pos (by omega), hy, hz, if_neg c]; simp [c]
theorem same_ev {a b : List Int} (hl : a.length ≤ 100000) : Ev (fun k => spigotref36_SameInts.f k a b) (decide (a = b)) ∧ Ev (fun k => spigotref36_Same.f k a b) (decide (a = b)) ∧ Ev (fun k => slices_Equal_int64_int64.f k a b) (decide (a = b)) := by
  by_cases e : a.length = b.length
  · obtain ⟨h1, h2, h3⟩ := same_l0 hl e a b [] rfl rfl
    refine ⟨Ev.congr (fun k => ?_) h1, Ev.congr (fun k => ?_) h2, Ev.congr (fun k => ?_) h3⟩
    · unfold spigotref36_SameInts.f; rw [if_pos (by omega)]; rfl
    · unfold spigotref36_Same.f; rw [if_pos (by omega)]; rfl
    · unfold slices_Equal_int64_int64.f; rw [if_pos (by omega)]; rfl
  · refine ⟨Ev.congr (f := fun _ => some (decide (a = b))) (fun k => ?_) (Ev.now _), Ev.congr (f := fun _ => some (decide (a = b))) (fun k => ?_) (Ev.now _), Ev.congr (f := fun _ => some (decide (a = b))) (fun k => ?_) (Ev.now _)⟩
    · unfold spigotref36_SameInts.f; rw [if_neg (by omega), decide_eq_false (fun h => e (by rw [h]))]
    · unfold spigotref36_Same.f; rw [if_neg (by omega), decide_eq_false (fun h => e (by rw [h]))]
    · unfold slices_Equal_int64_int64.f; rw [if_neg (by omega), decide_eq_false (fun h => e (by rw [h]))]

/-! ### shares -/
def flag (ok : Bool) (a b : Int) (d : D) : Bool := ok && decide (a * G d < W d * b)
def part (ok : Bool) (a b : Int) (d : D) : Int := if flag ok a b d = true then a * G d / b else W d
def Zs (ok : Bool) (a b : Int) (l : List D) : List (Int × Bool) := l.map (fun d => (part ok a b d, flag ok a b d))
/-- One more for those that are marked, as long as something is left. -/
def give : List (Int × Bool) → Int → List Int
  | [], _ => []
  | (v, s) :: r, n => if s = true ∧ n > 0 then (v + 1) :: give r (n - 1) else v :: give r n
def lft : List (Int × Bool) → Int → Int
  | [], n => n
  | (_, s) :: r, n => if s = true ∧ n > 0 then lft r (n - 1) else lft r n
theorem give_app (A B : List (Int × Bool)) (n : Int) : give (A ++ B) n = give A n ++ give B (lft A n) := by
  induction A generalizing n with
  | nil => rfl
  | cons z A ih =>
    obtain ⟨v, s⟩ := z
    simp only [List.cons_append, give, lft]
    by_cases c : s = true ∧ n > 0
    · rw [if_pos c, if_pos c, if_pos c, ih]; rfl
    · rw [if_neg c, if_neg c, if_neg c, ih]; rfl
theorem lft_app (A B : List (Int × Bool)) (n : Int) : lft (A ++ B) n = lft B (lft A n) := by
  induction A generalizing n with
  | nil => rfl
  | cons z A ih =>
    obtain ⟨v, s⟩ := z
    simp only [List.cons_append, lft]
    by_cases c : s = true ∧ n > 0
    · rw [if_pos c, if_pos c, ih]
    · rw [if_neg c, if_neg c, ih]
theorem give_len (A : List (Int × Bool)) (n : Int) : (give A n).length = A.length := by
  induction A generalizing n with
  | nil => rfl
  | cons z A ih =>
    obtain ⟨v, s⟩ := z
    simp only [give]
    split <;> simp [ih]
theorem give_none (A : List (Int × Bool)) {n : Int} (h : n ≤ 0) : give A n = A.map (·.1) := by
  induction A with
  | nil => rfl
  | cons z A ih =>
    obtain ⟨v, s⟩ := z
    simp only [give]
    rw [if_neg (fun c => by omega), ih]; rfl
theorem lft_range (A : List (Int × Bool)) (n : Int) : lft A n ≤ n ∧ (n ≤ 0 → lft A n = n) ∧ (0 ≤ n → 0 ≤ lft A n) := by
  induction A generalizing n with
  | nil => exact ⟨Int.le_refl _, fun _ => rfl, fun h => h⟩
  | cons z A ih =>
    obtain ⟨v, s⟩ := z
    simp only [lft]
    split
    · next c => have := ih (n - 1); refine ⟨by omega, fun h => by omega, fun h => this.2.2 (by omega)⟩
    · exact ih n
/-- The indices of those that are marked. -/
def idxs (j : Int) : List (Int × Bool) → List Int
  | [] => []
  | (_, s) :: r => if s = true then j :: idxs (j + 1) r else idxs (j + 1) r
theorem idxs_app (j : Int) (A B : List (Int × Bool)) : idxs j (A ++ B) = idxs j A ++ idxs (j + A.length) B := by
  induction A generalizing j with
  | nil => simp [idxs]
  | cons z A ih =>
    obtain ⟨v, s⟩ := z
    simp only [List.cons_append, idxs]
    have e : j + 1 + (A.length : Int) = j + (((v, s) :: A).length : Int) := by simp; omega
    cases s
    · rw [if_neg (by simp), if_neg (by simp), ih, e]
    · rw [if_pos rfl, if_pos rfl, ih, e]; rfl
theorem idxs_len (j : Int) (A : List (Int × Bool)) : (idxs j A).length ≤ A.length := by
  induction A generalizing j with
  | nil => exact Nat.le_refl _
  | cons z A ih =>
    obtain ⟨v, s⟩ := z
    simp only [idxs]
    have := ih (j + 1)
    split <;> simp <;> omega

section
variable {l : List D} {S a b : Int} {ok : Bool} (hA : Ask l S) (hv : Lvl l S a b ok)
include hA hv
omit hA in
theorem nums : (ok = true → 0 < b) ∧ 0 ≤ a ∧ a ≤ 1000000000000 ∧ 0 ≤ b ∧ b ≤ 12000 := by
  cases ok
  · obtain ⟨h1, h2, _⟩ := hv.2 rfl
    refine ⟨fun h => by (cases h), by omega, by omega, by omega, by omega⟩
  · obtain ⟨h1, h2, h3⟩ := hv.1 rfl
    exact ⟨fun _ => h1.1, h1.2.1, h3, Int.le_of_lt h1.1, h2⟩
theorem prods {d : D} (hd : d ∈ l) : (0 ≤ W d * b ∧ W d * b ≤ 12000000000000) ∧ (0 ≤ a * G d ∧ a * G d ≤ 1000000000000000) := by
  have hn := nums hv
  have o := hA.2.1 d hd
  have m1 := mul_bound (m := 1000000000) (n := 12000) o.1 hn.2.2.2.1 o.2.1 hn.2.2.2.2
  have m2 := mul_bound (m := 1000000000000) (n := 1000) hn.2.1 (show 0 ≤ G d by have := o.2.2.1; unfold G; omega) hn.2.2.1 o.2.2.2
  exact ⟨⟨m1.1, by have := m1.2; unfold W; omega⟩, ⟨m2.1, by have := m2.2; omega⟩⟩
theorem short_f {d : D} (hd : d ∈ l) : share_isShort.f d.f0 d.f1 a b = some (decide (a * G d < W d * b)) := by
  have h := prods hA hv hd
  unfold share_isShort.f
  rw [w0 (i := d.f0 * b) (by unfold W at h; omega) (by unfold W at h; omega), w0 (i := a * d.f1) (by unfold G at h; omega) (by unfold G at h; omega)]
  rfl
theorem part_range {d : D} (hd : d ∈ l) : 0 ≤ part ok a b d ∧ part ok a b d ≤ W d := by
  have hn := nums hv
  have o := hA.2.1 d hd
  have p := prods hA hv hd
  unfold part
  by_cases c : flag ok a b d = true
  · rw [if_pos c]
    unfold flag at c
    rw [Bool.and_eq_true] at c
    have hb := hn.1 c.1
    have hlt := of_decide_eq_true c.2
    refine ⟨Int.ediv_nonneg p.2.1 (by omega), ?_⟩
    have := Int.ediv_lt_of_lt_mul hb hlt
    omega
  · rw [if_neg c]; exact ⟨o.1, Int.le_refl _⟩
theorem short_l0 : ∀ B A : List D, l = A ++ B → Ev (fun k => share_Short.l0 k ok (idxs 0 (Zs ok a b A)) l (l.length : Int) (A.length : Int) a b) (idxs 0 (Zs ok a b l), 0) := by
  intro B
  induction B with
  | nil =>
    intro A e
    rw [List.append_nil] at e
    subst e
    refine Ev.step (f := fun _ => some (idxs 0 (Zs ok a b l), 0)) (fun k => ?_) (Ev.now _)
    rw [share_Short.l0, if_neg (by omega)]
  | cons d B ih =>
    intro A e
    have hll : l.length = A.length + 1 + B.length := by rw [e]; simp; omega
    have hl := hA.1
    have hy : rd_T37 l (A.length : Int) = d := by rw [e]; exact rd_mid _ _ _
    have hd : d ∈ l := by rw [e]; simp
    have e4 : (A.length : Int) + 1 = ((A ++ [d]).length : Int) := by simp
    have il := idxs_len 0 (Zs ok a b A)
    have zl : (Zs ok a b A).length = A.length := by simp [Zs]
    have e5 : idxs 0 (Zs ok a b (A ++ [d])) = if flag ok a b d = true then idxs 0 (Zs ok a b A) ++ [(A.length : Int)] else idxs 0 (Zs ok a b A) := by
      unfold Zs at zl ⊢
      rw [List.map_append, idxs_app, zl]
      simp only [List.map_cons, List.map_nil, idxs, Int.zero_add]
      split <;> simp
    refine Ev.step (fun k => ?_) (ih (A ++ [d]) (by rw [e]; simp))
    rw [share_Short.l0, if_pos (by omega), if_pos (by omega), if_pos (by omega), hy, w0 (by omega) (by omega), e4, e5]
    cases ok
    · rw [if_neg (by simp), if_neg (by simp [flag])]
    · rw [if_pos rfl, short_f hA hv hd, Option.bind_some]
      by_cases c : a * G d < W d * b
      · rw [decide_eq_true c, if_pos rfl, if_pos (by omega), if_pos (by simp [flag, c])]
      · rw [decide_eq_false c, if_neg (by simp), if_neg (by simp [flag, c])]
theorem rshort_l0 (hok : ok = true) : ∀ B A : List D, l = A ++ B → Ev (fun k => spigotref36_Short.l0 k l (idxs 0 (Zs ok a b A)) (A.length : Int) a b) (idxs 0 (Zs ok a b l), 0) := by
  intro B
  induction B with
  | nil =>
    intro A e
    rw [List.append_nil] at e
    subst e
    refine Ev.step (f := fun _ => some (idxs 0 (Zs ok a b l), 0)) (fun k => ?_) (Ev.now _)
    rw [spigotref36_Short.l0, if_neg (by omega)]
  | cons d B ih =>
    intro A e
    have hll : l.length = A.length + 1 + B.length := by rw [e]; simp; omega
    have hl := hA.1
    have hy : rd_T37 l (A.length : Int) = d := by rw [e]; exact rd_mid _ _ _
    have hd : d ∈ l := by rw [e]; simp
    have h := prods hA hv hd
    have e4 : (A.length : Int) + 1 = ((A ++ [d]).length : Int) := by simp
    have il := idxs_len 0 (Zs ok a b A)
    have zl : (Zs ok a b A).length = A.length := by simp [Zs]
    have e5 : idxs 0 (Zs ok a b (A ++ [d])) = if flag ok a b d = true then idxs 0 (Zs ok a b A) ++ [(A.length : Int)] else idxs 0 (Zs ok a b A) := by
      unfold Zs at zl ⊢
      rw [List.map_append, idxs_app, zl]
      simp only [List.map_cons, List.map_nil, idxs, Int.zero_add]
      split <;> simp
    refine Ev.step (fun k => ?_) (ih (A ++ [d]) (by rw [e]; simp))
    rw [spigotref36_Short.l0, if_pos (by omega), if_pos (by omega), hy, w0 (i := (A.length : Int) + 1) (by omega) (by omega), e4, e5, w0 (i := d.f0 * b) (by unfold W at h; omega) (by unfold W at h; omega), w0 (i := a * d.f1) (by unfold G at h; omega) (by unfold G at h; omega)]
    by_cases c : a * G d < W d * b
    · rw [if_pos (show d.f0 * b > a * d.f1 from c), if_pos (by omega), if_pos (by simp [flag, c, hok])]
    · rw [if_neg (show ¬ (d.f0 * b > a * d.f1) from c), if_neg (by simp [flag, c])]

theorem psum_range {A : List D} (h : ∀ x ∈ A, x ∈ l) (hn : A.length ≤ 12) : 0 ≤ sm (part ok a b) A ∧ sm (part ok a b) A ≤ 12000000000 := by
  have b1 := sm_nonneg (f := part ok a b) (A := A) (fun x hx => (part_range hA hv (h x hx)).1)
  have b2 := sm_bound (f := part ok a b) (A := A) (m := 1000000000) (fun x hx => by
    have h1 := (part_range hA hv (h x hx)).2
    have h2 := (hA.2.1 x (h x hx)).2.1
    unfold W at h1; omega)
  exact ⟨b1, by omega⟩
theorem split_l1 (n0 : Int) (hn0 : n0 ≤ 1000000000000) (hn1 : -100000000000 ≤ n0) : ∀ B A : List D, l = A ++ B →
    Ev (fun k => share_Split.l1 k (lft (Zs ok a b A) n0) ok (give (Zs ok a b A) n0 ++ (Zs ok a b B).map (·.1)) l (l.length : Int) (A.length : Int) a b) (give (Zs ok a b l) n0, 0) := by
  intro B
  induction B with
  | nil =>
    intro A e
    rw [List.append_nil] at e
    subst e
    refine Ev.step (f := fun _ => some (give (Zs ok a b l) n0, 0)) (fun k => ?_) (Ev.now _)
    rw [share_Split.l1, if_neg (by omega)]; simp [Zs]
  | cons d B ih =>
    intro A e
    have hll : l.length = A.length + 1 + B.length := by rw [e]; simp; omega
    have hl := hA.1
    have hy : rd_T37 l (A.length : Int) = d := by rw [e]; exact rd_mid _ _ _
    have hd : d ∈ l := by rw [e]; simp
    have e4 : (A.length : Int) + 1 = ((A ++ [d]).length : Int) := by simp
    have gl : (give (Zs ok a b A) n0).length = A.length := by rw [give_len]; simp [Zs]
    have lr := lft_range (Zs ok a b A) n0
    have pr := part_range hA hv hd
    have wd := (hA.2.1 d hd).2.1
    have hlow : -100000000000 ≤ lft (Zs ok a b A) n0 := by
      by_cases q : n0 ≤ 0
      · rw [lr.2.1 q]; exact hn1
      · have := lr.2.2 (by omega); omega
    have eZ : Zs ok a b (d :: B) = (part ok a b d, flag ok a b d) :: Zs ok a b B := rfl
    have eZ2 : Zs ok a b (A ++ [d]) = Zs ok a b A ++ [(part ok a b d, flag ok a b d)] := by simp [Zs]
    refine Ev.step (fun k => ?_) (ih (A ++ [d]) (by rw [e]; simp))
    rw [share_Split.l1, if_pos (by omega), if_pos (by omega), if_pos (by omega), hy, w0 (i := (A.length : Int) + 1) (by omega) (by omega), e4, eZ, eZ2, give_app, lft_app]
    simp only [give, lft, List.map_cons]
    have rm := rdi_mid (give (Zs ok a b A) n0) ((Zs ok a b B).map (·.1)) (part ok a b d)
    rw [gl] at rm
    have st : ∀ v : Int, (give (Zs ok a b A) n0 ++ part ok a b d :: (Zs ok a b B).map (·.1)).set A.length v = give (Zs ok a b A) n0 ++ [v] ++ (Zs ok a b B).map (·.1) := by
      intro v
      rw [List.set_append_right _ _ (by omega), gl, Nat.sub_self]; simp
    by_cases c : flag ok a b d = true ∧ lft (Zs ok a b A) n0 > 0
    · have hok : ok = true := by have := c.1; unfold flag at this; rw [Bool.and_eq_true] at this; exact this.1
      have hs : decide (a * G d < W d * b) = true := by have := c.1; unfold flag at this; rw [Bool.and_eq_true] at this; exact this.2
      rw [if_pos c, if_pos c, if_pos hok, if_pos c.2, short_f hA hv hd, Option.bind_some, if_pos hs, if_pos (by simp [gl]; omega), rm, w0 (i := lft (Zs ok a b A) n0 - 1) (by omega) (by omega), w0 (i := part ok a b d + 1) (by omega) (by unfold W at pr; omega), Int.toNat_natCast, st]
    · rw [if_neg c, if_neg c]
      have e6 : give (Zs ok a b A) n0 ++ part ok a b d :: (Zs ok a b B).map (·.1) = give (Zs ok a b A) n0 ++ [part ok a b d] ++ (Zs ok a b B).map (·.1) := by simp
      rw [← e6]
      by_cases hok : ok = true
      · rw [if_pos hok]
        by_cases q : lft (Zs ok a b A) n0 > 0
        · have hs : ¬ (decide (a * G d < W d * b) = true) := fun h => c ⟨by unfold flag; rw [hok, h]; rfl, q⟩
          rw [if_pos q, short_f hA hv hd, Option.bind_some, if_neg hs]
        · rw [if_neg q]
      · rw [if_neg hok]
theorem split_l0 (r : List Int × Int) (hr : Ev (fun k => share_Split.l1 k (S - sm (part ok a b) l) ok ((Zs ok a b l).map (·.1)) l (l.length : Int) 0 a b) r) : ∀ B A : List D, l = A ++ B →
    Ev (fun k => share_Split.l0 k l (S - sm (part ok a b) A) ok ((Zs ok a b A).map (·.1) ++ List.replicate B.length 0) l (l.length : Int) (A.length : Int) a b) r := by
  intro B
  induction B with
  | nil =>
    intro A e
    rw [List.append_nil] at e
    subst e
    refine Ev.step (fun k => ?_) hr
    rw [share_Split.l0, if_neg (by omega)]; simp
  | cons d B ih =>
    intro A e
    have hll : l.length = A.length + 1 + B.length := by rw [e]; simp; omega
    have hl := hA.1
    have hn := nums hv
    have hy : rd_T37 l (A.length : Int) = d := by rw [e]; exact rd_mid _ _ _
    have hd : d ∈ l := by rw [e]; simp
    have e4 : (A.length : Int) + 1 = ((A ++ [d]).length : Int) := by simp
    have zl : ((Zs ok a b A).map (·.1)).length = A.length := by simp [Zs]
    have pr := part_range hA hv hd
    have wd := (hA.2.1 d hd).2.1
    have p := prods hA hv hd
    have ps := psum_range hA hv (A := A) (fun x hx => by rw [e]; exact List.mem_append_left _ hx) (by omega)
    have hS := hA.2.2
    have st : ∀ u v : Int, (((Zs ok a b A).map (·.1) ++ u :: List.replicate B.length 0).set A.length v) = (Zs ok a b A).map (·.1) ++ v :: List.replicate B.length 0 := by
      intro u v
      rw [List.set_append_right _ _ (by omega), zl, Nat.sub_self]; simp
    have rm : ∀ u : Int, rd ((Zs ok a b A).map (·.1) ++ u :: List.replicate B.length 0) (A.length : Int) = u := by
      intro u
      have := rdi_mid ((Zs ok a b A).map (·.1)) (List.replicate B.length 0) u
      rwa [zl] at this
    have fin : S - sm (part ok a b) A - part ok a b d = S - sm (part ok a b) (A ++ [d]) := by rw [sm_app]; simp [sm]; omega
    have e6 : (Zs ok a b (A ++ [d])).map (·.1) ++ List.replicate B.length 0 = (Zs ok a b A).map (·.1) ++ part ok a b d :: List.replicate B.length 0 := by simp [Zs]
    refine Ev.step (fun k => ?_) (ih (A ++ [d]) (by rw [e]; simp))
    rw [e6, ← fin, List.length_cons, List.replicate_succ, share_Split.l0, if_pos (by omega), if_pos (by omega), if_pos (by omega), if_pos (by simp [zl]; omega), hy, Int.toNat_natCast, st, Option.bind_some, w0 (i := (A.length : Int) + 1) (by omega) (by omega), e4]
    have hW : wrap64 (S - sm (part ok a b) A - part ok a b d) = S - sm (part ok a b) A - part ok a b d := w0 (by unfold W at pr; omega) (by omega)
    by_cases hok : ok = true
    · rw [if_pos hok, short_f hA hv hd, Option.bind_some]
      by_cases c : a * G d < W d * b
      · have hp : part ok a b d = a * G d / b := by unfold part flag; rw [hok, decide_eq_true c]; rfl
        have hb := hn.1 hok
        have e7 : wrap64 (Int.tdiv (wrap64 (a * d.f1)) b) = part ok a b d := by
          rw [w0 (i := a * d.f1) (by unfold G at p; omega) (by unfold G at p; omega), Int.tdiv_eq_ediv_of_nonneg (by unfold G at p; exact p.2.1), hp]
          have e8 : a * d.f1 / b = a * G d / b := rfl
          rw [e8, ← hp]
          exact w0 (by omega) (by unfold W at pr; omega)
        rw [if_pos (decide_eq_true c), if_neg (by omega), e7, st, Option.bind_some, rm, hW]
      · have hp : part ok a b d = d.f0 := by unfold part flag; rw [hok, decide_eq_false c]; rfl
        rw [if_neg (by rw [decide_eq_false c]; simp), rm, ← hp, hW]
    · have hp : part ok a b d = d.f0 := by unfold part flag; simp [hok, W]
      rw [if_neg hok, rm, ← hp, hW]
/-- What is shared out. -/
def Shr (ok : Bool) (a b S : Int) (l : List D) : List Int := give (Zs ok a b l) (S - sm (part ok a b) l)
theorem split_go : Ev (fun k => share_Split.l0 k l S ok (List.replicate l.length 0) l (l.length : Int) 0 a b) (Shr ok a b S l, 0) := by
  have hl := hA.1
  have ps := psum_range hA hv (A := l) (fun x hx => hx) (by omega)
  have hS := hA.2.2
  have h1 := split_l1 hA hv (S - sm (part ok a b) l) (by omega) (by omega) l [] rfl
  have h2 := split_l0 hA hv _ h1 l [] rfl
  have e : S - sm (part ok a b) [] = S := by simp [sm]
  rw [e] at h2
  exact h2

theorem rsplit_l1 (n0 : Int) (hn0 : n0 ≤ 1000000000000) (hn1 : -100000000000 ≤ n0) : ∀ B A : List D, l = A ++ B →
    Ev (fun k => spigotref36_Split.l1 k (give (Zs ok a b A) n0 ++ (Zs ok a b B).map (·.1)) (lft (Zs ok a b A) n0) (idxs 0 (Zs ok a b l)) ((idxs 0 (Zs ok a b A)).length : Int)) (give (Zs ok a b l) n0, 0) := by
  intro B
  induction B with
  | nil =>
    intro A e
    rw [List.append_nil] at e
    subst e
    refine Ev.step (f := fun _ => some (give (Zs ok a b l) n0, 0)) (fun k => ?_) (Ev.now _)
    rw [spigotref36_Split.l1, if_neg (by omega)]; simp [Zs]
  | cons d B ih =>
    intro A e
    have hll : l.length = A.length + 1 + B.length := by rw [e]; simp; omega
    have hl := hA.1
    have hd : d ∈ l := by rw [e]; simp
    have gl : (give (Zs ok a b A) n0).length = A.length := by rw [give_len]; simp [Zs]
    have zl : (Zs ok a b A).length = A.length := by simp [Zs]
    have lr := lft_range (Zs ok a b A) n0
    have pr := part_range hA hv hd
    have wd := (hA.2.1 d hd).2.1
    have eZ : Zs ok a b (d :: B) = (part ok a b d, flag ok a b d) :: Zs ok a b B := rfl
    have eZ2 : Zs ok a b (A ++ [d]) = Zs ok a b A ++ [(part ok a b d, flag ok a b d)] := by simp [Zs]
    have eZl : Zs ok a b l = Zs ok a b A ++ (part ok a b d, flag ok a b d) :: Zs ok a b B := by rw [e]; simp [Zs]
    have il := idxs_len 0 (Zs ok a b A)
    have h2 := ih (A ++ [d]) (by rw [e]; simp)
    by_cases f : flag ok a b d = true
    · have ei : idxs 0 (Zs ok a b l) = idxs 0 (Zs ok a b A) ++ (A.length : Int) :: idxs ((A.length : Int) + 1) (Zs ok a b B) := by
        rw [eZl, idxs_app, zl]; simp [idxs, f]
      have e5 : idxs 0 (Zs ok a b (A ++ [d])) = idxs 0 (Zs ok a b A) ++ [(A.length : Int)] := by
        rw [eZ2, idxs_app, zl]; simp [idxs, f]
      have ri : rd (idxs 0 (Zs ok a b l)) ((idxs 0 (Zs ok a b A)).length : Int) = A.length := by rw [ei]; exact rdi_mid _ _ _
      have li : (idxs 0 (Zs ok a b A)).length < (idxs 0 (Zs ok a b l)).length := by rw [ei]; simp
      have rm := rdi_mid (give (Zs ok a b A) n0) ((Zs ok a b B).map (·.1)) (part ok a b d)
      rw [gl] at rm
      by_cases q : lft (Zs ok a b A) n0 > 0
      · refine Ev.step (fun k => ?_) h2
        have st : ∀ v : Int, (give (Zs ok a b A) n0 ++ part ok a b d :: (Zs ok a b B).map (·.1)).set A.length v = give (Zs ok a b A) n0 ++ [v] ++ (Zs ok a b B).map (·.1) := by
          intro v
          rw [List.set_append_right _ _ (by omega), gl, Nat.sub_self]; simp
        have e9 : (((idxs 0 (Zs ok a b A) ++ [(A.length : Int)]).length : Nat) : Int) = ((idxs 0 (Zs ok a b A)).length : Int) + 1 := by simp
        rw [e5, e9, spigotref36_Split.l1, if_pos (by omega), if_pos q, if_pos (by omega), ri, if_pos (by omega), eZ, eZ2, give_app, lft_app]
        simp only [give, lft, List.map_cons]
        have c2 : flag ok a b d = true ∧ lft (Zs ok a b A) n0 > 0 := ⟨f, q⟩
        have c3 : (A.length : Int) < ((give (Zs ok a b A) n0 ++ part ok a b d :: (Zs ok a b B).map (·.1)).length : Int) := by simp [gl]; omega
        rw [if_pos c3, if_pos c2, if_pos c2, rm, w0 (i := lft (Zs ok a b A) n0 - 1) (by omega) (by omega), w0 (i := part ok a b d + 1) (by omega) (by unfold W at pr; omega), w0 (i := ((idxs 0 (Zs ok a b A)).length : Int) + 1) (by omega) (by omega), Int.toNat_natCast, st]
      · refine Ev.step (f := fun _ => some (give (Zs ok a b l) n0, 0)) (fun k => ?_) (Ev.now _)
        rw [spigotref36_Split.l1, if_pos (by omega), if_neg q, eZl, give_app, ← eZ, give_none (Zs ok a b (d :: B)) (by omega)]
    · have e5 : idxs 0 (Zs ok a b (A ++ [d])) = idxs 0 (Zs ok a b A) := by
        rw [eZ2, idxs_app, zl]; simp [idxs, f]
      rw [e5, eZ2, give_app, lft_app] at h2
      simp only [give, lft] at h2
      rw [if_neg (fun c => f c.1), if_neg (fun c => f c.1)] at h2
      rw [eZ]
      simpa using h2
theorem rsplit_l0 (r : List Int × Int) (hr : Ev (fun k => (spigotref36_Short.f k l S).bind fun bt => spigotref36_Split.l1 k ((Zs ok a b l).map (·.1)) (S - sm (part ok a b) l) bt.1 0) r) : ∀ B A : List D, l = A ++ B →
    Ev (fun k => spigotref36_Split.l0 k l S ((Zs ok a b A).map (·.1)) (S - sm (part ok a b) A) (if ok = true then 0 else 6) (A.length : Int) a b) r := by
  intro B
  induction B with
  | nil =>
    intro A e
    rw [List.append_nil] at e
    subst e
    obtain ⟨K, hK⟩ := Ev.get hr
    refine ⟨K + 1, fun k hk => ?_⟩
    obtain ⟨k, rfl⟩ : ∃ j, k = j + 1 := ⟨k - 1, by omega⟩
    dsimp only
    rw [spigotref36_Split.l0, if_neg (by omega)]
    exact hK k (by omega)
  | cons d B ih =>
    intro A e
    have hll : l.length = A.length + 1 + B.length := by rw [e]; simp; omega
    have hl := hA.1
    have hn := nums hv
    have hy : rd_T37 l (A.length : Int) = d := by rw [e]; exact rd_mid _ _ _
    have hd : d ∈ l := by rw [e]; simp
    have e4 : (A.length : Int) + 1 = ((A ++ [d]).length : Int) := by simp
    have zl : ((Zs ok a b A).map (·.1)).length = A.length := by simp [Zs]
    have pr := part_range hA hv hd
    have wd := (hA.2.1 d hd).2.1
    have p := prods hA hv hd
    have ps := psum_range hA hv (A := A) (fun x hx => by rw [e]; exact List.mem_append_left _ hx) (by omega)
    have hS := hA.2.2
    have fin : S - sm (part ok a b) A - part ok a b d = S - sm (part ok a b) (A ++ [d]) := by rw [sm_app]; simp [sm]; omega
    have e6 : (Zs ok a b (A ++ [d])).map (·.1) = (Zs ok a b A).map (·.1) ++ [part ok a b d] := by simp [Zs]
    have hW : wrap64 (S - sm (part ok a b) A - part ok a b d) = S - sm (part ok a b) A - part ok a b d := w0 (by unfold W at pr; omega) (by omega)
    refine Ev.step (fun k => ?_) (ih (A ++ [d]) (by rw [e]; simp))
    rw [e6, ← fin, spigotref36_Split.l0, if_pos (by omega), if_pos (by omega), hy, w0 (i := (A.length : Int) + 1) (by omega) (by omega), e4]
    by_cases hok : ok = true
    · rw [if_pos (by rw [if_pos hok]), w0 (i := d.f0 * b) (by unfold W at p; omega) (by unfold W at p; omega), w0 (i := a * d.f1) (by unfold G at p; omega) (by unfold G at p; omega)]
      by_cases c : a * G d < W d * b
      · have hp : part ok a b d = a * G d / b := by unfold part flag; rw [hok, decide_eq_true c]; rfl
        have hb := hn.1 hok
        have e7 : wrap64 (Int.tdiv (a * d.f1) b) = part ok a b d := by
          rw [Int.tdiv_eq_ediv_of_nonneg (by unfold G at p; exact p.2.1), hp]
          have e8 : a * d.f1 / b = a * G d / b := rfl
          rw [e8, ← hp]
          exact w0 (by omega) (by unfold W at pr; omega)
        rw [if_pos (show d.f0 * b > a * d.f1 from c), if_neg (by omega), if_pos (by omega), e7, hW]
      · have hp : part ok a b d = d.f0 := by unfold part flag; rw [hok, decide_eq_false c]; rfl
        rw [if_neg (show ¬ (d.f0 * b > a * d.f1) from c), if_pos (by omega), ← hp, hW]
    · have hp : part ok a b d = d.f0 := by unfold part flag; simp [hok, W]
      rw [if_neg (by rw [if_neg hok]; omega), if_pos (by omega), ← hp, hW]
end

/-- All that is asked, on both sides. -/
theorem all_of {l : List D} {S : Int} (h : Ask l S) : ∃ (a b : Int) (ok : Bool), Lvl l S a b ok ∧
    Ev (fun k => share_Level.f k l S) (a, b, if ok = true then 0 else 6) ∧ Ev (fun k => spigotref36_Level.f k l S) (a, b, if ok = true then 0 else 6) ∧
    Ev (fun k => share_Short.f k l S) (idxs 0 (Zs ok a b l), 0) ∧ Ev (fun k => spigotref36_Short.f k l S) (idxs 0 (Zs ok a b l), 0) ∧
    Ev (fun k => share_Split.f k l S) (Shr ok a b S l, 0) ∧ Ev (fun k => spigotref36_Split.f k l S) (Shr ok a b S l, 0) := by
  obtain ⟨a, b, ok, hv, h1, h2⟩ := levels h
  obtain ⟨r, hr, hA1, hA2⟩ := asks l S
  have r0 : r = 0 := hr.2 h
  subst r0
  obtain ⟨K1, k1⟩ := Ev.get hA1
  obtain ⟨K2, k2⟩ := Ev.get hA2
  obtain ⟨K3, k3⟩ := Ev.get h1
  obtain ⟨K4, k4⟩ := Ev.get h2
  have hl := h.1
  have zsf : ok = false → idxs 0 (Zs ok a b l) = [] := by
    intro hf
    have : ∀ (m : List D) (j : Int), idxs j (Zs ok a b m) = [] := by
      intro m
      induction m with
      | nil => intro j; rfl
      | cons d m ih => intro j; simp only [Zs, List.map_cons, idxs] at ih ⊢; rw [if_neg (by simp [flag, hf])]; exact ih _
    exact this l 0
  have sh : Ev (fun k => spigotref36_Short.f k l S) (idxs 0 (Zs ok a b l), 0) := by
    cases ok
    · refine ⟨K2 + K4, fun k hk => ?_⟩
      dsimp only
      unfold spigotref36_Short.f
      rw [k2 k (by omega), Option.bind_some, if_pos rfl, k4 k (by omega), Option.bind_some, if_neg (by simp), zsf rfl]
    · obtain ⟨K5, k5⟩ := Ev.get (rshort_l0 h hv rfl l [] rfl)
      refine ⟨K2 + K4 + K5, fun k hk => ?_⟩
      dsimp only
      unfold spigotref36_Short.f
      rw [k2 k (by omega), Option.bind_some, if_pos rfl, k4 k (by omega), Option.bind_some, if_pos rfl]
      exact k5 k (by omega)
  refine ⟨a, b, ok, hv, ?_, h2, ?_, sh, ?_, ?_⟩
  · refine ⟨K1 + K3, fun k hk => ?_⟩
    dsimp only
    unfold share_Level.f
    rw [k1 k (by omega), Option.bind_some, if_pos rfl, k3 k (by omega), Option.bind_some]
    cases ok
    · obtain ⟨q1, q2, _⟩ := hv.2 rfl
      rw [if_neg (by simp), q1, q2]; rfl
    · rfl
  · obtain ⟨K5, k5⟩ := Ev.get (short_l0 h hv l [] rfl)
    refine ⟨K1 + K3 + K5, fun k hk => ?_⟩
    dsimp only
    unfold share_Short.f
    rw [k1 k (by omega), Option.bind_some, if_pos rfl, k3 k (by omega), Option.bind_some]
    exact k5 k (by omega)
  · obtain ⟨K5, k5⟩ := Ev.get (split_go h hv)
    refine ⟨K1 + K3 + K5, fun k hk => ?_⟩
    dsimp only
    unfold share_Split.f
    rw [k1 k (by omega), Option.bind_some, if_pos rfl, k3 k (by omega), Option.bind_some, if_pos (by omega), if_pos (by omega), Int.toNat_natCast]
    exact k5 k (by omega)
  · have ps := psum_range h hv (A := l) (fun x hx => hx) (by omega)
    have hS := h.2.2
    have g1 := rsplit_l1 h hv (S - sm (part ok a b) l) (by omega) (by omega) l [] rfl
    obtain ⟨K5, k5⟩ := Ev.get g1
    obtain ⟨K6, k6⟩ := Ev.get sh
    have g2 := rsplit_l0 h hv (Shr ok a b S l, 0) ⟨K5 + K6, fun k hk => by
      dsimp only
      rw [k6 k (by omega), Option.bind_some]
      exact k5 k (by omega)⟩ l [] rfl
    have e : S - sm (part ok a b) [] = S := by simp [sm]
    rw [e] at g2
    obtain ⟨K7, k7⟩ := Ev.get g2
    refine ⟨K2 + K4 + K7, fun k hk => ?_⟩
    dsimp only
    unfold spigotref36_Split.f
    rw [k2 k (by omega), Option.bind_some, if_pos rfl, k4 k (by omega), Option.bind_some]
    exact k7 k (by omega)
theorem none_of {l : List D} {S : Int} (h : ¬ Ask l S) : ∃ r : Int, r ≠ 0 ∧ Ev (fun k => share_Level.f k l S) (0, 0, r) ∧ Ev (fun k => spigotref36_Level.f k l S) (0, 0, r) ∧
    Ev (fun k => share_Short.f k l S) ([], r) ∧ Ev (fun k => spigotref36_Short.f k l S) ([], r) ∧ Ev (fun k => share_Split.f k l S) ([], r) ∧ Ev (fun k => spigotref36_Split.f k l S) ([], r) := by
  obtain ⟨r, hr, h1, h2⟩ := asks l S
  have r0 : r ≠ 0 := fun e => h (hr.1 e)
  obtain ⟨K1, k1⟩ := Ev.get h1
  obtain ⟨K2, k2⟩ := Ev.get h2
  refine ⟨r, r0, ⟨K1, fun k hk => ?_⟩, ⟨K2, fun k hk => ?_⟩, ⟨K1, fun k hk => ?_⟩, ⟨K2, fun k hk => ?_⟩, ⟨K1, fun k hk => ?_⟩, ⟨K2, fun k hk => ?_⟩⟩
  · dsimp only; unfold share_Level.f; rw [k1 k hk, Option.bind_some, if_neg r0]
  · dsimp only; unfold spigotref36_Level.f; rw [k2 k hk, Option.bind_some, if_neg r0]
  · dsimp only; unfold share_Short.f; rw [k1 k hk, Option.bind_some, if_neg r0]
  · dsimp only; unfold spigotref36_Short.f; rw [k2 k hk, Option.bind_some, if_neg r0]
  · dsimp only; unfold share_Split.f; rw [k1 k hk, Option.bind_some, if_neg r0]
  · dsimp only; unfold spigotref36_Split.f; rw [k2 k hk, Option.bind_some, if_neg r0]
theorem shr_len (ok : Bool) (a b S : Int) (l : List D) : (Shr ok a b S l).length = l.length := by unfold Shr; rw [give_len]; simp [Zs]

end Go.Proofs.Yteeceppbnkkfpaa.SharePlain
