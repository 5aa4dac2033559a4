/- What the reference's level comes to: it is the same one. -/
import Derived.Test.YteeceppbnkkfpaaSharePlain2
import Derived.Test.YteeceppbnkkfpaaPSharex18
import Derived.Test.YteeceppbnkkfpaaPSharex19
import Derived.Test.YteeceppbnkkfpaaPSharex23
import Derived.Test.YteeceppbnkkfpaaPSharex24
import Derived.Test.YteeceppbnkkfpaaPSharex25
import Derived.Test.YteeceppbnkkfpaaPSharex26
namespace Go.Proofs.Yteeceppbnkkfpaa.SharePlain
open Go.RowKit Go.Proofs.Yteeceppbnkkfpaa.PShare Go.Proofs.YteeceppbnkkfpaaW.PrintWords Go.Proofs.YteeceppbnkkfpaaW.PrintLast

/-- Demands with marks: those that are marked, and the others. -/
def shorts (Z : List (D × Bool)) : List D := (Z.filter (fun z => z.2)).map (·.1)
def rest (Z : List (D × Bool)) : List D := (Z.filter (fun z => !z.2)).map (·.1)
def off (n e : Int) (z : D × Bool) : Bool := z.2 && decide (W z.1 * e ≤ n * G z.1)
def rem (n e : Int) (Z : List (D × Bool)) : List D := (Z.filter (off n e)).map (·.1)
def upd (n e : Int) (z : D × Bool) : D × Bool := (z.1, z.2 && !(decide (W z.1 * e ≤ n * G z.1)))
theorem shorts_app (A B : List (D × Bool)) : shorts (A ++ B) = shorts A ++ shorts B := by simp [shorts]
theorem rest_app (A B : List (D × Bool)) : rest (A ++ B) = rest A ++ rest B := by simp [rest]
theorem sm_parts (f : D → Int) (Z : List (D × Bool)) : sm f (Z.map (·.1)) = sm f (rest Z) + sm f (shorts Z) := by
  induction Z with
  | nil => simp [sm, rest, shorts]
  | cons z Z ih =>
    obtain ⟨d, m⟩ := z
    cases m <;> simp [rest, shorts, sm] at ih ⊢ <;> omega
theorem sm_rest (f : D → Int) (n e : Int) (Z : List (D × Bool)) : sm f (rest (Z.map (upd n e))) = sm f (rest Z) + sm f (rem n e Z) := by
  induction Z with
  | nil => simp [sm, rest, rem]
  | cons z Z ih =>
    obtain ⟨d, m⟩ := z
    by_cases q : W d * e ≤ n * G d <;> cases m <;> simp [rest, rem, upd, off, sm, q] at ih ⊢ <;> omega
theorem sm_shorts (f : D → Int) (n e : Int) (Z : List (D × Bool)) : sm f (shorts Z) = sm f (shorts (Z.map (upd n e))) + sm f (rem n e Z) := by
  induction Z with
  | nil => simp [sm, shorts, rem]
  | cons z Z ih =>
    obtain ⟨d, m⟩ := z
    by_cases q : W d * e ≤ n * G d <;> cases m <;> simp [shorts, rem, upd, off, sm, q] at ih ⊢ <;> omega
theorem len_shorts (n e : Int) (Z : List (D × Bool)) : (shorts Z).length = (shorts (Z.map (upd n e))).length + (rem n e Z).length := by
  induction Z with
  | nil => simp [shorts, rem]
  | cons z Z ih =>
    obtain ⟨d, m⟩ := z
    by_cases q : W d * e ≤ n * G d <;> cases m <;> simp [shorts, rem, upd, off, q] at ih ⊢ <;> omega
theorem mem_rest (n e : Int) (Z : List (D × Bool)) (x : D) (h : x ∈ rest (Z.map (upd n e))) : x ∈ rest Z ∨ x ∈ rem n e Z := by
  unfold rest at h
  obtain ⟨w, h1, h2⟩ := List.mem_map.1 h
  obtain ⟨h3, h4⟩ := List.mem_filter.1 h1
  obtain ⟨z, h5, h6⟩ := List.mem_map.1 h3
  subst h6
  by_cases q : z.2 = true
  · right
    refine List.mem_map.2 ⟨z, List.mem_filter.2 ⟨h5, ?_⟩, h2⟩
    unfold off
    unfold upd at h4
    rw [q] at h4 ⊢
    simpa using h4
  · left
    exact List.mem_map.2 ⟨z, List.mem_filter.2 ⟨h5, by simpa using q⟩, h2⟩
theorem mem_rem {n e : Int} {Z : List (D × Bool)} {x : D} (h : x ∈ rem n e Z) : W x * e ≤ n * G x := by
  obtain ⟨w, h1, h2⟩ := List.mem_map.1 h
  obtain ⟨h3, h4⟩ := List.mem_filter.1 h1
  unfold off at h4
  rw [Bool.and_eq_true] at h4
  rw [← h2]
  exact of_decide_eq_true h4.2
theorem map_fst (n e : Int) (Z : List (D × Bool)) : (Z.map (upd n e)).map (·.1) = Z.map (·.1) := by
  simp [List.map_map, Function.comp_def, upd]
theorem no_rem {n e : Int} {Z : List (D × Bool)} (h : rem n e Z = []) : Z.map (upd n e) = Z := by
  induction Z with
  | nil => rfl
  | cons z Z ih =>
    obtain ⟨d, m⟩ := z
    by_cases q : W d * e ≤ n * G d <;> cases m <;> simp [rem, upd, off, q] at ih h ⊢
    all_goals first | exact ih h | skip
theorem perm_parts (Z : List (D × Bool)) : (rest Z ++ shorts Z).Perm (Z.map (·.1)) := by
  induction Z with
  | nil => exact List.Perm.refl _
  | cons z Z ih =>
    obtain ⟨d, m⟩ := z
    cases m
    · simp [rest, shorts] at ih ⊢; exact ih
    · simp [rest, shorts] at ih ⊢
      exact List.perm_middle.trans (ih.cons d)

theorem rdOf_mid (A B : List Bool) (y : Bool) : rdOf false (A ++ y :: B) (A.length : Int) = y := by
  unfold rdOf; simp [List.getD_eq_getElem?_getD]
theorem sub_mem {Z : List (D × Bool)} {x : D} (h : x ∈ shorts Z ∨ x ∈ rest Z) : x ∈ Z.map (·.1) := by
  rcases h with h | h
  · unfold shorts at h; obtain ⟨z, h1, h2⟩ := List.mem_map.1 h; exact List.mem_map.2 ⟨z, (List.mem_filter.1 h1).1, h2⟩
  · unfold rest at h; obtain ⟨z, h1, h2⟩ := List.mem_map.1 h; exact List.mem_map.2 ⟨z, (List.mem_filter.1 h1).1, h2⟩

section
variable {l : List D} {S : Int} (hl : l.length ≤ 12) (hok : ∀ x ∈ l, Okd x) (h0 : 0 ≤ S) (h1 : S ≤ 1000000000000)
include hl hok h0 h1
omit hl h0 h1 in
theorem bounds {Z : List (D × Bool)} (hZ : ∀ z ∈ Z, z.1 ∈ l) (hn : Z.length ≤ 12) : 0 ≤ sm G (shorts Z) ∧ sm G (shorts Z) ≤ 12000 ∧ 0 ≤ sm W (rest Z) ∧ sm W (rest Z) ≤ 12000000000 := by
  have ms : ∀ x ∈ shorts Z, Okd x := fun x hx => hok x (by
    unfold shorts at hx; obtain ⟨z, h1, h2⟩ := List.mem_map.1 hx; rw [← h2]; exact hZ z (List.mem_filter.1 h1).1)
  have mr : ∀ x ∈ rest Z, Okd x := fun x hx => hok x (by
    unfold rest at hx; obtain ⟨z, h1, h2⟩ := List.mem_map.1 hx; rw [← h2]; exact hZ z (List.mem_filter.1 h1).1)
  have l1 : (shorts Z).length ≤ Z.length := by unfold shorts; rw [List.length_map]; exact List.length_filter_le _ _
  have l2 : (rest Z).length ≤ Z.length := by unfold rest; rw [List.length_map]; exact List.length_filter_le _ _
  have b1 := sm_bound (f := G) (m := 1000) (fun x hx => (ms x hx).2.2.2)
  have b2 := sm_bound (f := W) (m := 1000000000) (fun x hx => (mr x hx).2.1)
  have b3 := sm_nonneg (f := G) (fun x hx => by have := (ms x hx).2.2.1; unfold G; omega)
  have b4 := sm_nonneg (f := W) (fun x hx => (mr x hx).1)
  refine ⟨b3, by omega, b4, by omega⟩
theorem ref_l2 {Z : List (D × Bool)} (hZ : l = Z.map (·.1)) {r : Int × Int} (hr : Ev (fun k => spigotref36_level.l3 k l S (Z.map (·.2)) (S - sm W (rest Z)) (sm G (shorts Z)) false 0) r) : ∀ B A : List (D × Bool), Z = A ++ B →
    Ev (fun k => spigotref36_level.l2 k l S (Z.map (·.2)) (S - sm W (rest A)) (sm G (shorts A)) (A.length : Int)) r := by
  intro B
  induction B with
  | nil =>
    intro A e
    rw [List.append_nil] at e
    subst e
    refine Ev.step (fun k => ?_) hr
    rw [spigotref36_level.l2, if_neg (by rw [hZ]; simp)]
  | cons z B ih =>
    intro A e
    obtain ⟨d, m⟩ := z
    have hy : rd_T37 l (A.length : Int) = d := by rw [hZ, e]; have := rd_mid (A.map (·.1)) (B.map (·.1)) d; simpa using this
    have hm : rdOf false (Z.map (·.2)) (A.length : Int) = m := by rw [e]; have := rdOf_mid (A.map (·.2)) (B.map (·.2)) m; simpa using this
    have hll : l.length = A.length + 1 + B.length := by rw [hZ, e]; simp; omega
    have hb := bounds hok (Z := A) (fun z hz => by rw [hZ, e]; exact List.mem_map.2 ⟨z, List.mem_append_left _ hz, rfl⟩) (by omega)
    have hd := hok d (by rw [hZ, e]; simp)
    have hdw : 0 ≤ d.f0 ∧ d.f0 ≤ 1000000000 ∧ 1 ≤ d.f1 ∧ d.f1 ≤ 1000 := hd
    refine Ev.step (fun k => ?_) (ih (A ++ [(d, m)]) (by rw [e]; simp))
    have e4 : (A.length : Int) + 1 = ((A ++ [(d, m)]).length : Int) := by simp
    rw [spigotref36_level.l2, if_pos (by omega), if_pos (by omega), if_pos (by rw [e]; simp; omega), hm, hy, w0 (i := (A.length : Int) + 1) (by omega) (by omega), e4]
    cases m
    · rw [if_neg (by simp), w0 (by omega) (by omega)]
      have x1 : S - sm W (rest A) - d.f0 = S - sm W (rest (A ++ [(d, false)])) := by rw [rest_app, sm_app]; simp [rest, sm, W]; omega
      have x2 : sm G (shorts A) = sm G (shorts (A ++ [(d, false)])) := by rw [shorts_app, sm_app]; simp [shorts, sm]
      rw [x1, x2]
    · rw [if_pos rfl, w0 (by omega) (by omega)]
      have x1 : sm G (shorts A) + d.f1 = sm G (shorts (A ++ [(d, true)])) := by rw [shorts_app, sm_app]; simp [shorts, sm, G]
      have x2 : sm W (rest A) = sm W (rest (A ++ [(d, true)])) := by rw [rest_app, sm_app]; simp [rest, sm]
      rw [x1, x2]
omit h0 h1 in
theorem ref_l3 {Z : List (D × Bool)} (hZ : l = Z.map (·.1)) {n e : Int} (hn0 : 0 ≤ n) (hn1 : n ≤ 1000000000000) (he0 : 0 ≤ e) (he1 : e ≤ 12000) {r : Int × Int}
    (hr : Ev (fun k => spigotref36_level.l1 k l S ((Z.map (upd n e)).map (·.2)) n e (decide (rem n e Z ≠ []))) r) : ∀ B A : List (D × Bool), Z = A ++ B →
    Ev (fun k => spigotref36_level.l3 k l S ((A.map (upd n e) ++ B).map (·.2)) n e (decide (rem n e A ≠ [])) (A.length : Int)) r := by
  intro B
  induction B with
  | nil =>
    intro A q
    rw [List.append_nil] at q
    subst q
    refine Ev.step (fun k => ?_) hr
    rw [spigotref36_level.l3, if_neg (by rw [hZ]; simp), List.append_nil]
  | cons z B ih =>
    intro A q
    obtain ⟨d, m⟩ := z
    have hy : rd_T37 l (A.length : Int) = d := by rw [hZ, q]; have := rd_mid (A.map (·.1)) (B.map (·.1)) d; simpa using this
    have hm : rdOf false ((A.map (upd n e) ++ (d, m) :: B).map (·.2)) (A.length : Int) = m := by have := rdOf_mid ((A.map (upd n e)).map (·.2)) (B.map (·.2)) m; simpa using this
    have hll : l.length = A.length + 1 + B.length := by rw [hZ, q]; simp; omega
    have hd := hok d (by rw [hZ, q]; simp)
    have m1 := mul_bound (m := 1000000000) (n := 12000) hd.1 he0 hd.2.1 he1
    have m2 := mul_bound (m := 1000000000000) (n := 1000) hn0 (show 0 ≤ d.f1 by have := hd.2.2.1; omega) hn1 hd.2.2.2
    have e4 : (A.length : Int) + 1 = ((A ++ [(d, m)]).length : Int) := by simp
    have h2 := ih (A ++ [(d, m)]) (by rw [q]; simp)
    refine Ev.step (fun k => ?_) h2
    rw [spigotref36_level.l3, if_pos (by omega), if_pos (by omega), if_pos (by simp; omega), hm, hy, w0 (i := (A.length : Int) + 1) (by omega) (by omega), e4]
    cases m
    · rw [if_neg (by simp)]
      have x1 : rem n e (A ++ [(d, false)]) = rem n e A := by simp [rem, off]
      have x2 : ((A ++ [(d, false)]).map (upd n e) ++ B).map (·.2) = (A.map (upd n e) ++ (d, false) :: B).map (·.2) := by simp [upd]
      rw [x1, x2]
    · rw [if_pos rfl, w0 (i := d.f0 * e) (by omega) (by omega), w0 (i := n * d.f1) (by omega) (by omega)]
      by_cases c : W d * e ≤ n * G d
      · rw [if_pos (show d.f0 * e ≤ n * d.f1 from c)]
        have x1 : rem n e (A ++ [(d, true)]) ≠ [] := by simp [rem, off, c]
        have x2 : ((A ++ [(d, true)]).map (upd n e) ++ B).map (·.2) = ((A.map (upd n e) ++ (d, true) :: B).map (·.2)).set A.length false := by
          simp [upd, c, List.set_append_right]
        rw [decide_eq_true x1, x2, Int.toNat_natCast]
      · rw [if_neg (show ¬ (d.f0 * e ≤ n * d.f1) from c)]
        have x1 : rem n e (A ++ [(d, true)]) = rem n e A := by simp [rem, off, c]
        have x2 : ((A ++ [(d, true)]).map (upd n e) ++ B).map (·.2) = (A.map (upd n e) ++ (d, true) :: B).map (·.2) := by simp [upd, c]
        rw [x1, x2]
theorem ref_l1 (hS : S < sm W l) : ∀ (m : Nat) (Z : List (D × Bool)) (x y : Int), (shorts Z).length ≤ m → l = Z.map (·.1) → 0 ≤ S - sm W (rest Z) → shorts Z ≠ [] → (∀ z ∈ rest Z, W z * sm G (shorts Z) ≤ (S - sm W (rest Z)) * G z) →
    ∃ a b : Nat, (Lev l S a b ∧ (b : Int) ≤ 12000 ∧ (a : Int) ≤ S) ∧ Ev (fun k => spigotref36_level.l1 k l S (Z.map (·.2)) x y true) ((a : Int), (b : Int)) := by
  intro m
  induction m with
  | zero => intro Z x y h _ _ hn; exact absurd (List.eq_nil_of_length_eq_zero (by omega)) hn
  | succ m ih =>
    intro Z x y hm hZ hp hn hI
    have hb := bounds hok (Z := Z) (fun z hz => by rw [hZ]; exact List.mem_map.2 ⟨z, hz, rfl⟩) (by have := congrArg List.length hZ; simp at this; omega)
    have hd : ∀ z ∈ Z.map (·.1), Okd z := fun z hz => hok z (by rw [hZ]; exact hz)
    have hpos : 0 < sm G (shorts Z) := by
      cases hq : shorts Z with
      | nil => exact absurd hq hn
      | cons d L =>
        have hk : ∀ z ∈ d :: L, Okd z := fun z hz => hd z (sub_mem (.inl (by rw [hq]; exact hz)))
        have g1 := (hk d List.mem_cons_self).2.2.1
        have g2 := sm_nonneg (f := G) (A := L) (fun z hz => by have := (hk z (List.mem_cons_of_mem _ hz)).2.2.1; unfold G; omega)
        rw [sm]; unfold G at *; omega
    obtain ⟨n, hn'⟩ : ∃ n, n = S - sm W (rest Z) := ⟨_, rfl⟩
    obtain ⟨e, he'⟩ : ∃ e, e = sm G (shorts Z) := ⟨_, rfl⟩
    have l2 : ∀ r, Ev (fun k => spigotref36_level.l1 k l S ((Z.map (upd n e)).map (·.2)) n e (decide (rem n e Z ≠ []))) r → Ev (fun k => spigotref36_level.l1 k l S (Z.map (·.2)) x y true) r := by
      intro r hr
      have a1 := ref_l3 hl hok hZ (n := n) (e := e) (by omega) (by omega) (by omega) (by omega) hr Z [] rfl
      have a2 : (decide (rem n e [] ≠ [])) = false := by simp [rem]
      rw [a2] at a1
      have a3 := ref_l2 hl hok h0 h1 hZ (r := r) (by rw [← hn', ← he']; exact a1) Z [] rfl
      refine Ev.step (fun k => ?_) a3
      rw [spigotref36_level.l1, if_pos rfl]
      simp [rest, shorts, sm]
    by_cases c : rem n e Z = []
    · obtain ⟨a, ha⟩ := Int.eq_ofNat_of_zero_le (show 0 ≤ n by omega)
      obtain ⟨b, hb'⟩ := Int.eq_ofNat_of_zero_le (show 0 ≤ e by omega)
      refine ⟨a, b, ⟨?_, by omega, by omega⟩, l2 _ ?_⟩
      · have hL : Lev (rest Z ++ shorts Z) S a b := by
          refine lev_parts ?_ ?_ hn (by omega) (by omega) (by omega) (by omega)
          · intro z hz; have := hI z hz; rw [← hn', ← he', ha, hb'] at this; exact this
          · intro z hz
            have hnot : ¬ (W z * e ≤ n * G z) := by
              intro hle
              have : z ∈ rem n e Z := by
                unfold shorts at hz
                obtain ⟨w, hw1, hw2⟩ := List.mem_map.1 hz
                obtain ⟨hw3, hw4⟩ := List.mem_filter.1 hw1
                refine List.mem_map.2 ⟨w, List.mem_filter.2 ⟨hw3, ?_⟩, hw2⟩
                unfold off
                rw [hw4, hw2, decide_eq_true hle]; rfl
              rw [c] at this; cases this
            rw [← ha, ← hb']; omega
        rw [hZ]; exact hL.perm (perm_parts Z)
      · refine Ev.step (f := fun _ => some ((a : Int), (b : Int))) (fun k => ?_) (Ev.now _)
        rw [spigotref36_level.l1, decide_eq_false (by simpa using c), if_neg (by simp), ha, hb']
    · have hrp : 0 < (rem n e Z).length := List.length_pos_iff.2 c
      have hls := len_shorts n e Z
      have s1 := sm_shorts G n e Z
      have s2 := sm_rest W n e Z
      have s3 := sm_parts W Z
      have s4 := sm_parts W (Z.map (upd n e))
      have s5 := sm_shorts W n e Z
      rw [map_fst, ← hZ] at s4
      rw [← hZ] at s3
      have hZ2 : l = (Z.map (upd n e)).map (·.1) := by rw [map_fst]; exact hZ
      have sums : sm W (rem n e Z) * e ≤ n * sm G (rem n e Z) := by
        rw [← sm_mul, Int.mul_comm n, ← sm_mul]
        exact sm_le fun z hz => by have := mem_rem hz; rw [Int.mul_comm (G z)]; exact this
      have rs := rise (s := n) (g := sm G (rem n e Z)) (w := sm W (rem n e Z)) (c := e) (S' := S - sm W (rest (Z.map (upd n e)))) sums (by omega)
      have ee : e - sm G (rem n e Z) = sm G (shorts (Z.map (upd n e))) := by omega
      rw [ee] at rs
      have hb2 := bounds hok (Z := Z.map (upd n e)) (fun z hz => by rw [hZ2]; exact List.mem_map.2 ⟨z, hz, rfl⟩) (by have := congrArg List.length hZ; simp at this ⊢; omega)
      have hp2 : 0 ≤ S - sm W (rest (Z.map (upd n e))) := by
        refine le_mul (c := e) ?_ (by omega)
        have := Int.mul_nonneg (show 0 ≤ n by omega) hb2.1
        omega
      have hne : shorts (Z.map (upd n e)) ≠ [] := by
        intro hq
        rw [hq] at s1 s5
        simp only [sm] at s1 s5
        have : sm W (rem n e Z) ≤ n := by
          refine le_mul (c := e) ?_ (by omega)
          have e9 : sm G (rem n e Z) = e := by omega
          rw [e9] at sums; exact sums
        omega
      obtain ⟨a, b, q1, q2⟩ := ih (Z.map (upd n e)) n e (by omega) hZ2 hp2 hne (fun z hz => by
        have oz : 0 ≤ G z := by have := (hok z (by rw [hZ2]; exact sub_mem (.inr hz))).2.2.1; unfold G; omega
        rcases mem_rest n e Z z hz with q | q
        · have := hI z q
          rw [← hn', ← he'] at this
          exact stay (by omega) oz hb2.1 this rs
        · exact stay (by omega) oz hb2.1 (mem_rem q) rs)
      refine ⟨a, b, q1, l2 _ ?_⟩
      rw [decide_eq_true (by simpa using c)]
      exact q2
theorem ref_level (hS : S < sm W l) : ∃ a b : Nat, (Lev l S a b ∧ (b : Int) ≤ 12000 ∧ (a : Int) ≤ S) ∧ Ev (fun k => spigotref36_level.f k l S) ((a : Int), (b : Int)) := by
  have hZ : l = (l.map (fun d => (d, true))).map (·.1) := by simp [List.map_map, Function.comp_def]
  have r0 : rest (l.map (fun d => (d, true))) = [] := by simp [rest]
  have s0 : shorts (l.map (fun d => (d, true))) = l := by simp [shorts, List.filter_eq_self.2, List.map_map, Function.comp_def]
  have hne : l ≠ [] := by rintro rfl; simp [sm] at hS; omega
  obtain ⟨a, b, q1, q2⟩ := ref_l1 hl hok h0 h1 hS l.length (l.map (fun d => (d, true))) 0 1 (by rw [s0]; exact Nat.le_refl _) hZ (by rw [r0]; simpa [sm] using h0) (by rw [s0]; exact hne) (by rw [r0]; intro z hz; cases hz)
  refine ⟨a, b, q1, ?_⟩
  have hM : (l.map (fun d => (d, true))).map (·.2) = List.replicate l.length true := by
    rw [List.map_map]; simp [Function.comp_def, List.map_const']
  rw [hM] at q2
  have loop : ∀ m j : Nat, j + m = l.length → Ev (fun k => spigotref36_level.l0 k l S (List.replicate j true ++ List.replicate m false) (j : Int)) ((a : Int), (b : Int)) := by
    intro m
    induction m with
    | zero =>
      intro j e
      refine Ev.step (fun k => ?_) q2
      rw [spigotref36_level.l0, if_neg (by omega), show j = l.length by omega]; simp
    | succ m ih =>
      intro j e
      refine Ev.step (fun k => ?_) (ih (j + 1) (by omega))
      rw [spigotref36_level.l0, if_pos (by omega), if_pos (by omega), if_pos (by simp; omega), w0 (by omega) (by omega), Int.toNat_natCast]
      congr 1
      rw [List.set_append_right _ _ (by simp), List.length_replicate, Nat.sub_self, List.replicate_succ, List.set_cons_zero, List.replicate_succ', List.append_assoc]; rfl
  have h2 := loop l.length 0 (by omega)
  refine Ev.congr (fun k => ?_) h2
  unfold spigotref36_level.f
  rw [if_pos (by omega), if_pos (by simp; omega), Int.toNat_natCast]; rfl
end

/-! ### the reference's sum, divisor and level -/
theorem total_l0 {l : List D} (hl : l.length ≤ 12) (hok : ∀ x ∈ l, Okd x) : ∀ B A : List D, l = A ++ B → Ev (fun k => spigotref36_total.l0 k l (sm W A) (A.length : Int)) (sm W l) := by
  intro B
  induction B with
  | nil =>
    intro A e
    rw [List.append_nil] at e
    subst e
    refine Ev.step (f := fun _ => some (sm W l)) (fun k => ?_) (Ev.now _)
    rw [spigotref36_total.l0, if_neg (by omega)]
  | cons d B ih =>
    intro A e
    have hll : l.length = A.length + 1 + B.length := by rw [e]; simp; omega
    have hy : rd_T37 l (A.length : Int) = d := by rw [e]; exact rd_mid _ _ _
    have hb := sm_bound (f := W) (A := A) (m := 1000000000) (fun x hx => (hok x (by rw [e]; exact List.mem_append_left _ hx)).2.1)
    have hb0 := sm_nonneg (f := W) (A := A) (fun x hx => (hok x (by rw [e]; exact List.mem_append_left _ hx)).1)
    have hd := hok d (by rw [e]; simp)
    refine Ev.step (fun k => ?_) (ih (A ++ [d]) (by rw [e]; simp))
    have e4 : (A.length : Int) + 1 = ((A ++ [d]).length : Int) := by simp
    have e5 : sm W A + d.f0 = sm W (A ++ [d]) := by rw [sm_app]; simp [sm, W]
    rw [spigotref36_total.l0, if_pos (by omega), if_pos (by omega), hy, w0 (i := (A.length : Int) + 1) (by omega) (by omega), w0 (by have := hd.1; omega) (by have := hd.2.1; omega), e4, e5]
theorem rgcd_ev (n : Nat) : ∀ m : Nat, Ev (fun k => spigotref36_gcd.f k (m : Int) (n : Int)) ((Nat.gcd m n : Nat) : Int) := by
  induction n using Nat.strongRecOn with
  | _ n ih =>
    intro m
    unfold spigotref36_gcd.f at *
    by_cases c : n = 0
    · subst c
      refine Ev.step (f := fun _ => some (m : Int)) (fun k => ?_) (by rw [Nat.gcd_zero_right]; exact Ev.now _)
      rw [spigotref36_gcd.l0, if_pos (by simp)]
    · have h := ih (m % n) (Nat.mod_lt _ (by omega)) n
      have e : Nat.gcd n (m % n) = Nat.gcd m n := by rw [Nat.gcd_comm m n, Nat.gcd_rec n m, Nat.gcd_comm]
      rw [e] at h
      refine Ev.step (fun k => ?_) h
      rw [spigotref36_gcd.l0, if_neg (by omega), Int.ofNat_tmod]

/-! ### what is asked -/
def Ask (l : List D) (S : Int) : Prop := l.length ≤ 12 ∧ (∀ x ∈ l, Okd x) ∧ 0 ≤ S ∧ S ≤ 1000000000000
theorem check_l0 {l : List D} (hl : l.length ≤ 12) : ∀ B A : List D, l = A ++ B → ∃ r, (r = 0 ∨ r = 8) ∧ (r = 0 ↔ ∀ x ∈ B, Okd x) ∧ Ev (fun k => share_Check.l0 k l (l.length : Int) (A.length : Int)) r ∧ Ev (fun k => spigotref36_Check.l0 k l (A.length : Int)) r := by
  intro B
  induction B with
  | nil =>
    intro A e
    rw [List.append_nil] at e
    subst e
    refine ⟨0, .inl rfl, by simp, Ev.step (f := fun _ => some 0) (fun k => ?_) (Ev.now _), Ev.step (f := fun _ => some 0) (fun k => ?_) (Ev.now _)⟩
    · rw [share_Check.l0, if_neg (by omega)]
    · rw [spigotref36_Check.l0, if_neg (by omega)]
  | cons d B ih =>
    intro A e
    have hll : l.length = A.length + 1 + B.length := by rw [e]; simp; omega
    have hy : rd_T37 l (A.length : Int) = d := by rw [e]; exact rd_mid _ _ _
    have e4 : (A.length : Int) + 1 = ((A ++ [d]).length : Int) := by simp
    obtain ⟨r, h1, h2, h3, h4⟩ := ih (A ++ [d]) (by rw [e]; simp)
    by_cases c : Okd d
    · have c' : 0 ≤ d.f0 ∧ d.f0 ≤ 1000000000 ∧ 1 ≤ d.f1 ∧ d.f1 ≤ 1000 := c
      refine ⟨r, h1, h2.trans ⟨fun h x hx => by rcases List.mem_cons.1 hx with q | q; rw [q]; exact c; exact h x q, fun h x hx => h x (List.mem_cons_of_mem _ hx)⟩, Ev.step (fun k => ?_) h3, Ev.step (fun k => ?_) h4⟩
      · rw [share_Check.l0, if_pos (by omega), if_pos (by omega), if_pos (by omega), hy, if_neg (by omega), if_neg (by omega), if_neg (by omega), if_neg (by omega), w0 (by omega) (by omega), e4]
      · rw [spigotref36_Check.l0, if_pos (by omega), if_pos (by omega), hy, if_neg (by omega), if_neg (by omega), if_neg (by omega), if_neg (by omega), w0 (by omega) (by omega), e4]
    · have c' : ¬ (0 ≤ d.f0 ∧ d.f0 ≤ 1000000000 ∧ 1 ≤ d.f1 ∧ d.f1 ≤ 1000) := c
      refine ⟨8, .inr rfl, ⟨fun h => by omega, fun h => absurd (h d List.mem_cons_self) c⟩, Ev.step (f := fun _ => some 8) (fun k => ?_) (Ev.now _), Ev.step (f := fun _ => some 8) (fun k => ?_) (Ev.now _)⟩
      · rw [share_Check.l0, if_pos (by omega), if_pos (by omega), if_pos (by omega), hy]
        repeat' split
        all_goals first | rfl | (exfalso; omega)
      · rw [spigotref36_Check.l0, if_pos (by omega), if_pos (by omega), hy]
        repeat' split
        all_goals first | rfl | (exfalso; omega)
theorem checks (l : List D) : ∃ r, (r = 0 ↔ l.length ≤ 12 ∧ ∀ x ∈ l, Okd x) ∧ Ev (fun k => share_Check.f k l) r ∧ Ev (fun k => spigotref36_Check.f k l) r := by
  by_cases c : l.length ≤ 12
  · obtain ⟨r, _, h2, h3, h4⟩ := check_l0 c l [] rfl
    refine ⟨r, h2.trans ⟨fun h => ⟨c, h⟩, fun h => h.2⟩, Ev.congr (fun k => ?_) h3, Ev.congr (fun k => ?_) h4⟩
    · unfold share_Check.f; rw [if_neg (by omega)]; rfl
    · unfold spigotref36_Check.f; rw [if_neg (by omega)]; rfl
  · refine ⟨4, ⟨fun h => by omega, fun h => absurd h.1 c⟩, Ev.congr (f := fun _ => some 4) (fun k => ?_) (Ev.now _), Ev.congr (f := fun _ => some 4) (fun k => ?_) (Ev.now _)⟩
    · unfold share_Check.f; rw [if_pos (by omega)]
    · unfold spigotref36_Check.f; rw [if_pos (by omega)]
theorem asks (l : List D) (S : Int) : ∃ r, (r = 0 ↔ Ask l S) ∧ Ev (fun k => share_asked.f k l S) r ∧ Ev (fun k => spigotref36_Asked.f k l S) r := by
  obtain ⟨r, h1, h2, h3⟩ := checks l
  obtain ⟨K2, k2⟩ := Ev.get h2
  obtain ⟨K3, k3⟩ := Ev.get h3
  by_cases c : r = 0
  · obtain ⟨a1, a2⟩ := h1.1 c
    by_cases d : 0 ≤ S ∧ S ≤ 1000000000000
    · refine ⟨0, ⟨fun _ => ⟨a1, a2, d⟩, fun _ => rfl⟩, ⟨K2, fun k hk => ?_⟩, ⟨K3, fun k hk => ?_⟩⟩
      · dsimp only; unfold share_asked.f; rw [k2 k hk, Option.bind_some, if_pos c, if_neg (by omega), if_neg (by omega)]
      · dsimp only; unfold spigotref36_Asked.f; rw [k3 k hk, Option.bind_some, if_pos c, if_neg (by omega), if_neg (by omega)]
    · refine ⟨2, ⟨fun h => by omega, fun h => absurd ⟨h.2.2.1, h.2.2.2⟩ d⟩, ⟨K2, fun k hk => ?_⟩, ⟨K3, fun k hk => ?_⟩⟩
      · dsimp only; unfold share_asked.f; rw [k2 k hk, Option.bind_some, if_pos c]
        by_cases q : S < 0
        · rw [if_pos q]
        · rw [if_neg q, if_pos (by omega)]
      · dsimp only; unfold spigotref36_Asked.f; rw [k3 k hk, Option.bind_some, if_pos c]
        by_cases q : S < 0
        · rw [if_pos q]
        · rw [if_neg q, if_pos (by omega)]
  · refine ⟨r, ⟨fun h => absurd h c, fun h => h1.2 ⟨h.1, h.2.1⟩⟩, ⟨K2, fun k hk => ?_⟩, ⟨K3, fun k hk => ?_⟩⟩
    · dsimp only; unfold share_asked.f; rw [k2 k hk, Option.bind_some, if_neg c]
    · dsimp only; unfold spigotref36_Asked.f; rw [k3 k hk, Option.bind_some, if_neg c]

/-- What a level is: a fraction in small numbers, or none. -/
def Lvl (l : List D) (S a b : Int) (ok : Bool) : Prop := (ok = true → Lev l S a b ∧ b ≤ 12000 ∧ a ≤ 1000000000000) ∧ (ok = false → a = 0 ∧ b = 0 ∧ sm W l ≤ S)
theorem reduced {l : List D} {S : Int} {a b : Nat} (h : Lev l S a b) : Lev l S ((a : Int) / (Nat.gcd a b : Int)) ((b : Int) / (Nat.gcd a b : Int)) := by
  have hb : 0 < b := by have := h.1; omega
  have gp : 0 < Nat.gcd a b := Nat.gcd_pos_of_pos_right _ hb
  refine Lev.scale (k := (Nat.gcd a b : Int)) (by omega) ?_
  rw [← Int.natCast_ediv, ← Int.natCast_ediv, ← Int.natCast_mul, ← Int.natCast_mul, Nat.mul_div_cancel' (Nat.gcd_dvd_left a b), Nat.mul_div_cancel' (Nat.gcd_dvd_right a b)]
  exact h
/-- The level on both sides. -/
theorem levels {l : List D} {S : Int} (h : Ask l S) : ∃ (a b : Int) (ok : Bool), Lvl l S a b ok ∧ Ev (fun k => share_level.f k l S) (a, b, ok) ∧ Ev (fun k => spigotref36_Level.f k l S) (a, b, if ok = true then 0 else 6) := by
  obtain ⟨hl, hok, h0, h1⟩ := h
  obtain ⟨r, hr, _, hA⟩ := asks l S
  have r0 : r = 0 := hr.2 ⟨hl, hok, h0, h1⟩
  subst r0
  obtain ⟨K1, k1⟩ := Ev.get hA
  obtain ⟨K2, k2⟩ := Ev.get (total_l0 hl hok l [] rfl)
  have k2' : ∀ k, K2 ≤ k → spigotref36_total.f k l = some (sm W l) := k2
  have hg := sm_bound (f := G) (A := l) (m := 1000) (fun x hx => (hok x hx).2.2.2)
  rcases level_ev hl hok h0 h1 with ⟨a, b, ⟨q1, q2, q3⟩, q4⟩ | ⟨q1, q2⟩
  · have hb : 0 < b := by have := q1.1; omega
    have gp : 0 < Nat.gcd a b := Nat.gcd_pos_of_pos_right _ hb
    have d1 : a / Nat.gcd a b ≤ a := Nat.div_le_self _ _
    have d2 : b / Nat.gcd a b ≤ b := Nat.div_le_self _ _
    have n1 : 0 ≤ ((a / Nat.gcd a b : Nat) : Int) := Int.natCast_nonneg _
    have n2 : 0 ≤ ((b / Nat.gcd a b : Nat) : Int) := Int.natCast_nonneg _
    have f1 : ((a / Nat.gcd a b : Nat) : Int) ≤ (a : Int) := by exact_mod_cast d1
    have f2 : ((b / Nat.gcd a b : Nat) : Int) ≤ (b : Int) := by exact_mod_cast d2
    rw [Int.natCast_ediv] at f1 f2
    refine ⟨_, _, true, ⟨fun _ => ⟨reduced q1, by omega, by omega⟩, fun h => by cases h⟩, q4, ?_⟩
    obtain ⟨c, e, ⟨p1, p2, p3⟩, p4⟩ := ref_level hl hok h0 h1 q1.2.2.2
    obtain ⟨K3, k3⟩ := Ev.get p4
    obtain ⟨K4, k4⟩ := Ev.get (rgcd_ev e c)
    have he : 0 < e := by have := p1.1; omega
    have gp2 : 0 < Nat.gcd c e := Nat.gcd_pos_of_pos_right _ he
    obtain ⟨w1, w2⟩ := low_terms (a := (a : Int)) (b := (b : Int)) (c := (c : Int)) (e := (e : Int)) (by omega) (by omega) (by omega) (by omega) (q1.one hok p1)
    rw [Int.gcd_natCast_natCast, Int.gcd_natCast_natCast] at w1 w2
    have d3 : c / Nat.gcd c e ≤ c := Nat.div_le_self _ _
    have d4 : e / Nat.gcd c e ≤ e := Nat.div_le_self _ _
    have n3 : 0 ≤ ((c / Nat.gcd c e : Nat) : Int) := Int.natCast_nonneg _
    have n4 : 0 ≤ ((e / Nat.gcd c e : Nat) : Int) := Int.natCast_nonneg _
    refine ⟨K1 + K2 + K3 + K4, fun k hk => ?_⟩
    dsimp only
    unfold spigotref36_Level.f
    have hlt := q1.2.2.2
    rw [k1 k (by omega), Option.bind_some, if_pos rfl, k2' k (by omega), Option.bind_some, if_neg (by omega), k3 k (by omega), Option.bind_some]
    dsimp only
    rw [k4 k (by omega), Option.bind_some, if_neg (by omega), ← Int.ofNat_tdiv, ← Int.ofNat_tdiv, w0 (by omega) (by omega), w0 (by omega) (by omega), w1, w2, Int.natCast_ediv, Int.natCast_ediv]
    rfl
  · refine ⟨0, 0, false, ⟨(fun h => by cases h), fun _ => ⟨rfl, rfl, q1⟩⟩, q2, K1 + K2, fun k hk => ?_⟩
    dsimp only
    unfold spigotref36_Level.f
    rw [k1 k (by omega), Option.bind_some, if_pos rfl, k2' k (by omega), Option.bind_some, if_pos q1]
    rfl

end Go.Proofs.Yteeceppbnkkfpaa.SharePlain
