/- What Rank and Owner answer. -/
import Derived.Test.YteiekaboepdaeaaDoorRingSc
namespace Go.Proofs.YteiekaboepdaeaaDoor.RP
set_option linter.unusedSimpArgs false
set_option linter.unusedVariables false
open Go Go.Proofs Go.Proofs.YteiekaboepdaeaaDoor.PM
noncomputable def key (t h : Int) : Int := val (score h t)
noncomputable def rank (l : List Int) (t : Int) : List Int := sortC (key t) 0 l []
abbrev D := t1.den
noncomputable def dk (x : D) : Int := val x.2.1
def Good (x : D) : Prop := List.length x.2.1 = 32 ∧ Bytes x.2.1
noncomputable def d0 : D := (0, List.replicate 32 (0 : Int), ())
theorem good0 : Good d0 := ⟨by simp [d0], fun x hx => by
  have := List.eq_of_mem_replicate hx
  omega⟩
theorem cmp_F {a b : D} (ha : Good a) (hb : Good b) : ∃ c : Int, ring_Rank_1.F a b = some (c, ()) ∧ (c < 0 ↔ dk b < dk a) := by
  refine ⟨cmpB b.2.1 a.2.1, ?_, (cmpB_val b.2.1 a.2.1 hb.2 ha.2 (by rw [ha.1, hb.1])).1⟩
  rw [ring_Rank_1.F_eq, bd_pos (by omega), bd_pos (by omega), bytes_Compare.F_eq]
  have e : ∀ l : List Int, l.length = 32 → List.take (Int.toNat 32 - Int.toNat 0) (List.drop (Int.toNat 0) l) = l := fun l h => by
    show List.take 32 (List.drop 0 l) = l
    rw [List.drop_zero, List.take_of_length_le (by omega)]
  rw [e b.2.1 hb.1, e a.2.1 ha.1]; rfl
theorem good_getD {l : List D} (h : ∀ x ∈ l, Good x) (i : Nat) : Good (l.getD i d0) := by
  by_cases hi : i < l.length
  · rw [getD_get hi]; exact h _ (List.getElem_mem _)
  · rw [List.getD, List.getElem?_eq_none (by omega)]; exact good0
theorem sort_in {n i : Nat} {x : D} {A rest : List D} (hA : A.length = i) (hn : i < n) (hn2 : n ≤ 100) (hlen : A.length + rest.length + 1 = n) (hg : ∀ y ∈ A, Good y) (hx : Good x) :
    ∀ j, j ≤ i → slices_insertionSortCmpFunc.L3 0 (n : Int) (i : Int) (j : Int) (A.take j ++ x :: (A.drop j ++ rest)) = slices_insertionSortCmpFunc.L1 0 (n : Int) ((i + 1 : Nat) : Int) (A.take (cut dk d0 x A j) ++ x :: (A.drop (cut dk d0 x A j) ++ rest))
  | 0, _ => by
    rw [slices_insertionSortCmpFunc.L3_eq, bd_neg (by omega), W_eq (by omega) (by omega), cast_add1]; rfl
  | j + 1, hj => by
    have hl : (A.take (j + 1) ++ x :: (A.drop (j + 1) ++ rest)).length = n := by
      simp only [List.length_append, List.length_cons, List.length_take, List.length_drop]; omega
    have tl : (A.take (j + 1)).length = j + 1 := by rw [List.length_take]; omega
    have hjx : (A.take (j + 1) ++ x :: (A.drop (j + 1) ++ rest)).getD (j + 1) d0 = x := by
      rw [List.getD, List.getElem?_append_right (by omega), tl, Nat.sub_self]; rfl
    have hj1 : (A.take (j + 1) ++ x :: (A.drop (j + 1) ++ rest)).getD j d0 = A.getD j d0 := by
      rw [List.getD, List.getElem?_append_left (by omega), List.getElem?_take_of_lt (by omega)]; rfl
    have e1 : Int.toNat ((j + 1 : Nat) : Int) = j + 1 := toNat_cast _
    have e2 : Int.toNat (((j + 1 : Nat) : Int) - 1) = j := by omega
    have ew : IntKind.wrap .i64 (((j + 1 : Nat) : Int) - 1) = ((j : Nat) : Int) := by rw [W_eq (by omega) (by omega)]; omega
    rw [slices_insertionSortCmpFunc.L3_eq, hl, bd_pos (by omega), bd_pos (by omega), ew, bd_pos (by omega), e1, toNat_cast]
    show (ring_Rank_1.F ((A.take (j + 1) ++ x :: (A.drop (j + 1) ++ rest)).getD (j + 1) d0) ((A.take (j + 1) ++ x :: (A.drop (j + 1) ++ rest)).getD j d0)).bind _ = _
    rw [hjx, hj1]
    obtain ⟨c, hc1, hc2⟩ := cmp_F hx (good_getD hg j)
    rw [hc1, ob]
    unfold cut
    by_cases hlt : dk (A.getD j d0) < dk x
    · rw [if_pos hlt, bd_pos (hc2.2 hlt), slices_insertionSortCmpFunc.L4_eq, hl, ew, bd_pos (by omega), bd_pos (by omega), bd_pos (by omega)]
      rw [bd_pos (by rw [List.length_set, hl]; omega), e1, toNat_cast]
      show slices_insertionSortCmpFunc.L3 _ _ _ _ (((A.take (j + 1) ++ x :: (A.drop (j + 1) ++ rest)).set (j + 1) ((A.take (j + 1) ++ x :: (A.drop (j + 1) ++ rest)).getD j d0)).set j ((A.take (j + 1) ++ x :: (A.drop (j + 1) ++ rest)).getD (j + 1) d0)) = _
      rw [hjx, hj1]
      have hd : A.take (j + 1) ++ x :: (A.drop (j + 1) ++ rest) = A.take j ++ A.getD j d0 :: x :: (A.drop (j + 1) ++ rest) := by
        rw [← tk_getD (d := d0) (by omega : j < A.length), List.append_assoc]; rfl
      have hd2 : A.take j ++ x :: (A.drop j ++ rest) = A.take j ++ x :: A.getD j d0 :: (A.drop (j + 1) ++ rest) := by
        rw [List.drop_eq_getElem_cons (by omega : j < A.length), getD_get (by omega)]; rfl
      rw [hd, swap_at (by rw [List.length_take]; omega), ← hd2]
      exact sort_in hA hn hn2 hlen hg hx j (by omega)
    · rw [if_neg hlt, bd_neg (fun h => hlt (hc2.1 h)), W_eq (by omega) (by omega), cast_add1]
theorem sort_out {n : Nat} (hn2 : n ≤ 100) : ∀ (rest A : List D), A.length + rest.length = n → (∀ y ∈ A, Good y) → (∀ y ∈ rest, Good y) →
    slices_insertionSortCmpFunc.L1 0 (n : Int) (A.length : Int) (A ++ rest) = some (sortC dk d0 rest A, ())
  | [], A, hl, _, _ => by
    rw [slices_insertionSortCmpFunc.L1_eq, bd_neg (by simp at hl; omega), List.append_nil]; rfl
  | x :: rest, A, hl, hg, hr => by
    simp only [List.length_cons] at hl
    rw [slices_insertionSortCmpFunc.L1_eq, bd_pos (by omega), slices_insertionSortCmpFunc.L2_eq]
    have := sort_in (n := n) (i := A.length) (x := x) (A := A) (rest := rest) rfl (by omega) hn2 (by omega) hg (hr x (by simp)) A.length (Nat.le_refl _)
    rw [List.take_length, List.drop_length, List.nil_append] at this
    rw [this]
    have hi : A.take (cut dk d0 x A A.length) ++ x :: (A.drop (cut dk d0 x A A.length) ++ rest) = insC dk d0 x A ++ rest := by
      unfold insC; rw [List.append_assoc]; rfl
    rw [hi]
    have hl2 : (insC dk d0 x A).length = A.length + 1 := insC_len _ _ _ _
    rw [← hl2]
    exact sort_out hn2 rest (insC dk d0 x A) (by omega) (fun y hy => by
      rcases List.mem_cons.1 ((insC_perm dk d0 x A).mem_iff.1 hy) with rfl | hy
      · exact hr _ (by simp)
      · exact hg y hy) (fun y hy => hr y (by simp [hy]))
theorem sort_F {l : List D} (hl : l.length < 20) (hg : ∀ y ∈ l, Good y) : slices_SortStableFunc.F l = some (sortC dk d0 l [], ()) := by
  have hs : slices_insertionSortCmpFunc.F l 0 (l.length : Int) = some (sortC dk d0 l [], ()) := by
    rw [slices_insertionSortCmpFunc.F_eq]
    cases l with
    | nil =>
      rw [slices_insertionSortCmpFunc.L1_eq, bd_neg (by rw [W_eq (by omega) (by omega)]; simp)]; rfl
    | cons x l =>
      have e : IntKind.wrap .i64 ((0 : Int) + 1) = (([x] : List D).length : Int) := by rw [W_eq (by omega) (by omega)]; rfl
      rw [e]
      have := sort_out (n := (x :: l).length) (by omega) l [x] (by simp; omega) (fun y hy => hg y (by simp at hy; simp [hy])) (fun y hy => hg y (by simp [hy]))
      exact this
  rw [slices_SortStableFunc.F_eq, slices_stableCmpFunc.F_eq, slices_stableCmpFunc.L1_eq, bd_neg (by omega), hs, ob, slices_stableCmpFunc.L3_eq, bd_neg (by omega)]
  rfl
noncomputable def mkD (t h : Int) : D := (h, score h t, ())
set_option maxRecDepth 100000 in
theorem rank_fill {l : List Int} {t : Int} (hl : l.length ≤ 12) (hu : ∀ h ∈ l, U32 h) (ht : U32 t) : ∀ m k : Nat, k + m = l.length →
    ring_Rank.L2 t l (l.length : Int) (k : Int) ((l.take k).map (mkD t)) = (slices_SortStableFunc.F (l.map (mkD t))).bind fun r0 => ring_Rank.L4 ((List.length r0.1 : Int)) 0 ([] : List Int) r0.1
  | 0, k, hk => by
    rw [ring_Rank.L2_eq, bd_neg (by omega), List.take_of_length_le (by omega)]
  | m + 1, k, hk => by
    have hmem : l.getD k 0 ∈ l := by rw [getD_get (by omega)]; exact List.getElem_mem _
    rw [ring_Rank.L2_eq, bd_pos (by omega), ring_Rank.L3_eq, bd_pos (by omega), toNat_cast, Score_F (hu _ hmem) ht, ob, bne_neg rfl, ring_Rank.L6_eq]
    have hb : (t1 : Ty).bytes ≤ 1000000 := by decide
    rw [lim_ok_small hb (by simp only [List.length_map, List.length_take, List.length_cons, List.length_nil]; omega), W_eq (by omega) (by omega), cast_add1]
    have e : (l.take k).map (mkD t) ++ [(l.getD k 0, score (l.getD k 0) t, ())] = (l.take (k + 1)).map (mkD t) := by
      rw [← tk_getD (d := 0) (by omega : k < l.length), List.map_append]; rfl
    rw [e]
    exact rank_fill hl hu ht m (k + 1) (by omega)
set_option maxRecDepth 100000 in
theorem rank_take {r : List D} (hr : r.length ≤ 12) : ∀ m k : Nat, k + m = r.length → ring_Rank.L4 (r.length : Int) (k : Int) ((r.take k).map (·.1)) r = some (r.map (·.1), 0, ())
  | 0, k, hk => by
    rw [ring_Rank.L4_eq, bd_neg (by omega), List.take_of_length_le (by omega)]
  | m + 1, k, hk => by
    rw [ring_Rank.L4_eq, bd_pos (by omega), ring_Rank.L5_eq, bd_pos (by omega)]
    rw [lim_ok_small (by decide) (by simp only [List.length_map, List.length_take, List.length_cons, List.length_nil]; omega), W_eq (by omega) (by omega), cast_add1, toNat_cast]
    have e : (r.take k).map (·.1) ++ [(r.getD k d0).1] = (r.take (k + 1)).map (·.1) := by
      rw [← tk_getD (d := d0) (by omega : k < r.length), List.map_append]; rfl
    show ring_Rank.L4 _ _ ((r.take k).map (·.1) ++ [(r.getD k d0).1]) _ = _
    rw [e]
    exact rank_take hr m (k + 1) (by omega)
set_option maxRecDepth 100000 in
theorem mkD_good {t h : Int} (hh : U32 h) (ht : U32 t) : Good (mkD t h) := by
  unfold Good mkD
  exact And.intro (score_len hh ht) (score_bytes hh ht)
theorem insC_dflt {α : Type} (f : α → Int) (d d' x : α) (A : List α) : insC f d x A = insC f d' x A := by
  have : ∀ j, j ≤ A.length → cut f d x A j = cut f d' x A j := by
    intro j
    induction j with
    | zero => intro _; rfl
    | succ j ih =>
      intro h
      unfold cut
      rw [getD_get (by omega), getD_get (by omega), ih (by omega)]
  unfold insC; rw [this _ (Nat.le_refl _)]
theorem sortC_dflt {α : Type} (f : α → Int) (d d' : α) : ∀ l A : List α, sortC f d l A = sortC f d' l A
  | [], _ => rfl
  | x :: l, A => by
    show sortC f d l (insC f d x A) = sortC f d' l (insC f d' x A)
    rw [insC_dflt f d d', sortC_dflt f d d' l]
set_option maxRecDepth 100000 in
theorem Rank_ok {l : List Int} {t : Int} (hc : chk l = 0) (hu : ∀ h ∈ l, U32 h) (ht : U32 t) : ring_Rank.F l t = some (rank l t, 0, ()) := by
  have hl := (chk_zero.1 hc).1
  rw [ring_Rank.F_eq, Check_F, ob, hc, bne_neg rfl, ring_Rank.L1_eq]
  have h1 := rank_fill hl hu ht l.length 0 (by omega)
  simp only [List.take_zero, List.map_nil] at h1
  have h1 : ring_Rank.L2 t l (l.length : Int) 0 ([] : List t1.den) = _ := h1
  rw [h1, sort_F (by rw [List.length_map]; omega) (fun y hy => by
    obtain ⟨h, hh, rfl⟩ := List.mem_map.1 hy
    exact mkD_good (hu h hh) ht), ob]
  have hlen : (sortC dk d0 (l.map (mkD t)) []).length = l.length := by rw [sortC_len]; simp
  have h2 := rank_take (r := sortC dk d0 (l.map (mkD t)) []) (by omega) (sortC dk d0 (l.map (mkD t)) []).length 0 (by omega)
  simp only [List.take_zero, List.map_nil] at h2
  have h2 : ring_Rank.L4 _ 0 ([] : List Int) _ = _ := h2
  show ring_Rank.L4 _ 0 ([] : List Int) (sortC dk d0 (l.map (mkD t)) []) = _
  rw [h2]
  have h3 := sortC_map (mkD t) dk 0 l []
  rw [List.map_nil] at h3
  rw [sortC_dflt dk d0 (mkD t 0), h3, List.map_map]
  have e1 : ((fun x : D => x.1) ∘ mkD t) = id := rfl
  have e2 : dk ∘ mkD t = key t := rfl
  rw [e1, List.map_id, e2]; rfl
theorem Rank_bad {l : List Int} {t : Int} (hc : chk l ≠ 0) : ring_Rank.F l t = some ([], chk l, ()) := by
  rw [ring_Rank.F_eq, Check_F, ob, bne_pos hc]
theorem rank_perm (l : List Int) (t : Int) : (rank l t).Perm l := by
  have := sortC_perm (key t) 0 l []
  rwa [List.append_nil] at this
theorem rank_len (l : List Int) (t : Int) : (rank l t).length = l.length := (rank_perm l t).length_eq
theorem asc_pw {l : List Int} (h : Asc l) : l.Pairwise (· < ·) := by
  rw [List.pairwise_iff_getElem]
  have key : ∀ m i, (hi : i + m + 1 < l.length) → l[i] < l[i + m + 1] := by
    intro m
    induction m with
    | zero =>
      intro i hi
      have := h (i + 1) (by omega) (by omega)
      rw [getD_get (by omega), getD_get (by omega)] at this
      simpa using this
    | succ m ih =>
      intro i hi
      have h1 := ih i (by omega)
      have h2 := h (i + (m + 1) + 1) (by omega) (by omega)
      rw [getD_get (by omega), getD_get (by omega)] at h2
      have e : i + (m + 1) + 1 - 1 = i + m + 1 := by omega
      simp only [e] at h2
      omega
  intro i j hi hj hij
  have := key (j - i - 1) i (by omega)
  have e : i + (j - i - 1) + 1 = j := by omega
  simpa only [e] using this
theorem pw_asc {l : List Int} (h : l.Pairwise (· < ·)) : Asc l := fun j h0 hj => by
  rw [getD_get (by omega), getD_get (by omega)]
  exact List.pairwise_iff_getElem.1 h (j - 1) j (by omega) (by omega) (by omega)
theorem rank_sorted {l : List Int} (h : Asc l) (t : Int) : (rank l t).Pairwise (Bef (key t)) :=
  sortC_sorted l [] (asc_pw h) List.Pairwise.nil (fun a ha => by simp at ha)
noncomputable def owner (l : List Int) (t : Int) : Int := (rank l t).getD 0 0
theorem Owner_ok {l : List Int} {t : Int} (hc : chk l = 0) (h0 : l ≠ []) (hu : ∀ h ∈ l, U32 h) (ht : U32 t) : ring_Owner.F l t = some (owner l t, 0, ()) := by
  have hn : 0 < (rank l t).length := by rw [rank_len]; exact List.length_pos_iff.2 h0
  rw [ring_Owner.F_eq, Rank_ok hc hu ht, ob, bne_neg rfl]
  show ring_Owner.L1 (rank l t) = _
  rw [ring_Owner.L1_eq, beq_neg (by omega), ring_Owner.L2_eq, bd_pos (by omega)]; rfl
theorem Owner_nil {t : Int} (ht : U32 t) : ring_Owner.F [] t = some (0, 6, ()) := by
  rw [ring_Owner.F_eq, Rank_ok (chk_zero.2 ⟨by simp, fun j h1 h2 => by simp at h2⟩) (fun h hh => by simp at hh) ht, ob, bne_neg rfl, ring_Owner.L1_eq]
  rfl
theorem Owner_bad {l : List Int} {t : Int} (hc : chk l ≠ 0) : ring_Owner.F l t = some (0, chk l, ()) := by
  rw [ring_Owner.F_eq, Rank_bad hc, ob, bne_pos hc]
end Go.Proofs.YteiekaboepdaeaaDoor.RP
