/- The reference's rank, lists and counts are the program's; the laws RingRanks and RingLists in plain words. -/
import Derived.Test.YteiekaboepdaeaaDoorRingP5
namespace Go.Proofs.YteiekaboepdaeaaDoor.RP
set_option linter.unusedSimpArgs false
set_option linter.unusedVariables false
open Go Go.Proofs Go.Proofs.YteiekaboepdaeaaDoor.PM
theorem spl {α : Type} {A : List α} {j : Nat} {x : α} (h : j ≤ A.length) : ((([] : List α) ++ (List.take ((Int.toNat (j : Int)) - (Int.toNat 0)) (List.drop (Int.toNat 0) A))) ++ ([x] : List α)) ++ (List.take ((Int.toNat ((List.length A : Nat) : Int)) - (Int.toNat (j : Int))) (List.drop (Int.toNat (j : Int)) A)) = A.take j ++ x :: A.drop j := by
  rw [toNat_cast, toNat_cast, show Int.toNat 0 = 0 from rfl, Nat.sub_zero, List.drop_zero, List.nil_append, List.append_assoc, List.take_of_length_le (l := A.drop j) (by rw [List.length_drop]; omega)]; rfl
theorem RK_in {l A : List Int} {t x : Int} {k : Nat} (hx : l.getD k 0 = x) (hk : k < l.length) (hl : l.length ≤ 12) (hA : A.length ≤ 12) (uA : ∀ h ∈ A, U32 h) (ux : U32 x) (ut : U32 t) : ∀ j, j ≤ A.length →
    spigotref41_rank.L3 l t (k : Int) (j : Int) A (A.map (score · t)) (score x t) = spigotref41_rank.L1 l t ((k + 1 : Nat) : Int) (A.take (cut (key t) 0 x A j) ++ x :: A.drop (cut (key t) 0 x A j)) ((A.take (cut (key t) 0 x A j) ++ x :: A.drop (cut (key t) 0 x A j)).map (score · t))
  | j, hj => by
    have hml : (A.map (score · t)).length = A.length := List.length_map ..
    have put : ∀ i : Nat, i ≤ A.length → spigotref41_rank.L1 l t (IntKind.wrap .i64 ((k : Int) + 1)) (((([] : List Int) ++ (List.take ((Int.toNat (i : Int)) - (Int.toNat 0)) (List.drop (Int.toNat 0) A))) ++ ([x] : List Int)) ++ (List.take ((Int.toNat ((List.length A : Nat) : Int)) - (Int.toNat (i : Int))) (List.drop (Int.toNat (i : Int)) A)))
        (((([] : List (List Int)) ++ (List.take ((Int.toNat (i : Int)) - (Int.toNat 0)) (List.drop (Int.toNat 0) (A.map (score · t))))) ++ ([score x t] : List (List Int))) ++ (List.take ((Int.toNat ((List.length (A.map (score · t)) : Nat) : Int)) - (Int.toNat (i : Int))) (List.drop (Int.toNat (i : Int)) (A.map (score · t))))) =
        spigotref41_rank.L1 l t ((k + 1 : Nat) : Int) (A.take i ++ x :: A.drop i) ((A.take i ++ x :: A.drop i).map (score · t)) := fun i hi => by
      rw [spl hi, spl (by rw [hml]; exact hi), W_eq (by omega) (by omega), cast_add1, List.map_append, List.map_cons, List.map_take, List.map_drop]
    cases j with
    | zero =>
      rw [spigotref41_rank.L3_eq, bd_neg (by omega), bd_pos (by omega),
        lim_ok_small (by decide) (by simp only [List.length_nil, List.length_take, List.length_drop]; omega), bd_pos (by omega), toNat_cast k, hx,
        lim_ok_small (by decide) (by simp only [List.length_nil, List.length_append, List.length_cons, List.length_take, List.length_drop]; omega), bd_pos (by omega),
        lim_ok_small (by decide) (by simp only [List.length_nil, List.length_append, List.length_cons, List.length_take, List.length_drop]; omega), bd_pos (by omega),
        lim_ok_small (by decide) (by simp only [List.length_nil, List.length_append, List.length_cons, List.length_take, List.length_drop]; omega),
        lim_ok_small (by decide) (by simp only [List.length_nil, List.length_append, List.length_cons, List.length_take, List.length_drop]; omega), bd_pos (by omega),
        lim_ok_small (by decide) (by simp only [List.length_nil, List.length_append, List.length_cons, List.length_take, List.length_drop]; omega)]
      exact put 0 (by omega)
    | succ j =>
      have ew : IntKind.wrap .i64 (((j + 1 : Nat) : Int) - 1) = ((j : Nat) : Int) := by rw [W_eq (by omega) (by omega)]; omega
      have hg : (A.map (score · t)).getD j (List.replicate 32 (0 : Int)) = score (A.getD j 0) t := by
        rw [getD_get (by omega), getD_get (by omega), List.getElem_map]
      have um : U32 (A.getD j 0) := uA _ (getD_mem (by omega))
      rw [spigotref41_rank.L3_eq, bd_pos (by omega), ew, bd_pos (by omega), toNat_cast j, hg, Greater_F (score_len ux ut) (score_len um ut) (score_bytes ux ut) (score_bytes um ut), ob]
      unfold cut
      by_cases hp : key t (A.getD j 0) < key t x
      · rw [if_pos hp]
        have hp : val (score (A.getD j 0) t) < val (score x t) := hp
        rw [decide_eq_true hp]
        show spigotref41_rank.L4 _ _ _ _ _ _ _ = _
        rw [spigotref41_rank.L4_eq, ew]
        exact RK_in hx hk hl hA uA ux ut j (by omega)
      · rw [if_neg hp]
        have hp : ¬ val (score (A.getD j 0) t) < val (score x t) := hp
        rw [decide_eq_false hp, cond_false, bd_pos (by omega),
        lim_ok_small (by decide) (by simp only [List.length_nil, List.length_take, List.length_drop]; omega), bd_pos (by omega), toNat_cast k, hx,
        lim_ok_small (by decide) (by simp only [List.length_nil, List.length_append, List.length_cons, List.length_take, List.length_drop]; omega), bd_pos (by omega),
        lim_ok_small (by decide) (by simp only [List.length_nil, List.length_append, List.length_cons, List.length_take, List.length_drop]; omega), bd_pos (by omega),
        lim_ok_small (by decide) (by simp only [List.length_nil, List.length_append, List.length_cons, List.length_take, List.length_drop]; omega),
        lim_ok_small (by decide) (by simp only [List.length_nil, List.length_append, List.length_cons, List.length_take, List.length_drop]; omega), bd_pos (by omega),
        lim_ok_small (by decide) (by simp only [List.length_nil, List.length_append, List.length_cons, List.length_take, List.length_drop]; omega)]
        exact put (j + 1) hj
theorem RK_out {l : List Int} {t : Int} (hl : l.length ≤ 12) (ul : ∀ h ∈ l, U32 h) (ut : U32 t) : ∀ (rest A : List Int) (k : Nat), l = l.take k ++ rest → k + rest.length = l.length → A.length = k → (∀ h ∈ A, U32 h) →
    spigotref41_rank.L1 l t (k : Int) A (A.map (score · t)) = some (sortC (key t) 0 rest A, ())
  | [], A, k, _, hk, _, _ => by
    rw [List.length_nil] at hk
    rw [spigotref41_rank.L1_eq, bd_neg (by omega)]; rfl
  | x :: rest, A, k, he, hk, hA, uA => by
    rw [List.length_cons] at hk
    have hx : l.getD k 0 = x := by
      rw [he, List.getD, List.getElem?_append_right (by rw [List.length_take]; omega), List.length_take, show k - min k l.length = 0 by omega]; rfl
    have ux : U32 x := hx ▸ ul _ (getD_mem (by omega))
    have hml : (A.map (score · t)).length = A.length := List.length_map ..
    rw [spigotref41_rank.L1_eq, bd_pos (by omega), spigotref41_rank.L2_eq, bd_pos (by omega), toNat_cast, hx, RScore_F ux ut, ob]
    show spigotref41_rank.L3 l t (k : Int) (A.length : Int) A (A.map (score · t)) (score x t) = _
    rw [RK_in hx (by omega) hl (by omega) uA ux ut A.length (Nat.le_refl _)]
    refine RK_out hl ul ut rest (insC (key t) 0 x A) (k + 1) ?_ (by omega) (by rw [insC_len]; omega) (fun h hh => ?_)
    · rw [← tk_getD (d := 0) (by omega : k < l.length), hx, List.append_assoc]; exact he
    · rcases List.mem_cons.1 ((insC_perm (key t) 0 x A).mem_iff.1 hh) with rfl | hh
      · exact ux
      · exact uA h hh
theorem rank_F {l : List Int} {t : Int} (hl : l.length ≤ 12) (ul : ∀ h ∈ l, U32 h) (ut : U32 t) : spigotref41_rank.F l t = some (rank l t, ()) := by
  rw [spigotref41_rank.F_eq]
  exact RK_out hl ul ut l [] 0 rfl (by omega) rfl (fun h hh => by simp at hh)
theorem RRank_F {l : List Int} {t : Int} (ul : ∀ h ∈ l, U32 h) (ut : U32 t) : ∃ r e, ring_Rank.F l t = some (r, e, ()) ∧ spigotref41_Rank.F l t = some (r, e, ()) ∧ r.length ≤ 12 := by
  by_cases hc : chk l = 0
  · have hl := (chk_zero.1 hc).1
    refine ⟨_, _, Rank_ok hc ul ut, ?_, by rw [rank_len]; exact hl⟩
    rw [spigotref41_Rank.F_eq, RCheck_F, ob, bne_neg hc, spigotref41_Rank.L1_eq, rank_F hl ul ut, ob]
  · refine ⟨_, _, Rank_bad hc, ?_, by simp⟩
    rw [spigotref41_Rank.F_eq, RCheck_F, ob, bne_pos hc]
theorem ROwner_F {l : List Int} {t : Int} (ul : ∀ h ∈ l, U32 h) (ut : U32 t) : ∃ o e, ring_Owner.F l t = some (o, e, ()) ∧ spigotref41_Owner.F l t = some (o, e, ()) := by
  by_cases hc : chk l = 0
  · have hl := (chk_zero.1 hc).1
    by_cases h0 : l = []
    · subst h0
      refine ⟨_, _, Owner_nil ut, ?_⟩
      rw [spigotref41_Owner.F_eq, RCheck_F, ob, bne_neg hc, spigotref41_Owner.L1_eq, beq_pos (by rfl)]
    · refine ⟨_, _, Owner_ok hc h0 ul ut, ?_⟩
      have lp := List.length_pos_iff.2 h0
      have hr := rank_len l t
      rw [spigotref41_Owner.F_eq, RCheck_F, ob, bne_neg hc, spigotref41_Owner.L1_eq, beq_neg (by omega), spigotref41_Owner.L2_eq, rank_F hl ul ut, ob, bd_pos (by show (0 : Int) ≤ 0 ∧ (0 : Int) < ((rank l t).length : Int); omega)]; rfl
  · refine ⟨_, _, Owner_bad hc, ?_⟩
    rw [spigotref41_Owner.F_eq, RCheck_F, ob, bne_pos hc]
theorem Great_F (l T : List Int) : ∃ g : Bool, spigotref41_Great.F l T = some (g, ()) ∧ (g = false → l.length ≤ 30 ∧ T.length ≤ 120) := by
  rw [spigotref41_Great.F_eq]
  by_cases h1 : l.length > 30
  · rw [bd_pos (by omega)]; exact ⟨_, rfl, fun h => by cases h⟩
  · rw [bd_neg (by omega)]
    by_cases h2 : T.length > 15
    · rw [bd_pos (by omega)]
      by_cases h3 : T.length ≤ 100
      · rw [bd_pos (by omega)]; exact ⟨_, rfl, fun h => by cases h⟩
      · rw [bd_neg (by omega)]
        exact ⟨_, rfl, fun h => by have := of_decide_eq_false h; omega⟩
    · rw [bd_neg (by omega)]
      exact ⟨_, rfl, fun h => by omega⟩
theorem RingRanks_F {l : List Int} {t h : Int} (ul : ∀ h ∈ l, U32 h) (ut : U32 t) (uh : U32 h) : spigotlaw41_RingRanks.F l t h = some (true, ()) := by
  obtain ⟨g, hg, hb⟩ := Great_F l []
  rw [spigotlaw41_RingRanks.F_eq, hg, ob]
  cases g with
  | true => rfl
  | false =>
    have hl := (hb rfl).1
    obtain ⟨r, e, h1, h2, h3⟩ := RRank_F (l := l) (t := t) ul ut
    obtain ⟨o, e', h4, h5⟩ := ROwner_F (l := l) (t := t) ul ut
    show spigotlaw41_RingRanks.L1 l t h = _
    rw [spigotlaw41_RingRanks.L1_eq, List.nil_append, lim_ok_small (by decide) (by simp only [List.length_nil]; omega), Score_F uh ut, ob, h1, ob, h2, ob, h4, ob, h5, ob, Check_F, ob, RCheck_F, ob, beq_pos rfl, beq_pos rfl, RScore_F uh ut, ob, beq8, decide_eq_true rfl, cond_true,
      Same_F (by simp only [maxLen]; omega), ob, decide_eq_true rfl, cond_true, beq_pos rfl, beq_pos rfl, beq_pos rfl, Same_F (by simp only [maxLen]; omega), ob, decide_eq_true rfl]
/- the lists -/
theorem RAdd_loop {l : List Int} {h : Int} (hc : chk l = 0) (hm : h ∉ l) : ∀ m k : Nat, k + m = l.length → (∀ x, x < k → l.getD x 0 < h) → spigotref41_Add.L4 l h (k : Int) = some (addTo l h, 0, ())
  | m, k, hk, hlt => by
    obtain ⟨hl, ha⟩ := chk_zero.1 hc
    have fin : (∀ x, k ≤ x → x < l.length → h < l.getD x 0) → some ((((([] : List Int) ++ (List.take ((Int.toNat (k : Int)) - (Int.toNat 0)) (List.drop (Int.toNat 0) l))) ++ ([h] : List Int)) ++ (List.take ((Int.toNat ((List.length l : Nat) : Int)) - (Int.toNat (k : Int))) (List.drop (Int.toNat (k : Int)) l))), (0 : Int), ()) = some (addTo l h, 0, ()) := fun hge => by
      rw [spl (by omega)]
      have e1 : l.filter (fun x => decide (x < h)) = l.take k := filter_split (q := fun _ => true) (fun x h1 _ => decide_eq_true (hlt x h1)) (fun x h1 h2 => decide_eq_false (by have := hge x h1 h2; omega))
      have e2 : l.filter (fun x => decide (h < x)) = l.drop k := filter_split2 (fun x h1 _ => decide_eq_false (by have := hlt x h1; omega)) (fun x h1 h2 => decide_eq_true (hge x h1 h2))
      unfold addTo
      rw [e1, e2]
    rw [spigotref41_Add.L4_eq]
    cases m with
    | zero =>
      rw [bd_neg (by omega), bd_pos (by omega), lim_ok_small (by decide) (by simp only [List.length_nil, List.length_take, List.length_drop]; omega),
        lim_ok_small (by decide) (by simp only [List.length_nil, List.length_append, List.length_cons, List.length_take, List.length_drop]; omega), bd_pos (by omega),
        lim_ok_small (by decide) (by simp only [List.length_nil, List.length_append, List.length_cons, List.length_take, List.length_drop]; omega)]
      exact fin (fun x h1 h2 => by omega)
    | succ m =>
      rw [bd_pos (by omega), bd_pos (by omega), toNat_cast k]
      by_cases hp : l.getD k 0 < h
      · rw [bd_pos hp, spigotref41_Add.L5_eq, W_eq (by omega) (by omega), cast_add1]
        exact RAdd_loop hc hm m (k + 1) (by omega) (fun x hx => by
          by_cases e : x = k
          · rw [e]; exact hp
          · exact hlt x (by omega))
      · rw [bd_neg hp, bd_pos (by omega)]
        have t0 : (Int.toNat (k : Int)) = k := toNat_cast k
        rw [t0] at fin
        rw [lim_ok_small (by decide) (by simp only [List.length_nil, List.length_take, List.length_drop]; omega),
        lim_ok_small (by decide) (by simp only [List.length_nil, List.length_append, List.length_cons, List.length_take, List.length_drop]; omega), bd_pos (by omega),
        lim_ok_small (by decide) (by simp only [List.length_nil, List.length_append, List.length_cons, List.length_take, List.length_drop]; omega)]
        have hk1 : h < l.getD k 0 := by
          have : l.getD k 0 ≠ h := fun e => hm (e ▸ getD_mem (by omega))
          omega
        exact fin (fun x h1 h2 => by
          by_cases e : x = k
          · rw [e]; exact hk1
          · have := asc_lt ha (show k < x by omega) h2
            omega)
theorem RAdd_F {l : List Int} {h : Int} (hl30 : l.length ≤ 30) : ∃ r e, ring_Add.F l h = some (r, e, ()) ∧ spigotref41_Add.F l h = some (r, e, ()) ∧ r.length ≤ 100 := by
  by_cases hc : chk l = 0
  · obtain ⟨hl, ha⟩ := chk_zero.1 hc
    have head : spigotref41_Add.F l h = spigotref41_Add.L1 l h := by rw [spigotref41_Add.F_eq, RCheck_F, ob, bne_neg hc]
    rw [head, spigotref41_Add.L1_eq, In_F (by simp only [maxLen]; omega), ob]
    by_cases hm : h ∈ l
    · exact ⟨_, _, Add_twice hc hm, by rw [decide_eq_true hm]; rfl, by simp⟩
    · rw [decide_eq_false hm]
      show ∃ r e, _ ∧ spigotref41_Add.L2 l h = _ ∧ _
      rw [spigotref41_Add.L2_eq]
      by_cases h12 : l.length = 12
      · exact ⟨_, _, Add_many hc hm (by omega), by rw [beq_pos (by omega)], by simp⟩
      · refine ⟨_, _, Add_ok hc hm (by omega), ?_, by rw [addTo_len ha hm]; omega⟩
        rw [beq_neg (by omega), spigotref41_Add.L3_eq]
        exact RAdd_loop hc hm l.length 0 (by omega) (fun x hx => by omega)
  · refine ⟨_, _, Add_bad hc, ?_, by simp⟩
    rw [spigotref41_Add.F_eq, RCheck_F, ob, bne_pos hc]
theorem RDrop_F {l : List Int} {h : Int} : ∃ r e, ring_Drop.F l h = some (r, e, ()) ∧ spigotref41_Drop.F l h = some (r, e, ()) ∧ r.length ≤ 100 := by
  by_cases hc : chk l = 0
  · obtain ⟨hl, ha⟩ := chk_zero.1 hc
    have head : spigotref41_Drop.F l h = spigotref41_Drop.L1 l h := by rw [spigotref41_Drop.F_eq, RCheck_F, ob, bne_neg hc]
    rw [head, spigotref41_Drop.L1_eq, In_F (by simp only [maxLen]; omega), ob]
    by_cases hm : h ∈ l
    · refine ⟨_, _, Drop_ok hc hm, ?_, by have := List.length_filter_le (· != h) l; omega⟩
      rw [decide_eq_true hm]
      show spigotref41_Drop.L2 l h = _
      rw [spigotref41_Drop.L2_eq, Without_F (by omega), ob]
    · exact ⟨_, _, Drop_none hc hm, by rw [decide_eq_false hm]; rfl, by simp⟩
  · refine ⟨_, _, Drop_bad hc, ?_, by simp⟩
    rw [spigotref41_Drop.F_eq, RCheck_F, ob, bne_pos hc]
theorem listed_F (l T : List Int) : spigotref41_listed.F l T = some (routedV l T, ()) := by
  rw [spigotref41_listed.F_eq]
  unfold routedV
  by_cases h : 100 < T.length
  · rw [bd_pos (by omega), if_pos h]
  · rw [bd_neg (by omega), if_neg h, spigotref41_listed.L1_eq]
    by_cases h1 : 0 < T.length
    · rw [bd_pos (by omega)]
      by_cases h2 : l.length = 0
      · rw [beq_pos (by omega), if_pos ⟨h1, h2⟩]
      · rw [beq_neg (by omega), if_neg (fun h => h2 h.2), spigotref41_listed.L2_eq]
    · rw [bd_neg (by omega), if_neg (fun h => h1 h.1), spigotref41_listed.L2_eq]
theorem routedV_zero {l T : List Int} (h : routedV l T = 0) : T.length ≤ 100 ∧ (T ≠ [] → l ≠ []) := by
  unfold routedV at h
  split at h
  · omega
  · split at h
    · omega
    · rename_i h2
      exact ⟨by omega, fun hT h0 => h2 ⟨List.length_pos_iff.2 hT, by rw [h0]; rfl⟩⟩
theorem RMoved_loop {a b T : List Int} (ha : chk a = 0) (hb : chk b = 0) (ha0 : T ≠ [] → a ≠ []) (hb0 : T ≠ [] → b ≠ []) (hua : ∀ h ∈ a, U32 h) (hub : ∀ h ∈ b, U32 h) (hT : ∀ t ∈ T, U32 t) (hl : T.length ≤ 1000) : ∀ m k : Nat, k + m = T.length →
    spigotref41_Moved.L5 a b T (k : Int) (moved a b (T.take k)) = some (moved a b T, 0, ())
  | 0, k, hk => by
    rw [spigotref41_Moved.L5_eq, bd_neg (by omega), List.take_of_length_le (by omega)]
  | m + 1, k, hk => by
    have hTn : T ≠ [] := fun e => by rw [e] at hk; simp at hk
    have hk' : k < T.length := by omega
    have ut := hT _ (getD_mem hk')
    have la := (chk_zero.1 ha).1
    have lb := (chk_zero.1 hb).1
    have pa := List.length_pos_iff.2 (ha0 hTn)
    have pb := List.length_pos_iff.2 (hb0 hTn)
    have ra := rank_len a (T.getD k 0)
    have rb := rank_len b (T.getD k 0)
    have ih := RMoved_loop ha hb ha0 hb0 hua hub hT hl m (k + 1) (by omega)
    have e : moved a b (T.take (k + 1)) = moved a b (T.take k) ++ moved a b [T.getD k 0] := by
      rw [← tk_getD (d := 0) hk']; unfold moved; rw [List.filter_append]
    have hlen : (moved a b (T.take k)).length ≤ k := by
      have := List.length_filter_le (fun t => decide (owner a t ≠ owner b t)) (T.take k)
      rw [List.length_take] at this
      unfold moved; omega
    have hs : ∀ x, spigotref41_Moved.L7 a b T (k : Int) x = spigotref41_Moved.L5 a b T ((k + 1 : Nat) : Int) x := fun x => by
      rw [spigotref41_Moved.L7_eq, W_eq (by omega) (by omega), cast_add1]
    rw [spigotref41_Moved.L5_eq, bd_pos (by omega), spigotref41_Moved.L6_eq, bd_pos (by omega), toNat_cast, rank_F la hua ut, ob, bd_pos (by show (0 : Int) ≤ 0 ∧ (0 : Int) < ((rank a (T.getD k 0)).length : Int); omega), bd_pos (by omega), rank_F lb hub ut, ob, bd_pos (by show (0 : Int) ≤ 0 ∧ (0 : Int) < ((rank b (T.getD k 0)).length : Int); omega)]
    show (bif owner a (T.getD k 0) != owner b (T.getD k 0) then _ else _) = _
    by_cases hp : owner a (T.getD k 0) = owner b (T.getD k 0)
    · have h0 : moved a b [T.getD k 0] = [] := by unfold moved; rw [List.filter_cons_of_neg (by rw [hp]; simp)]; rfl
      rw [bne_neg hp, hs]
      rwa [e, h0, List.append_nil] at ih
    · have h0 : moved a b [T.getD k 0] = [T.getD k 0] := by unfold moved; rw [List.filter_cons_of_pos (p := fun t => decide (owner a t ≠ owner b t)) (decide_eq_true hp)]; rfl
      rw [bne_pos hp, bd_pos (by omega), lim_ok_small (by decide) (by simp only [List.length_cons, List.length_nil]; omega), hs]
      rwa [e, h0] at ih
theorem Moved_err {a b T : List Int} : (chk a ≠ 0 → ring_Moved.F a b T = some ([], chk a, ())) ∧ (chk a = 0 → chk b ≠ 0 → ring_Moved.F a b T = some ([], chk b, ())) ∧
    (chk a = 0 → chk b = 0 → routedV a T ≠ 0 → ring_Moved.F a b T = some ([], routedV a T, ())) ∧ (chk a = 0 → chk b = 0 → routedV a T = 0 → routedV b T ≠ 0 → ring_Moved.F a b T = some ([], routedV b T, ())) := by
  have e2 : ((List.length ([a, b] : List (List Int)) : Nat) : Int) = 2 := rfl
  have w1 : IntKind.wrap .i64 ((0 : Int) + 1) = 1 := by rw [W_eq (by omega) (by omega)]; rfl
  have w2 : IntKind.wrap .i64 ((1 : Int) + 1) = 2 := by rw [W_eq (by omega) (by omega)]; rfl
  have s1 : chk a ≠ 0 → ring_Moved.F a b T = some ([], chk a, ()) := fun h => by
    rw [ring_Moved.F_eq, e2, ring_Moved.L1_eq, bd_pos (by omega), ring_Moved.L2_eq, e2, bd_pos (by omega)]
    show (ring_Check.F a).bind _ = _
    rw [Check_F, ob, bne_pos h]
  have s2 : chk a = 0 → ring_Moved.F a b T = ring_Moved.L1 a b T 2 1 [a, b] := fun h => by
    rw [ring_Moved.F_eq, e2, ring_Moved.L1_eq, bd_pos (by omega), ring_Moved.L2_eq, e2, bd_pos (by omega)]
    show (ring_Check.F a).bind _ = _
    rw [Check_F, ob, bne_neg h, ring_Moved.L11_eq, w1]
  have s3 : chk b ≠ 0 → ring_Moved.L1 a b T 2 1 [a, b] = some ([], chk b, ()) := fun h => by
    rw [ring_Moved.L1_eq, bd_pos (by omega), ring_Moved.L2_eq, e2, bd_pos (by omega)]
    show (ring_Check.F b).bind _ = _
    rw [Check_F, ob, bne_pos h]
  have s4 : chk b = 0 → ring_Moved.L1 a b T 2 1 [a, b] = (bif routedV a T != 0 then some ([], routedV a T, ()) else ring_Moved.L3 a b T 2 1 [a, b]) := fun h => by
    rw [ring_Moved.L1_eq, bd_pos (by omega), ring_Moved.L2_eq, e2, bd_pos (by omega)]
    show (ring_Check.F b).bind _ = _
    rw [Check_F, ob, bne_neg h, ring_Moved.L11_eq, w2, ring_Moved.L1_eq, bd_neg (by omega), e2, ring_Moved.L3_eq, bd_pos (by omega), ring_Moved.L4_eq, e2, bd_pos (by omega)]
    show (ring_routed.F a T).bind _ = _
    rw [routed_F, ob, ring_Moved.L10_eq, w1]
  refine ⟨s1, fun h h2 => by rw [s2 h, s3 h2], fun h h2 h3 => by rw [s2 h, s4 h2, bne_pos h3], fun h h2 h3 h4 => ?_⟩
  rw [s2 h, s4 h2, bne_neg h3, ring_Moved.L3_eq, bd_pos (by omega), ring_Moved.L4_eq, e2, bd_pos (by omega)]
  show (ring_routed.F b T).bind _ = _
  rw [routed_F, ob, bne_pos h4]
theorem moved_le (a b T : List Int) : (moved a b T).length ≤ T.length := List.length_filter_le ..
theorem RMoved_F {a b T : List Int} (ua : ∀ h ∈ a, U32 h) (ub : ∀ h ∈ b, U32 h) (uT : ∀ t ∈ T, U32 t) : ∃ r e, ring_Moved.F a b T = some (r, e, ()) ∧ spigotref41_Moved.F a b T = some (r, e, ()) ∧ r.length ≤ 100 := by
  obtain ⟨m1, m2, m3, m4⟩ := Moved_err (a := a) (b := b) (T := T)
  rw [spigotref41_Moved.F_eq, RCheck_F, ob]
  by_cases ha : chk a = 0
  · rw [bne_neg ha, spigotref41_Moved.L1_eq, RCheck_F, ob]
    by_cases hb : chk b = 0
    · rw [bne_neg hb, spigotref41_Moved.L2_eq, listed_F, ob]
      by_cases ra : routedV a T = 0
      · rw [bne_neg ra, spigotref41_Moved.L3_eq, listed_F, ob]
        by_cases rb : routedV b T = 0
        · obtain ⟨k1, k2⟩ := routedV_zero ra
          obtain ⟨_, k3⟩ := routedV_zero rb
          refine ⟨_, _, Moved_ok ha hb ra rb ua ub uT, ?_, Nat.le_trans (moved_le a b T) k1⟩
          rw [bne_neg rb, spigotref41_Moved.L4_eq]
          exact RMoved_loop ha hb k2 k3 ua ub uT (by omega) T.length 0 (by omega)
        · exact ⟨_, _, m4 ha hb ra rb, by rw [bne_pos rb], by simp⟩
      · exact ⟨_, _, m3 ha hb ra, by rw [bne_pos ra], by simp⟩
    · exact ⟨_, _, m2 ha hb, by rw [bne_pos hb], by simp⟩
  · exact ⟨_, _, m1 ha, by rw [bne_pos ha], by simp⟩
theorem loads_step {l T : List Int} {i k : Nat} (ha : Asc l) (i1 : i < l.length) (hk : k < T.length) (i2 : l.getD i 0 = owner l (T.getD k 0)) :
    (loads l (T.take k)).set i ((loads l (T.take k)).getD i 0 + 1) = loads l (T.take (k + 1)) := by
  rw [loads_get i1, ← tk_getD (d := 0) hk]
  unfold loads
  apply List.ext_getElem
  · simp
  · intro j h1 h2
    rw [List.getElem_set]
    simp only [List.length_set, List.length_map] at h1
    rw [List.getElem_map, List.getElem_map, List.filter_append, List.length_append]
    by_cases hij : i = j
    · subst hij
      have e1 : l[i] = l.getD i 0 := (getD_get i1).symm
      rw [if_pos rfl, e1, i2, List.filter_cons_of_pos (by simp)]
      simp
    · have : owner l (T.getD k 0) ≠ l[j] := fun e => by
        rw [← i2, ← getD_get (d := 0) h1] at e
        rcases Nat.lt_or_ge i j with c | c
        · have := asc_lt ha c h1; omega
        · have := asc_lt ha (show j < i by omega) i1; omega
      rw [if_neg hij, List.filter_cons_of_neg (by simpa using this)]
      simp
theorem RL_none {l T c : List Int} {i f : Int} (hl : l.length ≤ 12) : ∀ m k : Nat, k + m = l.length → (∀ j, k ≤ j → j < l.length → l.getD j 0 ≠ f) → spigotref41_Loads.L5 l T i f (k : Int) c = spigotref41_Loads.L3 l T (IntKind.wrap .i64 (i + 1)) c
  | 0, k, hk, _ => by rw [spigotref41_Loads.L5_eq, bd_neg (by omega)]
  | m + 1, k, hk, h => by
    rw [spigotref41_Loads.L5_eq, bd_pos (by omega), spigotref41_Loads.L6_eq, bd_pos (by omega), toNat_cast, beq_neg (h k (Nat.le_refl _) (by omega)), spigotref41_Loads.L7_eq, W_eq (x := (k : Int) + 1) (by omega) (by omega), cast_add1]
    exact RL_none hl m (k + 1) (by omega) (fun j h1 => h j (by omega))
theorem RL_hit {l T c : List Int} {i f : Int} {p : Nat} (ha : Asc l) (hl : l.length ≤ 12) (hc : c.length = l.length) (hp : p < l.length) (hf : l.getD p 0 = f) : ∀ m k : Nat, k + m = p → spigotref41_Loads.L5 l T i f (k : Int) c = spigotref41_Loads.L3 l T (IntKind.wrap .i64 (i + 1)) (c.set p (IntKind.wrap .i64 (c.getD p 0 + 1)))
  | 0, k, hk => by
    obtain rfl : k = p := by omega
    rw [spigotref41_Loads.L5_eq, bd_pos (by omega), spigotref41_Loads.L6_eq, bd_pos (by omega), toNat_cast, beq_pos hf, bd_pos (by omega), bd_pos (by omega), spigotref41_Loads.L7_eq, W_eq (x := (k : Int) + 1) (by omega) (by omega), cast_add1]
    exact RL_none hl (l.length - (k + 1)) (k + 1) (by omega) (fun j h1 h2 e => by
      have := asc_lt ha (show k < j by omega) h2
      omega)
  | m + 1, k, hk => by
    have hne : l.getD k 0 ≠ f := fun e => by
      have := asc_lt ha (show k < p by omega) hp
      omega
    rw [spigotref41_Loads.L5_eq, bd_pos (by omega), spigotref41_Loads.L6_eq, bd_pos (by omega), toNat_cast, beq_neg hne, spigotref41_Loads.L7_eq, W_eq (x := (k : Int) + 1) (by omega) (by omega), cast_add1]
    exact RL_hit ha hl hc hp hf m (k + 1) (by omega)
theorem RLoads_loop {l T : List Int} (hc : chk l = 0) (h0 : T ≠ [] → l ≠ []) (hu : ∀ h ∈ l, U32 h) (hT : ∀ t ∈ T, U32 t) (hl : T.length ≤ 1000) : ∀ m k : Nat, k + m = T.length →
    spigotref41_Loads.L3 l T (k : Int) (loads l (T.take k)) = some (loads l T, 0, ())
  | 0, k, hk => by
    rw [spigotref41_Loads.L3_eq, bd_neg (by omega), List.take_of_length_le (by omega)]
  | m + 1, k, hk => by
    obtain ⟨hl12, ha⟩ := chk_zero.1 hc
    have hTn : T ≠ [] := fun e => by rw [e] at hk; simp at hk
    have l0 := h0 hTn
    have lp := List.length_pos_iff.2 l0
    have hk' : k < T.length := by omega
    have hr := rank_len l (T.getD k 0)
    obtain ⟨p, p1, p2⟩ := mem_getD (owner_mem (t := T.getD k 0) l0)
    have hf := List.length_filter_le (fun t => decide (owner l t = l.getD p 0)) (T.take k)
    rw [List.length_take] at hf
    have hg := loads_get (T := T.take k) p1
    rw [spigotref41_Loads.L3_eq, bd_pos (by omega), spigotref41_Loads.L4_eq, bd_pos (by omega), toNat_cast, rank_F hl12 hu (hT _ (getD_mem hk')), ob, bd_pos (by show (0 : Int) ≤ 0 ∧ (0 : Int) < ((rank l (T.getD k 0)).length : Int); omega)]
    have h1 := RL_hit (T := T) (c := loads l (T.take k)) (i := (k : Int)) ha hl12 (loads_len _ _) p1 p2 p 0 (by omega)
    have h1 : spigotref41_Loads.L5 l T (k : Int) (owner l (T.getD k 0)) 0 (loads l (T.take k)) = _ := h1
    show spigotref41_Loads.L5 l T (k : Int) (owner l (T.getD k 0)) 0 (loads l (T.take k)) = _
    rw [h1, W_eq (x := (k : Int) + 1) (by omega) (by omega), cast_add1, W_eq (by omega) (by omega), loads_step ha p1 hk' p2]
    exact RLoads_loop hc h0 hu hT hl m (k + 1) (by omega)
theorem RLoads_F {l T : List Int} (ul : ∀ h ∈ l, U32 h) (uT : ∀ t ∈ T, U32 t) : ∃ r e, ring_Loads.F l T = some (r, e, ()) ∧ spigotref41_Loads.F l T = some (r, e, ()) ∧ r.length ≤ 100 := by
  rw [spigotref41_Loads.F_eq, RCheck_F, ob]
  by_cases hc : chk l = 0
  · obtain ⟨hl, ha⟩ := chk_zero.1 hc
    rw [bne_neg hc, spigotref41_Loads.L1_eq, listed_F, ob]
    by_cases hr : routedV l T = 0
    · obtain ⟨k1, k2⟩ := routedV_zero hr
      refine ⟨_, _, Loads_ok hc hr ul uT, ?_, by rw [loads_len]; omega⟩
      rw [bne_neg hr, spigotref41_Loads.L2_eq, lim_ok (by simp [Ty.bytes]; omega), Bool.and_true, bd_pos (by omega), toNat_cast]
      have hz : List.replicate l.length (0 : Int) = loads l (T.take 0) := by
        unfold loads
        rw [List.take_zero]
        simp only [List.filter_nil, List.length_nil, Int.natCast_zero]
        exact List.map_const'.symm
      rw [hz]
      exact RLoads_loop hc k2 ul uT (by omega) T.length 0 (by omega)
    · refine ⟨[], _, ?_, by rw [bne_pos hr], by simp⟩
      rw [ring_Loads.F_eq, Check_F, ob, bne_neg hc, ring_Loads.L1_eq, routed_F, ob, bne_pos hr]
  · refine ⟨[], _, ?_, by rw [bne_pos hc], by simp⟩
    rw [ring_Loads.F_eq, Check_F, ob, bne_pos hc]
theorem RingLists_F {a b T : List Int} {h : Int} (ua : ∀ h ∈ a, U32 h) (ub : ∀ h ∈ b, U32 h) (uT : ∀ t ∈ T, U32 t) : spigotlaw41_RingLists.F a b T h = some (true, ()) := by
  obtain ⟨g, hg, hb⟩ := Great_F a T
  obtain ⟨g2, hg2, _⟩ := Great_F b []
  rw [spigotlaw41_RingLists.F_eq, hg, ob]
  cases g with
  | true => rfl
  | false =>
    show (spigotref41_Great.F b []).bind _ = _
    rw [hg2, ob]
    cases g2 with
    | true => rfl
    | false =>
      show spigotlaw41_RingLists.L1 a b T h = _
      obtain ⟨r1, e1, a1, a2, a3⟩ := RAdd_F (l := a) (h := h) (hb rfl).1
      obtain ⟨r2, e2, b1, b2, b3⟩ := RDrop_F (l := a) (h := h)
      obtain ⟨r3, e3, c1, c2, c3⟩ := RMoved_F (a := a) (b := b) (T := T) ua ub uT
      obtain ⟨r4, e4, d1, d2, d3⟩ := RLoads_F (l := a) (T := T) ua uT
      rw [spigotlaw41_RingLists.L1_eq, a1, ob, a2, ob, b1, ob, b2, ob, c1, ob, c2, ob, d1, ob, d2, ob,
        Same_F (by simp only [maxLen]; omega), ob, decide_eq_true rfl, cond_true, beq_pos rfl, Same_F (by simp only [maxLen]; omega), ob, decide_eq_true rfl, cond_true, beq_pos rfl,
        Same_F (by simp only [maxLen]; omega), ob, decide_eq_true rfl, cond_true, beq_pos rfl, SameInts_F (by simp only [maxLen]; omega), ob, decide_eq_true rfl, cond_true, beq_self_eq_true]
end Go.Proofs.YteiekaboepdaeaaDoor.RP
