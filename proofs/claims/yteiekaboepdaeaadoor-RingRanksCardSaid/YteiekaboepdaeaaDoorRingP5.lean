/- That the package is alive; what dropping a host does to a rank; the laws RingRank, RingLoads and RingFew in plain words. -/
import Derived.Test.YteiekaboepdaeaaDoorRingP4
namespace Go.Proofs.YteiekaboepdaeaaDoor.RP
set_option linter.unusedSimpArgs false
set_option linter.unusedVariables false
open Go Go.Proofs Go.Proofs.YteiekaboepdaeaaDoor.PM
theorem chk_val {l : List Int} {n : Int} (h : (if 12 < l.length then (4 : Int) else if l.Pairwise (· < ·) then 0 else 8) = n) : chk l = n := by
  rw [← h]; unfold chk
  split
  · rfl
  · by_cases ha : Asc l
    · rw [if_pos ha, if_pos (asc_pw ha)]
    · rw [if_neg ha, if_neg (fun h => ha (pw_asc h))]
theorem beq8 : ∀ a b : List Int, Ty.beq (.arr 32 (.int .u8)) a b = decide (a = b) := by
  intro a b
  show allB (fun x y : Int => decide (x = y)) a b = decide (a = b)
  induction a generalizing b with
  | nil => cases b <;> simp [allB]
  | cons x xs ih =>
    cases b with
    | nil => simp [allB]
    | cons y ys => simp [allB, ih]
theorem u32_lit {x : Int} (h : 0 ≤ x) (h2 : x < 4294967296) : U32 x := ⟨h, h2⟩
theorem all_u32 {l : List Int} (h : l.all (fun x => decide (0 ≤ x ∧ x < 4294967296)) = true) : ∀ x ∈ l, U32 x := fun x hx => of_decide_eq_true (p := 0 ≤ x ∧ x < 4294967296) (List.all_eq_true.1 h x hx)
theorem owner_one (h t : Int) : owner [h] t = h := by
  have := owner_mem (l := [h]) (t := t) (by simp)
  simpa using this
theorem alive_F : spigotlaw41_alive.F = some (true, ()) := by
  have c7 : chk [7] = 0 := chk_val (by decide)
  have c0 : chk [] = 0 := chk_val (by decide)
  have c3 : chk [3] = 0 := chk_val (by decide)
  have o7 : ring_Owner.F [7] 5 = some (7, 0, ()) := by
    rw [Owner_ok c7 (by simp) (all_u32 (by decide)) (u32_lit (by omega) (by omega)), owner_one]
  have r0 : ring_Rank.F [] 5 = some ([], 0, ()) := Rank_ok c0 (all_u32 (by decide)) (u32_lit (by omega) (by omega))
  have a3 : ring_Add.F [] 3 = some ([3], 0, ()) := Add_ok c0 (by simp) (by simp)
  have l3 : ring_Loads.F [3] [1, 2, 1] = some ([3], 0, ()) := by
    rw [Loads_ok c3 rfl (all_u32 (by decide)) (all_u32 (by decide))]
    have : loads [3] [1, 2, 1] = [3] := by
      unfold loads
      simp [owner_one]
    rw [this]
  have c21 : chk [2, 1] = 8 := chk_val (by decide)
  have c11 : chk [1, 1] = 8 := chk_val (by decide)
  rw [spigotlaw41_alive.F_eq, o7, ob, Owner_nil (u32_lit (by omega) (by omega)), ob, r0, ob, a3, ob]
  show (ring_Loads.F [3] [1, 2, 1]).bind _ = _
  rw [l3, ob, beq_pos rfl, beq_pos rfl, beq_pos rfl, beq_pos rfl, beq_pos (by rfl), beq_pos rfl, beq_pos rfl]
  show (spigotref41_SameInts.F [3] [3]).bind _ = _
  rw [SameInts_F (by simp [maxLen]), ob, decide_eq_true rfl]
  simp only [cond_true]
  rw [Check_F, ob, c21, beq_pos rfl, Check_F, ob, c11]; rfl
theorem asc_filter {l : List Int} (h : Asc l) (p : Int → Bool) : Asc (l.filter p) := pw_asc ((asc_pw h).filter p)
theorem rank_filter {l : List Int} (h : Asc l) (t : Int) (p : Int → Bool) : rank (l.filter p) t = (rank l t).filter p :=
  sorted_eq (R := Bef (key t)) (fun _ => Bef.irr) (fun _ _ h1 h2 => Bef.irr (h1.trans h2)) (rank_sorted (asc_filter h p) t) ((rank_sorted h t).filter p) ((rank_perm _ t).trans ((rank_perm l t).filter p).symm)
/-- A rank is the one order of its hosts by keys. -/
theorem rank_unique {l r : List Int} {t : Int} (h : Asc l) (hp : r.Perm l) (hs : r.Pairwise (Bef (key t))) : rank l t = r :=
  sorted_eq (R := Bef (key t)) (fun _ => Bef.irr) (fun _ _ h1 h2 => Bef.irr (h1.trans h2)) (rank_sorted h t) hs ((rank_perm l t).trans hp.symm)
theorem chk_filter {l : List Int} (h : chk l = 0) (p : Int → Bool) : chk (l.filter p) = 0 := by
  obtain ⟨h1, h2⟩ := chk_zero.1 h
  have := List.length_filter_le p l
  exact chk_zero.2 ⟨by omega, asc_filter h2 p⟩
/- RingRank -/
theorem RR_in {l : List Int} {t at_ : Int} (hl : l.length ≤ 12) : ∀ m k : Nat, k + m = l.length → spigotlaw41_RingRank.L3 l t at_ true (k : Int) (rank l t) = spigotlaw41_RingRank.L5 l t at_ true 1 (rank l t)
  | 0, k, hk => by rw [spigotlaw41_RingRank.L3_eq, bd_neg (by omega)]
  | m + 1, k, hk => by
    have hm : l.getD k 0 ∈ rank l t := (rank_perm l t).mem_iff.2 (getD_mem (by omega))
    have hr := rank_len l t
    rw [spigotlaw41_RingRank.L3_eq, bd_pos (by omega), spigotlaw41_RingRank.L4_eq, bd_pos (by omega), toNat_cast, In_F (by simp only [maxLen]; omega), ob, decide_eq_true hm]
    show spigotlaw41_RingRank.L9 _ _ _ _ _ _ = _
    rw [spigotlaw41_RingRank.L9_eq, W_eq (by omega) (by omega), cast_add1]
    exact RR_in hl m (k + 1) (by omega)
theorem RR_ord {l : List Int} {t at_ : Int} (hc : chk l = 0) (hu : ∀ h ∈ l, U32 h) (ht : U32 t)
    (hfin : (bif decide (at_ < 0) then some (true, ()) else bif decide (at_ ≥ (l.length : Int)) then some (true, ()) else spigotlaw41_RingRank.L7 l t at_ true (rank l t)) = some (true, ())) :
    ∀ m k : Nat, l.length ≤ k + m → 1 ≤ k → k ≤ 13 → spigotlaw41_RingRank.L5 l t at_ true (k : Int) (rank l t) = some (true, ())
  | m, k, hk, h1, h13 => by
    have hr := rank_len l t
    obtain ⟨hl, ha⟩ := chk_zero.1 hc
    rw [spigotlaw41_RingRank.L5_eq]
    by_cases hlt : k < l.length
    · cases m with
      | zero => omega
      | succ m =>
        have ih := RR_ord hc hu ht hfin m (k + 1) (by omega) (by omega) (by omega)
        have ew : IntKind.wrap .i64 ((k : Int) - 1) = ((k - 1 : Nat) : Int) := by rw [W_eq (by omega) (by omega)]; omega
        have um : ∀ i, i < l.length → U32 ((rank l t).getD i 0) := fun i hi => hu _ ((rank_perm l t).mem_iff.1 (getD_mem (by omega)))
        have hB : Bef (key t) ((rank l t).getD (k - 1) 0) ((rank l t).getD k 0) := by
          rw [getD_get (by omega), getD_get (by omega)]
          exact List.pairwise_iff_getElem.1 (rank_sorted ha t) (k - 1) k (by omega) (by omega) (by omega)
        rw [bd_pos (by omega), spigotlaw41_RingRank.L6_eq, ew, bd_pos (by omega), toNat_cast, Score_F (um _ (by omega)) ht, ob, bd_pos (by omega), toNat_cast, Score_F (um _ hlt) ht, ob, bne_neg rfl, bne_neg rfl]
        show (spigotref41_Greater.F (score _ t) (score _ t)).bind _ = _
        rw [Greater_F (score_len (um _ hlt) ht) (score_len (um _ (by omega)) ht) (score_bytes (um _ hlt) ht) (score_bytes (um _ (by omega)) ht), ob]
        have hg : ¬ val (score ((rank l t).getD (k - 1) 0) t) < val (score ((rank l t).getD k 0) t) := by
          unfold Bef key at hB; omega
        rw [decide_eq_false hg]
        show (bif Ty.beq (.arr 32 (.int .u8)) (score _ t) (score _ t) then _ else _) = _
        have h8 : spigotlaw41_RingRank.L8 l t at_ true (k : Int) (rank l t) = some (true, ()) := by
          rw [spigotlaw41_RingRank.L8_eq, W_eq (by omega) (by omega), cast_add1]; exact ih
        rw [beq8]
        by_cases he : score ((rank l t).getD (k - 1) 0) t = score ((rank l t).getD k 0) t
        · have hlt2 : (rank l t).getD (k - 1) 0 < (rank l t).getD k 0 := by
            unfold Bef key at hB; rw [he] at hB; omega
          rw [decide_eq_true he, cond_true, bd_pos (by omega), bd_pos (by omega), bd_neg (by omega), h8]
        · rw [decide_eq_false he, cond_false, h8]
    · rw [bd_neg (by omega)]; exact hfin
theorem RingRank_F {l : List Int} {t at_ : Int} (hu : ∀ h ∈ l, U32 h) (ht : U32 t) : spigotlaw41_RingRank.F l t at_ = some (true, ()) := by
  rw [spigotlaw41_RingRank.F_eq, alive_F, ob, RCheck_F, ob]
  by_cases hc : chk l = 0
  · obtain ⟨hl, ha⟩ := chk_zero.1 hc
    rw [bne_neg hc]
    show spigotlaw41_RingRank.L1 l t at_ true = _
    rw [spigotlaw41_RingRank.L1_eq, Rank_ok hc hu ht, ob, bne_neg rfl, bne_neg (by rw [rank_len])]
    show spigotlaw41_RingRank.L2 l t at_ true (rank l t) = _
    rw [spigotlaw41_RingRank.L2_eq]
    have h0 := RR_in (t := t) (at_ := at_) hl l.length 0 (by omega)
    have h0 : spigotlaw41_RingRank.L3 l t at_ true 0 (rank l t) = _ := h0
    rw [h0]
    have := RR_ord (at_ := at_) hc hu ht ?_ l.length 1 (by omega) (by omega) (by omega)
    · exact this
    · by_cases h1 : at_ < 0
      · rw [bd_pos h1]
      · rw [bd_neg h1]
        by_cases h2 : at_ ≥ (l.length : Int)
        · rw [bd_pos h2]
        · rw [bd_neg h2]
          obtain ⟨i, rfl⟩ : ∃ i : Nat, at_ = (i : Int) := ⟨at_.toNat, by omega⟩
          have hi : i < l.length := by omega
          have hm : l.getD i 0 ∈ l := getD_mem hi
          have hr := rank_len l t
          rw [spigotlaw41_RingRank.L7_eq, bd_pos (by omega), toNat_cast, Drop_ok hc hm, ob]
          show (ring_Rank.F (l.filter (· != l.getD i 0)) t).bind _ = _
          rw [Rank_ok (chk_filter hc _) (fun x hx => hu x ((List.mem_filter.1 hx).1)) ht, ob, cond_true, beq_pos rfl, beq_pos rfl, bd_pos (by omega), Without_F (by omega), ob]
          show (spigotref41_Same.F (rank (l.filter (· != l.getD i 0)) t) ((rank l t).filter (· != l.getD i 0))).bind _ = _
          rw [rank_filter ha, Same_F (by have := List.length_filter_le (· != l.getD i 0) (rank l t); simp only [maxLen]; omega), ob, decide_eq_true rfl]
  · rw [bne_pos hc]
/- RingLoads -/
theorem loads_twice (l T : List Int) : loads l (T ++ T) = (loads l T).map fun x => 2 * x := by
  unfold loads
  rw [List.map_map]
  apply List.map_congr_left
  intro x _
  simp only [List.filter_append, List.length_append, Function.comp_apply]
  omega
/-- The sum of the loads of the first k hosts. -/
noncomputable def sumTo (l T : List Int) (k : Nat) : Int := ((T.filter fun t => decide (owner l t ∈ l.take k)).length : Int)
theorem sumTo_succ {l T : List Int} (ha : Asc l) {k : Nat} (hk : k < l.length) : sumTo l T (k + 1) = sumTo l T k + ((T.filter fun t => decide (owner l t = l.getD k 0)).length : Int) := by
  unfold sumTo
  have hnot : l.getD k 0 ∉ l.take k := fun h => by
    obtain ⟨i, hi, e⟩ := mem_getD h
    rw [List.length_take] at hi
    have h1 : (l.take k).getD i 0 = l.getD i 0 := by rw [getD_get (by rw [List.length_take]; omega), getD_get (by omega), List.getElem_take]
    have := asc_lt ha (show i < k by omega) hk
    omega
  induction T with
  | nil => rfl
  | cons t T ih =>
    rw [← tk_getD (d := 0) hk] at ih ⊢
    by_cases h1 : owner l t = l.getD k 0
    · have h2 : owner l t ∉ l.take k := by rw [h1]; exact hnot
      rw [List.filter_cons_of_pos (by rw [decide_eq_true_iff, List.mem_append]; right; rw [h1]; exact List.mem_singleton.2 rfl), List.filter_cons_of_neg (by rw [decide_eq_true_iff]; exact h2), List.filter_cons_of_pos (by rw [decide_eq_true_iff]; exact h1)]
      simp only [List.length_cons]
      omega
    · by_cases h2 : owner l t ∈ l.take k
      · rw [List.filter_cons_of_pos (by rw [decide_eq_true_iff, List.mem_append]; exact .inl h2), List.filter_cons_of_pos (by rw [decide_eq_true_iff]; exact h2), List.filter_cons_of_neg (by rw [decide_eq_true_iff]; exact h1)]
        simp only [List.length_cons]
        omega
      · rw [List.filter_cons_of_neg (by rw [decide_eq_true_iff, List.mem_append, List.mem_singleton]; exact fun h => h.elim h2 h1), List.filter_cons_of_neg (by rw [decide_eq_true_iff]; exact h2), List.filter_cons_of_neg (by rw [decide_eq_true_iff]; exact h1)]
        exact ih
theorem sumTo_all {l T : List Int} (h0 : l ≠ []) : sumTo l T l.length = (T.length : Int) := by
  unfold sumTo
  rw [List.take_length, List.filter_eq_self.2 (fun t _ => decide_eq_true (owner_mem h0))]
theorem loads_len (l T : List Int) : (loads l T).length = l.length := by unfold loads; rw [List.length_map]
theorem loads_get {l T : List Int} {k : Nat} (hk : k < l.length) : (loads l T).getD k 0 = ((T.filter fun t => decide (owner l t = l.getD k 0)).length : Int) := by
  unfold loads
  rw [getD_get (by rw [List.length_map]; exact hk), List.getElem_map, getD_get hk]
theorem RL_sum {a b T M : List Int} (hc : chk a = 0) (hT : T.length ≤ 7) : ∀ m k : Nat, k + m = a.length →
    spigotlaw41_RingLoads.L3 a b T true (sumTo a T k) (k : Int) (loads a T) (loads a (T ++ T)) M = spigotlaw41_RingLoads.L5 a b T true (sumTo a T a.length) 0 0 M
  | 0, k, hk => by
    obtain rfl : k = a.length := by omega
    rw [spigotlaw41_RingLoads.L3_eq, loads_len, bd_neg (by omega)]
  | m + 1, k, hk => by
    obtain ⟨hl, ha⟩ := chk_zero.1 hc
    have hk' : k < a.length := by omega
    have hf := List.length_filter_le (fun t => decide (owner a t = a.getD k 0)) T
    have hf2 := List.length_filter_le (fun t => decide (owner a t ∈ a.take k)) T
    have e2 : (loads a (T ++ T)).getD k 0 = 2 * (loads a T).getD k 0 := by
      rw [loads_get hk', loads_get hk', List.filter_append, List.length_append]; omega
    rw [spigotlaw41_RingLoads.L3_eq, loads_len, bd_pos (by omega), spigotlaw41_RingLoads.L4_eq, loads_len, loads_len, bd_pos (by omega), bd_pos (by omega), toNat_cast, e2, loads_get hk', bd_neg (by omega), bd_pos (by omega), bd_pos (by omega), W_eq (by omega) (by omega), bne_neg rfl]
    have hs : sumTo a T k = ((T.filter fun t => decide (owner a t ∈ a.take k)).length : Int) := rfl
    rw [W_eq (by omega) (by omega), ← sumTo_succ ha hk', spigotlaw41_RingLoads.L10_eq, W_eq (by omega) (by omega), cast_add1]
    exact RL_sum hc hT m (k + 1) (by omega)
theorem RL_mov {a b T : List Int} (ha : chk a = 0) (hb : chk b = 0) (a0 : a ≠ []) (b0 : b ≠ []) (ua : ∀ h ∈ a, U32 h) (ub : ∀ h ∈ b, U32 h) (uT : ∀ t ∈ T, U32 t) (hT : T.length ≤ 7) : ∀ m k : Nat, k + m = T.length →
    spigotlaw41_RingLoads.L5 a b T true (T.length : Int) ((moved a b (T.take k)).length : Int) (k : Int) (moved a b T) = some (true, ())
  | 0, k, hk => by
    rw [spigotlaw41_RingLoads.L5_eq, bd_neg (by omega), cond_true, beq_pos rfl, List.take_of_length_le (by omega), beq_self_eq_true]
  | m + 1, k, hk => by
    have hk' : k < T.length := by omega
    have ut := uT _ (getD_mem hk')
    have ih := RL_mov ha hb a0 b0 ua ub uT hT m (k + 1) (by omega)
    have e : moved a b (T.take (k + 1)) = moved a b (T.take k) ++ moved a b [T.getD k 0] := by
      rw [← tk_getD (d := 0) hk']; unfold moved; rw [List.filter_append]
    have hle : (moved a b (T.take k)).length ≤ k := by
      have := List.length_filter_le (fun t => decide (owner a t ≠ owner b t)) (T.take k)
      rw [List.length_take] at this
      unfold moved; omega
    have hs : ∀ x, spigotlaw41_RingLoads.L9 a b T true (T.length : Int) x (k : Int) (moved a b T) = spigotlaw41_RingLoads.L5 a b T true (T.length : Int) x ((k + 1 : Nat) : Int) (moved a b T) := fun x => by
      rw [spigotlaw41_RingLoads.L9_eq, W_eq (by omega) (by omega), cast_add1]
    rw [spigotlaw41_RingLoads.L5_eq, bd_pos (by omega), spigotlaw41_RingLoads.L6_eq, bd_pos (by omega), toNat_cast, Owner_ok ha a0 ua ut, ob, bd_pos (by omega), Owner_ok hb b0 ub ut, ob, bne_neg rfl, bne_neg rfl]
    show spigotlaw41_RingLoads.L7 a b T true _ _ _ (owner a (T.getD k 0)) (owner b (T.getD k 0)) _ = _
    rw [spigotlaw41_RingLoads.L7_eq]
    by_cases hp : owner a (T.getD k 0) = owner b (T.getD k 0)
    · have h0 : moved a b [T.getD k 0] = [] := by unfold moved; rw [List.filter_cons_of_neg (by rw [hp]; simp)]; rfl
      rw [bne_neg hp, hs]
      rwa [e, h0, List.append_nil] at ih
    · have h0 : moved a b [T.getD k 0] = [T.getD k 0] := by unfold moved; rw [List.filter_cons_of_pos (p := fun t => decide (owner a t ≠ owner b t)) (decide_eq_true hp)]; rfl
      have hsplit : moved a b T = moved a b (T.take k) ++ (T.getD k 0 :: moved a b (T.drop (k + 1))) := by
        conv => lhs; rw [← List.take_append_drop (k + 1) T]
        unfold moved at e h0 ⊢
        rw [List.filter_append, e, h0, List.append_assoc]; rfl
      have hlen : (moved a b (T.take k)).length < (moved a b T).length := by rw [hsplit, List.length_append, List.length_cons]; omega
      have hg : (moved a b T).getD (moved a b (T.take k)).length 0 = T.getD k 0 := by
        rw [hsplit, List.getD, List.getElem?_append_right (Nat.le_refl _), Nat.sub_self]; rfl
      rw [bne_pos hp, bd_neg (by omega), bd_pos (by omega), bd_pos (by omega), toNat_cast, toNat_cast, hg, bne_neg rfl, spigotlaw41_RingLoads.L8_eq, hs, W_eq (by omega) (by omega)]
      rw [e, h0, List.length_append] at ih
      exact ih
theorem routedV_ok {l T : List Int} (h0 : l ≠ []) (h : T.length ≤ 100) : routedV l T = 0 := by
  unfold routedV
  rw [if_neg (by omega), if_neg (fun h => h0 (List.length_eq_zero_iff.1 h.2))]
theorem RingLoads_F {a b T : List Int} (ua : ∀ h ∈ a, U32 h) (ub : ∀ h ∈ b, U32 h) (uT : ∀ t ∈ T, U32 t) : spigotlaw41_RingLoads.F a b T = some (true, ()) := by
  rw [spigotlaw41_RingLoads.F_eq, alive_F, ob, RCheck_F, ob]
  by_cases ha : chk a = 0
  · rw [bne_neg ha, RCheck_F, ob]
    by_cases hb : chk b = 0
    · rw [bne_neg hb]
      by_cases a0 : a = []
      · rw [a0, beq_pos (by rfl)]
      · rw [beq_neg (by have := List.length_pos_iff.2 a0; omega)]
        by_cases b0 : b = []
        · rw [b0, beq_pos (by rfl)]
        · rw [beq_neg (by have := List.length_pos_iff.2 b0; omega)]
          by_cases hT : T.length > 7
          · rw [bd_pos (by omega)]
          · rw [bd_neg (by omega)]
            show spigotlaw41_RingLoads.L1 a b T true = _
            have uTT : ∀ t ∈ T ++ T, U32 t := fun t ht => (List.mem_append.1 ht).elim (uT t) (uT t)
            rw [spigotlaw41_RingLoads.L1_eq, Loads_ok ha (routedV_ok a0 (by omega)) ua uT, ob, List.nil_append, lim_ok_small (by decide) (by simp only [List.length_nil]; omega), lim_ok_small (by decide) (by omega),
              Loads_ok ha (routedV_ok a0 (by rw [List.length_append]; omega)) ua uTT, ob, Moved_ok ha hb (routedV_ok a0 (by omega)) (routedV_ok b0 (by omega)) ua ub uT, ob, bne_neg rfl, bne_neg rfl, bne_neg rfl, bne_neg (by rw [loads_len]), bne_neg (by rw [loads_len])]
            show spigotlaw41_RingLoads.L2 a b T true (loads a T) (loads a (T ++ T)) (moved a b T) = _
            rw [spigotlaw41_RingLoads.L2_eq]
            have h1 := RL_sum (b := b) (M := moved a b T) ha (show T.length ≤ 7 by omega) a.length 0 (by omega)
            have z : sumTo a T 0 = 0 := by unfold sumTo; simp
            rw [z] at h1
            have h1 : spigotlaw41_RingLoads.L3 a b T true 0 0 _ _ _ = _ := h1
            rw [h1, sumTo_all a0]
            exact RL_mov ha hb a0 b0 ua ub uT (by omega) T.length 0 (by omega)
    · rw [bne_pos hb]
  · rw [bne_pos ha]
/- RingFew -/
theorem addTo_mem {l : List Int} {h x : Int} (hm : h ∉ l) : x ∈ addTo l h ↔ x = h ∨ x ∈ l := by
  unfold addTo
  simp only [List.mem_append, List.mem_cons, List.mem_filter, decide_eq_true_eq]
  constructor
  · rintro (h1 | h1 | h1)
    · exact .inr h1.1
    · exact .inl h1
    · exact .inr h1.1
  · rintro (rfl | h1)
    · exact .inr (.inl rfl)
    · rcases Int.lt_trichotomy x h with c | c | c
      · exact .inl ⟨h1, c⟩
      · subst c; exact absurd h1 hm
      · exact .inr (.inr ⟨h1, c⟩)
theorem addTo_pw {l : List Int} {h : Int} (ha : l.Pairwise (· < ·)) : (addTo l h).Pairwise (· < ·) := by
  unfold addTo
  rw [List.pairwise_append]
  refine ⟨ha.filter _, List.pairwise_cons.2 ⟨fun y hy => of_decide_eq_true (List.mem_filter.1 hy).2, ha.filter _⟩, fun y hy z hz => ?_⟩
  have h1 := of_decide_eq_true (List.mem_filter.1 hy).2
  rcases List.mem_cons.1 hz with rfl | hz
  · exact h1
  · have h2 := of_decide_eq_true (List.mem_filter.1 hz).2
    omega
theorem addTo_drop {l : List Int} {h : Int} (ha : Asc l) (hm : h ∉ l) : (addTo l h).filter (· != h) = l := by
  refine sorted_eq (R := (· < ·)) (fun a => by omega) (fun a b => by omega) ((addTo_pw (asc_pw ha)).filter _) (asc_pw ha) ?_
  have nd : ∀ {m : List Int}, m.Pairwise (· < ·) → m.Nodup := fun hp => hp.imp (fun h => by omega)
  refine (List.perm_ext_iff_of_nodup (nd ((addTo_pw (asc_pw ha)).filter _)) (nd (asc_pw ha))).2 (fun x => ?_)
  rw [List.mem_filter, addTo_mem hm, bne_iff_ne]
  constructor
  · rintro ⟨h1 | h1, h2⟩
    · exact absurd h1 h2
    · exact h1
  · intro h1
    exact ⟨.inr h1, fun e => hm (e ▸ h1)⟩
theorem addTo_len {l : List Int} {h : Int} (ha : Asc l) (hm : h ∉ l) : (addTo l h).length = l.length + 1 := by
  have e := congrArg List.length (addTo_drop ha hm)
  have nd : (addTo l h).Nodup := (addTo_pw (asc_pw ha)).imp (fun h => by omega)
  have : ((addTo l h).filter (· != h)).length + 1 = (addTo l h).length := by
    unfold addTo
    rw [List.filter_append, List.filter_cons_of_neg (by simp)]
    have f1 : (l.filter (fun x => decide (x < h))).filter (· != h) = l.filter (fun x => decide (x < h)) := List.filter_eq_self.2 (fun x hx => by
      have := of_decide_eq_true (List.mem_filter.1 hx).2
      rw [bne_iff_ne]; omega)
    have f2 : (l.filter (fun x => decide (h < x))).filter (· != h) = l.filter (fun x => decide (h < x)) := List.filter_eq_self.2 (fun x hx => by
      have := of_decide_eq_true (List.mem_filter.1 hx).2
      rw [bne_iff_ne]; omega)
    rw [f1, f2]
    simp only [List.length_append, List.length_cons]
    omega
  omega
/-- A new host takes a tenant, or nothing changes for it. -/
theorem owner_add {l : List Int} {h t : Int} (hc : chk l = 0) (hm : h ∉ l) : owner (addTo l h) t = h ∨ owner (addTo l h) t = owner l t := by
  obtain ⟨_, ha⟩ := chk_zero.1 hc
  have hA : Asc (addTo l h) := pw_asc (addTo_pw (asc_pw ha))
  have hf := rank_filter hA t (· != h)
  rw [addTo_drop ha hm] at hf
  unfold owner
  cases hr : rank (addTo l h) t with
  | nil =>
    have h1 := rank_len (addTo l h) t
    rw [hr, addTo_len ha hm] at h1; simp at h1
  | cons x r =>
    by_cases hx : x = h
    · exact .inl hx
    · right
      rw [hf, hr, List.filter_cons_of_pos (p := (· != h)) (bne_iff_ne.2 hx)]; rfl
theorem RF_loop {l T : List Int} {h : Int} (hc : chk l = 0) (l0 : l ≠ []) (hm : h ∉ l) (hl : l.length < 12) (hc2 : chk (addTo l h) = 0) (ul : ∀ x ∈ l, U32 x) (uh : U32 h) (uT : ∀ t ∈ T, U32 t) (hT : T.length ≤ 15) : ∀ m k : Nat, k + m = T.length →
    spigotlaw41_RingFew.L4 l h T true (k : Int) (addTo l h) (moved l (addTo l h) T) (moved l (addTo l h) (T.take k)) = some (true, ())
  | 0, k, hk => by
    have hle := List.length_filter_le (fun t => decide (owner l t ≠ owner (addTo l h) t)) T
    rw [spigotlaw41_RingFew.L4_eq, bd_neg (by omega), cond_true, List.take_of_length_le (by omega), Same_F (by unfold moved; simp only [maxLen]; omega), ob, decide_eq_true rfl]
  | m + 1, k, hk => by
    have hk' : k < T.length := by omega
    have ut := uT _ (getD_mem hk')
    have a0 : addTo l h ≠ [] := fun e => by
      have := addTo_len (chk_zero.1 hc).2 hm
      rw [e] at this; simp at this
    have ua : ∀ x ∈ addTo l h, U32 x := fun x hx => by
      rcases (addTo_mem hm).1 hx with rfl | hx
      · exact uh
      · exact ul x hx
    have ih := RF_loop hc l0 hm hl hc2 ul uh uT hT m (k + 1) (by omega)
    have e : moved l (addTo l h) (T.take (k + 1)) = moved l (addTo l h) (T.take k) ++ moved l (addTo l h) [T.getD k 0] := by
      rw [← tk_getD (d := 0) hk']; unfold moved; rw [List.filter_append]
    have hle : (moved l (addTo l h) (T.take k)).length ≤ k := by
      have := List.length_filter_le (fun t => decide (owner l t ≠ owner (addTo l h) t)) (T.take k)
      rw [List.length_take] at this
      unfold moved; omega
    have hs : ∀ x, spigotlaw41_RingFew.L7 l h T true (k : Int) (addTo l h) (moved l (addTo l h) T) x = spigotlaw41_RingFew.L4 l h T true ((k + 1 : Nat) : Int) (addTo l h) (moved l (addTo l h) T) x := fun x => by
      rw [spigotlaw41_RingFew.L7_eq, W_eq (by omega) (by omega), cast_add1]
    have hom : owner l (T.getD k 0) ∈ l := owner_mem l0
    rw [spigotlaw41_RingFew.L4_eq, bd_pos (by omega), spigotlaw41_RingFew.L5_eq, bd_pos (by omega), toNat_cast, Owner_ok hc l0 ul ut, ob, bd_pos (by omega), Owner_ok hc2 a0 ua ut, ob, bne_neg rfl, bne_neg rfl]
    show (bif owner (addTo l h) (T.getD k 0) != owner l (T.getD k 0) then (bif owner (addTo l h) (T.getD k 0) != h then _ else spigotlaw41_RingFew.L6 _ _ _ _ _ (owner (addTo l h) (T.getD k 0)) _ _ _) else spigotlaw41_RingFew.L6 _ _ _ _ _ (owner (addTo l h) (T.getD k 0)) _ _ _) = _
    by_cases hh : owner (addTo l h) (T.getD k 0) = h
    · have hne : owner (addTo l h) (T.getD k 0) ≠ owner l (T.getD k 0) := fun e => hm (by rw [← hh, e]; exact hom)
      have h0 : moved l (addTo l h) [T.getD k 0] = [T.getD k 0] := by
        unfold moved; rw [List.filter_cons_of_pos (p := fun t => decide (owner l t ≠ owner (addTo l h) t)) (decide_eq_true (fun e => hne e.symm))]; rfl
      rw [bne_pos hne, bne_neg hh, spigotlaw41_RingFew.L6_eq, beq_pos hh, bd_pos (by omega), toNat_cast, lim_ok_small (by decide) (by simp only [List.length_cons, List.length_nil]; omega), hs]
      rwa [e, h0] at ih
    · have he : owner (addTo l h) (T.getD k 0) = owner l (T.getD k 0) := (owner_add hc hm).resolve_left hh
      have h0 : moved l (addTo l h) [T.getD k 0] = [] := by unfold moved; rw [List.filter_cons_of_neg (by rw [he]; simp)]; rfl
      rw [bne_neg he, spigotlaw41_RingFew.L6_eq, beq_neg hh, hs]
      rwa [e, h0, List.append_nil] at ih
theorem moved_comm (a b T : List Int) : moved a b T = moved b a T := by
  unfold moved
  apply List.filter_congr
  intro t _
  simp only [ne_eq, eq_comm]
theorem RingFew_F {l T : List Int} {h : Int} (ul : ∀ x ∈ l, U32 x) (uh : U32 h) (uT : ∀ t ∈ T, U32 t) : spigotlaw41_RingFew.F l h T = some (true, ()) := by
  rw [spigotlaw41_RingFew.F_eq, alive_F, ob, RCheck_F, ob]
  by_cases hc : chk l = 0
  · obtain ⟨hl12, ha⟩ := chk_zero.1 hc
    rw [bne_neg hc]
    by_cases hl : l.length > 11
    · rw [bd_pos (by omega)]
    · rw [bd_neg (by omega)]
      by_cases l0 : l = []
      · rw [l0, beq_pos (by rfl)]
      · have lp := List.length_pos_iff.2 l0
        rw [beq_neg (by omega), In_F (by simp only [maxLen]; omega), ob]
        by_cases hm : h ∈ l
        · rw [decide_eq_true hm]; rfl
        · rw [decide_eq_false hm]
          show (bif decide ((T.length : Int) > 15) then _ else _) = _
          by_cases hT : T.length > 15
          · rw [bd_pos (by omega)]
          · rw [bd_neg (by omega)]
            show spigotlaw41_RingFew.L1 l h T true = _
            have hc2 : chk (addTo l h) = 0 := chk_zero.2 ⟨by rw [addTo_len ha hm]; omega, pw_asc (addTo_pw (asc_pw ha))⟩
            have a0 : addTo l h ≠ [] := fun e => by
              have := addTo_len ha hm
              rw [e] at this; simp at this
            have ua : ∀ x ∈ addTo l h, U32 x := fun x hx => by
              rcases (addTo_mem hm).1 hx with rfl | hx
              · exact uh
              · exact ul x hx
            have hle := List.length_filter_le (fun t => decide (owner l t ≠ owner (addTo l h) t)) T
            rw [spigotlaw41_RingFew.L1_eq, Add_ok hc hm (by omega), ob, bne_neg rfl]
            show (spigotref41_Check.F (addTo l h)).bind _ = _
            rw [RCheck_F, ob, bne_neg hc2, W_eq (by omega) (by omega), bne_neg (by rw [addTo_len ha hm]; omega)]
            show spigotlaw41_RingFew.L2 l h T true (addTo l h) = _
            rw [spigotlaw41_RingFew.L2_eq, Moved_ok hc hc2 (routedV_ok l0 (by omega)) (routedV_ok a0 (by omega)) ul ua uT, ob, Moved_ok hc2 hc (routedV_ok a0 (by omega)) (routedV_ok l0 (by omega)) ua ul uT, ob, Drop_ok hc2 ((addTo_mem hm).2 (.inl rfl)), ob, bne_neg rfl, bne_neg rfl]
            show (spigotref41_Same.F (moved l (addTo l h) T) (moved (addTo l h) l T)).bind _ = _
            rw [moved_comm (addTo l h) l, Same_F (by unfold moved; simp only [maxLen]; omega), ob, decide_eq_true rfl]
            show (bif ((0 : Int) != 0) then _ else (spigotref41_Same.F ((addTo l h).filter (· != h)) l).bind _) = _
            rw [bne_neg rfl, addTo_drop ha hm, Same_F (by simp only [maxLen]; omega), ob, decide_eq_true rfl]
            show spigotlaw41_RingFew.L3 l h T true (addTo l h) (moved l (addTo l h) T) = _
            rw [spigotlaw41_RingFew.L3_eq]
            exact RF_loop hc l0 hm (by omega) hc2 ul uh uT (by omega) T.length 0 (by omega)
  · rw [bne_pos hc]
end Go.Proofs.YteiekaboepdaeaaDoor.RP
