/- What In, Without, Greater, BinarySearch, Index, Add, Drop, Moved and Loads answer. -/
import Derived.Test.YteiekaboepdaeaaDoorRingP3
namespace Go.Proofs.YteiekaboepdaeaaDoor.RP
set_option linter.unusedSimpArgs false
set_option linter.unusedVariables false
open Go Go.Proofs Go.Proofs.YteiekaboepdaeaaDoor.PM
theorem getD_mem {l : List Int} {i : Nat} (h : i < l.length) : l.getD i 0 ∈ l := by rw [getD_get h]; exact List.getElem_mem _
theorem In_loop {l : List Int} {n : Int} (hm : l.length ≤ maxLen) : ∀ m k : Nat, k + m = l.length → n ∉ l.take k → spigotref41_In.L1 l n (k : Int) = some (decide (n ∈ l), ())
  | 0, k, hk, h => by
    rw [List.take_of_length_le (by omega)] at h
    rw [spigotref41_In.L1_eq, bd_neg (by omega)]; simp [h]
  | m + 1, k, hk, h => by
    simp only [maxLen] at hm
    rw [spigotref41_In.L1_eq, bd_pos (by omega), spigotref41_In.L2_eq, bd_pos (by omega), toNat_cast]
    by_cases hp : l.getD k 0 = n
    · rw [beq_pos hp]
      have : n ∈ l := hp ▸ getD_mem (by omega)
      simp [this]
    · rw [beq_neg hp, spigotref41_In.L3_eq, W_eq (by omega) (by omega), cast_add1]
      refine In_loop (by simpa [maxLen] using hm) m (k + 1) (by omega) ?_
      rw [← tk_getD (d := 0) (by omega : k < l.length), List.mem_append, List.mem_singleton]
      exact fun e => e.elim h (fun e => hp e.symm)
theorem In_F {l : List Int} {n : Int} (hm : l.length ≤ maxLen) : spigotref41_In.F l n = some (decide (n ∈ l), ()) := by
  rw [spigotref41_In.F_eq]
  exact In_loop hm l.length 0 (by omega) (by simp)
theorem Without_loop {l : List Int} {h : Int} (hm : l.length ≤ 100000000) : ∀ m k : Nat, k + m = l.length → spigotref41_Without.L1 l h (k : Int) ((l.take k).filter (· != h)) = some (l.filter (· != h), ())
  | 0, k, hk => by
    rw [List.take_of_length_le (by omega), spigotref41_Without.L1_eq, bd_neg (by omega)]
  | m + 1, k, hk => by
    have ih := Without_loop (h := h) hm m (k + 1) (by omega)
    rw [← tk_getD (d := 0) (by omega : k < l.length), List.filter_append] at ih
    rw [spigotref41_Without.L1_eq, bd_pos (by omega), spigotref41_Without.L2_eq, bd_pos (by omega), toNat_cast]
    have hs : ∀ a, spigotref41_Without.L3 l h (k : Int) a = spigotref41_Without.L1 l h ((k + 1 : Nat) : Int) a := fun a => by
      rw [spigotref41_Without.L3_eq, W_eq (by omega) (by omega), cast_add1]
    by_cases hp : l.getD k 0 = h
    · rw [bne_neg hp, hs]
      rw [List.filter_cons_of_neg (by rw [hp]; simp)] at ih
      simpa using ih
    · have hlen := List.length_filter_le (· != h) (l.take k)
      rw [List.length_take] at hlen
      rw [bne_pos hp, bd_pos (by omega), lim_ok_small (by decide) (by simp only [List.length_cons, List.length_nil]; omega), hs]
      rw [List.filter_cons_of_pos (p := fun x => x != h) (bne_iff_ne.2 hp)] at ih
      simpa using ih
theorem Without_F {l : List Int} {h : Int} (hm : l.length ≤ 100000000) : spigotref41_Without.F l h = some (l.filter (· != h), ()) := by
  rw [spigotref41_Without.F_eq]
  exact Without_loop hm l.length 0 (by omega)
/-- One behind the other, from a place on. -/
theorem Greater_loop : ∀ (m k : Nat) (a b : List Int), k + m = 32 → a.length = 32 → b.length = 32 → Bytes a → Bytes b → a.take k = b.take k → spigotref41_Greater.L1 (k : Int) a b = some (decide (val b < val a), ())
  | 0, k, a, b, hk, la, lb, ha, hb, h => by
    rw [List.take_of_length_le (by omega), List.take_of_length_le (by omega)] at h
    subst h
    rw [spigotref41_Greater.L1_eq, bd_neg (by omega)]; simp
  | m + 1, k, a, b, hk, la, lb, ha, hb, h => by
    rw [spigotref41_Greater.L1_eq, bd_pos (by omega), spigotref41_Greater.L2_eq, bd_pos (by omega), bd_pos (by omega), toNat_cast]
    by_cases hp : a.getD k 0 = b.getD k 0
    · rw [bne_neg hp, spigotref41_Greater.L3_eq, W_eq (by omega) (by omega), cast_add1]
      refine Greater_loop m (k + 1) a b (by omega) la lb ha hb ?_
      rw [← tk_getD (d := 0) (by omega : k < a.length), ← tk_getD (d := 0) (by omega : k < b.length), h, hp]
    · rw [bne_pos hp, bd_pos (by omega), bd_pos (by omega)]
      have split : ∀ l : List Int, l.length = 32 → Bytes l → ∃ r, l = l.take k ++ l.getD k 0 :: r ∧ r.length = m ∧ Bytes r ∧ 0 ≤ l.getD k 0 ∧ l.getD k 0 < 256 := fun l hl hB => by
        refine ⟨l.drop (k + 1), ?_, by rw [List.length_drop]; omega, fun x hx => hB x (List.mem_of_mem_drop hx), (hB _ (getD_mem (by omega))).1, (hB _ (getD_mem (by omega))).2⟩
        rw [getD_get (by omega), List.getElem_cons_drop, List.take_append_drop]
      obtain ⟨ra, ea, la', Ba, a1, a2⟩ := split a la ha
      obtain ⟨rb, eb, lb', Bb, b1, b2⟩ := split b lb hb
      have vapp : ∀ (p q r : List Int), q.length = r.length → (val (p ++ q) < val (p ++ r) ↔ val q < val r) := fun p q r hqr => by
        induction p with
        | nil => rfl
        | cons x p ih =>
          show x * 256 ^ (p ++ q).length + val (p ++ q) < x * 256 ^ (p ++ r).length + val (p ++ r) ↔ _
          rw [show (p ++ q).length = (p ++ r).length by simp [hqr]]
          omega
      have hv : (val b < val a ↔ b.getD k 0 < a.getD k 0) := by
        have e1 : val b < val a ↔ val (b.getD k 0 :: rb) < val (a.getD k 0 :: ra) := by
          conv => lhs; rw [eb, ea]
          rw [h]
          have := vapp (b.take k) (b.getD k 0 :: rb) (a.getD k 0 :: ra) (by simp [la', lb'])
          simpa [getD_get, h] using this
        rw [e1]
        have c := (cmpB_val (b.getD k 0 :: rb) (a.getD k 0 :: ra) (fun x hx => by
          rcases List.mem_cons.1 hx with rfl | hx
          · exact ⟨b1, b2⟩
          · exact Bb x hx) (fun x hx => by
          rcases List.mem_cons.1 hx with rfl | hx
          · exact ⟨a1, a2⟩
          · exact Ba x hx) (by simp [la', lb'])).1
        rw [← c]
        have ex : (b.getD k 0).toNat % 256 = (b.getD k 0).toNat := by omega
        have ey : (a.getD k 0).toNat % 256 = (a.getD k 0).toNat := by omega
        unfold cmpB
        rw [ex, ey]
        clear ex ey e1 c
        generalize a.getD k 0 = xa at *
        generalize b.getD k 0 = xb at *
        by_cases c1 : xb < xa
        · rw [show Nat.blt xb.toNat xa.toNat = true by rw [Nat.blt_eq]; omega]
          simp [c1]
        · rw [show Nat.blt xb.toNat xa.toNat = false by rw [← Bool.not_eq_true, Nat.blt_eq]; omega, show Nat.blt xa.toNat xb.toNat = true by rw [Nat.blt_eq]; omega]
          simp [c1]
      have : decide (val b < val a) = decide (a.getD k 0 > b.getD k 0) := by
        rw [decide_eq_decide]; exact hv
      rw [this]
theorem Greater_F {a b : List Int} (la : a.length = 32) (lb : b.length = 32) (ha : Bytes a) (hb : Bytes b) : spigotref41_Greater.F a b = some (decide (val b < val a), ()) := by
  rw [spigotref41_Greater.F_eq]
  exact Greater_loop 32 0 a b rfl la lb ha hb rfl
theorem asc_lt {l : List Int} (h : Asc l) {i j : Nat} (hij : i < j) (hj : j < l.length) : l.getD i 0 < l.getD j 0 := by
  rw [getD_get (by omega), getD_get hj]
  exact List.pairwise_iff_getElem.1 (asc_pw h) i j (by omega) hj hij
theorem mem_getD {l : List Int} {x : Int} (h : x ∈ l) : ∃ i, i < l.length ∧ l.getD i 0 = x := by
  obtain ⟨i, hi, rfl⟩ := List.getElem_of_mem h
  exact ⟨i, hi, getD_get hi⟩
theorem mid_eq {i j : Nat} (h : i + j ≤ 1000000000000000) : IntKind.wrap .i64 (Int.fdiv (IntKind.wrap .u64 (IntKind.wrap .i64 ((i : Int) + (j : Int)))) (2 ^ min (Int.toNat 1) (IntKind.bits .u64))) = (((i + j) / 2 : Nat) : Int) := by
  have e0 : IntKind.wrap .i64 ((i : Int) + (j : Int)) = (i : Int) + (j : Int) := W_eq (by omega) (by omega)
  rw [e0]
  have e1 : IntKind.wrap .u64 ((i : Int) + (j : Int)) = (i : Int) + (j : Int) := by
    simp [IntKind.wrap, IntKind.min, IntKind.max, IntKind.signed, IntKind.bits]; omega
  have e2 : (2 : Int) ^ min (Int.toNat 1) (IntKind.bits .u64) = 2 := rfl
  rw [e1, e2]
  have e3 : Int.fdiv ((i : Int) + (j : Int)) 2 = (((i + j) / 2 : Nat) : Int) := by
    rw [Int.fdiv_eq_ediv_of_nonneg _ (by omega)]; omega
  rw [e3, W_eq (by omega) (by omega)]
theorem BS_loop {l : List Int} (ha : Asc l) (hl : l.length ≤ 140737488351232) (h : Int) : ∀ m i j : Nat, j - i ≤ m → i ≤ j → j ≤ l.length → (∀ x, x < i → l.getD x 0 < h) → (∀ x, j ≤ x → x < l.length → h ≤ l.getD x 0) →
    ∃ k : Nat, k ≤ l.length ∧ (∀ x, x < k → l.getD x 0 < h) ∧ (∀ x, k ≤ x → x < l.length → h ≤ l.getD x 0) ∧ slices_BinarySearch.L1 l h (l.length : Int) (i : Int) (j : Int) = some ((k : Int), decide (h ∈ l), ())
  | m, i, j, hm, hij, hj, h1, h2 => by
    by_cases hlt : i < j
    · cases m with
      | zero => omega
      | succ m =>
        have hmid : (i + j) / 2 < l.length := by omega
        rw [slices_BinarySearch.L1_eq, bd_pos (by omega), slices_BinarySearch.L2_eq, bd_pos (by omega), mid_eq (by omega), bd_pos (by omega), toNat_cast, cmp_Less.F_eq, cmp_isNaN.F_eq, ob, bne_self_eq_false]
        simp only [cond_false]
        rw [ob]
        by_cases hp : l.getD ((i + j) / 2) 0 < h
        · rw [bd_pos hp, slices_BinarySearch.L3_eq, W_eq (by omega) (by omega), cast_add1]
          exact BS_loop ha hl h m ((i + j) / 2 + 1) j (by omega) (by omega) hj (fun x hx => by
            by_cases e : x = (i + j) / 2
            · rw [e]; exact hp
            · exact Int.lt_trans (asc_lt ha (by omega) hmid) hp) h2
        · rw [bd_neg hp, slices_BinarySearch.L3_eq]
          exact BS_loop ha hl h m i ((i + j) / 2) (by omega) (by omega) (by omega) h1 (fun x hx hx2 => by
            by_cases e : x = (i + j) / 2
            · rw [e]; omega
            · have := asc_lt ha (show (i + j) / 2 < x by omega) hx2
              omega)
    · obtain rfl : i = j := by omega
      refine ⟨i, hj, h1, h2, ?_⟩
      rw [slices_BinarySearch.L1_eq, bd_neg (by omega)]
      by_cases hn : i < l.length
      · rw [bd_pos (by omega), bd_pos (by omega), toNat_cast]
        by_cases hp : l.getD i 0 = h
        · rw [beq_pos hp]
          have : h ∈ l := hp ▸ getD_mem hn
          simp [this]
        · rw [beq_neg hp, bd_pos (by omega), slices_isNaN.F_eq, ob, bne_self_eq_false]
          have : h ∉ l := fun hm => by
            obtain ⟨x, hx, e⟩ := mem_getD hm
            rcases Nat.lt_trichotomy x i with c | c | c
            · have := h1 x c; omega
            · subst c; exact hp e
            · have := asc_lt ha c hx
              have := h2 i (Nat.le_refl _) hn
              omega
          simp [this]
      · rw [bd_neg (by omega)]
        have : h ∉ l := fun hm => by
          obtain ⟨x, hx, e⟩ := mem_getD hm
          have := h1 x (by omega); omega
        simp [this]
theorem BS_F {l : List Int} (ha : Asc l) (hl : l.length ≤ 140737488351232) (h : Int) :
    ∃ k : Nat, k ≤ l.length ∧ (∀ x, x < k → l.getD x 0 < h) ∧ (∀ x, k ≤ x → x < l.length → h ≤ l.getD x 0) ∧ slices_BinarySearch.F l h = some ((k : Int), decide (h ∈ l), ()) := by
  rw [slices_BinarySearch.F_eq]
  exact BS_loop ha hl h l.length 0 l.length (by omega) (by omega) (Nat.le_refl _) (fun x hx => by omega) (fun x h1 h2 => by omega)
theorem filter_split {l : List Int} {k : Nat} {p q : Int → Bool} (h1 : ∀ x, x < k → x < l.length → p (l.getD x 0) = true) (h2 : ∀ x, k ≤ x → x < l.length → p (l.getD x 0) = false) : l.filter p = l.take k := by
  conv => lhs; rw [← List.take_append_drop k l]
  rw [List.filter_append, List.filter_eq_self.2 (fun y hy => by
    obtain ⟨i, hi, rfl⟩ := List.getElem_of_mem hy
    rw [List.length_take] at hi
    have := h1 i (by omega) (by omega)
    rw [getD_get (by omega)] at this
    rwa [List.getElem_take]), List.filter_eq_nil_iff.2 (fun y hy => by
    obtain ⟨i, hi, rfl⟩ := List.getElem_of_mem hy
    rw [List.length_drop] at hi
    have := h2 (k + i) (by omega) (by omega)
    rw [getD_get (by omega)] at this
    rw [List.getElem_drop, this]; simp), List.append_nil]
theorem filter_split2 {l : List Int} {k : Nat} {p : Int → Bool} (h1 : ∀ x, x < k → x < l.length → p (l.getD x 0) = false) (h2 : ∀ x, k ≤ x → x < l.length → p (l.getD x 0) = true) : l.filter p = l.drop k := by
  conv => lhs; rw [← List.take_append_drop k l]
  rw [List.filter_append, List.filter_eq_nil_iff.2 (fun y hy => by
    obtain ⟨i, hi, rfl⟩ := List.getElem_of_mem hy
    rw [List.length_take] at hi
    have := h1 i (by omega) (by omega)
    rw [getD_get (by omega)] at this
    rw [List.getElem_take, this]; simp), List.filter_eq_self.2 (fun y hy => by
    obtain ⟨i, hi, rfl⟩ := List.getElem_of_mem hy
    rw [List.length_drop] at hi
    have := h2 (k + i) (by omega) (by omega)
    rw [getD_get (by omega)] at this
    rwa [List.getElem_drop]), List.nil_append]
/-- A list with one more, where it belongs. -/
def addTo (l : List Int) (h : Int) : List Int := l.filter (fun x => decide (x < h)) ++ h :: l.filter (fun x => decide (h < x))
theorem Add_ok {l : List Int} {h : Int} (hc : chk l = 0) (hm : h ∉ l) (hl : l.length < 12) : ring_Add.F l h = some (addTo l h, 0, ()) := by
  have ha := (chk_zero.1 hc).2
  obtain ⟨k, k1, k2, k3, k4⟩ := BS_F ha (by omega) h
  have k3' : ∀ x, k ≤ x → x < l.length → h < l.getD x 0 := fun x h1 h2 => by
    have := k3 x h1 h2
    have : l.getD x 0 ≠ h := fun e => hm (e ▸ getD_mem h2)
    omega
  rw [ring_Add.F_eq, Check_F, ob, hc, bne_neg rfl, ring_Add.L1_eq, k4, ob]
  simp only [hm, decide_false, cond_false]
  rw [ring_Add.L2_eq, bd_neg (by omega), ring_Add.L3_eq, lim_ok_small (by decide) (by omega), lim_ok (by simp [Ty.bytes]; omega), Bool.and_true, bd_pos (by omega), toNat_cast]
  have e1 : l.filter (fun x => decide (x < h)) = l.take k := filter_split (q := fun _ => true) (fun x h1 _ => decide_eq_true (k2 x h1)) (fun x h1 h2 => decide_eq_false (by have := k3 x h1 h2; omega))
  have e2 : l.filter (fun x => decide (h < x)) = l.drop k := filter_split2 (fun x h1 _ => decide_eq_false (by have := k2 x h1; omega)) (fun x h1 h2 => decide_eq_true (k3' x h1 h2))
  unfold addTo
  rw [e1, e2, List.append_assoc]; rfl
theorem Add_twice {l : List Int} {h : Int} (hc : chk l = 0) (hm : h ∈ l) : ring_Add.F l h = some ([], 14, ()) := by
  have ha := chk_zero.1 hc
  obtain ⟨k, k1, k2, k3, k4⟩ := BS_F ha.2 (by omega) h
  rw [ring_Add.F_eq, Check_F, ob, hc, bne_neg rfl, ring_Add.L1_eq, k4, ob]
  simp [hm]
theorem Add_many {l : List Int} {h : Int} (hc : chk l = 0) (hm : h ∉ l) (hl : 12 ≤ l.length) : ring_Add.F l h = some ([], 4, ()) := by
  have ha := chk_zero.1 hc
  obtain ⟨k, k1, k2, k3, k4⟩ := BS_F ha.2 (by omega) h
  rw [ring_Add.F_eq, Check_F, ob, hc, bne_neg rfl, ring_Add.L1_eq, k4, ob]
  simp only [hm, decide_false, cond_false]
  rw [ring_Add.L2_eq, bd_pos (by omega)]
theorem Add_bad {l : List Int} {h : Int} (hc : chk l ≠ 0) : ring_Add.F l h = some ([], chk l, ()) := by
  rw [ring_Add.F_eq, Check_F, ob, bne_pos hc]
theorem Drop_ok {l : List Int} {h : Int} (hc : chk l = 0) (hm : h ∈ l) : ring_Drop.F l h = some (l.filter (· != h), 0, ()) := by
  have ha := chk_zero.1 hc
  obtain ⟨k, k1, k2, k3, k4⟩ := BS_F ha.2 (by omega) h
  have hk : k < l.length ∧ l.getD k 0 = h := by
    obtain ⟨x, hx, e⟩ := mem_getD hm
    rcases Nat.lt_trichotomy x k with c | c | c
    · have := k2 x c; omega
    · subst c; exact ⟨hx, e⟩
    · have := asc_lt ha.2 c hx
      have := k3 k (Nat.le_refl _) (by omega)
      omega
  rw [ring_Drop.F_eq, Check_F, ob, hc, bne_neg rfl, ring_Drop.L1_eq, k4, ob]
  simp only [hm, decide_true, Bool.not_true, cond_false]
  rw [ring_Drop.L2_eq, lim_ok_small (by decide) (by omega), W_eq (by omega) (by omega), cast_add1, bd_pos (by omega), toNat_cast, toNat_cast]
  have e : l.filter (· != h) = l.take k ++ l.drop (k + 1) := by
    have h0 : l = l.take k ++ l.getD k 0 :: l.drop (k + 1) := by rw [getD_get hk.1, List.getElem_cons_drop, List.take_append_drop]
    conv => lhs; rw [h0]
    rw [List.filter_append, List.filter_cons_of_neg (by rw [hk.2]; simp), List.filter_eq_self.2 (fun y hy => by
      obtain ⟨i, hi, rfl⟩ := List.getElem_of_mem hy
      rw [List.length_take] at hi
      have := k2 i (by omega)
      rw [getD_get (by omega)] at this
      rw [List.getElem_take]; simp; omega), List.filter_eq_self.2 (fun y hy => by
      obtain ⟨i, hi, rfl⟩ := List.getElem_of_mem hy
      rw [List.length_drop] at hi
      have := asc_lt ha.2 (show k < k + 1 + i by omega) (by omega)
      rw [hk.2, getD_get (by omega)] at this
      rw [List.getElem_drop]; simp; omega)]
  rw [e]
theorem Drop_none {l : List Int} {h : Int} (hc : chk l = 0) (hm : h ∉ l) : ring_Drop.F l h = some ([], 6, ()) := by
  have ha := chk_zero.1 hc
  obtain ⟨k, k1, k2, k3, k4⟩ := BS_F ha.2 (by omega) h
  rw [ring_Drop.F_eq, Check_F, ob, hc, bne_neg rfl, ring_Drop.L1_eq, k4, ob]
  simp [hm]
theorem Drop_bad {l : List Int} {h : Int} (hc : chk l ≠ 0) : ring_Drop.F l h = some ([], chk l, ()) := by
  rw [ring_Drop.F_eq, Check_F, ob, bne_pos hc]
def routedV (l T : List Int) : Int := if 100 < T.length then 4 else if 0 < T.length ∧ l.length = 0 then 6 else 0
theorem routed_F (l T : List Int) : ring_routed.F l T = some (routedV l T, ()) := by
  rw [ring_routed.F_eq]
  unfold routedV
  by_cases h : 100 < T.length
  · rw [bd_pos (by omega), if_pos h]
  · rw [bd_neg (by omega), if_neg h, ring_routed.L1_eq]
    by_cases h1 : 0 < T.length
    · rw [bd_pos (by omega)]
      by_cases h2 : l.length = 0
      · rw [beq_pos (by omega), if_pos ⟨h1, h2⟩]
      · rw [beq_neg (by omega), if_neg (fun h => h2 h.2), ring_routed.L2_eq]
    · rw [bd_neg (by omega), if_neg (fun h => h1 h.1), ring_routed.L2_eq]
theorem Index_loop {l : List Int} {v : Int} (hl : l.length ≤ 100000000) : ∀ m k : Nat, k + m = l.length → (∀ x, x < k → l.getD x 0 ≠ v) → v ∈ l → ∃ i, i < l.length ∧ l.getD i 0 = v ∧ slices_Index.L1 l v (l.length : Int) (k : Int) = some ((i : Int), ())
  | 0, k, hk, h, hm => by
    obtain ⟨x, hx, e⟩ := mem_getD hm
    exact absurd e (h x (by omega))
  | m + 1, k, hk, h, hm => by
    rw [slices_Index.L1_eq, bd_pos (by omega), slices_Index.L2_eq, bd_pos (by omega), toNat_cast]
    by_cases hp : v = l.getD k 0
    · rw [beq_pos hp]
      exact ⟨k, by omega, hp.symm, rfl⟩
    · rw [beq_neg hp, slices_Index.L3_eq, W_eq (by omega) (by omega), cast_add1]
      exact Index_loop hl m (k + 1) (by omega) (fun x hx => by
        by_cases e : x = k
        · rw [e]; exact fun e => hp e.symm
        · exact h x (by omega)) hm
theorem Index_F {l : List Int} {v : Int} (hl : l.length ≤ 100000000) (hm : v ∈ l) : ∃ i, i < l.length ∧ l.getD i 0 = v ∧ slices_Index.F l v = some ((i : Int), ()) := by
  rw [slices_Index.F_eq]
  exact Index_loop hl l.length 0 (by omega) (fun x hx => by omega) hm
/-- How many tenants each host has. -/
noncomputable def loads (l T : List Int) : List Int := l.map fun x => ((T.filter fun t => decide (owner l t = x)).length : Int)
theorem owner_mem {l : List Int} {t : Int} (h : l ≠ []) : owner l t ∈ l := by
  have hn : 0 < (rank l t).length := by rw [rank_len]; exact List.length_pos_iff.2 h
  exact (rank_perm l t).mem_iff.1 (getD_mem hn)
theorem Loads_loop {l T : List Int} (hc : chk l = 0) (h0 : l ≠ []) (hu : ∀ h ∈ l, U32 h) (hT : ∀ t ∈ T, U32 t) (hl : T.length ≤ 1000) : ∀ m k : Nat, k + m = T.length →
    ring_Loads.L3 l T (T.length : Int) (k : Int) (loads l (T.take k)) = some (loads l T, 0, ())
  | 0, k, hk => by
    rw [ring_Loads.L3_eq, bd_neg (by omega), List.take_of_length_le (by omega)]
  | m + 1, k, hk => by
    have hc' := chk_zero.1 hc
    have htk : T.getD k 0 ∈ T := getD_mem (by omega)
    rw [ring_Loads.L3_eq, bd_pos (by omega), ring_Loads.L4_eq, bd_pos (by omega), toNat_cast, Owner_ok hc h0 hu (hT _ htk), ob, bne_neg rfl, ring_Loads.L5_eq]
    obtain ⟨i, i1, i2, i3⟩ := Index_F (l := l) (by omega) (owner_mem (t := T.getD k 0) h0)
    show (slices_Index.F l (owner l (T.getD k 0))).bind _ = _
    rw [i3, ob]
    have hll : (loads l (T.take k)).length = l.length := by unfold loads; rw [List.length_map]
    rw [bd_pos (by rw [hll]; omega), bd_pos (by rw [hll]; omega), toNat_cast, W_eq (by omega) (by omega), cast_add1]
    have hget : (loads l (T.take k)).getD i 0 = (((T.take k).filter fun t => decide (owner l t = l.getD i 0)).length : Int) := by
      unfold loads
      rw [getD_get (by rw [List.length_map]; exact i1), List.getElem_map, getD_get i1]
    have hlen := List.length_filter_le (fun t => decide (owner l t = l.getD i 0)) (T.take k)
    rw [List.length_take] at hlen
    rw [hget, W_eq (by omega) (by omega)]
    have e : (loads l (T.take k)).set i ((((T.take k).filter fun t => decide (owner l t = l.getD i 0)).length : Int) + 1) = loads l (T.take (k + 1)) := by
      rw [← tk_getD (d := 0) (by omega : k < T.length)]
      unfold loads
      apply List.ext_getElem
      · simp
      · intro j h1 h2
        rw [List.getElem_set]
        simp only [List.length_set, List.length_map] at h1
        rw [List.getElem_map, List.getElem_map, List.filter_append, List.length_append]
        by_cases hij : i = j
        · subst hij
          have e1 : l[i] = l.getD i 0 := (getD_get i1).symm
          rw [if_pos rfl, e1, i2, List.filter_cons_of_pos (by simp)]
          simp
        · have : owner l (T.getD k 0) ≠ l[j] := fun e => by
            rw [← i2, ← getD_get (d := 0) h1] at e
            rcases Nat.lt_or_ge i j with c | c
            · have := asc_lt hc'.2 c h1; omega
            · have := asc_lt hc'.2 (show j < i by omega) i1; omega
          rw [if_neg hij, List.filter_cons_of_neg (by simpa using this)]
          simp
    rw [e]
    exact Loads_loop hc h0 hu hT hl m (k + 1) (by omega)
theorem Loads_ok {l T : List Int} (hc : chk l = 0) (hr : routedV l T = 0) (hu : ∀ h ∈ l, U32 h) (hT : ∀ t ∈ T, U32 t) : ring_Loads.F l T = some (loads l T, 0, ()) := by
  have hc' := chk_zero.1 hc
  rw [ring_Loads.F_eq, Check_F, ob, hc, bne_neg rfl, ring_Loads.L1_eq, routed_F, ob, hr, bne_neg rfl, ring_Loads.L2_eq, lim_ok (by simp [Ty.bytes]; omega), Bool.and_true, bd_pos (by omega), toNat_cast]
  unfold routedV at hr
  split at hr
  · omega
  · rename_i hT100
    have hz : List.replicate l.length (0 : Int) = loads l (T.take 0) := by
      unfold loads
      rw [List.take_zero]
      simp only [List.filter_nil, List.length_nil, Int.natCast_zero]
      exact List.map_const'.symm
    rw [hz]
    by_cases h0 : l = []
    · have hT0 : T.length = 0 := by
        split at hr
        · omega
        · rename_i h; subst h0; simp at h; simpa using h
      rw [ring_Loads.L3_eq, bd_neg (by omega), List.take_of_length_le (by omega)]
    · exact Loads_loop hc h0 hu hT (by omega) T.length 0 (by omega)
noncomputable def moved (a b T : List Int) : List Int := T.filter fun t => decide (owner a t ≠ owner b t)
theorem Moved_loop {a b T : List Int} (ha : chk a = 0) (hb : chk b = 0) (ha0 : a ≠ []) (hb0 : b ≠ []) (hua : ∀ h ∈ a, U32 h) (hub : ∀ h ∈ b, U32 h) (hT : ∀ t ∈ T, U32 t) (hl : T.length ≤ 1000) : ∀ m k : Nat, k + m = T.length →
    ring_Moved.L5 a b T (T.length : Int) (k : Int) (moved a b (T.take k)) = some (moved a b T, 0, ())
  | 0, k, hk => by
    rw [ring_Moved.L5_eq, bd_neg (by omega), List.take_of_length_le (by omega)]
  | m + 1, k, hk => by
    have htk : T.getD k 0 ∈ T := getD_mem (by omega)
    have ih := Moved_loop ha hb ha0 hb0 hua hub hT hl m (k + 1) (by omega)
    have e : moved a b (T.take (k + 1)) = moved a b (T.take k) ++ moved a b [T.getD k 0] := by
      rw [← tk_getD (d := 0) (by omega : k < T.length)]
      unfold moved; rw [List.filter_append]
    rw [e] at ih
    have hs : ∀ x, ring_Moved.L9 a b T (T.length : Int) (k : Int) x = ring_Moved.L5 a b T (T.length : Int) ((k + 1 : Nat) : Int) x := fun x => by
      rw [ring_Moved.L9_eq, W_eq (by omega) (by omega), cast_add1]
    rw [ring_Moved.L5_eq, bd_pos (by omega), ring_Moved.L6_eq, bd_pos (by omega), toNat_cast, Owner_ok ha ha0 hua (hT _ htk), ob, bne_neg rfl, ring_Moved.L7_eq, Owner_ok hb hb0 hub (hT _ htk), ob, bne_neg rfl]
    show ring_Moved.L8 a b (T.getD k 0) (owner a (T.getD k 0)) (owner b (T.getD k 0)) T (T.length : Int) (k : Int) (moved a b (T.take k)) = _
    rw [ring_Moved.L8_eq]
    by_cases hp : owner a (T.getD k 0) = owner b (T.getD k 0)
    · rw [bne_neg hp, hs]
      have : moved a b [T.getD k 0] = [] := by unfold moved; rw [List.filter_cons_of_neg (by rw [hp]; simp)]; rfl
      rwa [this, List.append_nil] at ih
    · have hlen : (moved a b (T.take k)).length ≤ k := by
        have := List.length_filter_le (fun t => decide (owner a t ≠ owner b t)) (T.take k)
        rw [List.length_take] at this
        unfold moved; omega
      rw [bne_pos hp, lim_ok_small (by decide) (by simp only [List.length_cons, List.length_nil]; omega), hs]
      have : moved a b [T.getD k 0] = [T.getD k 0] := by unfold moved; rw [List.filter_cons_of_pos (p := fun t => decide (owner a t ≠ owner b t)) (decide_eq_true hp)]; rfl
      rwa [this] at ih
theorem Moved_head {a b T : List Int} (ha : chk a = 0) (hb : chk b = 0) (ra : routedV a T = 0) (rb : routedV b T = 0) : ring_Moved.F a b T = ring_Moved.L5 a b T (T.length : Int) 0 [] := by
  have e2 : ((List.length ([a, b] : List (List Int)) : Nat) : Int) = 2 := rfl
  have w1 : IntKind.wrap .i64 ((0 : Int) + 1) = 1 := by rw [W_eq (by omega) (by omega)]; rfl
  have w2 : IntKind.wrap .i64 ((1 : Int) + 1) = 2 := by rw [W_eq (by omega) (by omega)]; rfl
  rw [ring_Moved.F_eq, e2, ring_Moved.L1_eq, bd_pos (by omega), ring_Moved.L2_eq, e2, bd_pos (by omega)]
  show (ring_Check.F a).bind _ = _
  rw [Check_F, ob, ha, bne_neg rfl, ring_Moved.L11_eq, w1, ring_Moved.L1_eq, bd_pos (by omega), ring_Moved.L2_eq, e2, bd_pos (by omega)]
  show (ring_Check.F b).bind _ = _
  rw [Check_F, ob, hb, bne_neg rfl, ring_Moved.L11_eq, w2, ring_Moved.L1_eq, bd_neg (by omega), e2, ring_Moved.L3_eq, bd_pos (by omega), ring_Moved.L4_eq, e2, bd_pos (by omega)]
  show (ring_routed.F a T).bind _ = _
  rw [routed_F, ob, ra, bne_neg rfl, ring_Moved.L10_eq, w1, ring_Moved.L3_eq, bd_pos (by omega), ring_Moved.L4_eq, e2, bd_pos (by omega)]
  show (ring_routed.F b T).bind _ = _
  rw [routed_F, ob, rb, bne_neg rfl, ring_Moved.L10_eq, w2, ring_Moved.L3_eq, bd_neg (by omega)]
theorem Moved_ok {a b T : List Int} (ha : chk a = 0) (hb : chk b = 0) (ra : routedV a T = 0) (rb : routedV b T = 0) (hua : ∀ h ∈ a, U32 h) (hub : ∀ h ∈ b, U32 h) (hT : ∀ t ∈ T, U32 t) : ring_Moved.F a b T = some (moved a b T, 0, ()) := by
  rw [Moved_head ha hb ra rb]
  have key : ∀ l : List Int, routedV l T = 0 → T.length ≤ 100 ∧ (T ≠ [] → l ≠ []) := fun l h => by
    unfold routedV at h
    split at h
    · omega
    · split at h
      · omega
      · rename_i h2
        refine ⟨by omega, fun hT h0 => h2 ⟨List.length_pos_iff.2 hT, by rw [h0]; rfl⟩⟩
  obtain ⟨k1, k2⟩ := key a ra
  obtain ⟨_, k3⟩ := key b rb
  by_cases hT0 : T = []
  · subst hT0
    rw [ring_Moved.L5_eq, bd_neg (by simp)]; rfl
  · exact Moved_loop ha hb (k2 hT0) (k3 hT0) hua hub hT (by omega) T.length 0 (by omega)
end Go.Proofs.YteiekaboepdaeaaDoor.RP
