/- New arenas, orders and tables of the program; a table is made of its parts. -/
import Derived.Test.YtecbgbfegpnilaaTbDu
import Derived.Test.YtecbgbfegpnilaaTwR
namespace Go.Proofs.Ytecbgbfegpnilaa.TB
set_option linter.unusedSimpArgs false
set_option linter.unusedVariables false
open Go Go.Proofs Go.Proofs.Ytecbgbfegpnilaa.PM Go.Proofs.Ytecbgbfegpnilaa.RP
theorem rep_all : ((List.range 16).all fun n => decide (slices_Repeat.G 100 [-1] ((n + 1 : Nat) : Int) = some (List.replicate (n + 1) (-1), ()))) = true := by kernel_rfl
theorem rep_f {n : Nat} (h1 : 1 ≤ n) (h2 : n ≤ 16) : slices_Repeat.F [-1] (n : Int) = some (List.replicate n (-1), ()) := by
  have h := List.all_eq_true.1 rep_all (n - 1) (List.mem_range.2 (by omega))
  rw [decide_eq_true_eq, show n - 1 + 1 = n by omega] at h
  exact slices_Repeat.G_le 100 _ _ _ h
theorem lru_New_f {n : Nat} (h1 : 1 ≤ n) (h2 : n ≤ 16) : lru_New.F (n : Int) = some ((PV n [], NX n [], -1, -1, ()), 0, ()) := by
  rw [lru_New.F_eq, bd_neg (by omega), bd_neg (by omega), lru_New.L1_eq, rep_f h1 h2, ob, lim_small (by decide) (by dsimp only; rw [List.length_replicate]; omega)]
  have e0 : List.replicate n (-1) = PV n [] := (row_nil n).symm
  have e1 : PV n [] = NX n [] := by rw [← e0]; exact (row_nil n).symm
  rw [e0]
  conv => lhs; arg 1; arg 1; arg 2; rw [e1]
theorem arena_New_f {n : Nat} (h1 : 1 ≤ n) (h2 : n ≤ 16) : arena_New.F (n : Int) = some ((newN n, List.replicate n false, 0, ()), 0, ()) := by
  have e : decide ((0 : Int) ≤ (n : Int) ∧ (n : Int) ≤ (n : Int)) = true := decide_eq_true (by omega)
  rw [arena_New.F_eq, bd_neg (by omega), bd_neg (by omega), arena_New.L1_eq, e, Bool.true_and, toNat_cast, lim_small (by decide) (by omega)]
  have h := loop_go (n := n) (L := fun i => arena_New.L2 (n : Int) (i : Int) [] [] ((List.range i).map (fun i : Nat => ((i + 1 : Nat) : Int))) (List.replicate n false)) (fun i hi => by
    try dsimp only
    rw [arena_New.L2_eq, bd_pos (by omega), arena_New.L3_eq, W_eq (by omega) (by omega), lim_small (by decide) (by simp; omega), List.range_succ, List.map_append, List.map_cons, List.map_nil, cast_add1])
  have h : arena_New.L2 (n : Int) 0 [] [] [] (List.replicate n false) = arena_New.L2 (n : Int) (n : Int) [] [] ((List.range n).map (fun i : Nat => ((i + 1 : Nat) : Int))) (List.replicate n false) := h
  rw [h, arena_New.L2_eq, bd_neg (by omega), W_eq (by omega) (by omega), bd_pos (by rw [List.length_map, List.length_range]; omega)]
  have hn : ((n : Int) - 1).toNat = n - 1 := by omega
  have e2 : ((List.range n).map (fun i : Nat => ((i + 1 : Nat) : Int))).set (n - 1) (-1) = newN n := by
    refine List.ext_getElem (by rw [List.length_set, List.length_map, List.length_range, newN_len]) fun i a b => ?_
    rw [newN_len] at b
    rw [List.getElem_set, List.getElem_map, List.getElem_range]
    have := newN_at b
    rw [getD_get (by rw [newN_len]; exact b)] at this
    rw [this]
    by_cases q : i + 1 < n
    · rw [if_neg (by omega), if_pos q]
    · rw [if_pos (by omega), if_neg q]
  rw [hn, e2]
theorem probe_New_f : probe_New.F = some (List.replicate 16 c0_, ()) := by
  rw [probe_New.F_eq, decide_eq_true (by decide), Bool.true_and, lim_small (by decide) (by decide)]
  rfl
theorem table_New_f {n : Nat} (h1 : 1 ≤ n) (h2 : n ≤ 8) : table_New.F (n : Int) = some (NT n, 0, ()) := by
  have e : decide ((0 : Int) ≤ (n : Int) ∧ (n : Int) ≤ (n : Int)) = true := decide_eq_true (by omega)
  rw [table_New.F_eq, bd_neg (by omega), bd_neg (by omega), table_New.L1_eq, arena_New_f h1 (by omega), ob, lru_New_f h1 (by omega), ob, e, Bool.true_and, Bool.true_and, toNat_cast, lim_small (by decide) (by omega), lim_small (by decide) (by omega), probe_New_f, ob]
  rfl
/-- Whatever the capacity, New answers. -/
theorem lru_some (c : Int) : ∃ r, lru_New.F c = some r := by
  by_cases h1 : c < 1
  · rw [lru_New.F_eq, bd_pos h1]; exact ⟨_, rfl⟩
  by_cases h2 : c > 16
  · rw [lru_New.F_eq, bd_neg h1, bd_pos h2]; exact ⟨_, rfl⟩
  obtain ⟨n, rfl⟩ : ∃ n : Nat, c = (n : Int) := ⟨c.toNat, by omega⟩
  exact ⟨_, lru_New_f (by omega) (by omega)⟩
theorem arena_some (c : Int) : ∃ r, arena_New.F c = some r := by
  by_cases h1 : c < 1
  · rw [arena_New.F_eq, bd_pos h1]; exact ⟨_, rfl⟩
  by_cases h2 : c > 16
  · rw [arena_New.F_eq, bd_neg h1, bd_pos h2]; exact ⟨_, rfl⟩
  obtain ⟨n, rfl⟩ : ∃ n : Nat, c = (n : Int) := ⟨c.toNat, by omega⟩
  exact ⟨_, arena_New_f (by omega) (by omega)⟩
theorem table_some (c : Int) : ∃ r, table_New.F c = some r := by
  by_cases h1 : c < 1
  · rw [table_New.F_eq, bd_pos h1]; exact ⟨_, rfl⟩
  by_cases h2 : c > 8
  · rw [table_New.F_eq, bd_neg h1, bd_pos h2]; exact ⟨_, rfl⟩
  obtain ⟨n, rfl⟩ : ∃ n : Nat, c = (n : Int) := ⟨c.toNat, by omega⟩
  exact ⟨_, table_New_f (by omega) (by omega)⟩
theorem same13_refl {a : List Int} {b : List Bool} {c : Int} (h1 : a.length ≤ 1000) (h2 : b.length ≤ 1000) : spigotref13_Same.F (a, b, c, ()) (a, b, c, ()) = some (true, ()) := by
  rw [spigotref13_Same.F_eq]
  dsimp only
  rw [bne_neg rfl, bne_neg rfl, bne_neg rfl, spigotref13_Same.L1_eq]
  have e1 := loop_go (n := a.length) (L := fun i => spigotref13_Same.L2 (i : Int) a b c a b c) (fun i hi => by
    try dsimp only
    rw [spigotref13_Same.L2_eq, bd_pos (by omega), spigotref13_Same.L3_eq, bd_pos (by omega), bd_pos (by omega), bne_neg rfl, spigotref13_Same.L7_eq, W_eq (by omega) (by omega), cast_add1])
  refine Eq.trans e1 ?_
  try dsimp only
  rw [spigotref13_Same.L2_eq, bd_neg (by omega)]
  have e2 := loop_go (n := b.length) (L := fun i => spigotref13_Same.L4 (i : Int) a b c a b c) (fun i hi => by
    try dsimp only
    rw [spigotref13_Same.L4_eq, bd_pos (by omega), spigotref13_Same.L5_eq, bd_pos (by omega), bd_pos (by omega), bnt (beq_self_eq_true _), spigotref13_Same.L6_eq, W_eq (by omega) (by omega), cast_add1])
  refine Eq.trans e2 ?_
  try dsimp only
  rw [spigotref13_Same.L4_eq, bd_neg (by omega)]
section
variable {cap : Int} {keys : List Int} {bks : List t1.den} {next : List Int} {used : List Bool} {free : Int} {x : List t3.den} {prev nxt : List Int} {head tail : Int} {l : List Int}
/-- What the rounds keep, beside a valid table: keys are numbers of 32 bits, levels are data. -/
structure Plus (bks : List t1.den) (x : List t3.den) : Prop where
  keys : ∀ k p, Has x k p → 0 ≤ k ∧ k < 4294967296
  lev : ∀ c ∈ bks, Z c.2.1 ≤ 9223372036854775807
theorem same16_f (g : TGood cap keys bks next used free x prev nxt head tail l) (w : Plus bks x) :
    spigottop_same16.F (cap, keys, bks, (next, used, free, ()), x, (prev, nxt, head, tail, ()), ()) (next, used, free, ()) (prev, nxt, head, tail, ()) x = some (true, ()) := by
  obtain ⟨l1, l2, l3, l4, l5, l6, l7⟩ := g.lens
  have hx := g.index.len
  have hs := g.order.short
  have hn := g.order.same
  rw [spigottop_same16.F_eq, (rtable_says _ (keys_of g.index w.keys) (by dsimp only; omega)).yes ⟨l, g⟩, ob, bne_neg rfl]
  dsimp only
  rw [same13_refl (by omega) (by omega), ob, bnt rfl, same15_f (by omega) (by omega), ob, decide_eq_true ⟨rfl, rfl, rfl, rfl⟩, bnt rfl, bne_neg rfl, spigottop_same16.L1_eq]
  have e1 := loop_go (n := x.length) (L := fun i => spigottop_same16.L2 x (i : Int) cap keys bks next used free x prev nxt head tail prev nxt head tail) (fun i hi => by
    try dsimp only
    rw [spigottop_same16.L2_eq, bd_pos (by omega), spigottop_same16.L3_eq, bd_pos (by omega), bd_pos (by omega), nbeq_neg rfl, spigottop_same16.L8_eq, W_eq (by omega) (by omega), cast_add1])
  refine Eq.trans e1 ?_
  try dsimp only
  rw [spigottop_same16.L2_eq, bd_neg (by omega), lru_List_ok g.order, ob, keys_f g w.lev, ob, bne_neg rfl, bne_neg rfl, bne_neg (by dsimp only; rw [List.length_map]), spigottop_same16.L4_eq]
  dsimp only
  have e2 := loop_go (n := l.length) (L := fun i => spigottop_same16.L5 x (i : Int) l (l.map (fun p => keys.getD p.toNat 0))) (fun i hi => by
    have hm : l[i] ∈ l := List.getElem_mem hi
    have e3 : (l.map (fun p => keys.getD p.toNat 0)).getD i 0 = keys.getD (l[i]).toNat 0 := by
      rw [getD_get (by rw [List.length_map]; exact hi), List.getElem_map]
    try dsimp only
    rw [spigottop_same16.L5_eq, bd_pos (by omega), spigottop_same16.L6_eq, bd_pos (by rw [List.length_map]; omega)]
    simp only [toNat_cast]
    rw [e3, find_has g.index (g.has_of hm), ob, bne_neg rfl, bd_pos (by omega), getD_get hi, bne_neg rfl, spigottop_same16.L7_eq, W_eq (by omega) (by omega), cast_add1])
  refine Eq.trans e2 ?_
  try dsimp only
  rw [spigottop_same16.L5_eq, bd_neg (by omega)]
theorem get_f (g : TGood cap keys bks next used free x prev nxt head tail l) (hw : ∀ c ∈ bks, Z c.2.1 ≤ 9223372036854775807) {key p : Int} (h : Has x key p) : table_Get.F (cap, keys, bks, (next, used, free, ()), x, (prev, nxt, head, tail, ()), ()) key = some (bks.getD p.toNat b0_, 0, ()) := by
  have hr := g.mem_range (g.has_mem h)
  obtain ⟨l1, l2, l3, l4, l5, l6, l7⟩ := g.lens
  rw [table_Get.F_eq, tcheck_f g hw, ob, bne_neg rfl, table_Get.L1_eq, place_has g h, ob, bd_neg (by dsimp only; omega), table_Get.L2_eq, bd_pos (by dsimp only; omega)]
end
theorem lim16 : LimOk (9, 2, 3, ()) := ⟨by decide, by decide, by decide, by decide, by decide, by decide, trivial⟩
theorem new_lev (n : Nat) : ∀ c ∈ List.replicate n b0_, Z c.2.1 ≤ 9223372036854775807 := fun c hc => by
  rw [List.eq_of_mem_replicate hc]; decide
theorem new_none (k p : Int) : ¬ Has (List.replicate 16 c0_) k p := fun ⟨m, a, b, u, _⟩ => by
  rw [cl_new] at u; cases u
/-- A table with one key. -/
theorem alive16_f : spigottop_alive16.F = some (true, ()) := by
  have g := new_table (n := 1) (by decide) (by decide)
  have hw := new_lev 1
  have e0 : table_New.F 1 = some (NT 1, 0, ()) := table_New_f (n := 1) (by decide) (by decide)
  have ga : AGood (newN 1) (List.replicate 1 false) 0 (0 :: []) := new_arena (n := 1) (by decide) (by decide)
  obtain ⟨next', used', free', x', prev', nxt', head', tail', e1, e2, e3, g2, hx, i0, i1⟩ := insert_good g (key := 77) (full_ok lim16 5) (fun p => new_none 77 p) ga
  have eu := use_new g hw lim16 5 (fun p => new_none 77 p) e1 e2 e3 i0 i1
  have hw2 : ∀ c ∈ (List.replicate 1 b0_).set (Int.toNat 0) (fullB (9, 2, 3, ()) 5), Z c.2.1 ≤ 9223372036854775807 := fun c hc => by
    rcases List.mem_or_eq_of_mem_set hc with h | rfl
    · exact hw c h
    · exact full_lev lim16 5
  have eg := get_f g2 hw2 ((hx 77 0).2 (.inr ⟨rfl, rfl⟩))
  have eu : table_Use.F (NT 1) 77 (9, 2, 3, ()) 5 = _ := eu
  rw [spigottop_alive16.F_eq, e0, ob, spigottop_limit16.F_eq, ob]
  dsimp only
  rw [eu, ob]
  dsimp only
  rw [eg, ob]
  rw [beq_pos rfl, beq_pos rfl, beq_pos rfl, ob]
  have e5 : List.getD ((List.replicate 1 b0_).set (Int.toNat 0) (fullB (9, 2, 3, ()) 5)) (Int.toNat 0) b0_ = fullB (9, 2, 3, ()) 5 := rfl
  rw [e5, (beq_iff t1 _ _).2 rfl]
end Go.Proofs.Ytecbgbfegpnilaa.TB
