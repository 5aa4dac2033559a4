/- Taking and giving back places; touching and removing places of an order. -/
import Derived.Test.YtecbgbfegpnilaaTbDp
namespace Go.Proofs.Ytecbgbfegpnilaa.TB
set_option linter.unusedSimpArgs false
set_option linter.unusedVariables false
open Go Go.Proofs Go.Proofs.Ytecbgbfegpnilaa.PM Go.Proofs.Ytecbgbfegpnilaa.RP
theorem set_nat {α : Type} {l : List α} {i : Int} {j : Nat} {v d : α} (h0 : 0 ≤ i) (h1 : i < l.length) : (l.set i.toNat v).getD j d = if i = (j : Int) then v else l.getD j d := by
  have := set_at (l := l) (v := v) (d := d) h0 h1 (j := (j : Int)) (by omega)
  rw [toNat_cast] at this
  exact this
theorem chain_set {next : List Int} {k i v : Int} {l : List Int} (h : Chain next k l) (h0 : 0 ≤ i) (h1 : i < next.length) (n : ¬ i ∈ l) : Chain (next.set i.toNat v) k l := by
  induction h with
  | nil => exact .nil
  | @cons k l a b c ih =>
    have hne : i ≠ k := fun e => n (by rw [e]; exact List.mem_cons_self)
    refine .cons a (by rw [List.length_set]; exact b) ?_
    rw [set_at h0 h1 a, if_neg hne]
    exact ih fun m => n (List.mem_cons_of_mem _ m)
theorem arena_twin_f {next : List Int} {used : List Bool} {free : Int} (h1 : next.length ≤ 1000) (h2 : used.length ≤ 1000) : arena_twin.F (next, used, free, ()) = some ((next, used, free, ()), ()) := by
  rw [arena_twin.F_eq]
  dsimp only
  rw [lim_small (by decide) (by omega), lim_small (by decide) (by omega)]
/-- Taking a place. -/
theorem arena_Take_ok {next : List Int} {used : List Bool} {free i : Int} {l : List Int} (g : AGood next used free (i :: l)) :
    arena_Take.F (next, used, free, ()) = some ((next.set i.toNat (-1), used.set i.toNat true, next.getD i.toNat 0, ()), i, 0, ()) ∧ AGood (next.set i.toNat (-1)) (used.set i.toNat true) (next.getD i.toNat 0) l ∧ 0 ≤ i ∧ i < used.length ∧ used.getD i.toNat false = false := by
  obtain rfl : free = i := by cases g.chain with
    | cons _ _ _ => rfl
  have h1 := g.low
  have h2 := g.high
  have h3 := g.same
  have hn := List.nodup_cons.1 g.nodup
  have hc := g.chain
  have hm := g.mark
  have he := g.end_
  cases hc with
  | cons a b c =>
    have hu : used.getD free.toNat false = false := by
      apply bool_not
      intro h
      have := (hm free.toNat (by omega)).1 h
      rw [show ((free.toNat : Nat) : Int) = free by omega] at this
      exact this List.mem_cons_self
    refine ⟨?_, ⟨by rw [List.length_set]; exact h1, by rw [List.length_set]; exact h2, by rw [List.length_set, List.length_set]; exact h3, chain_set c a b hn.1, hn.2, ?_, ?_⟩, a, by omega, hu⟩
    · rw [arena_Take.F_eq, (arena_says next used free).yes ⟨_, g⟩, ob, bne_neg rfl, arena_Take.L1_eq]
      dsimp only
      rw [beq_neg (by omega), arena_Take.L2_eq, arena_twin_f (by omega) (by omega), ob, bd_pos (by omega), bd_pos (by dsimp only; omega), bd_pos (by dsimp only; omega)]
    · intro j hj
      rw [List.length_set] at hj
      rw [set_nat a (by omega)]
      by_cases e : free = (j : Int)
      · rw [if_pos e, ← e]; exact ⟨fun _ => hn.1, fun _ => rfl⟩
      · rw [if_neg e, hm j hj, List.mem_cons]
        exact ⟨fun h h2 => h (.inr h2), fun h h2 => h2.elim (fun q => e q.symm) h⟩
    · intro j hj h
      rw [List.length_set] at hj
      rw [set_nat a b]
      by_cases e : free = (j : Int)
      · rw [if_pos e]
      · rw [if_neg e]
        rw [set_nat a (by omega), if_neg e] at h
        exact he j hj h
theorem arena_Take_full {next : List Int} {used : List Bool} {free : Int} (g : AGood next used free []) : arena_Take.F (next, used, free, ()) = some (([], [], 0, ()), 0, 18, ()) := by
  rw [arena_Take.F_eq, (arena_says next used free).yes ⟨_, g⟩, ob, bne_neg rfl, arena_Take.L1_eq]
  cases g.chain with
  | nil => rw [beq_pos rfl]
/-- Giving a place back. -/
theorem arena_Give_ok {next : List Int} {used : List Bool} {free p : Int} {l : List Int} (g : AGood next used free l) (h0 : 0 ≤ p) (hp : p < used.length) (u : used.getD p.toNat false = true) :
    arena_Give.F (next, used, free, ()) p = some ((next.set p.toNat free, used.set p.toNat false, p, ()), 0, ()) ∧ AGood (next.set p.toNat free) (used.set p.toNat false) p (p :: l) := by
  have h1 := g.low
  have h2 := g.high
  have h3 := g.same
  have hnm : ¬ p ∈ l := by
    have := (g.mark p.toNat (by omega)).1 u
    rw [show ((p.toNat : Nat) : Int) = p by omega] at this
    exact this
  refine ⟨?_, ⟨by rw [List.length_set]; exact h1, by rw [List.length_set]; exact h2, by rw [List.length_set, List.length_set]; exact h3, ?_, List.nodup_cons.2 ⟨hnm, g.nodup⟩, ?_, ?_⟩⟩
  · rw [arena_Give.F_eq, (arena_says next used free).yes ⟨_, g⟩, ob, bne_neg rfl, bd_neg (by omega), bd_neg (by dsimp only; omega), bd_pos (by dsimp only; omega)]
    dsimp only
    rw [bnt u, arena_Give.L1_eq, arena_Give.L2_eq, arena_Give.L3_eq, arena_twin_f (by omega) (by omega), ob, bd_pos (by dsimp only; omega), bd_pos (by dsimp only; omega)]
  · refine .cons h0 (by rw [List.length_set]; omega) ?_
    rw [set_at h0 (by omega) h0, if_pos rfl]
    exact chain_set g.chain h0 (by omega) hnm
  · intro j hj
    rw [List.length_set] at hj
    rw [set_nat h0 hp]
    by_cases e : p = (j : Int)
    · rw [if_pos e, ← e]; exact ⟨fun h => (by cases h), fun h => absurd List.mem_cons_self h⟩
    · rw [if_neg e, g.mark j hj, List.mem_cons]
      exact ⟨fun h h2 => h2.elim (fun q => e q.symm) h, fun h h2 => h (.inr h2)⟩
  · intro j hj h
    rw [List.length_set] at hj
    rw [set_nat h0 hp] at h
    by_cases e : p = (j : Int)
    · rw [if_pos e] at h; cases h
    · rw [if_neg e] at h
      rw [set_nat h0 (by omega), if_neg e]
      exact g.end_ j hj h
/-! ### orders -/
theorem lru_check_f {prev next : List Int} {head tail p : Int} {l : List Int} (g : OGood prev next head tail l) (h0 : 0 ≤ p) (h1 : p < prev.length) : lru_check.F (prev, next, head, tail, ()) p = some (0, ()) := by
  rw [lru_check.F_eq, (lru_says prev next head tail).yes ⟨l, g⟩, ob, bne_neg rfl, lru_check.L1_eq, bd_neg (by omega), bd_neg (by dsimp only; omega), lru_check.L2_eq]
theorem lru_twin_f {prev next : List Int} {head tail : Int} (h1 : prev.length ≤ 1000) (h2 : next.length ≤ 1000) : lru_twin.F (prev, next, head, tail, ()) = some ((prev, next, head, tail, ()), ()) := by
  rw [lru_twin.F_eq]
  dsimp only
  rw [lim_small (by decide) (by omega), lim_small (by decide) (by omega)]
theorem rd_PV2 {n : Nat} {L : List Int} {i : Int} (h0 : 0 ≤ i) (h1 : i < n) : (PV n L).getD i.toNat 0 = pv (-1) L i := rd_PV h0 h1
theorem rd_NX2 {n : Nat} {L : List Int} {i : Int} (h0 : 0 ≤ i) (h1 : i < n) : (NX n L).getD i.toNat 0 = nx (-1) L i := rd_NX h0 h1
theorem lru_in_f {n : Nat} {l : List Int} (h : Ok n l) {p : Int} (h0 : 0 ≤ p) (h1 : p < n) : lru_in.F (PV n l, NX n l, hd (-1) l, lst (-1) l, ()) p = some (decide (p ∈ l), ()) := by
  rw [lru_in.F_eq]
  dsimp only
  by_cases e : hd (-1) l = p
  · have m : p ∈ l := by
      rw [← e]
      refine hd_mem (fun hl => ?_) _
      rw [hl] at e
      have : (-1 : Int) = p := e
      omega
    rw [beq_pos e, decide_eq_true m]
  · rw [beq_neg e, PV_len, bd_pos (by omega), rd_PV2 h0 h1]
    by_cases m : p ∈ l
    · obtain ⟨A, B, rfl⟩ := List.append_of_mem m
      obtain ⟨hA, hB, hx⟩ := h.app
      have hpA : p ∉ A := fun q => hx p q List.mem_cons_self
      have hne : A ≠ [] := by
        rintro rfl
        exact e rfl
      have hl := hA.2 _ (lst_mem hne (-1))
      have q : (lst (-1) A != (-1 : Int)) = true := bne_iff_ne.2 (by omega)
      rw [pv_app, if_neg hpA, pv, if_pos rfl, decide_eq_true m, q]
    · rw [pv_out m, decide_eq_false m]; rfl
theorem hd_del {A B : List Int} {p : Int} (h : A ≠ []) : hd (-1) (A ++ p :: B) = hd (-1) (A ++ B) := by
  cases A with
  | nil => exact absurd rfl h
  | cons a A => rfl
theorem lst_del {A B : List Int} {p : Int} (h : B ≠ []) : lst (-1) (A ++ p :: B) = lst (-1) (A ++ B) := by
  rw [lst_app, lst_app]
  cases B with
  | nil => exact absurd rfl h
  | cons b B => rfl
/-- A place that is taken out. -/
theorem lru_out_f {n : Nat} {A B : List Int} {p : Int} (h : Ok n (A ++ p :: B)) : lru_out.F (PV n (A ++ p :: B), NX n (A ++ p :: B), hd (-1) (A ++ p :: B), lst (-1) (A ++ p :: B), ()) p = some ((PV n (A ++ B), NX n (A ++ B), hd (-1) (A ++ B), lst (-1) (A ++ B), ()), ()) := by
  obtain ⟨hA, hpB, hx⟩ := h.app
  have hp := hpB.2 p List.mem_cons_self
  have hB : Ok n B := ⟨(List.nodup_cons.1 hpB.1).2, fun x hx => hpB.2 x (List.mem_cons_of_mem _ hx)⟩
  have hpA : p ∉ A := fun q => hx p q List.mem_cons_self
  have e1 : pv (-1) (A ++ p :: B) p = lst (-1) A := by rw [pv_app, if_neg hpA, pv, if_pos rfl]
  have e2 : nx (-1) (A ++ p :: B) p = hd (-1) B := by rw [nx_app, if_neg hpA, nx, if_pos rfl]
  have po := PV_out h
  have no := NX_out h
  unfold putIf at po no
  rw [lru_out.F_eq]
  dsimp only
  rw [PV_len, NX_len, bd_pos (by omega), bd_pos (by omega), rd_PV2 hp.1 hp.2, rd_NX2 hp.1 hp.2, e1, e2]
  have fin : ∀ (hh tt : Int) (P N : List Int), P.length = n → N.length = n → lru_out.L2 p hh tt P N = some ((P.set p.toNat (-1), N.set p.toNat (-1), hh, tt, ()), ()) := fun hh tt P N hP hN => by
    rw [lru_out.L2_eq, bd_pos (by omega), bd_pos (by omega)]
  by_cases a : lst (-1) A = -1
  · have eA : A = [] := (hA.lst_ne).1 a
    rw [if_pos a] at no
    rw [beq_pos a, lru_out.L1_eq]
    by_cases b : hd (-1) B = -1
    · have eB : B = [] := (hB.hd_ne).1 b
      rw [if_pos b] at po
      rw [beq_pos b, fin _ _ _ _ (PV_len _ _) (NX_len _ _), po, no, a, b, eA, eB]
      rfl
    · have hne : B ≠ [] := fun q => b ((hB.hd_ne).2 q)
      have hh := hB.2 _ (hd_mem hne (-1))
      rw [if_neg b] at po
      rw [beq_neg b, PV_len, bd_pos (by omega), fin _ _ _ _ (by rw [List.length_set, PV_len]) (NX_len _ _), po, no, lst_del hne, eA]
      rfl
  · have hne : A ≠ [] := fun q => a ((hA.lst_ne).2 q)
    have hl := hA.2 _ (lst_mem hne (-1))
    rw [if_neg a] at no
    rw [beq_neg a, bd_pos (by omega), lru_out.L1_eq]
    by_cases b : hd (-1) B = -1
    · have eB : B = [] := (hB.hd_ne).1 b
      rw [if_pos b] at po
      rw [beq_pos b, fin _ _ _ _ (PV_len _ _) (by rw [List.length_set, NX_len]), po, no, hd_del hne, eB, List.append_nil]
    · have hneB : B ≠ [] := fun q => b ((hB.hd_ne).2 q)
      have hh := hB.2 _ (hd_mem hneB (-1))
      rw [if_neg b] at po
      rw [beq_neg b, PV_len, bd_pos (by omega), fin _ _ _ _ (by rw [List.length_set, PV_len]) (by rw [List.length_set, NX_len]), po, no, hd_del hne, lst_del hneB]
theorem erase_mid {A B : List Int} {p : Int} (h : p ∉ A) : (A ++ p :: B).erase p = A ++ B := by
  rw [List.erase_append_right _ h, List.erase_cons_head]
/-- Removing a place that is there. -/
theorem lru_Remove_ok {prev next : List Int} {head tail p : Int} {l : List Int} (g : OGood prev next head tail l) (m : p ∈ l) :
    ∃ prev' next' : List Int, ∃ head' tail' : Int, lru_Remove.F (prev, next, head, tail, ()) p = some ((prev', next', head', tail', ()), 0, ()) ∧ OGood prev' next' head' tail' (l.erase p) ∧ prev'.length = prev.length := by
  have ok := g.ok
  have h1 := g.low
  have h2 := g.high
  have hp := ok.2 p m
  have ck := lru_check_f g hp.1 hp.2
  obtain ⟨m1, m2, m3, m4⟩ := g.made
  generalize hn : prev.length = n at ok h1 h2 hp m1 m2
  rw [m1, m2, m3, m4] at ck ⊢
  obtain ⟨A, B, rfl⟩ := List.append_of_mem m
  have hpA : p ∉ A := fun q => (ok.app).2.2 p q List.mem_cons_self
  rw [erase_mid hpA]
  have okd : Ok n (A ++ B) := ⟨by
    have := ok.1.sublist (l₁ := A ++ B) (List.Sublist.append_left (List.sublist_cons_self p B) A)
    exact this, fun x hx => ok.2 x (by
    rcases List.mem_append.1 hx with q | q
    · exact List.mem_append_left _ q
    · exact List.mem_append_right _ (List.mem_cons_of_mem _ q))⟩
  refine ⟨_, _, _, _, ?_, OGood.of h1 h2 okd, PV_len _ _⟩
  rw [lru_Remove.F_eq, ck, ob, bne_neg rfl, lru_Remove.L1_eq]
  dsimp only
  rw [lru_in_f ok hp.1 hp.2, ob, decide_eq_true m, bnt rfl, lru_Remove.L2_eq, lru_twin_f (by rw [PV_len]; omega) (by rw [NX_len]; omega), ob, lru_out_f ok, ob]
/-- Touching a place. -/
theorem lru_Touch_ok {prev next : List Int} {head tail p : Int} {l : List Int} (g : OGood prev next head tail l) (h0 : 0 ≤ p) (hp1 : p < prev.length) :
    ∃ prev' next' : List Int, ∃ head' tail' : Int, lru_Touch.F (prev, next, head, tail, ()) p = some ((prev', next', head', tail', ()), 0, ()) ∧ OGood prev' next' head' tail' (p :: l.erase p) ∧ prev'.length = prev.length := by
  have ok := g.ok
  have h1 := g.low
  have h2 := g.high
  have ck := lru_check_f g h0 hp1
  obtain ⟨m1, m2, m3, m4⟩ := g.made
  generalize hn : prev.length = n at ok h1 h2 hp1 m1 m2
  rw [m1, m2, m3, m4] at ck ⊢
  have okL : Ok n (l.erase p) := ⟨ok.1.erase p, fun x hx => ok.2 x (List.mem_of_mem_erase hx)⟩
  have np : p ∉ l.erase p := fun q => ((ok.1.mem_erase_iff).1 q).1 rfl
  have okp : Ok n (p :: l.erase p) := ⟨List.nodup_cons.2 ⟨np, okL.1⟩, fun x hx => by
    rcases List.mem_cons.1 hx with rfl | q
    · exact ⟨h0, hp1⟩
    · exact okL.2 x q⟩
  refine ⟨_, _, _, _, ?_, OGood.of h1 h2 okp, PV_len _ _⟩
  have l2 : lru_Touch.L2 p (hd (-1) (l.erase p)) (lst (-1) (l.erase p)) [] (PV n (l.erase p)) (NX n (l.erase p)) = some ((PV n (p :: l.erase p), NX n (p :: l.erase p), hd (-1) (p :: l.erase p), lst (-1) (p :: l.erase p), ()), 0, ()) := by
    generalize l.erase p = L at okL okp np
    rw [lru_Touch.L2_eq, NX_len, bd_pos (by omega), PV_cons okp, NX_cons okp]
    unfold putIf
    by_cases e : hd (-1) L = -1
    · have eL : L = [] := (okL.hd_ne).1 e
      rw [beq_pos e, lru_Touch.L3_eq, if_pos e, eL]
      rfl
    · have hne : L ≠ [] := fun q => e ((okL.hd_ne).2 q)
      have hh := okL.2 _ (hd_mem hne (-1))
      rw [beq_neg e, PV_len, bd_pos (by omega), lru_Touch.L3_eq, if_neg e]
      show some ((_, _, p, lst (-1) L, ()), 0, ()) = some ((_, _, p, lst p L, ()), 0, ())
      rw [lst_any hne (-1) p]
  rw [lru_Touch.F_eq, ck, ob, bne_neg rfl, lru_Touch.L1_eq]
  dsimp only
  rw [lru_twin_f (by rw [PV_len]; omega) (by rw [NX_len]; omega), ob, lru_in_f ok h0 hp1, ob]
  by_cases m : p ∈ l
  · rw [decide_eq_true m, bt rfl]
    obtain ⟨A, B, rfl⟩ := List.append_of_mem m
    have hpA : p ∉ A := fun q => (ok.app).2.2 p q List.mem_cons_self
    rw [erase_mid hpA] at l2 ⊢
    rw [lru_out_f ok, ob, l2]
  · rw [decide_eq_false m, bf rfl]
    rw [List.erase_of_not_mem m] at l2 ⊢
    exact l2
theorem lru_Last_ok {prev next : List Int} {head tail : Int} {l : List Int} (g : OGood prev next head tail l) (h : l ≠ []) : lru_Last.F (prev, next, head, tail, ()) = some (lst (-1) l, 0, ()) := by
  have ht := g.tail
  have hm := g.ok.2 _ (lst_mem h (-1))
  rw [lru_Last.F_eq, (lru_says prev next head tail).yes ⟨l, g⟩, ob, bne_neg rfl, lru_Last.L1_eq]
  dsimp only
  rw [beq_neg (by omega), lru_Last.L2_eq, ht]
/-- How many places are used. -/
theorem arena_Count_ok {next : List Int} {used : List Bool} {free : Int} {l : List Int} (g : AGood next used free l) : ∃ k : Int, arena_Count.F (next, used, free, ()) = some (((used.countP id : Nat) : Int), k, 0, ()) := by
  have h2 := g.high
  have h3 := g.same
  rw [arena_Count.F_eq, (arena_says next used free).yes ⟨l, g⟩, ob, bne_neg rfl, arena_Count.L1_eq]
  dsimp only
  have e := loop_go (n := used.length) (L := fun i => arena_Count.L2 (((used.take i).countP id : Nat) : Int) used (used.length : Int) (i : Int) next free) (fun i hi => by
    have hle := count_le used i
    try dsimp only
    rw [arena_Count.L2_eq, bd_pos (by omega), arena_Count.L3_eq, bd_pos (by omega), take_count hi]
    simp only [toNat_cast]
    by_cases u : used.getD i false = true
    · rw [bt u, if_pos u, arena_Count.L4_eq, W_eq (by omega) (by omega), W_eq (by omega) (by omega), cast_add1, cast_add1]
    · rw [bf (bool_not u), if_neg u, arena_Count.L4_eq, W_eq (x := (i : Int) + 1) (by omega) (by omega), cast_add1]; rfl)
  try dsimp only at e
  rw [List.take_of_length_le (Nat.le_refl _)] at e
  have e : arena_Count.L2 0 used (used.length : Int) 0 next free = arena_Count.L2 ((used.countP id : Nat) : Int) used (used.length : Int) (used.length : Int) next free := e
  rw [e, arena_Count.L2_eq, bd_neg (by omega)]
  exact ⟨_, rfl⟩
end Go.Proofs.Ytecbgbfegpnilaa.TB
