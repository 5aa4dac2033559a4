/- Tables: what Use, Drop and Keys answer. -/
import Derived.Test.YtecbgbfegpnilaaTbDt
namespace Go.Proofs.Ytecbgbfegpnilaa.TB
set_option linter.unusedSimpArgs false
set_option linter.unusedVariables false
open Go Go.Proofs Go.Proofs.Ytecbgbfegpnilaa.PM Go.Proofs.Ytecbgbfegpnilaa.RP
/-- A full bucket. -/
@[reducible] noncomputable def fullB (lm : t0.den) (tick : Int) : t1.den := ((lm.1, lm.2.1, lm.2.2.1, ()), lm.1, 0, tick, ())
theorem full_f {lm : t0.den} (h : LimOk lm) (tick : Int) : bucket_Full.F lm tick = some (fullB lm tick, 0, ()) := by
  rw [bucket_Full.F_eq, (limit_says lm).yes h, ob, bne_neg rfl, bucket_Full.L1_eq]
theorem full_ok {lm : t0.den} (h : LimOk lm) (tick : Int) : BktOk (fullB lm tick) := by
  obtain ⟨h1, h2, h3, h4, h5, h6, _⟩ := h
  refine ⟨⟨h1, h2, h3, h4, h5, h6, trivial⟩, ?_, ?_, ?_, ?_, ?_⟩
  · show ¬ Z lm.1 < 0
    omega
  · show ¬ Z lm.1 - Z lm.1 < 0
    omega
  · show ¬ Z 0 < 0
    decide
  · show ¬ (0 : Int) ≥ Z lm.2.2.1
    omega
  · intro _
    show ¬ Z 0 > 0
    decide
theorem full_lev {lm : t0.den} (h : LimOk lm) (tick : Int) : Z (fullB lm tick).2.1 ≤ 9223372036854775807 := by
  obtain ⟨h1, h2, _⟩ := h
  show Z lm.1 ≤ 9223372036854775807
  omega
section
variable {cap : Int} {keys : List Int} {bks : List t1.den} {next : List Int} {used : List Bool} {free : Int} {x : List t3.den} {prev nxt : List Int} {head tail : Int} {l : List Int}
theorem tcheck_f (g : TGood cap keys bks next used free x prev nxt head tail l) (hw : ∀ c ∈ bks, Z c.2.1 ≤ 9223372036854775807) : table_Check.F (cap, keys, bks, (next, used, free, ()), x, (prev, nxt, head, tail, ()), ()) = some (0, ()) := (table_says _ hw).yes ⟨l, g⟩
/-- Use of a key that is there. -/
theorem use_has (g : TGood cap keys bks next used free x prev nxt head tail l) (hw : ∀ c ∈ bks, Z c.2.1 ≤ 9223372036854775807) {lm : t0.den} (hl : LimOk lm) (tick : Int) {key p : Int} (h : Has x key p) {prev' nxt' : List Int} {head' tail' : Int}
    (e : lru_Touch.F (prev, nxt, head, tail, ()) p = some ((prev', nxt', head', tail', ()), 0, ())) :
    table_Use.F (cap, keys, bks, (next, used, free, ()), x, (prev, nxt, head, tail, ()), ()) key lm tick = some ((cap, keys, bks, (next, used, free, ()), x, (prev', nxt', head', tail', ()), ()), 0, false, 0, ()) := by
  have hr := g.mem_range (g.has_mem h)
  rw [table_Use.F_eq, tcheck_f g hw, ob, bne_neg rfl, table_Use.L1_eq]
  rw [show bucket_Full.F _ tick = _ from full_f hl tick, ob, bne_neg rfl, table_Use.L2_eq, ttwin_f g, ob, place_has g h, ob, bd_neg (by dsimp only; omega), table_Use.L4_eq, e, ob]
/-- Use of a new key, when there is a free place. -/
theorem use_new (g : TGood cap keys bks next used free x prev nxt head tail l) (hw : ∀ c ∈ bks, Z c.2.1 ≤ 9223372036854775807) {lm : t0.den} (hl : LimOk lm) (tick : Int) {key : Int} (n : ∀ p, ¬ Has x key p) {next' : List Int} {used' : List Bool} {free' i : Int} {x' : List t3.den} {prev' nxt' : List Int} {head' tail' : Int}
    (e1 : arena_Take.F (next, used, free, ()) = some ((next', used', free', ()), i, 0, ())) (e2 : probe_Put.F x key i = some (x', 0, ())) (e3 : lru_Touch.F (prev, nxt, head, tail, ()) i = some ((prev', nxt', head', tail', ()), 0, ())) (i0 : 0 ≤ i) (i1 : i < used.length) :
    table_Use.F (cap, keys, bks, (next, used, free, ()), x, (prev, nxt, head, tail, ()), ()) key lm tick = some ((cap, keys.set i.toNat key, bks.set i.toNat (fullB lm tick), (next', used', free', ()), x', (prev', nxt', head', tail', ()), ()), 0, false, 0, ()) := by
  obtain ⟨l1, l2, l3, l4, l5, l6, l7⟩ := g.lens
  rw [table_Use.F_eq, tcheck_f g hw, ob, bne_neg rfl, table_Use.L1_eq]
  rw [show bucket_Full.F _ tick = _ from full_f hl tick, ob, bne_neg rfl, table_Use.L2_eq, ttwin_f g, ob, place_none g n, ob, bd_pos (by decide), show arena_Take.F _ = _ from e1, ob, bne_neg rfl, table_Use.L3_eq, show arena_Take.F _ = _ from e1, ob, e2, ob, bd_pos (by dsimp only; omega), bd_pos (by dsimp only; omega), table_Use.L4_eq, e3, ob]
/-- Use of a new key, when all places are used: the last one is dropped. -/
theorem use_evict (g : TGood cap keys bks next used free x prev nxt head tail l) (hw : ∀ c ∈ bks, Z c.2.1 ≤ 9223372036854775807) {lm : t0.den} (hl : LimOk lm) (tick : Int) {key : Int} (n : ∀ p, ¬ Has x key p) (ga : AGood next used free [])
    {p : Int} (hp : lru_Last.F (prev, nxt, head, tail, ()) = some (p, 0, ())) (p0 : 0 ≤ p) (p1 : p < used.length)
    {keys1 : List Int} {bks1 : List t1.den} {next1 : List Int} {used1 : List Bool} {free1 : Int} {x1 : List t3.den} {prev1 nxt1 : List Int} {head1 tail1 : Int}
    (e0 : table_drop.F (cap, keys, bks, (next, used, free, ()), x, (prev, nxt, head, tail, ()), ()) (keys.getD p.toNat 0) = some ((cap, keys1, bks1, (next1, used1, free1, ()), x1, (prev1, nxt1, head1, tail1, ()), ()), ()))
    {next' : List Int} {used' : List Bool} {free' i : Int} {x' : List t3.den} {prev' nxt' : List Int} {head' tail' : Int}
    (e1 : arena_Take.F (next1, used1, free1, ()) = some ((next', used', free', ()), i, 0, ())) (e2 : probe_Put.F x1 key i = some (x', 0, ())) (e3 : lru_Touch.F (prev1, nxt1, head1, tail1, ()) i = some ((prev', nxt', head', tail', ()), 0, ())) (i0 : 0 ≤ i) (i1 : i < keys1.length) (i2 : i < bks1.length) :
    table_Use.F (cap, keys, bks, (next, used, free, ()), x, (prev, nxt, head, tail, ()), ()) key lm tick = some ((cap, keys1.set i.toNat key, bks1.set i.toNat (fullB lm tick), (next', used', free', ()), x', (prev', nxt', head', tail', ()), ()), keys.getD p.toNat 0, true, 0, ()) := by
  obtain ⟨l1, l2, l3, l4, l5, l6, l7⟩ := g.lens
  rw [table_Use.F_eq, tcheck_f g hw, ob, bne_neg rfl, table_Use.L1_eq]
  rw [show bucket_Full.F _ tick = _ from full_f hl tick, ob, bne_neg rfl, table_Use.L2_eq, ttwin_f g, ob, place_none g n, ob, bd_pos (by decide), show arena_Take.F _ = _ from arena_Take_full ga, ob, bne_pos (by decide), show lru_Last.F _ = _ from hp, ob, bd_pos (by dsimp only; omega)]
  rw [show table_drop.F _ _ = _ from e0, ob, table_Use.L3_eq, show arena_Take.F _ = _ from e1, ob, show probe_Put.F _ _ _ = _ from e2, ob, bd_pos (by dsimp only; omega), bd_pos (by dsimp only; omega), table_Use.L4_eq, show lru_Touch.F _ _ = _ from e3, ob]
theorem drop_has (g : TGood cap keys bks next used free x prev nxt head tail l) (hw : ∀ c ∈ bks, Z c.2.1 ≤ 9223372036854775807) {key p : Int} (h : Has x key p) {t' : t5.den}
    (e0 : table_drop.F (cap, keys, bks, (next, used, free, ()), x, (prev, nxt, head, tail, ()), ()) key = some (t', ())) : table_Drop.F (cap, keys, bks, (next, used, free, ()), x, (prev, nxt, head, tail, ()), ()) key = some (t', 0, ()) := by
  have hr := g.mem_range (g.has_mem h)
  rw [table_Drop.F_eq, tcheck_f g hw, ob, bne_neg rfl, table_Drop.L1_eq, place_has g h, ob, bd_neg (by dsimp only; omega), table_Drop.L2_eq, ttwin_f g, ob, e0, ob]
theorem drop_none (g : TGood cap keys bks next used free x prev nxt head tail l) (hw : ∀ c ∈ bks, Z c.2.1 ≤ 9223372036854775807) {key : Int} (h : ∀ p, ¬ Has x key p) : ∃ t' : t5.den, table_Drop.F (cap, keys, bks, (next, used, free, ()), x, (prev, nxt, head, tail, ()), ()) key = some (t', 6, ()) := by
  rw [table_Drop.F_eq, tcheck_f g hw, ob, bne_neg rfl, table_Drop.L1_eq, place_none g h, ob, bd_pos (by decide)]
  exact ⟨_, rfl⟩
/-- The keys, in the order of their use. -/
theorem keys_f (g : TGood cap keys bks next used free x prev nxt head tail l) (hw : ∀ c ∈ bks, Z c.2.1 ≤ 9223372036854775807) : table_Keys.F (cap, keys, bks, (next, used, free, ()), x, (prev, nxt, head, tail, ()), ()) = some (l.map (fun p => keys.getD p.toNat 0), 0, ()) := by
  obtain ⟨l1, l2, l3, l4, l5, l6, l7⟩ := g.lens
  have hs := g.order.short
  rw [table_Keys.F_eq, tcheck_f g hw, ob, bne_neg rfl, table_Keys.L1_eq, lru_List_ok g.order, ob]
  have h2 := loop_go (n := l.length) (L := fun i => table_Keys.L2 (l.length : Int) (i : Int) cap keys bks next used free x prev nxt head tail ((l.take i).map (fun p => keys.getD p.toNat 0)) l) (fun i hi => by
    have hm : l.getD i 0 ∈ l := by rw [getD_get hi]; exact List.getElem_mem hi
    have hr := g.mem_range hm
    try dsimp only
    rw [table_Keys.L2_eq, bd_pos (by omega), table_Keys.L3_eq, bd_pos (by omega)]
    simp only [toNat_cast]
    rw [bd_pos (by omega), lim_small (by decide) (by simp; omega), W_eq (by omega) (by omega), cast_add1, take_snoc hi, List.map_append]
    rfl)
  refine Eq.trans h2 ?_
  try dsimp only
  rw [table_Keys.L2_eq, bd_neg (by omega), List.take_of_length_le (Nat.le_refl _)]
theorem all_used {fl : List Int} (ga : AGood next used free fl) : used.countP id = used.length ↔ fl = [] := by
  constructor
  · intro h
    have h1 := List.countP_eq_length.1 h
    cases fl with
    | nil => rfl
    | cons i fl =>
      have hi := ga.chain.range i List.mem_cons_self
      have hs := ga.same
      have hlt : i.toNat < used.length := by omega
      have := h1 used[i.toNat] (List.getElem_mem hlt)
      rw [← getD_get (d := false) hlt] at this
      have := (ga.mark i.toNat hlt).1 this
      rw [show ((i.toNat : Nat) : Int) = i by omega] at this
      exact absurd List.mem_cons_self this
  · rintro rfl
    refine List.countP_eq_length.2 fun b hb => ?_
    obtain ⟨i, hi, rfl⟩ := List.mem_iff_getElem.1 hb
    have := (ga.mark i hi).2 (by simp)
    rw [getD_get hi] at this
    exact this
theorem free_of {fl : List Int} (ga : AGood next used free fl) {p : Int} (h0 : 0 ≤ p) (h1 : p < used.length) (u : used.getD p.toNat false = false) : ∃ i fl', fl = i :: fl' := by
  cases fl with
  | cons i fl' => exact ⟨i, fl', rfl⟩
  | nil =>
    have := (ga.mark p.toNat (by omega)).2 (by simp)
    rw [u] at this; cases this
end
end Go.Proofs.Ytecbgbfegpnilaa.TB
