/- Valid tables: keys and places. -/
import Derived.Test.YtkihjakbbcajbaaTbR3
namespace Go.Proofs.Ytkihjakbbcajbaa.TB
set_option linter.unusedSimpArgs false
set_option linter.unusedVariables false
open Go Go.Proofs Go.Proofs.Ytkihjakbbcajbaa.PM Go.Proofs.Ytkihjakbbcajbaa.RP
/-- The index has the key with the place. -/
def Has (x : List t3.den) (key place : Int) : Prop := ∃ m : Int, 0 ≤ m ∧ m < 16 ∧ (cl x m).2.2.1 = true ∧ (cl x m).1 = key ∧ (cl x m).2.1 = place
theorem has_place {x : List t3.den} (h : POk x) {key place : Int} (hh : Has x key place) : 0 ≤ place ∧ place < 16 := by
  obtain ⟨m, a, b, u, _, e⟩ := hh
  rw [← e]; exact h.place m a b u
theorem has_one {x : List t3.den} (h : POk x) {key p q : Int} (hp : Has x key p) (hq : Has x key q) : p = q := by
  obtain ⟨m, a, b, u, e, f⟩ := hp
  obtain ⟨m', a', b', u', e', f'⟩ := hq
  have := h.uniq m m' a b a' b' u u' (by rw [e, e'])
  subst this; rw [← f, ← f']

theorem find_has {x : List t3.den} (h : POk x) {key place : Int} (hh : Has x key place) : probe_Find.F x key = some (place, 0, ()) := by
  rcases probe_Find_ok h key with ⟨i, i0, i1, u, e, f⟩ | ⟨n, _⟩
  · rw [f, has_one h (p := (cl x i).2.1) ⟨i, i0, i1, u, e, rfl⟩ hh]
  · obtain ⟨m, m0, m1, mu, mk, _⟩ := hh
    exact absurd ⟨mu, mk⟩ (n m m0 m1)
theorem find_none {x : List t3.den} (h : POk x) {key : Int} (hh : ∀ p, ¬ Has x key p) : probe_Find.F x key = some (0, 6, ()) := by
  rcases probe_Find_ok h key with ⟨i, i0, i1, u, e, f⟩ | ⟨n, f⟩
  · exact absurd ⟨i, i0, i1, u, e, rfl⟩ (hh _)
  · exact f
section
variable {cap : Int} {keys : List Int} {bks : List t1.den} {next : List Int} {used : List Bool} {free : Int} {x : List t3.den} {prev nxt : List Int} {head tail : Int} {l : List Int}
theorem TGood.lens (g : TGood cap keys bks next used free x prev nxt head tail l) : keys.length = used.length ∧ bks.length = used.length ∧ next.length = used.length ∧ prev.length = used.length ∧ cap = (used.length : Int) ∧ used.length ≤ 8 ∧ 1 ≤ used.length := by
  have a1 := g.nkeys
  have a2 := g.nbks
  have a3 := g.nnext
  have a4 := g.nprev
  have a5 := g.low
  have a6 := g.high
  obtain ⟨_, ga⟩ := g.arena
  have a7 := ga.same
  refine ⟨by omega, by omega, by omega, by omega, by omega, by omega, by omega⟩
theorem TGood.mem_range (g : TGood cap keys bks next used free x prev nxt head tail l) {p : Int} (m : p ∈ l) : 0 ≤ p ∧ p < used.length := by
  have h := g.order.ok.2 p m
  have := g.lens
  omega
theorem TGood.mem_used (g : TGood cap keys bks next used free x prev nxt head tail l) {p : Int} (h0 : 0 ≤ p) (h1 : p < used.length) : used.getD p.toNat false = true ↔ p ∈ l := by
  have := (g.row p.toNat (by omega)).1
  rw [show ((p.toNat : Nat) : Int) = p by omega] at this
  exact this
/-- A place of the list has a cell with its key. -/
theorem TGood.has_of (g : TGood cap keys bks next used free x prev nxt head tail l) {p : Int} (m : p ∈ l) : Has x (keys.getD p.toNat 0) p := by
  have hr := g.mem_range m
  have u := (g.mem_used hr.1 hr.2).2 m
  have := ((g.row p.toNat (by omega)).2.2 u).1
  rw [show ((p.toNat : Nat) : Int) = p by omega] at this
  exact this
theorem TGood.plc (g : TGood cap keys bks next used free x prev nxt head tail l) : ∀ p, (plc x).count p = l.count p := by
  have hcl := count_mem g.order.nodup (fun y hy => g.mem_range hy) (fun i hi => (g.row i hi).1)
  have hc := g.count
  exact count_of_sub g.order.nodup (fun y hy => (mem_plc g.index.len).2 (by
    obtain ⟨j, a, b, c, _, e⟩ := g.has_of hy
    exact ⟨j, a, b, c, e⟩)) (by rw [plc_len]; omega)
theorem TGood.len (g : TGood cap keys bks next used free x prev nxt head tail l) : cnt x = l.length := by
  have hcl := count_mem g.order.nodup (fun y hy => g.mem_range hy) (fun i hi => (g.row i hi).1)
  have hc := g.count
  omega
theorem TGood.has_mem (g : TGood cap keys bks next used free x prev nxt head tail l) {k p : Int} (h : Has x k p) : p ∈ l := by
  obtain ⟨j, a, b, c, _, e⟩ := h
  have h1 : p ∈ TB.plc x := (mem_plc g.index.len).2 ⟨j, a, b, c, e⟩
  have := List.count_pos_iff.2 h1
  rw [g.plc] at this
  exact List.count_pos_iff.1 this
theorem TGood.has_inj (g : TGood cap keys bks next used free x prev nxt head tail l) {k k' p : Int} (h : Has x k p) (h' : Has x k' p) : k = k' := by
  have hnd : (TB.plc x).Nodup := nodup_of_count fun q => by rw [g.plc]; exact List.nodup_iff_count.1 g.order.nodup q
  have hx := g.index.len
  have cell : ∀ j : Int, 0 ≤ j → j < 16 → cl x j ∈ x := fun j h0 h1 => by
    have hj : j.toNat < x.length := by omega
    have e2 := cl_get hj
    rw [show ((j.toNat : Nat) : Int) = j by omega] at e2
    rw [e2]; exact List.getElem_mem hj
  obtain ⟨j, a, b, c, d, e⟩ := h
  obtain ⟨j', a', b', c', d', e'⟩ := h'
  have := inj_of_nodup_map hnd (cl x j) (List.mem_filter.2 ⟨cell j a b, c⟩) (cl x j') (List.mem_filter.2 ⟨cell j' a' b', c'⟩) (e.trans e'.symm)
  rw [← d, ← d', this]
theorem TGood.has_key (g : TGood cap keys bks next used free x prev nxt head tail l) {k p : Int} (h : Has x k p) : keys.getD p.toNat 0 = k := g.has_inj (g.has_of (g.has_mem h)) h
theorem TGood.or_none (g : TGood cap keys bks next used free x prev nxt head tail l) (k : Int) : (∃ p, Has x k p) ∨ ∀ p, ¬ Has x k p := by
  by_cases h : ∃ p, Has x k p
  · exact .inl h
  · exact .inr fun p hp => h ⟨p, hp⟩
theorem place_has (g : TGood cap keys bks next used free x prev nxt head tail l) {k p : Int} (h : Has x k p) : table_place.F (cap, keys, bks, (next, used, free, ()), x, (prev, nxt, head, tail, ()), ()) k = some (p, ()) := by
  rw [table_place.F_eq]
  dsimp only
  rw [find_has g.index h, ob, bne_neg rfl, table_place.L1_eq]
theorem place_none (g : TGood cap keys bks next used free x prev nxt head tail l) {k : Int} (h : ∀ p, ¬ Has x k p) : table_place.F (cap, keys, bks, (next, used, free, ()), x, (prev, nxt, head, tail, ()), ()) k = some (-1, ()) := by
  rw [table_place.F_eq]
  dsimp only
  rw [find_none g.index h, ob, bne_pos (by decide)]
theorem tcheck_f (g : TGood cap keys bks next used free x prev nxt head tail l) (hw : ∀ c ∈ bks, Z c.2.1 ≤ 9223372036854775807) : table_Check.F (cap, keys, bks, (next, used, free, ()), x, (prev, nxt, head, tail, ()), ()) = some (0, ()) := (table_says _ hw).yes ⟨l, g⟩
/-- The keys, in the order of their use. -/
theorem keys_f (g : TGood cap keys bks next used free x prev nxt head tail l) (hw : ∀ c ∈ bks, Z c.2.1 ≤ 9223372036854775807) : table_Keys.F (cap, keys, bks, (next, used, free, ()), x, (prev, nxt, head, tail, ()), ()) = some (l.map (fun p => keys.getD p.toNat 0), 0, ()) := by
  obtain ⟨l1, l2, l3, l4, l5, l6, l7⟩ := g.lens
  have hs := g.order.short
  rw [table_Keys.F_eq, tcheck_f g hw, ob, bne_neg rfl, table_Keys.L1_eq, lru_List_ok g.order, ob]
  have h2 := loop_go (n := l.length) (L := fun i => table_Keys.L2 (l.length : Int) (i : Int) cap keys bks next used free x prev nxt head tail ((l.take i).map (fun p => keys.getD p.toNat 0)) l) (fun i hi => by
    have hm : l.getD i 0 ∈ l := by rw [getD_get hi]; exact List.getElem_mem hi
    have hr := g.mem_range hm
    try dsimp only
    rw [table_Keys.L2_eq, bd_pos (by omega), table_Keys.L3_eq, bd_pos (by omega)]
    simp only [toNat_cast]
    rw [bd_pos (by omega), lim_small (by decide) (by simp; omega), W_eq (by omega) (by omega), cast_add1, take_snoc hi, List.map_append]
    rfl)
  refine Eq.trans h2 ?_
  try dsimp only
  rw [table_Keys.L2_eq, bd_neg (by omega), List.take_of_length_le (Nat.le_refl _)]
end
end Go.Proofs.Ytkihjakbbcajbaa.TB
