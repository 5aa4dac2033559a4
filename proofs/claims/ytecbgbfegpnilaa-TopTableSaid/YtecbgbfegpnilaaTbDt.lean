/- Tables: what dropping a key and using a key make of a valid one. -/
import Derived.Test.YtecbgbfegpnilaaTbDo
import Derived.Test.YtecbgbfegpnilaaTbR2
namespace Go.Proofs.Ytecbgbfegpnilaa.TB
set_option linter.unusedSimpArgs false
set_option linter.unusedVariables false
open Go Go.Proofs Go.Proofs.Ytecbgbfegpnilaa.PM Go.Proofs.Ytecbgbfegpnilaa.RP
section
variable {cap : Int} {keys : List Int} {bks : List t1.den} {next : List Int} {used : List Bool} {free : Int} {x : List t3.den} {prev nxt : List Int} {head tail : Int} {l : List Int}
theorem TGood.lens (g : TGood cap keys bks next used free x prev nxt head tail l) : keys.length = used.length ∧ bks.length = used.length ∧ next.length = used.length ∧ prev.length = used.length ∧ cap = (used.length : Int) ∧ used.length ≤ 8 ∧ 1 ≤ used.length := by
  have a1 := g.nkeys
  have a2 := g.nbks
  have a3 := g.nnext
  have a4 := g.nprev
  have a5 := g.low
  have a6 := g.high
  obtain ⟨_, ga⟩ := g.arena
  have a7 := ga.same
  refine ⟨by omega, by omega, by omega, by omega, by omega, by omega, by omega⟩
theorem TGood.mem_range (g : TGood cap keys bks next used free x prev nxt head tail l) {p : Int} (m : p ∈ l) : 0 ≤ p ∧ p < used.length := by
  have h := g.order.ok.2 p m
  have := g.lens
  omega
theorem TGood.mem_used (g : TGood cap keys bks next used free x prev nxt head tail l) {p : Int} (h0 : 0 ≤ p) (h1 : p < used.length) : used.getD p.toNat false = true ↔ p ∈ l := by
  have := (g.row p.toNat (by omega)).1
  rw [show ((p.toNat : Nat) : Int) = p by omega] at this
  exact this
/-- A place of the list has a cell with its key. -/
theorem TGood.has_of (g : TGood cap keys bks next used free x prev nxt head tail l) {p : Int} (m : p ∈ l) : Has x (keys.getD p.toNat 0) p := by
  have hr := g.mem_range m
  have u := (g.mem_used hr.1 hr.2).2 m
  have := ((g.row p.toNat (by omega)).2.2 u).1
  rw [show ((p.toNat : Nat) : Int) = p by omega] at this
  exact this
theorem TGood.plc (g : TGood cap keys bks next used free x prev nxt head tail l) : ∀ p, (plc x).count p = l.count p := by
  have hcl := count_mem g.order.nodup (fun y hy => g.mem_range hy) (fun i hi => (g.row i hi).1)
  have hc := g.count
  exact count_of_sub g.order.nodup (fun y hy => (mem_plc g.index.len).2 (by
    obtain ⟨j, a, b, c, _, e⟩ := g.has_of hy
    exact ⟨j, a, b, c, e⟩)) (by rw [plc_len]; omega)
theorem TGood.len (g : TGood cap keys bks next used free x prev nxt head tail l) : cnt x = l.length := by
  have hcl := count_mem g.order.nodup (fun y hy => g.mem_range hy) (fun i hi => (g.row i hi).1)
  have hc := g.count
  omega
theorem TGood.has_mem (g : TGood cap keys bks next used free x prev nxt head tail l) {k p : Int} (h : Has x k p) : p ∈ l := by
  obtain ⟨j, a, b, c, _, e⟩ := h
  have h1 : p ∈ TB.plc x := (mem_plc g.index.len).2 ⟨j, a, b, c, e⟩
  have := List.count_pos_iff.2 h1
  rw [g.plc] at this
  exact List.count_pos_iff.1 this
theorem TGood.has_inj (g : TGood cap keys bks next used free x prev nxt head tail l) {k k' p : Int} (h : Has x k p) (h' : Has x k' p) : k = k' := by
  have hnd : (TB.plc x).Nodup := nodup_of_count fun q => by rw [g.plc]; exact List.nodup_iff_count.1 g.order.nodup q
  have hx := g.index.len
  have cell : ∀ j : Int, 0 ≤ j → j < 16 → cl x j ∈ x := fun j h0 h1 => by
    have hj : j.toNat < x.length := by omega
    have e2 := cl_get hj
    rw [show ((j.toNat : Nat) : Int) = j by omega] at e2
    rw [e2]; exact List.getElem_mem hj
  obtain ⟨j, a, b, c, d, e⟩ := h
  obtain ⟨j', a', b', c', d', e'⟩ := h'
  have := inj_of_nodup_map hnd (cl x j) (List.mem_filter.2 ⟨cell j a b, c⟩) (cl x j') (List.mem_filter.2 ⟨cell j' a' b', c'⟩) (e.trans e'.symm)
  rw [← d, ← d', this]
theorem TGood.has_key (g : TGood cap keys bks next used free x prev nxt head tail l) {k p : Int} (h : Has x k p) : keys.getD p.toNat 0 = k := g.has_inj (g.has_of (g.has_mem h)) h
theorem TGood.or_none (g : TGood cap keys bks next used free x prev nxt head tail l) (k : Int) : (∃ p, Has x k p) ∨ ∀ p, ¬ Has x k p := by
  by_cases h : ∃ p, Has x k p
  · exact .inl h
  · exact .inr fun p hp => h ⟨p, hp⟩
theorem place_has (g : TGood cap keys bks next used free x prev nxt head tail l) {k p : Int} (h : Has x k p) : table_place.F (cap, keys, bks, (next, used, free, ()), x, (prev, nxt, head, tail, ()), ()) k = some (p, ()) := by
  rw [table_place.F_eq]
  dsimp only
  rw [find_has g.index h, ob, bne_neg rfl, table_place.L1_eq]
theorem place_none (g : TGood cap keys bks next used free x prev nxt head tail l) {k : Int} (h : ∀ p, ¬ Has x k p) : table_place.F (cap, keys, bks, (next, used, free, ()), x, (prev, nxt, head, tail, ()), ()) k = some (-1, ()) := by
  rw [table_place.F_eq]
  dsimp only
  rw [find_none g.index h, ob, bne_pos (by decide)]
theorem countP_set {u : List Bool} {i : Int} {b : Bool} (h0 : 0 ≤ i) (h1 : i < u.length) : (u.set i.toNat b).countP id + (if u.getD i.toNat false = true then 1 else 0) = u.countP id + (if b = true then 1 else 0) := by
  have hi : i.toNat < u.length := by omega
  rw [List.countP_set hi, getD_get hi]
  simp only [id]
  by_cases h : u[i.toNat] = true
  · have : 0 < u.countP id := List.countP_pos_iff.2 ⟨u[i.toNat], List.getElem_mem _, h⟩
    rw [if_pos h]
    have e : u.countP (fun a => a) = u.countP id := rfl
    omega
  · rw [if_neg h]
    have e : u.countP (fun a => a) = u.countP id := rfl
    omega
/-- What dropping a key that is there makes. -/
theorem table_drop_ok (g : TGood cap keys bks next used free x prev nxt head tail l) {key p : Int} (hh : Has x key p) :
    ∃ (next' : List Int) (used' : List Bool) (free' : Int) (x' : List t3.den) (prev' nxt' : List Int) (head' tail' : Int),
      arena_Give.F (next, used, free, ()) p = some ((next', used', free', ()), 0, ()) ∧ lru_Remove.F (prev, nxt, head, tail, ()) p = some ((prev', nxt', head', tail', ()), 0, ()) ∧ probe_Drop.F x key = some (x', 0, ()) ∧
      table_drop.F (cap, keys, bks, (next, used, free, ()), x, (prev, nxt, head, tail, ()), ()) key = some ((cap, keys.set p.toNat 0, bks.set p.toNat b0_, (next', used', free', ()), x', (prev', nxt', head', tail', ()), ()), ()) ∧
      TGood cap (keys.set p.toNat 0) (bks.set p.toNat b0_) next' used' free' x' prev' nxt' head' tail' (l.erase p) ∧ (∀ k q, Has x' k q ↔ Has x k q ∧ k ≠ key) := by
  have m := g.has_mem hh
  have hr := g.mem_range m
  obtain ⟨l1, l2, l3, l4, l5, l6, l7⟩ := g.lens
  have u := (g.mem_used hr.1 hr.2).2 m
  obtain ⟨fl, ga⟩ := g.arena
  obtain ⟨e1, ga2⟩ := arena_Give_ok ga hr.1 hr.2 u
  obtain ⟨prev', nxt', head', tail', e2, go, hpl⟩ := lru_Remove_ok g.order m
  obtain ⟨x', e3, px, hx, hc⟩ := probe_Drop_ok g.index hh
  have hndl := g.order.nodup
  refine ⟨_, _, _, x', prev', nxt', head', tail', e1, e2, e3, ?_, ⟨g.low, g.high, by rw [List.length_set]; exact g.nkeys, by rw [List.length_set]; exact g.nbks, by rw [List.length_set]; exact g.nnext, by rw [hpl]; exact g.nprev, ⟨_, ga2⟩, px, go, ?_, ?_⟩, hx⟩
  · rw [table_drop.F_eq, place_has g hh, ob, show lru_Remove.F _ _ = _ from e2, ob, show probe_Drop.F _ _ = _ from e3, ob, show arena_Give.F _ _ = _ from e1, ob, bd_pos (by dsimp only; omega), bd_pos (by dsimp only; omega)]
  · intro i hi
    rw [List.length_set] at hi
    obtain ⟨r1, r2, r3⟩ := g.row i hi
    unfold RowOk
    rw [set_nat hr.1 (by omega), set_nat hr.1 (by omega), set_nat hr.1 (by omega), hndl.mem_erase_iff]
    by_cases e : p = (i : Int)
    · rw [if_pos e, if_pos e, if_pos e]
      exact ⟨⟨fun h => (by cases h), fun h => absurd e.symm h.1⟩, fun _ => ⟨rfl, rfl⟩, fun h => (by cases h)⟩
    · rw [if_neg e, if_neg e, if_neg e]
      refine ⟨⟨fun h => ⟨fun q => e q.symm, r1.1 h⟩, fun h => r1.2 h.2⟩, r2, fun h => ?_⟩
      obtain ⟨hcell, hb⟩ := r3 h
      refine ⟨(hx _ _).2 ⟨hcell, fun q => e ?_⟩, hb⟩
      rw [q] at hcell
      exact has_one g.index hh hcell
  · have h1 := countP_set (b := false) hr.1 hr.2
    rw [if_pos u, if_neg (by decide)] at h1
    have h2 := g.count
    omega
/-- What a touched order makes. -/
theorem touch_good (g : TGood cap keys bks next used free x prev nxt head tail l) {p : Int} (m : p ∈ l) :
    ∃ (prev' nxt' : List Int) (head' tail' : Int), lru_Touch.F (prev, nxt, head, tail, ()) p = some ((prev', nxt', head', tail', ()), 0, ()) ∧ TGood cap keys bks next used free x prev' nxt' head' tail' (p :: l.erase p) := by
  have hr := g.mem_range m
  obtain ⟨l1, l2, l3, l4, l5, l6, l7⟩ := g.lens
  obtain ⟨prev', nxt', head', tail', e2, go, hpl⟩ := lru_Touch_ok g.order hr.1 (by omega)
  refine ⟨prev', nxt', head', tail', e2, ⟨g.low, g.high, g.nkeys, g.nbks, g.nnext, by rw [hpl]; exact g.nprev, g.arena, g.index, go, fun i hi => ?_, g.count⟩⟩
  obtain ⟨r1, r2, r3⟩ := g.row i hi
  refine ⟨r1.trans ?_, r2, r3⟩
  rw [List.mem_cons, g.order.nodup.mem_erase_iff]
  constructor
  · intro h
    by_cases e : (i : Int) = p
    · exact .inl e
    · exact .inr ⟨e, h⟩
  · rintro (h | h)
    · rw [h]; exact m
    · exact h.2
/-- What a new key in a free place makes. -/
theorem insert_good (g : TGood cap keys bks next used free x prev nxt head tail l) {key : Int} {b : t1.den} (hb : BktOk b) (n : ∀ p, ¬ Has x key p) {i : Int} {fl : List Int} (ga : AGood next used free (i :: fl)) :
    ∃ (next' : List Int) (used' : List Bool) (free' : Int) (x' : List t3.den) (prev' nxt' : List Int) (head' tail' : Int),
      arena_Take.F (next, used, free, ()) = some ((next', used', free', ()), i, 0, ()) ∧ probe_Put.F x key i = some (x', 0, ()) ∧ lru_Touch.F (prev, nxt, head, tail, ()) i = some ((prev', nxt', head', tail', ()), 0, ()) ∧
      TGood cap (keys.set i.toNat key) (bks.set i.toNat b) next' used' free' x' prev' nxt' head' tail' (i :: l) ∧ (∀ k q, Has x' k q ↔ Has x k q ∨ (k = key ∧ q = i)) ∧ 0 ≤ i ∧ i < used.length := by
  obtain ⟨l1, l2, l3, l4, l5, l6, l7⟩ := g.lens
  obtain ⟨e1, ga2, i0, i1, hu⟩ := arena_Take_ok ga
  have nm : i ∉ l := fun m => by
    have := (g.mem_used i0 i1).2 m
    rw [hu] at this; cases this
  have hlen := g.len
  have hll := g.order.ok.len
  obtain ⟨x', e3, px, hx, hc⟩ := probe_Put_ok g.index (key := key) (place := i) n i0 (by omega) (by omega)
  obtain ⟨prev', nxt', head', tail', e2, go, hpl⟩ := lru_Touch_ok g.order i0 (by omega)
  rw [List.erase_of_not_mem nm] at go
  refine ⟨_, _, _, x', prev', nxt', head', tail', e1, e3, e2, ⟨g.low, g.high, by rw [List.length_set]; exact g.nkeys, by rw [List.length_set]; exact g.nbks, by rw [List.length_set]; exact g.nnext, by rw [hpl]; exact g.nprev, ⟨_, ga2⟩, px, go, ?_, ?_⟩, hx, i0, i1⟩
  · intro j hj
    rw [List.length_set] at hj
    obtain ⟨r1, r2, r3⟩ := g.row j hj
    unfold RowOk
    rw [set_nat i0 (by omega), set_nat i0 (by omega), set_nat i0 (by omega), List.mem_cons]
    by_cases e : i = (j : Int)
    · rw [if_pos e, if_pos e, if_pos e]
      exact ⟨⟨fun _ => .inl e.symm, fun _ => rfl⟩, fun h => (by cases h), fun _ => ⟨(hx _ _).2 (.inr ⟨rfl, e.symm⟩), hb⟩⟩
    · rw [if_neg e, if_neg e, if_neg e]
      refine ⟨⟨fun h => .inr (r1.1 h), fun h => r1.2 (h.resolve_left fun q => e q.symm)⟩, r2, fun h => ?_⟩
      obtain ⟨hcell, hb⟩ := r3 h
      exact ⟨(hx _ _).2 (.inl hcell), hb⟩
  · have h1 := countP_set (b := true) i0 i1
    rw [if_neg (by rw [hu]; decide), if_pos rfl] at h1
    have h2 := g.count
    omega
theorem ttwin_f (g : TGood cap keys bks next used free x prev nxt head tail l) : table_twin.F (cap, keys, bks, (next, used, free, ()), x, (prev, nxt, head, tail, ()), ()) = some ((cap, keys, bks, (next, used, free, ()), x, (prev, nxt, head, tail, ()), ()), ()) := by
  obtain ⟨l1, l2, l3, l4, l5, l6, l7⟩ := g.lens
  have h1 := g.index.len
  have h2 := g.order.same
  rw [table_twin.F_eq]
  dsimp only
  rw [lim_small (by decide) (by omega), lim_small (by decide) (by omega), lim_small (by decide) (by omega), lim_small (by decide) (by omega), lim_small (by decide) (by omega), lim_small (by decide) (by omega), lim_small (by decide) (by omega)]
end
end Go.Proofs.Ytecbgbfegpnilaa.TB
