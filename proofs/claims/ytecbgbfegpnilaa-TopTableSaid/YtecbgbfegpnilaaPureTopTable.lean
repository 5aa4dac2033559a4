/- The law TopTable in plain words, for all that an argument may hold. -/
import Derived.Test.YtecbgbfegpnilaaTopP
import Derived.Test.YtecbgbfegpnilaaPM29
namespace Go.Proofs.Ytecbgbfegpnilaa.TB
set_option linter.unusedSimpArgs false
set_option linter.unusedVariables false
open Go Go.Proofs Go.Proofs.Ytecbgbfegpnilaa.PM Go.Proofs.Ytecbgbfegpnilaa.RP
theorem out16_f {a a' : t2.den} {o o' : t4.den} {x x' : List t3.den} {key p : Int} (e1 : arena_Give.F a p = some (a', 0, ())) (e2 : lru_Remove.F o p = some (o', 0, ())) (e3 : probe_Drop.F x key = some (x', 0, ())) : spigottop_out16.F a o x key p = some (a', o', x', true, ()) := by
  rw [spigottop_out16.F_eq, e1, ob, e2, ob, e3, ob, beq_pos rfl, beq_pos rfl]
  rfl
theorem in16_f {a a' : t2.den} {x x' : List t3.den} {key p : Int} (e1 : arena_Take.F a = some (a', p, 0, ())) (e3 : probe_Put.F x key p = some (x', 0, ())) : spigottop_in16.F a x key = some (a', x', p, true, ()) := by
  rw [spigottop_in16.F_eq, e1, ob, e3, ob, beq_pos rfl]
  rfl
section
variable {ks : List Int} {drop : List Bool}
/-- A round's end: the parts are the same, and the rounds go on. -/
theorem top_l10 {cap : Int} {keys : List Int} {bks : List t1.den} {next : List Int} {used : List Bool} {free : Int} {x : List t3.den} {prev nxt : List Int} {head tail : Int} {l : List Int}
    (g : TGood cap keys bks next used free x prev nxt head tail l) (w : Plus bks x) {i : Nat} (hi : i < 1000) (go : spigottop_TopTable.L3 cap ks drop true ((i + 1 : Nat) : Int) cap free head tail free head tail x keys bks next used x prev nxt next used prev nxt = some (true, ())) :
    spigottop_TopTable.L10 cap ks drop true (i : Int) cap free head tail free head tail x keys bks next used x prev nxt next used prev nxt = some (true, ()) := by
  rw [spigottop_TopTable.L10_eq, same16_f g w, ob, bnt rfl, spigottop_TopTable.L11_eq, W_eq (by omega) (by omega), cast_add1]
  exact go
theorem plus_set {bks : List t1.den} {x : List t3.den} (w : Plus bks x) {p : Nat} {b : t1.den} (hb : Z b.2.1 ≤ 9223372036854775807) {x' : List t3.den} (hx : ∀ k q, Has x' k q → 0 ≤ k ∧ k < 4294967296) : Plus (bks.set p b) x' where
  keys := hx
  lev c hc := by
    rcases List.mem_or_eq_of_mem_set hc with h | rfl
    · exact w.lev c h
    · exact hb
theorem top_loop (hk : ∀ k ∈ ks, 0 ≤ k ∧ k < 4294967296) (hl : ks.length ≤ 40) (hd : drop.length = ks.length) : ∀ (m i : Nat) (cap : Int) (keys : List Int) (bks : List t1.den) (next : List Int) (used : List Bool) (free : Int) (x : List t3.den) (prev nxt : List Int) (head tail : Int) (l : List Int),
    i + m = ks.length → TGood cap keys bks next used free x prev nxt head tail l → Plus bks x →
    spigottop_TopTable.L3 cap ks drop true (i : Int) cap free head tail free head tail x keys bks next used x prev nxt next used prev nxt = some (true, ())
  | 0, i, cap, keys, bks, next, used, free, x, prev, nxt, head, tail, l, hi, g, w => by
    rw [spigottop_TopTable.L3_eq, bd_neg (by omega)]
  | m + 1, i, cap, keys, bks, next, used, free, x, prev, nxt, head, tail, l, hi, g, w => by
    have hlt : i < ks.length := by omega
    have hkey := hk _ (List.getElem_mem hlt)
    rw [spigottop_TopTable.L3_eq, bd_pos (by omega), spigottop_TopTable.L4_eq, bd_pos (by omega)]
    simp only [toNat_cast]
    rw [getD_get hlt]
    generalize ks[i] = key at hkey
    have b0l : Z b0_.2.1 ≤ 9223372036854775807 := by decide
    by_cases dr : drop.getD i false = true
    · rcases g.or_none key with ⟨p, hp⟩ | hn
      · obtain ⟨next', used', free', x', prev', nxt', head', tail', e1, e2, e3, e4, g', hx'⟩ := table_drop_ok g hp
        have w' : Plus (bks.set p.toNat b0_) x' := plus_set w b0l fun k q h => w.keys k q ((hx' k q).1 h).1
        have go := top_loop hk hl hd m (i + 1) _ _ _ _ _ _ _ _ _ _ _ _ (by omega) g' w'
        rw [find_has g.index hp, ob, bd_pos (by omega), bt dr, drop_has g w.lev hp e4, ob, bne_neg rfl, spigottop_TopTable.L5_eq, bne_neg rfl, spigottop_TopTable.L16_eq, out16_f e1 e2 e3, ob, bnt rfl, spigottop_TopTable.L17_eq]
        exact top_l10 g' w' (by omega) go
      · have go := top_loop hk hl hd m (i + 1) cap keys bks next used free x prev nxt head tail l (by omega) g w
        obtain ⟨t', e⟩ := drop_none g w.lev hn
        rw [find_none g.index hn, ob, bd_pos (by omega), bt dr, e, ob, bne_neg rfl, spigottop_TopTable.L5_eq, bne_pos (by dsimp only; decide), W_eq (by omega) (by omega), cast_add1]
        exact go
    · have et : IntKind.wrap .u64 (i : Int) = (i : Int) := by rw [IntKind.wrap_u64]; omega
      rcases g.or_none key with ⟨p, hp⟩ | hn
      · obtain ⟨prev', nxt', head', tail', e2, g'⟩ := touch_good g (g.has_mem hp)
        have go := top_loop hk hl hd m (i + 1) _ _ _ _ _ _ _ _ _ _ _ _ (by omega) g' w
        rw [find_has g.index hp, ob, bd_pos (by omega), bf (bool_not dr), spigottop_limit16.F_eq, ob]
        dsimp only
        rw [use_has g w.lev lim16 _ hp e2, ob, bne_neg rfl, spigottop_TopTable.L6_eq, bne_neg rfl, spigottop_TopTable.L8_eq, e2, ob, bne_neg rfl, spigottop_TopTable.L9_eq]
        exact top_l10 g' w (by omega) go
      · rw [find_none g.index hn, ob, bd_pos (by omega), bf (bool_not dr), spigottop_limit16.F_eq, ob, et]
        dsimp only
        obtain ⟨fl, ga⟩ := g.arena
        obtain ⟨kk, ec⟩ := arena_Count_ok ga
        obtain ⟨l1, l2, l3, l4, l5, l6, l7⟩ := g.lens
        cases fl with
        | cons q fl =>
          obtain ⟨next', used', free', x', prev', nxt', head', tail', e1, e2, e3, g', hx', i0, i1⟩ := insert_good g (key := key) (full_ok lim16 (i : Int)) hn ga
          have w' : Plus (bks.set q.toNat (fullB (9, 2, 3, ()) (i : Int))) x' := plus_set w (full_lev lim16 _) fun k r h => by
            rcases (hx' k r).1 h with h | ⟨rfl, _⟩
            · exact w.keys k r h
            · exact hkey
          have go := top_loop hk hl hd m (i + 1) _ _ _ _ _ _ _ _ _ _ _ _ (by omega) g' w'
          have hcnt : ((used.countP id : Nat) : Int) ≠ cap := fun h => by
            have := (all_used ga).1 (by omega)
            cases this
          have hb : (((used.countP id : Nat) : Int) == cap) = false := by simpa using hcnt
          rw [use_new g w.lev lim16 _ hn e1 e2 e3 i0 i1, ob, bne_neg rfl, spigottop_TopTable.L6_eq, bne_pos (by decide), ec, ob, bne_neg rfl]
          dsimp only
          rw [hb, bnt (by rfl), spigottop_TopTable.L7_eq, bf rfl, spigottop_TopTable.L13_eq, in16_f e1 e2, ob, bnt rfl, spigottop_TopTable.L14_eq, spigottop_TopTable.L8_eq, e3, ob, bne_neg rfl, spigottop_TopTable.L9_eq]
          exact top_l10 g' w' (by omega) go
        | nil =>
          have hcnt : ((used.countP id : Nat) : Int) = cap := by
            have := (all_used ga).2 rfl
            omega
          have hb : (((used.countP id : Nat) : Int) == cap) = true := beq_iff_eq.2 hcnt
          have hne : l ≠ [] := by
            rintro rfl
            have h1 := count_mem g.order.nodup (fun y hy => g.mem_range hy) (fun i hi => (g.row i hi).1)
            have h2 : used.countP id = 0 := h1
            omega
          have elast := lru_Last_ok g.order hne
          have mlast := lst_mem hne (-1)
          generalize lst (-1) l = p at elast mlast
          have hr := g.mem_range mlast
          have hp := g.has_of mlast
          obtain ⟨next1, used1, free1, x1, prev1, nxt1, head1, tail1, d1, d2, d3, d4, g1, hx1⟩ := table_drop_ok g hp
          obtain ⟨fl1, ga1⟩ := g1.arena
          have hlen1 := g1.lens
          rw [List.length_set, List.length_set] at hlen1
          have u1 : used1.getD p.toNat false = false := by
            apply bool_not
            intro h
            have := (g1.mem_used hr.1 (by omega)).1 h
            exact ((g.order.nodup.mem_erase_iff).1 this).1 rfl
          obtain ⟨q, fl2, rfl⟩ := free_of ga1 hr.1 (by omega) u1
          have hn1 : ∀ r, ¬ Has x1 key r := fun r h => hn r ((hx1 key r).1 h).1
          obtain ⟨next', used', free', x', prev', nxt', head', tail', e1, e2, e3, g', hx', i0, i1⟩ := insert_good g1 (key := key) (full_ok lim16 (i : Int)) hn1 ga1
          have w1 : Plus (bks.set p.toNat b0_) x1 := plus_set w b0l fun k q h => w.keys k q ((hx1 k q).1 h).1
          have w' : Plus ((bks.set p.toNat b0_).set q.toNat (fullB (9, 2, 3, ()) (i : Int))) x' := plus_set w1 (full_lev lim16 _) fun k r h => by
            rcases (hx' k r).1 h with h | ⟨rfl, _⟩
            · exact w1.keys k r h
            · exact hkey
          have go := top_loop hk hl hd m (i + 1) _ _ _ _ _ _ _ _ _ _ _ _ (by omega) g' w'
          rw [use_evict g w.lev lim16 _ hn ga elast hr.1 hr.2 d4 e1 e2 e3 i0 (by rw [List.length_set]; omega) (by rw [List.length_set]; omega), ob, bne_neg rfl, spigottop_TopTable.L6_eq, bne_pos (by decide), ec, ob, bne_neg rfl]
          dsimp only
          rw [hb, bnt (by rfl), spigottop_TopTable.L7_eq, bt rfl, elast, ob, find_has g.index hp, ob, bne_neg rfl, bne_neg rfl, bne_neg rfl, spigottop_TopTable.L12_eq, out16_f d1 d2 d3, ob, bnt rfl, spigottop_TopTable.L15_eq, spigottop_TopTable.L13_eq, in16_f e1 e2, ob, bnt rfl, spigottop_TopTable.L14_eq, spigottop_TopTable.L8_eq, e3, ob, bne_neg rfl, spigottop_TopTable.L9_eq]
          exact top_l10 g' w' (by omega) go
theorem top_F (c : Int) (hk : ∀ k ∈ ks, 0 ≤ k ∧ k < 4294967296) : spigottop_TopTable.F c ks drop = some (true, ()) := by
  obtain ⟨r1, h1⟩ := table_some c
  obtain ⟨r2, h2⟩ := arena_some c
  obtain ⟨r3, h3⟩ := lru_some c
  rw [spigottop_TopTable.F_eq, alive16_f, ob, h1, ob, h2, ob, h3, ob]
  by_cases c1 : c < 1
  · rw [bd_pos c1]
  by_cases c2 : c > 8
  · rw [bd_neg c1, bd_pos c2]
  by_cases c3 : (ks.length : Int) > 40
  · rw [bd_neg c1, bd_neg c2, bd_pos c3]
  by_cases c4 : (drop.length : Int) = (ks.length : Int)
  · obtain ⟨n, rfl⟩ : ∃ n : Nat, c = (n : Int) := ⟨c.toNat, by omega⟩
    rw [table_New_f (by omega) (by omega)] at h1
    rw [arena_New_f (by omega) (by omega)] at h2
    rw [lru_New_f (by omega) (by omega)] at h3
    obtain rfl := Option.some.inj h1
    obtain rfl := Option.some.inj h2
    obtain rfl := Option.some.inj h3
    rw [bd_neg c1, bd_neg c2, bd_neg c3, bne_neg c4, bnt rfl, spigottop_TopTable.L1_eq, probe_New_f, ob, bne_neg rfl, bne_neg rfl, bne_neg rfl, spigottop_TopTable.L2_eq]
    exact top_loop hk (by omega) (by omega) ks.length 0 (n : Int) (List.replicate n 0) (List.replicate n b0_) (newN n) (List.replicate n false) 0 (List.replicate 16 c0_) (PV n []) (NX n []) (-1) (-1) [] (by omega) (new_table (by omega) (by omega)) ⟨fun k p h => absurd h (new_none k p), new_lev n⟩
  · rw [bd_neg c1, bd_neg c2, bd_neg c3, bne_pos c4]
end
theorem wf_u32 {x : Int} (h : (Lit.int .u32 x).wf = true) : 0 ≤ x ∧ x < 4294967296 := by
  simp only [Lit.wf, Bool.and_eq_true, decide_eq_true_eq] at h
  have a : IntKind.u32.min = 0 := by decide
  have b : IntKind.u32.max = 4294967295 := by decide
  omega
end Go.Proofs.Ytecbgbfegpnilaa.TB
namespace Go.Proofs.Ytecbgbfegpnilaa.PM
set_option linter.unusedVariables false
open Go Go.Proofs Go.Proofs.Ytecbgbfegpnilaa.TB
theorem Pure.topTable : ∀ x, argsWf spigottop_TopTable.sg.ps x → spigottop_TopTable.Fn.F x = some (true, ())
  | ⟨c, ks, drop, _⟩, hx => top_F c fun k h => wf_u32 (hx.2.1.2 k h)
end Go.Proofs.Ytecbgbfegpnilaa.PM
