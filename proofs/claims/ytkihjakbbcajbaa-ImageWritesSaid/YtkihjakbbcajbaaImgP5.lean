/- Images: the model of a valid server, by the program and by the answer. -/
import Derived.Test.YtkihjakbbcajbaaImgP2
namespace Go.Proofs.Ytkihjakbbcajbaa.TB
set_option linter.unusedSimpArgs false
set_option linter.unusedVariables false
open Go Go.Proofs Go.Proofs.Ytkihjakbbcajbaa.PM Go.Proofs.Ytkihjakbbcajbaa.RP
section
variable {cap : Int} {keys : List Int} {bks : List t1.den} {next : List Int} {used : List Bool} {free : Int} {x : List t3.den} {prev nxt : List Int} {head tail : Int} {l : List Int}
theorem at16_f (g : TGood cap keys bks next used free x prev nxt head tail l) {key p : Int} (h : Has x key p) : spigotref16_At.F (cap, keys, bks, (next, used, free, ()), x, (prev, nxt, head, tail, ()), ()) key = some (p, ()) := by
  obtain ⟨l1, l2, l3, l4, l5, l6, l7⟩ := g.lens
  have hr := g.mem_range (g.has_mem h)
  rw [spigotref16_At.F_eq]
  dsimp only
  rcases find_loop (n := used.length) (L := fun i => spigotref16_At.L1 key (i : Int) cap keys bks next used free x prev nxt head tail) (p := fun i : Nat => used.getD i false = true ∧ keys.getD i 0 = key) (hit := fun i => some ((i : Int), ())) (miss := some (-1, ())) (fun i hi => by
    try dsimp only
    rw [spigotref16_At.L1_eq, bd_pos (by omega), spigotref16_At.L2_eq, bd_pos (by omega)]
    simp only [toNat_cast]
    have nx_ : spigotref16_At.L3 key (i : Int) cap keys bks next used free x prev nxt head tail = spigotref16_At.L1 key ((i + 1 : Nat) : Int) cap keys bks next used free x prev nxt head tail := by
      rw [spigotref16_At.L3_eq, W_eq (by omega) (by omega), cast_add1]
    by_cases u : used.getD i false = true
    · rw [bt u, bd_pos (by omega)]
      by_cases e : keys.getD i 0 = key
      · rw [beq_pos e]; exact .inl ⟨⟨u, e⟩, rfl⟩
      · rw [beq_neg e, nx_]; exact .inr ⟨fun z => e z.2, rfl⟩
    · rw [bf (bool_not u), nx_]; exact .inr ⟨fun z => u z.1, rfl⟩) (by
    try dsimp only
    rw [spigotref16_At.L1_eq, bd_neg (by omega)]) with ⟨i, hi, ⟨h1, h2⟩, _, e⟩ | ⟨h1, e⟩
  · have m : (i : Int) ∈ l := (g.row i hi).1.1 h1
    have h3 := g.has_of m
    rw [toNat_cast, h2] at h3
    rw [has_one g.index h h3]
    exact e
  · refine absurd ⟨(g.mem_used hr.1 hr.2).2 (g.has_mem h), g.has_key h⟩ (h1 p.toNat (by omega))
theorem listed_f (g : TGood cap keys bks next used free x prev nxt head tail l) : spigotref16_Listed.F (cap, keys, bks, (next, used, free, ()), x, (prev, nxt, head, tail, ()), ()) = some (l.map (fun p => keys.getD p.toNat 0), ()) := by
  obtain ⟨l1, l2, l3, l4, l5, l6, l7⟩ := g.lens
  have hs := g.order.short
  rw [spigotref16_Listed.F_eq]
  dsimp only
  rw [all_good g.order, ob]
  dsimp only
  have h2 := loop_go (n := l.length) (L := fun i => spigotref16_Listed.L1 (i : Int) cap keys bks next used free x prev nxt head tail l ((l.take i).map (fun p => keys.getD p.toNat 0))) (fun i hi => by
    have hm : l.getD i 0 ∈ l := by rw [getD_get hi]; exact List.getElem_mem hi
    have hr := g.mem_range hm
    try dsimp only
    rw [spigotref16_Listed.L1_eq, bd_pos (by omega), spigotref16_Listed.L2_eq, bd_pos (by omega)]
    simp only [toNat_cast]
    rw [bd_pos (by omega), lim_small (by decide) (by simp; omega), W_eq (by omega) (by omega), cast_add1, take_snoc hi, List.map_append]
    rfl)
  refine Eq.trans h2 ?_
  try dsimp only
  rw [spigotref16_Listed.L1_eq, bd_neg (by omega), List.take_of_length_le (Nat.le_refl _)]
/-- The keys of a table with their buckets. -/
noncomputable def hd_ (keys : List Int) (bks : List t1.den) (p : Int) : t9.den := (keys.getD p.toNat 0, bks.getD p.toNat b0_, ())
theorem held26_f (g : TGood cap keys bks next used free x prev nxt head tail l) : spigotref26_held.F (cap, keys, bks, (next, used, free, ()), x, (prev, nxt, head, tail, ()), ()) = some (l.map (hd_ keys bks), ()) := by
  obtain ⟨l1, l2, l3, l4, l5, l6, l7⟩ := g.lens
  have hs := g.order.short
  rw [spigotref26_held.F_eq, listed_f g, ob]
  dsimp only
  have h2 := loop_go (n := l.length) (L := fun i => spigotref26_held.L1 (i : Int) cap keys bks next used free x prev nxt head tail (l.map (fun p => keys.getD p.toNat 0)) ((l.take i).map (hd_ keys bks))) (fun i hi => by
    have hm : l[i] ∈ l := List.getElem_mem hi
    have hr := g.mem_range hm
    have e3 : (l.map (fun p => keys.getD p.toNat 0)).getD i 0 = keys.getD (l[i]).toNat 0 := by
      rw [getD_get (by rw [List.length_map]; exact hi), List.getElem_map]
    try dsimp only
    rw [spigotref26_held.L1_eq, bd_pos (by rw [List.length_map]; omega), spigotref26_held.L2_eq, bd_pos (by rw [List.length_map]; omega), bd_pos (by rw [List.length_map]; omega)]
    simp only [toNat_cast]
    rw [e3, at16_f g (g.has_of hm), ob]
    dsimp only
    rw [bd_pos (by omega), lim_small (by decide) (by simp; omega), W_eq (by omega) (by omega), cast_add1, ← List.take_append_getElem hi, List.map_append]
    rfl)
  refine Eq.trans h2 ?_
  try dsimp only
  rw [spigotref26_held.L1_eq, bd_neg (by rw [List.length_map]; omega), List.take_of_length_le (Nat.le_refl _)]
theorem rheld_f (g : TGood cap keys bks next used free x prev nxt head tail l) (hw : ∀ c ∈ bks, Z c.2.1 ≤ 9223372036854775807) : refine_held.F (cap, keys, bks, (next, used, free, ()), x, (prev, nxt, head, tail, ()), ()) = some (l.map (hd_ keys bks), ()) := by
  obtain ⟨l1, l2, l3, l4, l5, l6, l7⟩ := g.lens
  have hs := g.order.short
  rw [refine_held.F_eq, keys_f g hw, ob]
  dsimp only
  have h2 := loop_go (n := l.length) (L := fun i => refine_held.L1 ((l.map (fun p => keys.getD p.toNat 0)).length : Int) (i : Int) cap keys bks next used free x prev nxt head tail ((l.take i).map (hd_ keys bks)) (l.map (fun p => keys.getD p.toNat 0))) (fun i hi => by
    have hm : l[i] ∈ l := List.getElem_mem hi
    have e3 : (l.map (fun p => keys.getD p.toNat 0)).getD i 0 = keys.getD (l[i]).toNat 0 := by
      rw [getD_get (by rw [List.length_map]; exact hi), List.getElem_map]
    try dsimp only
    rw [refine_held.L1_eq, bd_pos (by rw [List.length_map]; omega), refine_held.L2_eq, bd_pos (by rw [List.length_map]; omega)]
    simp only [toNat_cast]
    rw [e3, get_f g hw (g.has_of hm), ob]
    dsimp only
    rw [lim_small (by decide) (by simp; omega), W_eq (by omega) (by omega), cast_add1, ← List.take_append_getElem hi, List.map_append]
    rfl)
  refine Eq.trans h2 ?_
  try dsimp only
  rw [refine_held.L1_eq, bd_neg (by rw [List.length_map]; omega), List.take_of_length_le (Nat.le_refl _)]
end
/-- The list of a table, as the answer tells it. -/
@[irreducible] noncomputable def heldOf (t : t5.den) : List t9.den := match spigotref26_held.F t with
  | some (us, _) => us
  | none => []
theorem heldOf_good {cap : Int} {keys : List Int} {bks : List t1.den} {next : List Int} {used : List Bool} {free : Int} {x : List t3.den} {prev nxt : List Int} {head tail : Int} {l : List Int} (g : TGood cap keys bks next used free x prev nxt head tail l) : heldOf (cap, keys, bks, (next, used, free, ()), x, (prev, nxt, head, tail, ()), ()) = l.map (hd_ keys bks) := by
  unfold heldOf; rw [held26_f g]
theorem held_is {t : t5.den} (h : TOk t) (w : TWf t) : (heldOf t).length ≤ 16 ∧ refine_held.F t = some (heldOf t, ()) ∧ spigotref26_held.F t = some (heldOf t, ()) := by
  obtain ⟨cap, keys, bks, ⟨next, used, free, ⟨⟩⟩, x, ⟨prev, nxt, head, tail, ⟨⟩⟩, ⟨⟩⟩ := t
  obtain ⟨l, g⟩ := h
  rw [heldOf_good g]
  have hs := g.order.short
  exact ⟨by rw [List.length_map]; exact hs, rheld_f g w.lev, held26_f g⟩
/-- The account of a part. -/
noncomputable def accOf (p : t7.den) : t10.den := (p.1, p.2.1, [p.2.2.2.1.1, p.2.2.2.2.1.1], p.2.2.1, heldOf p.2.2.2.1, heldOf p.2.2.2.2.1, p.2.2.2.2.2.1, p.2.2.2.2.2.2.1, ())
theorem accOf_small {p : t7.den} (h : PartOk p) (w : PWf p) : ASmall (accOf p) := by
  obtain ⟨h1, h2, h3, h4, h5, h6, h7, h8, h9, _⟩ := h
  have a := (held_is h4 w.us).1
  have b := (held_is h5 w.es).1
  refine ⟨?_, ?_, ?_⟩
  · dsimp only [accOf]
    omega
  · dsimp only [accOf]
    omega
  · dsimp only [accOf]
    omega
theorem acc26_f {p : t7.den} (h : PartOk p) (w : PWf p) : spigotref26_Account.F p = some (accOf p, ()) := by
  obtain ⟨h1, h2, h3, h4, h5, h6, h7, h8, h9, _⟩ := h
  rw [spigotref26_Account.F_eq, (held_is h4 w.us).2.2, ob, (held_is h5 w.es).2.2, ob, lim_small (by decide) (by simp only [List.length_nil]; omega)]
  rfl
theorem model26_f {s : t8.den} (hl : List.length s.2.2.2.1 ≤ 8) (h : ∀ p ∈ s.2.2.2.1, PartOk p) (w : ∀ p ∈ s.2.2.2.1, PWf p) : spigotref26_Model.F s = some ((s.1, s.2.1, s.2.2.1, List.map accOf s.2.2.2.1, ()), ()) := by
  obtain ⟨now, seed, ep, ps, ⟨⟩⟩ := s
  dsimp only at hl h w
  rw [spigotref26_Model.F_eq]
  dsimp only
  generalize List.replicate 32 (0 : Int) = r1
  generalize List.replicate 16 (0 : Int) = r2
  have h2 := loop_go (n := ps.length) (L := fun i => spigotref26_Model.L1 (i : Int) now seed ep ps r1 r2 [] ((ps.take i).map accOf)) (fun i hi => by
    have hm : ps[i] ∈ ps := List.getElem_mem hi
    try dsimp only
    rw [spigotref26_Model.L1_eq, bd_pos (by omega), spigotref26_Model.L2_eq, bd_pos (by omega)]
    simp only [toNat_cast]
    rw [getD_get hi, acc26_f (h _ hm) (w _ hm), ob]
    dsimp only
    rw [lim_small (by decide) (by simp; omega), W_eq (by omega) (by omega), cast_add1, ← List.take_append_getElem hi, List.map_append]
    rfl)
  refine Eq.trans h2 ?_
  try dsimp only
  rw [spigotref26_Model.L1_eq, bd_neg (by omega), List.take_of_length_le (Nat.le_refl _)]
theorem rof_f {s : t8.den} (hl : List.length s.2.2.2.1 ≤ 8) (h : ∀ p ∈ s.2.2.2.1, PartOk p) (w : ∀ p ∈ s.2.2.2.1, PWf p) : refine_of.F s = some ((s.1, s.2.1, s.2.2.1, List.map accOf s.2.2.2.1, ()), ()) := by
  obtain ⟨now, seed, ep, ps, ⟨⟩⟩ := s
  dsimp only at hl h w
  rw [refine_of.F_eq]
  dsimp only
  generalize List.replicate 32 (0 : Int) = r1
  generalize List.replicate 16 (0 : Int) = r2
  have h2 := loop_go (n := ps.length) (L := fun i => refine_of.L1 ps (ps.length : Int) (i : Int) r1 r2 now seed ep [] ((ps.take i).map accOf)) (fun i hi => by
    have hm : ps[i] ∈ ps := List.getElem_mem hi
    obtain ⟨q1, q2, q3, q4, q5, q6, q7, q8, q9, _⟩ := h _ hm
    have ww := w _ hm
    try dsimp only
    rw [refine_of.L1_eq, bd_pos (by omega), refine_of.L2_eq, bd_pos (by omega)]
    simp only [toNat_cast]
    rw [getD_get hi, (held_is q4 ww.us).2.1, ob, (held_is q5 ww.es).2.1, ob, lim_small (by decide) (by omega)]
    dsimp only
    rw [lim_small (by decide) (by simp; omega), W_eq (by omega) (by omega), cast_add1, ← List.take_append_getElem hi, List.map_append]
    rfl)
  refine Eq.trans h2 ?_
  try dsimp only
  rw [refine_of.L1_eq, bd_neg (by omega), List.take_of_length_le (Nat.le_refl _)]
end Go.Proofs.Ytkihjakbbcajbaa.TB
namespace Go.Proofs.Ytkihjakbbcajbaa.TB
set_option linter.unusedSimpArgs false
set_option linter.unusedVariables false
open Go Go.Proofs Go.Proofs.Ytkihjakbbcajbaa.PM Go.Proofs.Ytkihjakbbcajbaa.RP
/-! ### buckets that are late -/
def LateL (l : List t1.den) (t : Int) : Prop := ∃ b ∈ l, Z b.2.2.2.1 > t
def LateP (p : t7.den) (t : Int) : Prop := Z p.2.2.1.2.2.2.1 > t ∨ LateL p.2.2.2.1.2.2.1 t ∨ LateL p.2.2.2.2.1.2.2.1 t
theorem late_at {l : List t1.den} {t : Int} : LateL l t ↔ ∃ i : Nat, ∃ h : i < l.length, Z (l[i]).2.2.2.1 > t := by
  constructor
  · rintro ⟨b, hb, h⟩
    obtain ⟨i, hi, rfl⟩ := List.mem_iff_getElem.1 hb
    exact ⟨i, hi, h⟩
  · rintro ⟨i, hi, h⟩
    exact ⟨_, List.getElem_mem hi, h⟩
theorem clate1_f (b : t1.den) (t : Int) : admin_late_1.F b t = some (t, decide (Z b.2.2.2.1 > t), ()) := admin_late_1.F_eq b t
theorem contB_f {l : List t1.den} (hl : l.length ≤ 1000) (t : Int) : (LateL l t ∧ slices_ContainsFunc_54.F l t = some (t, true, ())) ∨ (¬ LateL l t ∧ slices_ContainsFunc_54.F l t = some (t, false, ())) := by
  rw [slices_ContainsFunc_54.F_eq, slices_IndexFunc_72.F_eq]
  rcases find_loop (n := l.length) (L := fun i => slices_IndexFunc_72.L1 l (l.length : Int) (i : Int) t) (p := fun i : Nat => ∃ h : i < l.length, Z (l[i]).2.2.2.1 > t) (hit := fun i => some (t, (i : Int), ())) (miss := some (t, -1, ())) (fun i hi => by
    try dsimp only
    rw [slices_IndexFunc_72.L1_eq, bd_pos (by omega), slices_IndexFunc_72.L2_eq, bd_pos (by omega)]
    simp only [toNat_cast]
    rw [getD_get hi, clate1_f, ob]
    dsimp only
    by_cases h : Z (l[i]).2.2.2.1 > t
    · rw [bd_pos h]; exact .inl ⟨⟨hi, h⟩, rfl⟩
    · rw [bd_neg h, slices_IndexFunc_72.L3_eq, W_eq (by omega) (by omega), cast_add1]; exact .inr ⟨fun ⟨_, z⟩ => h z, rfl⟩) (by
    try dsimp only
    rw [slices_IndexFunc_72.L1_eq, bd_neg (by omega)]) with ⟨i, hi, h1, _, h2⟩ | ⟨h1, h2⟩
  · refine .inl ⟨late_at.2 ⟨i, h1⟩, ?_⟩
    rw [show slices_IndexFunc_72.L1 l (l.length : Int) 0 t = _ from h2, ob]
    dsimp only
    rw [decide_eq_true (by omega)]
  · refine .inr ⟨fun z => ?_, ?_⟩
    · obtain ⟨i, hi, h⟩ := late_at.1 z
      exact h1 i hi ⟨hi, h⟩
    · rw [show slices_IndexFunc_72.L1 l (l.length : Int) 0 t = _ from h2, ob]
      rfl
theorem late20_f {l : List t1.den} (hl : l.length ≤ 1000) (t : Int) : (LateL l t ∧ spigotref20_late.F l t = some (true, ())) ∨ (¬ LateL l t ∧ spigotref20_late.F l t = some (false, ())) := by
  rw [spigotref20_late.F_eq]
  rcases find_loop (n := l.length) (L := fun i => spigotref20_late.L1 l t (i : Int)) (p := fun i : Nat => ∃ h : i < l.length, Z (l[i]).2.2.2.1 > t) (hit := fun i => some (true, ())) (miss := some (false, ())) (fun i hi => by
    try dsimp only
    rw [spigotref20_late.L1_eq, bd_pos (by omega), spigotref20_late.L2_eq, bd_pos (by omega)]
    simp only [toNat_cast]
    rw [getD_get hi]
    by_cases h : Z (l[i]).2.2.2.1 > t
    · rw [bd_pos h]; exact .inl ⟨⟨hi, h⟩, rfl⟩
    · rw [bd_neg h, spigotref20_late.L3_eq, W_eq (by omega) (by omega), cast_add1]; exact .inr ⟨fun ⟨_, z⟩ => h z, rfl⟩) (by
    try dsimp only
    rw [spigotref20_late.L1_eq, bd_neg (by omega)]) with ⟨i, hi, h1, _, h2⟩ | ⟨h1, h2⟩
  · exact .inl ⟨late_at.2 ⟨i, h1⟩, h2⟩
  · refine .inr ⟨fun z => ?_, h2⟩
    obtain ⟨i, hi, h⟩ := late_at.1 z
    exact h1 i hi ⟨hi, h⟩
theorem alate_f {p : t7.den} (s : PSmall p) (t : Int) : (LateP p t ∧ admin_late.F p t = some (true, ())) ∨ (¬ LateP p t ∧ admin_late.F p t = some (false, ())) := by
  have h1 := s.us.bks
  have h2 := s.es.bks
  rw [admin_late.F_eq, clate1_f, ob]
  dsimp only
  by_cases a : Z p.2.2.1.2.2.2.1 > t
  · rw [bd_pos a]; exact .inl ⟨.inl a, rfl⟩
  rw [bd_neg a]
  rcases contB_f (l := p.2.2.2.1.2.2.1) (by omega) t with ⟨b, e⟩ | ⟨b, e⟩
  · rw [e, ob, bt rfl]; exact .inl ⟨.inr (.inl b), rfl⟩
  rw [e, ob, bf rfl]
  dsimp only
  rcases contB_f (l := p.2.2.2.2.1.2.2.1) (by omega) t with ⟨c, e⟩ | ⟨c, e⟩
  · rw [e, ob]; exact .inl ⟨.inr (.inr c), rfl⟩
  · rw [e, ob]; exact .inr ⟨fun z => z.elim a fun z => z.elim b c, rfl⟩
theorem contP_f {l : List t7.den} (hl : l.length ≤ 1000) (hs : ∀ p ∈ l, PSmall p) (s : t8.den) : ((∃ p ∈ l, LateP p s.1) ∧ slices_ContainsFunc_37.F l s = some (s, true, ())) ∨ ((¬ ∃ p ∈ l, LateP p s.1) ∧ slices_ContainsFunc_37.F l s = some (s, false, ())) := by
  obtain ⟨now, seed, ep, ps, ⟨⟩⟩ := s
  rw [slices_ContainsFunc_37.F_eq, slices_IndexFunc_52.F_eq]
  dsimp only
  rcases find_loop (n := l.length) (L := fun i => slices_IndexFunc_52.L1 l (l.length : Int) (i : Int) now seed ep ps) (p := fun i : Nat => ∃ h : i < l.length, LateP l[i] now) (hit := fun i => some ((now, seed, ep, ps, ()), (i : Int), ())) (miss := some ((now, seed, ep, ps, ()), -1, ())) (fun i hi => by
    try dsimp only
    rw [slices_IndexFunc_52.L1_eq, bd_pos (by omega), slices_IndexFunc_52.L2_eq, bd_pos (by omega)]
    simp only [toNat_cast]
    rw [getD_get hi, admin_Valid_1.F_eq]
    dsimp only
    rcases alate_f (hs _ (List.getElem_mem hi)) now with ⟨a, e⟩ | ⟨a, e⟩
    · rw [e, ob, ob, bt rfl]; exact .inl ⟨⟨hi, a⟩, rfl⟩
    · rw [e, ob, ob, bf rfl, slices_IndexFunc_52.L3_eq, W_eq (by omega) (by omega), cast_add1]; exact .inr ⟨fun ⟨_, z⟩ => a z, rfl⟩) (by
    try dsimp only
    rw [slices_IndexFunc_52.L1_eq, bd_neg (by omega)]) with ⟨i, hi, ⟨_, h1⟩, _, h2⟩ | ⟨h1, h2⟩
  · refine .inl ⟨⟨_, List.getElem_mem hi, h1⟩, ?_⟩
    rw [show slices_IndexFunc_52.L1 l (l.length : Int) 0 now seed ep ps = _ from h2, ob]
    dsimp only
    rw [decide_eq_true (by omega)]
  · refine .inr ⟨fun ⟨p, hp, z⟩ => ?_, ?_⟩
    · obtain ⟨i, hi, rfl⟩ := List.mem_iff_getElem.1 hp
      exact h1 i hi ⟨hi, z⟩
    · rw [show slices_IndexFunc_52.L1 l (l.length : Int) 0 now seed ep ps = _ from h2, ob]
      rfl
/-! ### epochs -/
def EpOk (ep : List Int) : Prop := ∀ i : Nat, i < 16 → ¬ Z (ep.getD i 0) > 1000000
theorem max_l2 {ep : List Int} (hl : ep.length = 16) : ∀ (k i : Nat) (m : Int), i + k = 16 → ∃ m', slices_Max.L2 ep m (i : Int) = some (m', ()) ∧ (m' > 1000000 ↔ m > 1000000 ∨ ∃ j : Nat, i ≤ j ∧ j < 16 ∧ Z (ep.getD j 0) > 1000000)
  | 0, i, m, h => by
    rw [slices_Max.L2_eq, bd_neg (by omega)]
    refine ⟨m, rfl, .inl, fun h => h.elim id fun ⟨j, h1, h2, _⟩ => by omega⟩
  | k + 1, i, m, h => by
    obtain ⟨m', e, hm⟩ := max_l2 hl k (i + 1) (max m (ep.getD i 0)) (by omega)
    rw [slices_Max.L2_eq, bd_pos (by omega), slices_Max.L3_eq, bd_pos (by omega), W_eq (by omega) (by omega), cast_add1, toNat_cast]
    refine ⟨m', e, hm.trans ⟨?_, ?_⟩⟩
    · rintro (h1 | ⟨j, h1, h2, h3⟩)
      · by_cases h2 : m > 1000000
        · exact .inl h2
        · exact .inr ⟨i, Nat.le_refl _, by omega, by show ep.getD i 0 > 1000000; omega⟩
      · exact .inr ⟨j, by omega, h2, h3⟩
    · rintro (h1 | ⟨j, h1, h2, h3⟩)
      · exact .inl (by omega)
      · by_cases e : j = i
        · subst e
          have h3 : ep.getD j 0 > 1000000 := h3
          exact .inl (by omega)
        · exact .inr ⟨j, by omega, h2, h3⟩
theorem max_f {ep : List Int} (hl : ep.length = 16) : ∃ m, slices_Max.F ep = some (m, ()) ∧ (m > 1000000 ↔ ¬ EpOk ep) := by
  obtain ⟨m', e, hm⟩ := max_l2 hl 15 1 (ep.getD 0 0) rfl
  refine ⟨m', ?_, hm.trans ?_⟩
  · rw [slices_Max.F_eq, bd_neg (by omega), slices_Max.L1_eq, bd_pos (by omega)]
    exact e
  · constructor
    · rintro (h | ⟨j, h1, h2, h3⟩) o
      · exact o 0 (by omega) h
      · exact o j h2 h3
    · intro h
      apply Classical.byContradiction
      intro n
      refine h fun i hi z => n ?_
      by_cases e : i = 0
      · subst e; exact .inl z
      · exact .inr ⟨i, by omega, hi, z⟩
/-! ### servers -/
structure SVal (s : t8.den) : Prop where
  reg : GReg s.2.2.2.1
  ep : EpOk s.2.2.1
  late : ¬ ∃ p ∈ s.2.2.2.1, LateP p s.1
structure SWf (s : t8.den) : Prop where
  few : List.length s.2.2.2.1 ≤ 20
  small : ∀ p ∈ s.2.2.2.1, PSmall p
  wf : ∀ p ∈ s.2.2.2.1, PWf p
  eps : List.length s.2.2.1 = 16
  seed : List.length s.2.1 = 32
theorem svalid_says {s : t8.den} (w : SWf s) : Says (SVal s) (server_Check.F s) := by
  obtain ⟨few, sm, wf, eps, _⟩ := w
  obtain ⟨now, seed, ep, ps, ⟨⟩⟩ := s
  dsimp only at few sm wf eps
  rw [server_Check.F_eq, admin_Valid.F_eq]
  dsimp only
  rcases check_f wf few with ⟨g, e, _⟩ | ⟨g, c, hc, e, _⟩
  · rw [e, ob, bne_neg rfl, admin_Valid.L1_eq, bd_pos (by decide)]
    obtain ⟨m, em, hm⟩ := max_f eps
    have et : List.take ((Int.toNat 16) - (Int.toNat 0)) (List.drop (Int.toNat 0) ep) = ep := by
      show List.take 16 ep = ep
      exact List.take_of_length_le (by omega)
    rw [et, em, ob]
    dsimp only
    by_cases a : m > 1000000
    · rw [bd_pos a]; exact .inr ⟨fun z => hm.1 a z.ep, rfl⟩
    rw [bd_neg a]
    have ho : EpOk ep := Classical.byContradiction fun z => a (hm.2 z)
    rcases contP_f (l := ps) (by omega) sm (now, seed, ep, ps, ()) with ⟨b, e⟩ | ⟨b, e⟩
    · rw [e, ob, bt rfl]; exact .inr ⟨fun z => z.late b, rfl⟩
    · rw [e, ob, bf rfl, admin_Valid.L2_eq]; exact .inl ⟨⟨g, ho, b⟩, rfl⟩
  · have c0 : c ≠ 0 := by omega
    rw [e, ob, bne_pos c0]; exact .inr ⟨fun z => g z.reg, rfl⟩
theorem rvalid_says {s : t8.den} (w : SWf s) : Says (SVal s) (spigotref20_Valid.F s) := by
  obtain ⟨few, sm, wf, eps, _⟩ := w
  obtain ⟨now, seed, ep, ps, ⟨⟩⟩ := s
  dsimp only at few sm wf eps
  rw [spigotref20_Valid.F_eq]
  dsimp only
  rcases check_f wf few with ⟨g, _, e⟩ | ⟨g, c, hc, _, e⟩
  · rw [e, ob, bne_neg rfl, spigotref20_Valid.L1_eq]
    have a := loop_all (n := 16) (L := fun i => spigotref20_Valid.L2 (i : Int) now seed ep ps) (ok := fun i => ¬ Z (ep.getD i 0) > 1000000) (stop := some (8, ())) (fun i hi => by
      try dsimp only
      rw [spigotref20_Valid.L2_eq, bd_pos (by omega), spigotref20_Valid.L3_eq, bd_pos (by omega)]
      simp only [toNat_cast]
      by_cases h : Z (ep.getD i 0) > 1000000
      · rw [bd_pos h]; exact .inr ⟨fun z => z h, rfl⟩
      · rw [bd_neg h, spigotref20_Valid.L7_eq, W_eq (by omega) (by omega), cast_add1]; exact .inl ⟨h, rfl⟩)
    have b := loop_all (n := ps.length) (L := fun i => spigotref20_Valid.L4 (i : Int) now seed ep ps) (ok := fun i => ∀ h : i < ps.length, ¬ LateP ps[i] now) (stop := some (8, ())) (fun i hi => by
      have h1 := (sm _ (List.getElem_mem hi)).us.bks
      have h2 := (sm _ (List.getElem_mem hi)).es.bks
      try dsimp only
      rw [spigotref20_Valid.L4_eq, bd_pos (by omega), spigotref20_Valid.L5_eq, bd_pos (by omega)]
      simp only [toNat_cast]
      rw [getD_get hi]
      by_cases a : Z (ps[i]).2.2.1.2.2.2.1 > now
      · rw [bd_pos a]; exact .inr ⟨fun z => z hi (.inl a), rfl⟩
      rw [bd_neg a]
      rcases late20_f (l := (ps[i]).2.2.2.1.2.2.1) (by omega) now with ⟨b, e⟩ | ⟨b, e⟩
      · rw [e, ob, bt rfl]; exact .inr ⟨fun z => z hi (.inr (.inl b)), rfl⟩
      rw [e, ob, bf rfl]
      rcases late20_f (l := (ps[i]).2.2.2.2.1.2.2.1) (by omega) now with ⟨c, e⟩ | ⟨c, e⟩
      · rw [e, ob, bt rfl]; exact .inr ⟨fun z => z hi (.inr (.inr c)), rfl⟩
      · rw [e, ob, bf rfl, spigotref20_Valid.L6_eq, W_eq (by omega) (by omega), cast_add1]
        exact .inl ⟨fun _ z => z.elim a fun z => z.elim b c, rfl⟩)
    rcases a with ⟨a, e⟩ | ⟨a, e⟩
    · rw [show spigotref20_Valid.L2 0 now seed ep ps = _ from e]
      try dsimp only
      rw [spigotref20_Valid.L2_eq, bd_neg (by omega)]
      rcases b with ⟨b, e⟩ | ⟨b, e⟩
      · rw [show spigotref20_Valid.L4 0 now seed ep ps = _ from e]
        try dsimp only
        rw [spigotref20_Valid.L4_eq, bd_neg (by omega)]
        refine .inl ⟨⟨g, a, fun ⟨p, hp, z⟩ => ?_⟩, rfl⟩
        obtain ⟨i, hi, rfl⟩ := List.mem_iff_getElem.1 hp
        exact b i hi hi z
      · rw [show spigotref20_Valid.L4 0 now seed ep ps = _ from e]
        exact .inr ⟨fun z => b fun i hi h z2 => z.late ⟨_, List.getElem_mem h, z2⟩, rfl⟩
    · rw [show spigotref20_Valid.L2 0 now seed ep ps = _ from e]
      exact .inr ⟨fun z => a z.ep, rfl⟩
  · have c0 : c ≠ 0 := by omega
    rw [e, ob, bne_pos c0]; exact .inr ⟨fun z => g z.reg, rfl⟩
end Go.Proofs.Ytkihjakbbcajbaa.TB
namespace Go.Proofs.Ytkihjakbbcajbaa.TB
set_option linter.unusedSimpArgs false
set_option linter.unusedVariables false
open Go Go.Proofs Go.Proofs.Ytkihjakbbcajbaa.PM Go.Proofs.Ytkihjakbbcajbaa.RP
noncomputable def epB (ep : List Int) (i : Nat) : List Int := be (w64 (ep.getD i 0)) 4
theorem ep_len (ep : List Int) (i : Nat) : ((List.range i).flatMap (epB ep)).length ≤ 4 * i := by
  have := flat_len (c := 4) (f := epB ep) (List.range i) fun y _ => Nat.le_of_eq (be_len _ _)
  rwa [List.length_range] at this
/-- The image of a model. -/
noncomputable def mdB (now : Int) (seed ep : List Int) (ac : List t10.den) : List Int :=
  be now 8 ++ (List.take 32 seed ++ ((List.range 16).flatMap (epB ep) ++ (w8 (ac.length : Int) :: ac.flatMap accB)))
theorem ac_len {ac : List t10.den} (h : ∀ a ∈ ac, ASmall a) : (ac.flatMap accB).length ≤ 100000 * ac.length := flat_len ac fun a ha => accB_len (h a ha)
theorem seed_l1 {now : Int} {seed ep : List Int} {ac : List t10.den} (hs : seed.length = 32) : spigotref33_Bytes.L1 0 now seed ep ac (be now 8) = spigotref33_Bytes.L3 0 now seed ep ac (be now 8 ++ List.take 32 seed) := by
  have q0 := be_len now 8
  have e1 := loop_go (n := 32) (L := fun i => spigotref33_Bytes.L1 (i : Int) now seed ep ac (be now 8 ++ List.take i seed)) (fun i hi => by
    try dsimp only
    rw [spigotref33_Bytes.L1_eq, bd_pos (by omega), spigotref33_Bytes.L2_eq, bd_pos (by omega)]
    simp only [toNat_cast]
    rw [lim_small (by decide) (by simp only [List.length_append, List.length_take, List.length_cons, List.length_nil]; omega), W_eq (by omega) (by omega), cast_add1, take_snoc (by omega), List.append_assoc])
  have e1 : spigotref33_Bytes.L1 0 now seed ep ac (be now 8 ++ []) = spigotref33_Bytes.L1 ((32 : Nat) : Int) now seed ep ac (be now 8 ++ List.take 32 seed) := e1
  rw [List.append_nil] at e1
  rw [e1, spigotref33_Bytes.L1_eq, bd_neg (by omega)]
theorem ep_l3 {now : Int} {seed ep : List Int} {ac : List t10.den} {b : List Int} (hb : b.length ≤ 1000) : spigotref33_Bytes.L3 0 now seed ep ac b = spigotref33_Bytes.L5 0 now seed ep ac ((b ++ (List.range 16).flatMap (epB ep)) ++ [w8 (ac.length : Int)]) := by
  have e1 := loop_go (n := 16) (L := fun i => spigotref33_Bytes.L3 (i : Int) now seed ep ac (b ++ (List.range i).flatMap (epB ep))) (fun i hi => by
    have q := ep_len ep i
    try dsimp only
    rw [spigotref33_Bytes.L3_eq, bd_pos (by omega), spigotref33_Bytes.L4_eq, bd_pos (by omega)]
    simp only [toNat_cast]
    rw [num4 (by simp only [List.length_append]; omega), ob, W_eq (by omega) (by omega), cast_add1, flat_range]
    simp only [epB, List.append_assoc])
  have e1 : spigotref33_Bytes.L3 0 now seed ep ac (b ++ []) = spigotref33_Bytes.L3 ((16 : Nat) : Int) now seed ep ac (b ++ (List.range 16).flatMap (epB ep)) := e1
  rw [List.append_nil] at e1
  have q := ep_len ep 16
  rw [e1, spigotref33_Bytes.L3_eq, bd_neg (by omega), lim_small (by decide) (by simp only [List.length_append, List.length_cons, List.length_nil]; omega)]
theorem acc_l5 {now : Int} {seed ep : List Int} {ac : List t10.den} {b : List Int} (hb : b.length ≤ 2000) (hl : ac.length ≤ 100) (ha : ∀ a ∈ ac, ASmall a) : spigotref33_Bytes.L5 0 now seed ep ac b = some (b ++ ac.flatMap accB, ()) := by
  have e1 := loop_go (n := ac.length) (L := fun i => spigotref33_Bytes.L5 (i : Int) now seed ep ac (b ++ (ac.take i).flatMap accB)) (fun i hi => by
    have q := ac_len (ac := ac.take i) fun a h => ha a (List.mem_of_mem_take h)
    rw [List.length_take] at q
    try dsimp only
    rw [spigotref33_Bytes.L5_eq, bd_pos (by omega), spigotref33_Bytes.L6_eq, bd_pos (by omega)]
    simp only [toNat_cast]
    rw [getD_get hi, acc_f (by simp only [List.length_append]; omega) (ha _ (List.getElem_mem hi)), ob, W_eq (by omega) (by omega), cast_add1, flat_take hi, List.append_assoc])
  have e1 : spigotref33_Bytes.L5 0 now seed ep ac (b ++ []) = spigotref33_Bytes.L5 (ac.length : Int) now seed ep ac (b ++ (ac.take ac.length).flatMap accB) := e1
  rw [List.append_nil, List.take_of_length_le (Nat.le_refl _)] at e1
  rw [e1, spigotref33_Bytes.L5_eq, bd_neg (by omega)]
theorem bytes_f {now : Int} {seed ep : List Int} {ac : List t10.den} (hs : seed.length = 32) (hl : ac.length ≤ 100) (ha : ∀ a ∈ ac, ASmall a) : spigotref33_Bytes.F (now, seed, ep, ac, ()) = some (mdB now seed ep ac, ()) := by
  have q0 := be_len now 8
  have q := ep_len ep 16
  rw [spigotref33_Bytes.F_eq]
  dsimp only
  rw [num8 (by decide), ob]
  dsimp only
  rw [List.nil_append, seed_l1 hs, ep_l3 (by rw [List.length_append, List.length_take]; omega), acc_l5 (by simp only [List.length_append, List.length_take, List.length_cons, List.length_nil]; omega) hl ha]
  simp only [mdB, List.append_assoc, List.cons_append, List.nil_append]
/-! ### the program's -/
theorem wep_l2 {now : Int} {seed ep : List Int} {ac : List t10.den} {b : List Int} (hb : b.length ≤ 1000) : image_Write.L2 ep 0 now seed ac b = image_Write.L4 (ac.length : Int) 0 ac ((b ++ (List.range 16).flatMap (epB ep)) ++ [w8 (ac.length : Int)]) := by
  have e1 := loop_go (n := 16) (L := fun i => image_Write.L2 ep (i : Int) now seed ac (b ++ (List.range i).flatMap (epB ep))) (fun i hi => by
    have q := ep_len ep i
    try dsimp only
    rw [image_Write.L2_eq, bd_pos (by omega), image_Write.L3_eq, bd_pos (by omega)]
    simp only [toNat_cast]
    rw [put4 (by simp only [List.length_append]; omega), ob, W_eq (by omega) (by omega), cast_add1, flat_range]
    simp only [epB, List.append_assoc])
  have e1 : image_Write.L2 ep 0 now seed ac (b ++ []) = image_Write.L2 ep ((16 : Nat) : Int) now seed ac (b ++ (List.range 16).flatMap (epB ep)) := e1
  rw [List.append_nil] at e1
  have q := ep_len ep 16
  rw [e1, image_Write.L2_eq, bd_neg (by omega), put1 (by simp only [List.length_append, List.length_cons, List.length_nil]; omega), ob]
theorem wacc_l4 {ac : List t10.den} {b : List Int} (hb : b.length ≤ 2000) (hl : ac.length ≤ 100) (ha : ∀ a ∈ ac, ASmall a) : image_Write.L4 (ac.length : Int) 0 ac b = some (b ++ ac.flatMap accB, 0, ()) := by
  have e1 := loop_go (n := ac.length) (L := fun i => image_Write.L4 (ac.length : Int) (i : Int) ac (b ++ (ac.take i).flatMap accB)) (fun i hi => by
    have q := ac_len (ac := ac.take i) fun a h => ha a (List.mem_of_mem_take h)
    rw [List.length_take] at q
    try dsimp only
    rw [image_Write.L4_eq, bd_pos (by omega), image_Write.L5_eq, bd_pos (by omega)]
    simp only [toNat_cast]
    rw [getD_get hi, wacc_f (by simp only [List.length_append]; omega) (ha _ (List.getElem_mem hi)), ob, W_eq (by omega) (by omega), cast_add1, flat_take hi, List.append_assoc])
  have e1 : image_Write.L4 (ac.length : Int) 0 ac (b ++ []) = image_Write.L4 (ac.length : Int) (ac.length : Int) ac (b ++ (ac.take ac.length).flatMap accB) := e1
  rw [List.append_nil, List.take_of_length_le (Nat.le_refl _)] at e1
  rw [e1, image_Write.L4_eq, bd_neg (by omega)]
/-- The image of a server. -/
noncomputable def imB (s : t8.den) : List Int := mdB s.1 s.2.1 s.2.2.1 (List.map accOf s.2.2.2.1)
theorem accs_small {s : t8.den} (w : SWf s) (v : SVal s) : ∀ a ∈ List.map accOf s.2.2.2.1, ASmall a := fun a ha => by
  obtain ⟨p, hp, rfl⟩ := List.mem_map.1 ha
  exact accOf_small (v.reg.ok p hp) (w.wf p hp)
theorem of_f {s : t8.den} (w : SWf s) (v : SVal s) : refine_Of.F s = some ((s.1, s.2.1, s.2.2.1, List.map accOf s.2.2.2.1, ()), 0, ()) := by
  rw [refine_Of.F_eq, (svalid_says w).yes v, ob, bne_neg rfl, refine_Of.L1_eq]
  rw [show refine_of.F (s.1, s.2.1, s.2.2.1, s.2.2.2.1, ()) = _ from rof_f v.reg.len v.reg.ok w.wf, ob]
theorem write_f {s : t8.den} (w : SWf s) (v : SVal s) : image_Write.F s = some (imB s, 0, ()) := by
  have q0 := be_len s.1 8
  have q := ep_len s.2.2.1 16
  have hl := v.reg.len
  have hs := w.seed
  rw [image_Write.F_eq, (svalid_says w).yes v, ob, bne_neg rfl, image_Write.L1_eq, show refine_Of.F (s.1, s.2.1, s.2.2.1, s.2.2.2.1, ()) = _ from of_f w v, ob]
  dsimp only
  rw [put8 (by decide), ob, bd_pos (by decide)]
  dsimp only
  have et : List.take ((Int.toNat 32) - (Int.toNat 0)) (List.drop (Int.toNat 0) s.2.1) = List.take 32 s.2.1 := rfl
  rw [et, List.nil_append, lim_small (by decide) (by rw [List.length_take]; omega), wep_l2 (by rw [List.length_append, List.length_take]; omega), wacc_l4 (by simp only [List.length_append, List.length_take, List.length_cons, List.length_nil]; omega) (by rw [List.length_map]; omega) (accs_small w v)]
  simp only [imB, mdB, List.append_assoc, List.cons_append, List.nil_append]
theorem rwrite_f {s : t8.den} (w : SWf s) (v : SVal s) : spigotref33_Write.F s = some (imB s, 0, ()) := by
  have hl := v.reg.len
  rw [spigotref33_Write.F_eq, (rvalid_says w).yes v, ob, bne_neg rfl, spigotref33_Write.L1_eq, show spigotref26_Model.F (s.1, s.2.1, s.2.2.1, s.2.2.2.1, ()) = _ from model26_f v.reg.len v.reg.ok w.wf, ob]
  dsimp only
  rw [bytes_f w.seed (by rw [List.length_map]; omega) (accs_small w v), ob]
  rfl
theorem write_bad {s : t8.den} (w : SWf s) (v : ¬ SVal s) : image_Write.F s = some ([], 8, ()) := by
  rw [image_Write.F_eq, (svalid_says w).no v, ob, bne_pos (by decide)]
theorem rwrite_bad {s : t8.den} (w : SWf s) (v : ¬ SVal s) : spigotref33_Write.F s = some ([], 8, ()) := by
  rw [spigotref33_Write.F_eq, (rvalid_says w).no v, ob, bne_pos (by decide), ob]
end Go.Proofs.Ytkihjakbbcajbaa.TB
