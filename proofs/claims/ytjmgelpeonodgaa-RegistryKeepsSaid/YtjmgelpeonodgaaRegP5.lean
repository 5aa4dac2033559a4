/- The law's own parts, and the chapter's examples. -/
import Derived.Test.YtjmgelpeonodgaaRegP3
import Derived.Test.YtjmgelpeonodgaaTbN
namespace Go.Proofs.Ytjmgelpeonodgaa.TB
set_option linter.unusedSimpArgs false
set_option linter.unusedVariables false
open Go Go.Proofs Go.Proofs.Ytjmgelpeonodgaa.PM Go.Proofs.Ytjmgelpeonodgaa.RP
@[reducible] noncomputable def lims_ : List t0.den := [(4, 1, 1, ()), (3, 1, 1, ()), (2, 1, 1, ())]
/-- The law's part of a tenant. -/
noncomputable def Q (t : Int) : t7.den := (t, lims_, ((4, 1, 1, ()), 4, 0, 0, ()), NT 2, NT 2, [], (0, 0, 0, ()), ())
theorem lims_ok : Lims lims_ := fun i hi => by
  match i, hi with
  | 0, _ => exact ⟨by decide, by decide, by decide, by decide, by decide, by decide, trivial⟩
  | 1, _ => exact ⟨by decide, by decide, by decide, by decide, by decide, by decide, trivial⟩
  | 2, _ => exact ⟨by decide, by decide, by decide, by decide, by decide, by decide, trivial⟩
theorem of_f {t : Int} (h : t < 16) : spigotlaw19_of.F t = some (Q t, ()) := by
  have e : spigotref16_New.F 2 = some (NT 2, 0, ()) := new16_f (n := 2) (by decide) (by decide)
  have lo : LimOk (4, 1, 1, ()) := lims_ok 0 (by decide)
  have f : spigotref18_Limited.F ([(4, 1, 1, ()), (3, 1, 1, ()), (2, 1, 1, ())] : List t0.den) = some (true, ()) := by
    rcases limited_f lims_ with ⟨_, f⟩ | ⟨n, _⟩
    · exact f
    · exact absurd lims_ok n
  have g : spigotref03_Full.F (4, 1, 1, ()) 0 = some (((4, 1, 1, ()), 4, 0, 0, ()), 0, ()) := by
    rw [spigotref03_Full.F_eq, (rlimit_says _).yes lo, ob, bne_neg rfl, spigotref03_Full.L1_eq]
  rw [spigotlaw19_of.F_eq, spigotref18_New.F_eq, e, ob, ob, bd_neg (by omega), bne_neg rfl, bne_neg rfl, spigotref18_New.L1_eq]
  rw [f, ob, bnt rfl, spigotref18_New.L2_eq, bd_pos (by decide)]
  have g' : spigotref03_Full.F (List.getD ([(4, 1, 1, ()), (3, 1, 1, ()), (2, 1, 1, ())] : List t0.den) (Int.toNat 0) (0, 0, 0, ())) 0 = some (((4, 1, 1, ()), 4, 0, 0, ()), 0, ()) := g
  rw [g', ob, ob]
  rfl
theorem NT_small : TSmall (NT 2) where
  keys := by show ¬ ((List.replicate 2 (0 : Int)).length : Int) > 100; rw [List.length_replicate]; decide
  bks := by show ¬ ((List.replicate 2 b0_).length : Int) > 100; rw [List.length_replicate]; decide
  idx := by show ¬ ((List.replicate 16 c0_).length : Int) > 100; rw [List.length_replicate]; decide
  next := by show ¬ ((newN 2).length : Int) > 100; rw [newN_len]; decide
  used := by show ¬ ((List.replicate 2 false).length : Int) > 100; rw [List.length_replicate]; decide
  prev := by show ¬ ((PV 2 []).length : Int) > 100; rw [PV_len]; decide
  nxt := by show ¬ ((NX 2 []).length : Int) > 100; rw [NX_len]; decide
theorem NT_wf : TWf (NT 2) where
  lev c hc := by
    have : c = b0_ := List.eq_of_mem_replicate (show c ∈ List.replicate 2 b0_ from hc)
    rw [this]; decide
  cells i i0 i1 := by
    show 0 ≤ Z (cl (List.replicate 16 c0_) i).1 ∧ Z (cl (List.replicate 16 c0_) i).1 < 4294967296
    rw [cl_new]; decide
  few := by show (List.replicate 16 c0_).length ≤ 1000; rw [List.length_replicate]; decide
  keys k hk := by
    have : k = 0 := List.eq_of_mem_replicate (show k ∈ List.replicate 2 (0 : Int) from hk)
    rw [this]; decide
theorem Q_small (t : Int) : PSmall (Q t) := ⟨NT_small, NT_small, by show ¬ (([] : List Int).length : Int) > 100; decide⟩
theorem Q_wf (t : Int) : PWf (Q t) := ⟨rfl, by show Z 4 ≤ 9223372036854775807; decide, NT_wf, NT_wf⟩
theorem NT_alike (l : t0.den) (m : Int) : Alike (NT 2) l m := fun i hi h => by
  have hi : i < (List.replicate 2 false).length := hi
  have h : (List.replicate 2 false).getD i false = true := h
  rw [List.length_replicate] at hi
  rw [getD_rep hi] at h; cases h
theorem Q_ok {t : Int} (h : t < 16) : PartOk (Q t) :=
  ⟨Int.not_le.2 h, lims_ok, ⟨lims_ok 0 (by decide), by show ¬ Z 4 < 0; decide, by show ¬ Z 4 - Z 4 < 0; decide, by show ¬ Z 0 < 0; decide, by show ¬ Z 0 ≥ Z 1; decide, fun _ => by show ¬ Z 0 > 0; decide⟩, NT_ok (by decide) (by decide), NT_ok (by decide) (by decide), rfl, NT_alike _ _, NT_alike _ _, by show ¬ (([] : List Int).length : Int) > 8; decide, fun i hi => absurd hi (Nat.not_lt_zero i)⟩
/-! ### lists by their tenants -/
def Ris (l : List t7.den) : Prop := l.Pairwise (fun p q => Z p.1 < q.1)
theorem reg_of {l : List t7.den} (h8 : l.length ≤ 8) (ok : ∀ p ∈ l, PartOk p) (h : Ris l) : GReg l := ⟨h8, ok, fun i hi => (List.pairwise_iff_getElem.1 h) i (i + 1) (by omega) hi (by omega)⟩
theorem ris_of {l : List t7.den} (H : RegOk l) : Ris l := List.pairwise_iff_getElem.2 fun i j hi hj hij => H.inc i j hi hj hij
/-- Two rising lists with the same parts are the same. -/
theorem ris_ext : ∀ {l l' : List t7.den}, Ris l → Ris l' → (∀ x, x ∈ l ↔ x ∈ l') → l = l'
  | [], [], _, _, _ => rfl
  | [], y :: l', _, _, h => (by cases (h y).2 List.mem_cons_self)
  | x :: l, [], _, _, h => (by cases (h x).1 List.mem_cons_self)
  | x :: l, y :: l', a, b, h => by
    obtain ⟨a1, a2⟩ := List.pairwise_cons.1 a
    obtain ⟨b1, b2⟩ := List.pairwise_cons.1 b
    have e : x = y := by
      rcases List.mem_cons.1 ((h x).1 List.mem_cons_self) with e | hx
      · exact e
      rcases List.mem_cons.1 ((h y).2 List.mem_cons_self) with e | hy
      · exact e.symm
      · exact absurd (Int.lt_trans (b1 x hx) (a1 y hy)) (Int.lt_irrefl _)
    subst e
    have : l = l' := ris_ext a2 b2 fun z => by
      constructor
      · intro hz
        rcases List.mem_cons.1 ((h z).1 (List.mem_cons_of_mem _ hz)) with rfl | k
        · exact absurd (a1 z hz) (Int.lt_irrefl _)
        · exact k
      · intro hz
        rcases List.mem_cons.1 ((h z).2 (List.mem_cons_of_mem _ hz)) with rfl | k
        · exact absurd (b1 z hz) (Int.lt_irrefl _)
        · exact k
    rw [this]
theorem ris_ins {l : List t7.den} (h : Ris l) {p : t7.den} {c : Nat} (cut : Cut l p.1 c) (n : ∀ q ∈ l, q.1 ≠ p.1) : Ris (ins l p c) := by
  unfold ins
  refine List.pairwise_append.2 ⟨h.sublist (List.take_sublist c l), List.pairwise_cons.2 ⟨fun q hq => ?_, h.sublist (List.drop_sublist c l)⟩, fun q hq r hr => ?_⟩
  · obtain ⟨i, hi, rfl⟩ := List.mem_iff_getElem.1 hq
    rw [List.length_drop] at hi
    rw [List.getElem_drop]
    exact Int.lt_iff_le_and_ne.2 ⟨cut.hi _ (by omega) (by omega), fun e => n _ (List.getElem_mem (by omega)) e.symm⟩
  · obtain ⟨i, hi, rfl⟩ := List.mem_iff_getElem.1 hq
    rw [List.length_take] at hi
    rw [List.getElem_take]
    have h1 : Z (l[i]).1 < p.1 := cut.lo i (by omega) (by omega)
    rcases List.mem_cons.1 hr with rfl | hr
    · exact h1
    · obtain ⟨j, hj, rfl⟩ := List.mem_iff_getElem.1 hr
      rw [List.length_drop] at hj
      rw [List.getElem_drop]
      exact Int.lt_of_lt_of_le h1 (cut.hi _ (by omega) (by omega))
theorem mem_ins {l : List t7.den} {p : t7.den} {c : Nat} {x : t7.den} : x ∈ ins l p c ↔ x = p ∨ x ∈ l := by
  unfold ins
  rw [List.mem_append, List.mem_cons]
  constructor
  · rintro (h | rfl | h)
    · exact .inr (List.mem_of_mem_take h)
    · exact .inl rfl
    · exact .inr (List.mem_of_mem_drop h)
  · rintro (rfl | h)
    · exact .inr (.inl rfl)
    · rw [← List.take_append_drop c l] at h
      rcases List.mem_append.1 h with h | h
      · exact .inl h
      · exact .inr (.inr h)
/-- The law's parts of the tenants that are marked. -/
noncomputable def QL (f : Nat → Bool) : List t7.den := ((List.range 16).filter f).map fun t : Nat => Q (t : Int)
def num (f : Nat → Bool) : Nat := ((List.range 16).filter f).length
theorem QL_len (f : Nat → Bool) : (QL f).length = num f := List.length_map ..
theorem mem_QL {f : Nat → Bool} {x : t7.den} : x ∈ QL f ↔ ∃ t : Nat, t < 16 ∧ f t = true ∧ x = Q t := by
  unfold QL
  rw [List.mem_map]
  constructor
  · rintro ⟨t, ht, rfl⟩
    obtain ⟨h1, h2⟩ := List.mem_filter.1 ht
    exact ⟨t, List.mem_range.1 h1, h2, rfl⟩
  · rintro ⟨t, h1, h2, rfl⟩
    exact ⟨t, List.mem_filter.2 ⟨List.mem_range.2 h1, h2⟩, rfl⟩
theorem QL_ris (f : Nat → Bool) : Ris (QL f) := by
  have h := List.Pairwise.filter f (List.pairwise_lt_range (n := 16))
  refine List.Pairwise.map _ (fun a b hab => ?_) h
  show (a : Int) < (b : Int)
  omega
theorem QL_reg {f : Nat → Bool} (h : num f ≤ 8) : GReg (QL f) := reg_of (by rw [QL_len]; exact h) (fun p hp => by
  obtain ⟨t, h1, _, rfl⟩ := mem_QL.1 hp
  exact Q_ok (by omega)) (QL_ris f)
theorem QL_small {f : Nat → Bool} : ∀ p ∈ QL f, PSmall p := fun p hp => by
  obtain ⟨t, h1, _, rfl⟩ := mem_QL.1 hp
  exact Q_small _
theorem QL_wf {f : Nat → Bool} : ∀ p ∈ QL f, PWf p := fun p hp => by
  obtain ⟨t, h1, _, rfl⟩ := mem_QL.1 hp
  exact Q_wf _
theorem QL_fit {f : Nat → Bool} : ∀ p ∈ QL f, fit p := fun p hp => fit_of (QL_small p hp)
theorem QL_H {f : Nat → Bool} (h : num f ≤ 8) : RegOk (QL f) := (QL_reg h).reg QL_wf
def upd (f : Nat → Bool) (t : Nat) (b : Bool) : Nat → Bool := fun s => if s = t then b else f s
theorem QL_none {f : Nat → Bool} {t : Nat} (h : f t = false) : ∀ q ∈ QL f, q.1 ≠ (Q t).1 := fun q hq => by
  obtain ⟨s, h1, h2, rfl⟩ := mem_QL.1 hq
  show (s : Int) ≠ (t : Int)
  intro e
  have : s = t := by omega
  rw [this, h] at h2; cases h2
theorem QL_ext {f g : Nat → Bool} {l : List t7.den} (h : Ris l) (hm : ∀ x, x ∈ l ↔ x ∈ QL g) : l = QL g := ris_ext h (QL_ris g) hm
theorem put_Q {f : Nat → Bool} {t : Nat} (ht : t < 16) (h : f t = false) (hn : num f < 8) : registry_Put.F (QL f) (Q t) = some (QL (upd f t true), 0, ()) := by
  have H := QL_H (f := f) (by omega)
  have hq : partOk (Q t) := (part_says (Q_wf _)).yes (Q_ok (by omega))
  rcases Put_ok H QL_fit hq (fit_of (Q_small _)) with ⟨c, hc, e, _⟩ | ⟨n, ⟨h8, _⟩ | ⟨h8, c, cut, e⟩⟩
  · exact absurd e (QL_none h _ (List.getElem_mem hc))
  · rw [QL_len] at h8; omega
  · rw [e]
    have e2 : List.take c (QL f) ++ [Q ↑t] ++ List.drop c (QL f) = ins (QL f) (Q t) c := by unfold ins; rw [List.append_assoc]; rfl
    rw [e2, QL_ext (f := f) (g := upd f t true) (ris_ins (QL_ris f) cut n) (fun x => ?_)]
    rw [mem_ins, mem_QL, mem_QL]
    constructor
    · rintro (rfl | ⟨s, h1, h2, rfl⟩)
      · exact ⟨t, ht, by unfold upd; rw [if_pos rfl], rfl⟩
      · refine ⟨s, h1, ?_, rfl⟩
        unfold upd
        split
        · rfl
        · exact h2
    · rintro ⟨s, h1, h2, rfl⟩
      by_cases e : s = t
      · subst e; exact .inl rfl
      · unfold upd at h2
        rw [if_neg e] at h2
        exact .inr ⟨s, h1, h2, rfl⟩
theorem put_Q_full {f : Nat → Bool} {t : Nat} (ht : t < 16) (h : f t = false) (hn : num f = 8) : registry_Put.F (QL f) (Q t) = some ([], 18, ()) := by
  have H := QL_H (f := f) (by omega)
  have hq : partOk (Q t) := (part_says (Q_wf _)).yes (Q_ok (by omega))
  rcases Put_ok H QL_fit hq (fit_of (Q_small _)) with ⟨c, hc, e, _⟩ | ⟨n, ⟨h8, e⟩ | ⟨h8, _⟩⟩
  · exact absurd e (QL_none h _ (List.getElem_mem hc))
  · exact e
  · rw [QL_len] at h8; omega
theorem drop_Q {f : Nat → Bool} {t : Nat} (ht : t < 16) (h : f t = true) (hn : num f ≤ 8) : registry_Drop.F (QL f) (t : Int) = some (QL (upd f t false), 0, ()) := by
  have H := QL_H hn
  rcases Drop_ok H QL_fit (t : Int) with ⟨c, hc, e, e2⟩ | ⟨n, _⟩
  · rw [e2, ← filter_one H hc, e, QL_ext (f := f) (g := upd f t false) ((QL_ris f).filter _) (fun x => ?_)]
    rw [List.mem_filter, mem_QL, mem_QL]
    constructor
    · rintro ⟨⟨s, h1, h2, rfl⟩, h3⟩
      refine ⟨s, h1, ?_, rfl⟩
      have : s ≠ t := by
        rintro rfl
        exact absurd rfl (bne_iff_ne.1 h3)
      unfold upd
      rw [if_neg this]; exact h2
    · rintro ⟨s, h1, h2, rfl⟩
      unfold upd at h2
      by_cases e : s = t
      · rw [if_pos e] at h2; cases h2
      · rw [if_neg e] at h2
        refine ⟨⟨s, h1, h2, rfl⟩, bne_iff_ne.2 ?_⟩
        show (s : Int) ≠ (t : Int)
        omega
  · exact absurd rfl (n (Q t) (mem_QL.2 ⟨t, ht, h, rfl⟩))
theorem find_Q {f : Nat → Bool} {t : Nat} (ht : t < 16) (hn : num f ≤ 8) : (f t = true ∧ ∃ (c : Nat) (h : c < (QL f).length), (QL f)[c] = Q t ∧ registry_Find.F (QL f) (t : Int) = some ((c : Int), 0, ())) ∨ (f t = false ∧ registry_Find.F (QL f) (t : Int) = some (0, 6, ())) := by
  have H := QL_H hn
  rcases Find_ok H (t : Int) with ⟨c, hc, e, e2⟩ | ⟨n, e2⟩
  · obtain ⟨s, h1, h2, h3⟩ := mem_QL.1 (List.getElem_mem hc)
    rw [h3] at e
    have : s = t := by have e : (s : Int) = (t : Int) := e; omega
    subst this
    exact .inl ⟨h2, c, hc, h3, e2⟩
  · refine .inr ⟨bool_not fun h => ?_, e2⟩
    exact n (Q t) (mem_QL.2 ⟨t, ht, h, rfl⟩) rfl
theorem tenants_Q {l : List t7.den} (H : RegOk l) : registry_Tenants.F l = some (l.map (fun p => p.1), 0, ()) := by
  have hl := H.len
  rw [registry_Tenants.F_eq, chk_ok H, ob, bne_neg rfl, registry_Tenants.L1_eq]
  have h2 := loop_go (n := l.length) (L := fun i => registry_Tenants.L2 l (l.length : Int) (i : Int) ((l.take i).map (fun p => p.1))) (fun i hi => by
    try dsimp only
    rw [registry_Tenants.L2_eq, bd_pos (by omega), registry_Tenants.L3_eq, bd_pos (by omega)]
    simp only [toNat_cast]
    rw [getD_get hi, lim_small (by decide) (by simp; omega), W_eq (by omega) (by omega), cast_add1, ← List.take_append_getElem hi, List.map_append]
    rfl)
  refine Eq.trans h2 ?_
  try dsimp only
  rw [registry_Tenants.L2_eq, bd_neg (by omega), List.take_of_length_le (Nat.le_refl _)]
theorem two_at {a b : t7.den} {l : List t7.den} (hl : l = [a, b]) {c : Nat} (h : c < l.length) (e : l[c] = b) (n : a.1 ≠ b.1) : c = 1 := by
  subst hl
  match c, h, e with
  | 0, _, e => exact absurd (congrArg (fun p : t7.den => p.1) e) n
  | 1, _, _ => rfl
/-- The chapter's examples hold. -/
theorem alive_f : spigotlaw19_alive.F = some (true, ()) := by
  have p1 : registry_Put.F [] (Q 3) = some (QL (upd (fun _ => false) 3 true), 0, ()) := put_Q (f := fun _ => false) (t := 3) (by decide) rfl (by decide)
  have p2 : registry_Put.F (QL (upd (fun _ => false) 3 true)) (Q 1) = some (QL (upd (upd (fun _ => false) 3 true) 1 true), 0, ()) := put_Q (t := 1) (by decide) rfl (by decide)
  have p3 : registry_Put.F (QL (upd (upd (fun _ => false) 3 true) 1 true)) (Q 9) = some (QL (upd (upd (upd (fun _ => false) 3 true) 1 true) 9 true), 0, ()) := put_Q (t := 9) (by decide) rfl (by decide)
  have p4 : registry_Drop.F (QL (upd (upd (upd (fun _ => false) 3 true) 1 true) 9 true)) 3 = some (QL (upd (upd (upd (upd (fun _ => false) 3 true) 1 true) 9 true) 3 false), 0, ()) := drop_Q (t := 3) (by decide) rfl (by decide)
  have e1 : QL (upd (upd (upd (fun _ => false) 3 true) 1 true) 9 true) = [Q 1, Q 3, Q 9] := by
    have h : (List.range 16).filter (upd (upd (upd (fun _ => false) 3 true) 1 true) 9 true) = [1, 3, 9] := by decide
    unfold QL; rw [h]; rfl
  have e2 : QL (upd (upd (upd (upd (fun _ => false) 3 true) 1 true) 9 true) 3 false) = [Q 1, Q 9] := by
    have h : (List.range 16).filter (upd (upd (upd (upd (fun _ => false) 3 true) 1 true) 9 true) 3 false) = [1, 9] := by decide
    unfold QL; rw [h]; rfl
  have p5 : registry_Find.F (QL (upd (upd (upd (upd (fun _ => false) 3 true) 1 true) 9 true) 3 false)) 9 = some (1, 0, ()) := by
    rcases find_Q (f := upd (upd (upd (upd (fun _ => false) 3 true) 1 true) 9 true) 3 false) (t := 9) (by decide) (by decide) with ⟨_, c, h, e, e3⟩ | ⟨h, _⟩
    · have : c = 1 := two_at e2 h e (by show ¬ ((1 : Int) = 9); decide)
      subst this
      exact e3
    · cases h
  have p6 := tenants_Q (QL_H (f := upd (upd (upd (fun _ => false) 3 true) 1 true) 9 true) (by decide))
  have m : (QL (upd (upd (upd (fun _ => false) 3 true) 1 true) 9 true)).map (fun p => p.1) = [1, 3, 9] := by rw [e1]; rfl
  rw [m] at p6
  rw [spigotlaw19_alive.F_eq, of_f (by decide), ob, p1, ob, of_f (by decide), ob, p2, ob, of_f (by decide), ob, p3, ob, p6, ob, p4, ob, p5, ob, beq_pos rfl, beq_pos rfl, beq_pos rfl, beq_pos rfl, beq_pos rfl, beq_pos rfl, keys_refl (by decide), ob]
  rfl
end Go.Proofs.Ytjmgelpeonodgaa.TB
