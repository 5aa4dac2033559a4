/- A function's start: its parameters as it stands on them. -/
import Derived.Test.YtjmgelpeonodgaaPM21
namespace Go.Proofs.Ytjmgelpeonodgaa.PM
set_option linter.unusedSimpArgs false
set_option linter.unusedVariables false
open Go

def SlR : List PK → List Value → List Slot → Prop
  | [], _, ss => ss = []
  | .io _ _ :: r, vs, ss => ∃ v us s tt, vs = v :: us ∧ ss = s :: tt ∧ (∃ b, s.blk = some b ∧ v = .pointer (some ⟨b, 0, none⟩)) ∧ SlR r us tt
  | .mu _ :: r, vs, ss => ∃ v us s tt, vs = v :: us ∧ ss = s :: tt ∧ SlV s v ∧ SlR r us tt
  | .val _ :: r, vs, ss => SlR r vs.tail ss
  | .fn _ :: r, vs, ss => SlR r vs.tail ss
section
variable {A W : Nat → Prop} {w : World}
theorem VRel_of {g : Gh} {x : PV} {v : Value} {t : Ty} (h1 : aggP x = t.agg) (h2 : isAggV v = t.agg) (r : x.rel g A w v.cells.toList) : VRel g A w x v := by
  have h3 := VRel.of_cells r
  have h4 : ofCells (aggP x) v.cells.toList = v := by
    rw [h1, ← h2]
    cases hx : isAggV v with
    | true => cases v <;> simp_all [isAggV, ofCells, Value.cells]
    | false => rw [isAggV_cells hx]; rfl
  rw [h4] at h3; exact h3
theorem start_ok (ps : List PK) : ∀ (g : Gh) (h : Hp) (vs : List Value) (x : (argTy ps).den) (bs : List Nat) (i n : Nat) (q : List (Nat × PV) × List PV × Nat) (h' : Hp), HR g A W w h → ArgsRel A w ps vs x bs → bs.Nodup → (∀ r, r ∈ bs → ¬ A r ∧ W r ∧ Free g h r) → (start ps x i n).Ok h q h' →
    ∃ g' ss, g.le g' ∧ HR g' A W w h' ∧ (∀ t y, look t q.1 = some y → ∃ j v, t = i + j ∧ vs[j]? = some v ∧ VRel g' A w y v) ∧ IoR g' q.2.1 ss ∧ SlR ps vs ss := by
  induction ps with
  | nil =>
    intro g h vs x bs i n q h' H ha hn hb e
    simp only [start, Ok_ret] at e
    obtain ⟨rfl, rfl⟩ := e
    exact ⟨g, [], Gh.le_refl g, H, fun t y hh => (nomatch (show (none : Option PV) = some y from hh)), trivial, rfl⟩
  | cons k ps ih =>
    intro g h vs x bs i n q h' H ha hn hb e
    -- what is behind the first parameter, moved by one
    have move : ∀ {g2 g' : Gh} {z : PV} {v : Value} {us : List Value} {tm : List (Nat × PV)}, g2.le g' → VRel g2 A w z v → (∀ t y, look t tm = some y → ∃ j u, t = i + 1 + j ∧ us[j]? = some u ∧ VRel g' A w y u) →
        ∀ t y, look t ((i, z) :: tm) = some y → ∃ j u, t = i + j ∧ (v :: us)[j]? = some u ∧ VRel g' A w y u := fun {g2 g' z v us tm} hl hz hr t y hy => by
      rw [look_cons] at hy
      split at hy
      · rename_i e; injection hy with hy; subst hy e
        exact ⟨0, v, rfl, rfl, hz.mono hl (fun _ h => h) (fun _ _ => rfl)⟩
      · obtain ⟨j, u, h1, h2, h3⟩ := hr t y hy
        exact ⟨j + 1, u, by omega, by simpa using h2, h3⟩
    cases k with
    | val t =>
      simp only [start, Ok_bind, Ok_ret] at e
      obtain ⟨q1, h1, e1, rfl, rfl⟩ := e
      obtain ⟨v, us, rfl, ⟨hv1, hv2⟩, ha⟩ := ha
      obtain ⟨g', ss, l, H', r1, r2, r3⟩ := ih g h us x.2 bs (i + 1) n q1 h' H ha hn hb e1
      have hz : VRel g A w (mk t x.1) v := VRel_of (isAgg_mk t x.1) hv1 (mk_rel t x.1 _ hv2.1)
      exact ⟨g', ss, l, H', move l hz r1, r2, r3⟩
    | fn f =>
      simp only [start, Ok_bind, Ok_ret] at e
      obtain ⟨q1, h1, e1, rfl, rfl⟩ := e
      obtain ⟨v, us, rfl, hv, ha⟩ := ha
      obtain ⟨g', ss, l, H', r1, r2, r3⟩ := ih g h us x bs (i + 1) n q1 h' H ha hn hb e1
      have hz : VRel g A w (.fn f []) v := by
        unfold VRel; simp only [aggP]; unfold PV.rel; exact ⟨rfl, by rw [hv]⟩
      exact ⟨g', ss, l, H', move l hz r1, r2, r3⟩
    | mu t =>
      simp only [start, Q.Ok, Ok_bind, Ok_ret] at e
      obtain ⟨e0, q1, h1, e1, rfl, rfl⟩ := e
      obtain ⟨v, us, b1, b2, rfl, rfl, ⟨s, s1, s2, rfl⟩, ha⟩ := ha
      rw [List.nodup_append] at hn
      have hu : upd g n s n = some s := upd_self g n s
      have H1 := H.add e0 s (b := .row t x.1 false) ⟨s, hu, s2, fun h => by cases h⟩ (fun _ r hr => hb r (by rw [hr]; simp))
      have hl := le_upd (s := s) (H.gnone e0)
      obtain ⟨g', ss, l, H', r1, r2, r3⟩ := ih (upd g n s) _ us x.2 b2 (i + 1) (n + 1) q1 h' H1 ha hn.2.1 (fun r hr => ⟨(hb r (by simp [hr])).1, (hb r (by simp [hr])).2.1, (hb r (by simp [hr])).2.2.add (H.gnone e0) (fun h => hn.2.2 r (by rw [h]; simp) r hr rfl)⟩) e1
      exact ⟨g', s :: ss, Gh.le_trans hl l, H', move l (of_sl hu s1) r1, ⟨⟨n, .inr rfl, l _ _ hu⟩, r2⟩, ⟨v, us, s, ss, rfl, rfl, s1, r3⟩⟩
    | io t own =>
      simp only [start, Ok_bind, Q.Ok, Ok_ret] at e
      obtain ⟨p, h1, e1, e0, q1, h2, e2, rfl, rfl⟩ := e
      obtain ⟨v, us, b1, b2, rfl, rfl, ⟨b, c, ty, pp, rfl, q2, rfl, q4⟩, ha⟩ := ha
      rw [List.nodup_append] at hn
      obtain ⟨hn1, hn2, hn3⟩ := hn
      rw [List.nodup_cons] at hn1
      obtain ⟨g1, l1, H1, p1, f1, _⟩ := impO_ok H q4 hn1.2 (fun r hr => hb r (by simp [hr])) (show (impO t own x.1 (n + 1)).Ok h p h1 by unfold impO; exact e1)
      have hu : upd g1 n ⟨some b, 0, 0⟩ n = some ⟨some b, 0, 0⟩ := upd_self g1 n _
      have hl := le_upd (s := ⟨some b, 0, 0⟩) (H1.gnone e0)
      have hbb := hb b (by simp)
      have H2 := H1.add e0 ⟨some b, 0, 0⟩ (b := .box p.1) ⟨_, b, c, ty, hu, rfl, q2, PV.rel_mono hl (fun _ h => h) (fun _ _ => rfl) _ _ p1⟩ (fun _ r hr => by
        injection hr with hr; subst hr
        exact ⟨hbb.1, hbb.2.1, f1 b hbb.2.2 hn1.1⟩)
      obtain ⟨g', ss, l, H', r1, r2, r3⟩ := ih (upd g1 n ⟨some b, 0, 0⟩) _ us x.2 b2 (i + 1) p.2 q1 h' H2 ha hn2 (fun r hr => ⟨(hb r (by simp [hr])).1, (hb r (by simp [hr])).2.1, (f1 r (hb r (by simp [hr])).2.2 (fun h => hn3 r (by simp [h]) r hr rfl)).add (H1.gnone e0) (fun h => hn3 r (by injection h with h; simp [h]) r hr rfl)⟩) e2
      exact ⟨g', ⟨some b, 0, 0⟩ :: ss, Gh.le_trans l1 (Gh.le_trans hl l), H', move l (mk_ptr (p := []) hu rfl trivial) r1, ⟨⟨n, .inl rfl, l _ _ hu⟩, r2⟩, ⟨_, us, _, ss, rfl, rfl, ⟨b, rfl, rfl⟩, r3⟩⟩
end
end Go.Proofs.Ytjmgelpeonodgaa.PM
