/- A function's end: boxes and rows that came in, then its results. -/
import Derived.Test.YtjmgelpeonodgaaPM23
namespace Go.Proofs.Ytjmgelpeonodgaa.PM
set_option linter.unusedSimpArgs false
set_option linter.unusedVariables false
open Go
section
variable {g : Gh} {A A1 W : Nat → Prop} {w : World} {h : Hp}
theorem Gv.tomb (H : HR g A W w h) {id : Nat} {B : Blk} {s : Slot} (hb : h.at id = some B) (hl : B.live = true) (hg : g id = some s) : Gv g A W w h A ((id, none) :: h) s.blk.toList := by
  refine ⟨fun _ h => h, fun _ h => .inl h, H.del id, ?_, fun r hr => ?_, fun r hf => ⟨hf.del, fun h => h⟩⟩
  · cases s.blk <;> simp
  · have hs : s.blk = some r := by
      cases hh : s.blk with
      | none => rw [hh] at hr; simp at hr
      | some b => rw [hh] at hr; simp at hr; rw [hr]
    refine ⟨fun i c s' hi hc hgi hsi => ?_, fun hf => hf id B s hb hl hg hs, (H.own id B s r hb hl hg hs).1⟩
    rw [at_cons] at hi
    split at hi
    · cases hi
    · rename_i hne
      exact hne (H.inj i id c B s' s r hi hb hc hl hgi hg hsi hs)
theorem outs_ok {P : Program} {a : Act} {st : St} (htm : ∀ t x, look t st.tm = some x → VRel g A w x (a.tmps.getD t undef)) {rs : List (Ty × Bool)} {vs : List ResultVar} (hres : resOk P rs vs = true) (ps : List PK) : ∀ (l : List PV) (args : List Value) (ss : List Slot) (A1 : Nat → Prop) (h : Hp) (y : (outTy ps rs).den) (h' : Hp), (∀ r, A r → A1 r) → HR g A1 W w h → IoR g l ss → SlR ps args ss → (outs st rs vs ps l).Ok h y h' →
    ∃ A' bs zs, Gv g A1 W w h A' h' bs ∧ OutRel A' w ps rs args zs y bs ∧ resAll P w a.tmps vs zs := by
  induction ps with
  | nil =>
    intro l args ss A1 h y h' hA H _ _ e
    exact gives_ok htm rs vs A1 h y h' hA H hres (e)
  | cons k ps ih =>
    intro l args ss A1 h y h' hA H hio hsl e
    cases k with
    | val t =>
      have e : (outs st rs vs ps l).Ok h y h' := e
      exact ih l args.tail ss A1 h y h' hA H hio hsl e
    | fn f =>
      have e : (outs st rs vs ps l).Ok h y h' := e
      exact ih l args.tail ss A1 h y h' hA H hio hsl e
    | io t own =>
      obtain ⟨v, us, s, tt, rfl, rfl, ⟨b, hs, rfl⟩, hsl⟩ := hsl
      cases l with
      | nil => exact hio.elim
      | cons x l =>
        obtain ⟨⟨id, hx, hg⟩, hio⟩ := hio
        simp only [outs] at e
        obtain ⟨z, h1, e1, e⟩ := (Ok_bind _ _ _ _ _).1 e
        obtain ⟨q, h2, e2, e⟩ := (Ok_bind _ _ _ _ _).1 e
        obtain ⟨rfl, rfl⟩ := e
        unfold outBox at e1
        rcases hx with rfl | rfl
        · simp only [Q.Ok] at e1
          obtain ⟨B, hB, e1⟩ := e1
          cases B with
          | row _ _ _ => exact e1.elim
          | box x =>
            simp only [Q.Ok] at e1
            obtain ⟨_, e1⟩ := e1
            obtain ⟨s', b', c, et, hg', hs', hh, hxr⟩ := H.blk id _ hB
            rw [hg] at hg'; injection hg' with hg'; subst hg'
            rw [hs] at hs'; injection hs' with hs'; subst hs'
            have T := Gv.tomb H hB rfl hg
            obtain ⟨A2, p, G2, gv⟩ := give_ok T.hr hxr e1
            obtain ⟨A3, bs, zs, G3, o1, o2⟩ := ih l us tt A2 h1 q h' (fun r hr => G2.le r (hA r hr)) G2.hr hio hsl e2
            exact ⟨A3, _, zs, (T.trans G2).trans G3, ⟨_, us, s.blk.toList ++ p, bs, rfl, rfl, ⟨b, c, et, p, rfl, hh, by rw [hs]; rfl, gv.mono G3.le⟩, o1⟩, o2⟩
        · exact e1.elim
    | mu t =>
      obtain ⟨v, us, s, tt, rfl, rfl, hv, hsl⟩ := hsl
      cases l with
      | nil => exact hio.elim
      | cons x l =>
        obtain ⟨⟨id, hx, hg⟩, hio⟩ := hio
        simp only [outs] at e
        obtain ⟨z, h1, e1, e⟩ := (Ok_bind _ _ _ _ _).1 e
        obtain ⟨q, h2, e2, e⟩ := (Ok_bind _ _ _ _ _).1 e
        obtain ⟨rfl, rfl⟩ := e
        unfold rowIO at e1
        rcases hx with rfl | rfl
        · exact e1.elim
        · simp only [Q.Ok] at e1
          obtain ⟨B, hB, e1⟩ := e1
          cases B with
          | box _ => exact e1.elim
          | row u ys fz =>
            cases fz with
            | true => exact e1.elim
            | false =>
              obtain ⟨z', h3, f1, f2⟩ := (Ok_bind _ _ _ _ _).1 e1
              rw [Ok_get] at f1
              obtain ⟨ec, rfl⟩ := f1
              simp only [Q.Ok] at f2
              obtain ⟨_, rfl, rfl⟩ := f2
              obtain ⟨ev, _⟩ := cast_some ec
              injection ev with ev; subst ev
              obtain rfl := cast_self ec
              obtain ⟨s', hg', hrow, _⟩ := H.blk id _ hB
              rw [hg] at hg'; injection hg' with hg'; subst hg'
              have T := Gv.tomb H hB rfl hg
              obtain ⟨A3, bs, zs, G3, o1, o2⟩ := ih l us tt A1 _ q h' hA T.hr hio hsl e2
              exact ⟨A3, _, zs, T.trans G3, ⟨v, us, s.blk.toList, bs, rfl, rfl, ⟨s, hv, hrow.mono G3.le (fun _ _ => rfl) (fun _ _ => rfl), rfl⟩, o1⟩, o2⟩
end
end Go.Proofs.Ytjmgelpeonodgaa.PM
