/- A function's end: its results and what it wrote are given. -/
import Derived.Test.YtjmgelpeonodgaaPM22
namespace Go.Proofs.Ytjmgelpeonodgaa.PM
set_option linter.unusedSimpArgs false
set_option linter.unusedVariables false
open Go

structure Gv (g : Gh) (A W : Nat → Prop) (w : World) (h : Hp) (A' : Nat → Prop) (h' : Hp) (bs : List Nat) : Prop where
  le : ∀ r, A r → A' r
  in' : ∀ r, A' r → A r ∨ W r
  hr : HR g A' W w h'
  nd : bs.Nodup
  own : ∀ r, r ∈ bs → Free g h' r ∧ ¬ Free g h r ∧ ¬ A' r
  free : ∀ r, Free g h r → Free g h' r ∧ (A' r → A r)
section
variable {g : Gh} {A A1 A2 W : Nat → Prop} {w : World} {h h1 h2 : Hp} {b1 b2 : List Nat}
theorem Gv.refl (H : HR g A W w h) : Gv g A W w h A h [] := ⟨fun _ h => h, fun _ h => .inl h, H, List.nodup_nil, fun r h => by simp at h, fun _ h => ⟨h, fun h => h⟩⟩
theorem Gv.trans (a : Gv g A W w h A1 h1 b1) (b : Gv g A1 W w h1 A2 h2 b2) : Gv g A W w h A2 h2 (b1 ++ b2) := by
  refine ⟨fun r hr => b.le r (a.le r hr), fun r hr => (b.in' r hr).elim (a.in' r) .inr, b.hr, ?_, fun r hr => ?_, fun r hf => ⟨(b.free r (a.free r hf).1).1, fun hr => (a.free r hf).2 ((b.free r (a.free r hf).1).2 hr)⟩⟩
  · rw [List.nodup_append]
    exact ⟨a.nd, b.nd, fun x hx y hy e => (b.own y hy).2.1 (e ▸ (a.own x hx).1)⟩
  · rcases List.mem_append.1 hr with hr | hr
    · obtain ⟨q1, q2, q3⟩ := a.own r hr
      exact ⟨(b.free r q1).1, q2, fun h => q3 ((b.free r q1).2 h)⟩
    · obtain ⟨q1, q2, q3⟩ := b.own r hr
      exact ⟨q1, fun h => q2 (a.free r h).1, q3⟩
def Given (A : Nat → Prop) (w : World) (t : Ty) (own : Bool) (cs : List Value) (y : t.den) (bs : List Nat) : Prop := match own with
  | true => OwnT A w t cs y bs
  | false => TRel A w t cs y ∧ bs = []
theorem give_ok {t : Ty} {own : Bool} {x : PV} {cs : List Value} {y : t.den} {h' : Hp} (H : HR g A W w h) (hx : x.rel g A w cs) (e : (give t own x).Ok h y h') : ∃ A' bs, Gv g A W w h A' h' bs ∧ Given A' w t own cs y bs := by
  unfold give at e
  rw [Ok_cond] at e
  rcases e with ⟨rfl, e⟩ | ⟨rfl, e⟩
  · simp only [Ok_bind, Ok_ret] at e
    obtain ⟨z, h1, e1, u, h2, e2, rfl, rfl⟩ := e
    have := dec_same t x _ h h1 e1
    subst this
    obtain ⟨bs, q1, q2, q3, q4, q5, _⟩ := eat_own t x _ h1 h1 cs u h' H hx (fun _ _ h => h) e1 H e2
    exact ⟨A, bs, ⟨fun _ h => h, fun _ h => .inl h, q3, q2, fun r hr => ⟨(q4 r hr).1, (q4 r hr).2, (owned_out H (q4 r hr).2).1⟩, fun r hf => ⟨q5 r hf, fun h => h⟩⟩, q1⟩
  · obtain ⟨A', F, q⟩ := typed_own H hx e
    exact ⟨A', [], ⟨F.le, F.in', F.hr, List.nodup_nil, fun r h => by simp at h, F.free⟩, q, rfl⟩
theorem give_dec {t : Ty} {own : Bool} {x : PV} {y : t.den} {h' : Hp} (e : (give t own x).Ok h y h') : ∃ z, (dec t x).Ok h z h := by
  unfold give at e
  rw [Ok_cond] at e
  rcases e with ⟨rfl, e⟩ | ⟨rfl, e⟩
  · simp only [Ok_bind] at e
    obtain ⟨z, h1, e1, _⟩ := e
    have := dec_same t x _ h h1 e1
    subst this
    exact ⟨z, e1⟩
  · simp only [typed, Ok_bind] at e
    obtain ⟨z, h1, e1, _⟩ := e
    have := dec_same t x _ h h1 e1
    subst this
    exact ⟨z, e1⟩
theorem Given.mono {A' : Nat → Prop} (hA : ∀ r, A r → A' r) {t : Ty} {own : Bool} {cs : List Value} {y : t.den} {bs : List Nat} (hg : Given A w t own cs y bs) : Given A' w t own cs y bs := by
  cases own with
  | true => exact OwnT.mono hA (fun _ _ => rfl) t cs y bs (fun _ _ => rfl) hg
  | false => exact ⟨TRel.mono hA (fun _ _ => rfl) t cs y hg.1, hg.2⟩
def resOk (P : Program) : List (Ty × Bool) → List ResultVar → Bool
  | [], [] => true
  | _ :: rs, .tmp _ :: r => resOk P rs r
  | (t, _) :: rs, .cell _ ty :: r => tyB P t ty && resOk P rs r
  | _, _ => false
def resAt (P : Program) (w : World) (tmps : Array Value) : ResultVar → Value → Prop
  | .tmp t, v => v = tmps.getD t undef
  | .cell t ty, v => ∃ ad, tmps.getD t undef = .pointer (some ad) ∧ (∃ c e z, w.heap[ad.block]? = some (.cells c e z)) ∧ ∀ w'' : World, w''.heap[ad.block]? = w.heap[ad.block]? → (loadVar ty ad).run P w'' = .ok v w''
def resAll (P : Program) (w : World) (tmps : Array Value) : List ResultVar → List Value → Prop
  | [], [] => True
  | r :: rs, v :: vs => resAt P w tmps r v ∧ resAll P w tmps rs vs
  | _, _ => False
theorem gives_ok {P : Program} {a : Act} {st : St} (htm : ∀ t x, look t st.tm = some x → VRel g A w x (a.tmps.getD t undef)) : ∀ (rs : List (Ty × Bool)) (vs : List ResultVar) (A1 : Nat → Prop) (h : Hp) (y : (resTy rs).den) (h' : Hp), (∀ r, A r → A1 r) → HR g A1 W w h → resOk P rs vs = true → (gives st rs vs).Ok h y h' →
    ∃ A' bs zs, Gv g A1 W w h A' h' bs ∧ ResRel A' w rs zs y bs ∧ resAll P w a.tmps vs zs
  | [], [], A1, h, y, h', hA, H, _, e => by
    simp only [gives, Ok_ret] at e
    obtain ⟨rfl, rfl⟩ := e
    exact ⟨A1, [], [], .refl H, ⟨rfl, rfl⟩, trivial⟩
  | (t, own) :: rs, .tmp u :: vs, A1, h, y, h', hA, H, hr, e => by
    simp only [gives, resV, Ok_bind, Ok_get, Ok_ret] at e
    obtain ⟨x, h1, ⟨e1, rfl⟩, z, h2, e2, q, h3, e3, rfl, rfl⟩ := e
    have hx := (htm u x e1).mono (Gh.le_refl g) hA (fun _ _ => rfl)
    obtain ⟨c1, c2⟩ := VRel.cells hx
    obtain ⟨A2, b1, G1, g1⟩ := give_ok H c1 e2
    obtain ⟨A3, b2, zs, G2, g2, g3⟩ := gives_ok htm rs vs A2 h2 q h' (fun r hr => G1.le r (hA r hr)) G1.hr hr e3
    obtain ⟨z0, hz0⟩ := give_dec e2
    exact ⟨A3, b1 ++ b2, _ :: zs, G1.trans G2, ⟨_, _, b1, b2, rfl, rfl, ⟨by rw [c2, dec_agg _ _ _ _ _ hz0], g1.mono G2.le⟩, g2⟩, rfl, g3⟩
  | (t, own) :: rs, .cell u ty :: vs, A1, h, y, h', hA, H, hr, e => by
    simp only [resOk, Bool.and_eq_true] at hr
    simp only [gives, Ok_bind, Ok_ret] at e
    obtain ⟨x, h1, e1, z, h2, e2, q, h3, e3, rfl, rfl⟩ := e
    simp only [resV] at e1
    split at e1
    · rename_i id hid
      simp only [Q.Ok] at e1
      obtain ⟨B, hB, e1⟩ := e1
      cases B with
      | row _ _ _ => exact e1.elim
      | box x' =>
        obtain ⟨rfl, rfl⟩ := e1
        obtain ⟨s, b, hg, hs, hv, _⟩ := rel_ptr (htm u _ hid)
        obtain ⟨s', b', c, et, hg', hs', hh, hx⟩ := H.blk id _ hB
        rw [hg] at hg'; injection hg' with hg'; subst hg'
        rw [hs] at hs'; injection hs' with hs'; subst hs'
        obtain ⟨z0, hz0⟩ := give_dec e2
        have hag := dec_agg _ _ _ _ _ hz0
        have hlen : c.toList.length = t.size := TRel.len t _ _ (dec_rel H t x z0 _ _ hx hz0).2
        have hat : At w ⟨b, 0, none⟩ c.toList := At_block hh (o := 0) (fun j v hj => by simpa using hj)
        have hV := VRel.of_cells hx
        rw [hag] at hV
        obtain ⟨c1, c2⟩ := VRel.cells hV
        obtain ⟨A2, b1, G1, g1⟩ := give_ok H c1 e2
        obtain ⟨A3, b2, zs, G2, g2, g3⟩ := gives_ok htm rs vs A2 h2 q h' (fun r hr => G1.le r (hA r hr)) G1.hr hr.2 e3
        exact ⟨A3, b1 ++ b2, _ :: zs, G1.trans G2, ⟨_, _, b1, b2, rfl, rfl, ⟨by rw [c2, hag], g1.mono G2.le⟩, g2⟩, ⟨_, hv, ⟨_, _, _, hh⟩, fun w'' hw => run_loadVar_at (P := P) (t := ty) (τ := .data t) hr.1 (At.mono (a := ⟨b, 0, none⟩) hw hat) hlen⟩, g3⟩
    · exact e1.elim
  | [], _ :: _, _, _, _, _, _, _, _, e => by simp [gives, Q.Ok] at e
  | _ :: _, [], _, _, _, _, _, _, _, e => by simp [gives, Q.Ok] at e
end
end Go.Proofs.Ytjmgelpeonodgaa.PM
