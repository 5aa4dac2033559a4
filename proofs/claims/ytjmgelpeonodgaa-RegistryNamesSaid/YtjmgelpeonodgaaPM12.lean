/- One operation of the pure machine: literals, append. -/
import Derived.Test.YtjmgelpeonodgaaPM11
import Derived.Laws.Tables
import Derived.Laws.StructEq
namespace Go.Proofs.Ytjmgelpeonodgaa.PM
set_option linter.unusedSimpArgs false
set_option linter.unusedVariables false
open Go

section
variable {P : Program} {E : Env} {t : TypeId} {g : Gh} {A W : Nat → Prop} {w : World} {h : Hp}
theorem append_ok (hT : tabB P E.tl = true) (ty : TypeId) (H : HR g A W w h) (hW : ∀ r, w.heap.size ≤ r → W r) {s x y : PV} {vs vx : Value} {share : Bool} {nw : Nat} {h' : Hp} (hs : VRel g A w s vs) (hx : VRel g A w x vx) (e : (appendQ E t s x share nw).Ok h y h') :
    ∃ g' A' w' v, (Builtin.append_ #[t, t] ty #[vs, vx]).run P w = .ok v w' ∧ Step g A W w g' A' w' h' ∧ VRel g' A' w' y v := by
  simp only [appendQ, Ok_bind, Ok_cond, Ok_fail, and_false, or_false] at e
  obtain ⟨u, h1, e1, hs1, ys, h2, e2, s', h3, e3, e4⟩ := e
  obtain ⟨hE, rfl⟩ := elem_out e1
  have hty : tyB P (.slice u) t = true := tabB_look hT hE
  obtain ⟨rfl, hsh⟩ := dec_shown H hx e2
  obtain ⟨g1, S1, hs', _⟩ := seat_ok H hs e3
  obtain ⟨g2, A2, w2, v, r, S2, hy⟩ := appendTo_ok (Nat.le_of_ble_eq_true hs1) S1.hr hW hs' (AppSrc.of_shown hty ty hsh) e4
  exact ⟨g2, A2, w2, v, r, S1.trans S2, hy⟩

theorem appendZ_ok (hT : tabB P E.tl = true) (ty : TypeId) (H : HR g A W w h) (hW : ∀ r, w.heap.size ≤ r → W r) {t' : TypeId} {s x y : PV} {vs vx : Value} {share : Bool} {nw : Nat} {h' : Hp} (hs : VRel g A w s vs) (hx : VRel g A w x vx) (e : (appendZQ E t t' s x share nw).Ok h y h') :
    ∃ g' A' w' v, (Builtin.append_ #[t, t'] ty #[vs, vx]).run P w = .ok v w' ∧ Step g A W w g' A' w' h' ∧ VRel g' A' w' y v := by
  simp only [appendZQ, Ok_bind] at e
  obtain ⟨u, h1, e1, τ, h2, e2, e⟩ := e
  obtain ⟨hE, rfl⟩ := elem_out e1
  obtain ⟨hE2, rfl⟩ := data_out e2
  have hty : tyB P (.slice u) t = true := tabB_look hT hE
  have hty2 : tyB P τ t' = true := tabB_look hT hE2
  split at e
  · rename_i k n
    simp only [Ok_cond, Ok_fail, and_false, or_false, Ok_ask, Ok_bind, Bool.and_eq_true, decide_eq_true_eq] at e
    obtain ⟨hs1, ⟨hn, hlim⟩, s', h3, e3, e4⟩ := e
    have hs1 := Nat.le_of_ble_eq_true hs1
    have hlim := lim_out hlim
    obtain rfl := v_int hx
    obtain ⟨g1, S1, hs', _⟩ := seat_ok H hs e3
    have hnn : (n : Int) = ((n : Int).toNat : Int) := by rw [Int.toNat_of_nonneg hn]
    have hk : P.underlying t' = some (.int k) := by
      simp only [tyB_int, Bool.and_eq_true] at hty2
      have h2 := hty2.2
      split at h2
      · rename_i j hj; rw [hj, of_decide_eq_true h2]
      · cases h2
    have src := AppSrc.of_zero (A := A) (w := w) hty hk ty hlim hs1
    rw [← hnn] at src
    obtain ⟨g2, A2, w2, v, r, S2, hy⟩ := appendTo_ok hs1 S1.hr hW hs' src e4
    exact ⟨g2, A2, w2, v, r, S1.trans S2, hy⟩
  · exact e.elim
theorem places_ok : ∀ (τ : Ty) (fs : List Field) (o : Nat), fldB P τ fs o = true → ∃ places, fs.mapM (fun f => (P.info? f.type).map fun i => (f.offset, i.size)) = some places ∧ ∀ i u k, fldTy τ i = some u → fldOff τ i = some k → places[i]? = some (o + k, u.size)
  | .pair a b, fs, o, h => by
    cases fs with
    | nil => simp [fldB_pair1, fldB_pair0, fldB_unit1, fldB_unit0, fldB_int, fldB_bool, fldB_str, fldB_arr, fldB_slice] at h
    | cons f fs =>
      simp only [fldB_pair1, fldB_pair0, fldB_unit1, fldB_unit0, fldB_int, fldB_bool, fldB_str, fldB_arr, fldB_slice, Bool.and_eq_true] at h
      obtain ⟨pl, h1, h2⟩ := places_ok b fs (o + a.size) h.2.2
      obtain ⟨i, z, hi, hs, _⟩ := tyB_info h.2.1
      refine ⟨(f.offset, i.size) :: pl, by simp [List.mapM_cons, hi, h1], fun i u k e e' => ?_⟩
      cases i with
      | zero =>
        simp only [fldTy, Option.some.injEq] at e
        simp only [fldOff, Option.some.injEq] at e'
        subst e e'
        simp [hs, Nat.eq_of_beq_eq_true h.1]
      | succ i =>
        simp only [fldTy] at e
        simp only [fldOff, Option.map_eq_some_iff] at e'
        obtain ⟨k', e1, rfl⟩ := e'
        have := h2 i u k' e e1
        simp [this, Nat.add_assoc]
  | .unit, fs, o, h => by
    cases fs with
    | nil => exact ⟨[], rfl, fun _ _ _ e => by simp [fldTy] at e⟩
    | cons f fs => simp [fldB_pair1, fldB_pair0, fldB_unit1, fldB_unit0, fldB_int, fldB_bool, fldB_str, fldB_arr, fldB_slice] at h
  | .int _, _, _, h => by simp [fldB_pair1, fldB_pair0, fldB_unit1, fldB_unit0, fldB_int, fldB_bool, fldB_str, fldB_arr, fldB_slice] at h
  | .bool, _, _, h => by simp [fldB_pair1, fldB_pair0, fldB_unit1, fldB_unit0, fldB_int, fldB_bool, fldB_str, fldB_arr, fldB_slice] at h
  | .str, _, _, h => by simp [fldB_pair1, fldB_pair0, fldB_unit1, fldB_unit0, fldB_int, fldB_bool, fldB_str, fldB_arr, fldB_slice] at h
  | .arr _ _, _, _, h => by simp [fldB_pair1, fldB_pair0, fldB_unit1, fldB_unit0, fldB_int, fldB_bool, fldB_str, fldB_arr, fldB_slice] at h
  | .slice _, _, _, h => by simp [fldB_pair1, fldB_pair0, fldB_unit1, fldB_unit0, fldB_int, fldB_bool, fldB_str, fldB_arr, fldB_slice] at h
theorem putF_ok {τ : Ty} {place : Nat → Option (Nat × Nat)} (hpl : ∀ i u k, fldTy τ i = some u → fldOff τ i = some k → place i = some (k, u.size)) : ∀ (ps : List (Nat × PV)) (qs : List (Nat × Value)) (g : Gh) (h : Hp) (xs ys : List PV) (n : Nat) (cs : Array Value) (h' : Hp), HR g A W w h → PRel g A w ps qs → rels g A w xs cs.toList → (putF τ ps xs n).Ok h ys h' →
    ∃ g' cs', Step g A W w g' A w h' ∧ Instr.fill place cs qs = some cs' ∧ rels g' A w ys cs'.toList
  | [], [], g, h, xs, ys, n, cs, h', H, _, hc, e => by
    simp only [putF, Ok_ret] at e
    obtain ⟨rfl, rfl⟩ := e
    exact ⟨g, cs, .refl H, rfl, hc⟩
  | (i, x) :: ps, (j, v) :: qs, g, h, xs, ys, n, cs, h', H, hp, hc, e => by
    obtain ⟨rfl, hv, hp⟩ := hp
    unfold putF at e
    split at e
    · rename_i u o hu ho
      simp only [Ok_bind] at e
      obtain ⟨x', h1, e1, e⟩ := e
      obtain ⟨g1, S1, hx', _⟩ := seat_ok H hv e1
      split at e
      · rename_i old hold
        simp only [Ok_cond, Ok_fail, and_false, or_false, Bool.and_eq_true] at e
        obtain ⟨⟨hf, hsz⟩, e⟩ := e
        have hsz := Nat.eq_of_beq_eq_true hsz
        have hxr := (VRel.cells hx').1
        have hxl : v.cells.toList.length = u.size := by rw [PV.rel_len _ _ hxr, (fits_ok u x' hf).2]
        obtain ⟨pre, zs, post, c1, c2, c3, c4⟩ := setI_rel xs i o cs.toList old x' v.cells.toList (rels_mono S1.le (fun _ h => h) (fun _ _ => rfl) _ _ hc) hold hxr (by rw [hxl, hsz])
        have hzl : zs.length = u.size := by rw [PV.rel_len _ _ c3, hsz]
        have hsum : cs.size = o + u.size + post.length := by
          have := congrArg List.length c1
          rw [Array.length_toList, List.length_append, List.length_append, c2, hzl] at this; exact this
        obtain ⟨cs1, f1, f2, f3⟩ := fill_step (place := place) (rest := qs) (hpl i u o hu ho) (by rw [← Array.length_toList]; exact hxl) (cells := cs) (by omega)
        have hcs1 : cs1.toList = pre ++ v.cells.toList ++ post := by
          rw [f2, c1]
          congr 1
          · congr 1
            rw [List.append_assoc, ← c2, List.take_left]
          · have : o + u.size = (pre ++ zs).length := by rw [List.length_append, c2, hzl]
            rw [this, List.drop_left]
        obtain ⟨g2, cs2, S2, r1, r2⟩ := putF_ok hpl ps qs g1 h1 _ ys (n + 1) cs1 h' S1.hr (hp.mono S1.le (fun _ h => h)) (by rw [hcs1]; exact c4) e
        exact ⟨g2, cs2, S1.trans S2, by rw [f1]; exact r1, r2⟩
      · simp [Q.Ok] at e
    · simp [Q.Ok] at e
  | [], _ :: _, _, _, _, _, _, _, _, _, hp, _, _ => hp.elim
  | _ :: _, [], _, _, _, _, _, _, _, _, hp, _, _ => hp.elim
theorem build_struct {τ : Ty} {fs : Array Field} (hty : tyB P τ t = true) (hu : P.underlying t = some (.struct fs)) (hfs : fldB P τ fs.toList 0 = true) (H : HR g A W w h) {ps : List (Nat × PV)} {qs : List (Nat × Value)} (hp : PRel g A w ps qs) {nw : Nat} {y : PV} {h' : Hp}
    (e : ((imp τ τ.zero nw).bind fun z => match z.1 with
      | .agg xs => (putF τ ps xs z.2).bind fun xs => .ret (.agg xs)
      | _ => .fail).Ok h y h') :
    ∃ g' v, (Instr.build t qs.toArray).run P w = .ok v w ∧ Step g A W w g' A w h' ∧ VRel g' A w y v := by
  simp only [Ok_bind] at e
  obtain ⟨z, h1, e1, e⟩ := e
  obtain ⟨i, z0, hi, hi2, _, hi4, hz, _⟩ := tyB_info hty
  obtain ⟨g1, l1, H1, r1, _, _⟩ := imp_ok τ τ.zero nw g h (zcells τ) [] z h1 H (zcells_own A w τ) List.nodup_nil (by simp) e1
  have S1 : Step g A W w g1 A w h1 := ⟨l1, fun _ h => h, fun _ h => .inl h, H1, fun _ _ => rfl, .refl W w⟩
  obtain ⟨pl, p1, p2⟩ := places_ok τ fs.toList 0 hfs
  split at e
  · rename_i xs hx
    rw [hx] at r1
    unfold PV.rel at r1
    simp only [Ok_bind, Ok_ret] at e
    obtain ⟨ys, h2, e2, rfl, rfl⟩ := e
    obtain ⟨g2, cs, S2, f1, f2⟩ := putF_ok (place := fun i => pl.toArray[i]?) (fun i u k e e' => by have := p2 i u k e e'; simpa using this) ps qs g1 h1 xs ys z.2 z0.cells h' H1 (hp.mono l1 (fun _ h => h)) (by rw [hz]; exact r1) e2
    refine ⟨g2, .agg cs, run_build w t qs.toArray cs ?_, S1.trans S2, ⟨cs, rfl, by unfold PV.rel; exact f2⟩⟩
    unfold Program.built
    simp only [hi, hu, hi4, p1]
    exact f1
  · simp [Q.Ok] at e
theorem build_ok (hT : tabB P E.tl = true) (H : HR g A W w h) {ps : List (Nat × PV)} {qs : List (Nat × Value)} (hp : PRel g A w ps qs) {nw : Nat} {y : PV} {h' : Hp} (e : (buildQ E t ps nw).Ok h y h') :
    ∃ g' A' v, (Instr.build t qs.toArray).run P w = .ok v w ∧ Step g A W w g' A' w h' ∧ VRel g' A' w y v := by
  simp only [buildQ, Ok_bind] at e
  obtain ⟨τ, h1, e1, e⟩ := e
  obtain ⟨hE, rfl⟩ := data_out e1
  have hty : tyB P τ t = true := tabB_look hT hE
  cases τ with
  | arr n u =>
    simp only [Ok_bind, Ok_ret] at e
    obtain ⟨xs, h2, e2, rfl, rfl⟩ := e
    obtain ⟨e0, hu, he⟩ := arr_und hty
    obtain ⟨i, z, hi, hi2, _, hi4, hz, _⟩ := tyB_info hty
    obtain ⟨j, z', hj, hj2, _⟩ := tyB_info he
    have hz0 := zcells_rel A w (.arr n u)
    rw [← hz] at hz0
    unfold TRel at hz0
    obtain ⟨A1, cs, F, f1, f2, f3⟩ := putA_ok ps qs A h1 _ xs _ h' H hp hz0.2 e2
    refine ⟨g, A1, .agg cs, run_build w t qs.toArray cs ?_, F.step, ⟨cs, rfl, ?_⟩⟩
    · unfold Program.built
      simp only [hi, hu, hi4, hj, hj2]
      exact f1
    · unfold PV.rel TRel
      exact ⟨by rw [f3]; exact hz0.1, f2⟩
  | unit =>
    have hty' := hty
    simp only [tyB_int, tyB_bool, tyB_str, tyB_unit, tyB_pair, tyB_arr, tyB_slice, Bool.and_eq_true] at hty'
    obtain ⟨_, hu⟩ := hty'
    split at hu
    · rename_i fs hfs
      obtain ⟨g', v, r⟩ := build_struct hty hfs (by rw [List.isEmpty_iff.1 hu]; simp [fldB_pair1, fldB_pair0, fldB_unit1, fldB_unit0, fldB_int, fldB_bool, fldB_str, fldB_arr, fldB_slice]) H hp e
      exact ⟨g', A, v, r⟩
    · cases hu
  | pair a b =>
    have hty' := hty
    simp only [tyB_int, tyB_bool, tyB_str, tyB_unit, tyB_pair, tyB_arr, tyB_slice, Bool.and_eq_true] at hty'
    obtain ⟨_, hu⟩ := hty'
    split at hu
    · rename_i fs hfs
      obtain ⟨g', v, r⟩ := build_struct hty hfs hu H hp e
      exact ⟨g', A, v, r⟩
    · cases hu
  | int k =>
    simp [imp, Ok_bind, Q.Ok] at e
    obtain ⟨a, b, h1, ⟨⟨rfl, _⟩, _⟩, e⟩ := e
    exact e.elim
  | bool =>
    simp [imp, Ok_bind, Q.Ok] at e
    obtain ⟨a, b, h1, ⟨⟨rfl, _⟩, _⟩, e⟩ := e
    exact e.elim
  | str =>
    simp [imp, Ok_bind, Q.Ok] at e
    obtain ⟨a, b, h1, ⟨⟨rfl, _⟩, _⟩, e⟩ := e
    exact e.elim
  | slice u =>
    simp [imp, Ok_bind, Q.Ok] at e
    obtain ⟨a, b, h1, ⟨_, ⟨rfl, _⟩, _⟩, e⟩ := e
    exact e.elim
end
end Go.Proofs.Ytjmgelpeonodgaa.PM
