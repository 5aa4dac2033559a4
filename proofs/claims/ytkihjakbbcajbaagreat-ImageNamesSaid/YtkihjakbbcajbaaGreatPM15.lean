/- One operation of the pure machine: literals, append. -/
import Derived.Test.YtkihjakbbcajbaaGreatPM11
import Derived.Laws.Tables
import Derived.Laws.StructEq
import Derived.Laws.BytesString
namespace Go.Proofs.YtkihjakbbcajbaaGreat.PM
set_option linter.unusedSimpArgs false
set_option linter.unusedVariables false
open Go

section
variable {P : Program} {E : Env} {t : TypeId} {g : Gh} {A W : Nat → Prop} {w : World} {h : Hp}
theorem append_ok (hT : tabB P E.tl = true) (ty : TypeId) (H : HR g A W w h) (hW : ∀ r, w.heap.size ≤ r → W r) {s x y : PV} {vs vx : Value} {share : Bool} {nw : Nat} {h' : Hp} (hs : VRel g A w s vs) (hx : VRel g A w x vx) (e : (appendQ E t s x share nw).Ok h y h') :
    ∃ g' A' w' v, (Builtin.append_ #[t, t] ty #[vs, vx]).run P w = .ok v w' ∧ Step g A W w g' A' w' h' ∧ VRel g' A' w' y v := by
  simp only [appendQ, Ok_bind, Ok_cond, Ok_fail, and_false, or_false] at e
  obtain ⟨u, h1, e1, hs1, ys, h2, e2, s', h3, e3, e4⟩ := e
  obtain ⟨hE, rfl⟩ := elem_out e1
  have hty : tyB P (.slice u) t = true := tabB_look hT hE
  obtain ⟨rfl, hsh⟩ := dec_shown H hx e2
  obtain ⟨g1, S1, hs', _⟩ := seat_ok H hs e3
  obtain ⟨g2, A2, w2, v, r, S2, hy⟩ := appendTo_ok (Nat.le_of_ble_eq_true hs1) S1.hr hW hs' (AppSrc.of_shown hty ty hsh) e4
  exact ⟨g2, A2, w2, v, r, S1.trans S2, hy⟩

theorem appendZ_ok (hT : tabB P E.tl = true) (ty : TypeId) (H : HR g A W w h) (hW : ∀ r, w.heap.size ≤ r → W r) {t' : TypeId} {s x y : PV} {vs vx : Value} {share : Bool} {nw : Nat} {h' : Hp} (hs : VRel g A w s vs) (hx : VRel g A w x vx) (e : (appendZQ E t t' s x share nw).Ok h y h') :
    ∃ g' A' w' v, (Builtin.append_ #[t, t'] ty #[vs, vx]).run P w = .ok v w' ∧ Step g A W w g' A' w' h' ∧ VRel g' A' w' y v := by
  simp only [appendZQ, Ok_bind] at e
  obtain ⟨u, h1, e1, τ, h2, e2, e⟩ := e
  obtain ⟨hE, rfl⟩ := elem_out e1
  obtain ⟨hE2, rfl⟩ := data_out e2
  have hty : tyB P (.slice u) t = true := tabB_look hT hE
  have hty2 : tyB P τ t' = true := tabB_look hT hE2
  split at e
  · rename_i k n
    simp only [Ok_cond, Ok_fail, and_false, or_false, Ok_ask, Ok_bind, Bool.and_eq_true, decide_eq_true_eq] at e
    obtain ⟨hs1, ⟨hn, hlim⟩, s', h3, e3, e4⟩ := e
    have hs1 := Nat.le_of_ble_eq_true hs1
    have hlim := lim_out hlim
    obtain rfl := v_int hx
    obtain ⟨g1, S1, hs', _⟩ := seat_ok H hs e3
    have hnn : (n : Int) = ((n : Int).toNat : Int) := by rw [Int.toNat_of_nonneg hn]
    have hk : P.underlying t' = some (.int k) := by
      simp only [tyB_int, Bool.and_eq_true] at hty2
      have h2 := hty2.2
      split at h2
      · rename_i j hj; rw [hj, of_decide_eq_true h2]
      · cases h2
    have src := AppSrc.of_zero (A := A) (w := w) hty hk ty hlim hs1
    rw [← hnn] at src
    obtain ⟨g2, A2, w2, v, r, S2, hy⟩ := appendTo_ok hs1 S1.hr hW hs' src e4
    exact ⟨g2, A2, w2, v, r, S1.trans S2, hy⟩
  · exact e.elim
theorem places_ok : ∀ (τ : Ty) (fs : List Field) (o : Nat), fldB P τ fs o = true → ∃ places, fs.mapM (fun f => (P.info? f.type).map fun i => (f.offset, i.size)) = some places ∧ ∀ i u k, fldTy τ i = some u → fldOff τ i = some k → places[i]? = some (o + k, u.size)
  | .pair a b, fs, o, h => by
    cases fs with
    | nil => simp [fldB_pair1, fldB_pair0, fldB_unit1, fldB_unit0, fldB_int, fldB_bool, fldB_str, fldB_arr, fldB_slice] at h
    | cons f fs =>
      simp only [fldB_pair1, fldB_pair0, fldB_unit1, fldB_unit0, fldB_int, fldB_bool, fldB_str, fldB_arr, fldB_slice, Bool.and_eq_true] at h
      obtain ⟨pl, h1, h2⟩ := places_ok b fs (o + a.size) h.2.2
      obtain ⟨i, z, hi, hs, _⟩ := tyB_info h.2.1
      refine ⟨(f.offset, i.size) :: pl, by simp [List.mapM_cons, hi, h1], fun i u k e e' => ?_⟩
      cases i with
      | zero =>
        simp only [fldTy, Option.some.injEq] at e
        simp only [fldOff, Option.some.injEq] at e'
        subst e e'
        simp [hs, Nat.eq_of_beq_eq_true h.1]
      | succ i =>
        simp only [fldTy] at e
        simp only [fldOff, Option.map_eq_some_iff] at e'
        obtain ⟨k', e1, rfl⟩ := e'
        have := h2 i u k' e e1
        simp [this, Nat.add_assoc]
  | .unit, fs, o, h => by
    cases fs with
    | nil => exact ⟨[], rfl, fun _ _ _ e => by simp [fldTy] at e⟩
    | cons f fs => simp [fldB_pair1, fldB_pair0, fldB_unit1, fldB_unit0, fldB_int, fldB_bool, fldB_str, fldB_arr, fldB_slice] at h
  | .int _, _, _, h => by simp [fldB_pair1, fldB_pair0, fldB_unit1, fldB_unit0, fldB_int, fldB_bool, fldB_str, fldB_arr, fldB_slice] at h
  | .bool, _, _, h => by simp [fldB_pair1, fldB_pair0, fldB_unit1, fldB_unit0, fldB_int, fldB_bool, fldB_str, fldB_arr, fldB_slice] at h
  | .str, _, _, h => by simp [fldB_pair1, fldB_pair0, fldB_unit1, fldB_unit0, fldB_int, fldB_bool, fldB_str, fldB_arr, fldB_slice] at h
  | .arr _ _, _, _, h => by simp [fldB_pair1, fldB_pair0, fldB_unit1, fldB_unit0, fldB_int, fldB_bool, fldB_str, fldB_arr, fldB_slice] at h
  | .slice _, _, _, h => by simp [fldB_pair1, fldB_pair0, fldB_unit1, fldB_unit0, fldB_int, fldB_bool, fldB_str, fldB_arr, fldB_slice] at h
theorem putF_ok {τ : Ty} {place : Nat → Option (Nat × Nat)} (hpl : ∀ i u k, fldTy τ i = some u → fldOff τ i = some k → place i = some (k, u.size)) : ∀ (ps : List (Nat × PV)) (qs : List (Nat × Value)) (g : Gh) (h : Hp) (xs ys : List PV) (n : Nat) (cs : Array Value) (h' : Hp), HR g A W w h → PRel g A w ps qs → rels g A w xs cs.toList → (putF τ ps xs n).Ok h ys h' →
    ∃ g' cs', Step g A W w g' A w h' ∧ Instr.fill place cs qs = some cs' ∧ rels g' A w ys cs'.toList
  | [], [], g, h, xs, ys, n, cs, h', H, _, hc, e => by
    simp only [putF, Ok_ret] at e
    obtain ⟨rfl, rfl⟩ := e
    exact ⟨g, cs, .refl H, rfl, hc⟩
  | (i, x) :: ps, (j, v) :: qs, g, h, xs, ys, n, cs, h', H, hp, hc, e => by
    obtain ⟨rfl, hv, hp⟩ := hp
    unfold putF at e
    split at e
    · rename_i u o hu ho
      simp only [Ok_bind] at e
      obtain ⟨x', h1, e1, e⟩ := e
      obtain ⟨g1, S1, hx', _⟩ := seat_ok H hv e1
      split at e
      · rename_i old hold
        simp only [Ok_cond, Ok_fail, and_false, or_false, Bool.and_eq_true] at e
        obtain ⟨⟨hf, hsz⟩, e⟩ := e
        have hsz := Nat.eq_of_beq_eq_true hsz
        have hxr := (VRel.cells hx').1
        have hxl : v.cells.toList.length = u.size := by rw [PV.rel_len _ _ hxr, (fits_ok u x' hf).2]
        obtain ⟨pre, zs, post, c1, c2, c3, c4⟩ := setI_rel xs i o cs.toList old x' v.cells.toList (rels_mono S1.le (fun _ h => h) (fun _ _ => rfl) _ _ hc) hold hxr (by rw [hxl, hsz])
        have hzl : zs.length = u.size := by rw [PV.rel_len _ _ c3, hsz]
        have hsum : cs.size = o + u.size + post.length := by
          have := congrArg List.length c1
          rw [Array.length_toList, List.length_append, List.length_append, c2, hzl] at this; exact this
        obtain ⟨cs1, f1, f2, f3⟩ := fill_step (place := place) (rest := qs) (hpl i u o hu ho) (by rw [← Array.length_toList]; exact hxl) (cells := cs) (by omega)
        have hcs1 : cs1.toList = pre ++ v.cells.toList ++ post := by
          rw [f2, c1]
          congr 1
          · congr 1
            rw [List.append_assoc, ← c2, List.take_left]
          · have : o + u.size = (pre ++ zs).length := by rw [List.length_append, c2, hzl]
            rw [this, List.drop_left]
        obtain ⟨g2, cs2, S2, r1, r2⟩ := putF_ok hpl ps qs g1 h1 _ ys (n + 1) cs1 h' S1.hr (hp.mono S1.le (fun _ h => h)) (by rw [hcs1]; exact c4) e
        exact ⟨g2, cs2, S1.trans S2, by rw [f1]; exact r1, r2⟩
      · simp [Q.Ok] at e
    · simp [Q.Ok] at e
  | [], _ :: _, _, _, _, _, _, _, _, _, hp, _, _ => hp.elim
  | _ :: _, [], _, _, _, _, _, _, _, _, hp, _, _ => hp.elim
theorem build_struct {τ : Ty} {fs : Array Field} (hty : tyB P τ t = true) (hu : P.underlying t = some (.struct fs)) (hfs : fldB P τ fs.toList 0 = true) (H : HR g A W w h) {ps : List (Nat × PV)} {qs : List (Nat × Value)} (hp : PRel g A w ps qs) {nw : Nat} {y : PV} {h' : Hp}
    (e : ((imp τ τ.zero nw).bind fun z => match z.1 with
      | .agg xs => (putF τ ps xs z.2).bind fun xs => .ret (.agg xs)
      | _ => .fail).Ok h y h') :
    ∃ g' v, (Instr.build t qs.toArray).run P w = .ok v w ∧ Step g A W w g' A w h' ∧ VRel g' A w y v := by
  simp only [Ok_bind] at e
  obtain ⟨z, h1, e1, e⟩ := e
  obtain ⟨i, z0, hi, hi2, _, hi4, hz, _⟩ := tyB_info hty
  obtain ⟨g1, l1, H1, r1, _, _⟩ := imp_ok τ τ.zero nw g h (zcells τ) [] z h1 H (zcells_own A w τ) List.nodup_nil (by simp) e1
  have S1 : Step g A W w g1 A w h1 := ⟨l1, fun _ h => h, fun _ h => .inl h, H1, fun _ _ => rfl, .refl W w⟩
  obtain ⟨pl, p1, p2⟩ := places_ok τ fs.toList 0 hfs
  split at e
  · rename_i xs hx
    rw [hx] at r1
    unfold PV.rel at r1
    simp only [Ok_bind, Ok_ret] at e
    obtain ⟨ys, h2, e2, rfl, rfl⟩ := e
    obtain ⟨g2, cs, S2, f1, f2⟩ := putF_ok (place := fun i => pl.toArray[i]?) (fun i u k e e' => by have := p2 i u k e e'; simpa using this) ps qs g1 h1 xs ys z.2 z0.cells h' H1 (hp.mono l1 (fun _ h => h)) (by rw [hz]; exact r1) e2
    refine ⟨g2, .agg cs, run_build w t qs.toArray cs ?_, S1.trans S2, ⟨cs, rfl, by unfold PV.rel; exact f2⟩⟩
    unfold Program.built
    simp only [hi, hu, hi4, p1]
    exact f1
  · simp [Q.Ok] at e
theorem build_ok (hT : tabB P E.tl = true) (H : HR g A W w h) {ps : List (Nat × PV)} {qs : List (Nat × Value)} (hp : PRel g A w ps qs) {nw : Nat} {y : PV} {h' : Hp} (e : (buildQ E t ps nw).Ok h y h') :
    ∃ g' A' v, (Instr.build t qs.toArray).run P w = .ok v w ∧ Step g A W w g' A' w h' ∧ VRel g' A' w y v := by
  simp only [buildQ, Ok_bind] at e
  obtain ⟨τ, h1, e1, e⟩ := e
  obtain ⟨hE, rfl⟩ := data_out e1
  have hty : tyB P τ t = true := tabB_look hT hE
  cases τ with
  | arr n u =>
    simp only [Ok_bind, Ok_ret] at e
    obtain ⟨xs, h2, e2, rfl, rfl⟩ := e
    obtain ⟨e0, hu, he⟩ := arr_und hty
    obtain ⟨i, z, hi, hi2, _, hi4, hz, _⟩ := tyB_info hty
    obtain ⟨j, z', hj, hj2, _⟩ := tyB_info he
    have hz0 := zcells_rel A w (.arr n u)
    rw [← hz] at hz0
    unfold TRel at hz0
    obtain ⟨A1, cs, F, f1, f2, f3⟩ := putA_ok ps qs A h1 _ xs _ h' H hp hz0.2 e2
    refine ⟨g, A1, .agg cs, run_build w t qs.toArray cs ?_, F.step, ⟨cs, rfl, ?_⟩⟩
    · unfold Program.built
      simp only [hi, hu, hi4, hj, hj2]
      exact f1
    · unfold PV.rel TRel
      exact ⟨by rw [f3]; exact hz0.1, f2⟩
  | unit =>
    have hty' := hty
    simp only [tyB_int, tyB_bool, tyB_str, tyB_unit, tyB_pair, tyB_arr, tyB_slice, Bool.and_eq_true] at hty'
    obtain ⟨_, hu⟩ := hty'
    split at hu
    · rename_i fs hfs
      obtain ⟨g', v, r⟩ := build_struct hty hfs (by rw [List.isEmpty_iff.1 hu]; simp [fldB_pair1, fldB_pair0, fldB_unit1, fldB_unit0, fldB_int, fldB_bool, fldB_str, fldB_arr, fldB_slice]) H hp e
      exact ⟨g', A, v, r⟩
    · cases hu
  | pair a b =>
    have hty' := hty
    simp only [tyB_int, tyB_bool, tyB_str, tyB_unit, tyB_pair, tyB_arr, tyB_slice, Bool.and_eq_true] at hty'
    obtain ⟨_, hu⟩ := hty'
    split at hu
    · rename_i fs hfs
      obtain ⟨g', v, r⟩ := build_struct hty hfs hu H hp e
      exact ⟨g', A, v, r⟩
    · cases hu
  | int k =>
    simp [imp, Ok_bind, Q.Ok] at e
    obtain ⟨a, b, h1, ⟨⟨rfl, _⟩, _⟩, e⟩ := e
    exact e.elim
  | bool =>
    simp [imp, Ok_bind, Q.Ok] at e
    obtain ⟨a, b, h1, ⟨⟨rfl, _⟩, _⟩, e⟩ := e
    exact e.elim
  | str =>
    simp [imp, Ok_bind, Q.Ok] at e
    obtain ⟨a, b, h1, ⟨⟨rfl, _⟩, _⟩, e⟩ := e
    exact e.elim
  | slice u =>
    simp [imp, Ok_bind, Q.Ok] at e
    obtain ⟨a, b, h1, ⟨_, ⟨rfl, _⟩, _⟩, e⟩ := e
    exact e.elim
end
end Go.Proofs.YtkihjakbbcajbaaGreat.PM
namespace Go.Proofs.YtkihjakbbcajbaaGreat.PM
set_option linter.unusedSimpArgs false
set_option linter.unusedVariables false
open Go

section
variable {P : Program} {E : Env} {t : TypeId} {g : Gh} {A W : Nat → Prop} {w : World} {h : Hp}
theorem v_str {b : List UInt8} {v : Value} (h : VRel g A w (.v .str b) v) : ∃ s : ByteArray, v = .string s ∧ s.data.toList = b := by
  unfold VRel at h; simp only [aggP, Ty.agg] at h; unfold PV.rel TRel at h
  obtain ⟨s, e, h⟩ := h
  injection e with e
  exact ⟨s, e, h⟩
theorem aggOf {τ : Ty} (ha : τ.agg = true) {x : PV} {v : Value} (hx : VRel g A w x v) {a : τ.den} {h' : Hp} (e : (dec τ x).Ok h a h') : ∃ xs, v = .agg xs := by
  have : aggP x = true := by
    cases x with
    | v u z =>
      cases τ with
      | arr n u' =>
        simp only [dec, Ok_get] at e
        obtain ⟨rfl, _⟩ := cast_some e.1
        rfl
      | pair a b =>
        simp only [dec, Ok_get] at e
        obtain ⟨rfl, _⟩ := cast_some e.1
        rfl
      | unit =>
        simp only [dec, Ok_get] at e
        obtain ⟨rfl, _⟩ := cast_some e.1
        rfl
      | _ => cases ha
    | agg xs => rfl
    | _ => cases τ <;> first | (cases ha; done) | (simp [dec, Q.Ok] at e; done)
  unfold VRel at hx
  rw [this] at hx
  exact ⟨_, hx.choose_spec.1⟩
/-- '==' and '!=' of structs and arrays without slices. -/
def EqOk (P : Program) (E : Env) : Prop := ∀ (t : TypeId) (τ : Ty), E.tab t = some (.data τ) → (E.eqs.any (Nat.beq t) && (τ.plain && τ.agg)) = true → ∀ (A : Nat → Prop) (w : World) (xs ys : Array Value) (a b : τ.den), TRel A w τ xs.toList a → TRel A w τ ys.toList b →
  (∀ op x y, (eqGuard op t x y (.agg xs) (.agg ys)).run P w = .ok () w) ∧ (binOp .eql t (.agg xs) (.agg ys)).run P w = .ok (.bool (τ.beq a b)) w ∧ (binOp .neq t (.agg xs) (.agg ys)).run P w = .ok (.bool (!τ.beq a b)) w
theorem bin_ok (hT : tabB P E.tl = true) (hQ : EqOk P E) (H : HR g A W w h) {op : BinOp} {x y r : PV} {vx vy : Value} {ox oy : Operand} {h' : Hp} (hx : VRel g A w x vx) (hy : VRel g A w y vy) (e : (binQ E op t x y).Ok h r h') :
    h' = h ∧ (eqGuard op t ox oy vx vy).run P w = .ok () w ∧ ∃ z, (binOp op t vx vy).run P w = .ok z w ∧ VRel g A w r z := by
  unfold binQ at e
  split at e
  · rename_i k a l b
    obtain rfl := v_int hx
    obtain rfl := v_int hy
    refine ⟨?_, guard_int op t ox oy k l a b, ?_⟩
    · split at e
      · rw [Ok_ask, Ok_ret] at e; exact e.2.2
      · rw [Ok_ask, Ok_ret] at e; exact e.2.2
      · rename_i n1 n2
        rw [Ok_cond] at e
        rcases e with ⟨_, e⟩ | ⟨_, e⟩
        · exact (binI_ok (P := P) (t := t) (g := g) (A := A) (w := w) n1 n2 e).1
        · exact e.elim
    · split at e
      · rw [Ok_ask, Ok_ret, decide_eq_true_eq] at e
        obtain ⟨h0, rfl, _⟩ := e
        exact ⟨_, by simp [binOp, Op.shift, Int.not_lt.2 h0], of_int _ _⟩
      · rw [Ok_ask, Ok_ret, decide_eq_true_eq] at e
        obtain ⟨h0, rfl, _⟩ := e
        exact ⟨_, by simp [binOp, Op.shift, Int.not_lt.2 h0], of_int _ _⟩
      · rename_i n1 n2
        rw [Ok_cond, decide_eq_true_eq] at e
        rcases e with ⟨hk, e⟩ | ⟨_, e⟩
        · subst hk; exact (binI_ok (P := P) (t := t) n1 n2 e).2
        · exact e.elim
  · rename_i a b
    obtain ⟨sa, rfl, rfl⟩ := v_str hx
    obtain ⟨sb, rfl, rfl⟩ := v_str hy
    have hb : (sa.toList == sb.toList) = decide (sa.data.toList = sb.data.toList) := by
      rw [ByteArray.toList_eq, ByteArray.toList_eq]; rw [Bool.eq_iff_iff]; simp
    cases op <;> simp only [eqQ, Ok_ret, Ok_fail] at e
    · obtain ⟨rfl, rfl⟩ := e
      exact ⟨rfl, by simp [eqGuard], _, by simp [binOp, Op.stringOp, hb], of_bool _⟩
    · obtain ⟨rfl, rfl⟩ := e
      exact ⟨rfl, by simp [eqGuard], _, by simp [binOp, Op.stringOp, hb], of_bool _⟩
  · rename_i a b
    obtain rfl := v_bool hx
    obtain rfl := v_bool hy
    rw [Ok_bind] at e
    obtain ⟨τ, h1, e1, e⟩ := e
    obtain ⟨hE, rfl⟩ := data_out e1
    have hty : tyB P τ t = true := tabB_look hT hE
    split at e
    · have hu : P.underlying t = some .bool := by
        simp only [tyB_int, tyB_bool, tyB_str, tyB_unit, tyB_pair, tyB_arr, tyB_slice, Bool.and_eq_true] at hty
        have h2 := hty.2
        split at h2
        · assumption
        · cases h2
      cases op <;> simp only [eqQ, Ok_ret, Ok_fail] at e
      · obtain ⟨rfl, rfl⟩ := e
        exact ⟨rfl, by simp [eqGuard], _, by simp [binOp, Op.equal, Op.maxDepth, run_equalIn_bool w _ t a b hu], of_bool _⟩
      · obtain ⟨rfl, rfl⟩ := e
        exact ⟨rfl, by simp [eqGuard], _, by simp [binOp, Op.equal, Op.maxDepth, run_equalIn_bool w _ t a b hu], of_bool _⟩
    · exact e.elim
  · rw [Ok_bind] at e
    obtain ⟨τ, h1, e1, e⟩ := e
    obtain ⟨hE, rfl⟩ := data_out e1
    rw [Ok_cond] at e
    rcases e with ⟨hf, e⟩ | ⟨_, e⟩
    · simp only [Ok_bind] at e
      obtain ⟨a, h2, e2, b, h3, e3, e⟩ := e
      obtain ⟨rfl, ra⟩ := dec_rel H τ x a h2 _ (VRel.cells hx).1 e2
      obtain ⟨rfl, rb⟩ := dec_rel H τ y b h3 _ (VRel.cells hy).1 e3
      have hag : τ.agg = true := by
        simp only [Bool.and_eq_true] at hf; exact hf.2.2
      have hxa : ∃ xs, vx = .agg xs := by
        have := aggOf hag hx e2
        exact this
      have hya : ∃ ys, vy = .agg ys := aggOf hag hy e3
      obtain ⟨xs, rfl⟩ := hxa
      obtain ⟨ys, rfl⟩ := hya
      obtain ⟨q1, q2, q3⟩ := hQ t τ hE hf (Rd g A h3) w xs ys a b ra rb
      cases op <;> simp only [eqQ, Ok_ret, Ok_fail] at e
      · obtain ⟨rfl, rfl⟩ := e; exact ⟨rfl, q1 _ _ _, _, q2, of_bool _⟩
      · obtain ⟨rfl, rfl⟩ := e; exact ⟨rfl, q1 _ _ _, _, q3, of_bool _⟩
    · exact e.elim
end
end Go.Proofs.YtkihjakbbcajbaaGreat.PM
namespace Go.Proofs.YtkihjakbbcajbaaGreat.PM
set_option linter.unusedSimpArgs false
set_option linter.unusedVariables false
open Go

section
variable {P : Program} {E : Env} {t : TypeId} {g : Gh} {A W : Nat → Prop} {w : World} {h : Hp}
theorem tyB_und {τ : Ty} (h : tyB P τ t = true) : ∃ d, P.underlying t = some d := by
  cases hu : P.underlying t with
  | some d => exact ⟨d, rfl⟩
  | none => cases τ <;> simp [tyB_int, tyB_bool, tyB_str, tyB_unit, tyB_pair, tyB_arr, tyB_slice, hu] at h
theorem und_int {k : IntKind} (h : tyB P (.int k) t = true) : P.underlying t = some (.int k) := by
  simp only [tyB_int, tyB_bool, tyB_str, tyB_unit, tyB_pair, tyB_arr, tyB_slice, Bool.and_eq_true] at h
  have h2 := h.2
  split at h2
  · rename_i j hj; rw [hj, of_decide_eq_true h2]
  · cases h2
theorem und_str (h : tyB P .str t = true) : P.underlying t = some .string := by
  simp only [tyB_int, tyB_bool, tyB_str, tyB_unit, tyB_pair, tyB_arr, tyB_slice, Bool.and_eq_true] at h
  have h2 := h.2
  split at h2
  · assumption
  · cases h2
theorem cat_int {k : IntKind} : ∀ (ys : List Int) (c : List Value), Cat (TRel A w (.int k)) c ys → c = ys.map (.int k)
  | [], c, h => h
  | y :: ys, c, h => by
    obtain ⟨c1, c2, rfl, h1, h2⟩ := h
    have h1 : c1 = [.int k y] := h1
    rw [h1, cat_int ys c2 h2]; rfl
theorem push_all : ∀ (ns : List Int) (r : ByteArray), (ns.foldl (fun r n => r.push (UInt8.ofNat n.toNat)) r).data.toList = r.data.toList ++ ns.map fun n => UInt8.ofNat n.toNat
  | [], r => by simp
  | n :: ns, r => by
    rw [List.foldl_cons, push_all ns]
    simp [ByteArray.push]
theorem of_str (s : ByteArray) : VRel g A w (.v .str s.data.toList) (.string s) := by
  unfold VRel; simp only [aggP, Ty.agg]; unfold PV.rel TRel; exact ⟨s, rfl, rfl⟩
theorem conv_ok (hT : tabB P E.tl = true) (H : HR g A W w h) {src dst : TypeId} {x y : PV} {v : Value} {h' : Hp} (hx : VRel g A w x v) (e : (convQ E src dst x).Ok h y h') : h' = h ∧ ∃ z, (convert src dst v).run P w = .ok z w ∧ VRel g A w y z := by
  simp only [convQ, Ok_bind] at e
  obtain ⟨σ, h1, e1, τ, h2, e2, e⟩ := e
  obtain ⟨hE1, rfl⟩ := data_out e1
  obtain ⟨hE2, rfl⟩ := data_out e2
  have hts : tyB P σ src = true := tabB_look hT hE1
  have htd : tyB P τ dst = true := tabB_look hT hE2
  split at e
  · rename_i k
    split at e
    · rename_i n
      rw [Ok_ret] at e; obtain ⟨rfl, rfl⟩ := e
      obtain rfl := v_int hx
      obtain ⟨d, hd⟩ := tyB_und hts
      have hk := und_int htd
      exact ⟨rfl, _, by simp [convert, run_underlying hd, run_underlying hk, Conv.intToInt], of_int _ _⟩
    · exact e.elim
  · rw [Ok_cond, decide_eq_true_eq] at e
    rcases e with ⟨rfl, e⟩ | ⟨_, e⟩
    · rw [Ok_bind] at e
      obtain ⟨b, h3, e3, e⟩ := e
      rw [Ok_ret] at e; obtain ⟨rfl, rfl⟩ := e
      obtain ⟨rfl, a, cap, rfl, hcap, hc⟩ := dec_shown H hx e3
      obtain ⟨e0, hu, he⟩ := slice_und hts
      have hi := und_int he
      have hk := und_str htd
      refine ⟨rfl, ?_⟩
      by_cases h0 : 0 < b.length
      · obtain ⟨ad, rfl, r1, c, r2, r3⟩ := hc h0
        have hcm := cat_int b c r3
        subst hcm
        have hl := run_loadCells_list (P := P) w ad _ r2
        rw [List.length_map] at hl
        have hr := run_bytesToString w ad b.length cap b hl
        refine ⟨_, by simp only [convert, Sem.run_bind, run_underlying hu, run_underlying hk, Result.andThen_ok, run_underlying hi]; exact hr, ?_⟩
        have hp := push_all b ByteArray.empty
        have h2 : (b.map fun n => UInt8.ofNat n.toNat) = (b.foldl (fun r n => r.push (UInt8.ofNat n.toNat)) ByteArray.empty).data.toList := by rw [hp]; rfl
        show VRel g A w (.v .str (b.map fun n => UInt8.ofNat n.toNat)) _
        rw [h2]; exact of_str _
      · have hb : b = [] := by
          cases b with
          | nil => rfl
          | cons x b => simp at h0
        subst hb
        cases a with
        | none =>
          refine ⟨.string .empty, by simp [convert, run_underlying hu, run_underlying hk, run_underlying hi, Conv.bytesToString], ?_⟩
          exact of_str ByteArray.empty
        | some ad =>
          have hl := run_loadCells_list (P := P) w ad [] (fun j v hj => by simp at hj)
          have hr := run_bytesToString w ad 0 cap [] hl
          refine ⟨_, by simp only [convert, Sem.run_bind, run_underlying hu, run_underlying hk, Result.andThen_ok, run_underlying hi]; exact hr, ?_⟩
          exact of_str ByteArray.empty
    · exact e.elim
  · exact e.elim

/- rows written at a place -/
theorem Step.touch (H : HR g A W w h) {id : Nat} {B : Blk} (hb : h.at id = some B) : Step g A W w g A w ((id, some B) :: h) :=
  ⟨Gh.le_refl g, fun _ h => h, fun _ h => .inl h, H.congr (fun i => by
    rw [look_cons]; split
    · rename_i hi; rw [hi]; exact at_look hb
    · rfl), fun _ _ => rfl, .refl W w⟩
def putTo (a : Option Addr) (c : List Value) : Sem Unit := match a with
  | some a => storeCells a c
  | none => pure ()
theorem splice_nil {α : Type} (xs : List α) (o : Nat) : splice xs o [] = xs := by simp [splice]
theorem write_any {u : Ty} (H : HR g A W w h) {id : Nat} {xs ys : List u.den} {s : Slot} {c : List Value} {o : Nat} {a : Option Addr} (hb : h.at id = some (.row u xs false)) (hg : g id = some s) (hc : Cat (TRel A w u) c ys) (ho : o + ys.length ≤ xs.length) (ha : 0 < ys.length ∨ o = 0 → a = s.blk.map fun b => ⟨b, o * u.size, none⟩) :
    ∃ w', (putTo a c).run P w = .ok () w' ∧ Step g A W w g A w' ((id, some (.row u (splice xs o ys) false)) :: h) := by
  by_cases h0 : 0 < ys.length
  · have ha := ha (.inl h0)
    obtain ⟨s', hg', ⟨hl, hr⟩, _⟩ := H.blk id _ hb
    rw [hg] at hg'; injection hg' with hg'; subst hg'
    cases hs : s.blk with
    | none => rw [hs] at hr; omega
    | some b =>
      rw [hs] at ha
      subst ha
      exact write_row H hb hg hs hc ho
  · have hy : ys = [] := by
      cases ys with
      | nil => rfl
      | cons y ys => simp at h0
    subst hy
    have hc : c = [] := hc
    subst hc
    rw [splice_nil]
    refine ⟨w, ?_, Step.touch H hb⟩
    cases a with
    | none => simp [putTo]
    | some a => simp [putTo, storeCells]
theorem run_firstN {u : Ty} {v : Value} {ys : List u.den} (hs : Shown A w u v ys) (n : Nat) (hn : n ≤ ys.length) : ∃ c : List Value, Cat (TRel A w u) c (ys.take n) ∧ (Builtin.firstCells u.size n v).run P w = .ok c.toArray w ∧ ∃ a cap, v = .slice a ys.length cap := by
  obtain ⟨a, cap, rfl, hcap, hc⟩ := hs
  by_cases h0 : 0 < ys.length
  · obtain ⟨ad, rfl, r1, c, r2, r3⟩ := hc h0
    have hl := Cat.len (TRel.len u) r3
    have r4 := Cat.take (TRel.len u) r3 n hn
    have hl4 : (c.take (n * u.size)).length = n * u.size := by
      rw [List.length_take, hl]; exact Nat.min_eq_left (Nat.mul_le_mul_right _ hn)
    have hr := run_loadCells_list (P := P) w ad (c.take (n * u.size)) (fun j v hj => r2 j v (by
      rw [List.getElem?_take] at hj; split at hj
      · exact hj
      · cases hj))
    rw [hl4] at hr
    exact ⟨_, r4, by simp only [Builtin.firstCells]; exact hr, _, _, rfl⟩
  · have : ys = [] := by
      cases ys with
      | nil => rfl
      | cons y ys => simp at h0
    subst this
    obtain rfl : n = 0 := by simpa using hn
    refine ⟨[], rfl, ?_, _, _, rfl⟩
    cases a with
    | none => simp [Builtin.firstCells]
    | some a =>
      have hr := run_loadCells_list (P := P) w a [] (fun j v hj => by simp at hj)
      simp only [Builtin.firstCells, Nat.zero_mul]
      exact hr
theorem run_copy {u : Ty} (hty : tyB P (.slice u) t = true) (ts : List TypeId) (ty : TypeId) {a : Option Addr} {len cap m : Nat} {vs : Value} {c : List Value} {w' : World} (hv : ∃ a cap, vs = .slice a m cap) (hf : (Builtin.firstCells u.size (min m len) vs).run P w = .ok c.toArray w) (hp : (putTo a c).run P w = .ok () w') :
    (Builtin.copy_ (t :: ts).toArray ty #[.slice a len cap, vs]).run P w = .ok (.int .i64 (min m len : Nat)) w' := by
  obtain ⟨e0, hu, he⟩ := slice_und hty
  obtain ⟨b, cap', rfl⟩ := hv
  have hm : Nat.min m len = min m len := rfl
  cases a with
  | none =>
    simp only [putTo, Sem.run_pure] at hp
    injection hp with _ hp; subst hp
    simp [Builtin.copy_, run_underlying hu, Builtin.lenOf, run_sizeT w he, hm, hf, goInt]
  | some a =>
    simp only [putTo] at hp
    simp [Builtin.copy_, run_underlying hu, Builtin.lenOf, run_sizeT w he, hm, hf, hp, goInt]
theorem take_min {α : Type} (ys : List α) (n : Nat) : ys.take (min ys.length n) = ys.take n := by
  by_cases h : ys.length ≤ n
  · rw [Nat.min_eq_left h, List.take_length, List.take_of_length_le h]
  · rw [Nat.min_eq_right (by omega)]
theorem copy_row {u : Ty} (hty : tyB P (.slice u) t = true) (ts : List TypeId) (ty : TypeId) (H : HR g A W w h) {id off len cap : Nat} {xs ys : List u.den} {s : Slot} {a : Option Addr} {vs : Value} (hb : h.at id = some (.row u xs false)) (hg : g id = some s) (hs : Shown A w u vs ys) (hol : off + len ≤ xs.length) (ha : 0 < len ∨ off = 0 → a = s.blk.map fun b => ⟨b, off * u.size, none⟩) :
    ∃ w' v, (Builtin.copy_ (t :: ts).toArray ty #[.slice a len cap, vs]).run P w = .ok v w' ∧ Step g A W w g A w' ((id, some (.row u (splice xs off (ys.take len)) false)) :: h) ∧ VRel g A w' (.v (.int .i64) (min ys.length len : Nat)) v := by
  obtain ⟨c, c1, c2, c3⟩ := run_firstN (P := P) hs (min ys.length len) (Nat.min_le_left _ _)
  rw [take_min] at c1
  have hl : (ys.take len).length ≤ len := by rw [List.length_take]; exact Nat.min_le_left _ _
  obtain ⟨w', r, S⟩ := write_any (P := P) H hb hg c1 (by omega) (a := a) (fun h => ha (h.imp (fun h => by omega) (fun h => h)))
  exact ⟨w', _, run_copy hty ts ty c3 c2 r, S, of_int _ _⟩
theorem sv_off {s : Slot} {off len sz : Nat} {p : List Stp} {v : Value} (h : SvV s p off len sz 0 v) : p = [] ∧ off + len ≤ s.len ∧ ∃ a cap, v = .slice a len cap ∧ (0 < len ∨ off = 0 → a = s.blk.map fun b => ⟨b, off * sz, none⟩) := by
  obtain ⟨_, h2, h3, _, a, cap, h5, _, _, h6⟩ := h
  have hp := h3 rfl
  subst hp
  refine ⟨rfl, by simpa using h2, a, cap, h5, fun hh => ?_⟩
  have := h6 hh
  simpa [poff] using this
theorem copyTo_ok {u : Ty} (hty : tyB P (.slice u) t = true) (ts : List TypeId) (ty : TypeId) (H : HR g A W w h) {d y : PV} {vd vs : Value} {ys : List u.den} {h' : Hp} (hd : VRel g A w d vd) (hs : Shown A w u vs ys) (e : (copyTo u d ys).Ok h y h') :
    ∃ w' v, (Builtin.copy_ (t :: ts).toArray ty #[vd, vs]).run P w = .ok v w' ∧ Step g A W w g A w' h' ∧ VRel g A w' y v := by
  cases d with
  | sl id =>
    obtain ⟨s, hg, hv⟩ := to_sl hd
    simp only [copyTo, Q.Ok] at e
    obtain ⟨B, hb, e⟩ := e
    cases B with
    | box x => exact e.elim
    | row v xs fz =>
      cases fz with
      | true => exact e.elim
      | false =>
        simp only [Ok_bind, Ok_get, Q.Ok] at e
        obtain ⟨xs', h1, ⟨ec, rfl⟩, _, rfl, rfl⟩ := e
        obtain ⟨ev, _⟩ := cast_some ec
        injection ev with ev; subst ev
        obtain rfl := cast_self ec
        obtain ⟨s', hg', ⟨hl, hr⟩, _⟩ := H.blk id _ hb
        rw [hg] at hg'; injection hg' with hg'; subst hg'
        unfold SlV at hv
        cases hsb : s.blk with
        | none =>
          rw [hsb] at hv
          have h0 : xs.length = 0 := by omega
          have := copy_row (P := P) hty ts ty H (off := 0) (len := 0) (cap := 0) (a := none) hb hg hs (by omega) (fun _ => by rw [hsb]; rfl)
          rw [hv.1, h0]; exact this
        | some b =>
          rw [hsb] at hv
          have := copy_row (P := P) hty ts ty H (off := 0) (len := xs.length) (cap := s.cap) (a := some ⟨b, 0, none⟩) hb hg hs (by omega) (fun _ => by rw [hsb]; simp)
          have hv' : vd = .slice (some ⟨b, 0, none⟩) s.len s.cap := hv
          rw [hv', hl]; exact this
  | sv id p off len sz n =>
    obtain ⟨s, hg, hv⟩ := to_sv hd
    simp only [copyTo, Q.Ok] at e
    obtain ⟨B, hb, e⟩ := e
    cases B with
    | row v xs fz =>
      cases fz with
      | true => exact e.elim
      | false =>
        simp only [Ok_cond, Ok_fail, and_false, or_false, Bool.and_eq_true, Ok_bind, Ok_get, Q.Ok] at e
        obtain ⟨⟨hsz, hn⟩, xs', h1, ⟨ec, rfl⟩, _, rfl, rfl⟩ := e
        have hsz := Nat.eq_of_beq_eq_true hsz
        have hn := Nat.eq_of_beq_eq_true hn
        subst hsz hn
        obtain ⟨ev, _⟩ := cast_some ec
        injection ev with ev; subst ev
        obtain rfl := cast_self ec
        obtain ⟨s', hg', ⟨hl, hr⟩, _⟩ := H.blk id _ hb
        rw [hg] at hg'; injection hg' with hg'; subst hg'
        obtain ⟨rfl, ho, a, cap, rfl, ha⟩ := sv_off hv
        exact copy_row hty ts ty H hb hg hs (by omega) ha
    | box x =>
      simp only at e
      split at e
      · rename_i m v xs hgp
        simp only [Ok_cond, Ok_fail, and_false, or_false, Bool.and_eq_true, Ok_bind, Ok_get] at e
        obtain ⟨⟨⟨⟨hm, hsz⟩, hfl⟩, hn0⟩, xs', h1, ⟨ec, rfl⟩, e⟩ := e
        have hm := Nat.eq_of_beq_eq_true hm
        have hsz := Nat.eq_of_beq_eq_true hsz
        subst hm hsz
        obtain ⟨ev, _⟩ := cast_some ec
        injection ev with ev; subst ev
        obtain rfl := cast_self ec
        split at e
        · rename_i z hz
          simp only [Q.Ok] at e
          obtain ⟨_, rfl, rfl⟩ := e
          have hm0 : m ≠ 0 := by rintro rfl; simp at hn0
          obtain ⟨hpk, hol, _, hbn, a, cap, rfl, hcl, _, ha⟩ := hv
          rw [if_neg hm0] at hol
          obtain ⟨s', b, cells, ety, hg', hsb, hh, hx⟩ := H.blk id _ hb
          rw [hg] at hg'; injection hg' with hg'; subst hg'
          obtain ⟨c, c1, c2, c3⟩ := run_firstN (P := P) hs (min ys.length len) (Nat.min_le_left _ _)
          rw [take_min] at c1
          have hyl : (ys.take len).length ≤ len := by rw [List.length_take]; exact Nat.min_le_left _ _
          obtain ⟨pre, zs, post, q1, q2, q3⟩ := getP_rel p x (.v (.arr m v) xs) cells.toList hx hpk hgp
          unfold PV.rel TRel at q3
          obtain ⟨q3, q4⟩ := q3
          have hzl := Cat.len (TRel.len v) q4
          have hc := Cat.len (TRel.len v) c1
          have hxl : List.length (α := v.den) xs = m := q3
          have hns := Cat.splice (TRel.len v) q4 c1 off (by rw [hxl]; omega)
          have hoc : (off + (ys.take len).length) * v.size = off * v.size + c.length := by rw [Nat.add_mul, hc]
          rw [hoc] at hns
          have hle : off * v.size + c.length ≤ zs.length := by
            rw [hzl, ← hoc]; exact Nat.mul_le_mul_right _ (by rw [hxl]; omega)
          have hnr : (PV.v (.arr m v) (splice xs off (ys.take len))).rel g A w (zs.take (off * v.size) ++ c ++ zs.drop (off * v.size + c.length)) := by
            unfold PV.rel TRel
            exact ⟨by rw [splice_len (α := v.den) _ _ _ (by rw [hxl]; omega)]; exact hxl, hns⟩
          have hnl : (zs.take (off * v.size) ++ c ++ zs.drop (off * v.size + c.length)).length = (PV.v (.arr m v) xs).size := by
            rw [List.length_append, List.length_append, List.length_take, List.length_drop]
            show _ = m * v.size
            rw [hxl] at hzl
            omega
          obtain ⟨pre', zs', post', u1, u2, u3, u4⟩ := setP_rel p x _ _ z cells.toList _ hx hpk hgp hz hnr hnl
          have hzz : zs'.length = zs.length := by
            rw [u3, hnl, hzl]
            show m * v.size = _
            rw [hxl]
          have hpp : pre' = pre ∧ zs' = zs ∧ post' = post := by
            have he := q1.symm.trans u1
            rw [List.append_assoc, List.append_assoc] at he
            obtain ⟨w1, w2⟩ := List.append_inj he (by rw [q2, u2])
            obtain ⟨w3, w4⟩ := List.append_inj w2 hzz.symm
            exact ⟨w1.symm, w3.symm, w4.symm⟩
          obtain ⟨rfl, rfl, rfl⟩ := hpp
          by_cases hl0 : 0 < len ∨ off = 0
          · have ha' := ha hl0
            rw [hsb] at ha'
            subst ha'
            have hcl : cells.toList.length = cells.size := by simp
            have hcz : poff p + off * v.size + 0 + c.length ≤ cells.size := by
              rw [← hcl, q1, List.length_append, List.length_append, q2]; omega
            have hst := run_storeCells_at (P := P) b (poff p + off * v.size) ety c 0 cells w hh hcz (c1.all (TRel.one v))
            simp only [Nat.add_zero] at hst
            have hsp : cells.toList.take (poff p + off * v.size) ++ c ++ cells.toList.drop (poff p + off * v.size + c.length) = pre' ++ (zs'.take (off * v.size) ++ c ++ zs'.drop (off * v.size + c.length)) ++ post' := by
              have hcut : cells.toList = (pre' ++ zs'.take (off * v.size)) ++ (zs'.drop (off * v.size)).take c.length ++ (zs'.drop (off * v.size + c.length) ++ post') := by
                rw [q1]
                have := cut3 zs' (off * v.size) c.length
                conv => lhs; rw [this]
                simp only [List.append_assoc]
              have hpl : (pre' ++ zs'.take (off * v.size)).length = poff p + off * v.size := by
                rw [List.length_append, List.length_take, q2, Nat.min_eq_left (by omega)]
              have := take_pre (zs := c) hcut (by rw [List.length_take, List.length_drop]; omega)
              rw [hpl] at this
              rw [this]
              simp only [List.append_assoc]
            refine ⟨_, _, run_copy hty ts ty c3 c2 (a := some _) hst, Step.set H hb rfl hg hsb ⟨s, b, _, ety, hg, hsb, setRow_heap w b cells _ ety (0, 0) hh, ?_⟩, of_int _ _⟩
            refine PV.rel_mono (Gh.le_refl g) (fun _ h => h) (fun r hr => setRow_other w b r _ (fun e => (H.own id _ s b hb rfl hg hsb).1 (e ▸ hr))) z _ ?_
            simp only []
            rw [hsp]; exact u4
          · have hlen : len = 0 := by omega
            subst hlen
            have hc0 : c = [] := by
              apply List.eq_nil_of_length_eq_zero
              rw [hc]; simp
            subst hc0
            have hS := Step.set (c := cells) H hb rfl hg hsb (B' := .box z) ⟨s, b, _, ety, hg, hsb, setRow_heap w b cells _ ety (0, 0) hh, PV.rel_mono (Gh.le_refl g) (fun _ h => h) (fun r hr => setRow_other w b r _ (fun e => (H.own id _ s b hb rfl hg hsb).1 (e ▸ hr))) z _ (by
              have : pre' ++ (zs'.take (off * v.size) ++ [] ++ zs'.drop (off * v.size + 0)) ++ post' = cells.toList := by rw [q1]; simp
              rw [List.length_nil] at u4
              rw [this] at u4
              exact u4)⟩
            rw [setRow_self w b cells ety (0, 0) hh] at hS
            refine ⟨w, _, run_copy hty ts ty c3 c2 (a := a) ?_, hS, of_int _ _⟩
            cases a with
            | none => simp [putTo]
            | some a => simp [putTo, storeCells]
        · exact e.elim
      · exact e.elim
  | _ => exact e.elim
theorem copy_ok (hT : tabB P E.tl = true) (ts : List TypeId) (ty : TypeId) (H : HR g A W w h) {d s y : PV} {vd vs : Value} {h' : Hp} (hd : VRel g A w d vd) (hs : VRel g A w s vs) (e : (copyQ E t d s).Ok h y h') :
    ∃ w' v, (Builtin.copy_ (t :: ts).toArray ty #[vd, vs]).run P w = .ok v w' ∧ Step g A W w g A w' h' ∧ VRel g A w' y v := by
  simp only [copyQ, Ok_bind] at e
  obtain ⟨u, h1, e1, ys, h2, e2, e3⟩ := e
  obtain ⟨hE, rfl⟩ := elem_out e1
  have hty : tyB P (.slice u) t = true := tabB_look hT hE
  obtain ⟨rfl, hsh⟩ := dec_shown H hs e2
  exact copyTo_ok hty ts ty H hd hsh e3
theorem clear_ok (hT : tabB P E.tl = true) (ts : List TypeId) (ty : TypeId) (H : HR g A W w h) {d y : PV} {vd : Value} {h' : Hp} (hd : VRel g A w d vd) (e : (clearQ E t d).Ok h y h') :
    ∃ w' v, (Builtin.clear_ (t :: ts).toArray ty #[vd]).run P w = .ok v w' ∧ Step g A W w g A w' h' ∧ VRel g A w' y v := by
  simp only [clearQ, Ok_bind] at e
  obtain ⟨u, h1, e1, e⟩ := e
  obtain ⟨hE, rfl⟩ := elem_out e1
  have hty : tyB P (.slice u) t = true := tabB_look hT hE
  obtain ⟨e0, hu, he⟩ := slice_und hty
  obtain ⟨i, z, _, _, _, _, hz, hrun⟩ := run_zero he
  cases d with
  | sv id p off len sz n =>
    obtain ⟨s, hg, hv⟩ := to_sv hd
    simp only [Q.Ok] at e
    obtain ⟨B, hb, e⟩ := e
    cases B with
    | box x => exact e.elim
    | row v xs fz =>
      cases fz with
      | true => exact e.elim
      | false =>
        simp only [Ok_cond, Ok_fail, and_false, or_false, Bool.and_eq_true, Ok_bind, Ok_get, Q.Ok] at e
        obtain ⟨⟨hsz, hn⟩, xs', h2, ⟨ec, rfl⟩, _, rfl, rfl⟩ := e
        have hsz := Nat.eq_of_beq_eq_true hsz
        have hn := Nat.eq_of_beq_eq_true hn
        subst hsz hn
        obtain ⟨ev, _⟩ := cast_some ec
        injection ev with ev; subst ev
        obtain rfl := cast_self ec
        obtain ⟨s', hg', ⟨hl, hr⟩, _⟩ := H.blk id _ hb
        rw [hg] at hg'; injection hg' with hg'; subst hg'
        obtain ⟨rfl, ho, a, cap, rfl, ha⟩ := sv_off hv
        have hzs : z.cells.size = v.size := by
          have := TRel.len v _ _ (zcells_rel A w v)
          rw [← hz, Array.length_toList] at this; exact this
        have hzc : Cat (TRel A w v) (Builtin.zeroCells z.cells len).toList (List.replicate len v.zero) := by
          have : Builtin.zeroCells z.cells len = madeCells z.cells (len * v.size) := by unfold Builtin.zeroCells madeCells; rw [hzs]
          rw [this, madeCells_eq z.cells v.size hzs, hz]; exact Cat.replicate (zcells_rel A w v) len
        obtain ⟨w', r, S⟩ := write_any (P := P) H hb hg hzc (by rw [List.length_replicate]; omega) (a := a) (fun h => ha (h.imp (fun h => by rw [List.length_replicate] at h; exact h) (fun h => h)))
        refine ⟨w', .tuple #[], ?_, S, rfl⟩
        cases a with
        | none =>
          simp only [putTo, Sem.run_pure] at r
          injection r with _ r; subst r
          simp [Builtin.clear_, run_underlying hu]
        | some a =>
          simp only [putTo] at r
          cases len with
          | zero =>
            have : (Builtin.zeroCells z.cells 0).toList = [] := by simp [Builtin.zeroCells]
            rw [this] at r
            simp [storeCells] at r
            subst r
            simp [Builtin.clear_, run_underlying hu]
          | succ len => simp [Builtin.clear_, run_underlying hu, hrun, r]
  | _ => exact e.elim
theorem min_run {k : IntKind} (a b : Int) (ts : Array TypeId) (ty : TypeId) : (Builtin.min_ ts ty #[.int k a, .int k b]).run P w = .ok (.int k (min a b)) w := by
  have : (if b < a then b else a) = min a b := by omega
  simp [Builtin.min_, Builtin.min2, this]
theorem max_run {k : IntKind} (a b : Int) (ts : Array TypeId) (ty : TypeId) : (Builtin.max_ ts ty #[.int k a, .int k b]).run P w = .ok (.int k (max a b)) w := by
  have : (if b > a then b else a) = max a b := by omega
  simp [Builtin.max_, Builtin.max2, this]
end
end Go.Proofs.YtkihjakbbcajbaaGreat.PM
namespace Go.Proofs.YtkihjakbbcajbaaGreat.PM
set_option linter.unusedSimpArgs false
set_option linter.unusedVariables false
open Go

/-- A call that is done at once, or by a function that is entered. -/
def CallOk (P : Program) (f : FuncId) (vs : Array Value) (w : World) (Post : Value → World → Prop) : Prop :=
  (∃ v w', (callFunc f vs).run P w = .ok (.value v) w' ∧ Post v w') ∨
  ((callFunc f vs).run P w = .ok (.enter f vs) w ∧ Calls P f vs w fun e w' => ∃ v, e = .returned v ∧ Post v w')
/-- A row of the call's own comes out: new, or where the old one lay. -/
def NewRow (A : Nat → Prop) (w : World) (old : Option Nat) (u : Ty) (zs : List u.den) (v : Value) (w' : World) : Prop :=
  ∃ s, SlV s v ∧ RowAt A w' s u zs ∧ (∀ b, s.blk = some b → old = some b ∨ w.heap.size ≤ b) ∧ Keep (fun r => w.heap.size ≤ r ∨ old = some r) w w'
/-- A row that comes in as the call's own. -/
structure OwnRow (A : Nat → Prop) (w : World) (s : Slot) (u : Ty) (xs : List u.den) (v : Value) : Prop where
  val : SlV s v
  row : RowAt A w s u xs
  out : ∀ b, s.blk = some b → ¬ A b
  lt : ∀ r, A r → r < w.heap.size
def PrimSpec (P : Program) (f : FuncId) : Prim → Prop
  | .clone u => ∀ (A : Nat → Prop) (w : World) (v : Value) (ys : List u.den), Shown A w u v ys → (∀ r, A r → r < w.heap.size) → ys.length * u.bytes ≤ 140737488355328 → CallOk P f #[v] w (NewRow A w none u ys)
  | .ins u => ∀ (A : Nat → Prop) (w : World) (s : Slot) (v vv : Value) (xs ys : List u.den) (i : Nat), OwnRow A w s u xs v → Shown A w u vv ys → (∀ b a l c, s.blk = some b → vv = .slice (some a) l c → 0 < l → a.block ≠ b) → i ≤ xs.length → (xs.length + ys.length) * u.bytes ≤ 140737488355328 →
      CallOk P f #[v, .int .i64 i, vv] w (NewRow A w s.blk u (xs.take i ++ ys ++ xs.drop i))
  | .del u => ∀ (A : Nat → Prop) (w : World) (s : Slot) (v : Value) (xs : List u.den) (i j : Nat), OwnRow A w s u xs v → i ≤ j → j ≤ xs.length → CallOk P f #[v, .int .i64 i, .int .i64 j] w (NewRow A w s.blk u (xs.take i ++ xs.drop j))
  | .grow u => ∀ (A : Nat → Prop) (w : World) (n : Nat), n * u.bytes ≤ 140737488355328 → CallOk P f #[.slice none 0 0, .int .i64 n] w (NewRow A w none u [])
  | .cmp => ∀ (A : Nat → Prop) (w : World) (v v' : Value) (xs ys : List Int), Shown A w (.int .u8) v xs → Shown A w (.int .u8) v' ys → CallOk P f #[v, v'] w fun z w' => z = .int .i64 (cmpB xs ys) ∧ w' = w
structure EnvOk (P : Program) (E : Env) : Prop where
  tab : tabB P E.tl = true
  eq : EqOk P E
  fns : ∀ f F, E.fns f = some F → FnSpec P E.globs f F
  prims : ∀ f p, look f E.prim = some p → PrimSpec P f p
section
variable {P : Program} {E : Env} {t : TypeId} {g : Gh} {A W : Nat → Prop} {w : World} {h : Hp}
theorem wp_val {o : Oper} {a : Act} {w w' : World} {K : Act → World → Prop} {Q : Exit → Act → World → Prop} {v : Value} (hr : (execOp a.eval o).run P w = .ok (.value v) w') (hK : K (a.put o.dst v) w') : o.wp P a w K Q := by
  unfold Oper.wp; rw [hr]; exact hK
theorem wp_skip {o : Oper} {a : Act} {w w' : World} {K : Act → World → Prop} {Q : Exit → Act → World → Prop} (hr : (execOp a.eval o).run P w = .ok .skip w') (hK : K (a.put o.dst undef) w') : o.wp P a w K Q := by
  unfold Oper.wp; rw [hr]; exact hK
theorem wp_enter {o : Oper} {a : Act} {w w' : World} {K : Act → World → Prop} {Q : Exit → Act → World → Prop} {f : FuncId} {args : Array Value} (hr : (execOp a.eval o).run P w = .ok (.enter f args) w')
    (hK : Calls P f args w' fun e w'' => ∃ v, e = .returned v ∧ K (a.put o.dst v) w'') : o.wp P a w K Q := by
  unfold Oper.wp; rw [hr, Oper.upon_enter]
  exact hK.mono fun e w'' hh => by
    obtain ⟨v, rfl, hv⟩ := hh
    exact hv
theorem of_undef : VRel g A w .undef Go.undef := rfl
theorem seatI_ok (hT : tabB P E.tl = true) (H : HR g A W w h) {x y : PV} {v : Value} {nw : Nat} {h' : Hp} (hx : VRel g A w x v) (e : (seatI E t x nw).Ok h y h') : ∃ g', Step g A W w g' A w h' ∧ VRel g' A w y v := by
  cases x with
  | nils =>
    simp only [seatI, Ok_bind, Ok_get] at e
    obtain ⟨τ, h1, ⟨_, rfl⟩, e⟩ := e
    obtain ⟨g', S, r, _⟩ := seat_ok H hx e
    exact ⟨g', S, r⟩
  | _ =>
    simp only [seatI, Ok_ret] at e
    obtain ⟨rfl, rfl⟩ := e
    exact ⟨g, .refl H, hx⟩
theorem rels_of_list : ∀ (xs : List PV) (vs : List Value), ptrs xs = true → ListR g A w xs vs → rels g A w xs vs
  | [], [], _, _ => by unfold rels; rfl
  | x :: xs, v :: vs, hp, ⟨h1, h2⟩ => by
    unfold ptrs at hp
    rw [List.all_cons, Bool.and_eq_true] at hp
    unfold rels
    refine ⟨[v], vs, rfl, ?_, rels_of_list xs vs hp.2 h2⟩
    cases x with
    | ptr i p => unfold VRel at h1; simp only [aggP] at h1; exact h1
    | _ => simp at hp
theorem list_of_rels : ∀ (xs : List PV) (vs : List Value), ptrs xs = true → rels g A w xs vs → ListR g A w xs vs
  | [], vs, _, h => by unfold rels at h; subst h; trivial
  | x :: xs, vs, hp, h => by
    unfold ptrs at hp
    rw [List.all_cons, Bool.and_eq_true] at hp
    unfold rels at h
    obtain ⟨c, d, rfl, h2, h3⟩ := h
    cases x with
    | ptr i p =>
      obtain ⟨u, rfl, _⟩ := rel_single (.ptr i p) c rfl h2
      exact ⟨by unfold VRel; simp only [aggP]; exact h2, list_of_rels xs d hp.2 h3⟩
    | _ => simp at hp
theorem list_app : ∀ {xs : List PV} {vs : List Value} {ys : List PV} {us : List Value}, ListR g A w xs vs → ListR g A w ys us → ListR g A w (xs ++ ys) (vs ++ us)
  | [], [], _, _, _, h => h
  | _ :: _, _ :: _, _, _, ⟨h1, h2⟩, h => ⟨h1, list_app h2 h⟩
theorem opds_list {gl tm : List (Nat × PV)} {ρ : Operand → Value} (hρ : ∀ o x, opd gl tm o = some x → VRel g A w x (ρ o)) : ∀ {l : List Operand} {xs : List PV}, opds gl tm l = some xs → ListR g A w xs (l.map ρ)
  | [], xs, e => by
    simp only [opds, Option.some.injEq] at e; subst e; trivial
  | o :: l, xs, e => by
    simp only [opds, Option.bind_eq_some_iff, Option.some.injEq] at e
    obtain ⟨a, e1, b, e2, rfl⟩ := e
    exact ⟨hρ o a e1, opds_list hρ e2⟩
theorem opds_app_nil (xs : List PV) : xs ++ ([] : List PV) = xs := List.append_nil xs
theorem list1 {x : PV} {vs : List Value} (h : ListR g A w [x] vs) : ∃ v, vs = [v] ∧ VRel g A w x v := by
  cases vs with
  | nil => exact h.elim
  | cons v vs => cases vs with
    | nil => exact ⟨v, rfl, h.1⟩
    | cons _ _ => exact h.2.elim
theorem list2 {x y : PV} {vs : List Value} (h : ListR g A w [x, y] vs) : ∃ v u, vs = [v, u] ∧ VRel g A w x v ∧ VRel g A w y u := by
  cases vs with
  | nil => exact h.elim
  | cons v vs =>
    obtain ⟨u, rfl, h2⟩ := list1 h.2
    exact ⟨v, u, rfl, h.1, h2⟩
theorem tups_get : ∀ (xs : List PV) (vs : List Value) (i : Nat) (x : PV), tups g A w xs vs → xs[i]? = some x → ∃ v, vs[i]? = some v ∧ VRel g A w x v
  | [], _, _, _, _, e => by simp at e
  | x :: xs, vs, 0, y, h, e => by
    unfold tups at h
    obtain ⟨v, r, rfl, h1, _⟩ := h
    simp at e; subst e
    exact ⟨v, rfl, h1⟩
  | x :: xs, vs, i + 1, y, h, e => by
    unfold tups at h
    obtain ⟨v, r, rfl, _, h2⟩ := h
    obtain ⟨u, h3, h4⟩ := tups_get xs r i y h2 (by simpa using e)
    exact ⟨u, by simpa using h3, h4⟩
theorem builtin_ok (hE : EnvOk P E) (H : HR g A W w h) (hW : ∀ r, w.heap.size ≤ r → W r) {b : Builtin} {ts : Array TypeId} {ty : TypeId} {cs : Array Bool} {xs : List PV} {vs : List Value} {share : Bool} {nw : Nat} {y : PV} {h' : Hp} (hv : ListR g A w xs vs) (e : (builtinQ E b ts.toList xs share nw).Ok h y h') :
    ∃ g' A' w' v, (builtin b ts ty cs vs.toArray).run P w = .ok (.value v) w' ∧ Step g A W w g' A' w' h' ∧ VRel g' A' w' y v := by
  unfold builtinQ at e
  split at e
  · rename_i t x hts
    obtain ⟨v, rfl, hx⟩ := list1 hv
    have hts' : ts = #[t] := Array.toList_inj.1 hts
    subst hts'
    obtain ⟨rfl, z, r, hz⟩ := len_ok hE.tab H hx e ty
    exact ⟨g, A, w, z, by simp [builtin, r], .refl H, hz⟩
  · rename_i t t' s x hts
    rw [Ok_cond] at e
    rcases e with ⟨ht, e⟩ | ⟨_, e⟩
    · obtain rfl := Nat.eq_of_beq_eq_true ht
      obtain ⟨v, u, rfl, hx, hy⟩ := list2 hv
      have hts' : ts = #[t, t] := Array.toList_inj.1 hts
      subst hts'
      obtain ⟨g', A', w', z, r, S, hz⟩ := append_ok hE.tab ty H hW hx hy e
      exact ⟨g', A', w', z, by simp [builtin, r], S, hz⟩
    · obtain ⟨v, u, rfl, hx, hy⟩ := list2 hv
      have hts' : ts = #[t, t'] := Array.toList_inj.1 hts
      subst hts'
      obtain ⟨g', A', w', z, r, S, hz⟩ := appendZ_ok hE.tab ty H hW hx hy e
      exact ⟨g', A', w', z, by simp [builtin, r], S, hz⟩
  · rename_i t ts' d s hts
    obtain ⟨v, u, rfl, hx, hy⟩ := list2 hv
    have hts' : ts = (t :: ts').toArray := Array.toList_inj.1 hts
    subst hts'
    obtain ⟨w', z, r, S, hz⟩ := copy_ok hE.tab ts' ty H hx hy e
    exact ⟨g, A, w', z, by simp only [builtin, Sem.run_bind]; rw [r]; rfl, S, hz⟩
  · rename_i t ts' d hts
    obtain ⟨v, rfl, hx⟩ := list1 hv
    have hts' : ts = (t :: ts').toArray := Array.toList_inj.1 hts
    subst hts'
    obtain ⟨w', z, r, S, hz⟩ := clear_ok hE.tab ts' ty H hx e
    exact ⟨g, A, w', z, by simp only [builtin, Sem.run_bind]; rw [r]; rfl, S, hz⟩
  · rename_i k a l b
    rw [Ok_cond, decide_eq_true_eq] at e
    rcases e with ⟨rfl, e⟩ | ⟨_, e⟩
    · rw [Ok_ret] at e; obtain ⟨rfl, rfl⟩ := e
      obtain ⟨v, u, rfl, hx, hy⟩ := list2 hv
      obtain rfl := v_int hx
      obtain rfl := v_int hy
      exact ⟨g, A, w, _, by simp [builtin, min_run], .refl H, of_int _ _⟩
    · exact e.elim
  · rename_i k a l b
    rw [Ok_cond, decide_eq_true_eq] at e
    rcases e with ⟨rfl, e⟩ | ⟨_, e⟩
    · rw [Ok_ret] at e; obtain ⟨rfl, rfl⟩ := e
      obtain ⟨v, u, rfl, hx, hy⟩ := list2 hv
      obtain rfl := v_int hx
      obtain rfl := v_int hy
      exact ⟨g, A, w, _, by simp [builtin, max_run], .refl H, of_int _ _⟩
    · exact e.elim
  · exact e.elim
theorem oopd_rel {gl tm : List (Nat × PV)} {ρ : Operand → Value} (hρ : ∀ o x, opd gl tm o = some x → VRel g A w x (ρ o)) {o : Option Operand} {x : Option PV} (e : oopd gl tm o = some x) : OptR g A w x (o.map ρ) := by
  cases o with
  | none => simp only [oopd, Option.some.injEq] at e; subst e; trivial
  | some o =>
    simp only [oopd, Option.map_eq_some_iff] at e
    obtain ⟨a, e, rfl⟩ := e
    exact hρ o a e
theorem parts_arr (ps : Array (Nat × Operand)) (ρ : Operand → Value) : (ps.map fun (i, x) => (i, ρ x)) = (ps.toList.map fun p => (p.1, ρ p.2)).toArray := by
  apply Array.toList_inj.1; simp
theorem CallOk.mono {f : FuncId} {vs : Array Value} {p q : Value → World → Prop} (hpq : ∀ v w', p v w' → q v w') : CallOk P f vs w p → CallOk P f vs w q
  | .inl ⟨v, w', h1, h2⟩ => .inl ⟨v, w', h1, hpq v w' h2⟩
  | .inr ⟨h1, h2⟩ => .inr ⟨h1, h2.mono fun _ w' ⟨v, e, h⟩ => ⟨v, e, hpq v w' h⟩⟩
theorem HR.delOff {w' : World} (H : HR g A W w h) {id : Nat} {B : Blk} {s : Slot} (hb : h.at id = some B) (hl : B.live = true) (hg : g id = some s) (hw : ∀ r, r < w.heap.size → s.blk ≠ some r → w'.heap[r]? = w.heap[r]?) (hz : w.heap.size ≤ w'.heap.size) :
    HR g A W w' ((id, none) :: h) ∧ (∀ b, s.blk = some b → Free g ((id, none) :: h) b) ∧ ∀ i C s' r, Hp.at ((id, none) :: h) i = some C → g i = some s' → s'.blk = some r → s.blk ≠ some r := by
  have off : ∀ i C s' r, Hp.at ((id, none) :: h) i = some C → g i = some s' → s'.blk = some r → s.blk ≠ some r := fun i C s' r e hg' hr hs => by
    rw [at_cons] at e
    split at e
    · cases e
    · rename_i hne
      cases hC : C.live with
      | true => exact hne (H.inj i id C B s' s r e hb hC hl hg' hg hr hs)
      | false =>
        have ho := (H.own id B s r hb hl hg hs).1
        cases C with
        | box x => cases hC
        | row t xs fz =>
          cases fz with
          | false => cases hC
          | true =>
            obtain ⟨s2, h1, _, h3⟩ := H.blk i _ e
            rw [hg'] at h1; injection h1 with h1; subst h1
            exact ho (h3 rfl r hr)
  refine ⟨(H.del id).move (fun r hr => hw r (H.lt r hr) (fun hs => (H.own id B s r hb hl hg hs).1 hr)) (fun i C s' r e hg' hr => hw r (((H.del id).blk i C e).lt hg' hr) (off i C s' r e hg' hr)) hz, fun b hs i C s' e _ hg' hr => off i C s' b e hg' hr hs, off⟩
theorem newRow_ok (H : HR g A W w h) (hW : ∀ r, w.heap.size ≤ r → W r) {id nw : Nat} {t u : Ty} {xs : List t.den} {zs : List u.den} {s : Slot} {v : Value} {w' : World} (hb : h.at id = some (.row t xs false)) (hg : g id = some s) (hn : look nw ((id, none) :: h) = none) (R : NewRow A w s.blk u zs v w') :
    ∃ g' A', Step g A W w g' A' w' ((nw, some (.row u zs false)) :: (id, none) :: h) ∧ VRel g' A' w' (.sl nw) v := by
  obtain ⟨s', h1, h2, h3, K⟩ := R
  have hsame : ∀ r, r < w.heap.size → s.blk ≠ some r → w'.heap[r]? = w.heap[r]? := fun r hr hs => K.block r hr (fun h => h.elim (fun h => by omega) hs)
  obtain ⟨H1, hf, _⟩ := H.delOff hb rfl hg hsame K.size
  have hown : ∀ r, s.blk = some r → ¬ A r ∧ W r := fun r hr => H.own id _ s r hb rfl hg hr
  have hA : ∀ r, A r → w'.heap[r]? = w.heap[r]? := fun r hr => hsame r (H.lt r hr) (fun hs => (hown r hs).1 hr)
  refine ⟨upd g nw s', A, ⟨le_upd (H1.gnone hn), fun _ h => h, fun _ h => .inl h, H1.add hn s' ⟨s', upd_self _ _ _, h2, fun h => by cases h⟩ (fun _ r hr => ?_), hA, K.os, K.tape, K.output, K.size, fun r hr hw => hsame r hr (fun hs => hw (hown r hs).2)⟩, of_sl (upd_self _ _ _) h1⟩
  rcases h3 r hr with h | h
  · exact ⟨(hown r h).1, (hown r h).2, hf r h⟩
  · exact ⟨fun ha => by have := H.lt r ha; omega, hW r h, (H.free h).del⟩
theorem newRow_ok0 (H : HR g A W w h) (hW : ∀ r, w.heap.size ≤ r → W r) {nw : Nat} {u : Ty} {zs : List u.den} {v : Value} {w' : World} (hn : look nw h = none) (R : NewRow A w none u zs v w') :
    ∃ g' A', Step g A W w g' A' w' ((nw, some (.row u zs false)) :: h) ∧ VRel g' A' w' (.sl nw) v := by
  obtain ⟨s', h1, h2, h3, K⟩ := R
  have hsame : ∀ r, r < w.heap.size → w'.heap[r]? = w.heap[r]? := fun r hr => K.block r hr (fun h => h.elim (fun h => by omega) (fun h => by cases h))
  have H1 : HR g A W w' h := H.move (fun r hr => hsame r (H.lt r hr)) (fun i C s' r e hg' hr => hsame r ((H.blk i C e).lt hg' hr)) K.size
  refine ⟨upd g nw s', A, ⟨le_upd (H1.gnone hn), fun _ h => h, fun _ h => .inl h, H1.add hn s' ⟨s', upd_self _ _ _, h2, fun h => by cases h⟩ (fun _ r hr => ?_), fun r hr => hsame r (H.lt r hr), K.os, K.tape, K.output, K.size, fun r hr _ => hsame r hr⟩, of_sl (upd_self _ _ _) h1⟩
  rcases h3 r hr with h | h
  · cases h
  · exact ⟨fun ha => by have := H.lt r ha; omega, hW r h, H.free h⟩
theorem int64_out {x : PV} {n : Int} {v : Value} {h' : Hp} (hx : VRel g A w x v) (e : (int64 x).Ok h n h') : h' = h ∧ v = .int .i64 n := by
  unfold int64 at e
  split at e
  · rw [Ok_ret] at e; obtain ⟨rfl, rfl⟩ := e
    exact ⟨rfl, v_int hx⟩
  · exact e.elim
theorem ownRow_out (H : HR g A W w h) {u : Ty} {x : PV} {xs : List u.den} {v : Value} {h' : Hp} (hx : VRel g A w x v) (e : (ownRow u x).Ok h xs h') :
    ∃ id s, h.at id = some (.row u xs false) ∧ g id = some s ∧ h' = (id, none) :: h ∧ OwnRow A w s u xs v := by
  cases x with
  | sl id =>
    simp only [ownRow, Q.Ok] at e
    obtain ⟨B, hb, e⟩ := e
    cases B with
    | box x => simp [Q.Ok] at e
    | row t ys fz =>
      cases fz with
      | true => simp [Q.Ok] at e
      | false =>
        simp only [Ok_bind, Ok_get, Q.Ok] at e
        obtain ⟨ys', h1, ⟨ec0, rfl⟩, _, rfl, rfl⟩ := e
        obtain ⟨ec, _⟩ := cast_some ec0
        injection ec with ec
        subst ec
        obtain rfl := cast_self ec0
        obtain ⟨s, hg, hv⟩ := to_sl hx
        obtain ⟨s', hg', hrow, _⟩ := H.blk id _ hb
        rw [hg] at hg'; injection hg' with hg'; subst hg'
        exact ⟨id, s, hb, hg, rfl, hv, hrow, fun b hs => (H.own id _ s b hb rfl hg hs).1, H.lt⟩
  | _ => simp [ownRow, Q.Ok] at e
theorem prim_ok {f : FuncId} {p : Prim} (hp : PrimSpec P f p) (H : HR g A W w h) (hW : ∀ r, w.heap.size ≤ r → W r) {xs : List PV} {vs : List Value} {nw : Nat} {x : PV} {h' : Hp} (hv : ListR g A w xs vs) (e : (primQ p xs nw).Ok h x h') :
    CallOk P f vs.toArray w fun v w' => ∃ g' A', Step g A W w g' A' w' h' ∧ VRel g' A' w' x v := by
  unfold primQ at e
  split at e
  · rename_i u
    split at e
    · rename_i x1
      obtain ⟨v, rfl, hx⟩ := list1 hv
      simp only [Ok_bind, Ok_ask, Ok_cond, Ok_fail, and_false, or_false, Q.Ok] at e
      obtain ⟨ys, h1, e1, hlim, _, hn, rfl, rfl⟩ := e
      obtain ⟨rfl, hs⟩ := dec_shown H hx e1
      exact (hp A w v ys hs H.lt (lim_out hlim)).mono fun v w' R => newRow_ok0 H hW hn R
    · exact e.elim
  · rename_i u
    split at e
    · rename_i x1 i1 v1
      obtain ⟨v, us, rfl, hx, hr⟩ := listR_cons hv
      obtain ⟨vi, vv, rfl, hi, hvv⟩ := list2 hr
      simp only [Ok_bind, Ok_ask, Ok_cond, Ok_fail, and_false, or_false, Q.Ok, Bool.and_eq_true, decide_eq_true_eq] at e
      obtain ⟨zs, h1, e1, i, h2, e2, ys, h3, e3, ⟨⟨hi0, hi1⟩, hlim⟩, _, hn, rfl, rfl⟩ := e
      obtain ⟨id, s, hb, hg, rfl, O⟩ := ownRow_out H hx e1
      obtain ⟨rfl, rfl⟩ := int64_out hi e2
      obtain ⟨H1, _, off⟩ := H.delOff hb rfl hg (fun _ _ _ => rfl) (Nat.le_refl _)
      obtain ⟨rfl, hs⟩ := dec_shown H1 hvv e3
      have hnn : i = (i.toNat : Int) := by rw [Int.toNat_of_nonneg hi0]
      have hap : ∀ b a l c, s.blk = some b → vv = .slice (some a) l c → 0 < l → a.block ≠ b := fun b a l c hsb hvv' hl hab => by
        have hag : aggP v1 = (Ty.slice u).agg := dec_agg _ _ _ _ _ e3
        have hrel := single_of (by rw [hag]; rfl) hvv
        have hd := (dec_rel H1 (.slice u) v1 ys _ [vv] hrel e3).2
        obtain ⟨a', cap, h4, h5, h6⟩ := hd
        injection h4 with h4
        rw [hvv'] at h4
        injection h4 with h7 h8 h9
        obtain ⟨ad, k1, k2, k3, _⟩ := h6 (by omega)
        rw [← h7] at k1; injection k1 with k1; subst k1
        rw [hab] at k3
        rcases k3 with k3 | ⟨i, C, s', k4, k5, k6⟩
        · exact O.out b hsb k3
        · exact off i C s' b k4 k5 k6 hsb
      have := hp A w s v vv zs ys i.toNat O hs hap (by omega) (lim_out hlim)
      rw [← hnn] at this
      exact this.mono fun v w' R => newRow_ok H hW hb hg hn R
    · exact e.elim
  · rename_i u
    split at e
    · rename_i x1 i1 v1
      obtain ⟨v, us, rfl, hx, hr⟩ := listR_cons hv
      obtain ⟨vi, vj, rfl, hi, hj⟩ := list2 hr
      simp only [Ok_bind, Ok_ask, Ok_cond, Ok_fail, and_false, or_false, Q.Ok, decide_eq_true_eq] at e
      obtain ⟨zs, h1, e1, i, h2, e2, j, h3, e3, ⟨hi0, hij, hj1⟩, _, hn, rfl, rfl⟩ := e
      obtain ⟨id, s, hb, hg, rfl, O⟩ := ownRow_out H hx e1
      obtain ⟨rfl, rfl⟩ := int64_out hi e2
      obtain ⟨rfl, rfl⟩ := int64_out hj e3
      have hnn : i = (i.toNat : Int) := by rw [Int.toNat_of_nonneg hi0]
      have hnj : j = (j.toNat : Int) := by rw [Int.toNat_of_nonneg (by omega)]
      have := hp A w s v zs i.toNat j.toNat O (by omega) (by omega)
      rw [← hnn, ← hnj] at this
      exact this.mono fun v w' R => newRow_ok H hW hb hg hn R
    · exact e.elim
  · rename_i u
    split at e
    · rename_i n1
      obtain ⟨v, vn, rfl, hx, hi⟩ := list2 hv
      simp only [Ok_bind, Ok_ask, Ok_cond, Ok_fail, and_false, or_false, Q.Ok, Bool.and_eq_true, decide_eq_true_eq] at e
      obtain ⟨n, h2, e2, ⟨hn0, hlim⟩, _, hn, rfl, rfl⟩ := e
      obtain ⟨rfl, rfl⟩ := int64_out hi e2
      have hv0 : v = .slice none 0 0 := by
        unfold VRel at hx; simp only [aggP] at hx; unfold PV.rel at hx
        simpa using hx
      subst hv0
      have hnn : n = (n.toNat : Int) := by rw [Int.toNat_of_nonneg hn0]
      have := hp A w n.toNat (lim_out hlim)
      rw [← hnn] at this
      exact this.mono fun v w' R => newRow_ok0 H hW hn R
    · exact e.elim
  · split at e
    · rename_i x1 y1
      obtain ⟨v, v', rfl, hx, hy⟩ := list2 hv
      simp only [Ok_bind, Ok_ret] at e
      obtain ⟨as, h1, e1, bs, h2, e2, rfl, rfl⟩ := e
      obtain ⟨rfl, hs1⟩ := dec_shown H hx e1
      obtain ⟨rfl, hs2⟩ := dec_shown H hy e2
      refine (hp A w v v' as bs hs1 hs2).mono fun z w' ⟨hz, hw⟩ => ?_
      subst hz hw
      exact ⟨g, A, .refl H, of_int _ _⟩
    · exact e.elim
theorem op_ok (hE : EnvOk P E) {tm : List (Nat × PV)} {o : Oper} {nw : Nat} {a : Act} {x : PV} {h' : Hp} (H : HR g A W w h) (hW : ∀ r, w.heap.size ≤ r → W r) (hG : GlOk E.globs A w) (hρ : ∀ o x, opd E.globs tm o = some x → VRel g A w x (a.eval o)) (e : (opQ E tm o nw).Ok h x h') {K : Act → World → Prop} {Q : Exit → Act → World → Prop}
    (hK : ∀ g' A' w' v, Step g A W w g' A' w' h' → VRel g' A' w' x v → K (a.put o.dst v) w') : o.wp P a w K Q := by
  unfold opQ at e
  split at e
  · -- move
    rename_i y hop
    simp only [Ok_bind, Ok_get] at e
    obtain ⟨z, h1, ⟨e1, rfl⟩, e⟩ := e
    obtain ⟨g', S, r⟩ := seatI_ok hE.tab H (hρ _ _ e1) e
    exact wp_val (by simp [execOp, hop]) (hK _ _ _ _ S r)
  · rename_i y hop
    simp only [Ok_bind, Ok_get] at e
    obtain ⟨z, h1, ⟨e1, rfl⟩, e⟩ := e
    obtain ⟨g', S, r⟩ := seatI_ok hE.tab H (hρ _ _ e1) e
    exact wp_val (by simp [execOp, hop]) (hK _ _ _ _ S r)
  · -- pick
    rename_i c y z hop
    simp only [Ok_bind, Ok_get] at e
    obtain ⟨b, h1, ⟨e1, rfl⟩, e⟩ := e
    have hb := hρ _ _ e1
    split at e
    · rename_i t
      have hb := v_bool hb
      rcases e with ⟨rfl, e⟩ | ⟨rfl, e⟩
      · simp only [Ok_bind, Ok_get] at e
        obtain ⟨u, h2, ⟨e2, rfl⟩, e⟩ := e
        obtain ⟨g', S, r⟩ := seatI_ok hE.tab H (hρ _ _ e2) e
        exact wp_val (by simp [execOp, hop, hb, asBool]) (hK _ _ _ _ S r)
      · simp only [Ok_bind, Ok_get] at e
        obtain ⟨u, h2, ⟨e2, rfl⟩, e⟩ := e
        obtain ⟨g', S, r⟩ := seatI_ok hE.tab H (hρ _ _ e2) e
        exact wp_val (by simp [execOp, hop, hb, asBool]) (hK _ _ _ _ S r)
    · exact e.elim
  · rename_i t hop
    obtain ⟨g', w', v, r, S, hv⟩ := alloc_ok hE.tab H hW e
    exact wp_val (by simp [execOp, hop, r]) (hK _ _ _ _ S hv)
  · rename_i t y hop
    rw [Ok_bind] at e
    obtain ⟨τ, h1, e1, e⟩ := e
    rw [Ok_bind] at e
    obtain ⟨z, h2, e2, e⟩ := e
    rw [Ok_get] at e1 e2
    obtain ⟨e1, rfl⟩ := e1
    obtain ⟨e2, rfl⟩ := e2
    have hb : ∃ g' w' u, (Instr.box t (a.eval y)).run P w = .ok u w' ∧ Step g A W w g' A w' h' ∧ VRel g' A w' x u :=
      box_ok (P := P) (E := E) (t := t) H hW (hρ _ _ e2) (nw := nw) (y := x) (h' := h') (by
        rw [Ok_bind]; exact ⟨τ, _, by rw [Ok_get]; exact ⟨e1, rfl⟩, e⟩)
    obtain ⟨g', w', v, r, S, hv⟩ := hb
    exact wp_val (by simp [execOp, hop, r]) (hK _ _ _ _ S hv)
  · rename_i t ps hop
    simp only [Ok_bind, Ok_get] at e
    obtain ⟨qs, h1, ⟨e1, rfl⟩, e⟩ := e
    obtain ⟨g', A', v, r, S, hv⟩ := build_ok hE.tab H (opds_rel hρ e1) e
    exact wp_val (by simp only [execOp, hop, parts_arr, Sem.run_bind, r]; rfl) (hK _ _ _ _ S hv)
  · rename_i t n ps hop
    simp only [Ok_bind, Ok_get] at e
    obtain ⟨qs, h1, ⟨e1, rfl⟩, e⟩ := e
    obtain ⟨g', A', w', v, r, S, hv⟩ := buildSlice_ok hE.tab H hW (opds_rel hρ e1) e
    exact wp_val (by simp only [execOp, hop, parts_arr, Sem.run_bind, r]; rfl) (hK _ _ _ _ S hv)
  · rename_i t y hop
    simp only [Ok_bind, Ok_get] at e
    obtain ⟨z, h1, ⟨e1, rfl⟩, e⟩ := e
    have e' := e
    simp only [loadQ, Ok_bind, Ok_get] at e'
    obtain ⟨τ, _, ⟨hτ, _⟩, _⟩ := e'
    obtain ⟨rfl, v, r, hv⟩ := load_ok (P := P) (tabB_look hE.tab hτ) hτ H (hρ _ _ e1) e
    exact wp_val (by simp [execOp, hop, r]) (hK _ _ _ _ (.refl H) hv)
  · rename_i t y z hop
    simp only [Ok_bind, Ok_get] at e
    obtain ⟨u1, h1, ⟨e1, rfl⟩, u2, h2, ⟨e2, rfl⟩, e⟩ := e
    have e' := e
    simp only [storeQ, Ok_bind, Ok_get] at e'
    obtain ⟨τ, _, ⟨hτ, _⟩, _⟩ := e'
    obtain ⟨rfl, g', A', w', r, S⟩ := store_ok (P := P) (tabB_look hE.tab hτ) hτ H (hρ _ _ e1) (hρ _ _ e2) e
    exact wp_skip (by simp [execOp, hop, r]) (hK _ _ _ _ S of_undef)
  · rename_i y hop
    simp only [Ok_bind, Ok_get] at e
    obtain ⟨z, h1, ⟨e1, rfl⟩, e⟩ := e
    have hz := hρ _ _ e1
    split at e
    · rw [Ok_ret] at e; obtain ⟨rfl, rfl⟩ := e
      obtain ⟨s, b, _, _, hv, _⟩ := rel_ptr hz
      exact wp_val (v := a.eval y) (by simp [execOp, hop, hv]) (hK _ _ _ _ (.refl H) hz)
    · rw [Ok_ret] at e; obtain ⟨rfl, rfl⟩ := e
      obtain ⟨ad, c, hv, _⟩ := rel_iptr hz
      exact wp_val (v := a.eval y) (by simp [execOp, hop, hv]) (hK _ _ _ _ (.refl H) hz)
    · exact e.elim
  · rename_i op t y z i hop
    simp only [Ok_bind, Ok_get] at e
    obtain ⟨u1, h1, ⟨e1, rfl⟩, u2, h2, ⟨e2, rfl⟩, e⟩ := e
    obtain ⟨rfl, q, v, r, hv⟩ := bin_ok (P := P) (ox := y) (oy := z) hE.tab hE.eq H (hρ _ _ e1) (hρ _ _ e2) e
    exact wp_val (by simp [execOp, hop, q, r]) (hK _ _ _ _ (.refl H) hv)
  · rename_i op t y hop
    simp only [Ok_bind, Ok_get] at e
    obtain ⟨u1, h1, ⟨e1, rfl⟩, e⟩ := e
    obtain ⟨rfl, v, r, hv⟩ := un_ok (P := P) (hρ _ _ e1) e
    exact wp_val (by simp [execOp, hop, r]) (hK _ _ _ _ (.refl H) hv)
  · rename_i s t y hop
    simp only [Ok_bind, Ok_get] at e
    obtain ⟨u1, h1, ⟨e1, rfl⟩, e⟩ := e
    obtain ⟨rfl, v, r, hv⟩ := conv_ok (P := P) hE.tab H (hρ _ _ e1) e
    exact wp_val (by simp [execOp, hop, r]) (hK _ _ _ _ (.refl H) hv)
  · rename_i t y z hop
    simp only [Ok_bind, Ok_get] at e
    obtain ⟨u1, h1, ⟨e1, rfl⟩, u2, h2, ⟨e2, rfl⟩, e⟩ := e
    obtain ⟨g', w', v, r, S, hv⟩ := makeSlice_ok hE.tab H hW (hρ _ _ e1) (hρ _ _ e2) e
    exact wp_val (by simp [execOp, hop, r]) (hK _ _ _ _ S hv)
  · rename_i t y lo hi mx hop
    rw [Ok_cond] at e
    rcases e with ⟨hm, e⟩ | ⟨_, e⟩
    · simp only [Ok_bind, Ok_get] at e
      obtain ⟨u1, h1, ⟨e1, rfl⟩, u2, h2, ⟨e2, rfl⟩, u3, h3, ⟨e3, rfl⟩, e⟩ := e
      obtain ⟨rfl, v, r, hv⟩ := slice_ok (P := P) hE.tab H (hρ _ _ e1) (oopd_rel hρ e2) (oopd_rel hρ e3) e
      have hm : mx = none := by simpa using hm
      subst hm
      exact wp_val (by simp [execOp, hop, r]) (hK _ _ _ _ (.refl H) hv)
    · exact e.elim
  · rename_i t y i hop
    simp only [Ok_bind, Ok_get] at e
    obtain ⟨u1, h1, ⟨e1, rfl⟩, e⟩ := e
    obtain ⟨rfl, v, r, hv⟩ := fieldAddr_ok (P := P) hE.tab (hρ _ _ e1) e
    exact wp_val (by simp [execOp, hop, r]) (hK _ _ _ _ (.refl H) hv)
  · rename_i t y i hop
    simp only [Ok_bind, Ok_get] at e
    obtain ⟨u1, h1, ⟨e1, rfl⟩, u2, h2, ⟨e2, rfl⟩, e⟩ := e
    obtain ⟨rfl, v, r, hv⟩ := indexAddr_ok (P := P) hE.tab H (hρ _ _ e1) (hρ _ _ e2) e
    exact wp_val (by simp [execOp, hop, r]) (hK _ _ _ _ (.refl H) hv)
  · rename_i t y i hop
    simp only [Ok_bind, Ok_get] at e
    obtain ⟨u1, h1, ⟨e1, rfl⟩, u2, h2, ⟨e2, rfl⟩, e⟩ := e
    obtain ⟨rfl, v, r, hv⟩ := index_ok (P := P) hE.tab (hρ _ _ e1) (hρ _ _ e2) e
    exact wp_val (by simp [execOp, hop, r]) (hK _ _ _ _ (.refl H) hv)
  · rename_i f first caps hop
    split at e
    · rename_i f
      rw [Ok_cond] at e
      rcases e with ⟨hfe, e⟩ | ⟨_, e⟩
      · simp only [Ok_bind, Ok_get] at e
        obtain ⟨xs, h1, ⟨e1, rfl⟩, e⟩ := e
        rw [Ok_cond] at e
        rcases e with ⟨hp, e⟩ | ⟨_, e⟩
        · have hl := opds_list hρ e1
          have hfirst : first = #[] := by
            apply Array.toList_inj.1
            exact List.isEmpty_iff.1 hfe
          subst hfirst
          rw [Ok_ret] at e
          obtain ⟨rfl, rfl⟩ := e
          refine wp_val (w' := w) (v := .func (.func f) #[] (caps.map a.eval)) (by simp [execOp, hop, Instr.makeFunc]) (hK _ _ _ _ (.refl H) ?_)
          unfold VRel; simp only [aggP]; unfold PV.rel
          refine ⟨caps.map a.eval, rfl, ?_⟩
          have hm : (caps.map a.eval).toList = caps.toList.map a.eval := by simp
          rw [hm]
          exact rels_of_list _ _ hp hl
        · exact e.elim
      · exact e.elim
    · exact e.elim
  · rename_i y i hop
    simp only [Ok_bind, Ok_get] at e
    obtain ⟨u1, h1, ⟨e1, rfl⟩, e⟩ := e
    have hz := hρ _ _ e1
    split at e
    · rename_i xs
      rw [Ok_get] at e
      obtain ⟨e, rfl⟩ := e
      unfold VRel at hz; simp only [aggP] at hz; unfold PV.rel at hz
      obtain ⟨vs, hv, ht⟩ := hz
      injection hv with hv
      obtain ⟨v, h1, h2⟩ := tups_get xs vs.toList i x ht e
      exact wp_val (v := v) (by
        have h1 : vs[i]? = some v := by simpa using h1
        simp [execOp, hop, hv, Instr.extract, h1]) (hK _ _ _ _ (.refl H) h2)
    · exact e.elim
  · rename_i c hop
    simp only [Ok_bind, Ok_get] at e
    obtain ⟨xs, h1, ⟨e1, rfl⟩, e⟩ := e
    have hl := opds_list hρ e1
    split at e
    · rename_i b hc
      obtain ⟨g', A', w', v, r, S, hv⟩ := builtin_ok (ty := o.type) (cs := c.args.map fun | .const _ => true | _ => false) hE H hW hl e
      have ha : (c.args.toList.map a.eval).toArray = c.args.map a.eval := by apply Array.toList_inj.1; simp
      rw [ha] at r
      exact wp_val (by simp only [execOp, hop, resolve, hc, Sem.run_bind, Sem.run_pure, Result.andThen_ok, invoke]; exact r) (hK _ _ _ _ S hv)
    · rename_i f hc
      simp only [Ok_bind, Ok_get] at e
      obtain ⟨z, h2, ⟨e2, rfl⟩, e⟩ := e
      have hz := hρ _ _ e2
      split at e
      · rename_i f' caps
        unfold VRel at hz; simp only [aggP] at hz; unfold PV.rel at hz
        obtain ⟨vs, hv, hcaps⟩ := hz
        injection hv with hv
        have ha : (c.args.toList.map a.eval).toArray = c.args.map a.eval := by apply Array.toList_inj.1; simp
        split at e
        · rename_i p hp
          rw [Ok_cond] at e
          rcases e with ⟨hce, e⟩ | ⟨_, e⟩
          · have hc0 : caps = [] := List.isEmpty_iff.1 hce
            subst hc0
            unfold rels at hcaps
            have hvs : vs = #[] := Array.toList_inj.1 hcaps
            subst hvs
            have C := prim_ok (hE.prims f' p hp) H hW hl e
            rw [ha] at C
            rcases C with ⟨v, w', hr, g', A', S, hv2⟩ | ⟨hr, C⟩
            · exact wp_val (w' := w') (v := v) (by
                simp only [execOp, hop, resolve, hc, hv, Deferred.ofValue, Sem.run_bind, Sem.run_pure, Result.andThen_ok, invoke]
                simpa using hr) (hK _ _ _ _ S hv2)
            · refine wp_enter (f := f') (args := c.args.map a.eval) (w' := w) ?_ (C.mono fun e w' hh => ?_)
              · simp only [execOp, hop, resolve, hc, hv, Deferred.ofValue, Sem.run_bind, Sem.run_pure, Result.andThen_ok, invoke]
                simpa using hr
              · obtain ⟨v, rfl, g', A', S, hv⟩ := hh
                exact ⟨v, rfl, hK _ _ _ _ S hv⟩
          · exact e.elim
        · simp only [Ok_bind, Ok_get] at e
          obtain ⟨F, h3, ⟨e3, rfl⟩, e⟩ := e
          rw [Ok_cond] at e
          rcases e with ⟨hpt, e⟩ | ⟨_, e⟩
          · have hl2 : ListR g A w (xs ++ caps) (c.args.toList.map a.eval ++ vs.toList) := list_app hl (list_of_rels _ _ hpt hcaps)
            have C := call_ok hG (hE.fns f' F e3) H hW hl2 e
            have ha2 : (c.args.toList.map a.eval ++ vs.toList).toArray = c.args.map a.eval ++ vs := by apply Array.toList_inj.1; simp
            rw [ha2] at C
            refine wp_enter (f := f') (args := c.args.map a.eval ++ vs) (w' := w) ?_ (C.mono fun e w' hh => ?_)
            · have hr := (hE.fns f' F e3).enter (c.args.map a.eval ++ vs) w
              simp only [execOp, hop, resolve, hc, hv, Deferred.ofValue, Sem.run_bind, Sem.run_pure, Result.andThen_ok, invoke]
              simpa using hr
            · obtain ⟨g', A', v, rfl, S, hv⟩ := hh
              exact ⟨v, rfl, hK _ _ _ _ S hv⟩
          · exact e.elim
      · exact e.elim
    · exact e.elim
  · exact e.elim
end
end Go.Proofs.YtkihjakbbcajbaaGreat.PM
