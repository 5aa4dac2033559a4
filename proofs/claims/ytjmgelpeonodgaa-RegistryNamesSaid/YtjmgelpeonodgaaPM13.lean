/- One operation of the pure machine: operators, conversions, copy, clear. -/
import Derived.Test.YtjmgelpeonodgaaPM12
namespace Go.Proofs.Ytjmgelpeonodgaa.PM
set_option linter.unusedSimpArgs false
set_option linter.unusedVariables false
open Go

section
variable {P : Program} {E : Env} {t : TypeId} {g : Gh} {A W : Nat → Prop} {w : World} {h : Hp}
theorem v_str {b : List UInt8} {v : Value} (h : VRel g A w (.v .str b) v) : ∃ s : ByteArray, v = .string s ∧ s.data.toList = b := by
  unfold VRel at h; simp only [aggP, Ty.agg] at h; unfold PV.rel TRel at h
  obtain ⟨s, e, h⟩ := h
  injection e with e
  exact ⟨s, e, h⟩
theorem aggOf {τ : Ty} (ha : τ.agg = true) {x : PV} {v : Value} (hx : VRel g A w x v) {a : τ.den} {h' : Hp} (e : (dec τ x).Ok h a h') : ∃ xs, v = .agg xs := by
  have : aggP x = true := by
    cases x with
    | v u z =>
      cases τ with
      | arr n u' =>
        simp only [dec, Ok_get] at e
        obtain ⟨rfl, _⟩ := cast_some e.1
        rfl
      | pair a b =>
        simp only [dec, Ok_get] at e
        obtain ⟨rfl, _⟩ := cast_some e.1
        rfl
      | unit =>
        simp only [dec, Ok_get] at e
        obtain ⟨rfl, _⟩ := cast_some e.1
        rfl
      | _ => cases ha
    | agg xs => rfl
    | _ => cases τ <;> first | (cases ha; done) | (simp [dec, Q.Ok] at e; done)
  unfold VRel at hx
  rw [this] at hx
  exact ⟨_, hx.choose_spec.1⟩
/-- '==' and '!=' of structs and arrays without slices. -/
def EqOk (P : Program) (E : Env) : Prop := ∀ (t : TypeId) (τ : Ty), E.tab t = some (.data τ) → (E.eqs.any (Nat.beq t) && (τ.plain && τ.agg)) = true → ∀ (A : Nat → Prop) (w : World) (xs ys : Array Value) (a b : τ.den), TRel A w τ xs.toList a → TRel A w τ ys.toList b →
  (∀ op x y, (eqGuard op t x y (.agg xs) (.agg ys)).run P w = .ok () w) ∧ (binOp .eql t (.agg xs) (.agg ys)).run P w = .ok (.bool (τ.beq a b)) w ∧ (binOp .neq t (.agg xs) (.agg ys)).run P w = .ok (.bool (!τ.beq a b)) w
theorem bin_ok (hT : tabB P E.tl = true) (hQ : EqOk P E) (H : HR g A W w h) {op : BinOp} {x y r : PV} {vx vy : Value} {ox oy : Operand} {h' : Hp} (hx : VRel g A w x vx) (hy : VRel g A w y vy) (e : (binQ E op t x y).Ok h r h') :
    h' = h ∧ (eqGuard op t ox oy vx vy).run P w = .ok () w ∧ ∃ z, (binOp op t vx vy).run P w = .ok z w ∧ VRel g A w r z := by
  unfold binQ at e
  split at e
  · rename_i k a l b
    obtain rfl := v_int hx
    obtain rfl := v_int hy
    refine ⟨?_, guard_int op t ox oy k l a b, ?_⟩
    · split at e
      · rw [Ok_ask, Ok_ret] at e; exact e.2.2
      · rw [Ok_ask, Ok_ret] at e; exact e.2.2
      · rename_i n1 n2
        rw [Ok_cond] at e
        rcases e with ⟨_, e⟩ | ⟨_, e⟩
        · exact (binI_ok (P := P) (t := t) (g := g) (A := A) (w := w) n1 n2 e).1
        · exact e.elim
    · split at e
      · rw [Ok_ask, Ok_ret, decide_eq_true_eq] at e
        obtain ⟨h0, rfl, _⟩ := e
        exact ⟨_, by simp [binOp, Op.shift, Int.not_lt.2 h0], of_int _ _⟩
      · rw [Ok_ask, Ok_ret, decide_eq_true_eq] at e
        obtain ⟨h0, rfl, _⟩ := e
        exact ⟨_, by simp [binOp, Op.shift, Int.not_lt.2 h0], of_int _ _⟩
      · rename_i n1 n2
        rw [Ok_cond, decide_eq_true_eq] at e
        rcases e with ⟨hk, e⟩ | ⟨_, e⟩
        · subst hk; exact (binI_ok (P := P) (t := t) n1 n2 e).2
        · exact e.elim
  · rename_i a b
    obtain ⟨sa, rfl, rfl⟩ := v_str hx
    obtain ⟨sb, rfl, rfl⟩ := v_str hy
    have hb : (sa.toList == sb.toList) = decide (sa.data.toList = sb.data.toList) := by
      rw [ByteArray.toList_eq, ByteArray.toList_eq]; rw [Bool.eq_iff_iff]; simp
    cases op <;> simp only [eqQ, Ok_ret, Ok_fail] at e
    · obtain ⟨rfl, rfl⟩ := e
      exact ⟨rfl, by simp [eqGuard], _, by simp [binOp, Op.stringOp, hb], of_bool _⟩
    · obtain ⟨rfl, rfl⟩ := e
      exact ⟨rfl, by simp [eqGuard], _, by simp [binOp, Op.stringOp, hb], of_bool _⟩
  · rename_i a b
    obtain rfl := v_bool hx
    obtain rfl := v_bool hy
    rw [Ok_bind] at e
    obtain ⟨τ, h1, e1, e⟩ := e
    obtain ⟨hE, rfl⟩ := data_out e1
    have hty : tyB P τ t = true := tabB_look hT hE
    split at e
    · have hu : P.underlying t = some .bool := by
        simp only [tyB_int, tyB_bool, tyB_str, tyB_unit, tyB_pair, tyB_arr, tyB_slice, Bool.and_eq_true] at hty
        have h2 := hty.2
        split at h2
        · assumption
        · cases h2
      cases op <;> simp only [eqQ, Ok_ret, Ok_fail] at e
      · obtain ⟨rfl, rfl⟩ := e
        exact ⟨rfl, by simp [eqGuard], _, by simp [binOp, Op.equal, Op.maxDepth, run_equalIn_bool w _ t a b hu], of_bool _⟩
      · obtain ⟨rfl, rfl⟩ := e
        exact ⟨rfl, by simp [eqGuard], _, by simp [binOp, Op.equal, Op.maxDepth, run_equalIn_bool w _ t a b hu], of_bool _⟩
    · exact e.elim
  · rw [Ok_bind] at e
    obtain ⟨τ, h1, e1, e⟩ := e
    obtain ⟨hE, rfl⟩ := data_out e1
    rw [Ok_cond] at e
    rcases e with ⟨hf, e⟩ | ⟨_, e⟩
    · simp only [Ok_bind] at e
      obtain ⟨a, h2, e2, b, h3, e3, e⟩ := e
      obtain ⟨rfl, ra⟩ := dec_rel H τ x a h2 _ (VRel.cells hx).1 e2
      obtain ⟨rfl, rb⟩ := dec_rel H τ y b h3 _ (VRel.cells hy).1 e3
      have hag : τ.agg = true := by
        simp only [Bool.and_eq_true] at hf; exact hf.2.2
      have hxa : ∃ xs, vx = .agg xs := by
        have := aggOf hag hx e2
        exact this
      have hya : ∃ ys, vy = .agg ys := aggOf hag hy e3
      obtain ⟨xs, rfl⟩ := hxa
      obtain ⟨ys, rfl⟩ := hya
      obtain ⟨q1, q2, q3⟩ := hQ t τ hE hf (Rd g A h3) w xs ys a b ra rb
      cases op <;> simp only [eqQ, Ok_ret, Ok_fail] at e
      · obtain ⟨rfl, rfl⟩ := e; exact ⟨rfl, q1 _ _ _, _, q2, of_bool _⟩
      · obtain ⟨rfl, rfl⟩ := e; exact ⟨rfl, q1 _ _ _, _, q3, of_bool _⟩
    · exact e.elim
end
end Go.Proofs.Ytjmgelpeonodgaa.PM
