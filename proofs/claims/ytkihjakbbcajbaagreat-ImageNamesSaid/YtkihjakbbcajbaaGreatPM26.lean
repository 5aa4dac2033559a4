/- '==' of structs and arrays without slices. -/
import Derived.Test.YtkihjakbbcajbaaGreatPM25
namespace Go.Proofs.YtkihjakbbcajbaaGreat.PM
set_option linter.unusedSimpArgs false
set_option linter.unusedVariables false
open Go
def Ty.dep : Ty → Nat
  | .pair a b => max (a.dep + 1) b.dep
  | .unit => 1
  | .arr _ t => t.dep + 1
  | _ => 1
def eqChk (P : Program) : Ty → (TypeId → Bool) × (List Field → Bool)
  | .unit => (fun t => !P.stoodInHeld t, fun fs => fs.isEmpty)
  | .pair a b =>
    let F : List Field → Bool := fun fs => match fs with
      | f :: fs => decide (f.name ≠ "_") && ((eqChk P a).1 f.type && (eqChk P b).2 fs)
      | [] => false
    (fun t => !P.stoodInHeld t && match P.underlying t with | some (.struct fs) => F fs.toList | _ => false, F)
  | .arr _ u => (fun t => match P.underlying t with | some (.array _ e) => (eqChk P u).1 e | _ => false, fun _ => false)
  | .slice _ => (fun _ => false, fun _ => false)
  | _ => (fun _ => true, fun _ => false)
def eqB (P : Program) (τ : Ty) (t : TypeId) : Bool := (eqChk P τ).1 t
def eqFB (P : Program) (τ : Ty) (fs : List Field) : Bool := (eqChk P τ).2 fs
theorem eqB_unit (P : Program) (t : TypeId) : eqB P .unit t = !P.stoodInHeld t := rfl
theorem eqB_pair (P : Program) (a b : Ty) (t : TypeId) : eqB P (.pair a b) t = (!P.stoodInHeld t && match P.underlying t with | some (.struct fs) => eqFB P (.pair a b) fs.toList | _ => false) := rfl
theorem eqB_arr (P : Program) (n : Nat) (u : Ty) (t : TypeId) : eqB P (.arr n u) t = (match P.underlying t with | some (.array _ e) => eqB P u e | _ => false) := rfl
theorem eqB_slice (P : Program) (u : Ty) (t : TypeId) : eqB P (.slice u) t = false := rfl
theorem eqFB_pair1 (P : Program) (a b : Ty) (f : Field) (fs : List Field) : eqFB P (.pair a b) (f :: fs) = (decide (f.name ≠ "_") && (eqB P a f.type && eqFB P b fs)) := rfl
section
variable {P : Program} {A : Nat → Prop} {w : World} {t : TypeId}
theorem part_run {τ : Ty} (hty : tyB P τ t = true) {xs : Array Value} {pre c post : List Value} {off : Nat} (h : xs.toList = pre ++ c ++ post) (hp : pre.length = off) (hc : c.length = τ.size) : (part t xs off).run P w = .ok (ofCells τ.agg c) w := by
  have hag := run_isAgg (P := P) w hty
  have hsz := run_sizeT (P := P) w hty
  unfold part
  cases ha : τ.agg with
  | true =>
    rw [ha] at hag
    have : (xs.extract off (off + τ.size)) = c.toArray := by
      apply Array.toList_inj.1
      rw [Array.toList_extract, h, ← hp, ← hc]
      simp [List.extract, List.append_assoc]
    simp [hag, hsz, ofCells, this]
  | false =>
    rw [ha] at hag
    have h1 : c.length = 1 := by
      rw [hc]; exact agg_size (τ := .data τ) (t := t) (P := P) hty ha
    match c, h1 with
    | [v], _ =>
      have : xs[off]? = some v := by
        rw [← Array.getElem?_toList, h, ← hp]; simp
      simp [hag, this, ofCells]
/-- Parts of arrays from the k-th one on. -/
theorem eqA_run {u : Ty} {e : TypeId} {d : Nat} (hu : tyB P u e = true) (hq : ∀ (cs ds : List Value) (a b : u.den), TRel A w u cs a → TRel A w u ds b → (Op.equalIn d e (ofCells u.agg cs) (ofCells u.agg ds)).run P w = .ok (u.beq a b) w) {xs ys : Array Value} :
    ∀ (as bs : List u.den) (k : Nat) (pre pre' cs ds : List Value), xs.toList = pre ++ cs → ys.toList = pre' ++ ds → pre.length = k * u.size → pre'.length = k * u.size → Cat (TRel A w u) cs as → Cat (TRel A w u) ds bs → as.length = bs.length →
    ((forIn (List.range' k as.length) ((none : Option Bool), ()) fun i _ => do
      let a ← part e xs (i * u.size)
      let b ← part e ys (i * u.size)
      let r ← Op.equalIn d e a b
      if (!r) = true then pure (ForInStep.done (some false, ())) else pure (ForInStep.yield (none, ()))).run P w) = .ok (if allB u.beq as bs = true then none else some false, ()) w
  | [], [], k, _, _, _, _, _, _, _, _, _, _, _ => by simp [allB]
  | a :: as, b :: bs, k, pre, pre', cs, ds, hx, hy, hp, hp', ha, hb, hl => by
    obtain ⟨c1, c2, rfl, a1, a2⟩ := ha
    obtain ⟨d1, d2, rfl, b1, b2⟩ := hb
    have hc1 := TRel.len u _ _ a1
    have hd1 := TRel.len u _ _ b1
    have p1 := part_run (P := P) (w := w) hu (xs := xs) (pre := pre) (c := c1) (post := c2) (off := k * u.size) (by rw [hx]; simp) hp hc1
    have p2 := part_run (P := P) (w := w) hu (xs := ys) (pre := pre') (c := d1) (post := d2) (off := k * u.size) (by rw [hy]; simp) hp' hd1
    have q := hq c1 d1 a b a1 b1
    have r := eqA_run hu hq (xs := xs) (ys := ys) as bs (k + 1) (pre ++ c1) (pre' ++ d1) c2 d2 (by rw [hx]; simp) (by rw [hy]; simp) (by rw [List.length_append, hp, hc1, Nat.succ_mul]) (by rw [List.length_append, hp', hd1, Nat.succ_mul]) a2 b2 (by simpa using hl)
    simp only [List.length_cons, List.range'_succ, List.forIn_cons, Sem.run_bind, p1, Result.andThen_ok, p2, q, allB]
    by_cases hh : u.beq a b = true
    · simpa [hh] using r
    · simp [hh]
  | [], _ :: _, _, _, _, _, _, _, _, _, _, _, _, hl => by simp at hl
  | _ :: _, [], _, _, _, _, _, _, _, _, _, _, _, hl => by simp at hl
theorem run_equalIn_arr {n : Nat} {u : Ty} {e : TypeId} {d : Nat} (ht : P.underlying t = some (.array n e)) (hu : tyB P u e = true) (hq : ∀ (cs ds : List Value) (a b : u.den), TRel A w u cs a → TRel A w u ds b → (Op.equalIn d e (ofCells u.agg cs) (ofCells u.agg ds)).run P w = .ok (u.beq a b) w) {cs ds : List Value} {a b : (Ty.arr n u).den} (ha : TRel A w (.arr n u) cs a) (hb : TRel A w (.arr n u) ds b) :
    (Op.equalIn (d + 1) t (.agg cs.toArray) (.agg ds.toArray)).run P w = .ok ((Ty.arr n u).beq a b) w := by
  obtain ⟨ha1, ha2⟩ := ha
  obtain ⟨hb1, hb2⟩ := hb
  have r := eqA_run (P := P) hu hq (xs := cs.toArray) (ys := ds.toArray) a b 0 [] [] cs ds (by simp) (by simp) (by simp) (by simp) ha2 hb2 (by rw [ha1, hb1])
  have hsz := run_sizeT (P := P) w hu
  rw [ha1] at r
  simp only [Op.equalIn, Sem.run_bind, run_underlying ht, Result.andThen_ok, hsz, Std.Legacy.Range.forIn_eq_forIn_range', Std.Legacy.Range.size, Nat.sub_zero, Nat.add_sub_cancel, Nat.div_one]
  rw [r]
  have e : (Ty.arr n u).beq a b = allB u.beq a b := rfl
  rw [e]
  cases allB u.beq a b <;> simp
mutual
theorem eqV : ∀ (τ : Ty) (t : TypeId) (d : Nat) (cs ds : List Value) (a b : τ.den), τ.dep ≤ d → tyB P τ t = true → eqB P τ t = true → TRel A w τ cs a → TRel A w τ ds b → (Op.equalIn d t (ofCells τ.agg cs) (ofCells τ.agg ds)).run P w = .ok (τ.beq a b) w
  | .int k, t, 0, _, _, _, _, hd, _, _, _, _ => by simp [Ty.dep] at hd
  | .int k, t, d + 1, cs, ds, a, b, _, hty, _, ha, hb => by
    have ha : cs = [.int k a] := ha
    have hb : ds = [.int k b] := hb
    subst ha hb
    have h := run_equalIn_int (P := P) w d t k k a b (und_int hty)
    have e : (Ty.int k).beq a b = ((a : Int) == b) := by
      show decide ((a : Int) = b) = _
      rw [Bool.eq_iff_iff]; simp
    rw [e]; exact h
  | .bool, t, 0, _, _, _, _, hd, _, _, _, _ => by simp [Ty.dep] at hd
  | .bool, t, d + 1, cs, ds, a, b, _, hty, _, ha, hb => by
    have ha : cs = [.bool a] := ha
    have hb : ds = [.bool b] := hb
    subst ha hb
    have hu : P.underlying t = some .bool := by
      simp only [tyB_int, tyB_bool, tyB_str, tyB_unit, tyB_pair, tyB_arr, tyB_slice, Bool.and_eq_true] at hty
      have h2 := hty.2
      split at h2
      · assumption
      · cases h2
    exact run_equalIn_bool' (P := P) w d t a b hu
  | .str, t, 0, _, _, _, _, hd, _, _, _, _ => by simp [Ty.dep] at hd
  | .str, t, d + 1, cs, ds, a, b, _, hty, _, ha, hb => by
    obtain ⟨s, rfl, rfl⟩ := ha
    obtain ⟨s', rfl, rfl⟩ := hb
    have h := run_equalIn_string (P := P) w d t s s' (und_str hty)
    have e : Ty.str.beq s.data.toList s'.data.toList = (s.toList == s'.toList) := by
      show decide (s.data.toList = s'.data.toList) = _
      rw [ByteArray.toList_eq, ByteArray.toList_eq, Bool.eq_iff_iff]; simp
    rw [e]; exact h
  | .unit, t, 0, _, _, _, _, hd, _, _, _, _ => by simp [Ty.dep] at hd
  | .unit, t, d + 1, cs, ds, a, b, hd, hty, he, ha, hb => by
    have hty' := hty
    simp only [tyB_int, tyB_bool, tyB_str, tyB_unit, tyB_pair, tyB_arr, tyB_slice, Bool.and_eq_true] at hty'
    obtain ⟨_, hu⟩ := hty'
    split at hu
    · rename_i fs hfs
      have hst : P.stoodInHeld t = false := by simpa [eqB_unit] using he
      have hf : P.fieldsOf t = fs := by unfold Program.fieldsOf; rw [hfs]
      have h := run_equalIn_struct (P := P) w d t cs.toArray ds.toArray (by rw [hf]; exact hfs) hst
      have hnil : fs.toList = [] := List.isEmpty_iff.1 hu
      rw [hf, hnil] at h
      show (Op.equalIn (d + 1) t (.agg cs.toArray) (.agg ds.toArray)).run P w = _
      rw [h]; simp [Op.eqFields, Ty.beq]
    · cases hu
  | .pair x y, t, 0, _, _, _, _, hd, _, _, _, _ => by simp [Ty.dep] at hd
  | .pair x y, t, d + 1, cs, ds, a, b, hd, hty, he, ha, hb => by
    have hty' := hty
    simp only [tyB_int, tyB_bool, tyB_str, tyB_unit, tyB_pair, tyB_arr, tyB_slice, Bool.and_eq_true] at hty'
    obtain ⟨_, hu⟩ := hty'
    split at hu
    · rename_i fs hfs
      simp only [eqB_pair, hfs, Bool.and_eq_true, Bool.not_eq_true'] at he
      have hf : P.fieldsOf t = fs := by unfold Program.fieldsOf; rw [hfs]
      have h := run_equalIn_struct (P := P) w d t cs.toArray ds.toArray (by rw [hf]; exact hfs) he.1
      rw [hf] at h
      show (Op.equalIn (d + 1) t (.agg cs.toArray) (.agg ds.toArray)).run P w = _
      rw [h]
      exact eqF (.pair x y) fs.toList 0 d cs.toArray ds.toArray [] [] cs ds a b hd hu he.2 (by simp) (by simp) rfl rfl ha hb
    · cases hu
  | .arr n u, t, 0, _, _, _, _, hd, _, _, _, _ => by simp [Ty.dep] at hd
  | .arr n u, t, d + 1, cs, ds, a, b, hd, hty, he, ha, hb => by
    simp only [tyB_arr, Bool.and_eq_true] at hty
    obtain ⟨_, hu⟩ := hty
    split at hu
    · rename_i m e hm
      simp only [Bool.and_eq_true] at hu
      obtain rfl := Nat.eq_of_beq_eq_true hu.1
      simp only [eqB_arr, hm] at he
      have hd' : u.dep ≤ d := by
        have : u.dep + 1 ≤ d + 1 := hd
        omega
      exact run_equalIn_arr hm hu.2 (fun cs ds a b h1 h2 => eqV u e d cs ds a b hd' hu.2 he h1 h2) ha hb
    · cases hu
  | .slice u, t, d, _, _, _, _, _, _, he, _, _ => by simp [eqB_slice] at he
  termination_by τ => (SizeOf.sizeOf τ, 1)
theorem eqF : ∀ (τ : Ty) (fs : List Field) (o d : Nat) (xs ys : Array Value) (pre pre' cs ds : List Value) (a b : τ.den), τ.dep ≤ d + 1 → fldB P τ fs o = true → eqFB P τ fs = true → xs.toList = pre ++ cs → ys.toList = pre' ++ ds → pre.length = o → pre'.length = o → TRel A w τ cs a → TRel A w τ ds b →
    (Op.eqFields d xs ys fs).run P w = .ok (τ.beq a b) w
  | .pair x y, fs, o, d, xs, ys, pre, pre', cs, ds, a, b, hd, hf, he, hx, hy, hp, hp', ha, hb => by
    cases fs with
    | nil => simp [fldB_pair1, fldB_pair0, fldB_unit1, fldB_unit0, fldB_int, fldB_bool, fldB_str, fldB_arr, fldB_slice] at hf
    | cons f fs =>
      simp only [fldB_pair1, fldB_pair0, fldB_unit1, fldB_unit0, fldB_int, fldB_bool, fldB_str, fldB_arr, fldB_slice, Bool.and_eq_true] at hf
      simp only [eqFB_pair1, Bool.and_eq_true, decide_eq_true_eq] at he
      obtain ⟨c1, c2, rfl, a1, a2⟩ := ha
      obtain ⟨d1, d2, rfl, b1, b2⟩ := hb
      have ho := Nat.eq_of_beq_eq_true hf.1
      have hc1 := TRel.len x _ _ a1
      have hd1 := TRel.len x _ _ b1
      have hdx : x.dep ≤ d ∧ y.dep ≤ d + 1 := by
        have : max (x.dep + 1) y.dep ≤ d + 1 := hd
        omega
      have p1 := part_run (P := P) (w := w) hf.2.1 (xs := xs) (pre := pre) (c := c1) (post := c2) (off := f.offset) (by rw [hx]; simp) (by rw [hp, ho]) hc1
      have p2 := part_run (P := P) (w := w) hf.2.1 (xs := ys) (pre := pre') (c := d1) (post := d2) (off := f.offset) (by rw [hy]; simp) (by rw [hp', ho]) hd1
      have q := eqV x f.type d c1 d1 a.1 b.1 hdx.1 hf.2.1 he.2.1 a1 b1
      have r := eqF y fs (o + x.size) d xs ys (pre ++ c1) (pre' ++ d1) c2 d2 a.2 b.2 hdx.2 hf.2.2 he.2.2 (by rw [hx]; simp) (by rw [hy]; simp) (by rw [List.length_append, hp, hc1]) (by rw [List.length_append, hp', hd1]) a2 b2
      have e : (Ty.pair x y).beq a b = (x.beq a.1 b.1 && y.beq a.2 b.2) := rfl
      rw [e]
      unfold Op.eqFields
      rw [if_pos he.1]
      simp only [Sem.run_bind, p1, Result.andThen_ok, p2, q]
      cases hh : x.beq a.1 b.1 with
      | true => simpa using r
      | false => simp
  | .unit, fs, o, d, xs, ys, pre, pre', cs, ds, a, b, _, hf, _, _, _, _, _, _, _ => by
    cases fs with
    | nil => simp [Op.eqFields, Ty.beq]
    | cons f fs => simp [fldB_pair1, fldB_pair0, fldB_unit1, fldB_unit0, fldB_int, fldB_bool, fldB_str, fldB_arr, fldB_slice] at hf
  | .int _, _, _, _, _, _, _, _, _, _, _, _, _, hf, _, _, _, _, _, _, _ => by simp [fldB_pair1, fldB_pair0, fldB_unit1, fldB_unit0, fldB_int, fldB_bool, fldB_str, fldB_arr, fldB_slice] at hf
  | .bool, _, _, _, _, _, _, _, _, _, _, _, _, hf, _, _, _, _, _, _, _ => by simp [fldB_pair1, fldB_pair0, fldB_unit1, fldB_unit0, fldB_int, fldB_bool, fldB_str, fldB_arr, fldB_slice] at hf
  | .str, _, _, _, _, _, _, _, _, _, _, _, _, hf, _, _, _, _, _, _, _ => by simp [fldB_pair1, fldB_pair0, fldB_unit1, fldB_unit0, fldB_int, fldB_bool, fldB_str, fldB_arr, fldB_slice] at hf
  | .arr _ _, _, _, _, _, _, _, _, _, _, _, _, _, hf, _, _, _, _, _, _, _ => by simp [fldB_pair1, fldB_pair0, fldB_unit1, fldB_unit0, fldB_int, fldB_bool, fldB_str, fldB_arr, fldB_slice] at hf
  | .slice _, _, _, _, _, _, _, _, _, _, _, _, _, hf, _, _, _, _, _, _, _ => by simp [fldB_pair1, fldB_pair0, fldB_unit1, fldB_unit0, fldB_int, fldB_bool, fldB_str, fldB_arr, fldB_slice] at hf
  termination_by τ => (SizeOf.sizeOf τ, 0)
end
end
def eqTab (P : Program) (E : Env) : List Nat → Bool
  | [] => true
  | t :: r => (match E.tab t with
    | some (.data τ) => eqB P τ t && (!P.eqGuardType P.depth t && Nat.ble τ.dep 10000)
    | _ => true) && eqTab P E r
theorem eqTab_at {P : Program} {E : Env} : ∀ (l : List Nat) (t : Nat) (τ : Ty), eqTab P E l = true → l.any (Nat.beq t) = true → E.tab t = some (.data τ) → eqB P τ t = true ∧ P.eqGuardType P.depth t = false ∧ τ.dep ≤ 10000
  | [], _, _, _, h, _ => by cases h
  | u :: r, t, τ, h, hl, hE => by
    simp only [eqTab, Bool.and_eq_true] at h
    rw [List.any_cons, Bool.or_eq_true] at hl
    rcases hl with hl | hl
    · obtain rfl := Nat.eq_of_beq_eq_true hl
      have h1 := h.1
      rw [hE] at h1
      simp only [Bool.and_eq_true, Bool.not_eq_true'] at h1
      exact ⟨h1.1, h1.2.1, Nat.le_of_ble_eq_true h1.2.2⟩
    · exact eqTab_at r t τ h.2 hl hE
theorem eqOk_of {P : Program} {E : Env} (hT : tabB P E.tl = true) (h : eqTab P E E.eqs = true) : EqOk P E := by
  intro t τ hE hp A w xs ys a b ra rb
  simp only [Bool.and_eq_true] at hp
  obtain ⟨h1, h2, h3⟩ := eqTab_at E.eqs t τ h hp.1 hE
  have hty : tyB P τ t = true := tabB_look hT hE
  have hag : τ.agg = true := hp.2.2
  have q := eqV (P := P) (A := A) (w := w) τ t 10000 xs.toList ys.toList a b h3 hty h1 ra rb
  rw [hag] at q
  have q : (Op.equalIn 10000 t (.agg xs) (.agg ys)).run P w = .ok (τ.beq a b) w := by simpa [ofCells] using q
  refine ⟨fun op x y => run_eqGuard_agg w op t x y xs ys h2, ?_, ?_⟩
  · rw [run_eql_struct, q]; rfl
  · rw [run_neq_struct, q]; rfl
/-- All that an environment needs. -/
theorem envOk_of {P : Program} {E : Env} (hT : tabB P E.tl = true) (h : eqTab P E E.eqs = true) (hf : ∀ f F, E.fns f = some F → FnSpec P E.globs f F) (hp : ∀ f p, look f E.prim = some p → PrimSpec P f p) : EnvOk P E := ⟨hT, eqOk_of hT h, hf, hp⟩
end Go.Proofs.YtkihjakbbcajbaaGreat.PM
