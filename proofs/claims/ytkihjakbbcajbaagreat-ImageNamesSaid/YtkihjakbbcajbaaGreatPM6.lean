/- The program's types as the pure machine tells them, and the laws of memory that the operations need. -/
import Derived.Test.YtkihjakbbcajbaaGreatPM5
import Derived.Laws.CopyRow
import Derived.Laws.Rows
namespace Go.Proofs.YtkihjakbbcajbaaGreat.PM
set_option linter.unusedSimpArgs false
set_option linter.unusedVariables false
open Go

def zcells : Ty → List Value
  | .int k => [.int k 0]
  | .bool => [.bool false]
  | .str => [.string ByteArray.empty]
  | .unit => []
  | .pair a b => zcells a ++ zcells b
  | .arr n t => (List.replicate n (zcells t)).flatten
  | .slice _ => [.slice none 0 0]
def zN (f : List Value → Option (List Value)) : Nat → List Value → Option (List Value)
  | 0, cs => some cs
  | n + 1, cs => (f cs).bind (zN f n)
def zB : Ty → List Value → Option (List Value)
  | .int k, .int j n :: r => cond (decide (j = k) && decide (n = 0)) (some r) none
  | .bool, .bool b :: r => cond b none (some r)
  | .str, .string s :: r => match s with
    | ⟨⟨[]⟩⟩ => some r
    | _ => none
  | .unit, r => some r
  | .pair a b, cs => (zB a cs).bind (zB b)
  | .arr n t, cs => zN (zB t) n cs
  | .slice _, .slice none 0 0 :: r => some r
  | _, _ => none
theorem zN_eq {f : List Value → Option (List Value)} {z : List Value} (h : ∀ cs r, f cs = some r → cs = z ++ r) : ∀ (n : Nat) (cs r : List Value), zN f n cs = some r → cs = (List.replicate n z).flatten ++ r
  | 0, cs, r, e => by simp only [zN, Option.some.injEq] at e; simp [e]
  | n + 1, cs, r, e => by
    simp only [zN, Option.bind_eq_some_iff] at e
    obtain ⟨d, e1, e2⟩ := e
    rw [h cs d e1, zN_eq h n d r e2]
    simp [List.replicate_succ, List.append_assoc]
theorem zB_eq : ∀ (t : Ty) (cs r : List Value), zB t cs = some r → cs = zcells t ++ r
  | .int k, cs, r, e => by
    cases cs with
    | nil => simp [zB] at e
    | cons v cs =>
      cases v with
      | int j n =>
        simp only [zB] at e
        cases hc : (decide (j = k) && decide (n = 0)) with
        | false => rw [hc] at e; cases e
        | true =>
          rw [hc] at e; injection e with e
          rw [Bool.and_eq_true, decide_eq_true_eq, decide_eq_true_eq] at hc
          obtain ⟨rfl, rfl⟩ := hc
          rw [e]; rfl
      | _ => simp [zB] at e
  | .bool, cs, r, e => by
    cases cs with
    | nil => simp [zB] at e
    | cons v cs =>
      cases v with
      | bool b => cases b with
        | true => simp [zB] at e
        | false => simp only [zB, cond_false, Option.some.injEq] at e; rw [e]; rfl
      | _ => simp [zB] at e
  | .str, cs, r, e => by
    cases cs with
    | nil => simp [zB] at e
    | cons v cs =>
      cases v with
      | string s =>
        obtain ⟨⟨l⟩⟩ := s
        cases l with
        | nil => simp only [zB, Option.some.injEq] at e; rw [e]; rfl
        | cons a l => simp [zB] at e
      | _ => simp [zB] at e
  | .unit, cs, r, e => by simp only [zB, Option.some.injEq] at e; simp [zcells, e]
  | .pair a b, cs, r, e => by
    simp only [zB, Option.bind_eq_some_iff] at e
    obtain ⟨d, e1, e2⟩ := e
    rw [zB_eq a cs d e1, zB_eq b d r e2, zcells, List.append_assoc]
  | .arr n t, cs, r, e => zN_eq (zB_eq t) n cs r e
  | .slice t, cs, r, e => by
    cases cs with
    | nil => simp [zB] at e
    | cons v cs =>
      cases v with
      | slice a l c =>
        cases a <;> cases l <;> cases c <;> simp [zB] at e
        simp [e, zcells]
      | _ => simp [zB] at e
theorem zcells_rel (A : Nat → Prop) (w : World) : ∀ t : Ty, TRel A w t (zcells t) t.zero
  | .int _ => rfl
  | .bool => rfl
  | .str => ⟨ByteArray.empty, rfl, rfl⟩
  | .unit => rfl
  | .pair a b => ⟨_, _, rfl, zcells_rel A w a, zcells_rel A w b⟩
  | .arr n t => ⟨by simp [Ty.zero], Cat.replicate (zcells_rel A w t) n⟩
  | .slice _ => ⟨none, 0, rfl, Nat.le_refl _, fun h => absurd h (Nat.lt_irrefl 0)⟩
theorem zcells_own (A : Nat → Prop) (w : World) : ∀ t : Ty, OwnT A w t (zcells t) t.zero []
  | .int _ => ⟨rfl, rfl⟩
  | .bool => ⟨rfl, rfl⟩
  | .str => ⟨⟨ByteArray.empty, rfl, rfl⟩, rfl⟩
  | .unit => ⟨rfl, rfl⟩
  | .pair a b => ⟨_, _, [], [], rfl, rfl, zcells_own A w a, zcells_own A w b⟩
  | .arr n t => ⟨zcells_rel A w (.arr n t), rfl⟩
  | .slice _ => ⟨⟨none, 0, 0⟩, _, rfl, ⟨rfl, rfl, rfl⟩, ⟨rfl, rfl, rfl⟩, rfl⟩

def isAggV : Value → Bool
  | .agg _ => true
  | _ => false
def basicB (P : Program) (τ : Ty) (t : TypeId) : Bool := match P.info? t with
  | some i => Nat.beq i.size τ.size && (Nat.ble i.bytes τ.bytes && (match i.zero with
    | some z => (match zB τ z.cells.toList with | some [] => true | _ => false) && (isAggV z == τ.agg)
    | none => false))
  | none => false
/-- A type's test, and the test of a struct's fields from an offset on. -/
def chk (P : Program) : Ty → (TypeId → Bool) × (List Field → Nat → Bool)
  | .int k => (fun t => basicB P (.int k) t && match P.underlying t with | some (.int j) => decide (j = k) | _ => false, fun _ _ => false)
  | .bool => (fun t => basicB P .bool t && match P.underlying t with | some .bool => true | _ => false, fun _ _ => false)
  | .str => (fun t => basicB P .str t && match P.underlying t with | some .string => true | _ => false, fun _ _ => false)
  | .unit => (fun t => basicB P .unit t && match P.underlying t with | some (.struct fs) => fs.toList.isEmpty | _ => false, fun fs _ => fs.isEmpty)
  | .pair a b =>
    let F : List Field → Nat → Bool := fun fs o => match fs with
      | f :: fs => Nat.beq f.offset o && ((chk P a).1 f.type && (chk P b).2 fs (o + a.size))
      | [] => false
    (fun t => basicB P (.pair a b) t && match P.underlying t with | some (.struct fs) => F fs.toList 0 | _ => false, F)
  | .arr n u => (fun t => basicB P (.arr n u) t && match P.underlying t with | some (.array m e) => Nat.beq m n && (chk P u).1 e | _ => false, fun _ _ => false)
  | .slice u => (fun t => basicB P (.slice u) t && match P.underlying t with | some (.slice e) => (chk P u).1 e | _ => false, fun _ _ => false)
def tyB (P : Program) (τ : Ty) (t : TypeId) : Bool := (chk P τ).1 t
def fldB (P : Program) (τ : Ty) (fs : List Field) (o : Nat) : Bool := (chk P τ).2 fs o
section
variable (P : Program) (t : TypeId) (k : IntKind) (a b u : Ty) (n o : Nat) (f : Field) (fs : List Field)
theorem tyB_int : tyB P (.int k) t = (basicB P (.int k) t && match P.underlying t with | some (.int j) => decide (j = k) | _ => false) := rfl
theorem tyB_bool : tyB P .bool t = (basicB P .bool t && match P.underlying t with | some .bool => true | _ => false) := rfl
theorem tyB_str : tyB P .str t = (basicB P .str t && match P.underlying t with | some .string => true | _ => false) := rfl
theorem tyB_unit : tyB P .unit t = (basicB P .unit t && match P.underlying t with | some (.struct fs) => fs.toList.isEmpty | _ => false) := rfl
theorem tyB_pair : tyB P (.pair a b) t = (basicB P (.pair a b) t && match P.underlying t with | some (.struct fs) => fldB P (.pair a b) fs.toList 0 | _ => false) := rfl
theorem tyB_arr : tyB P (.arr n u) t = (basicB P (.arr n u) t && match P.underlying t with | some (.array m e) => Nat.beq m n && tyB P u e | _ => false) := rfl
theorem tyB_slice : tyB P (.slice u) t = (basicB P (.slice u) t && match P.underlying t with | some (.slice e) => tyB P u e | _ => false) := rfl
theorem fldB_pair1 : fldB P (.pair a b) (f :: fs) o = (Nat.beq f.offset o && (tyB P a f.type && fldB P b fs (o + a.size))) := rfl
theorem fldB_pair0 : fldB P (.pair a b) [] o = false := rfl
theorem fldB_unit1 : fldB P .unit (f :: fs) o = false := rfl
theorem fldB_unit0 : fldB P .unit [] o = true := rfl
theorem fldB_int : fldB P (.int k) fs o = false := rfl
theorem fldB_bool : fldB P .bool fs o = false := rfl
theorem fldB_str : fldB P .str fs o = false := rfl
theorem fldB_arr : fldB P (.arr n u) fs o = false := rfl
theorem fldB_slice : fldB P (.slice u) fs o = false := rfl
end
def tiB (P : Program) : TI → TypeId → Bool
  | .data τ, t => tyB P τ t
  | .other, t => match P.underlying t, P.info? t with
    | some (.pointer _), some i => Nat.beq i.size 1
    | some (.func _ _ _), some i => Nat.beq i.size 1
    | _, _ => false
def tabB (P : Program) : List (Nat × TI) → Bool
  | [] => true
  | (t, τ) :: r => tiB P τ t && tabB P r
theorem tabB_look {P : Program} : ∀ {l : List (Nat × TI)} {t : Nat} {τ : TI}, tabB P l = true → look t l = some τ → tiB P τ t = true
  | [], _, _, _, e => by cases e
  | (j, σ) :: r, t, τ, h, e => by
    rw [look_cons] at e
    simp only [tabB, Bool.and_eq_true] at h
    split at e
    · rename_i hj; injection e with e; subst e; subst hj; exact h.1
    · exact tabB_look h.2 e
section
variable {P : Program} {t : TypeId} {τ : Ty}
theorem tyB_basic (h : tyB P τ t = true) : basicB P τ t = true := by
  cases τ <;> simp only [tyB_int, tyB_bool, tyB_str, tyB_unit, tyB_pair, tyB_arr, tyB_slice, Bool.and_eq_true] at h <;> exact h.1
theorem tyB_info (h : tyB P τ t = true) : ∃ i z, P.info? t = some i ∧ i.size = τ.size ∧ i.bytes ≤ τ.bytes ∧ i.zero = some z ∧ z.cells.toList = zcells τ ∧ isAggV z = τ.agg := by
  have h := tyB_basic h
  unfold basicB at h
  split at h
  · rename_i i hi
    simp only [Bool.and_eq_true] at h
    obtain ⟨h1, h2, h3⟩ := h
    split at h3
    · rename_i z hz
      simp only [Bool.and_eq_true, beq_iff_eq] at h3
      refine ⟨i, z, hi, Nat.eq_of_beq_eq_true h1, Nat.le_of_ble_eq_true h2, hz, ?_, h3.2⟩
      have h4 := h3.1
      split at h4
      · rename_i he
        have := zB_eq τ _ _ he
        simpa using this
      · cases h4
    · cases h3
  · cases h
theorem run_isAgg (w : World) (h : tyB P τ t = true) : (isAgg t).run P w = .ok τ.agg w := by
  have hu : ∃ d, P.underlying t = some d ∧ (match d with | .struct _ | .array _ _ => true | _ => false) = τ.agg := by
    cases τ <;> simp only [tyB_int, tyB_bool, tyB_str, tyB_unit, tyB_pair, tyB_arr, tyB_slice, Bool.and_eq_true] at h <;> obtain ⟨_, h⟩ := h <;> split at h <;> first | (rename_i hd; exact ⟨_, hd, rfl⟩) | (cases h)
  obtain ⟨d, hd, e⟩ := hu
  simp only [isAgg, Sem.run_bind, run_underlying hd, Result.andThen_ok]
  cases d <;> simp_all
theorem run_sizeT (w : World) (h : tyB P τ t = true) : (sizeOf t).run P w = .ok τ.size w := by
  obtain ⟨i, z, h1, h2, _⟩ := tyB_info h
  simp [sizeOf, typeInfo, h1, h2]
theorem isAggV_cells {v : Value} (h : isAggV v = false) : v.cells = #[v] := by
  cases v <;> simp_all [Value.cells, isAggV]
end
/-- A value out of its cells. -/
def ofCells (agg : Bool) (c : List Value) : Value := cond agg (.agg c.toArray) (c.getD 0 undef)
section
variable {g : Gh} {A : Nat → Prop} {w : World}
theorem rel_single : ∀ (x : PV) (cs : List Value), aggP x = false → x.rel g A w cs → ∃ v, cs = [v] ∧ isAggV v = false
  | .v t x, cs, ha, h => by
    unfold PV.rel at h
    cases t <;> simp only [aggP, Ty.agg] at ha <;> try (cases ha)
    · exact ⟨_, h, rfl⟩
    · exact ⟨_, h, rfl⟩
    · obtain ⟨s, e, _⟩ := h; exact ⟨_, e, rfl⟩
    · obtain ⟨a, c, e, _⟩ := h; exact ⟨_, e, rfl⟩
  | .agg xs, cs, ha, h => by simp [aggP] at ha
  | .sl i, cs, _, h => by
    unfold PV.rel at h; obtain ⟨s, v, _, e, hv⟩ := h
    refine ⟨v, e, ?_⟩
    unfold SlV at hv
    split at hv
    · rw [hv]; rfl
    · rw [hv.1]; rfl
  | .sv i p off len sz n, cs, _, h => by unfold PV.rel at h; obtain ⟨s, v, _, e, _, _, _, _, a, c, rfl, _⟩ := h; exact ⟨_, e, rfl⟩
  | .ptr i p, cs, _, h => by unfold PV.rel at h; obtain ⟨s, b, _, _, e, _⟩ := h; exact ⟨_, e, rfl⟩
  | .iptr t x, cs, _, h => by unfold PV.rel at h; obtain ⟨a, c, e, _⟩ := h; exact ⟨_, e, rfl⟩
  | .nils, cs, _, h => by unfold PV.rel at h; exact ⟨_, h, rfl⟩
  | .fn f caps, cs, _, h => by unfold PV.rel at h; obtain ⟨vs, e, _⟩ := h; exact ⟨_, e, rfl⟩
  | .tup xs, cs, _, h => by unfold PV.rel at h; obtain ⟨vs, e, _⟩ := h; exact ⟨_, e, rfl⟩
  | .undef, cs, _, h => by unfold PV.rel at h; exact ⟨_, h, rfl⟩
theorem VRel.cells {x : PV} {v : Value} (h : VRel g A w x v) : x.rel g A w v.cells.toList ∧ isAggV v = aggP x := by
  unfold VRel at h
  cases hx : aggP x with
  | true => rw [hx] at h; obtain ⟨cs, rfl, h⟩ := h; exact ⟨h, rfl⟩
  | false =>
    rw [hx] at h
    obtain ⟨u, e, hu⟩ := rel_single x _ hx h
    injection e with e; subst e
    rw [isAggV_cells hu]; exact ⟨h, hu⟩
theorem VRel.of_cells {x : PV} {c : List Value} (h : x.rel g A w c) : VRel g A w x (ofCells (aggP x) c) := by
  unfold VRel ofCells
  cases hx : aggP x with
  | true => exact ⟨c.toArray, rfl, h⟩
  | false =>
    obtain ⟨v, rfl, _⟩ := rel_single x c hx h
    exact h
theorem ofCells_eq {x : PV} {v : Value} (h : VRel g A w x v) : ofCells (aggP x) v.cells.toList = v := by
  have := h.cells
  unfold ofCells
  cases hx : aggP x with
  | true => rw [hx] at this; cases v <;> simp_all [isAggV, Value.cells]
  | false => rw [hx] at this; rw [isAggV_cells this.2]; rfl
mutual
theorem fits_ok : ∀ (t : Ty) (x : PV), fits t x = true → aggP x = t.agg ∧ x.size = t.size
  | .pair a b, x, h => by
    cases x with
    | agg xs =>
      cases xs with
      | nil => simp [fits] at h
      | cons x xs =>
        simp only [fits, Bool.and_eq_true] at h
        have h1 := fits_ok a x h.1
        have h2 := fitss_ok b xs h.2
        exact ⟨rfl, by simp only [PV.size, sizes, Ty.size, h1.2, h2]⟩
    | v u z => simp only [fits, decide_eq_true_eq] at h; subst h; exact ⟨rfl, rfl⟩
    | _ => simp [fits] at h
  | .unit, x, h => by
    cases x with
    | agg xs =>
      cases xs with
      | nil => exact ⟨rfl, rfl⟩
      | cons x xs => simp [fits] at h
    | v u z => simp only [fits, decide_eq_true_eq] at h; subst h; exact ⟨rfl, rfl⟩
    | _ => simp [fits] at h
  | .int k, x, h => by
    cases x with
    | v u z => simp only [fits, decide_eq_true_eq] at h; subst h; exact ⟨rfl, rfl⟩
    | _ => simp [fits] at h
  | .bool, x, h => by
    cases x with
    | v u z => simp only [fits, decide_eq_true_eq] at h; subst h; exact ⟨rfl, rfl⟩
    | _ => simp [fits] at h
  | .str, x, h => by
    cases x with
    | v u z => simp only [fits, decide_eq_true_eq] at h; subst h; exact ⟨rfl, rfl⟩
    | _ => simp [fits] at h
  | .arr n t, x, h => by
    cases x with
    | v u z => simp only [fits, decide_eq_true_eq] at h; subst h; exact ⟨rfl, rfl⟩
    | _ => simp [fits] at h
  | .slice t, x, h => by
    cases x with
    | v u z => simp only [fits, decide_eq_true_eq] at h; subst h; exact ⟨rfl, rfl⟩
    | sl i => exact ⟨rfl, rfl⟩
    | sv i p o l s n => exact ⟨rfl, rfl⟩
    | _ => simp [fits] at h
theorem fitss_ok : ∀ (t : Ty) (xs : List PV), fitss t xs = true → sizes xs = t.size
  | .pair a b, xs, h => by
      cases xs with
      | nil => simp [fitss] at h
      | cons x xs =>
        simp only [fitss, Bool.and_eq_true] at h
        have h1 := fits_ok a x h.1
        have h2 := fitss_ok b xs h.2
        simp only [sizes, Ty.size, h1.2, h2]
  | .unit, xs, h => by
      cases xs with
      | nil => rfl
      | cons x xs => simp [fitss] at h
  | .int _, _, h => by simp [fitss] at h
  | .bool, _, h => by simp [fitss] at h
  | .str, _, h => by simp [fitss] at h
  | .arr _ _, _, h => by simp [fitss] at h
  | .slice _, _, h => by simp [fitss] at h
end
mutual
theorem fits_one : ∀ (t : Ty) (x : PV) (cs : List Value), fits t x = true → x.rel g A w cs → ∀ v ∈ cs, v.oneCell' = true
  | t, .v u z, cs, _, h => by unfold PV.rel at h; exact TRel.one u cs z h
  | t, .sl i, cs, _, h => by
    unfold PV.rel at h; obtain ⟨s, v, _, rfl, hv⟩ := h
    intro u hu
    rw [List.mem_singleton] at hu; subst hu
    unfold SlV at hv
    split at hv
    · rw [hv]; rfl
    · rw [hv.1]; rfl
  | t, .sv i p off len sz n, cs, _, h => by
    unfold PV.rel at h; obtain ⟨s, v, _, rfl, _, _, _, _, a, c, rfl, _⟩ := h
    intro u hu
    rw [List.mem_singleton] at hu; subst hu; rfl
  | .pair a b, .agg xs, cs, hf, h => by
    cases xs with
    | nil => simp [fits] at hf
    | cons x xs =>
      simp only [fits, Bool.and_eq_true] at hf
      unfold PV.rel rels at h
      obtain ⟨c, d, rfl, h1, h2⟩ := h
      intro v hv
      rcases List.mem_append.1 hv with hv | hv
      · exact fits_one a x c hf.1 h1 v hv
      · exact fitss_one b xs d hf.2 h2 v hv
  | .unit, .agg xs, cs, hf, h => by
    cases xs with
    | nil => unfold PV.rel rels at h; subst h; simp
    | cons x xs => simp [fits] at hf
  | .int _, .agg xs, _, hf, _ => by simp [fits] at hf
  | .bool, .agg xs, _, hf, _ => by simp [fits] at hf
  | .str, .agg xs, _, hf, _ => by simp [fits] at hf
  | .arr _ _, .agg xs, _, hf, _ => by simp [fits] at hf
  | .slice _, .agg xs, _, hf, _ => by simp [fits] at hf
  | t, .ptr _ _, _, hf, _ => by cases t <;> simp [fits] at hf
  | t, .iptr _ _, _, hf, _ => by cases t <;> simp [fits] at hf
  | t, .nils, _, hf, _ => by cases t <;> simp [fits] at hf
  | t, .fn _ _, _, hf, _ => by cases t <;> simp [fits] at hf
  | t, .tup _, _, hf, _ => by cases t <;> simp [fits] at hf
  | t, .undef, _, hf, _ => by cases t <;> simp [fits] at hf
theorem fitss_one : ∀ (t : Ty) (xs : List PV) (cs : List Value), fitss t xs = true → rels g A w xs cs → ∀ v ∈ cs, v.oneCell' = true
  | t, [], cs, _, h => by unfold rels at h; subst h; simp
  | .pair a b, x :: xs, cs, hf, h => by
      simp only [fitss, Bool.and_eq_true] at hf
      unfold rels at h
      obtain ⟨c, d, rfl, h1, h2⟩ := h
      intro v hv
      rcases List.mem_append.1 hv with hv | hv
      · exact fits_one a x c hf.1 h1 v hv
      · exact fitss_one b xs d hf.2 h2 v hv
  | .unit, x :: xs, _, hf, _ => by simp [fitss] at hf
  | .int _, x :: xs, _, hf, _ => by simp [fitss] at hf
  | .bool, x :: xs, _, hf, _ => by simp [fitss] at hf
  | .str, x :: xs, _, hf, _ => by simp [fitss] at hf
  | .arr _ _, x :: xs, _, hf, _ => by simp [fitss] at hf
  | .slice _, x :: xs, _, hf, _ => by simp [fitss] at hf
end
end
end Go.Proofs.YtkihjakbbcajbaaGreat.PM
