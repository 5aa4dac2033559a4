/- A law's row out of its contract: for every input that reads as data the law returns true, its arguments read as before. -/
import Derived.Test.YtkihjakbbcajbaaGreatPM28
import Derived.Below
import Derived.Carry
namespace Go.Proofs.YtkihjakbbcajbaaGreat.PM
set_option linter.unusedSimpArgs false
set_option linter.unusedVariables false
open Go Go.ChangeShapes Go.WideShapes Go.ChangeAt Go.RowKit
def argsB (P : Program) : List PK → List TypeId → Bool
  | [], [] => true
  | .val τ :: r, t :: ts => tyB P τ t && (τ.solid && argsB P r ts)
  | _, _ => false
def argsWf : (ps : List PK) → (argTy ps).den → Prop
  | .val t :: r, x => t.wf x.1 ∧ argsWf r x.2
  | [], _ => True
  | _ :: _, _ => False
def rowsB (P : Program) (ts : List TypeId) : Bool := ts.all fun t => P.readableRec t && decide (t < P.types.size)
section
variable {P : Program} {H : Type} {enc : TypeId × Value → H} {W W' : World}
theorem okw_agg {τ : Ty} {t : TypeId} {base : Nat} {v : Value} (ht : tyB P τ t = true) (h : Value.okWide P W .any base t v) : isAggV v = τ.agg := by
  cases τ with
  | int k => obtain ⟨n, rfl⟩ := okWide_int (und_int ht) h; rfl
  | bool =>
    have hu : P.underlying t = some .bool := by
      simp only [tyB_bool, Bool.and_eq_true] at ht
      have h2 := ht.2
      split at h2
      · assumption
      · cases h2
    obtain ⟨n, rfl⟩ := okWide_bool hu h; rfl
  | str => obtain ⟨n, rfl⟩ := okWide_string (und_str ht) h; rfl
  | unit =>
    simp only [tyB_unit, Bool.and_eq_true] at ht
    obtain ⟨_, hu⟩ := ht
    split at hu
    · rename_i fs hfs
      obtain ⟨cs, rfl, _⟩ := okWide_struct hfs h; rfl
    · cases hu
  | pair a b =>
    simp only [tyB_pair, Bool.and_eq_true] at ht
    obtain ⟨_, hu⟩ := ht
    split at hu
    · rename_i fs hfs
      obtain ⟨cs, rfl, _⟩ := okWide_struct hfs h; rfl
    · cases hu
  | arr n u =>
    simp only [tyB_arr, Bool.and_eq_true] at ht
    obtain ⟨_, hu⟩ := ht
    split at hu
    · rename_i m e hm
      simp only [Value.okWide, hm] at h
      obtain ⟨cs, rfl, _⟩ := h; rfl
    · cases hu
  | slice u =>
    obtain ⟨e, hu, _⟩ := slice_und ht
    obtain ⟨a, len, cap, rfl⟩ := okWide_slice hu h; rfl
theorem open_args {base : Nat} {spare : Nat → Bool} {held : Bool} : ∀ (ps : List PK) (ts : List TypeId) (vs : List Value) (ds : List (DataW H)) (p : List MemPlace), argsB P ps ts = true →
    (∀ (j : Nat) t v, ts[j]? = some t → vs[j]? = some v → Value.okWide P W .any 0 t v) → DataW.TrodAll enc P W base spare held ts vs ds p → ∃ x : (argTy ps).den, ArgsRel (Here W) W ps vs x [] ∧ argsWf ps x ∧ ds.length = ts.length
  | [], [], vs, ds, p, _, _, h => by
    cases vs with
    | nil => cases ds with
      | nil => exact ⟨(), ⟨rfl, rfl⟩, trivial, rfl⟩
      | cons d ds => exact h.elim
    | cons v vs => exact h.elim
  | .val τ :: r, t :: ts, vs, ds, p, hb, hok, h => by
    simp only [argsB, Bool.and_eq_true] at hb
    obtain ⟨hb1, hb2, hb3⟩ := hb
    obtain ⟨v, us, d, ds', p', q, rfl, rfl, rfl, h1, h2⟩ := trodAll_cons h
    obtain ⟨fuel, hf⟩ := h1
    obtain ⟨a, ha, wa⟩ := trod_rel τ t fuel _ _ hb1 hb2 hf
    obtain ⟨x, hx, wx, hl⟩ := open_args r ts us ds' q hb3 (fun j t' v' e1 e2 => hok (j + 1) t' v' (by simpa using e1) (by simpa using e2)) h2
    exact ⟨(a, x), ⟨v, us, rfl, ⟨okw_agg hb1 (hok 0 t v rfl rfl), ha, rfl⟩, hx⟩, ⟨wa, wx⟩, by simp [hl]⟩
  | [], _ :: _, _, _, _, hb, _, _ => by simp [argsB] at hb
  | .val _ :: _, [], _, _, _, hb, _, _ => by simp [argsB] at hb
  | .io _ _ :: _, _, _, _, _, hb, _, _ => by simp [argsB] at hb
  | .mu _ :: _, _, _, _, _, hb, _, _ => by simp [argsB] at hb
  | .fn _ :: _, _, _, _, _, hb, _, _ => by simp [argsB] at hb
  | .eat _ :: _, _, _, _, _, hb, _, _ => by simp [argsB] at hb
  | .clo _ _ :: _, _, _, _, _, hb, _, _ => by simp [argsB] at hb
theorem keep_args (hl : laidOutB P = true) (hb : Below W.heap.size W W') : ∀ (ts : List TypeId) (vs : List Value) (ds : List (DataW H)) (p : List MemPlace), rowsB P ts = true → DataW.TrodAll enc P W 0 (fun _ => true) true ts vs ds p → DataW.TrodAll enc P W' 0 (fun b => decide (b < W.heap.size)) true ts vs ds p
  | [], vs, ds, p, _, h => by
    cases vs with
    | nil => cases ds with
      | nil => exact h
      | cons d ds => exact h.elim
    | cons v vs => exact h.elim
  | t :: ts, vs, ds, p, hr, h => by
    simp only [rowsB, List.all_cons, Bool.and_eq_true, decide_eq_true_eq] at hr
    obtain ⟨v, us, d, ds', p', q, rfl, rfl, rfl, h1, h2⟩ := trodAll_cons h
    have hlt : ∀ x ∈ p', x.block < W.heap.size := by obtain ⟨m, hm⟩ := h1; exact DataW.trod_lt m _ _ _ hm
    exact trodAll_cons_mk (Below.trod hl hr.1.1 hr.1.2 h1 hb hlt) (keep_args hl hb ts us ds' q (by simpa [rowsB] using hr.2) h2)
end
theorem out_bool {A : Nat → Prop} {w : World} {zs : List Value} {b : Bool} {bs : List Nat} (h : ResRel A w [(.bool, true)] zs (b, ()) bs) : zs = [.bool b] := by
  obtain ⟨v, us, p, q, rfl, _, ⟨ha, hv⟩, rfl, _⟩ := h
  have hv : OwnT A w .bool v.cells.toList b p := hv
  have h1 : v.cells.toList = [.bool b] := by
    unfold OwnT at hv
    exact hv.1
  have hc := isAggV_cells (v := v) ha
  rw [hc] at h1
  simpa using h1
/-- The call of a law. -/
theorem law_run {P : Program} {gl : List (Nat × PV)} {f : FuncId} {s : Sig} {G : (argTy s.ps).den → Option (outTy s.ps s.rs).den} {W : World} {vs : List Value} {x : (argTy s.ps).den} {y : (outTy s.ps s.rs).den}
    (hF : FnSpec P gl f ⟨s, G⟩) (hG : GlOk gl (Here W) W) (hv : ArgsRel (Here W) W s.ps vs x []) (h : G x = some y) (ho : ∀ A w vs zs bs, OutRel A w s.ps s.rs vs zs y bs → zs = [.bool true]) :
    Calls P f vs.toArray W fun e W' => e = .returned (.bool true) ∧ Below W.heap.size W W' := by
  refine (hF.calls W (Here W) vs x [] y hG hv List.nodup_nil (fun r hr => by simp at hr) (fun _ hr => hr) h).mono fun e W' D => ?_
  obtain ⟨⟨zs, A', bs', rfl, o1, _⟩, K⟩ := D
  obtain rfl := ho _ _ _ _ _ o1
  exact ⟨rfl, K.os, K.tape, K.output, K.size, fun k hk => K.block k hk (fun h => h.elim (fun h => by omega) (fun h => by simp at h))⟩
/-- A law without package variables, lifted. -/
theorem law_lifted {C : Checked} {os : Os} {f : FuncId} {fn : Func} {s : ChangeSpec} {conds : List PathCond} {ps : List PK} {tb : TypeId} {gl : List (Nat × PV)} {G : (argTy ps).den → Option (outTy ps [(.bool, true)]).den} {H : Type} {enc : TypeId × Value → H}
    (own : ownKnob C.prog.godebug = none) (started : os.Started) (noInit : C.prog.inits.idxOf? f = none) (hfn : C.prog.funcs[f]? = some fn)
    (witness : ∃ (w : World) (tape : Tape) (i : Input), w.os = os ∧ (w.forCall tape i).Shaped C.prog ∧ i.vars = [] ∧ Input.okWide C.prog (w.forCall tape i) .any w.heap.size f i ∧
      s.pre6 enc C.prog fn conds false (w.forCall tape i).memory i.args ∧ ({} : Assume).holds C.prog (Go.lone (Frame.enter C.prog f i.args .normal) [] (w.forCall tape i)))
    (hvars : s.vars = []) (hs : ∀ ds : List (DataW H), ds.length = fn.params.toList.length → (s.fn H ds).results = [.lit (.bool true)] ∧ (s.fn H ds).args = ds ∧ (s.fn H ds).vars = [])
    (hres : fn.resultTypes = #[tb]) (htb : C.prog.underlying tb = some .bool) (hargs : argsB C.prog ps fn.params.toList = true) (hl : laidOutB C.prog = true) (hrows : rowsB C.prog fn.params.toList = true)
    (hF : FnSpec C.prog gl f ⟨⟨ps, [(.bool, true)]⟩, G⟩) (hgl : gl = [])
    (hG : ∀ x, argsWf ps x → ∃ y, G x = some y ∧ ∀ A w vs zs bs, OutRel A w ps [(.bool, true)] vs zs y bs → zs = [.bool true]) :
    ReturnsInHanded {} C os f .any (s.pre6 enc C.prog fn conds false) (s.post enc C.prog fn false true false false) := by
  refine returnsInHanded_of_change_sized own started noInit hfn witness ?_
  intro W base args ds gs before hval hW hcnd hsz _
  have hW' := hW
  obtain ⟨p, q, hA, hV, rfl, hfz, hnd⟩ := hW
  have hlen : args.size = args.size := rfl
  obtain ⟨x, hx, wx, hdl⟩ := open_args (W := W) ps fn.params.toList args.toList ds p hargs (fun j t v e1 e2 => hval j t v (by simpa using e1) (by simpa using e2)) hA
  obtain ⟨y, hy, ho⟩ := hG x wx
  subst hgl
  have hc := law_run hF (fun n x e => by cases e) hx hy ho
  have e1 : args.toList.toArray = args := by simp
  rw [e1] at hc
  rw [hvars] at hV
  obtain ⟨rfl, rfl⟩ := trodVars_none hV
  refine hc.mono fun e W' ⟨he, hb⟩ => ?_
  subst he
  obtain ⟨r1, r2, r3⟩ := hs ds hdl
  refine ⟨_, rfl, ds, [], _, [], p, [], hW', ?_, ?_, ?_, hb.frame _, fun h => by cases h⟩
  · rw [List.append_nil, r1, hres]; exact trodAll_mk1 (shut_bool htb _)
  · rw [List.append_nil, r2]; exact keep_args hl hb _ _ _ _ hrows hA
  · rw [List.append_nil, r3, hvars]; rfl
end Go.Proofs.YtkihjakbbcajbaaGreat.PM
