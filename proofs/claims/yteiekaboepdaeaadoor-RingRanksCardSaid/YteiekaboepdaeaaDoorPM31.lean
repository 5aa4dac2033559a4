/- Laws whose row lists package variables: what these hold, and the law's row. -/
import Derived.Test.YteiekaboepdaeaaDoorPM29
import Derived.Handed
import Derived.FnData
namespace Go.Proofs.YteiekaboepdaeaaDoor.PM
set_option linter.unusedSimpArgs false
set_option linter.unusedVariables false
open Go Go.ChangeShapes Go.WideShapes Go.ChangeAt Go.RowKit
theorem cat_ints {A : Nat → Prop} {w : World} {k : IntKind} : ∀ ns : List Int, Cat (TRel A w (.int k)) (ns.map (Value.int k)) ns
  | [] => rfl
  | n :: ns => ⟨[.int k n], ns.map (Value.int k), rfl, rfl, cat_ints ns⟩
theorem glob_rel {P : Program} {H : Type} {enc : TypeId × Value → H} {W : World} {base : Nat} {spare : Nat → Bool} {held : Bool} {fuel : Nat} {t : TypeId} {cs : List Value} {p : List MemPlace} {A : Nat → Prop} {n : Nat} {k : IntKind} {ns : List Int}
    (ht : tyB P (.arr n (.int k)) t = true) (hn : ns.length = n) (h : DataW.trod enc P W base spare held fuel t cs = some (.agg (ns.map fun x => .lit (.int k x)), p)) : TRel A W (.arr n (.int k)) cs ns := by
  obtain ⟨e, hm, hu⟩ := arr_und ht
  obtain ⟨xs, m, _, hx, hl, hlen, hel⟩ := DataW.trod_array hm h
  have hc := ty_cells hu
  rw [ty_cells ht] at hl
  have hl' : cs.length = n := by rw [hl]; simp [Ty.size]
  injection hx with hx _
  injection hx with hx
  have hcs : cs = ns.map (Value.int k) := by
    apply List.ext_getElem?
    intro i
    by_cases hi : i < n
    · have h1 := hel i hi
      rw [hc] at h1
      simp only [Ty.size, Nat.mul_one] at h1
      rw [List.getElem?_eq_getElem (by omega)] at h1
      obtain ⟨v, e1, e2, _⟩ := DataW.trod_int (und_int hu) h1
      have h2 : (ns.map fun x => (DataW.lit (.int k x) : DataW H))[i]? = (xs.map (·.1))[i]? := by rw [hx]
      rw [List.getElem?_map, List.getElem?_map, List.getElem?_eq_getElem (by omega), List.getElem?_eq_getElem (by omega)] at h2
      simp only [Option.map_some, Option.some.injEq, e2, DataW.lit.injEq, Lit.int.injEq, true_and] at h2
      have h3 : ((cs.drop i).take 1)[0]? = some (.int k v) := by rw [e1]; rfl
      rw [List.getElem?_take_of_lt (by omega), List.getElem?_drop, Nat.add_zero] at h3
      rw [h3, List.getElem?_map, List.getElem?_eq_getElem (by omega), h2]; rfl
    · rw [List.getElem?_eq_none (by omega), List.getElem?_eq_none (by simp; omega)]
  rw [hcs]
  exact ⟨hn, cat_ints ns⟩
/-- A law that reads package variables, lifted. -/
theorem law_lifted_and {C : Checked} {os : Os} {f : FuncId} {fn : Func} {s : ChangeSpec} {conds : List PathCond} {ps : List PK} {tb : TypeId} {gl : List (Nat × PV)} {G : (argTy ps).den → Option (outTy ps [(.bool, true)]).den} {H : Type} {enc : TypeId × Value → H} {X : World → Array Value → Prop}
    (hX : ∀ (w w' : World) (args : Array Value), w.heap = w'.heap → X w args → X w' args)
    (own : ownKnob C.prog.godebug = none) (started : os.Started) (noInit : C.prog.inits.idxOf? f = none) (hfn : C.prog.funcs[f]? = some fn)
    (witness : ∃ (w : World) (tape : Tape) (i : Input), w.os = os ∧ (w.forCall tape i).Shaped C.prog ∧ i.vars = [] ∧ Input.okWide C.prog (w.forCall tape i) .any w.heap.size f i ∧
      ((s.pre enc C.prog fn conds false (w.forCall tape i).memory i.args ∧ X (w.forCall tape i).memory i.args) ∧ sizedMet enc C.prog fn (OpenSpec.ofChange s) false (w.forCall tape i).memory i.args) ∧ ({} : Assume).holds C.prog (Go.lone (Frame.enter C.prog f i.args .normal) [] (w.forCall tape i)))
    (hvars : s.vars = []) (hs : ∀ ds : List (DataW H), ds.length = fn.params.toList.length → (s.fn H ds).results = [.lit (.bool true)] ∧ (s.fn H ds).args = ds ∧ (s.fn H ds).vars = [])
    (hres : fn.resultTypes = #[tb]) (htb : C.prog.underlying tb = some .bool) (hargs : argsB C.prog ps fn.params.toList = true) (hl : laidOutB C.prog = true) (hrows : rowsB C.prog fn.params.toList = true)
    (hF : FnSpec C.prog gl f ⟨⟨ps, [(.bool, true)]⟩, G⟩) (hgl : ∀ W args, X W args → GlOk gl (Here W) W)
    (hG : ∀ x, argsWf ps x → ∃ y, G x = some y ∧ ∀ A w vs zs bs, OutRel A w ps [(.bool, true)] vs zs y bs → zs = [.bool true]) :
    ReturnsInHanded {} C os f .any (fun w args => (s.pre enc C.prog fn conds false w args ∧ X w args) ∧ sizedMet enc C.prog fn (OpenSpec.ofChange s) false w args) (s.post enc C.prog fn false true false false) := by
  refine returnsInHanded_of_change_and hX own started noInit hfn witness ?_
  intro W base args ds gs before hval hW hcnd hsz hx0 _
  have hW' := hW
  obtain ⟨p, q, hA, hV, rfl, hfz, hnd⟩ := hW
  obtain ⟨x, hx, wx, hdl⟩ := open_args (W := W) ps fn.params.toList args.toList ds p hargs (fun j t v e1 e2 => hval j t v (by simpa using e1) (by simpa using e2)) hA
  obtain ⟨y, hy, ho⟩ := hG x wx
  have hc := law_run hF (hgl W args hx0) hx hy ho
  have e1 : args.toList.toArray = args := by simp
  rw [e1] at hc
  rw [hvars] at hV
  obtain ⟨rfl, rfl⟩ := trodVars_none hV
  refine hc.mono fun e W' ⟨he, hb⟩ => ?_
  subst he
  obtain ⟨r1, r2, r3⟩ := hs ds hdl
  refine ⟨_, rfl, ds, [], _, [], p, [], hW', ?_, ?_, ?_, hb.frame _, fun h => by cases h⟩
  · rw [List.append_nil, r1, hres]; exact trodAll_mk1 (shut_bool htb _)
  · rw [List.append_nil, r2]; exact keep_args hl hb _ _ _ _ hrows hA
  · rw [List.append_nil, r3, hvars]; rfl
end Go.Proofs.YteiekaboepdaeaaDoor.PM
