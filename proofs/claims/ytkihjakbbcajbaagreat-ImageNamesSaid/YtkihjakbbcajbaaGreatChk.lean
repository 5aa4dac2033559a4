/- part.Check: its contract. -/
import Derived.Test.YtkihjakbbcajbaaGreatChk5
namespace Go.Proofs.YtkihjakbbcajbaaGreat.PM
set_option linter.unusedSimpArgs false
set_option linter.unusedVariables false
open Go Go.Proofs Go.Proofs.YtkihjakbbcajbaaGreat.Kd
noncomputable def same0 (p : t7.den) : List t0.den := [p.2.2.1.1, List.getD (α := t0.den) p.2.1 1 t0.zero, List.getD (α := t0.den) p.2.1 2 t0.zero]
/-- What part.Check answers when it comes to its loops. -/
noncomputable def part_Check.Rest (p : t7.den) : Option (Int × Unit) :=
  (tItems p.2.2.2.1).bind fun xs => match goR (st1 p) xs (same0 p) with
    | none => some (8, ())
    | some s1 => (tItems p.2.2.2.2.1).bind fun ys => match goR (st2 p) ys s1 with
      | none => some (8, ())
      | some s2 => part_Check.T p 0 s2
noncomputable def part_Check.Fn : Fun := ⟨part_Check.sg, fun x => (entry part_Check.E part_Check.sg Tryz.f128 x).ev fun _ _ => part_Check.Rest x.1⟩
noncomputable def part_Check.F (p : t7.den) : Option (Int × Unit) := part_Check.Fn.F (p, ())
noncomputable def s1P (p : t7.den) : St := part_Check.S1 p.1 p.2.1 p.2.2.1.1.1 p.2.2.1.1.2.1 p.2.2.1.1.2.2.1 p.2.2.1.2.1 p.2.2.1.2.2.1 p.2.2.1.2.2.2.1 p.2.2.2.1.1 p.2.2.2.1.2.1 p.2.2.2.1.2.2.1 p.2.2.2.1.2.2.2.1.1 p.2.2.2.1.2.2.2.1.2.1 p.2.2.2.1.2.2.2.1.2.2.1 p.2.2.2.1.2.2.2.2.1 p.2.2.2.1.2.2.2.2.2.1.1 p.2.2.2.1.2.2.2.2.2.1.2.1 p.2.2.2.1.2.2.2.2.2.1.2.2.1 p.2.2.2.1.2.2.2.2.2.1.2.2.2.1 p.2.2.2.2.1.1 p.2.2.2.2.1.2.1 p.2.2.2.2.1.2.2.1 p.2.2.2.2.1.2.2.2.1.1 p.2.2.2.2.1.2.2.2.1.2.1 p.2.2.2.2.1.2.2.2.1.2.2.1 p.2.2.2.2.1.2.2.2.2.1 p.2.2.2.2.1.2.2.2.2.2.1.1 p.2.2.2.2.1.2.2.2.2.2.1.2.1 p.2.2.2.2.1.2.2.2.2.2.1.2.2.1 p.2.2.2.2.1.2.2.2.2.2.1.2.2.2.1 p.2.2.2.2.2.1 p.2.2.2.2.2.2.1.1 p.2.2.2.2.2.2.1.2.1 p.2.2.2.2.2.2.1.2.2.1
noncomputable def q3 (p : t7.den) := evR part_Check.E r3 1000 (s1P p).tm (s1P p).hp
theorem q3_ok (p : t7.den) : (q3 p).isSome = true := by kernel_rfl
theorem q3_t1 (p : t7.den) : look 1 (tmR (q3 p)) = some (.ptr 0 []) := by kernel_rfl
theorem q3_t2 (p : t7.den) : look 2 (tmR (q3 p)) = some (.ptr 1 []) := by kernel_rfl
theorem q3_t3 (p : t7.den) : look 3 (tmR (q3 p)) = some (.ptr 1640 []) := by kernel_rfl
theorem q3_h0 (p : t7.den) : (hR (q3 p)).at 0 = some (.box (mk t7 p)) := by kernel_rfl
theorem q3_h1 (p : t7.den) : (hR (q3 p)).at 1 = some (.box (.v (.int .i64) 0)) := by kernel_rfl
theorem q3_h2 (p : t7.den) : (hR (q3 p)).at 1640 = some (.box (.v (.arr 3 t0) (same0 p))) := by kernel_rfl
theorem s1P_io (p : t7.den) : (s1P p).io = [] := by kernel_rfl
theorem ntmps : Tryz.f128.ntmps = 104 := by kernel_rfl
theorem res_cell : Tryz.f128.results.toList = [.cell 2 31] := by kernel_rfl
theorem ret_int : tyB Tryz.prog (.int .i64) 31 = true := by kernel_rfl
section
variable {A : Nat → Prop} {w : World} {vs : List Value}
theorem done_int {w' : World} (hA : ∀ r, A r → r < w.heap.size) (v0 : Value) (hv : vs = [v0]) (hk : Keep (fun r => w.heap.size ≤ r ∨ r ∈ ([] : List Nat)) w w') (m : Int) : Done part_Check.Fn A w vs [] (m, ()) (.returned (.int .i64 m)) w' := by
  subst hv
  refine ⟨⟨[.int .i64 m], A, [], rfl, ?_, List.nodup_nil, fun r h => (by cases h), fun r h => .inl h, fun r h => Nat.lt_of_lt_of_le (hA r h) hk.size⟩, hk⟩
  exact ⟨_, [], [], [], rfl, rfl, ⟨rfl, rfl, rfl⟩, rfl, rfl⟩
theorem out_int {B : Nat → Prop} {w' : World} {zs : List Value} {y : (outTy part_Check.sg.ps part_Check.sg.rs).den} {bs : List Nat} (h : OutRel B w' part_Check.sg.ps part_Check.sg.rs vs zs y bs) : zs = [.int .i64 y.1] := by
  obtain ⟨v, us, p, q, h1, h2, ⟨h3, h4⟩, h5⟩ := h
  obtain ⟨h5, _⟩ := h5
  have h4 : v.cells.toList = [.int .i64 y.1] := h4.1
  have h3 : isAggV v = false := h3
  subst h1 h5
  have key : ∀ v : Value, isAggV v = false → v.cells.toList = [v] := fun v h => by
    cases v with
    | agg xs => cases h
    | _ => rfl
  rw [key v h3] at h4
  exact h4
/-- On its way out a function takes up the marks of its loops. -/
theorem leave_marks {fn : Func} {tmps : Array Value} {R : Ending → World → Prop} {v : Value} : ∀ (Ds : List Nat) (W : World), (∀ D ∈ Ds, W.heap[D]? = some (.deferred (some []))) → Ds.Nodup →
    (∀ W' : World, (∀ (r : Nat) (c : Array Value) (e : TypeId) (z : Nat × Nat), W.heap[r]? = some (Obj.cells c e z) → W'.heap[r]? = W.heap[r]?) → W'.os = W.os → W'.tape = W.tape → W'.output = W.output → W'.heap.size = W.heap.size → (∀ r, r ∉ Ds → W'.heap[r]? = W.heap[r]?) → (results fn tmps).run Tryz.prog W' = .ok v W' ∧ R (.returned v) W') →
    LeavesInM Fence.wide 3 Tryz.prog fn tmps R (Ds.map mark) .returning W
  | [], W, _, _, h => by
    obtain ⟨h1, h2⟩ := h W (fun _ _ _ _ _ => rfl) rfl rfl rfl rfl (fun _ _ => rfl)
    exact ⟨v, h1, h2⟩
  | D :: Ds, W, hD, hn, h => by
    have hd := hD D (List.mem_cons_self ..)
    have hsz : (W.putObj D (.deferred none)).heap.size = W.heap.size := by simp [World.putObj]
    have other : ∀ r, r ≠ D → (W.putObj D (.deferred none)).heap[r]? = W.heap[r]? := fun r hr => by
      simp only [World.putObj]
      rw [Array.getElem?_setIfInBounds_ne (fun e => hr e.symm)]
    rw [List.nodup_cons] at hn
    refine ⟨by simp, .inl ⟨D, W.putObj D (.deferred none), rfl, run_takeDeferred hd, ?_⟩⟩
    refine leave_marks Ds _ (fun E hE => by rw [other E (fun e => hn.1 (e ▸ hE))]; exact hD E (List.mem_cons_of_mem _ hE)) hn.2 (fun W' h1 h2 h3 h4 h5 h6 => h W' (fun r c e z hr => ?_) h2 h3 h4 (h5.trans hsz) (fun r hr => ?_))
    · have hne : r ≠ D := fun e' => by subst e'; rw [hd] at hr; cases hr
      rw [h1 r c e z (by rw [other r hne]; exact hr), other r hne]
    · rw [h6 r (fun h => hr (List.mem_cons_of_mem _ h)), other r (fun e => hr (e ▸ List.mem_cons_self ..))]
end
theorem Keep.mono {V V' : Nat → Prop} {a b : World} (h : ∀ r, V r → V' r) (k : Keep V a b) : Keep V' a b := ⟨k.os, k.tape, k.output, k.size, fun r hr hn => k.block r hr (fun hv => hn (h r hv))⟩
end Go.Proofs.YtkihjakbbcajbaaGreat.PM
namespace Go.Proofs.YtkihjakbbcajbaaGreat.PM
set_option linter.unusedSimpArgs false
set_option linter.unusedVariables false
open Go Go.Proofs Go.Proofs.YtkihjakbbcajbaaGreat.Kd
theorem fhb : Tryz.f128.body = some part_Check.b := rfl
theorem fwf : wfC Tryz.f128.ntmps part_Check.b = true := by kernel_rfl
theorem fres : resOk Tryz.prog part_Check.sg.rs Tryz.f128.results.toList = true := by kernel_rfl
theorem fct : wfI 104 [.code ct] = true := by kernel_rfl
theorem T_def (p : t7.den) (n : Int) (s : List t0.den) : part_Check.T p n s = res part_Check.c [.code ct] (part_Check.ST p n s) := by kernel_rfl
theorem ST_tm (p : t7.den) (n : Int) (s : List t0.den) : (part_Check.ST p n s).tm = tmP p := by kernel_rfl
theorem ST_hp (p : t7.den) (n : Int) (s : List t0.den) : (part_Check.ST p n s).hp = hpL (bx2 0 0 n s) := by kernel_rfl
theorem ST_io (p : t7.den) (n : Int) (s : List t0.den) : (part_Check.ST p n s).io = [] := by kernel_rfl
theorem fin_ret (p : t7.den) (n : Int) (s : List t0.den) (ff : List It → St → Option (Int × Unit)) : (part_Check.c.fin (part_Check.ST p n s)).ev ff = some (n, ()) := by kernel_rfl
def outP (R : Ending → World → Prop) : Exit → Act → World → Prop := fun e a w => (e = .normal ∨ e = .ret) ∧ LeavesInM Fence.wide 3 Tryz.prog Tryz.f128 a.tmps R a.defers .returning w
section
variable {A A0 : Nat → Prop} {w w0 : World} {b1 b2 b3 : Nat} {c1 : List Value} {p : t7.den} {n : Int} {s : List t0.den} {vs : List Value}
theorem box_at {B : Bs} {g : Gh} {A' : Nat → Prop} {a : Act} {W' : World} {tm : List (Nat × PV)} {h : Hp} {io : List PV} (R : RS B g A' a W' tm h io) {id t : Nat} {X : PV} (hq : h.at id = some (.box X)) (ht : look t tm = some (.ptr id [])) :
    ∃ sl b c e, a.tmps.getD t undef = .pointer (some ⟨b, 0, none⟩) ∧ g id = some sl ∧ sl.blk = some b ∧ W'.heap[b]? = some (.cells c e (0, 0)) ∧ X.rel g A' W' c.toList ∧ ¬ A' b ∧ B.W b := by
  obtain ⟨s, b, c, e, h1, h2, h3, h4⟩ := R.hr.blk id _ hq
  obtain ⟨s2, b2, k1, k2, k3, _⟩ := rel_ptr (R.tms t _ ht).2
  rw [h1] at k1; injection k1 with k1; subst k1
  rw [h2] at k2; injection k2 with k2; subst k2
  obtain ⟨o1, o2⟩ := R.hr.own id _ s b hq rfl h1 h2
  exact ⟨s, b, c, e, k3, h1, h2, h3, h4, o1, o2⟩
/-- What the function answers from its tail, or from a round of a loop. -/
theorem fin_marks {B : Bs} {g : Gh} {A' : Nat → Prop} {a : Act} {w' : World} {st : St} (R : RS B g A' a w' st.tm st.hp st.io) (hsl : B.sl = []) {ff : List It → St → Option (Int × Unit)} {y : Int × Unit} (e : (part_Check.c.fin st).ev ff = some y) {Ds : List Nat} (hdf : B.df = Ds.map mark) (hn : Ds.Nodup) (hD : ∀ D ∈ Ds, w'.heap[D]? = some (.deferred (some [])) ∧ w0.heap.size ≤ D)
    {v0 : Value} (hv : vs = [v0]) (hA : ∀ r, A0 r → r < w0.heap.size) (hk : Keep (fun r => w0.heap.size ≤ r ∨ r ∈ ([] : List Nat)) w0 w') : LeavesInM Fence.wide 3 Tryz.prog Tryz.f128 a.tmps (Done part_Check.Fn A0 w0 vs [] y) a.defers .returning w' := by
  obtain ⟨z, ws', rs', k1, k2⟩ := toD_evT _ _ _ _ _ e
  have k1 := OkT_Ok _ _ _ _ _ k1
  simp only [DT.ev] at k2
  injection k2 with k2
  subst k2
  have hio := R.io
  rw [hsl] at hio
  obtain ⟨A2, bs2, zs, G, o1, o2⟩ := outs_ok (P := Tryz.prog) (a := a) (st := st) (fun t x e => (R.tms t x e).2) fres part_Check.sg.ps st.io vs [] A' st.hp z _ (fun _ h => h) R.hr hio (by subst hv; rfl) k1
  have hz := out_int o1
  subst hz
  rw [R.defs, hdf]
  refine leave_marks Ds w' (fun D h => (hD D h).1) hn (fun W h1 h2 h3 h4 h5 h6 => ⟨results_run (resAll_turn h1 _ _ o2), ?_⟩)
  refine done_int hA v0 hv ⟨h2.trans hk.os, h3.trans hk.tape, h4.trans hk.output, ?_, fun r hr hn => ?_⟩ z.1
  · rw [h5]; exact hk.size
  · rw [h6 r (fun h => by have := (hD r h).2; omega)]; exact hk.block r hr hn
/-- The tail. -/
theorem tail_ok (G : Ground A w b1 b2 b3 c1 p) (I : Inv A w b2 b3 n s w) {a : Act} (hp : Pts b1 b2 b3 a) {Ds : List Nat} (hdf : a.defers = Ds.map mark) (hn : Ds.Nodup) (hD : ∀ D ∈ Ds, w.heap[D]? = some (.deferred (some [])) ∧ w0.heap.size ≤ D)
    {v0 : Value} (hv : vs = [v0]) (hA : ∀ r, A0 r → r < w0.heap.size) (hk : Keep (fun r => w0.heap.size ≤ r ∨ r ∈ ([] : List Nat)) w0 w) (n2 : w0.heap.size ≤ b2) (n3 : w0.heap.size ≤ b3) {y : Int × Unit} (hT : part_Check.T p n s = some y) :
    ct.wpIn Fence.wide 3 Tryz.prog (outP (Done part_Check.Fn A0 w0 vs [] y)) a w := by
  have R0 := boxes_RS0 (nt := 104) (a := a) (tm := tmP p) I.bx G.gl hp.1 (tmP_ok G (.refl _ w) hp gL2_1 gL2_2)
  have R : RS (BL0 G.gl (bx2 b2 b3 n s) 104 a.defers) (gL (bx2 b2 b3 n s)) A a w (part_Check.ST p n s).tm (part_Check.ST p n s).hp (part_Check.ST p n s).io := by
    rw [ST_tm, ST_hp, ST_io]; exact R0
  rw [T_def] at hT
  have hw : ∀ {g : Gh} {A' : Nat → Prop} {a' : Act} {w' : World} {tm : List (Nat × PV)} {h : Hp} {io : List PV}, RS (BL0 G.gl (bx2 b2 b3 n s) 104 a.defers) g A' a' w' tm h io → Keep (fun r => w0.heap.size ≤ r ∨ r ∈ ([] : List Nat)) w0 w' ∧ ∀ D ∈ Ds, w'.heap[D]? = some (.deferred (some [])) ∧ w0.heap.size ≤ D := fun {g A' a' w' tm h io} R' => by
    have hk' := R'.keep
    have hW : ∀ r, r < w.heap.size → r ≠ b2 → r ≠ b3 → w'.heap[r]? = w.heap[r]? := fun r hr h2 h3 => hk'.block r hr (fun hx => by
      rcases hx with hx | ⟨q, hq, rfl⟩
      · have : w.heap.size ≤ r := hx
        omega
      · unfold bx2 at hq
        simp only [List.mem_cons, List.not_mem_nil, or_false] at hq
        rcases hq with rfl | rfl
        · exact h2 rfl
        · exact h3 rfl)
    refine ⟨⟨hk'.os.trans hk.os, hk'.tape.trans hk.tape, hk'.output.trans hk.output, Nat.le_trans hk.size hk'.size, fun r hr hn => ?_⟩, fun D hDs => ?_⟩
    · rw [hW r (Nat.lt_of_lt_of_le hr hk.size) (by omega) (by omega)]; exact hk.block r hr hn
    · obtain ⟨h1, h2⟩ := hD D hDs
      have cell : ∀ q ∈ bx2 b2 b3 n s, q.b ≠ D := fun q hq e => by
        obtain ⟨c, e', h3, _⟩ := I.bx.cell q hq
        rw [e, h1] at h3; cases h3
      refine ⟨?_, h2⟩
      rw [hW D (heap_lt h1) (fun e => cell ⟨1, b2, .int .i64, n⟩ (List.mem_cons_self ..) e.symm) (fun e => cell ⟨2, b3, .arr 3 t0, s⟩ (List.mem_cons_of_mem _ (List.mem_cons_self ..)) e.symm)]
      exact h1
  have fin : ∀ (ff : List It → St → Option (Int × Unit)) (st : St) (r : Int × Unit), (part_Check.c.fin st).ev ff = some r → ∀ g A' a' w', RS (BL0 G.gl (bx2 b2 b3 n s) 104 a.defers) g A' a' w' st.tm st.hp st.io → LeavesInM Fence.wide 3 Tryz.prog Tryz.f128 a'.tmps (Done part_Check.Fn A0 w0 vs [] r) a'.defers .returning w' := fun ff st r e g A' a' w' R' =>
    fin_marks R' rfl e hdf hn (hw R').2 hv hA (hw R').1
  refine wpIn_wide.2 (fun b k cs => ?_)
  obtain ⟨ex, a', w', hex, harr⟩ := res_ok (B := BL0 G.gl (bx2 b2 b3 n s) 104 a.defers) (Post := fun r _ a' w' => LeavesInM Fence.wide 3 Tryz.prog Tryz.f128 a'.tmps (Done part_Check.Fn A0 w0 vs [] r) a'.defers .returning w') part_Check.envOk rfl mixOk (C := part_Check.c) rfl ntmps fin fin b k cs hT R fct
  refine ⟨ex, a', w', ?_, harr⟩
  rcases hex with ⟨rfl, h⟩ | ⟨rfl, h⟩
  · exact ⟨.inl rfl, h⟩
  · exact ⟨.inr rfl, h⟩
end
end Go.Proofs.YtkihjakbbcajbaaGreat.PM
namespace Go.Proofs.YtkihjakbbcajbaaGreat.PM
set_option linter.unusedSimpArgs false
set_option linter.unusedVariables false
open Go Go.Proofs Go.Proofs.YtkihjakbbcajbaaGreat.Kd
section
variable {A A0 : Nat → Prop} {w w0 : World} {b1 b2 b3 : Nat} {c1 : List Value} {p : t7.den} {n : Int} {s : List t0.den} {vs : List Value}
theorem at_new (w : World) (o : Obj) : (w.alloc o).heap[w.heap.size]? = some o := by
  show (w.heap.push o)[w.heap.size]? = some o
  simp
/-- A loop was left by a return. -/
theorem left_ok {w' : World} (G : Ground A w b1 b2 b3 c1 p) (I : Inv A w b2 b3 8 s w') {a : Act} (hp : Pts b1 b2 b3 a) {Ds : List Nat} (hdf : a.defers = Ds.map mark) (hn : Ds.Nodup) (hD : ∀ D ∈ Ds, w'.heap[D]? = some (.deferred (some [])) ∧ w0.heap.size ≤ D)
    {v0 : Value} (hv : vs = [v0]) (hA : ∀ r, A0 r → r < w0.heap.size) (hk : Keep (fun r => w0.heap.size ≤ r ∨ r ∈ ([] : List Nat)) w0 w') :
    LeavesInM Fence.wide 3 Tryz.prog Tryz.f128 a.tmps (Done part_Check.Fn A0 w0 vs [] (8, ())) a.defers .returning w' := by
  obtain ⟨G', I'⟩ := G.next I ⟨rfl, rfl, rfl, Nat.le_refl _, fun _ _ => rfl⟩
  have R0 := boxes_RS0 (nt := 104) (a := a) (tm := tmP p) I'.bx G'.gl hp.1 (tmP_ok G' (.refl _ w') hp gL2_1 gL2_2)
  have R : RS (BL0 G'.gl (bx2 b2 b3 8 s) 104 a.defers) (gL (bx2 b2 b3 8 s)) A a w' (part_Check.ST p 8 s).tm (part_Check.ST p 8 s).hp (part_Check.ST p 8 s).io := by
    rw [ST_tm, ST_hp, ST_io]; exact R0
  exact fin_marks R rfl (fin_ret p 8 s (fun _ _ => none)) hdf hn hD hv hA hk
theorem keep_on {W W' : World} (n2 : w0.heap.size ≤ b2) (n3 : w0.heap.size ≤ b3) (hk : Keep (fun r => w0.heap.size ≤ r ∨ r ∈ ([] : List Nat)) w0 W) (k : Keep (Wb W b2 b3) W W') : Keep (fun r => w0.heap.size ≤ r ∨ r ∈ ([] : List Nat)) w0 W' :=
  hk.trans (Keep.mono (fun r h => by
    have := hk.size
    rcases h with h | rfl | rfl
    · exact .inl (by omega)
    · exact .inl n2
    · exact .inl n3) k)
theorem mark_on {W W' : World} {D : Nat} {m : Int} {s' : List t0.den} (I : Inv A W b2 b3 m s' W) (h : W.heap[D]? = some (.deferred (some []))) (k : Keep (Wb W b2 b3) W W') : W'.heap[D]? = some (.deferred (some [])) := by
  have cell : ∀ q ∈ bx2 b2 b3 m s', q.b ≠ D := fun q hq e => by
    obtain ⟨c, e', h3, _⟩ := I.bx.cell q hq
    rw [e, h] at h3; cases h3
  rw [k.block D (heap_lt h) (fun hx => ?_)]
  · exact h
  · rcases hx with hx | hx | hx
    · have := heap_lt h; omega
    · exact cell ⟨1, b2, .int .i64, m⟩ (List.mem_cons_self ..) hx.symm
    · exact cell ⟨2, b3, .arr 3 t0, s'⟩ (List.mem_cons_of_mem _ (List.mem_cons_self ..)) hx.symm
/-- All from the loops on. -/
theorem loops_ok (G : Ground A w b1 b2 b3 c1 p) (I : Inv A w b2 b3 0 (same0 p) w) {a : Act} (hp : Pts b1 b2 b3 a) (hdf : a.defers = [])
    {v0 : Value} (hv : vs = [v0]) (hA : ∀ r, A0 r → r < w0.heap.size) (hk : Keep (fun r => w0.heap.size ≤ r ∨ r ∈ ([] : List Nat)) w0 w) (n2 : w0.heap.size ≤ b2) (n3 : w0.heap.size ≤ b3) {y : Int × Unit} (hy : part_Check.Rest p = some y) :
    (Code.seq (.seq (.region 4 r4 false) (.block 0 (.rangeFunc (.tmp 49) #[50, 51] (rfAsg rf1) bd1))) (.seq (.seq (.region 9 r9 false) (.block 2 (.rangeFunc (.tmp 60) #[61, 62] (rfAsg rf2) bd2))) ct)).wpIn Fence.wide 3 Tryz.prog (outP (Done part_Check.Fn A0 w0 vs [] y)) a w := by
  unfold part_Check.Rest at hy
  cases hx : tItems p.2.2.2.1 with
  | none => rw [hx] at hy; cases hy
  | some xs =>
  rw [hx, Option.bind_some] at hy
  refine wpIn_seq (wpIn_seq ?_)
  refine make1_ok G I hp (fun a1 cs1 W1 hp1 hd1 hg1 hW1 hT1 => ?_)
  have gr1 : Grew w W1 := by rw [hW1]; exact Grew.alloc w _
  obtain ⟨G1, I1⟩ := G.next I gr1
  have k1 : Keep (fun r => w0.heap.size ≤ r ∨ r ∈ ([] : List Nat)) w0 W1 := keep_on n2 n3 hk (by
    subst hW1
    exact ⟨rfl, rfl, rfl, gr1.size, fun r hr _ => gr1.block r hr⟩)
  have at1 : W1.heap[w.heap.size]? = some (.cells cs1 64 (0, 0)) := by rw [hW1]; exact at_new w _
  have b2w := G.lt2
  have b3w := G.lt3
  refine wpIn_block ?_
  refine loop1_ok G1 I1 hp1 hg1 at1 (by omega) (by omega) hT1 hx (fun D1 W2 s1 hD1 hgo1 I2 hm1 => ?_) (fun D1 W2 s1 hD1 hgo1 I2 hm1 => ?_)
  · rw [hgo1] at hy
    have hy : ((tItems p.2.2.2.2.1).bind fun ys => match goR (st2 p) ys s1 with
      | none => some (8, ())
      | some s2 => part_Check.T p 0 s2) = some y := hy
    cases hx2 : tItems p.2.2.2.2.1 with
    | none => rw [hx2] at hy; cases hy
    | some ys =>
    rw [hx2, Option.bind_some] at hy
    refine wpIn_seq (wpIn_seq ?_)
    have k2 := keep_on n2 n3 k1 I2.keep
    obtain ⟨G2, I2'⟩ := G1.next I2 ⟨rfl, rfl, rfl, Nat.le_refl _, fun _ _ => rfl⟩
    have hp2 : Pts b1 b2 b3 { a1 with defers := mark D1 :: a1.defers } := hp1
    refine make2_ok G2 I2' hp2 (fun a3 cs3 W3 hp3 hd3 hg3 hW3 hT3 => ?_)
    have gr3 : Grew W2 W3 := by rw [hW3]; exact Grew.alloc W2 _
    obtain ⟨G3, I3⟩ := G2.next I2' gr3
    have k3 : Keep (fun r => w0.heap.size ≤ r ∨ r ∈ ([] : List Nat)) w0 W3 := keep_on n2 n3 k2 (by
      subst hW3
      exact ⟨rfl, rfl, rfl, gr3.size, fun r hr _ => gr3.block r hr⟩)
    have at3 : W3.heap[W2.heap.size]? = some (.cells cs3 64 (0, 0)) := by rw [hW3]; exact at_new W2 _
    have b2w2 := G2.lt2
    have b3w2 := G2.lt3
    have hm3 : W3.heap[D1]? = some (.deferred (some [])) := by rw [gr3.block D1 (heap_lt hm1)]; exact hm1
    have hw01 := k1.size
    refine wpIn_block ?_
    refine loop2_ok G3 I3 hp3 hg3 at3 (by omega) (by omega) hT3 hx2 (fun D2 W4 s2 hD2 hgo2 I4 hm4 => ?_) (fun D2 W4 s2 hD2 hgo2 I4 hm4 => ?_)
    · rw [hgo2] at hy
      have hy : part_Check.T p 0 s2 = some y := hy
      have k4 := keep_on n2 n3 k3 I4.keep
      obtain ⟨G4, I4'⟩ := G3.next I4 ⟨rfl, rfl, rfl, Nat.le_refl _, fun _ _ => rfl⟩
      have hlt := heap_lt hm3
      refine tail_ok G4 I4' (a := { a3 with defers := mark D2 :: a3.defers }) (Ds := [D2, D1]) hp3 ?_ ?_ ?_ hv hA k4 n2 n3 hy
      · show mark D2 :: a3.defers = [mark D2, mark D1]
        rw [hd3]
        show mark D2 :: mark D1 :: a1.defers = _
        rw [hd1, hdf]
      · simp; omega
      · intro D hD
        simp only [List.mem_cons, List.not_mem_nil, or_false] at hD
        rcases hD with rfl | rfl
        · exact ⟨hm4, Nat.le_trans k3.size hD2⟩
        · exact ⟨mark_on I3 hm3 I4.keep, Nat.le_trans hw01 hD1⟩
    · rw [hgo2] at hy
      have hy : some ((8 : Int), ()) = some y := hy
      injection hy with hy
      subst hy
      have k4 := keep_on n2 n3 k3 I4.keep
      have hlt := heap_lt hm3
      refine ⟨.inr rfl, ?_⟩
      refine left_ok G3 I4 (a := { a3 with defers := mark D2 :: a3.defers }) (Ds := [D2, D1]) hp3 ?_ ?_ ?_ hv hA k4
      · show mark D2 :: a3.defers = [mark D2, mark D1]
        rw [hd3]
        show mark D2 :: mark D1 :: a1.defers = _
        rw [hd1, hdf]
      · simp; omega
      · intro D hD
        simp only [List.mem_cons, List.not_mem_nil, or_false] at hD
        rcases hD with rfl | rfl
        · exact ⟨hm4, Nat.le_trans k3.size hD2⟩
        · exact ⟨mark_on I3 hm3 I4.keep, Nat.le_trans hw01 hD1⟩
  · rw [hgo1] at hy
    have hy : some ((8 : Int), ()) = some y := hy
    injection hy with hy
    subst hy
    have k2 := keep_on n2 n3 k1 I2.keep
    refine ⟨.inr rfl, ?_⟩
    refine left_ok G1 I2 (a := { a1 with defers := mark D1 :: a1.defers }) (Ds := [D1]) hp1 ?_ (by simp) ?_ hv hA k2
    · show mark D1 :: a1.defers = [mark D1]
      rw [hd1, hdf]
    · intro D hD
      simp only [List.mem_cons, List.not_mem_nil, or_false] at hD
      subst hD
      exact ⟨hm1, Nat.le_trans k1.size hD1⟩
end
end Go.Proofs.YtkihjakbbcajbaaGreat.PM
namespace Go.Proofs.YtkihjakbbcajbaaGreat.PM
set_option linter.unusedSimpArgs false
set_option linter.unusedVariables false
open Go Go.Proofs Go.Proofs.YtkihjakbbcajbaaGreat.Kd
noncomputable def k1 : Code := .seq (.region 3 r3.toArray false) (.seq (.seq (.region 4 r4 false) (.block 0 (.rangeFunc (.tmp 49) #[50, 51] (rfAsg rf1) bd1))) (.seq (.seq (.region 9 r9 false) (.block 2 (.rangeFunc (.tmp 60) #[61, 62] (rfAsg rf2) bd2))) ct))
theorem t7_flatV (p : t7.den) : flatV t7 (mk t7 p) = some p := by kernel_rfl
theorem arr_flatV (s : List t0.den) : flatV (.arr 3 t0) (.v (.arr 3 t0) s) = some s := by kernel_rfl
theorem int_flatV (n : Int) : flatV (.int .i64) (.v (.int .i64) n) = some n := by kernel_rfl
section
variable {A0 : Nat → Prop} {w0 : World} {vs : List Value}
/-- From the join ahead of the loops on. -/
theorem join_ok {B : Bs} (hW : ∀ r, B.W r → w0.heap.size ≤ r ∨ r ∈ ([] : List Nat)) (hW' : ∀ r, w0.heap.size ≤ r ∨ r ∈ ([] : List Nat) → B.W r) (hw : B.w0 = w0) (hnt : B.nt = 104) (hgl : globs = B.gl) (hdf : B.df = []) {p : t7.den} {g : Gh} {A : Nat → Prop} {a : Act} {w : World} (R : RS B g A a w (s1P p).tm (s1P p).hp (s1P p).io)
    {v0 : Value} (hv : vs = [v0]) (hA : ∀ r, A0 r → r < w0.heap.size) {y : Int × Unit} (hy : part_Check.Rest p = some y) :
    k1.wpIn Fence.wide 3 Tryz.prog (outP (Done part_Check.Fn A0 w0 vs [] y)) a w := by
  refine wpIn_seq (regionIn_ok (r := none) part_Check.envOk hgl (evR_some (q3_ok p)) (by rw [hnt]; kernel_rfl) (by kernel_rfl) R (fun g A a w R _ => ?_))
  obtain ⟨sl1, b1, c1, e1, p1, g1, k1, h1, r1, o1, w1⟩ := box_at R (q3_h0 p) (q3_t1 p)
  obtain ⟨sl2, b2, c2, e2, p2, g2, k2, h2, r2, o2, w2⟩ := box_at R (q3_h1 p) (q3_t2 p)
  obtain ⟨sl3, b3, c3, e3, p3, g3, k3, h3, r3, o3, w3⟩ := box_at R (q3_h2 p) (q3_t3 p)
  have n12 : b1 ≠ b2 := fun e => absurd (R.hr.inj 0 1 _ _ _ _ b1 (q3_h0 p) (q3_h1 p) rfl rfl g1 g2 k1 (by rw [k2, e])) (by decide)
  have n13 : b1 ≠ b3 := fun e => absurd (R.hr.inj 0 1640 _ _ _ _ b1 (q3_h0 p) (q3_h2 p) rfl rfl g1 g3 k1 (by rw [k3, e])) (by decide)
  have n23 : b2 ≠ b3 := fun e => absurd (R.hr.inj 1 1640 _ _ _ _ b2 (q3_h1 p) (q3_h2 p) rfl rfl g2 g3 k2 (by rw [k3, e])) (by decide)
  have low : ∀ r, B.W r → w0.heap.size ≤ r := fun r h => (hW r h).elim id (fun h => by cases h)
  have lt1 : ∀ r, (A r ∨ r = b1) → r < w.heap.size := fun r h => by
    rcases h with h | rfl
    · exact R.hr.lt r h
    · exact heap_lt h1
  have G : Ground (fun r => A r ∨ r = b1) w b1 b2 b3 c1.toList p := {
    gl := by rw [hgl]; exact R.glob.mono (fun _ h => .inl h) (fun _ _ => rfl)
    lt := lt1
    hb1 := .inr rfl
    at1 := At_block h1 (fun j v h => by rw [Nat.zero_add]; simpa using h)
    rel := TRel.mono (fun _ h => .inl h) (fun _ _ => rfl) _ _ _ (flatV_rel _ _ _ _ r1 (t7_flatV p))
    n2 := fun h => h.elim o2 (fun e => n12 e.symm)
    n3 := fun h => h.elim o3 (fun e => n13 e.symm)
    lt2 := heap_lt h2
    lt3 := heap_lt h3 }
  have I : Inv (fun r => A r ∨ r = b1) w b2 b3 0 (same0 p) w := {
    bx := {
      cell := fun q hq => by
        unfold bx2 at hq
        simp only [List.mem_cons, List.not_mem_nil, or_false] at hq
        rcases hq with rfl | rfl
        · exact ⟨c2, e2, h2, TRel.flat _ _ _ (by kernel_rfl) (flatV_rel _ _ _ _ r2 (int_flatV 0))⟩
        · exact ⟨c3, e3, h3, TRel.flat _ _ _ (by kernel_rfl) (flatV_rel _ _ _ _ r3 (arr_flatV _))⟩
      out := fun q hq => by
        unfold bx2 at hq
        simp only [List.mem_cons, List.not_mem_nil, or_false] at hq
        rcases hq with rfl | rfl
        · exact fun h => h.elim o2 (fun e => n12 e.symm)
        · exact fun h => h.elim o3 (fun e => n13 e.symm)
      ids := by unfold bx2; simp
      bs := by unfold bx2; simp [n23]
      lt := lt1 }
    keep := .refl _ w }
  have hk := R.keep
  rw [hw] at hk
  exact loops_ok G I ⟨R.size.trans hnt, p1, p2, p3⟩ (R.defs.trans hdf) hv hA (hk.mono hW) (low b2 w2) (low b3 w3) hy
end
theorem put_first (v : Value) (n : Nat) : (#[v] ++ Array.replicate n undef).getD 0 undef = v := by
  simp [Array.getD]
theorem part_Check.spec : FnSpec Tryz.prog globs 128 part_Check.Fn := by
  have hE := part_Check.envOk
  refine ⟨fun args w => by simp [callFunc, run_program, Tryz.func128, show (Tryz.f128.name ≠ "runtime.NumGoroutine") by decide, fhb], fun w A vs (x : t7.den × Unit) bs y hgok hargs hnd hbs hA hF => ?_⟩
  obtain ⟨v0, us, hv, _, h0⟩ : ∃ v us, vs = v :: us ∧ TRel A w t7 v.cells.toList x.1 ∧ us = [] ∧ bs = [] := by
    obtain ⟨v, us, h1, h2, h3⟩ := hargs
    exact ⟨v, us, h1, h2.2.1, h3⟩
  obtain ⟨rfl, rfl⟩ := h0
  let f2 : List It → St → Option (Int × Unit) := fun its st => open Classical in if its = atJoin part_Check.b [1, 0, 1] ∧ st = s1P x.1 then part_Check.Rest x.1 else none
  have hF : (entry part_Check.E part_Check.sg Tryz.f128 (x.1, ())).ev f2 = some y := by
    have h1 : (entry part_Check.E part_Check.sg Tryz.f128 (x.1, ())).ev (fun _ _ => part_Check.Rest x.1) = some y := hF
    have h2 : f2 (atJoin part_Check.b [1, 0, 1]) (s1P x.1) = part_Check.Rest x.1 := if_pos ⟨rfl, rfl⟩
    rw [part_Check.entry_eq] at h1 ⊢
    unfold s1P at h2
    rw [h2]
    exact h1
  unfold entry at hF
  obtain ⟨q, ws, rs, h1, h2⟩ := toD_evT _ _ _ _ _ hF
  have h1 := OkT_Ok _ _ _ _ _ h1
  have H0 : HR (fun _ => none) A (fun r => w.heap.size ≤ r ∨ r ∈ ([] : List Nat)) w [] :=
    { blk := fun i b e => (nomatch (show (none : Option Blk) = some b from e)), own := fun i b s r e => (nomatch (show (none : Option Blk) = some b from e)), inj := fun i j b c s s' r e => (nomatch (show (none : Option Blk) = some b from e)), dfn := fun i s e => (nomatch (show (none : Option Slot) = some s from e)), lt := hA }
  obtain ⟨g', ss, _, H, r1, r2, r3⟩ := start_ok part_Check.sg.ps _ _ vs x [] 0 0 q _ H0 hargs hnd (fun r hr => ⟨(hbs r hr).1, .inr hr, fun i b s e => (nomatch (show (none : Option Blk) = some b from e))⟩) h1
  let B : Bs := ⟨A, fun r => w.heap.size ≤ r ∨ r ∈ ([] : List Nat), w, Tryz.f128.ntmps, ss, fun r hr => .inl hr, part_Check.E.globs, hgok, []⟩
  have R : RS B g' A { tmps := #[v0] ++ Array.replicate (Tryz.f128.ntmps - (#[v0] : Array Value).size) undef, defers := [] } w q.1 (ws ++ []) q.2.1 := by
    refine ⟨by simp [B, ntmps], rfl, fun t z hz => ?_, H, fun _ h => h, fun _ h => .inl h, fun _ _ => rfl, .refl _ w, r2⟩
    obtain ⟨j, v, h3, h4, h5⟩ := r1 t z hz
    have hj : j < 1 := by
      by_cases h : j < 1
      · exact h
      · rw [hv, List.getElem?_eq_none (by simp; omega)] at h4; cases h4
    obtain rfl : j = 0 := by omega
    obtain rfl : t = 0 := by omega
    rw [hv] at h4
    injection h4 with h4
    subst h4
    refine ⟨by show 0 < Tryz.f128.ntmps; rw [ntmps]; decide, ?_⟩
    show VRel g' A w z ((#[v0] ++ Array.replicate _ undef).getD 0 undef)
    rw [put_first]
    exact h5
  have hbody : body Tryz.f128 = part_Check.b := rfl
  rw [hbody] at h2
  have fin : ∀ (ff : List It → St → Option (Int × Unit)) (st : St) (r : Int × Unit), (part_Check.c.fin st).ev ff = some r → ∀ g A' a w', RS B g A' a w' st.tm st.hp st.io → LeavesInM Fence.wide 3 Tryz.prog Tryz.f128 a.tmps (Done part_Check.Fn A w vs [] r) a.defers .returning w' := fun ff st r e g A' a w' R' =>
    fin_marks (Ds := []) R' r3 e rfl (by simp) (fun D h => by cases h) hv hA R'.keep
  refine callsIn_wide.1 (callsIn_of_wp_marks (F := Fence.wide) (n := 3) Tryz.func128 fhb trivial (wpIn_wide.2 fun b k cs => ?_))
  obtain ⟨ex, a', w', hex, harr⟩ := seg_ok (B := B) (f := f2) hE rfl mixOk (C := part_Check.c) rfl rfl (Post := fun r _ a w' => LeavesInM Fence.wide 3 Tryz.prog Tryz.f128 a.tmps (Done part_Check.Fn A w vs [] r) a.defers .returning w') (fin _) (fin _) b k cs (fun its st r e g A' a w' R' hw => by
    by_cases hc : its = atJoin part_Check.b [1, 0, 1] ∧ st = s1P x.1
    · obtain ⟨rfl, rfl⟩ := hc
      have e : part_Check.Rest x.1 = some r := by
        have : f2 (atJoin part_Check.b [1, 0, 1]) (s1P x.1) = part_Check.Rest x.1 := if_pos ⟨rfl, rfl⟩
        rw [← this]; exact e
      rw [show atJoin part_Check.b [1, 0, 1] = [.code k1] from k1_eq]
      obtain ⟨ex, a1, w1, h1, h2⟩ := wpIn_wide.1 (join_ok (B := B) (fun _ h => h) (fun _ h => h) rfl ntmps rfl rfl R' hv hA e) b k cs
      refine ⟨ex, a1, w1, ?_, h2⟩
      obtain ⟨h0 | h0, h1⟩ := h1
      · exact .inl ⟨h0, h1⟩
      · exact .inr ⟨h0, h1⟩
    · have : f2 its st = none := if_neg hc
      rw [this] at e; cases e) 100000 [.code part_Check.b] _ y h2 g' A _ w R (by show (wfC Tryz.f128.ntmps part_Check.b && true) = true; rw [fwf]; rfl)
  refine ⟨ex, a', w', ?_, by rw [hv]; exact harr⟩
  rcases hex with ⟨rfl, h⟩ | ⟨rfl, h⟩
  · exact h
  · exact h
end Go.Proofs.YtkihjakbbcajbaaGreat.PM
namespace Go.Proofs.YtkihjakbbcajbaaGreat.PM
open Go Go.Proofs
set_option linter.unusedVariables false
theorem part_Check.F_eq (p : t7.den) : part_Check.F p =
  bif (decide ((p.1 : Int) ≥ 16)) then
    some (8, ())
  else
    (part_valid.F p.2.1).bind fun r0 =>
    bif (!r0.1) then
      some (8, ())
    else
      (bucket_Check.F p.2.2.1).bind fun r1 =>
      bif (r1.1 != 0) then
        some (8, ())
      else
        (table_Check.F p.2.2.2.1).bind fun r2 =>
        bif (r2.1 != 0) then
          some (8, ())
        else
          (table_Check.F p.2.2.2.2.1).bind fun r3 =>
          bif (r3.1 != 0) then
            some (8, ())
          else
            part_Check.Rest p := part_Check.entry_eq p _
end Go.Proofs.YtkihjakbbcajbaaGreat.PM
