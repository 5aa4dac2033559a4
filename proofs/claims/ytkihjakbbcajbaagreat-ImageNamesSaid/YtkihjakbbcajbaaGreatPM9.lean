/- One operation of the pure machine, and that the real one does the same: literals, make, slices, append, copy. -/
import Derived.Test.YtkihjakbbcajbaaGreatPM8
namespace Go.Proofs.YtkihjakbbcajbaaGreat.PM
set_option linter.unusedSimpArgs false
set_option linter.unusedVariables false
open Go

structure Grew (w w' : World) : Prop where
  os : w'.os = w.os
  tape : w'.tape = w.tape
  output : w'.output = w.output
  size : w.heap.size ≤ w'.heap.size
  block : ∀ r, r < w.heap.size → w'.heap[r]? = w.heap[r]?
theorem Grew.alloc (w : World) (o : Obj) : Grew w (w.alloc o) := ⟨rfl, rfl, rfl, by simp, fun r hr => by
  show (w.heap.push o)[r]? = _
  rw [Array.getElem?_push, if_neg (by omega)]⟩
theorem Grew.trans {a b c : World} (h : Grew a b) (k : Grew b c) : Grew a c :=
  ⟨k.os.trans h.os, k.tape.trans h.tape, k.output.trans h.output, Nat.le_trans h.size k.size, fun r hr => (k.block r (Nat.lt_of_lt_of_le hr h.size)).trans (h.block r hr)⟩
theorem Grew.drew (w : World) : Grew w w.drew := ⟨rfl, rfl, rfl, Nat.le_refl _, fun _ _ => rfl⟩
theorem alloc_new (w : World) (o : Obj) : (w.alloc o).heap[w.heap.size]? = some o := by
  show (w.heap.push o)[w.heap.size]? = _
  simp
section
variable {P : Program} {E : Env} {t : TypeId} {g : Gh} {A W : Nat → Prop} {w w' : World} {h : Hp}
theorem Grew.keep (G : Grew w w') : Keep W w w' := ⟨G.os, G.tape, G.output, G.size, fun r hr _ => G.block r hr⟩
theorem HR.grew (H : HR g A W w h) (G : Grew w w') : HR g A W w' h := H.move (fun r hr => G.block r (H.lt r hr)) (fun i b s r e hg hr => G.block r ((H.blk i b e).lt hg hr)) G.size
theorem HR.free (H : HR g A W w h) {r : Nat} (hr : w.heap.size ≤ r) : Free g h r := fun i b _ e _ hg hs => by
  have := (H.blk i b e).lt hg hs; omega
theorem Step.new (H : HR g A W w h) (G : Grew w w') {id : Nat} (hn : look id h = none) (hW : W w.heap.size) {s : Slot} {B : Blk} (hs : s.blk = some w.heap.size) (hB : BRel (upd g id s) A w' id B) : Step g A W w (upd g id s) A w' ((id, some B) :: h) := by
  have H' := H.grew G
  refine ⟨le_upd (H.gnone hn), fun _ h => h, fun _ h => .inl h, H'.add hn s hB (fun _ r hr => ?_), fun r hr => G.block r (H.lt r hr), G.keep⟩
  rw [hs] at hr; injection hr with hr; subst hr
  exact ⟨fun ha => Nat.lt_irrefl _ (H.lt _ ha), hW, H.free (Nat.le_refl _)⟩
theorem Step.grow (H : HR g A W w h) (G : Grew w w') : Step g A W w g A w' h :=
  ⟨Gh.le_refl g, fun _ h => h, fun _ h => .inl h, H.grew G, fun r hr => G.block r (H.lt r hr), G.keep⟩
theorem run_zero {τ : Ty} (hty : tyB P τ t = true) : ∃ i z, P.info? t = some i ∧ i.zero = some z ∧ i.size = τ.size ∧ i.bytes ≤ τ.bytes ∧ z.cells.toList = zcells τ ∧ ∀ w, (zeroValue t).run P w = .ok z w := by
  obtain ⟨i, z, h1, h2, h3, h4, h5, _⟩ := tyB_info hty
  exact ⟨i, z, h1, h4, h2, h3, h5, fun w => by simp [zeroValue, typeInfo, h1, h4]⟩
theorem upd_self (g : Gh) (id : Nat) (s : Slot) : upd g id s id = some s := by unfold upd; rw [if_pos rfl]
theorem alloc_ok (hT : tabB P E.tl = true) (H : HR g A W w h) (hW : ∀ r, w.heap.size ≤ r → W r) {nw : Nat} {y : PV} {h' : Hp}
    (e : ((E.data t).bind fun τ => (imp τ τ.zero (nw + 1)).bind fun p => Q.new nw (.box p.1) (.ret (.ptr nw []))).Ok h y h') :
    ∃ g' w' v, (Instr.alloc t true (.tuple #[])).run P w = .ok v w' ∧ Step g A W w g' A w' h' ∧ VRel g' A w' y v := by
  simp only [Ok_bind, Q.Ok] at e
  obtain ⟨τ, h1, e1, p, h2, e2, hn, rfl, rfl⟩ := e
  obtain ⟨hE, rfl⟩ := data_out e1
  have hty : tyB P τ t = true := tabB_look hT hE
  obtain ⟨i, z, _, _, _, _, hz, hrun⟩ := run_zero hty
  obtain ⟨g1, l1, H1, r1, _, _⟩ := imp_ok τ τ.zero (nw + 1) g h1 (zcells τ) [] p h2 H (zcells_own A w τ) List.nodup_nil (by simp) e2
  have S1 : Step g A W w g1 A w h2 := ⟨l1, fun _ h => h, fun _ h => .inl h, H1, fun _ _ => rfl, .refl W w⟩
  have G := Grew.alloc w (.cells z.cells t)
  have hB : BRel (upd g1 nw ⟨some w.heap.size, 0, 0⟩) A (w.alloc (.cells z.cells t)) nw (.box p.1) :=
    ⟨_, _, _, _, upd_self _ _ _, rfl, alloc_new w _, PV.rel_mono (le_upd (H1.gnone hn)) (fun _ h => h) (fun r hr => G.block r (H1.lt r hr)) _ _ (by rw [hz]; exact r1)⟩
  refine ⟨_, _, _, ?_, S1.trans (Step.new H1 G hn (hW _ (Nat.le_refl _)) rfl hB), mk_ptr (p := []) (upd_self _ _ _) rfl trivial⟩
  simp [Instr.alloc, hrun, newVar, newRow, poff]
theorem box_ok (H : HR g A W w h) (hW : ∀ r, w.heap.size ≤ r → W r) {x : PV} {v : Value} (hx : VRel g A w x v) {nw : Nat} {y : PV} {h' : Hp}
    (e : ((get (E.tab t)).bind fun τ => (seat τ x (nw + 1)).bind fun x => cond (fitsI τ x) (Q.new nw (.box x) (.ret (.ptr nw []))) .fail).Ok h y h') :
    ∃ g' w' u, (Instr.box t v).run P w = .ok u w' ∧ Step g A W w g' A w' h' ∧ VRel g' A w' y u := by
  simp only [Ok_bind, Ok_get, Ok_cond, and_false, or_false, Q.Ok] at e
  obtain ⟨τ, h1, ⟨hE, rfl⟩, x', h2, e2, hf, hn, rfl, rfl⟩ := e
  obtain ⟨g1, S1, hx', _⟩ := seat_ok H hx e2
  have G := Grew.alloc w (.cells v.cells t)
  have hB : BRel (upd g1 nw ⟨some w.heap.size, 0, 0⟩) A (w.alloc (.cells v.cells t)) nw (.box x') :=
    ⟨_, _, _, _, upd_self _ _ _, rfl, alloc_new w _, PV.rel_mono (le_upd (S1.hr.gnone hn)) (fun _ h => h) (fun r hr => G.block r (S1.hr.lt r hr)) _ _ (VRel.cells hx').1⟩
  refine ⟨_, _, _, ?_, S1.trans (Step.new S1.hr G hn (hW _ (Nat.le_refl _)) rfl hB), mk_ptr (p := []) (upd_self _ _ _) rfl trivial⟩
  simp [Instr.box, newVar, newRow, poff]

/- literals -/
theorem fold_set (off : Nat) : ∀ (vs : List Value) (k : Nat) (cs : Array Value), off + k + vs.length ≤ cs.size →
    ((vs.zipIdx k).foldl (fun cs p => cs.setIfInBounds (off + p.2) p.1) cs).toList = cs.toList.take (off + k) ++ vs ++ cs.toList.drop (off + k + vs.length)
  | [], k, cs, _ => by simp
  | v :: vs, k, cs, hl => by
    rw [List.zipIdx_cons, List.foldl_cons, fold_set off vs (k + 1) _ (by simp at hl ⊢; omega)]
    simp only [Array.toList_setIfInBounds, List.length_cons] at hl ⊢
    have hlt : off + k < cs.toList.length := by simp; omega
    have hla : (cs.toList.take (off + k)).length = off + k := by rw [List.length_take]; omega
    rw [List.set_eq_take_append_cons_drop, if_pos hlt]
    have e1 : (cs.toList.take (off + k) ++ v :: cs.toList.drop (off + k + 1)).take (off + (k + 1)) = cs.toList.take (off + k) ++ [v] := by
      have : cs.toList.take (off + k) ++ v :: cs.toList.drop (off + k + 1) = (cs.toList.take (off + k) ++ [v]) ++ cs.toList.drop (off + k + 1) := by simp
      rw [this]
      have hl2 : off + (k + 1) = (cs.toList.take (off + k) ++ [v]).length := by rw [List.length_append, hla]; rfl
      rw [hl2, List.take_left]
    have e2 : (cs.toList.take (off + k) ++ v :: cs.toList.drop (off + k + 1)).drop (off + (k + 1) + vs.length) = cs.toList.drop (off + k + (vs.length + 1)) := by
      have : cs.toList.take (off + k) ++ v :: cs.toList.drop (off + k + 1) = (cs.toList.take (off + k) ++ [v]) ++ cs.toList.drop (off + k + 1) := by simp
      rw [this]
      have hl2 : off + (k + 1) + vs.length = (cs.toList.take (off + k) ++ [v]).length + vs.length := by rw [List.length_append, hla]; simp; omega
      rw [hl2, ← List.drop_drop, List.drop_left, List.drop_drop]
      congr 1; omega
    rw [e1, e2]
    simp
theorem fill_step {place : Nat → Option (Nat × Nat)} {cells : Array Value} {i off size : Nat} {v : Value} {rest : List (Nat × Value)} (hp : place i = some (off, size)) (hv : v.cells.size = size) (hl : off + size ≤ cells.size) :
    ∃ cells', Instr.fill place cells ((i, v) :: rest) = Instr.fill place cells' rest ∧ cells'.toList = cells.toList.take off ++ v.cells.toList ++ cells.toList.drop (off + size) ∧ cells'.size = cells.size := by
  have h1 := fold_set off v.cells.toList 0 cells (by simp [hv]; omega)
  refine ⟨(v.cells.toList.zipIdx).foldl (fun cs p => cs.setIfInBounds (off + p.2) p.1) cells, ?_, by simpa [hv] using h1, ?_⟩
  · simp only [Instr.fill, hp]
    rw [if_neg (by simp; omega), ← Array.foldl_toList, Array.toList_zipIdx]
  · have := congrArg List.length h1
    simp only [Array.length_toList, List.length_append, List.length_take, List.length_drop, hv] at this
    omega
def PRel (g : Gh) (A : Nat → Prop) (w : World) : List (Nat × PV) → List (Nat × Value) → Prop
  | [], [] => True
  | p :: ps, q :: qs => p.1 = q.1 ∧ VRel g A w p.2 q.2 ∧ PRel g A w ps qs
  | _, _ => False
theorem PRel.mono {g' : Gh} {A' : Nat → Prop} (hg : g.le g') (hA : ∀ r, A r → A' r) : ∀ {ps : List (Nat × PV)} {qs : List (Nat × Value)}, PRel g A w ps qs → PRel g' A' w ps qs
  | [], [], _ => trivial
  | _ :: _, _ :: _, ⟨h1, h2, h3⟩ => ⟨h1, h2.mono hg hA (fun _ _ => rfl), h3.mono hg hA⟩
theorem putA_ok {u : Ty} : ∀ (ps : List (Nat × PV)) (qs : List (Nat × Value)) (A : Nat → Prop) (h : Hp) (xs ys : List u.den) (cs : Array Value) (h' : Hp), HR g A W w h → PRel g A w ps qs → Cat (TRel A w u) cs.toList xs → (putA u ps xs).Ok h ys h' →
    ∃ A' cs', Frz g A W w h A' h' ∧ Instr.fill (fun i => some (i * u.size, u.size)) cs qs = some cs' ∧ Cat (TRel A' w u) cs'.toList ys ∧ ys.length = xs.length
  | [], [], A, h, xs, ys, cs, h', H, _, hc, e => by
    simp only [putA, Ok_ret] at e
    obtain ⟨rfl, rfl⟩ := e
    exact ⟨A, cs, .refl H, rfl, hc, rfl⟩
  | (i, x) :: ps, (j, v) :: qs, A, h, xs, ys, cs, h', H, hp, hc, e => by
    obtain ⟨rfl, hv, hp⟩ := hp
    simp only [putA, Ok_bind, Ok_cond, Ok_fail, and_false, or_false, Bool.and_eq_true] at e
    obtain ⟨y, h1, e1, ⟨hi, hsz⟩, e2⟩ := e
    have hi : i < xs.length := Nat.le_of_ble_eq_true hi
    have hsz := Nat.eq_of_beq_eq_true hsz
    have hvc := (VRel.cells hv).1
    obtain ⟨A1, F, hy⟩ := typed_own H hvc e1
    have hvl : v.cells.size = u.size := by
      have := PV.rel_len x _ hvc
      rw [Array.length_toList] at this
      rw [this, hsz]
    have hcl := Cat.len (TRel.len u) hc
    have hle : i * u.size + u.size ≤ cs.size := by
      rw [Array.length_toList] at hcl
      rw [hcl, ← Nat.succ_mul]; exact Nat.mul_le_mul_right _ hi
    obtain ⟨cs1, f1, f2, f3⟩ := fill_step (place := fun i => some (i * u.size, u.size)) (rest := qs) (i := i) rfl hvl hle
    have hc1 : Cat (TRel A1 w u) cs1.toList (xs.set i y) := by
      rw [f2]; exact Cat.set (TRel.len u) (hc.mono (TRel.mono F.le (fun _ _ => rfl) u)) hi hy
    obtain ⟨A2, cs2, F2, r2, r3, r4⟩ := putA_ok ps qs A1 h1 _ ys cs1 h' F.hr (hp.mono (Gh.le_refl g) F.le) hc1 e2
    exact ⟨A2, cs2, F.trans F2, by rw [f1]; exact r2, r3, by rw [r4, List.length_set]⟩
  | [], _ :: _, _, _, _, _, _, _, _, hp, _, _ => hp.elim
  | _ :: _, [], _, _, _, _, _, _, _, hp, _, _ => hp.elim
theorem madeCells_eq (z : Array Value) (s : Nat) (hs : z.size = s) : ∀ c : Nat, (madeCells z (c * s)).toList = (List.replicate c z.toList).flatten
  | 0 => by simp [madeCells]
  | c + 1 => by
    have ih := madeCells_eq z s hs c
    simp only [madeCells, Array.toList_map, Array.toList_range] at ih ⊢
    rw [List.replicate_succ, List.flatten_cons, ← ih]
    have e : (c + 1) * s = s + c * s := by rw [Nat.succ_mul]; omega
    rw [e, List.range_add, List.map_append, List.map_map]
    congr 1
    · apply List.ext_getElem
      · simp [hs]
      · intro j h1 h2
        simp only [List.length_map, List.length_range] at h1
        have hj : j < z.size := by omega
        simp only [List.getElem_map, List.getElem_range, hs, Nat.mod_eq_of_lt h1, Array.getElem_toList]
        exact getElem!_pos z j hj
    · apply List.map_congr_left
      intro j _
      simp [hs]
theorem opds_rel {gl tm : List (Nat × PV)} {ρ : Operand → Value} (hρ : ∀ o x, opd gl tm o = some x → VRel g A w x (ρ o)) : ∀ {ps : List (Nat × Operand)} {qs : List (Nat × PV)}, partsQ gl tm ps = some qs → PRel g A w qs (ps.map fun p => (p.1, ρ p.2))
  | [], _, e => by simp only [partsQ, Option.some.injEq] at e; subst e; trivial
  | (i, o) :: ps, qs, e => by
    simp only [partsQ, Option.bind_eq_some_iff, Option.some.injEq] at e
    obtain ⟨a, e1, b, e2, rfl⟩ := e
    exact ⟨rfl, hρ o a e1, opds_rel hρ e2⟩
theorem buildSlice_ok (hT : tabB P E.tl = true) (H : HR g A W w h) (hW : ∀ r, w.heap.size ≤ r → W r) {n : Nat} {ps : List (Nat × PV)} {qs : List (Nat × Value)} (hp : PRel g A w ps qs) {nw : Nat} {y : PV} {h' : Hp} (e : (buildSliceQ E t n ps nw).Ok h y h') :
    ∃ g' A' w' v, (Instr.buildSlice t n qs.toArray).run P w = .ok v w' ∧ Step g A W w g' A' w' h' ∧ VRel g' A' w' y v := by
  simp only [buildSliceQ, Ok_bind, Ok_cond, Ok_fail, and_false, or_false, Bool.and_eq_true, Q.Ok] at e
  obtain ⟨u, h1, e1, ⟨hb, hs1⟩, xs, h2, e2, hn, rfl, rfl⟩ := e
  obtain ⟨hE, rfl⟩ := elem_out e1
  have hty : tyB P (.slice u) t = true := tabB_look hT hE
  obtain ⟨e0, hu, he⟩ := slice_und hty
  obtain ⟨i, z, hi1, hi2, hi3, hi4, hz, hrun⟩ := run_zero he
  have hb := Nat.le_of_ble_eq_true hb
  have hs1 := Nat.le_of_ble_eq_true hs1
  have hzs : z.cells.size = u.size := by
    have := TRel.len u _ _ (zcells_rel A w u)
    rw [← hz, Array.length_toList] at this; exact this
  have hzc : Cat (TRel A w u) (madeCells z.cells (n * u.size)).toList (List.replicate n u.zero) := by
    rw [madeCells_eq z.cells u.size hzs, hz]; exact Cat.replicate (zcells_rel A w u) n
  obtain ⟨A1, cs, F, f1, f2, f3⟩ := putA_ok ps qs A h1 _ xs _ h2 H hp hzc e2
  have hlen : xs.length = n := by rw [f3, List.length_replicate]
  have hcl := Cat.len (TRel.len u) f2
  have G := Grew.alloc w (.cells cs e0)
  have hB : BRel (upd g nw ⟨some w.heap.size, n, n⟩) A1 (w.alloc (.cells cs e0)) nw (.row u xs false) :=
    ⟨_, upd_self _ _ _, ⟨hlen.symm, Nat.le_refl _, cs, e0, alloc_new w _, by rw [Array.length_toList] at hcl; rw [hcl, hlen]; exact Nat.le_refl _, by
      rw [List.take_of_length_le (by rw [hcl, hlen]; exact Nat.le_refl _)]
      exact f2.mono (TRel.mono (fun _ h => h) (fun r hr => G.block r (F.hr.lt r hr)) u)⟩, fun h => by cases h⟩
  refine ⟨_, _, _, .slice (some ⟨w.heap.size, 0, none⟩) n n, ?_, F.step.trans (Step.new F.hr G hn (hW _ (Nat.le_refl _)) rfl hB), ?_⟩
  · have hng : ¬ n * u.size > 2 ^ 24 := by simpa using hb
    by_cases h0 : n * u.size = 0
    · have h00 : (madeCells z.cells (n * u.size)) = #[] := by
        apply Array.toList_inj.1
        apply List.eq_nil_of_length_eq_zero
        rw [Array.length_toList, size_madeCells, h0]
      rw [h00] at f1
      have f1' : Instr.fill (fun i => some (i * u.size, u.size)) #[] qs = some cs := f1
      have hr0 : ∀ f : Nat → Value, (Array.range 0).map f = #[] := fun f => by apply Array.toList_inj.1; simp
      simp [Instr.buildSlice, run_underlying hu, run_sizeT w he, h0, hr0, f1', newRow]
    · have f1' : Instr.fill (fun i => some (i * u.size, u.size)) ((Array.range (n * u.size)).map (z.cells[· % z.cells.size]!)) qs = some cs := f1
      have hng' : ¬ 2 ^ 24 < n * u.size := hng
      simp [Instr.buildSlice, run_underlying hu, run_sizeT w he, h0, hng', hrun, f1', newRow]
      try omega
  · unfold VRel; simp only [aggP]; unfold PV.rel
    exact ⟨_, _, upd_self _ _ _, rfl, rfl⟩
theorem size_bytes : ∀ u : Ty, u.size ≤ u.bytes
  | .int _ => by simp [Ty.size, Ty.bytes]
  | .bool => by simp [Ty.size, Ty.bytes]
  | .str => by simp [Ty.size, Ty.bytes]
  | .unit => by simp [Ty.size, Ty.bytes]
  | .slice _ => by simp [Ty.size, Ty.bytes]
  | .pair a b => Nat.add_le_add (size_bytes a) (size_bytes b)
  | .arr n u => Nat.mul_le_mul_left n (size_bytes u)
theorem lim_out {n : Nat} {u : Ty} (h : lim n u = true) : n * u.bytes ≤ 140737488355328 := of_decide_eq_true h
theorem makeSlice_ok (hT : tabB P E.tl = true) (H : HR g A W w h) (hW : ∀ r, w.heap.size ≤ r → W r) {l c : PV} {vl vc : Value} (hl : VRel g A w l vl) (hc : VRel g A w c vc) {nw : Nat} {y : PV} {h' : Hp} (e : (makeSliceQ E t l c nw).Ok h y h') :
    ∃ g' w' v, (Instr.makeSlice t vl vc).run P w = .ok v w' ∧ Step g A W w g' A w' h' ∧ VRel g' A w' y v := by
  simp only [makeSliceQ, Ok_bind, Ok_ask, Ok_cond, Ok_fail, and_false, or_false, Bool.and_eq_true, decide_eq_true_eq, Q.Ok] at e
  obtain ⟨u, h1, e1, m, h2, e2, k, h3, e3, ⟨⟨hm0, hmk⟩, hlim⟩, hs1, hn, rfl, rfl⟩ := e
  obtain ⟨hE, rfl⟩ := elem_out e1
  obtain ⟨rfl, kl, rfl⟩ := intOf_out hl e2
  obtain ⟨rfl, kc, rfl⟩ := intOf_out hc e3
  have hty : tyB P (.slice u) t = true := tabB_look hT hE
  obtain ⟨e0, hu, he⟩ := slice_und hty
  obtain ⟨i, z, hi1, hi2, hi3, hi4, hz, hrun⟩ := run_zero he
  have hs1 := Nat.le_of_ble_eq_true hs1
  have hzs : z.cells.size = u.size := by
    have := TRel.len u _ _ (zcells_rel A w u)
    rw [← hz, Array.length_toList] at this; exact this
  have hlim := lim_out hlim
  have hby : (i.bytes : Int) * k ≤ 281474976710656 := by
    have h1 : i.bytes * k.toNat ≤ 140737488355328 := Nat.le_trans (by rw [Nat.mul_comm]; exact Nat.mul_le_mul_left _ hi4) hlim
    have h2 : ((i.bytes * k.toNat : Nat) : Int) = (i.bytes : Int) * k := by
      rw [Int.natCast_mul, Int.toNat_of_nonneg (by omega)]
    omega
  have hr := run_make (P := P) w t e0 i z hu hi1 hi2 kl kc m k hm0 hmk hby (by
    have h1 : k.toNat * 1 ≤ k.toNat * u.bytes := Nat.mul_le_mul_left _ (Nat.le_trans hs1 (size_bytes u))
    omega)
  rw [hi3] at hr
  have G := Grew.alloc w (.cells (madeCells z.cells (k.toNat * u.size)) e0)
  have hle : m.toNat ≤ k.toNat := by omega
  have hcat : Cat (TRel A w u) (madeCells z.cells (k.toNat * u.size)).toList (List.replicate k.toNat u.zero) := by
    rw [madeCells_eq z.cells u.size hzs, hz]; exact Cat.replicate (zcells_rel A w u) _
  have hB : BRel (upd g nw ⟨some w.heap.size, k.toNat, m.toNat⟩) A (w.alloc (.cells (madeCells z.cells (k.toNat * u.size)) e0)) nw (.row u (List.replicate m.toNat u.zero) false) :=
    ⟨_, upd_self _ _ _, ⟨by simp, hle, _, e0, alloc_new w _, by rw [size_madeCells]; exact Nat.le_refl _, by
      have := hcat.take (TRel.len u) m.toNat (by simpa using hle)
      rw [List.take_replicate, Nat.min_eq_left hle] at this
      exact this.mono (TRel.mono (fun _ h => h) (fun r hr => G.block r (H.lt r hr)) u)⟩, fun h => by cases h⟩
  refine ⟨_, _, _, hr, Step.new H G hn (hW _ (Nat.le_refl _)) rfl hB, ?_⟩
  unfold VRel; simp only [aggP]; unfold PV.rel
  exact ⟨_, _, upd_self _ _ _, rfl, rfl⟩
theorem optInt_out {x : Option PV} {d n : Int} {v : Option Value} {h' : Hp} (hx : match x, v with | none, none => True | some a, some b => VRel g A w a b | _, _ => False) (e : (optInt x d).Ok h n h') :
    h' = h ∧ ((v = none ∧ n = d) ∨ ∃ k, v = some (.int k n)) := by
  cases x with
  | none =>
    cases v with
    | none => simp only [optInt, Ok_ret] at e; exact ⟨e.2, .inl ⟨rfl, e.1⟩⟩
    | some b => exact hx.elim
  | some a =>
    cases v with
    | none => exact hx.elim
    | some b =>
      obtain ⟨r1, k, r2⟩ := intOf_out hx e
      exact ⟨r1, .inr ⟨k, by rw [r2]⟩⟩
def OptR (g : Gh) (A : Nat → Prop) (w : World) (x : Option PV) (v : Option Value) : Prop := match x, v with
  | none, none => True
  | some a, some b => VRel g A w a b
  | _, _ => False
theorem cutQ_out {lo hi : Option PV} {vl vh : Option Value} {n : Int} {f : Nat → Nat → Q PV} {y : PV} {h' : Hp} (hl : OptR g A w lo vl) (hh : OptR g A w hi vh) (e : (cutQ lo hi n f).Ok h y h') :
    ∃ l m : Int, 0 ≤ l ∧ l ≤ m ∧ m ≤ n ∧ ((vl = none ∧ l = 0) ∨ ∃ k, vl = some (.int k l)) ∧ ((vh = none ∧ m = n) ∨ ∃ k, vh = some (.int k m)) ∧ (f l.toNat m.toNat).Ok h y h' := by
  simp only [cutQ, Ok_bind, Ok_ask, decide_eq_true_eq] at e
  obtain ⟨m, h1, e1, l, h2, e2, ⟨h3, h4, h5⟩, e⟩ := e
  obtain ⟨rfl, r1⟩ := optInt_out (v := vh) hh e1
  obtain ⟨rfl, r2⟩ := optInt_out (v := vl) hl e2
  exact ⟨l, m, h3, h4, h5, r2, r1, e⟩
theorem run_bounds {len cap : Nat} {vl vh : Option Value} {l m n : Int} (h0 : 0 ≤ l) (h1 : l ≤ m) (h2 : m ≤ n) (hn : n = len) (hc : len ≤ cap) (hl : (vl = none ∧ l = 0) ∨ ∃ k, vl = some (.int k l)) (hh : (vh = none ∧ m = n) ∨ ∃ k, vh = some (.int k m)) (b : Bool) :
    (Instr.sliceBounds b len cap vl vh none).run P w = .ok (l.toNat, m.toNat, cap) w := by
  have hm : 0 ≤ m ∧ m ≤ (cap : Int) := by omega
  have hl' : 0 ≤ l ∧ l ≤ (m.toNat : Int) := by omega
  rcases hl with ⟨rfl, rfl⟩ | ⟨k, rfl⟩ <;> rcases hh with ⟨rfl, rfl⟩ | ⟨k', rfl⟩
  · subst hn; simp [Instr.sliceBounds]
  · simp [Instr.sliceBounds, Instr.sliceBound, asIntOf, hm]
  · subst hn
    have hl2 : 0 ≤ l ∧ l ≤ (len : Int) := by omega
    simp [Instr.sliceBounds, Instr.sliceBound, asIntOf, hl2]
  · simp [Instr.sliceBounds, Instr.sliceBound, asIntOf, hm, hl']
    intro hmx; exfalso; omega
theorem of_sl {id : Nat} {s : Slot} {v : Value} (h1 : g id = some s) (h2 : SlV s v) : VRel g A w (.sl id) v := by
  unfold VRel; simp only [aggP]; unfold PV.rel; exact ⟨s, v, h1, rfl, h2⟩
theorem of_sv {id : Nat} {p : List Stp} {off len sz n : Nat} {s : Slot} {v : Value} (h1 : g id = some s) (h2 : SvV s p off len sz n v) : VRel g A w (.sv id p off len sz n) v := by
  unfold VRel; simp only [aggP]; unfold PV.rel; exact ⟨s, v, h1, rfl, h2⟩
theorem to_sl {id : Nat} {v : Value} (h : VRel g A w (.sl id) v) : ∃ s, g id = some s ∧ SlV s v := by
  have := single_of rfl h; unfold PV.rel at this
  obtain ⟨s, v0, h1, h2, h3⟩ := this
  injection h2 with h2; subst h2; exact ⟨s, h1, h3⟩
theorem to_sv {id : Nat} {p : List Stp} {off len sz n : Nat} {v : Value} (h : VRel g A w (.sv id p off len sz n) v) : ∃ s, g id = some s ∧ SvV s p off len sz n v := by
  have := single_of rfl h; unfold PV.rel at this
  obtain ⟨s, v0, h1, h2, h3⟩ := this
  injection h2 with h2; subst h2; exact ⟨s, h1, h3⟩
theorem run_sliceAt {u : Ty} (hty : tyB P (.slice u) t = true) {a : Option Addr} {len cap : Nat} {vl vh : Option Value} {l m : Int} (hb : (Instr.sliceBounds true len cap vl vh none).run P w = .ok (l.toNat, m.toNat, cap) w) :
    (Instr.sliceAt t (.slice a len cap) vl vh none).run P w = .ok (.slice (if cap = l.toNat then a else a.map (·.add (l.toNat * u.size))) (m.toNat - l.toNat) (cap - l.toNat)) w := by
  obtain ⟨e0, hu, he⟩ := slice_und hty
  simp only [Instr.sliceAt, Sem.run_bind, run_underlying hu, Result.andThen_ok, Instr.slice, hb, run_sizeT w he, Sem.run_pure]
theorem slice_ok (hT : tabB P E.tl = true) (H : HR g A W w h) {x y : PV} {v : Value} {lo hi : Option PV} {vl vh : Option Value} {h' : Hp} (hx : VRel g A w x v) (hl : OptR g A w lo vl) (hh : OptR g A w hi vh) (e : (sliceQ E t x lo hi).Ok h y h') :
    h' = h ∧ ∃ z, (Instr.sliceAt t v vl vh none).run P w = .ok z w ∧ VRel g A w y z := by
  simp only [sliceQ, Ok_bind] at e
  obtain ⟨τ, h1, e1, e⟩ := e
  obtain ⟨hE, rfl⟩ := data_out e1
  have hty : tyB P τ t = true := tabB_look hT hE
  cases τ with
  | slice u =>
    simp only [Ok_cond, Ok_fail, and_false, or_false] at e
    obtain ⟨hs1, e⟩ := e
    have hs1 := Nat.le_of_ble_eq_true hs1
    cases x with
    | v v' xs =>
      simp only [Ok_bind, Ok_get] at e
      obtain ⟨xs', h2, ⟨ec, rfl⟩, e⟩ := e
      obtain ⟨rfl, _⟩ := cast_some ec
      obtain rfl := cast_self ec
      obtain ⟨l, m, q1, q2, q3, q4, q5, e⟩ := cutQ_out hl hh e
      rw [Ok_ret] at e
      obtain ⟨rfl, rfl⟩ := e
      have hr := single_of rfl hx
      unfold PV.rel at hr
      obtain ⟨a, cap, e0, hcap, hc⟩ := hr
      injection e0 with e0
      subst e0
      refine ⟨rfl, _, run_sliceAt hty (run_bounds q1 q2 q3 rfl hcap q4 q5 true), ?_⟩
      unfold VRel; simp only [aggP, Ty.agg]; unfold PV.rel
      have hll : ((List.drop (α := u.den) l.toNat xs).take (m.toNat - l.toNat)).length = m.toNat - l.toNat := by rw [List.length_take, List.length_drop]; omega
      refine ⟨_, cap - l.toNat, by rw [hll], by rw [hll]; omega, fun h0 => ?_⟩
      rw [hll] at h0
      obtain ⟨ad, rfl, r1, r2, c, r3, r4⟩ := hc (by omega)
      have hne : ¬ cap = l.toNat := by omega
      refine ⟨ad.add (l.toNat * u.size), by rw [if_neg hne]; rfl, add_spot ad _ r1, by rw [add_block]; exact r2, _, At_take r3 (l.toNat * u.size) ((m.toNat - l.toNat) * u.size), arr_take r4 l.toNat _ (by omega)⟩
    | sl id =>
      simp only [Q.Ok] at e
      obtain ⟨B, hb, e⟩ := e
      cases B with
      | box x => simp [Q.Ok] at e
      | row v' xs fz =>
        simp only [Ok_cond, Ok_fail, and_false, or_false, decide_eq_true_eq] at e
        obtain ⟨rfl, e⟩ := e
        obtain ⟨l, m, q1, q2, q3, q4, q5, e⟩ := cutQ_out hl hh e
        rw [Ok_ret] at e
        obtain ⟨rfl, rfl⟩ := e
        obtain ⟨s, hg, hv⟩ := to_sl hx
        obtain ⟨s', hg', ⟨hlen, hrow⟩, _⟩ := H.blk id _ hb
        rw [hg] at hg'; injection hg' with hg'; subst hg'
        unfold SlV at hv
        cases hs : s.blk with
        | none =>
          rw [hs] at hv hrow
          obtain ⟨rfl, hz1, hz2⟩ := hv
          refine ⟨rfl, _, run_sliceAt hty (run_bounds q1 q2 q3 (by omega) (Nat.le_refl _) q4 q5 true), of_sv hg ⟨trivial, by rw [if_pos rfl]; omega, fun _ => rfl, fun _ => ⟨hz1, hz2, rfl⟩, none, 0 - l.toNat, by simp, by omega, fun _ => by omega, fun _ => by rw [hs]; rfl⟩⟩
        | some b =>
          rw [hs] at hv hrow
          subst hv
          refine ⟨rfl, _, run_sliceAt hty (run_bounds q1 q2 q3 (by omega) (show s.len ≤ s.cap from hrow.1) q4 q5 true), of_sv hg ⟨trivial, by rw [if_pos rfl]; omega, fun _ => rfl, (fun h0 => by rw [hs] at h0; cases h0), _, s.cap - l.toNat, rfl, by have := hrow.1; omega, fun h0 => by omega, fun h0 => ?_⟩⟩
          rw [hs]
          simp only [Option.map_some, poff, Nat.zero_add]
          split
          · rename_i hc0
            have := hrow.1
            have : l.toNat = 0 := by omega
            rw [this]; simp
          · rw [add_at]; simp
    | sv id p off len sz n =>
      simp only [Ok_cond, Ok_fail, and_false, or_false] at e
      obtain ⟨hsz, e⟩ := e
      have hsz := Nat.eq_of_beq_eq_true hsz
      subst hsz
      obtain ⟨l, m, q1, q2, q3, q4, q5, e⟩ := cutQ_out hl hh e
      rw [Ok_ret] at e
      obtain ⟨rfl, rfl⟩ := e
      obtain ⟨s, hg, hpk, hle, hnp, hnb, a, cap, rfl, hcap, hz, ha⟩ := to_sv hx
      refine ⟨rfl, _, run_sliceAt hty (run_bounds q1 q2 q3 rfl hcap q4 q5 true), of_sv hg ⟨hpk, by split at hle <;> rename_i h0 <;> (first | rw [if_pos h0] | rw [if_neg h0]) <;> omega, hnp, hnb, _, cap - l.toNat, rfl, by omega, fun h0 => by
        have := hz ⟨h0.1, by omega⟩
        omega, fun h0 => ?_⟩⟩
      split
      · rename_i hc0
        have hl0 : l.toNat = 0 := by omega
        rw [hl0, Nat.add_zero]
        exact ha (.inr (by omega))
      · rename_i hc0
        have : 0 < len ∨ off = 0 := by omega
        rw [ha this]
        cases s.blk with
        | none => rfl
        | some b => simp only [Option.map_some, add_at, Nat.add_mul, Nat.add_assoc]
    | _ => simp [Q.Ok] at e
  | arr n u =>
    cases x with
    | ptr id p =>
      simp only [Ok_cond, Ok_fail, and_false, or_false, Bool.and_eq_true] at e
      obtain ⟨⟨hs1, hn1⟩, e⟩ := e
      have hs1 := Nat.le_of_ble_eq_true hs1
      have hn1 := Nat.le_of_ble_eq_true hn1
      obtain ⟨l, m, q1, q2, q3, q4, q5, e⟩ := cutQ_out hl hh e
      rw [Ok_ret] at e
      obtain ⟨rfl, rfl⟩ := e
      obtain ⟨s, b, r1, r2, rfl, r4⟩ := rel_ptr hx
      obtain ⟨e0, hu, he⟩ := arr_und hty
      have hb := run_bounds (P := P) (w := w) q1 q2 q3 rfl (Nat.le_refl n) q4 q5 false
      refine ⟨rfl, .slice (some (if n = l.toNat then ⟨b, poff p, none⟩ else Addr.add ⟨b, poff p, none⟩ (l.toNat * u.size))) (m.toNat - l.toNat) (n - l.toNat), ?_, of_sv r1 ⟨r4, by rw [if_neg (by omega)]; omega, fun h0 => by omega, (fun h0 => by rw [r2] at h0; cases h0), _, n - l.toNat, rfl, by omega, fun h0 => by omega, fun h0 => ?_⟩⟩
      · simp only [Instr.sliceAt, Sem.run_bind, run_underlying hu, Result.andThen_ok, Instr.sureAddr, Sem.run_pure, hb, run_sizeT w he]
      · rw [r2, if_neg (by omega), add_at]; rfl
    | _ => simp [Q.Ok] at e
  | _ => simp [Q.Ok] at e
theorem len_ok (hT : tabB P E.tl = true) (H : HR g A W w h) {x y : PV} {v : Value} {h' : Hp} (hx : VRel g A w x v) (e : (lenQ E t x).Ok h y h') (ty : TypeId) : h' = h ∧ ∃ z, (Builtin.len_ #[t] ty #[v]).run P w = .ok z w ∧ VRel g A w y z := by
  simp only [lenQ, Ok_bind] at e
  obtain ⟨τ, h1, e1, e⟩ := e
  obtain ⟨hE, rfl⟩ := data_out e1
  have hty : tyB P τ t = true := tabB_look hT hE
  cases τ with
  | slice u =>
    obtain ⟨e0, hu, he⟩ := slice_und hty
    have run : ∀ (a : Option Addr) (len cap : Nat), (Builtin.len_ #[t] ty #[.slice a len cap]).run P w = .ok (.int .i64 len) w := fun a len cap => by
      simp [Builtin.len_, run_underlying hu, goInt]
    cases x with
    | sl id =>
      simp only [Q.Ok] at e
      obtain ⟨B, hb, e⟩ := e
      cases B with
      | box x => simp [Q.Ok] at e
      | row v' xs fz =>
        simp only [Ok_ret] at e
        obtain ⟨rfl, rfl⟩ := e
        obtain ⟨s, hg, hv⟩ := to_sl hx
        obtain ⟨s', hg', ⟨hlen, hrow⟩, _⟩ := H.blk id _ hb
        rw [hg] at hg'; injection hg' with hg'; subst hg'
        unfold SlV at hv
        split at hv
        · subst hv; rw [← hlen]; exact ⟨rfl, _, run _ _ _, of_int _ _⟩
        · rw [hv.1, ← hlen, hv.2.1]; exact ⟨rfl, _, run _ _ _, of_int _ _⟩
    | sv id p off len sz n =>
      simp only [Ok_ret] at e
      obtain ⟨rfl, rfl⟩ := e
      obtain ⟨s, hg, hpk, hle, hnp, hnb, a, cap, rfl, hcap, hz, ha⟩ := to_sv hx
      exact ⟨rfl, _, run _ _ _, of_int _ _⟩
    | v v' xs =>
      simp only [Ok_bind, Ok_get, Ok_ret] at e
      obtain ⟨xs', h2, ⟨ec, rfl⟩, rfl, rfl⟩ := e
      obtain ⟨rfl, _⟩ := cast_some ec
      obtain rfl := cast_self ec
      have hr := single_of rfl hx
      unfold PV.rel at hr
      obtain ⟨a, cap, e0, hcap, hc⟩ := hr
      injection e0 with e0
      subst e0
      exact ⟨rfl, _, run _ _ _, of_int _ _⟩
    | nils =>
      simp only [Ok_ret] at e
      obtain ⟨rfl, rfl⟩ := e
      have hr := single_of rfl hx
      unfold PV.rel at hr
      injection hr with hr
      subst hr
      exact ⟨rfl, _, run _ _ _, of_int _ _⟩
    | _ => simp [Q.Ok] at e
  | arr n u =>
    simp only [Ok_ret] at e
    obtain ⟨rfl, rfl⟩ := e
    obtain ⟨e0, hu, he⟩ := arr_und hty
    exact ⟨rfl, _, by simp [Builtin.len_, run_underlying hu, goInt], of_int _ _⟩
  | _ => simp [Q.Ok] at e
end
end Go.Proofs.YtkihjakbbcajbaaGreat.PM
