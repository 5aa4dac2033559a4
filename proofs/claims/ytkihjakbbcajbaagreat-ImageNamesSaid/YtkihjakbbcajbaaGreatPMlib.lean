/- Contracts of the library's functions that are told at once. -/
import Derived.Test.YtkihjakbbcajbaaGreatPM30
import Derived.Shelf.RegionOpenPlain
import Derived.WalkKit
import Derived.Lib.Walk
import Derived.Lib.SliceRun
import Derived.Laws.IdiomCopy
import Derived.Laws.Externs
import Derived.Lib.BytesEntry
import Derived.Lib.Overlaps
import Derived.KernelRfl
namespace Go.Proofs.YtkihjakbbcajbaaGreat.PM
open Go Go.Proofs Go.RowKit Go.Lib Go.Shelf
set_option linter.unusedVariables false
set_option linter.unusedSimpArgs false
theorem enter_of {P : Program} {f : FuncId} {fn : Func} (hf : P.funcs[f]? = some fn) (h : (!(fn.name == "runtime.NumGoroutine") && fn.body.isSome) = true) (args : Array Value) (w : World) : (callFunc f args).run P w = .ok (.enter f args) w := by
  simp only [Bool.and_eq_true, Bool.not_eq_true'] at h
  obtain ⟨c, hb⟩ := Option.isSome_iff_exists.1 h.2
  have hnm : fn.name ≠ "runtime.NumGoroutine" := by simpa using h.1
  simp [callFunc, run_program, hf, hnm, hb]
theorem wp_append_at {P : Program} (w : World) {o : Oper} {a : Act} {K : Act → World → Prop} {Q : Exit → Act → World → Prop} (s x : Operand) (t tn : TypeId)
    (ho : o.op = .call { callee := .builtin .append, args := #[s, x], argTypes := #[t, tn] }) (vs vx : Value) (hs : a.eval s = vs) (hx : a.eval x = vx)
    (v' : Value) (w' : World) (hr : (Builtin.append_ #[t, tn] o.type #[vs, vx]).run P w = .ok v' w') (h : K (a.put o.dst v') w') : o.wp P a w K Q := by
  unfold Oper.wp execOp
  simp only [ho, resolve, invoke, builtin, Sem.run_bind, Sem.run_pure, Result.andThen_ok, List.map_toArray, List.map_cons, List.map_nil, hs, hx, hr]
  exact h
theorem wpList_append_at {P : Program} (w : World) {ops : Array Oper} {rest : List Oper} {o : Oper} {a : Act} {Q : Exit → Act → World → Prop} (hgd : o.guard = none) (s x : Operand) (t tn : TypeId)
    (ho : o.op = .call { callee := .builtin .append, args := #[s, x], argTypes := #[t, tn] }) (vs vx : Value) (hs : a.eval s = vs) (hx : a.eval x = vx)
    (v' : Value) (w' : World) (hr : (Builtin.append_ #[t, tn] o.type #[vs, vx]).run P w = .ok v' w') (h : wpList P ops Q rest (a.put o.dst v') w') : wpList P ops Q (o :: rest) a w :=
  wpList_plain hgd fun _ hK => wp_append_at w s x t tn ho vs vx hs hx v' w' hr (hK _ _ h)
/-- Behind 'append([]T{}, ys...)'. -/
theorem clone_row {P : Program} {t ty e1 : TypeId} {u : Ty} (hty : tyB P (.slice u) t = true) (hs1 : 1 ≤ u.size) {A : Nat → Prop} {w w1 : World} {v : Value} {ys : List u.den} (hs : Shown A w u v ys) (hA : ∀ r, A r → r < w.heap.size) (hlim : ys.length * u.bytes ≤ 140737488355328) (hw1 : w1 = w.alloc (.cells #[] e1)) :
    ∃ v' w', (Builtin.append_ #[t, t] ty #[.slice (some ⟨w.heap.size, 0, none⟩) 0 0, v]).run P w1 = .ok v' w' ∧ NewRow A w none u ys v' w' := by
  have G1 : Grew w w1 := hw1 ▸ Grew.alloc w _
  have hsz : w.heap.size ≤ w1.heap.size := G1.size
  have hb : w1.heap[w.heap.size]? = some (.cells #[] e1 (0, 0)) := by rw [hw1]; exact alloc_new w _
  have hs' : Shown A w1 u v ys := by
    obtain ⟨a, cap, rfl, hcap, hc⟩ := hs
    refine ⟨a, cap, rfl, hcap, fun hl => ?_⟩
    obtain ⟨ad, h1, h2, c, h3, h4⟩ := hc hl
    refine ⟨ad, h1, h2, c, fun j x hj => ?_, h4.mono (TRel.mono (fun _ h => h) (fun r hr => G1.block r (hA r hr)) u)⟩
    have h5 := h3 j x hj
    rw [← h5]
    have hbl : (ad.add j).block = ad.block := by unfold Addr.add; split <;> rfl
    have hlt : ad.block < w.heap.size := by
      unfold World.cell? at h5
      rw [hbl] at h5
      split at h5
      · rename_i ho; exact heap_lt ho
      · cases h5
    unfold World.cell?
    rw [hbl, G1.block _ hlt]
  obtain ⟨hin, hout⟩ := AppSrc.of_shown (A := A) (w := w1) hty ty hs'
  by_cases h0 : ys.length = 0
  · obtain ⟨c, c1, c2, c3⟩ := hin
    have hy : ys = [] := List.eq_nil_of_length_eq_zero h0
    subst hy
    have hc0 : c = [] := c1
    subst hc0
    have := c3 (some ⟨w.heap.size, 0, none⟩) 0 0 (by simp)
    have hst := run_storeCells_at (P := P) w.heap.size 0 e1 [] 0 #[] w1 hb (by simp) (by simp)
    simp only [Nat.zero_mul, List.length_nil, Nat.add_zero, add_at] at this
    have hset : (w1.setRow w.heap.size #[]).heap[w.heap.size]? = some (.cells #[] e1 (0, 0)) := setRow_heap w1 _ #[] #[] e1 (0, 0) hb
    refine ⟨.slice (some ⟨w.heap.size, 0, none⟩) 0 0, w1.setRow w.heap.size #[], by rw [this, hst]; rfl, ⟨some w.heap.size, 0, 0⟩, rfl, ⟨rfl, Nat.le_refl _, #[], e1, hset, by simp, by simp [Cat]⟩, fun b h => by injection h with h; right; omega, ?_⟩
    exact G1.keep.trans (setRow_keep (.inl (Nat.le_refl _)))
  · obtain ⟨c, c1, c3⟩ := hout
    obtain ⟨e0, cap, z, hcap, hz, hrun⟩ := c3 (some ⟨w.heap.size, 0, none⟩) 0 0 [] (by
      have hr := run_loadCells_list (P := P) w1.drew ⟨w.heap.size, 0, none⟩ [] (fun j v hj => by simp at hj)
      simp only [Builtin.firstCells, Nat.zero_mul]
      exact hr) (by omega) (by rw [Nat.zero_add]; exact hlim) hs1
    simp only [Nat.zero_add] at hcap hrun
    have G : Grew w (w1.drew.alloc (.cells (([] : List Value).toArray ++ c.toArray ++ Builtin.zeroCells z (cap - ys.length)) e0)) := (G1.trans (Grew.drew w1)).trans (Grew.alloc w1.drew _)
    have hcz := cat_zero (A := A) (w := w1) (u := u) (d := []) (xs := []) (z := z) (n := cap - ys.length) rfl c1
    simp only [List.length_nil, Nat.zero_add, List.nil_append] at hcz
    have hl := Cat.len (TRel.len u) c1
    refine ⟨_, _, hrun, ⟨some w1.heap.size, cap, ys.length⟩, rfl, ⟨rfl, hcap, _, e0, alloc_new w1.drew _, ?_, hcz.mono (TRel.mono (fun _ h => h) (fun r hr => (G.block r (hA r hr)).trans (G1.block r (hA r hr)).symm) u)⟩, fun b h => by injection h with h; right; omega, G.keep⟩
    simp only [Array.size_append, List.size_toArray, size_zeroCells, hz, hl, ← Nat.add_mul, List.length_nil, Nat.zero_add]
    exact Nat.mul_le_mul_right _ (by omega)
theorem step_append_at {P : Program} {ops : Array Oper} {o : Oper} {a : Act} {w : World} {K : Act → World → Prop} {Q : Exit → Act → World → Prop} {E : Prop}
    (hg : o.guard = none) (s x : Operand) (t tn : TypeId) (hop : o.op = Op.call { callee := Callee.builtin Builtin.append, args := #[s, x], argTypes := #[t, tn] })
    (v u : Value) (hs : a.eval s = v) (hx : a.eval x = u) {v' : Value} {w' : World} (hr : (Builtin.append_ #[t, tn] o.type #[v, u]).run P w = .ok v' w') (hK : K (a.put o.dst v') w') :
    if Region.wanted o (yielded ops a.tmps) = true then Oper.wp P o a w K Q else E := by
  have hw : Region.wanted o (yielded ops a.tmps) = true := by simp [Region.wanted, hg]
  rw [if_pos hw]
  exact wp_append_at w s x t tn hop v u hs hx v' w' hr hK
theorem wp_copy_at {P : Program} (w : World) {o : Oper} {a : Act} {K : Act → World → Prop} {Q : Exit → Act → World → Prop} (d s : Operand) (t t' : TypeId)
    (ho : o.op = .call { callee := .builtin .copy, args := #[d, s], argTypes := #[t, t'] }) (v u : Value) (hd : a.eval d = v) (hs : a.eval s = u) {v' : Value} {w' : World}
    (hr : (Builtin.copy_ #[t, t'] o.type #[v, u]).run P w = .ok v' w') (h : K (a.put o.dst v') w') : o.wp P a w K Q := by
  unfold Oper.wp execOp
  simp only [ho, resolve, invoke, builtin, Sem.run_bind, Sem.run_pure, Result.andThen_ok, List.map_toArray, List.map_cons, List.map_nil, hd, hs, hr]
  exact h
theorem wpList_copy_at {P : Program} (w : World) {ops : Array Oper} {rest : List Oper} {o : Oper} {a : Act} {Q : Exit → Act → World → Prop} (hgd : o.guard = none) (d s : Operand) (t t' : TypeId)
    (ho : o.op = .call { callee := .builtin .copy, args := #[d, s], argTypes := #[t, t'] }) (v u : Value) (hd : a.eval d = v) (hs : a.eval s = u) {v' : Value} {w' : World}
    (hr : (Builtin.copy_ #[t, t'] o.type #[v, u]).run P w = .ok v' w') (h : wpList P ops Q rest (a.put o.dst v') w') : wpList P ops Q (o :: rest) a w :=
  wpList_plain hgd fun _ hK => wp_copy_at w d s t t' ho v u hd hs hr (hK _ _ h)
theorem step_copy_at {P : Program} {ops : Array Oper} {o : Oper} {a : Act} {w : World} {K : Act → World → Prop} {Q : Exit → Act → World → Prop} {E : Prop}
    (hg : o.guard = none) (d x : Operand) (dT sT : TypeId) (hop : o.op = Op.call { callee := Callee.builtin Builtin.copy, args := #[d, x], argTypes := #[dT, sT] })
    (v u : Value) (hd : a.eval d = v) (hx : a.eval x = u) {v' : Value} {w' : World} (hr : (Builtin.copy_ #[dT, sT] o.type #[v, u]).run P w = .ok v' w') (hK : K (a.put o.dst v') w') :
    if Region.wanted o (yielded ops a.tmps) = true then Oper.wp P o a w K Q else E := by
  have hw : Region.wanted o (yielded ops a.tmps) = true := by simp [Region.wanted, hg]
  rw [if_pos hw]
  exact wp_copy_at w d x dT sT hop v u hd hx hr hK
theorem wp_clear_at {P : Program} (w : World) {o : Oper} {a : Act} {K : Act → World → Prop} {Q : Exit → Act → World → Prop} (d : Operand) (t : TypeId)
    (ho : o.op = .call { callee := .builtin .clear, args := #[d], argTypes := #[t] }) (v : Value) (hd : a.eval d = v) {v' : Value} {w' : World}
    (hr : (Builtin.clear_ #[t] o.type #[v]).run P w = .ok v' w') (h : K (a.put o.dst v') w') : o.wp P a w K Q := by
  unfold Oper.wp execOp
  simp only [ho, resolve, invoke, builtin, Sem.run_bind, Sem.run_pure, Result.andThen_ok, List.map_toArray, List.map_cons, List.map_nil, hd, hr]
  exact h
theorem wpList_clear_at {P : Program} (w : World) {ops : Array Oper} {rest : List Oper} {o : Oper} {a : Act} {Q : Exit → Act → World → Prop} (hgd : o.guard = none) (d : Operand) (t : TypeId)
    (ho : o.op = .call { callee := .builtin .clear, args := #[d], argTypes := #[t] }) (v : Value) (hd : a.eval d = v) {v' : Value} {w' : World}
    (hr : (Builtin.clear_ #[t] o.type #[v]).run P w = .ok v' w') (h : wpList P ops Q rest (a.put o.dst v') w') : wpList P ops Q (o :: rest) a w :=
  wpList_plain hgd fun _ hK => wp_clear_at w d t ho v hd hr (hK _ _ h)
/-- What is read of a slice's first k elements, in any world in which its cells are as they were. -/
theorem firstN_at {P : Program} {A : Nat → Prop} {w w' : World} {u : Ty} {v : Value} {ys : List u.den} (hs : Shown A w u v ys) (hsame : ∀ a l c, v = .slice (some a) l c → 0 < l → w'.heap[a.block]? = w.heap[a.block]?) (n : Nat) (hn : n ≤ ys.length) :
    ∃ c : List Value, Cat (TRel A w u) c (ys.take n) ∧ (Builtin.firstCells u.size n v).run P w' = .ok c.toArray w' ∧ ∃ a cap, v = .slice a ys.length cap := by
  obtain ⟨a, cap, rfl, hcap, hc⟩ := hs
  by_cases h0 : 0 < ys.length
  · obtain ⟨ad, rfl, r1, c, r2, r3⟩ := hc h0
    have hl := Cat.len (TRel.len u) r3
    have r4 := Cat.take (TRel.len u) r3 n hn
    have hl4 : (c.take (n * u.size)).length = n * u.size := by
      rw [List.length_take, hl]; exact Nat.min_eq_left (Nat.mul_le_mul_right _ hn)
    have r2' : At w' ad c := r2.mono (hsame ad _ _ rfl h0)
    have hr := run_loadCells_list (P := P) w' ad (c.take (n * u.size)) (fun j v hj => r2' j v (by
      rw [List.getElem?_take] at hj; split at hj
      · exact hj
      · cases hj))
    rw [hl4] at hr
    exact ⟨_, r4, by simp only [Builtin.firstCells]; exact hr, _, _, rfl⟩
  · have : ys = [] := by
      cases ys with
      | nil => rfl
      | cons y ys => simp at h0
    subst this
    obtain rfl : n = 0 := by simpa using hn
    refine ⟨[], rfl, ?_, _, _, rfl⟩
    cases a with
    | none => simp [Builtin.firstCells]
    | some a =>
      have hr := run_loadCells_list (P := P) w' a [] (fun j v hj => by simp at hj)
      simp only [Builtin.firstCells, Nat.zero_mul]
      exact hr
/-- Elements copied to a place of a block whose cells are known. -/
theorem copy_cells {P : Program} {t : TypeId} {u : Ty} (hty : tyB P (.slice u) t = true) (ts : List TypeId) (ty : TypeId) {w : World} {b : Nat} {cells : Array Value} {e : TypeId} (hb : w.heap[b]? = some (.cells cells e (0, 0))) {o dn dc m k : Nat} {sv : Value} {c : List Value}
    (hv : ∃ a cap, sv = .slice a m cap) (hk : min m dn = k) (hf : (Builtin.firstCells u.size k sv).run P w = .ok c.toArray w) (hone : ∀ v ∈ c, v.oneCell' = true) (hfit : o + c.length ≤ cells.size) :
    (Builtin.copy_ (t :: ts).toArray ty #[.slice (some ⟨b, o, none⟩) dn dc, sv]).run P w = .ok (.int .i64 (k : Nat)) (w.setRow b (cells.toList.take o ++ c ++ cells.toList.drop (o + c.length)).toArray) := by
  have hst := run_storeCells_at (P := P) b o e c 0 cells w hb (by omega) hone
  simp only [Nat.add_zero] at hst
  have := run_copy (P := P) (w := w) hty ts ty (a := some ⟨b, o, none⟩) (len := dn) (cap := dc) (m := m) hv (by rw [hk]; exact hf) hst
  rw [hk] at this
  exact this
theorem cmpB_eq : ∀ (xs ys : List Int), cmpB xs ys = Lib.compareBytes (Lib.bytesOf xs) (Lib.bytesOf ys)
  | [], [] => rfl
  | [], _ :: _ => rfl
  | _ :: _, [] => rfl
  | x :: xs, y :: ys => by
    have ih := cmpB_eq xs ys
    have e : ∀ a : Int, (a.toNat.toUInt8).toNat = a.toNat % 256 := fun a => by simp
    have hlt : ∀ a b : Int, (a.toNat.toUInt8 < b.toNat.toUInt8) = (a.toNat % 256 < b.toNat % 256) := fun a b => by
      rw [UInt8.lt_iff_toNat_lt, e, e]
    show cmpB (x :: xs) (y :: ys) = Lib.compareBytes (x.toNat.toUInt8 :: Lib.bytesOf xs) (y.toNat.toUInt8 :: Lib.bytesOf ys)
    simp only [cmpB, Lib.compareBytes, ih, hlt]
    by_cases h1 : x.toNat % 256 < y.toNat % 256
    · rw [if_pos h1, show Nat.blt (x.toNat % 256) (y.toNat % 256) = true by rw [Nat.blt_eq]; exact h1]; rfl
    · rw [if_neg h1, show Nat.blt (x.toNat % 256) (y.toNat % 256) = false from Bool.eq_false_iff.2 (fun h => h1 (by rwa [Nat.blt_eq] at h))]
      by_cases h2 : y.toNat % 256 < x.toNat % 256
      · rw [if_pos h2, show Nat.blt (y.toNat % 256) (x.toNat % 256) = true by rw [Nat.blt_eq]; exact h2]; rfl
      · rw [if_neg h2, show Nat.blt (y.toNat % 256) (x.toNat % 256) = false from Bool.eq_false_iff.2 (fun h => h2 (by rwa [Nat.blt_eq] at h))]; rfl
theorem bytes_run {P : Program} {A : Nat → Prop} {w : World} {v : Value} {xs : List Int} (h : Shown A w (.int .u8) v xs) : (Extern.Bytes.bytesOf v).run P w = .ok ⟨(Lib.bytesOf xs).toArray⟩ w := by
  obtain ⟨a, cap, rfl, hcap, hc⟩ := h
  by_cases h0 : 0 < xs.length
  · obtain ⟨ad, rfl, r1, c, r2, r3⟩ := hc h0
    have hcm := cat_int xs c r3
    subst hcm
    have := Lib.run_loadBytesX (P := P) w xs ad ByteArray.empty (fun j x hj => r2 j _ (by rw [List.getElem?_map, hj]; rfl))
    have he : (⟨ByteArray.empty.data ++ (Lib.bytesOf xs).toArray⟩ : ByteArray) = ⟨(Lib.bytesOf xs).toArray⟩ := by
      congr 1
      show (#[] : Array UInt8) ++ (Lib.bytesOf xs).toArray = (Lib.bytesOf xs).toArray
      simp
    rw [he] at this
    exact this
  · have hx : xs = [] := List.eq_nil_of_length_eq_zero (by omega)
    subst hx
    cases a with
    | none => rfl
    | some ad => rfl
theorem cmp_spec {P : Program} {f : FuncId} {fn : Func} (hf : P.funcs[f]? = some fn) (hname : (fn.name == "runtime.NumGoroutine") = false) (hb : fn.body.isNone = true) (hn : Extern.findNext fn = none) (he : Extern.find fn = some Extern.BytealgCompare.compare) : PrimSpec P f .cmp := by
  intro A w v v' xs ys h1 h2
  refine .inl ⟨_, w, ?_, rfl, rfl⟩
  rw [run_callFunc_extern hf hname hb hn he]
  have : (Extern.BytealgCompare.compare #[v, v']).run P w = .ok (.int .i64 (cmpB xs ys)) w := by
    change Sem.run P (do pure (goInt (Extern.BytealgCompare.cmp (← Extern.Bytes.bytesOf v) (← Extern.Bytes.bytesOf v')))) w = _
    simp only [Sem.run_bind, bytes_run h1, bytes_run h2, Result.andThen_ok, Sem.run_pure]
    rw [Lib.cmp_eq, cmpB_eq]
    rfl
  rw [this]
  rfl
theorem mini {A : Nat → Prop} {w : World} {s : Slot} {u : Ty} {xs : List u.den} {v : Value} (O : OwnRow A w s u xs v) :
    HR (fun i => if i = 0 then some s else none) A (fun r => w.heap.size ≤ r ∨ s.blk = some r) w [(0, some (.row u xs false))] where
  blk := fun i b e => by
    rw [at_cons] at e
    split at e
    · rename_i hi; injection e with e; subst e hi
      exact ⟨s, rfl, O.row, fun h => by cases h⟩
    · cases e
  own := fun i b s' r e _ hg hr => by
    rw [at_cons] at e
    split at e
    · rename_i hi; subst hi
      rw [if_pos rfl] at hg; injection hg with hg; subst hg
      exact ⟨O.out r hr, .inr hr⟩
    · cases e
  inj := fun i j b c s' s'' r e e' _ _ _ _ _ _ => by
    rw [at_cons] at e e'
    split at e
    · split at e'
      · rename_i h1 h2; rw [h1, h2]
      · cases e'
    · cases e
  dfn := fun i s' hg => by
    by_cases hi : i = 0
    · subst hi; exact ⟨_, rfl⟩
    · rw [if_neg hi] at hg; cases hg
  lt := O.lt
theorem cast_refl (t : Ty) (x : t.den) : castT t t x = some x := by unfold castT; rw [dif_pos rfl]
theorem splice_all {α : Type} (xs : List α) (i j : Nat) (hij : i ≤ j) (hj : j ≤ xs.length) (zs : List α) (hz : zs.length = j - i) :
    (splice (splice xs i (xs.drop j)) (i + (xs.length - j)) zs).take (i + (xs.length - j)) = xs.take i ++ xs.drop j := by
  have h1 : (splice xs i (xs.drop j)).take (i + (xs.length - j)) = xs.take i ++ xs.drop j := by
    unfold splice
    have : i + (xs.length - j) = (xs.take i ++ xs.drop j).length := by rw [List.length_append, List.length_take, List.length_drop]; omega
    rw [this, List.take_left]
  have hl : (splice xs i (xs.drop j)).length = xs.length := splice_len _ _ _ (by rw [List.length_drop]; omega)
  generalize splice xs i (xs.drop j) = ys at h1 hl ⊢
  unfold splice
  have h2 : (List.take (i + (xs.length - j)) ys).length = i + (xs.length - j) := by rw [List.length_take, hl]; omega
  rw [List.append_assoc]
  have := List.take_left' (l₂ := zs ++ List.drop (i + (xs.length - j) + zs.length) ys) h2
  rw [this, h1]
/-- What slices.Delete does to a row of the call's own. -/
theorem del_run {P : Program} {t ty ty2 : TypeId} {u : Ty} (hty : tyB P (.slice u) t = true) (hs1 : 1 ≤ u.size) {A : Nat → Prop} {w : World} {s : Slot} {v : Value} {xs : List u.den} {i j : Nat} (O : OwnRow A w s u xs v) {b : Nat} (hb : s.blk = some b) (hij : i < j) (hj : j ≤ xs.length)
    (a2 : Option Addr) (capx : Nat) (ha2 : j < xs.length → a2 = some ⟨b, j * u.size, none⟩) (hcx : xs.length - j ≤ capx) :
    ∃ w2 z w3, (Builtin.append_ #[t, t] ty #[.slice (some ⟨b, 0, none⟩) i s.cap, .slice a2 (xs.length - j) capx]).run P w.drew = .ok (.slice (some ⟨b, 0, none⟩) (i + (xs.length - j)) s.cap) w2 ∧
      (Builtin.clear_ #[t] ty2 #[.slice (some ⟨b, (i + (xs.length - j)) * u.size, none⟩) (xs.length - (i + (xs.length - j))) (s.cap - (i + (xs.length - j)))]).run P w2 = .ok z w3 ∧
      NewRow A w s.blk u (xs.take i ++ xs.drop j) (.slice (some ⟨b, 0, none⟩) (i + (xs.length - j)) s.cap) w3 := by
  have H0 := mini O
  have H := H0.move (w' := w.drew) (fun _ _ => rfl) (fun _ _ _ _ _ _ _ => rfl) (Nat.le_refl _)
  obtain ⟨hlen, hrow⟩ := O.row
  rw [hb] at hrow
  have hcap := hrow.1
  have hsv2 : VRel (fun i => if i = 0 then some s else none) A w.drew (.sv 0 [] j (xs.length - j) u.size 0) (.slice a2 (xs.length - j) capx) :=
    of_sv (s := s) rfl ⟨trivial, by rw [if_pos rfl]; omega, fun _ => rfl, (fun h => by rw [hb] at h; cases h), a2, capx, rfl, hcx, fun h => by omega, fun h => by
      rw [hb]
      simp only [Option.map_some, poff, Nat.zero_add]
      exact ha2 (by omega)⟩
  have hdec : (dec (.slice u) (.sv 0 [] j (xs.length - j) u.size 0)).Ok [(0, some (.row u xs false))] ((xs.drop j).take (xs.length - j)) [(0, some (.row u xs false))] := by
    simp only [dec, Q.Ok]
    refine ⟨.row u xs false, rfl, ?_⟩
    simp only [Ok_bind, Ok_get]
    refine ⟨xs, _, ⟨cast_refl _ _, rfl⟩, ?_⟩
    rw [show (Nat.beq u.size u.size && Nat.beq 0 0) = true by simp]
    exact ⟨rfl, rfl⟩
  have hdr : (xs.drop j).take (xs.length - j) = xs.drop j := List.take_of_length_le (by rw [List.length_drop]; omega)
  rw [hdr] at hdec
  obtain ⟨_, hsh⟩ := dec_shown H hsv2 hdec
  have hsv1 : VRel (fun i => if i = 0 then some s else none) A w.drew (.sv 0 [] 0 i u.size 0) (.slice (some ⟨b, 0, none⟩) i s.cap) :=
    of_sv (s := s) rfl ⟨trivial, by rw [if_pos rfl]; omega, fun _ => rfl, (fun h => by rw [hb] at h; cases h), some ⟨b, 0, none⟩, s.cap, rfl, by omega, fun _ => rfl, fun _ => by rw [hb]; simp [poff]⟩
  have hfit : i + (xs.drop j).length ≤ xs.length := by rw [List.length_drop]; omega
  -- the append, in place
  obtain ⟨c, c1, c2, c3⟩ := (AppSrc.of_shown (P := P) (A := A) (w := w.drew) hty ty hsh).inn
  have hroom : i + (xs.drop j).length ≤ s.cap := by omega
  have hrun := c3 (some ⟨b, 0, none⟩) i s.cap hroom
  obtain ⟨w2, r1, S⟩ := write_row (P := P) H (id := 0) (s := s) (b := b) rfl rfl hb (o := i) c1 hfit
  simp only [add_at, Nat.zero_add, r1, Result.andThen_ok] at hrun
  rw [List.length_drop] at hrun
  -- the cells behind, cleared
  have hyl : (splice xs i (xs.drop j)).length = xs.length := splice_len _ _ _ hfit
  have hsv3 : VRel (fun i => if i = 0 then some s else none) A w2 (.sv 0 [] (i + (xs.length - j)) (xs.length - (i + (xs.length - j))) u.size 0) (.slice (some ⟨b, (i + (xs.length - j)) * u.size, none⟩) (xs.length - (i + (xs.length - j))) (s.cap - (i + (xs.length - j)))) :=
    of_sv (s := s) rfl ⟨trivial, by rw [if_pos rfl]; omega, fun _ => rfl, (fun h => by rw [hb] at h; cases h), some ⟨b, (i + (xs.length - j)) * u.size, none⟩, s.cap - (i + (xs.length - j)), rfl, by omega, fun h => by omega, fun h => by
      rw [hb]
      simp [poff]⟩
  let E : Env := ⟨[(t, .data (.slice u))], fun _ => none, [], [], [], []⟩
  have hT : tabB P E.tl = true := by
    show (tiB P (.data (.slice u)) t && true) = true
    rw [Bool.and_true]; exact hty
  have hElem : E.elem t = .ret u := by
    simp [Env.elem, Env.tab, E, look]
  have hcl : (clearQ E t (.sv 0 [] (i + (xs.length - j)) (xs.length - (i + (xs.length - j))) u.size 0)).Ok [(0, some (.row u (splice xs i (xs.drop j)) false)), (0, some (.row u xs false))] .undef
      [(0, some (.row u (splice (splice xs i (xs.drop j)) (i + (xs.length - j)) (List.replicate (xs.length - (i + (xs.length - j))) u.zero)) false)), (0, some (.row u (splice xs i (xs.drop j)) false)), (0, some (.row u xs false))] := by
    unfold clearQ
    rw [hElem]
    simp only [Q.bind, Q.Ok]
    refine ⟨.row u (splice xs i (xs.drop j)) false, rfl, ?_⟩
    rw [show (Nat.beq u.size u.size && Nat.beq 0 0) = true by simp]
    simp only [cond_true, Ok_bind, Ok_get]
    exact ⟨_, _, ⟨cast_refl _ _, rfl⟩, ⟨_, rfl⟩, rfl, rfl⟩
  obtain ⟨w3, z, r3, S3, _⟩ := clear_ok (P := P) hT [] ty2 S.hr hsv3 hcl
  obtain ⟨s4, hg4, hrow4, _⟩ := S3.hr.blk 0 _ rfl
  have hg4 : some s = some s4 := hg4
  injection hg4 with hg4; subst hg4
  refine ⟨w2, z, w3, hrun, r3, ⟨s.blk, s.cap, i + (xs.length - j)⟩, by unfold SlV; rw [hb], ?_, fun b' h => .inl h, ?_⟩
  · obtain ⟨hl4, hr4⟩ := hrow4
    refine ⟨by simp only [List.length_append, List.length_take, List.length_drop]; omega, ?_⟩
    rw [hb] at hr4 ⊢
    obtain ⟨h1, cells, e, h2, h3, h4⟩ := hr4
    refine ⟨by show i + (xs.length - j) ≤ s.cap; omega, cells, e, h2, h3, ?_⟩
    have h5 := Cat.take (TRel.len u) h4 (i + (xs.length - j)) (by rw [splice_len _ _ _ (by rw [List.length_replicate, hyl]; omega), hyl]; omega)
    rw [List.take_take, Nat.min_eq_left (Nat.mul_le_mul_right _ (by omega)), splice_all xs i j (by omega) hj _ (by rw [List.length_replicate]; omega)] at h5
    exact h5
  · have k1 : Keep (fun r => w.heap.size ≤ r ∨ s.blk = some r) w w.drew := ⟨rfl, rfl, rfl, Nat.le_refl _, fun _ _ _ => rfl⟩
    exact (k1.trans S.keep).trans S3.keep
theorem overlaps_own {P : Program} (w : World) (tS tR e : TypeId) (ht : P.underlying tS = some (.slice e)) (size : Nat) (hz : ∀ w, (Go.sizeOf e).run P w = .ok size w) {a b : Addr} (la ca lb cb : Nat) (hne : a.block ≠ b.block)
    {xa xb : Array Value} {ea eb : TypeId} {fa : Nat × Nat} (ha : w.heap[a.block]? = some (.cells xa ea fa)) (hb : w.heap[b.block]? = some (.cells xb eb (0, 0))) (h0 : xb.size ≠ 0) (h1 : xa.size ≠ 0) :
    (Extern.SlicesOverlaps.overlaps #[tS, tS] #[tR] #[.slice (some a) la ca, .slice (some b) lb cb]).run P w = .ok (.bool false) w := by
  have hnb : (a.block != b.block) = true := by simpa using hne
  have hnb' : (a.block == b.block) = false := by simpa using hne
  have hsa : w.shape? a.block = some (ea, xa.size) := by unfold World.shape?; rw [ha]
  have hsb : w.shape? b.block = some (eb, xb.size) := by unfold World.shape?; rw [hb]
  have hfb : ∀ o, w.frozen? ⟨b.block, o, none⟩ = false := fun o => by unfold World.frozen?; simp [hb]
  have hfb' : w.frozen? b = false := by unfold World.frozen?; simp [hb]
  change Sem.run P (α := Value) (do
    let some t := (#[tS, tS] : Array TypeId)[0]? | stuck "slices.overlaps: no parameter types"
    let .slice elem ← underlying t | stuck "slices.overlaps: slice type expected"
    let size ← sizeOf elem
    match (some a : Option Addr), (some b : Option Addr) with
    | some a, some b =>
      if la = 0 ∨ lb = 0 ∨ size = 0 then pure (Value.bool false)
      else if a.block != b.block && (← frozen a) && (← frozen b) then unsupported .addressObserved
      else do
        if a.block != b.block then do
          noView a; noView b
          if ← mayBeOne a b then return Value.bool ((← choose (.extern "sameAddr.stringBytes" 2)) == 1)
        pure (Value.bool (a.block == b.block && a.off < b.off + lb * size && b.off < a.off + la * size))
    | _, _ => pure (Value.bool false)) w = _
  by_cases hl : la = 0 ∨ lb = 0 ∨ size = 0
  · simp [run_underlying ht, hz, hl]
  · cases hk : xb.size with
    | zero => exact absurd hk h0
    | succ k =>
      rw [hk] at hsb
      obtain ⟨k2, hk2⟩ : ∃ k2, xa.size = k2 + 1 := ⟨xa.size - 1, by omega⟩
      rw [hk2] at hsa
      cases hfa : w.frozen? a with
      | true => simp [run_underlying ht, hz, hl, hnb, hnb', frozen, noView, viewAt, mayBeOne, stringish, shape, Sem.run, hsa, hsb, hfa, hfb, hfb']
      | false =>
        cases hfe : w.frozen? { block := a.block, off := k2 + 1 } <;> simp [run_underlying ht, hz, hl, hnb, hnb', frozen, noView, viewAt, mayBeOne, stringish, shape, Sem.run, hsa, hsb, hfa, hfe, hfb, hfb']
theorem wr_take {α : Type} (W c : List α) (a : Nat) (ha : a + c.length ≤ W.length) : (W.take a ++ c ++ W.drop (a + c.length)).take (a + c.length) = W.take a ++ c ∧ (W.take a ++ c ++ W.drop (a + c.length)).length = W.length ∧ (W.take a ++ c ++ W.drop (a + c.length)).drop (a + c.length) = W.drop (a + c.length) := by
  have h1 : (W.take a ++ c).length = a + c.length := by rw [List.length_append, List.length_take]; omega
  refine ⟨List.take_left' h1, ?_, List.drop_left' h1⟩
  rw [List.length_append, h1, List.length_drop]; omega
/-- A row, cut into its parts. -/
theorem row_parts {A : Nat → Prop} {w : World} {u : Ty} {xs : List u.den} {s : Slot} {b : Nat} (hr : RowAt A w s u xs) (hb : s.blk = some b) {i : Nat} (hi : i ≤ xs.length) :
    ∃ cells e, w.heap[b]? = some (.cells cells e (0, 0)) ∧ s.cap * u.size ≤ cells.size ∧ xs.length ≤ s.cap ∧ Cat (TRel A w u) (cells.toList.take (i * u.size)) (xs.take i) ∧ Cat (TRel A w u) ((cells.toList.drop (i * u.size)).take ((xs.length - i) * u.size)) (xs.drop i) := by
  obtain ⟨hlen, hr⟩ := hr
  rw [hb] at hr
  obtain ⟨h1, cells, e, h2, h3, h4⟩ := hr
  refine ⟨cells, e, h2, h3, by omega, ?_, ?_⟩
  · have := Cat.take (TRel.len u) h4 i hi
    rwa [List.take_take, Nat.min_eq_left (Nat.mul_le_mul_right _ (by omega))] at this
  · have := Cat.drop (TRel.len u) h4 i hi
    rw [List.drop_take] at this
    rw [hlen] at this
    rwa [Nat.sub_mul]
theorem loads {P : Program} {w : World} {b : Nat} {cells : Array Value} {e : TypeId} (h : w.heap[b]? = some (.cells cells e (0, 0))) {o n sz len cap : Nat} (hfit : o + n * sz ≤ cells.size) :
    (Builtin.firstCells sz n (.slice (some ⟨b, o, none⟩) len cap)).run P w = .ok ((cells.toList.drop o).take (n * sz)).toArray w := by
  have hl : ((cells.toList.drop o).take (n * sz)).length = n * sz := by rw [List.length_take, List.length_drop, Array.length_toList]; omega
  have hat : At w ⟨b, o, none⟩ ((cells.toList.drop o).take (n * sz)) := At_block h (fun j v hj => by
    have := sub_getElem hj
    simpa using this)
  have := run_loadCells_list (P := P) w _ _ hat
  rw [hl] at this
  simp only [Builtin.firstCells]
  exact this
/-- slices.Insert at the end. -/
theorem ins_end {P : Program} {t ty : TypeId} {u : Ty} (hty : tyB P (.slice u) t = true) (hs1 : 1 ≤ u.size) {A : Nat → Prop} {w : World} {s : Slot} {v vv : Value} {xs ys : List u.den} (O : OwnRow A w s u xs v) (hsh : Shown A w u vv ys) (hlim : (xs.length + ys.length) * u.bytes ≤ 140737488355328) :
    ∃ v' w', (Builtin.append_ #[t, t] ty #[v, vv]).run P w = .ok v' w' ∧ NewRow A w s.blk u (xs ++ ys) v' w' := by
  have H := mini O
  have hv : v = .slice (s.blk.map fun b => ⟨b, 0, none⟩) xs.length s.cap := by
    have h1 := O.val
    obtain ⟨hlen, hrow⟩ := O.row
    unfold SlV at h1
    cases hs0 : s.blk with
    | none => rw [hs0] at h1; rw [h1.1, ← hlen, h1.2.1, h1.2.2]; rfl
    | some b => rw [hs0] at h1; rw [h1, hlen]; rfl
  obtain ⟨s', w', v', r, S, h1, _, _⟩ := append_core (P := P) hs1 H (fun r hr => .inl hr) (id := 0) (nw := 1) (s := s) (len := xs.length) rfl rfl (Nat.le_refl _) (AppSrc.of_shown (P := P) hty ty hsh) hlim rfl
  rw [List.take_length] at S
  obtain ⟨s2, hg2, hrow2, _⟩ := S.hr.blk 1 _ rfl
  have hg3 : upd (fun i => if i = 0 then some s else none) 1 s' 1 = some s' := upd_self _ _ _
  rw [hg3] at hg2; injection hg2 with hg2; subst hg2
  refine ⟨v', w', by rw [hv]; exact r, s', h1, hrow2, fun b hb => ?_, S.keep⟩
  have := S.hr.own 1 _ s' b rfl rfl hg3 hb
  exact this.2.symm
/-- slices.Insert in the middle, where there is room. -/
theorem ins_room {P : Program} {t : TypeId} {u : Ty} (hty : tyB P (.slice u) t = true) {A : Nat → Prop} {w : World} {s : Slot} {v vv : Value} {xs ys : List u.den} {i b : Nat} (O : OwnRow A w s u xs v) (hsh : Shown A w u vv ys) (hb : s.blk = some b)
    (hap : ∀ b a l c, s.blk = some b → vv = .slice (some a) l c → 0 < l → a.block ≠ b) (hi : i < xs.length) (hroom : xs.length + ys.length ≤ s.cap) :
    ∃ w2 w3, (∀ ty c1 c2, (Builtin.copy_ #[t, t] ty #[.slice (some ⟨b, (i + ys.length) * u.size, none⟩) (xs.length + ys.length - (i + ys.length)) c1, .slice (some ⟨b, i * u.size, none⟩) (xs.length + ys.length - i) c2]).run P w.drew = .ok (.int .i64 (xs.length - i : Nat)) w2) ∧
      (∀ ty c1, (Builtin.copy_ #[t, t] ty #[.slice (some ⟨b, i * u.size, none⟩) (xs.length + ys.length - i) c1, vv]).run P w2 = .ok (.int .i64 (ys.length : Nat)) w3) ∧
      NewRow A w (some b) u (xs.take i ++ ys ++ xs.drop i) (.slice (some ⟨b, 0, none⟩) (xs.length + ys.length) s.cap) w3 := by
  obtain ⟨cells, e, h2, h3, h4, h5, h6⟩ := row_parts O.row hb (i := i) (by omega)
  have hcl : cells.toList.length = cells.size := Array.length_toList
  have hbA := O.out b hb
  have hxs : xs.length * u.size ≤ cells.size := Nat.le_trans (Nat.mul_le_mul_right _ h4) h3
  have hisz : i * u.size + (xs.length - i) * u.size = xs.length * u.size := by rw [← Nat.add_mul]; congr 1; omega
  have l5 : (cells.toList.take (i * u.size)).length = i * u.size := by rw [List.length_take, hcl]; omega
  have l6 := (Cat.len (TRel.len u) h6).trans (by rw [List.length_drop])
  generalize hds : (cells.toList.drop (i * u.size)).take ((xs.length - i) * u.size) = ds at h6 l6
  have hsum : (i + ys.length) * u.size + (xs.length - i) * u.size = (xs.length + ys.length) * u.size := by rw [← Nat.add_mul]; congr 1; omega
  have hcs : (xs.length + ys.length) * u.size ≤ cells.size := Nat.le_trans (Nat.mul_le_mul_right _ hroom) h3
  have hisz : i * u.size + (xs.length - i) * u.size = xs.length * u.size := by rw [← Nat.add_mul]; congr 1; omega
  have hxs : xs.length * u.size ≤ cells.size := Nat.le_trans (Nat.mul_le_mul_right _ h4) h3
  have hd : w.drew.heap[b]? = some (.cells cells e (0, 0)) := h2
  have hf1 : ∀ c2, (Builtin.firstCells u.size (xs.length - i) (.slice (some ⟨b, i * u.size, none⟩) (xs.length + ys.length - i) c2)).run P w.drew = .ok ds.toArray w.drew := fun c2 => by
    rw [← hds]; exact loads hd (by omega)
  have c1 := fun ty c1 c2 => copy_cells (P := P) hty [t] ty hd (o := (i + ys.length) * u.size) (dn := xs.length + ys.length - (i + ys.length)) (dc := c1) (m := xs.length + ys.length - i) (k := xs.length - i) ⟨_, _, rfl⟩ (by omega) (hf1 c2) (h6.all (TRel.one u)) (by rw [l6]; omega)
  obtain ⟨k1, k2, k3⟩ := wr_take cells.toList ds ((i + ys.length) * u.size) (by rw [l6, hcl]; omega)
  generalize hW1 : cells.toList.take ((i + ys.length) * u.size) ++ ds ++ cells.toList.drop ((i + ys.length) * u.size + ds.length) = W1 at c1 k1 k2 k3
  generalize hw2 : w.drew.setRow b W1.toArray = w2 at c1
  have hb2 : w2.heap[b]? = some (.cells W1.toArray e (0, 0)) := by rw [← hw2]; exact setRow_heap _ _ _ _ _ _ hd
  have ho2 : ∀ r, r ≠ b → w2.heap[r]? = w.heap[r]? := fun r hr => by rw [← hw2]; exact setRow_other _ _ _ _ hr
  obtain ⟨c, g1, g2, g3⟩ := firstN_at (P := P) hsh (w' := w2) (fun a l c e hl => ho2 _ (hap b a l c hb e hl)) ys.length (Nat.le_refl _)
  rw [List.take_length] at g1
  have lc := Cat.len (TRel.len u) g1
  have hW1l : W1.length = cells.size := by rw [k2, hcl]
  have hic : i * u.size + ys.length * u.size = (i + ys.length) * u.size := (Nat.add_mul _ _ _).symm
  have hfit2 : i * u.size + c.length ≤ W1.length := by rw [lc, hW1l]; omega
  have c2 := fun ty c1 => copy_cells (P := P) hty [t] ty hb2 (o := i * u.size) (dn := xs.length + ys.length - i) (dc := c1) (m := ys.length) (k := ys.length) (c := c) g3 (by omega) g2 (g1.all (TRel.one u)) (by simpa using hfit2)
  refine ⟨w2, _, c1, c2, ⟨some b, s.cap, xs.length + ys.length⟩, rfl, ⟨?_, ?_⟩, fun b' h => .inl h, ?_⟩
  · simp only [List.length_append, List.length_take, List.length_drop]; omega
  · have hA : ∀ r, A r → (w2.setRow b (W1.toArray.toList.take (i * u.size) ++ c ++ W1.toArray.toList.drop (i * u.size + c.length)).toArray).heap[r]? = w.heap[r]? := fun r hr => by
      have hne : r ≠ b := fun h => hbA (h ▸ hr)
      rw [setRow_other _ _ _ _ hne]; exact ho2 r hne
    refine ⟨hroom, _, e, setRow_heap _ _ _ _ _ _ hb2, ?_, ?_⟩
    · show s.cap * u.size ≤ _
      have := (wr_take W1 c (i * u.size) hfit2).2.1
      simp only [List.size_toArray]
      rw [this, hW1l]; exact h3
    · show Cat _ (List.take ((xs.length + ys.length) * u.size) _) _
      have e1 : W1.take (i * u.size) = cells.toList.take (i * u.size) := by
        have : W1.take (i * u.size) = (W1.take ((i + ys.length) * u.size + ds.length)).take (i * u.size) := by
          rw [List.take_take, Nat.min_eq_left (by omega)]
        rw [this, k1, List.take_append_of_le_length (by rw [List.length_take, hcl]; omega), List.take_take, Nat.min_eq_left (by omega)]
      have e2 : W1.drop (i * u.size + c.length) = ds ++ cells.toList.drop ((i + ys.length) * u.size + ds.length) := by
        rw [← hW1, lc, hic, List.append_assoc]
        exact List.drop_left' (by rw [List.length_take, hcl]; omega)
      have e3 : (W1.toArray.toList.take (i * u.size) ++ c ++ W1.toArray.toList.drop (i * u.size + c.length)).toArray.toList.take ((xs.length + ys.length) * u.size) = cells.toList.take (i * u.size) ++ c ++ ds := by
        simp only [e1, e2]
        rw [← List.append_assoc]
        refine List.take_left' ?_
        rw [List.length_append, List.length_append, l5, lc, l6]; omega
      rw [e3]
      exact ((h5.append g1).append h6).mono (TRel.mono (fun _ h => h) hA u)
  · have k : Keep (fun r => w.heap.size ≤ r ∨ some b = some r) w w.drew := ⟨rfl, rfl, rfl, Nat.le_refl _, fun _ _ _ => rfl⟩
    have k' : Keep (fun r => w.heap.size ≤ r ∨ some b = some r) w w2 := by rw [← hw2]; exact k.trans (setRow_keep (.inr rfl))
    exact k'.trans (setRow_keep (.inr rfl))
/-- slices.Insert in the middle, where there is no room. -/
theorem ins_grow {P : Program} {t ti : TypeId} {k0 : IntKind} {u : Ty} (hty : tyB P (.slice u) t = true) (hti : P.underlying ti = some (.int k0)) (hs1 : 1 ≤ u.size) {A : Nat → Prop} {w : World} {s : Slot} {v vv : Value} {xs ys : List u.den} {i b : Nat} (O : OwnRow A w s u xs v) (hsh : Shown A w u vv ys) (hb : s.blk = some b)
    (hi : i < xs.length) (hroom : s.cap < xs.length + ys.length) (hlim : (xs.length + ys.length) * u.bytes ≤ 140737488355328) (ty0 : TypeId) :
    ∃ B G w1 w2 w3, xs.length + ys.length ≤ G ∧ (Builtin.append_ #[t, ti] ty0 #[.slice (some ⟨b, 0, none⟩) i s.cap, .int .i64 (xs.length + ys.length - i : Nat)]).run P w = .ok (.slice (some ⟨B, 0, none⟩) (xs.length + ys.length) G) w1 ∧
      (∀ ty, (Builtin.copy_ #[t, t] ty #[.slice (some ⟨B, i * u.size, none⟩) (xs.length + ys.length - i) (G - i), vv]).run P w1 = .ok (.int .i64 (ys.length : Nat)) w2) ∧
      (∀ ty, (Builtin.copy_ #[t, t] ty #[.slice (some ⟨B, (i + ys.length) * u.size, none⟩) (xs.length + ys.length - (i + ys.length)) (G - (i + ys.length)), .slice (some ⟨b, i * u.size, none⟩) (xs.length - i) (s.cap - i)]).run P w2.drew = .ok (.int .i64 (xs.length - i : Nat)) w3) ∧
      NewRow A w (some b) u (xs.take i ++ ys ++ xs.drop i) (.slice (some ⟨B, 0, none⟩) (xs.length + ys.length) G) w3 := by
  obtain ⟨cells, e, h2, h3, h4, h5, h6⟩ := row_parts O.row hb (i := i) (by omega)
  have hcl : cells.toList.length = cells.size := Array.length_toList
  have hxs : xs.length * u.size ≤ cells.size := Nat.le_trans (Nat.mul_le_mul_right _ h4) h3
  have hisz : i * u.size + (xs.length - i) * u.size = xs.length * u.size := by rw [← Nat.add_mul]; congr 1; omega
  have l5 : (cells.toList.take (i * u.size)).length = i * u.size := by rw [List.length_take, hcl]; omega
  have l6 := (Cat.len (TRel.len u) h6).trans (by rw [List.length_drop])
  have hxs : xs.length * u.size ≤ cells.size := Nat.le_trans (Nat.mul_le_mul_right _ h4) h3
  have hisz : i * u.size + (xs.length - i) * u.size = xs.length * u.size := by rw [← Nat.add_mul]; congr 1; omega
  have hds : (Builtin.firstCells u.size (xs.length - i) (.slice (some ⟨b, i * u.size, none⟩) (xs.length - i) (s.cap - i))).run P w = .ok ((cells.toList.drop (i * u.size)).take ((xs.length - i) * u.size)).toArray w := loads h2 (by omega)
  have hd0 : (Builtin.firstCells u.size i (.slice (some ⟨b, 0, none⟩) i s.cap)).run P w.drew = .ok (cells.toList.take (i * u.size)).toArray w.drew := by
    have := loads (P := P) (w := w.drew) (b := b) (cells := cells) (e := e) h2 (o := 0) (n := i) (sz := u.size) (len := i) (cap := s.cap) (by omega)
    simpa using this
  have hin : i + (xs.length + ys.length - i) = xs.length + ys.length := by omega
  obtain ⟨c0, z1, z2⟩ := (AppSrc.of_zero (A := A) (w := w) (P := P) hty hti ty0 (n := xs.length + ys.length - i) (Nat.le_trans (Nat.mul_le_mul_right _ (by omega)) hlim) hs1).out
  have z3 := z2 (some ⟨b, 0, none⟩) i s.cap (cells.toList.take (i * u.size)) hd0
  rw [List.length_replicate, hin] at z3
  obtain ⟨e0, G, z, hG, hz, hrun⟩ := z3 hroom hlim hs1
  have l0 := Cat.len (TRel.len u) z1
  rw [List.length_replicate] at l0
  generalize hR : (cells.toList.take (i * u.size)).toArray ++ c0.toArray ++ Builtin.zeroCells z (G - (xs.length + ys.length)) = R at hrun
  have hRl : R.toList = cells.toList.take (i * u.size) ++ (c0 ++ (Builtin.zeroCells z (G - (xs.length + ys.length))).toList) := by rw [← hR]; simp
  have hRs : R.toList.length = G * u.size := by
    have hzc : (Builtin.zeroCells z (G - (xs.length + ys.length))).toList.length = (G - (xs.length + ys.length)) * u.size := by
      rw [← hz]; exact size_zeroCells _ _
    rw [hRl, List.length_append, List.length_append, l5, l0, hzc, ← Nat.add_mul, ← Nat.add_mul]
    congr 1; omega
  generalize hw1 : w.drew.alloc (.cells R e0) = w1 at hrun
  have G1 : Grew w w1 := hw1 ▸ (Grew.drew w).trans (Grew.alloc w.drew _)
  have hB1 : w1.heap[w.heap.size]? = some (.cells R e0 (0, 0)) := by rw [← hw1]; exact alloc_new w.drew _
  have hblt : b < w.heap.size := heap_lt h2
  have hGs : (xs.length + ys.length) * u.size ≤ G * u.size := Nat.mul_le_mul_right _ hG
  have hic : i * u.size + ys.length * u.size = (i + ys.length) * u.size := (Nat.add_mul _ _ _).symm
  have hsum : (i + ys.length) * u.size + (xs.length - i) * u.size = (xs.length + ys.length) * u.size := by rw [← Nat.add_mul]; congr 1; omega
  -- the new elements
  obtain ⟨c, g1, g2, g3⟩ := firstN_at (P := P) hsh (w' := w1) (fun a l c e hl => by
    obtain ⟨a', cap', e', _, hc⟩ := hsh
    rw [e'] at e; injection e with e1 e2 e3
    obtain ⟨ad, k1, k2, c, k3, k4⟩ := hc (by omega)
    rw [e1] at k1; injection k1 with k1; subst k1
    have hcl : 0 < c.length := by
      rw [Cat.len (TRel.len u) k4]; exact Nat.mul_pos (by omega) (by omega)
    have k5 := k3 0 c[0] (by rw [List.getElem?_eq_getElem hcl])
    have k6 : w.cell? a = some c[0] := by simpa [Addr.add] using k5
    have hlt : a.block < w.heap.size := by
      unfold World.cell? at k6
      split at k6
      · rename_i ho; exact heap_lt ho
      · cases k6
    exact G1.block _ hlt) ys.length (Nat.le_refl _)
  rw [List.take_length] at g1
  have lc := Cat.len (TRel.len u) g1
  have hfit2 : i * u.size + c.length ≤ R.toList.length := by rw [lc, hRs]; omega
  have cA := fun ty => copy_cells (P := P) hty [t] ty hB1 (o := i * u.size) (dn := xs.length + ys.length - i) (dc := G - i) (m := ys.length) (k := ys.length) (c := c) g3 (by omega) g2 (g1.all (TRel.one u)) (by simpa using hfit2)
  obtain ⟨k1, k2, k3⟩ := wr_take R.toList c (i * u.size) hfit2
  generalize hW2 : R.toList.take (i * u.size) ++ c ++ R.toList.drop (i * u.size + c.length) = W2 at cA k1 k2 k3
  generalize hw2 : w1.setRow w.heap.size W2.toArray = w2 at cA
  have hB2 : w2.drew.heap[w.heap.size]? = some (.cells W2.toArray e0 (0, 0)) := by
    show w2.heap[w.heap.size]? = _
    rw [← hw2]; exact setRow_heap _ _ _ _ _ _ hB1
  have ho2 : ∀ r, r < w.heap.size → w2.heap[r]? = w.heap[r]? := fun r hr => by rw [← hw2, setRow_other _ _ _ _ (by omega)]; exact G1.block r hr
  have hds2 : (Builtin.firstCells u.size (xs.length - i) (.slice (some ⟨b, i * u.size, none⟩) (xs.length - i) (s.cap - i))).run P w2.drew = .ok ((cells.toList.drop (i * u.size)).take ((xs.length - i) * u.size)).toArray w2.drew := loads (w := w2.drew) (by show w2.heap[b]? = _; rw [ho2 b hblt]; exact h2) (by omega)
  generalize (cells.toList.drop (i * u.size)).take ((xs.length - i) * u.size) = ds at hds2 h6 l6
  have hfit3 : (i + ys.length) * u.size + ds.length ≤ W2.length := by rw [k2, hRs, l6]; omega
  have cB := fun ty => copy_cells (P := P) hty [t] ty hB2 (o := (i + ys.length) * u.size) (dn := xs.length + ys.length - (i + ys.length)) (dc := G - (i + ys.length)) (m := xs.length - i) (k := xs.length - i) (c := ds) ⟨_, _, rfl⟩ (by omega) hds2 (h6.all (TRel.one u)) (by simpa using hfit3)
  obtain ⟨q1, q2, q3⟩ := wr_take W2 ds ((i + ys.length) * u.size) hfit3
  refine ⟨w.heap.size, G, w1, w2, _, hG, hrun, cA, cB, ⟨some w.heap.size, G, xs.length + ys.length⟩, rfl, ⟨?_, hG, _, e0, setRow_heap _ _ _ _ _ _ hB2, ?_, ?_⟩, fun b' h => .inr (by injection h with h; omega), ?_⟩
  · simp only [List.length_append, List.length_take, List.length_drop]; omega
  · show G * u.size ≤ _
    simp only [List.size_toArray]
    rw [q2, k2, hRs]; exact Nat.le_refl _
  · have hA : ∀ r, A r → (w2.drew.setRow w.heap.size (W2.toArray.toList.take ((i + ys.length) * u.size) ++ ds ++ W2.toArray.toList.drop ((i + ys.length) * u.size + ds.length)).toArray).heap[r]? = w.heap[r]? := fun r hr => by
      have hlt := O.lt r hr
      rw [setRow_other _ _ _ _ (by omega)]; exact ho2 r hlt
    show Cat _ (List.take ((xs.length + ys.length) * u.size) _) _
    have e1 : W2.take ((i + ys.length) * u.size) = cells.toList.take (i * u.size) ++ c := by
      have : (i + ys.length) * u.size = i * u.size + c.length := by rw [lc]; omega
      rw [this, k1, hRl]
      congr 1
      exact List.take_left' l5
    have e2 : (xs.length + ys.length) * u.size = (i + ys.length) * u.size + ds.length := by rw [l6]; omega
    have e3 : (W2.toArray.toList.take ((i + ys.length) * u.size) ++ ds ++ W2.toArray.toList.drop ((i + ys.length) * u.size + ds.length)).toArray.toList.take ((xs.length + ys.length) * u.size) = cells.toList.take (i * u.size) ++ c ++ ds := by
      simp only []
      rw [e2, q1, e1]
    rw [e3]
    exact ((h5.append g1).append h6).mono (TRel.mono (fun _ h => h) hA u)
  · have kk : Keep (fun r => w.heap.size ≤ r ∨ some b = some r) w w2 := by rw [← hw2]; exact G1.keep.trans (setRow_keep (.inl (Nat.le_refl _)))
    have k' : Keep (fun r => w.heap.size ≤ r ∨ some b = some r) w w2.drew := kk.trans ⟨rfl, rfl, rfl, Nat.le_refl _, fun _ _ _ => rfl⟩
    exact k'.trans (setRow_keep (.inl (Nat.le_refl _)))
end Go.Proofs.YtkihjakbbcajbaaGreat.PM
