/- One operation of the pure machine, and that the real one does the same: append, copy, clear, comparisons, conversions. -/
import Derived.Test.YtkihjakbbcajbaaGreatPM9
import Derived.Laws.AppendOwn
namespace Go.Proofs.YtkihjakbbcajbaaGreat.PM
set_option linter.unusedSimpArgs false
set_option linter.unusedVariables false
open Go

section
variable {P : Program} {E : Env} {t : TypeId} {g : Gh} {A W : Nat → Prop} {w w' : World} {h : Hp}
theorem run_first {u : Ty} {v : Value} {ys : List u.den} (hs : Shown A w u v ys) (w' : World) (hw : w'.heap = w.heap) : ∃ c : List Value, Cat (TRel A w u) c ys ∧ c.length = ys.length * u.size ∧ (Builtin.firstCells u.size ys.length v).run P w' = .ok c.toArray w' ∧ ∃ a cap, v = .slice a ys.length cap := by
  obtain ⟨a, cap, rfl, hcap, hc⟩ := hs
  by_cases h0 : 0 < ys.length
  · obtain ⟨ad, rfl, r1, c, r2, r3⟩ := hc h0
    have hl := Cat.len (TRel.len u) r3
    have r2' : At w' ad c := r2.mono (by rw [hw])
    have hr := run_loadCells_list (P := P) w' ad c r2'
    refine ⟨c, r3, hl, ?_, _, _, rfl⟩
    rw [hl] at hr
    simp only [Builtin.firstCells]
    exact hr
  · have : ys = [] := by
      cases ys with
      | nil => rfl
      | cons y ys => simp at h0
    subst this
    refine ⟨[], rfl, by simp, ?_, _, _, rfl⟩
    cases a with
    | none => simp [Builtin.firstCells]
    | some a =>
      have hr := run_loadCells_list (P := P) w' a [] (fun j v hj => by simp at hj)
      simp only [Builtin.firstCells, List.length_nil, Nat.zero_mul]
      exact hr
theorem run_append_in {u : Ty} (hty : tyB P (.slice u) t = true) (ty : TypeId) {base : Option Addr} {sLen sCap m : Nat} {vx : Value} {c : List Value} (hv : ∃ a cap, vx = .slice a m cap) (hf : (Builtin.firstCells u.size m vx).run P w = .ok c.toArray w) (hr : sLen + m ≤ sCap) :
    (Builtin.append_ #[t, t] ty #[.slice base sLen sCap, vx]).run P w = ((match base with | some a => storeCells (a.add (sLen * u.size)) c | none => pure ()).run P w).andThen fun _ w' => .ok (.slice base (sLen + m) sCap) w' := by
  obtain ⟨a, cap, rfl⟩ := hv
  obtain ⟨e0, hu, he⟩ := slice_und hty
  cases base with
  | none => simp [Builtin.append_, run_underlying hu, run_sizeT w he, Builtin.lenOf, hr, hf]
  | some b => simp [Builtin.append_, run_underlying hu, run_sizeT w he, Builtin.lenOf, hr, hf]
theorem run_append_out {u : Ty} (hty : tyB P (.slice u) t = true) (ty : TypeId) {base : Option Addr} {sLen sCap m : Nat} {vx : Value} {c d : List Value} (hv : ∃ a cap, vx = .slice a m cap) (hf : (Builtin.firstCells u.size m vx).run P w.drew = .ok c.toArray w.drew)
    (hd : (Builtin.firstCells u.size sLen (.slice base sLen sCap)).run P w.drew = .ok d.toArray w.drew) (hr : sCap < sLen + m) (hlim : (sLen + m) * u.bytes ≤ 140737488355328) (hs1 : 1 ≤ u.size) :
    ∃ (e0 : TypeId) (cap : Nat) (z : Array Value), sLen + m ≤ cap ∧ z.size = u.size ∧ (Builtin.append_ #[t, t] ty #[.slice base sLen sCap, vx]).run P w = .ok (.slice (some ⟨w.heap.size, 0, none⟩) (sLen + m) cap) (w.drew.alloc (.cells (d.toArray ++ c.toArray ++ Builtin.zeroCells z (cap - (sLen + m))) e0)) := by
  obtain ⟨a, capx, rfl⟩ := hv
  obtain ⟨e0, hu, he⟩ := slice_und hty
  obtain ⟨i, z, hi1, hi2, hi3, hi4, hz, hrun⟩ := run_zero he
  have hzs : z.cells.size = u.size := by
    have := TRel.len u _ _ (zcells_rel (fun _ => True) w u)
    rw [← hz, Array.length_toList] at this; exact this
  have hb := size_bytes u
  have hn : ¬ (sLen + m ≤ sCap) := by omega
  have h1 : (sLen + m) * 1 ≤ (sLen + m) * u.bytes := Nat.mul_le_mul_left _ (by omega)
  have h63' : ¬ (9223372036854775807 < ((sLen : Int) + (m : Int))) := by omega
  have h48 := growslice_fits (need := sLen + m) (old := sCap) (bytes := i.bytes) hr (Nat.le_trans (Nat.mul_le_mul_left _ hi4) hlim)
  have h48' : ¬ (281474976710656 < Builtin.nextslicecap (sLen + m) sCap * i.bytes) := by omega
  rw [← hi3] at hf hd
  refine ⟨e0, grownCap w (sLen + m) sCap e0, z.cells, grownCap_ge _ _ _ _, hzs, ?_⟩
  simp [Builtin.append_, run_underlying hu, sizeOf, typeInfo, zeroValue, hi1, hi2, Builtin.lenOf, hn, h63', h48', Question.forced, hf, hd, newRow, grownCap]
  congr 2
  apply Array.ext'
  simp [List.append_assoc]
/-- What is appended: a list's elements, or zeros. -/
structure AppSrc (P : Program) (t t' ty : TypeId) (u : Ty) (A : Nat → Prop) (w : World) (vx : Value) (ys : List u.den) : Prop where
  inn : ∃ c : List Value, Cat (TRel A w u) c ys ∧ c.length = ys.length * u.size ∧ ∀ (base : Option Addr) (sLen sCap : Nat), sLen + ys.length ≤ sCap →
    (Builtin.append_ #[t, t'] ty #[.slice base sLen sCap, vx]).run P w = ((match base with | some a => storeCells (a.add (sLen * u.size)) c | none => pure ()).run P w).andThen fun _ w' => .ok (.slice base (sLen + ys.length) sCap) w'
  out : ∃ c : List Value, Cat (TRel A w u) c ys ∧ ∀ (base : Option Addr) (sLen sCap : Nat) (d : List Value), (Builtin.firstCells u.size sLen (.slice base sLen sCap)).run P w.drew = .ok d.toArray w.drew → sCap < sLen + ys.length → (sLen + ys.length) * u.bytes ≤ 140737488355328 → 1 ≤ u.size →
    ∃ (e0 : TypeId) (cap : Nat) (z : Array Value), sLen + ys.length ≤ cap ∧ z.size = u.size ∧ (Builtin.append_ #[t, t'] ty #[.slice base sLen sCap, vx]).run P w = .ok (.slice (some ⟨w.heap.size, 0, none⟩) (sLen + ys.length) cap) (w.drew.alloc (.cells (d.toArray ++ c.toArray ++ Builtin.zeroCells z (cap - (sLen + ys.length))) e0))
theorem AppSrc.of_shown {u : Ty} (hty : tyB P (.slice u) t = true) (ty : TypeId) {vx : Value} {ys : List u.den} (hx : Shown A w u vx ys) : AppSrc P t t ty u A w vx ys := by
  obtain ⟨c, c1, c2, c3, hvx⟩ := run_first (P := P) hx w rfl
  obtain ⟨c', c1', c2', c3', _⟩ := run_first (P := P) hx w.drew rfl
  exact ⟨⟨c, c1, c2, fun base sLen sCap hr => run_append_in hty ty hvx c3 hr⟩, ⟨c', c1', fun base sLen sCap d hd hr hlim hs1 => run_append_out hty ty hvx c3' hd hr hlim hs1⟩⟩
theorem zeroCells_list (z : Array Value) : ∀ n : Nat, (Builtin.zeroCells z n).toList = (List.replicate n z.toList).flatten
  | n => madeCells_eq z z.size rfl n
theorem AppSrc.of_zero {u : Ty} (hty : tyB P (.slice u) t = true) {t' : TypeId} {k : IntKind} (ht' : P.underlying t' = some (.int k)) (ty : TypeId) {n : Nat} (hlim : n * u.bytes ≤ 140737488355328) (hs1 : 1 ≤ u.size) : AppSrc P t t' ty u A w (.int .i64 (n : Int)) (List.replicate n u.zero) := by
  obtain ⟨e0, hu, he⟩ := slice_und hty
  obtain ⟨i, z, hi1, hi2, hi3, hi4, hz, hrun⟩ := run_zero he
  have hzs : z.cells.size = u.size := by
    have := TRel.len u _ _ (zcells_rel (fun _ => True) w u)
    rw [← hz, Array.length_toList] at this; exact this
  have hb := size_bytes u
  have h1 : n * 1 ≤ n * u.bytes := Nat.mul_le_mul_left _ (by omega)
  have hn63 : (n : Int) ≤ 9223372036854775807 := by omega
  have hw : IntKind.i64.wrap (n : Int) = n := by rw [IntKind.wrap_i64]; omega
  have hneg : ¬ ((n : Int) < 0) := by omega
  have hib : n * i.bytes ≤ 140737488355328 := Nat.le_trans (Nat.mul_le_mul_left _ hi4) hlim
  have h48i : ¬ (281474976710656 < (n : Int) * (i.bytes : Int)) := by
    rw [← Int.natCast_mul]; omega
  have hc : Cat (TRel A w u) (List.replicate n z.cells.toList).flatten (List.replicate n u.zero) := by
    rw [hz]; exact Cat.replicate (zcells_rel A w u) n
  have hcl : (List.replicate n z.cells.toList).flatten.length = n * u.size := by
    have := Cat.len (TRel.len u) hc
    simpa using this
  have hzl : Builtin.zeroCells z.cells n = (List.replicate n z.cells.toList).flatten.toArray := by
    apply Array.toList_inj.1
    rw [zeroCells_list]
  have hnil : n * i.size = 0 → (List.replicate n z.cells.toList).flatten = [] := fun h0 => List.eq_nil_of_length_eq_zero (by rw [hcl, ← hi3, h0])
  refine ⟨⟨_, hc, by rw [hcl]; simp, fun base sLen sCap hr => ?_⟩, ⟨_, hc, fun base sLen sCap d hd hr hlim2 _ => ?_⟩⟩
  · simp only [List.length_replicate] at hr ⊢
    by_cases h0 : n * i.size = 0
    · rw [hnil h0]
      cases base with
      | none => simp [Builtin.append_, run_underlying hu, run_underlying ht', sizeOf, typeInfo, hi1, asInt, asIntOf, hw, hneg, h48i, hr, h0]
      | some b =>
        have h0' : n * u.size = 0 := by rw [← hi3]; exact h0
        simp [Builtin.append_, run_underlying hu, run_underlying ht', sizeOf, typeInfo, hi1, asInt, asIntOf, hw, hneg, h48i, hr, h0', hi3]
    · cases base with
      | none => simp [Builtin.append_, run_underlying hu, run_underlying ht', sizeOf, typeInfo, hi1, asInt, asIntOf, hw, hneg, h48i, hr, h0, hrun, hzl]
      | some b =>
        have h0' : ¬ (n * u.size = 0) := by rw [← hi3]; exact h0
        simp [Builtin.append_, run_underlying hu, run_underlying ht', sizeOf, typeInfo, hi1, asInt, asIntOf, hw, hneg, h48i, hr, h0', hrun, hzl, hi3]
  · simp only [List.length_replicate] at hr hlim2 ⊢
    have hnn : ¬ (sLen + n ≤ sCap) := by omega
    have h2 : (sLen + n) * 1 ≤ (sLen + n) * u.bytes := Nat.mul_le_mul_left _ (by omega)
    have h63' : ¬ (9223372036854775807 < ((sLen : Int) + (n : Int))) := by omega
    have h48 := growslice_fits (need := sLen + n) (old := sCap) (bytes := i.bytes) hr (Nat.le_trans (Nat.mul_le_mul_left _ hi4) hlim2)
    have h48' : ¬ (281474976710656 < Builtin.nextslicecap (sLen + n) sCap * i.bytes) := by omega
    rw [← hi3] at hd
    refine ⟨e0, grownCap w (sLen + n) sCap e0, z.cells, grownCap_ge _ _ _ _, hzs, ?_⟩
    by_cases h0 : n * i.size = 0
    · rw [hnil h0]
      simp [Builtin.append_, run_underlying hu, run_underlying ht', sizeOf, typeInfo, zeroValue, hi1, hi2, asInt, asIntOf, hw, hneg, h48i, hnn, h63', h48', Question.forced, hd, newRow, grownCap, h0]
    · have hzl' : (Builtin.zeroCells z.cells n) = (List.replicate n z.cells.toList).flatten.toArray := hzl
      rw [← hzl']
      simp [Builtin.append_, run_underlying hu, run_underlying ht', sizeOf, typeInfo, zeroValue, hi1, hi2, asInt, asIntOf, hw, hneg, h48i, hnn, h63', h48', Question.forced, hd, newRow, grownCap, h0]
theorem cat_zero {u : Ty} {d c : List Value} {xs ys : List u.den} {z : Array Value} {n : Nat} (h1 : Cat (TRel A w u) d xs) (h2 : Cat (TRel A w u) c ys) :
    Cat (TRel A w u) ((d.toArray ++ c.toArray ++ Builtin.zeroCells z n).toList.take ((xs.length + ys.length) * u.size)) (xs ++ ys) := by
  have h3 := h1.append h2
  have hl := Cat.len (TRel.len u) h3
  have : (d.toArray ++ c.toArray ++ Builtin.zeroCells z n).toList = (d ++ c) ++ (Builtin.zeroCells z n).toList := by simp
  rw [this, ← List.length_append, ← hl, List.take_left]
  exact h3
/-- A row that is the call's own, cut and longer: the old one goes, the new one comes. -/
theorem append_core {u : Ty} {t' ty : TypeId} (hs1 : 1 ≤ u.size) (H : HR g A W w h) (hW : ∀ r, w.heap.size ≤ r → W r) {id nw len : Nat} {xs ys : List u.den} {s : Slot} {vx : Value} (hb : h.at id = some (.row u xs false)) (hg : g id = some s) (hlen : len ≤ xs.length)
    (hx : AppSrc P t t' ty u A w vx ys) (hlim : (len + ys.length) * u.bytes ≤ 140737488355328) (hn : look nw h = none) :
    ∃ s' w' v, (Builtin.append_ #[t, t'] ty #[.slice (s.blk.map fun b => ⟨b, 0, none⟩) len s.cap, vx]).run P w = .ok v w' ∧ Step g A W w (upd g nw s') A w' ((nw, some (.row u (xs.take len ++ ys) false)) :: (id, none) :: h) ∧ SlV s' v ∧
      RowAt A w' ⟨s.blk, s.cap, len⟩ u (xs.take len) ∧ (∀ r, s.blk = some r → r < w'.heap.size) := by
  obtain ⟨c, c1, c2, c3⟩ := hx.inn
  obtain ⟨c', c1', c3'⟩ := hx.out
  have hB0 := H.blk id _ hb
  obtain ⟨s0, hg0, ⟨hl0, hrow⟩, _⟩ := hB0
  rw [hg] at hg0; injection hg0 with hg0; subst hg0
  have hne : id ≠ nw := by rintro rfl; rw [at_look hb] at hn; cases hn
  have hn' : look nw ((id, none) :: h) = none := by rw [look_cons, if_neg (fun e => hne e.symm)]; exact hn
  have hll : (xs.take len ++ ys).length = len + ys.length := by rw [List.length_append, List.length_take]; omega
  have htl : (xs.take len).length = len := by rw [List.length_take]; omega
  by_cases hr : len + ys.length ≤ s.cap
  · have hrun := c3 (s.blk.map fun b => ⟨b, 0, none⟩) len s.cap hr
    cases hs : s.blk with
    | none =>
      rw [hs] at hrow hrun
      obtain ⟨h1, h2⟩ := hrow
      have hy0 : ys = [] := List.eq_nil_of_length_eq_zero (by omega)
      have hx0 : xs = [] := List.eq_nil_of_length_eq_zero (by omega)
      subst hy0 hx0
      simp only [List.length_nil] at hlen
      obtain rfl : len = 0 := by omega
      refine ⟨⟨none, 0, 0⟩, w, .slice none 0 0, by rw [hrun]; simp [h2], ⟨le_upd (H.gnone hn), fun _ h => h, fun _ h => .inl h, (H.del id).add hn' ⟨none, 0, 0⟩ ⟨_, upd_self _ _ _, ⟨rfl, rfl, rfl⟩, fun h => by cases h⟩ (fun _ r hr => by cases hr), fun _ _ => rfl, .refl W w⟩, ⟨rfl, rfl, rfl⟩, ⟨rfl, by simp [h2]⟩, fun r hr => by cases hr⟩
    | some b =>
      rw [hs] at hrow hrun
      obtain ⟨h1, cells, e, h3, h4, h5⟩ := hrow
      have hcap : (len + ys.length) * u.size ≤ cells.size := Nat.le_trans (Nat.mul_le_mul_right _ hr) h4
      rw [Nat.add_mul] at hcap
      have hst := run_storeCells_at (P := P) b (len * u.size) e c 0 cells w h3 (by rw [c2]; omega) (c1.all (TRel.one u))
      simp only [Nat.add_zero] at hst
      have hw1 : ∀ r, r ≠ b → (w.setRow b (cells.toList.take (len * u.size) ++ c ++ cells.toList.drop (len * u.size + c.length)).toArray).heap[r]? = w.heap[r]? := fun r hr => setRow_other w b r _ hr
      obtain ⟨H1, hf⟩ := H.delMove hb rfl hg hs hw1 (by simp)
      have ho := H.own id _ s b hb rfl hg hs
      have hA : ∀ r, A r → (w.setRow b (cells.toList.take (len * u.size) ++ c ++ cells.toList.drop (len * u.size + c.length)).toArray).heap[r]? = w.heap[r]? := fun r hr => hw1 r (fun e => ho.1 (e ▸ hr))
      have hh := setRow_heap w b cells (cells.toList.take (len * u.size) ++ c ++ cells.toList.drop (len * u.size + c.length)).toArray e (0, 0) h3
      have htake : (cells.toList.take (s.len * u.size)).take (len * u.size) = cells.toList.take (len * u.size) := by
        rw [List.take_take, Nat.min_eq_left (Nat.mul_le_mul_right _ (by omega))]
      have hold : Cat (TRel A w u) (cells.toList.take (len * u.size)) (xs.take len) := by
        rw [← htake]; exact h5.take (TRel.len u) len hlen
      have hcl : cells.toList.length = cells.size := by simp
      have hol : (cells.toList.take (len * u.size)).length = len * u.size := by rw [List.length_take]; omega
      have hnew : Cat (TRel A w u) (((cells.toList.take (len * u.size) ++ c ++ cells.toList.drop (len * u.size + c.length)).toArray.toList).take ((len + ys.length) * u.size)) (xs.take len ++ ys) := by
        have := hold.append c1
        have e1 : (len + ys.length) * u.size = (cells.toList.take (len * u.size) ++ c).length := by rw [List.length_append, hol, c2, Nat.add_mul]
        simp only [] 
        rw [e1, List.take_left]; exact this
      have hsz : s.cap * u.size ≤ (cells.toList.take (len * u.size) ++ c ++ cells.toList.drop (len * u.size + c.length)).toArray.size := by
        simp only [List.size_toArray, List.length_append, List.length_drop, hol, hcl, c2]; omega
      refine ⟨⟨some b, s.cap, len + ys.length⟩, _, .slice (some ⟨b, 0, none⟩) (len + ys.length) s.cap, ?_, ⟨le_upd (H.gnone hn), fun _ h => h, fun _ h => .inl h, H1.add hn' _ ⟨_, upd_self _ _ _, ⟨hll.symm, hr, _, e, hh, hsz, hnew.mono (TRel.mono (fun _ h => h) hA u)⟩, fun h => by cases h⟩ (fun _ r hr => by injection hr with hr; subst hr; exact ⟨ho.1, ho.2, hf⟩), hA, setRow_keep ho.2⟩, rfl, ⟨htl.symm, ?_⟩, fun r hr => by
        injection hr with hr; subst hr; exact heap_lt hh⟩
      · rw [hrun]
        simp only [Option.map_some, add_at, Nat.zero_add, hst, Result.andThen_ok]
      · refine ⟨show len ≤ s.cap by omega, _, e, hh, hsz, ?_⟩
        have e1 : len * u.size = (cells.toList.take (len * u.size)).length := hol.symm
        have : ((cells.toList.take (len * u.size) ++ c ++ cells.toList.drop (len * u.size + c.length)).toArray.toList).take (len * u.size) = cells.toList.take (len * u.size) := by
          simp only []
          rw [List.append_assoc]
          exact List.take_left' hol
        rw [this]
        exact hold.mono (TRel.mono (fun _ h => h) hA u)
  · have hdn : ∃ d : List Value, Cat (TRel A w u) d (xs.take len) ∧ (Builtin.firstCells u.size len (.slice (s.blk.map fun b => ⟨b, 0, none⟩) len s.cap)).run P w.drew = .ok d.toArray w.drew := by
      cases hs : s.blk with
      | none =>
        rw [hs] at hrow
        have hx0 : xs = [] := List.eq_nil_of_length_eq_zero (by omega)
        subst hx0
        simp only [List.length_nil] at hlen
        obtain rfl : len = 0 := by omega
        exact ⟨[], rfl, by simp [Builtin.firstCells]⟩
      | some b =>
        rw [hs] at hrow
        obtain ⟨h1, cells, e, h3, h4, h5⟩ := hrow
        have htake : (cells.toList.take (s.len * u.size)).take (len * u.size) = cells.toList.take (len * u.size) := by
          rw [List.take_take, Nat.min_eq_left (Nat.mul_le_mul_right _ (by omega))]
        have hold : Cat (TRel A w u) (cells.toList.take (len * u.size)) (xs.take len) := by
          rw [← htake]; exact h5.take (TRel.len u) len hlen
        have hl := Cat.len (TRel.len u) hold
        rw [htl] at hl
        have hat : At w.drew ⟨b, 0, none⟩ (cells.toList.take (len * u.size)) := At_block (w := w.drew) h3 (fun j v hj => by
          rw [List.getElem?_take] at hj
          split at hj
          · simpa using hj
          · cases hj)
        have hrd := run_loadCells_list (P := P) w.drew _ _ hat
        rw [hl] at hrd
        exact ⟨_, hold, by simp only [Builtin.firstCells, Option.map_some]; exact hrd⟩
    obtain ⟨d, d1, d2⟩ := hdn
    obtain ⟨e0, cap, z, hcap, hz, hrun⟩ := c3' (s.blk.map fun b => ⟨b, 0, none⟩) len s.cap d d2 (by omega) hlim hs1
    have c1w : Cat (TRel A w u) c' ys := c1'
    have G : Grew w (w.drew.alloc (.cells (d.toArray ++ c'.toArray ++ Builtin.zeroCells z (cap - (len + ys.length))) e0)) := (Grew.drew w).trans (Grew.alloc w.drew _)
    have hA : ∀ r, A r → (w.drew.alloc (.cells (d.toArray ++ c'.toArray ++ Builtin.zeroCells z (cap - (len + ys.length))) e0)).heap[r]? = w.heap[r]? := fun r hr => G.block r (H.lt r hr)
    have hcz := cat_zero (z := z) (n := cap - (len + ys.length)) d1 c1w
    rw [htl] at hcz
    have hl := Cat.len (TRel.len u) (d1.append c1w)
    rw [List.length_append, hll] at hl
    have hB : BRel (upd g nw ⟨some w.heap.size, cap, len + ys.length⟩) A (w.drew.alloc (.cells (d.toArray ++ c'.toArray ++ Builtin.zeroCells z (cap - (len + ys.length))) e0)) nw (.row u (xs.take len ++ ys) false) :=
      ⟨_, upd_self _ _ _, ⟨hll.symm, hcap, _, e0, alloc_new w.drew _, by
        simp only [Array.size_append, List.size_toArray, size_zeroCells, hz, hl, ← Nat.add_mul]
        exact Nat.mul_le_mul_right _ (by omega), hcz.mono (TRel.mono (fun _ h => h) hA u)⟩, fun h => by cases h⟩
    refine ⟨_, _, .slice (some ⟨w.heap.size, 0, none⟩) (len + ys.length) cap, hrun, ⟨le_upd (H.gnone hn), fun _ h => h, fun _ h => .inl h, (Step.new (H.del id) G hn' (hW _ (Nat.le_refl _)) rfl hB).hr, hA, G.keep⟩, rfl, ⟨htl.symm, ?_⟩, fun r hr => Nat.lt_of_lt_of_le ((H.blk id _ hb).lt hg hr) G.size⟩
    cases hs : s.blk with
    | none => rw [hs] at hrow; exact ⟨show len = 0 by omega, hrow.2⟩
    | some b =>
      rw [hs] at hrow
      obtain ⟨h1, cells, e, h3, h4, h5⟩ := hrow
      refine ⟨show len ≤ s.cap by omega, cells, e, by rw [G.block b (heap_lt h3)]; exact h3, h4, ?_⟩
      have htake : (cells.toList.take (s.len * u.size)).take (len * u.size) = cells.toList.take (len * u.size) := by
        rw [List.take_take, Nat.min_eq_left (Nat.mul_le_mul_right _ (by omega))]
      show Cat (TRel A _ u) (cells.toList.take (len * u.size)) (xs.take len)
      rw [← htake]
      exact (h5.take (TRel.len u) len hlen).mono (TRel.mono (fun _ h => h) hA u)
theorem splice_len {α : Type} (xs : List α) (o : Nat) (ys : List α) (h : o + ys.length ≤ xs.length) : (splice xs o ys).length = xs.length := by
  unfold splice; simp only [List.length_append, List.length_take, List.length_drop]; omega
theorem Cat.splice {α : Type} {R : List Value → α → Prop} {s : Nat} (hR : ∀ c x, R c x → c.length = s) {cs ds : List Value} {xs ys : List α} (h1 : Cat R cs xs) (h2 : Cat R ds ys) (o : Nat) (h : o + ys.length ≤ xs.length) :
    Cat R (cs.take (o * s) ++ ds ++ cs.drop ((o + ys.length) * s)) (PM.splice xs o ys) :=
  ((h1.take hR o (by omega)).append h2).append (h1.drop hR (o + ys.length) h)
/-- The cells of a row's block where some elements are written. -/
theorem row_splice {u : Ty} {cells : Array Value} {c : List Value} {xs ys : List u.den} {m o : Nat} (hm : m * u.size ≤ cells.size) (h1 : Cat (TRel A w u) (cells.toList.take (m * u.size)) xs) (h2 : Cat (TRel A w u) c ys) (hx : xs.length = m) (h : o + ys.length ≤ xs.length) :
    Cat (TRel A w u) ((cells.toList.take (o * u.size) ++ c ++ cells.toList.drop (o * u.size + c.length)).toArray.toList.take (m * u.size)) (splice xs o ys) := by
  have hs := Cat.splice (TRel.len u) h1 h2 o h
  have hc := Cat.len (TRel.len u) h2
  have hmo : (o + ys.length) * u.size ≤ m * u.size := Nat.mul_le_mul_right _ (by omega)
  rw [Nat.add_mul] at hmo
  have e : cells.toList.take (o * u.size) ++ c ++ cells.toList.drop (o * u.size + c.length) = ((cells.toList.take (m * u.size)).take (o * u.size) ++ c ++ (cells.toList.take (m * u.size)).drop ((o + ys.length) * u.size)) ++ cells.toList.drop (m * u.size) := by
    rw [List.take_take, Nat.min_eq_left (by omega), List.append_assoc _ _ (cells.toList.drop (m * u.size)), Nat.add_mul, hc]
    congr 1
    have : cells.toList.drop (o * u.size + ys.length * u.size) = (cells.toList.take (m * u.size) ++ cells.toList.drop (m * u.size)).drop (o * u.size + ys.length * u.size) := by rw [List.take_append_drop]
    rw [this, List.drop_append_of_le_length (by
      have hcz : cells.toList.length = cells.size := by simp
      rw [List.length_take, hcz, Nat.min_eq_left hm]; exact hmo)]
  simp only []
  rw [e]
  have hl : ((cells.toList.take (m * u.size)).take (o * u.size) ++ c ++ (cells.toList.take (m * u.size)).drop ((o + ys.length) * u.size)).length = m * u.size := by
    rw [Cat.len (TRel.len u) hs, splice_len _ _ _ h, hx]
  rw [List.take_left' hl]
  exact hs
/-- Some elements of a row of the call's own are written. -/
theorem write_row {u : Ty} (H : HR g A W w h) {id b : Nat} {xs ys : List u.den} {s : Slot} {c : List Value} {o : Nat} (hb : h.at id = some (.row u xs false)) (hg : g id = some s) (hs : s.blk = some b) (hc : Cat (TRel A w u) c ys) (ho : o + ys.length ≤ xs.length) :
    ∃ w', (storeCells ⟨b, o * u.size, none⟩ c).run P w = .ok () w' ∧ Step g A W w g A w' ((id, some (.row u (splice xs o ys) false)) :: h) := by
  obtain ⟨s0, hg0, ⟨hl0, hrow⟩, _⟩ := H.blk id _ hb
  rw [hg] at hg0; injection hg0 with hg0; subst hg0
  rw [hs] at hrow
  obtain ⟨h1, cells, e, h3, h4, h5⟩ := hrow
  have hcl := Cat.len (TRel.len u) hc
  have hle : (o + ys.length) * u.size ≤ s.len * u.size := Nat.mul_le_mul_right _ (by omega)
  have hle2 : s.len * u.size ≤ cells.size := Nat.le_trans (Nat.mul_le_mul_right _ h1) h4
  rw [Nat.add_mul] at hle
  have hst := run_storeCells_at (P := P) b (o * u.size) e c 0 cells w h3 (by rw [hcl]; omega) (hc.all (TRel.one u))
  simp only [Nat.add_zero] at hst
  have hcz : cells.toList.length = cells.size := by simp
  have hA : ∀ r, A r → (w.setRow b (cells.toList.take (o * u.size) ++ c ++ cells.toList.drop (o * u.size + c.length)).toArray).heap[r]? = w.heap[r]? := fun r hr => setRow_other w b r _ (fun e => (H.own id _ s b hb rfl hg hs).1 (e ▸ hr))
  refine ⟨_, hst, Step.set H hb rfl hg hs ⟨s, hg, ⟨by rw [splice_len _ _ _ ho]; exact hl0, ?_⟩, fun h => by cases h⟩⟩
  rw [hs]
  refine ⟨h1, _, e, setRow_heap w b cells _ e (0, 0) h3, ?_, (row_splice hle2 h5 hc hl0.symm ho).mono (TRel.mono (fun _ h => h) hA u)⟩
  simp only [List.size_toArray, List.length_append, List.length_take, List.length_drop, hcz, hcl]; omega
theorem look_ne {id nw : Nat} {b : Blk} (hb : h.at id = some b) (hn : look nw h = none) : id ≠ nw := by rintro rfl; rw [at_look hb] at hn; cases hn
theorem appendTo_ok {u : Ty} {t' ty : TypeId} (hs1 : 1 ≤ u.size) (H : HR g A W w h) (hW : ∀ r, w.heap.size ≤ r → W r) {s y : PV} {vs vx : Value} {ys : List u.den} {share : Bool} {nw : Nat} {h' : Hp} (hs : VRel g A w s vs) (hx : AppSrc P t t' ty u A w vx ys) (e : (appendTo u s ys share nw).Ok h y h') :
    ∃ g' A' w' v, (Builtin.append_ #[t, t'] ty #[vs, vx]).run P w = .ok v w' ∧ Step g A W w g' A' w' h' ∧ VRel g' A' w' y v := by
  cases s with
  | sl id =>
    simp only [appendTo, Q.Ok] at e
    obtain ⟨B, hb, e⟩ := e
    cases B with
    | box x => simp [Q.Ok] at e
    | row u' xs fz =>
      cases fz with
      | true => simp [Q.Ok] at e
      | false =>
        simp only [Ok_bind, Ok_get, Ok_ask] at e
        obtain ⟨xs', h1, ⟨ec0, rfl⟩, hlim, e⟩ := e
        obtain ⟨ec, _⟩ := cast_some ec0
        injection ec with ec
        subst ec
        obtain rfl := cast_self ec0
        have hlim := lim_out hlim
        obtain ⟨s, hg, hv⟩ := to_sl hs
        have hB0 := H.blk id _ hb
        obtain ⟨s', hg', ⟨hlen, hrow⟩, _⟩ := hB0
        rw [hg] at hg'; injection hg' with hg'; subst hg'
        have hvs : vs = .slice (s.blk.map fun b => ⟨b, 0, none⟩) xs.length s.cap := by
          unfold SlV at hv
          cases hs0 : s.blk with
          | none => rw [hs0] at hv; rw [hv.1, ← hlen, hv.2.1, hv.2.2]; rfl
          | some b => rw [hs0] at hv; rw [hv, hlen]; rfl
        rw [Ok_cond] at e
        rcases e with ⟨hsh, e⟩ | ⟨hsh, e⟩
        · simp only [Q.Ok] at e
          obtain ⟨_, hn, rfl, rfl⟩ := e
          rw [look_cons] at hn
          split at hn
          · cases hn
          · rename_i hne
            obtain ⟨s2, w2, v, r1, S, r3, r4, r5⟩ := append_core hs1 H hW (nw := nw) hb hg (Nat.le_refl _) hx hlim hn
            rw [List.take_length] at S r4
            have hnb : Hp.at ((nw, some (.row u' (xs ++ ys) false)) :: (id, none) :: h1) nw = some (.row u' (xs ++ ys) false) := by rw [at_cons, if_pos rfl]
            have F := frz_row S.hr hnb (upd_self g nw s2)
            have hgid : upd g nw s2 id = some s := by unfold upd; rw [if_neg (fun e => hne e.symm)]; exact hg
            have H3 := F.hr
            -- the old row, frozen
            have hWs : ∀ r, s.blk = some r → W r := fun r hr => (H.own id _ s r hb rfl hg hr).2
            have hfree : ∀ r, s.blk = some r → ¬ (A r ∨ s2.blk = some r) → Free (upd g nw s2) ((nw, some (.row u' (xs ++ ys) true)) :: (nw, some (.row u' (xs ++ ys) false)) :: (id, none) :: h1) r := fun r hr hnot i B s' e hl hgi hrr => by
              rw [at_cons] at e
              split at e
              · injection e with e; subst e; cases hl
              · rename_i h0
                rw [at_cons, if_neg h0, at_cons] at e
                split at e
                · cases e
                · rename_i h00
                  unfold upd at hgi; rw [if_neg h0] at hgi
                  exact h00 (H.inj i id B _ s' s r e hb hl rfl hgi hg hrr hr)
            let A2 : Nat → Prop := fun r => (A r ∨ s2.blk = some r) ∨ s.blk = some r
            have H4 : HR (upd g nw s2) A2 W w2 ((nw, some (.row u' (xs ++ ys) true)) :: (nw, some (.row u' (xs ++ ys) false)) :: (id, none) :: h1) := H3.more (fun r h => .inl h) (fun r hr => by
              rcases hr with hr | hr
              · exact .inr hr
              · by_cases h0 : A r ∨ s2.blk = some r
                · exact .inr h0
                · exact .inl (hfree r hr h0)) (fun r hr => by
              rcases hr with hr | hr
              · exact H3.lt r hr
              · exact r5 r hr)
            have hseq : (⟨s.blk, s.cap, xs.length⟩ : Slot) = s := by rw [← hlen]
            rw [hseq] at r4
            have H5 := H4.put (id := id) (b := .row u' xs true) ⟨s, hgid, r4.mono (fun r h => .inl (.inl h)) (fun _ _ => rfl) (fun _ _ => rfl), fun _ b hb => .inr hb⟩ (fun h => by cases h)
            refine ⟨upd g nw s2, A2, w2, v, by rw [hvs]; exact r1, ⟨S.le, fun r h => .inl (.inl h), fun r h => ?_, H5.congr (fun i => ?_), S.same, S.keep⟩, of_sl (upd_self _ _ _) r3⟩
            · rcases h with (h | h) | h
              · exact .inl h
              · exact (F.in' r (.inr h)).elim .inl .inr
              · exact .inr (hWs r h)
            · simp only [look_cons, hsh]
              repeat' split
              all_goals first | rfl | (subst_vars; simp_all)
        · simp only [Q.Ok] at e
          obtain ⟨_, hn, rfl, rfl⟩ := e
          rw [look_cons] at hn
          split at hn
          · cases hn
          · rename_i hne
            obtain ⟨s2, w2, v, r1, S, r3, r4, _⟩ := append_core hs1 H hW (nw := nw) hb hg (Nat.le_refl _) hx hlim hn
            rw [List.take_length] at S
            exact ⟨upd g nw s2, A, w2, v, by rw [hvs]; exact r1, by rw [hsh] at *; exact S, of_sl (upd_self _ _ _) r3⟩
  | sv id p off len sz n =>
    simp only [appendTo, Q.Ok] at e
    obtain ⟨B, hb, e⟩ := e
    cases B with
    | box x => simp [Q.Ok] at e
    | row u' xs fz =>
      cases fz with
      | true => simp [Q.Ok] at e
      | false =>
        simp only [Ok_cond, Ok_bind, Ok_get, Ok_ask, Ok_fail, and_false, or_false, Bool.and_eq_true] at e
        obtain ⟨⟨⟨ho, hn0⟩, hsz⟩, xs', h1, ⟨ec0, rfl⟩, hlim, e⟩ := e
        obtain ⟨ec, _⟩ := cast_some ec0
        injection ec with ec
        subst ec
        obtain rfl := cast_self ec0
        have ho := Nat.eq_of_beq_eq_true ho
        have hn0 := Nat.eq_of_beq_eq_true hn0
        have hsz := Nat.eq_of_beq_eq_true hsz
        subst ho hn0 hsz
        have hlim := lim_out hlim
        obtain ⟨s, hg, hpk, hle, hnp, hnb, a, cap, rfl, hcap, hz, ha⟩ := to_sv hs
        have hp := hnp rfl
        subst hp
        rw [if_pos rfl] at hle
        have hz := hz ⟨rfl, rfl⟩
        subst hz
        have ha := ha (.inr rfl)
        obtain ⟨s', hg', ⟨hlen, hrow⟩, _⟩ := H.blk id _ hb
        rw [hg] at hg'; injection hg' with hg'; subst hg'
        have ha' : a = s.blk.map fun b => ⟨b, 0, none⟩ := by rw [ha]; simp [poff]
        subst ha'
        simp only [Q.Ok, decide_eq_true_eq, decide_eq_false_iff_not] at e
        rcases e with ⟨hfit, _, rfl, rfl⟩ | ⟨hfit, _, hn, rfl, rfl⟩
        · obtain ⟨c, c1, c2, c3⟩ := hx.inn
          have hroom : len + ys.length ≤ s.cap := by
            cases hs0 : s.blk with
            | none => rw [hs0] at hrow; omega
            | some b => rw [hs0] at hrow; have := hrow.1; omega
          have hrun := c3 (s.blk.map fun b => ⟨b, 0, none⟩) len s.cap hroom
          cases hs0 : s.blk with
          | none =>
            rw [hs0] at hrow hrun
            have hx0 : xs = [] := List.eq_nil_of_length_eq_zero (by omega)
            subst hx0
            simp only [List.length_nil] at hfit hlen
            have hy0 : ys = [] := List.eq_nil_of_length_eq_zero (by omega)
            subst hy0
            obtain rfl : len = 0 := by simp at hfit; omega
            refine ⟨g, A, w, .slice none 0 s.cap, by rw [hrun]; simp, ⟨Gh.le_refl g, fun _ h => h, fun _ h => .inl h, H.congr (fun i => ?_), fun _ _ => rfl, .refl W w⟩, of_sv hg ⟨trivial, by simp, fun _ => rfl, hnb, none, s.cap, rfl, Nat.zero_le _, fun _ => rfl, fun _ => by rw [hs0]; rfl⟩⟩
            rw [look_cons]
            split
            · rename_i hi; subst hi; rw [at_look hb]; simp [splice]
            · rfl
          | some b =>
            rw [hs0] at hrun
            obtain ⟨w2, r1, S⟩ := write_row (P := P) H hb hg hs0 (o := len) c1 hfit
            refine ⟨g, A, w2, .slice (some ⟨b, 0, none⟩) (len + ys.length) s.cap, ?_, S, of_sv hg ⟨trivial, by rw [if_pos rfl]; omega, fun _ => rfl, hnb, _, s.cap, rfl, hroom, fun _ => rfl, fun _ => by rw [hs0]; simp [poff]⟩⟩
            rw [hrun]
            simp only [Option.map_some, add_at, Nat.zero_add, r1, Result.andThen_ok]
        · rw [look_cons] at hn
          split at hn
          · cases hn
          · rename_i hne
            obtain ⟨s2, w2, v, r1, S, r3, _, _⟩ := append_core hs1 H hW (nw := nw) hb hg (by omega) hx hlim hn
            exact ⟨upd g nw s2, A, w2, v, r1, S, of_sl (upd_self _ _ _) r3⟩
  | _ => simp [appendTo, Q.Ok] at e
end
end Go.Proofs.YtkihjakbbcajbaaGreat.PM
