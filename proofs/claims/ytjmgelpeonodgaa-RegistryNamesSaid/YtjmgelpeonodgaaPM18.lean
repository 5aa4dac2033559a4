/- Regions: each operation where it stands, the others done or not; in order, and in any order that the edges allow. -/
import Derived.Test.YtjmgelpeonodgaaPM17
namespace Go.Proofs.Ytjmgelpeonodgaa.PM
set_option linter.unusedSimpArgs false
set_option linter.unusedVariables false
open Go

def IoR (g : Gh) : List PV → List Slot → Prop
  | [], [] => True
  | x :: xs, s :: ss => (∃ id, (x = .ptr id [] ∨ x = .sl id) ∧ g id = some s) ∧ IoR g xs ss
  | _, _ => False
theorem IoR.mono {g g' : Gh} (h : g.le g') : ∀ {xs : List PV} {ss : List Slot}, IoR g xs ss → IoR g' xs ss
  | [], [], _ => trivial
  | _ :: _, _ :: _, ⟨⟨id, h1, h2⟩, h3⟩ => ⟨⟨id, h1, h _ _ h2⟩, h3.mono h⟩
  | [], _ :: _, h => h.elim
  | _ :: _, [], h => h.elim
/-- What a call stands on. -/
structure Bs where
  A0 : Nat → Prop
  W : Nat → Prop
  w0 : World
  nt : Nat
  sl : List Slot
  free : ∀ r, w0.heap.size ≤ r → W r
  gl : List (Nat × PV)
  glok : GlOk gl A0 w0
  df : List Deferred
structure RS (B : Bs) (g : Gh) (A : Nat → Prop) (a : Act) (w : World) (tm : List (Nat × PV)) (h : Hp) (io : List PV) : Prop where
  size : a.tmps.size = B.nt
  defs : a.defers = B.df
  tms : ∀ t x, look t tm = some x → t < B.nt ∧ VRel g A w x (a.tmps.getD t undef)
  hr : HR g A B.W w h
  mono : ∀ r, B.A0 r → A r
  in' : ∀ r, A r → B.A0 r ∨ B.W r
  same : ∀ r, B.A0 r → w.heap[r]? = B.w0.heap[r]?
  keep : Keep B.W B.w0 w
  io : IoR g io B.sl
section
variable {P : Program} {E : Env} {B : Bs} {g : Gh} {A : Nat → Prop} {a : Act} {w : World} {tm tm' : List (Nat × PV)} {h h' : Hp} {io : List PV}
theorem RS.congr (R : RS B g A a w tm h io) (h1 : ∀ t, look t tm = look t tm') (h2 : ∀ i, look i h = look i h') : RS B g A a w tm' h' io :=
  ⟨R.size, R.defs, fun t x e => R.tms t x (by rw [h1]; exact e), R.hr.congr h2, R.mono, R.in', R.same, R.keep, R.io⟩
theorem RS.glob (R : RS B g A a w tm h io) : GlOk B.gl A w := B.glok.mono R.mono R.same
theorem RS.opd (R : RS B g A a w tm h io) (o : Operand) (x : PV) (e : opd B.gl tm o = some x) : VRel g A w x (a.eval o) := by
  cases o with
  | tmp t => exact (R.tms t x e).2
  | const v =>
    simp only [PM.opd] at e
    unfold cst at e
    split at e
    · injection e with e; subst e; exact of_int _ _
    · injection e with e; subst e; exact of_bool _
    · injection e with e; subst e; exact of_str _
    · injection e with e; subst e; rfl
    · cases e
  | func f =>
    simp only [PM.opd, Option.some.injEq] at e; subst e
    unfold VRel; simp only [aggP]; unfold PV.rel
    exact ⟨rfl, rfl⟩
  | global n =>
    obtain ⟨t, y, c, rfl, h2, h3, h4⟩ := R.glob n x e
    unfold VRel; simp only [aggP]; unfold PV.rel
    exact ⟨_, c, rfl, rfl, h2, h3, h4⟩
theorem put_size (a : Act) (d : Option Nat) (v : Value) : (a.put d v).tmps.size = a.tmps.size := by
  cases d <;> simp [Act.put]
theorem put_defs (a : Act) (d : Option Nat) (v : Value) : (a.put d v).defers = a.defers := by
  cases d <;> rfl
theorem put_get (a : Act) (d : Option Nat) (v : Value) (t : Nat) (hd : ∀ e, d = some e → e < a.tmps.size) : (a.put d v).tmps.getD t undef = if d = some t then v else a.tmps.getD t undef := by
  cases d with
  | none => simp [Act.put]
  | some d =>
    have := hd d rfl
    by_cases e : d = t
    · subst e; simp [Act.put, Array.getD, this]
    · have e' : ¬ (some d = some t) := fun h => e (by injection h)
      rw [if_neg e']
      by_cases ht : t < a.tmps.size <;> simp [Act.put, Array.getD, ht, Array.getElem_setIfInBounds, e]
theorem RS.put {g' : Gh} {A' : Nat → Prop} {w' : World} {d : Option Nat} {x : PV} {v : Value} (R : RS B g A a w tm h io) (S : Step g A B.W w g' A' w' h') (hv : VRel g' A' w' x v) (hd : ∀ e, d = some e → e < B.nt) : RS B g' A' (a.put d v) w' (putT tm d x) h' io := by
  refine ⟨by rw [put_size]; exact R.size, by rw [put_defs]; exact R.defs, fun t y e => ?_, S.hr, fun r hr => S.mono r (R.mono r hr), fun r hr => (S.in' r hr).elim (R.in' r) .inr, fun r hr => (S.same r (R.mono r hr)).trans (R.same r hr), R.keep.trans S.keep, R.io.mono S.le⟩
  rw [look_putT] at e
  rw [put_get _ _ _ _ (fun e he => by rw [R.size]; exact hd e he)]
  split at e
  · rename_i hdt
    injection e with e; subst e
    exact ⟨hd t hdt, by rw [if_pos hdt]; exact hv⟩
  · rename_i hdt
    obtain ⟨h1, h2⟩ := R.tms t y e
    exact ⟨h1, by rw [if_neg hdt]; exact h2.mono S.le S.mono S.same⟩
theorem RS.wfree (R : RS B g A a w tm h io) (r : Nat) (hr : w.heap.size ≤ r) : B.W r := B.free r (Nat.le_trans R.keep.size hr)
/- two operations that do not meet -/
structure Ap (all : List Oper) (rc : List Rc) (i k : Nat) : Prop where
  dst : ∀ d, dstOf all i = some d → dstOf all k ≠ some d
  up : ∀ d o, dstOf all i = some d → all[k]? = some o → d ∉ o.looksAt all.toArray
  dn : ∀ d o, dstOf all k = some d → all[i]? = some o → d ∉ o.looksAt all.toArray
  ww : ∀ x, x ∈ (rcAt rc i).ws.map (·.1) → x ∉ (rcAt rc k).ws.map (·.1)
  wr : ∀ x, x ∈ (rcAt rc i).ws.map (·.1) → x ∉ (rcAt rc k).rs
  rw' : ∀ x, x ∈ (rcAt rc i).rs → x ∉ (rcAt rc k).ws.map (·.1)
theorem yielded_of {all : List Oper} (R : RS B g A a w tm h io) {i d : Nat} (hd : dstOf all i = some d) : (∀ b, look d tm = some (.v .bool b) → yielded all.toArray a.tmps i = some b) ∧ (look d tm = some .undef → yielded all.toArray a.tmps i = none) := by
  have hi : (all.toArray[i]?).bind (·.dst) = some d := by
    unfold dstOf at hd; simpa using hd
  refine ⟨fun b hl => ?_, fun hl => ?_⟩
  · obtain ⟨h1, h2⟩ := R.tms _ _ hl
    have h2 := v_bool h2
    have h3 : a.tmps[d]? = some (.bool b) := by
      rw [Array.getElem?_eq_getElem (by rw [R.size]; exact h1)]
      rw [Array.getD, dif_pos (by rw [R.size]; exact h1)] at h2
      exact congrArg some h2
    unfold yielded
    rw [hi]; simp [h3]
  · obtain ⟨h1, h2⟩ := R.tms _ _ hl
    have h2 : a.tmps.getD d undef = Go.undef := by
      unfold VRel at h2; simp only [aggP] at h2; unfold PV.rel at h2; injection h2
    have h3 : a.tmps[d]? = some Go.undef := by
      rw [Array.getElem?_eq_getElem (by rw [R.size]; exact h1)]
      rw [Array.getD, dif_pos (by rw [R.size]; exact h1)] at h2
      exact congrArg some h2
    unfold yielded
    rw [hi]; simp [h3, undef]
theorem mem_looks {all : List Oper} {o : Oper} {t : Nat} (h : Operand.tmp t ∈ o.op.operands.toList) : t ∈ o.looksAt all.toArray := by
  unfold Oper.looksAt
  rw [List.mem_append, List.mem_filterMap]
  exact .inl ⟨_, h, rfl⟩
theorem guard_looks {all : List Oper} {o : Oper} {i d : Nat} {b : Bool} (h : o.guard = some (i, b)) (hd : dstOf all i = some d) : d ∈ o.looksAt all.toArray := by
  unfold Oper.looksAt
  rw [List.mem_append, h]
  right
  unfold dstOf at hd
  simp [hd]
theorem reg_op (hE : EnvOk P E) (hgl : E.globs = B.gl) {all : List Oper} {rc : List Rc} {nx n : Nat} {tm0 : List (Nat × PV)} {h0 : Hp} {S : Nat → Bool} {j : Nat} (hj : j < n) (hS : S j = false) (hn : n = all.length) (ran : RanAt E all nx tm0 h0 rc j) (hnt : ∀ j d, dstOf all j = some d → d < B.nt)
    (up : ∀ k, k < n → j < k → S k = true → Ap all rc j k) (dn : ∀ k, k < j → S k = false → Ap all rc k j)
    (R : RS B g A a w (tmS (dstOf all) (fun k => (rcAt rc k).x) tm0 S n) (hpS (fun k => (rcAt rc k).ws) h0 S n) io) {K : Act → World → Prop} {Q : Exit → Act → World → Prop}
    (hK : ∀ g' A' a' w', RS B g' A' a' w' (tmS (dstOf all) (fun k => (rcAt rc k).x) tm0 (addS S j) n) (hpS (fun k => (rcAt rc k).ws) h0 (addS S j) n) io → K a' w') : wpOp P all.toArray Q j K a w := by
  obtain ⟨o, ho, hran⟩ := ran
  have hd : dstOf all j = o.dst := by unfold dstOf; rw [ho]; rfl
  have hoa : all.toArray[j]? = some o := by simpa using ho
  -- what the operation looks at is as it is in order
  have htm : ∀ t, t ∈ o.looksAt all.toArray → look t (tmS (dstOf all) (fun k => (rcAt rc k).x) tm0 S n) = look t (tmS (dstOf all) (fun k => (rcAt rc k).x) tm0 (fun _ => true) j) := fun t ht => by
    rw [← tmS_trunc n (Nat.le_of_lt hj)]
    refine tmS_congr n (fun k hk hdk => ?_)
    rcases Nat.lt_trichotomy k j with hlt | heq | hgt
    · cases hs : S k with
      | true => simp [hlt]
      | false => exact absurd ht ((dn k hlt hs).up t o hdk ho)
    · subst heq; simp [hS]
    · cases hs : S k with
      | true => exact absurd ht ((up k hk hgt hs).dn t o hdk ho)
      | false => simp; omega
  have hhp : ∀ i, i ∈ (rcAt rc j).rs ∨ i ∈ (rcAt rc j).ws.map (·.1) → look i (hpS (fun k => (rcAt rc k).ws) h0 S n) = look i (hpS (fun k => (rcAt rc k).ws) h0 (fun _ => true) j) := fun i hi => by
    rw [← hpS_trunc n (Nat.le_of_lt hj)]
    refine hpS_congr n (fun k hk hdk => ?_)
    rcases Nat.lt_trichotomy k j with hlt | heq | hgt
    · cases hs : S k with
      | true => simp [hlt]
      | false =>
        have ap := dn k hlt hs
        exact (hi.elim (ap.wr i hdk) (ap.ww i hdk)).elim
    · subst heq; simp [hS]
    · cases hs : S k with
      | true =>
        have ap := up k hk hgt hs
        exact (hi.elim (fun h => ap.rw' i h hdk) (fun h => ap.ww i h hdk)).elim
      | false => simp; omega
  have fin : ∀ g' A' w' v, Step g A B.W w g' A' w' ((rcAt rc j).ws ++ hpS (fun k => (rcAt rc k).ws) h0 S n) → VRel g' A' w' (rcAt rc j).x v → K (a.put o.dst v) w' := fun g' A' w' v St hv => by
    refine hK g' A' _ w' ((R.put St hv (d := o.dst) (fun e he => hnt j e (by rw [hd]; exact he))).congr (fun t => ?_) (fun i => ?_))
    · rw [← hd]; symm
      exact tmS_add hS n hj (fun k h1 h2 h3 h4 h5 => (up k h2 h1 h3).dst t h5 h4)
    · symm
      exact hpS_add hS n hj (fun k h1 h2 h3 h4 h5 => (up k h2 h1 h3).ww i h5 h4)
  unfold wpOp
  rw [hoa]
  simp only []
  rcases hran with ⟨hr, hq⟩ | ⟨hs, hx, hw, hrs⟩
  · have hwant : Region.wanted o (yielded all.toArray a.tmps) = true := by
      rcases hr with hg | ⟨i, b, d, hg, hdi, hl⟩
      · unfold Region.wanted; rw [hg]
      · rw [← htm d (guard_looks hg hdi)] at hl
        unfold Region.wanted; rw [hg]
        simp [(yielded_of R hdi).1 b hl]
    rw [if_pos hwant]
    left
    have hq1 := OkT_Ok _ _ _ _ _ (OkT_frame _ _ _ _ _ _ hq hhp)
    rw [← opQ_congr (tm := tmS (dstOf all) (fun k => (rcAt rc k).x) tm0 S n) (fun t ht => htm t (mem_looks ht))] at hq1
    exact op_ok hE R.hr R.wfree (by rw [hgl]; exact R.glob) (by rw [hgl]; exact R.opd) hq1 fin
  · obtain ⟨i, b, d, hg, hdi, hl⟩ := hs
    rw [← htm d (guard_looks hg hdi)] at hl
    have hwant : Region.wanted o (yielded all.toArray a.tmps) = false := by
      unfold Region.wanted; rw [hg]
      show (yielded all.toArray a.tmps i == some b) = false
      rcases hl with hl | hl
      · rw [(yielded_of R hdi).1 _ hl]; cases b <;> rfl
      · rw [(yielded_of R hdi).2 hl]; rfl
    rw [hwant]
    refine fin g A w undef ?_ ?_
    · rw [hw]; exact .refl R.hr
    · rw [hx]; exact of_undef
end
end Go.Proofs.Ytjmgelpeonodgaa.PM
