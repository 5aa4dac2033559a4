/- part.Check: its loops over functions, whole; and its contract. -/
import Derived.Test.YtjmgelpeonodgaaChk4
namespace Go.Proofs.Ytjmgelpeonodgaa.PM
set_option linter.unusedSimpArgs false
set_option linter.unusedVariables false
open Go Go.Proofs Go.Proofs.Ytjmgelpeonodgaa.Kd
def opOf (l : Array Oper) (i : Nat) : Oper := l.getD i { dst := none, op := .move (.tmp 0), type := 0, pos := "", after := #[], guard := none }
def mark (D : Nat) : Deferred := { target := .collected D, args := #[] }
section
variable {A : Nat → Prop} {w : World} {b1 b2 b3 : Nat} {c1 : List Value} {p : t7.den} {n : Int} {s : List t0.den}
theorem getD_put1 {t : Array Value} {i j : Nat} {v : Value} (h : i < t.size) : (t.setIfInBounds i v).getD j undef = if i = j then v else t.getD j undef := by
  simp only [Array.getD_eq_getD_getElem?]
  by_cases e : i = j
  · subst e; rw [if_pos rfl]; simp [h]
  · rw [if_neg e, Array.getElem?_setIfInBounds_ne e]
theorem wb_keep {W W' : World} (h : W.grownBy W' none) : Keep (Wb w b2 b3) W W' := ⟨h.os, h.tape, h.output, h.size, fun r hr _ => h.block r hr (by simp)⟩
/-- A call's result is on top of the heap: the base moves on. -/
theorem Ground.next {W' : World} {W : World} (G : Ground A w b1 b2 b3 c1 p) (I : Inv A w b2 b3 n s W) (hg : Grew W W') : Ground A W' b1 b2 b3 c1 p ∧ Inv A W' b2 b3 n s W' := by
  have sameA : ∀ r, A r → W'.heap[r]? = w.heap[r]? := fun r hr => (hg.block r (Nat.lt_of_lt_of_le (G.lt r hr) I.keep.size)).trans (G.same I.keep r hr)
  have hz : w.heap.size ≤ W'.heap.size := Nat.le_trans I.keep.size hg.size
  refine ⟨⟨G.gl.mono (fun _ h => h) sameA, fun r hr => Nat.lt_of_lt_of_le (G.lt r hr) hz, G.hb1, At.mono (sameA b1 G.hb1) G.at1, TRel.mono (fun _ h => h) sameA _ _ _ G.rel, G.n2, G.n3, Nat.lt_of_lt_of_le G.lt2 hz, Nat.lt_of_lt_of_le G.lt3 hz⟩, I.bx.turn (fun r hr => hg.block r ?_) hg.size, .refl _ _⟩
  rcases hr with hr | ⟨q, hq, rfl⟩
  · exact Nat.lt_of_lt_of_le (G.lt r hr) I.keep.size
  · unfold bx2 at hq
    simp only [List.mem_cons, List.not_mem_nil, or_false] at hq
    rcases hq with rfl | rfl
    · exact Nat.lt_of_lt_of_le G.lt2 I.keep.size
    · exact Nat.lt_of_lt_of_le G.lt3 I.keep.size
theorem val_step {ops : Array Oper} {i : Nat} {l : List Nat} {a : Act} {v : Value} {m : Nat} {Q : Exit → Act → World → Prop} (ho : ops[i]? = some (opOf ops i)) (hg : (opOf ops i).guard = none) (hd : ∀ c, (opOf ops i).op ≠ .defer c) (hr : (execOp a.eval (opOf ops i)).run Try.prog w = .ok (.value v) w)
    (h : wpOpsIn Fence.wide m Try.prog ops Q l (a.put (opOf ops i).dst v) w) : wpOpsIn Fence.wide m Try.prog ops Q (i :: l) a w := by
  rw [wpOpsIn_cons]
  unfold wpOpIn
  rw [ho]
  simp only [Region.wanted, hg, if_true]
  refine ⟨fun _ _ => trivial, ?_⟩
  rw [Oper.semAt_eq _ _ _ hd, hr]
  exact h
theorem call_step {ops : Array Oper} {i : Nat} {l : List Nat} {a : Act} {f : Nat} {args : Array Value} {m : Nat} {Q : Exit → Act → World → Prop} {R : Value → World → Prop} (ho : ops[i]? = some (opOf ops i)) (hg : (opOf ops i).guard = none) (hd : ∀ c, (opOf ops i).op ≠ .defer c) (hr : (execOp a.eval (opOf ops i)).run Try.prog w = .ok (.enter f args) w)
    (hc : CallsIn Fence.wide (m - 1) Try.prog f args w fun e w' => ∃ v, e = .returned v ∧ R v w') (h : ∀ v w', R v w' → wpOpsIn Fence.wide m Try.prog ops Q l (a.put (opOf ops i).dst v) w') : wpOpsIn Fence.wide m Try.prog ops Q (i :: l) a w := by
  rw [wpOpsIn_cons]
  unfold wpOpIn
  rw [ho]
  simp only [Region.wanted, hg, if_true]
  refine ⟨fun _ _ => trivial, ?_⟩
  rw [Oper.semAt_eq _ _ _ hd, hr]
  refine ⟨(fun h => by cases h), hc.mono ?_⟩
  rintro e w' ⟨v, rfl, hv⟩
  exact h v w' hv
theorem run_keyed (o : Oper) (ρ : Operand → Value) (x : Nat) (ho : o.op = .call { callee := .value (.func 50), args := #[.tmp x], argTypes := #[46] }) (hρ : ρ (.func 50) = .func (.func 50) #[] #[]) : (execOp ρ o).run Try.prog w = .ok (.enter 50 #[ρ (.tmp x)]) w := by
  have he : ∀ args w, (callFunc 50 args).run Try.prog w = .ok (.enter 50 args) w := Go.Proofs.enters_of Try.func50 (by kernel_rfl) rfl
  unfold execOp
  rw [ho]
  simp [resolve, invoke, hρ, he, go_sem]
theorem no_boxes (hlt : ∀ r, A r → r < w.heap.size) : Boxes A w [] := ⟨(fun q h => by cases h), (fun q h => by cases h), List.nodup_nil, List.nodup_nil, hlt⟩
theorem r4_0 : r4[0]? = some (opOf r4 0) ∧ (opOf r4 0).op = .fieldAddr 50 (.tmp 1) 3 ∧ (opOf r4 0).guard = none ∧ (opOf r4 0).dst = some 47 := ⟨by kernel_rfl, by kernel_rfl, by kernel_rfl, by kernel_rfl⟩
theorem r4_1 : r4[1]? = some (opOf r4 1) ∧ (opOf r4 1).op = .load 46 (.tmp 47) ∧ (opOf r4 1).guard = none ∧ (opOf r4 1).dst = some 48 := ⟨by kernel_rfl, by kernel_rfl, by kernel_rfl, by kernel_rfl⟩
theorem r4_2 : r4[2]? = some (opOf r4 2) ∧ (opOf r4 2).op = .call { callee := .value (.func 50), args := #[.tmp 48], argTypes := #[46] } ∧ (opOf r4 2).guard = none ∧ (opOf r4 2).dst = some 49 := ⟨by kernel_rfl, by kernel_rfl, by kernel_rfl, by kernel_rfl⟩
theorem r4_n : r4.size = 3 := by kernel_rfl
theorem fa1 (p : t7.den) : fieldAddrQ part_Check.E 50 (.iptr t7 p) 3 = .ret (.iptr t5 p.2.2.2.1) := by kernel_rfl
theorem ld1 (t : t5.den) : loadQ part_Check.E 46 (.iptr t5 t) = .ret (mk t5 t) := by kernel_rfl
set_option maxRecDepth 100000 in
/-- The iterator is made. -/
theorem make1_ok (G : Ground A w b1 b2 b3 c1 p) (I : Inv A w b2 b3 n s w) {a : Act} (hp : Pts b1 b2 b3 a) {m : Nat} {Q : Exit → Act → World → Prop}
    (hQ : ∀ (a' : Act) (cs : Array Value) W', Pts b1 b2 b3 a' → a'.defers = a.defers → a'.tmps.getD 49 undef = .func (.func 80) #[] #[.pointer (some ⟨w.heap.size, 0, none⟩)] → W' = w.alloc (.cells cs 46) → TRel A W' t5 cs.toList p.2.2.2.1 → Q .normal a' W') : (Code.region 4 r4 false).wpIn Fence.wide m Try.prog Q a w := by
  refine wpIn_region ?_
  rw [r4_n]
  show wpOpsIn _ _ _ _ _ [0, 1, 2] _ _
  have H0 := boxes_HR (no_boxes G.lt)
  obtain ⟨_, u, hu, hru⟩ := fieldAddr_ok (i := 3) (h := hpL []) tabOk (G.iptr (.refl _ w) (gL [])) (show (fieldAddrQ part_Check.E 50 (.iptr t7 p) 3).Ok (hpL []) (.iptr t5 p.2.2.2.1) (hpL []) by rw [fa1]; exact ⟨rfl, rfl⟩)
  obtain ⟨_, v, hv, hrv⟩ := load_ok (E := part_Check.E) (tabB_look tabOk (show look 46 tl = some (.data t5) by kernel_rfl)) (by kernel_rfl) H0 hru (show (loadQ part_Check.E 46 (.iptr t5 p.2.2.2.1)).Ok (hpL []) (mk t5 p.2.2.2.1) (hpL []) by rw [ld1]; exact ⟨rfl, rfl⟩)
  obtain ⟨cs, rfl, hcs⟩ : ∃ cs, v = .agg cs ∧ (mk t5 p.2.2.2.1).rel (gL []) A w cs.toList := hrv
  have hT : TRel A w t5 cs.toList p.2.2.2.1 := flatV_rel _ _ _ _ hcs (by kernel_rfl)
  have hlen : cs.size = 11 := by
    have := TRel.len _ _ _ hT
    rw [Array.length_toList] at this; exact this
  have ha := hp.1
  refine val_step r4_0.1 r4_0.2.2.1 (fun c e => by rw [r4_0.2.1] at e; cases e) (v := u) ?_ ?_
  · unfold execOp
    rw [r4_0.2.1]
    have e1 : a.eval (.tmp 1) = .pointer (some ⟨b1, 0, none⟩) := hp.2.1
    simp only [e1, Sem.run_bind, hu]; rfl
  rw [r4_0.2.2.2]
  refine val_step r4_1.1 r4_1.2.2.1 (fun c e => by rw [r4_1.2.1] at e; cases e) (v := .agg cs) ?_ ?_
  · unfold execOp
    rw [r4_1.2.1]
    have e1 : (a.put (some 47) u).eval (.tmp 47) = u := by
      show (a.put (some 47) u).tmps.getD 47 undef = u
      rw [put_get _ _ _ _ (fun e h => by injection h with h; subst h; rw [ha]; decide)]; simp
    simp only [e1, Sem.run_bind, hv]; rfl
  rw [r4_1.2.2.2]
  refine call_step (f := 50) (args := #[.agg cs]) (R := fun v w' => v = .func (.func 80) #[] #[.pointer (some ⟨w.heap.size, 0, none⟩)] ∧ w' = w.alloc (.cells cs 46)) r4_2.1 r4_2.2.2.1 (fun c e => by rw [r4_2.2.1] at e; cases e) ?_ ?_ ?_
  · rw [run_keyed _ _ 48 r4_2.2.1 rfl]
    have e1 : ((a.put (some 47) u).put (some 48) (.agg cs)).eval (.tmp 48) = .agg cs := by
      show ((a.put (some 47) u).put (some 48) (.agg cs)).tmps.getD 48 undef = _
      rw [put_get _ _ _ _ (fun e h => by injection h with h; subst h; rw [put_size, ha]; decide)]; simp
    rw [e1]
  · exact (keyed_in (m - 1) cs hlen w).mono (fun e w' h => ⟨_, h.1, rfl, h.2⟩)
  · rintro v w' ⟨rfl, rfl⟩
    rw [r4_2.2.2.2]
    have s1 : ∀ (a : Act) (d t : Nat) (v : Value), a.tmps.size = 104 → d < 104 → (a.put (some d) v).tmps.getD t undef = if d = t then v else a.tmps.getD t undef := fun a d t v hs hd => by
      rw [put_get _ _ _ _ (fun e h => by injection h with h; subst h; rw [hs]; exact hd)]
      by_cases e : d = t
      · rw [if_pos e, if_pos (by rw [e])]
      · rw [if_neg e, if_neg (fun h => e (by injection h))]
    have z : (((a.put (some 47) u).put (some 48) (.agg cs)).put (some 49) (.func (.func 80) #[] #[.pointer (some ⟨w.heap.size, 0, none⟩)])).tmps.size = 104 := by rw [put_size, put_size, put_size]; exact ha
    have z2 : ((a.put (some 47) u).put (some 48) (.agg cs)).tmps.size = 104 := by rw [put_size, put_size]; exact ha
    have z3 : (a.put (some 47) u).tmps.size = 104 := by rw [put_size]; exact ha
    have low : ∀ t, t ≤ 3 → (((a.put (some 47) u).put (some 48) (.agg cs)).put (some 49) (.func (.func 80) #[] #[.pointer (some ⟨w.heap.size, 0, none⟩)])).tmps.getD t undef = a.tmps.getD t undef := fun t ht => by
      rw [s1 _ _ _ _ z2 (by decide), if_neg (by omega), s1 _ _ _ _ z3 (by decide), if_neg (by omega), s1 _ _ _ _ ha (by decide), if_neg (by omega)]
    refine hQ _ cs _ ⟨z, (low 1 (by omega)).trans hp.2.1, (low 2 (by omega)).trans hp.2.2.1, (low 3 (by omega)).trans hp.2.2.2⟩ rfl ?_ rfl ?_
    · rw [s1 _ _ _ _ z2 (by decide), if_pos rfl]
    · have G2 := Grew.alloc w (.cells cs 46)
      exact TRel.mono (fun _ h => h) (fun r hr => G2.block r (G.lt r hr)) _ _ _ hT
/-- The loop, whole. -/
theorem loop1_ok (G : Ground A w b1 b2 b3 c1 p) (I : Inv A w b2 b3 n s w) {a : Act} (hp : Pts b1 b2 b3 a) {Bs : Nat} {cs : Array Value} {e : TypeId} {t : t5.den} {xs : List (Int × Int × Int × Int)} (hg : a.tmps.getD 49 undef = .func (.func 80) #[] #[.pointer (some ⟨Bs, 0, none⟩)])
    (hBs : w.heap[Bs]? = some (.cells cs e (0, 0))) (hB2 : b2 ≠ Bs) (hB3 : b3 ≠ Bs) (hT : TRel A w t5 cs.toList t) (hx : tItems t = some xs) {Q : Exit → Act → World → Prop}
    (hdone : ∀ D W s', w.heap.size ≤ D → goR (st1 p) xs s = some s' → Inv A w b2 b3 n s' W → W.heap[D]? = some (.deferred (some [])) → Q .normal { a with defers := mark D :: a.defers } W)
    (hstop : ∀ D W s', w.heap.size ≤ D → goR (st1 p) xs s = none → Inv A w b2 b3 8 s' W → W.heap[D]? = some (.deferred (some [])) → Q .ret { a with defers := mark D :: a.defers } W) :
    (Code.rangeFunc (.tmp 49) #[50, 51] (rfAsg rf1) bd1).wpIn Fence.wide 3 Try.prog Q a w := by
  have hB := heap_lt hBs
  have own : ∀ m s', OwnFrom w.heap.size (fun (_ : Unit) W => Inv A w b2 b3 m s' W) := fun m s' _ W W' row I hgr hr => I.own G.lt2 G.lt3 G.lt hgr (fun r e => (hr r e).1)
  refine wpIn_rangeFunc_ownH (F := Fence.wide) (n := 3) rfl (by decide) (gf := 80) (lb := #[.pointer (some ⟨Bs, 0, none⟩)]) hg trivial (Go.Proofs.enters_of Try.func80 (by kernel_rfl) rfl) (encs := encs)
    (keyed_stops (m := 2) (by decide) G.lt hBs hT hx) (fun h k => h.trans k) (fun W l o o' hl hh ho _ r hr => ?_) (Go.RowKit.Below.refl _ _) (fun _ => rfl)
    (fun pre W => ∃ s', goR (st1 p) pre s = some s' ∧ Inv A w b2 b3 n s' W) (fun c pre W => c = .ret ∧ goR (st1 p) pre s = none ∧ ∃ s', Inv A w b2 b3 8 s' W)
    (fun pre W W' row ⟨s', h1, h2⟩ hgr hr => ⟨s', h1, own n s' () W W' row h2 hgr hr⟩) (fun c pre W W' row ⟨h0, h1, s', h2⟩ hgr hr => ⟨h0, h1, s', own 8 s' () W W' row h2 hgr hr⟩) ⟨s, rfl, I⟩
    (fun x a' W => Ax1 A w b1 b2 b3 x a' W) (fun x a' _ W W' row h hgr hr => ?_) (fun l pre x W K ⟨s', hs, hI⟩ hK => ?_) (fun l pre x a' W hl hrec ⟨s', hs, hI⟩ hAx hlen => ?_) (fun D ys W hD he ⟨s', hs, hI⟩ hk => ?_) (fun D c pre W hD ⟨rest, he⟩ ⟨hc, hs, s', hI⟩ hk => ?_)
  · have hne : l ≠ r := fun e => by
      subst e
      rcases hr with hr | rfl
      · have := G.lt l hr; omega
      · omega
    have := (grownBy_putObj' W l o').block r (by
      rcases hr with hr | rfl
      · have := G.lt r hr
        have := heap_lt hh
        omega
      · have := heap_lt hh
        omega) (fun e => hne (by injection e with e; exact e.symm))
    exact this
  · obtain ⟨h1, h2, b5, h3, h4, c, e, h5, h7⟩ := h
    refine ⟨h1, h2, b5, h3, h4, c, e, ?_, TRel.flat _ _ _ (by kernel_rfl) h7⟩
    rw [hgr.block b5 (heap_lt h5) (fun e' => by
      obtain ⟨_, o, ho, hc⟩ := hr b5 e'.symm
      rw [h5] at ho
      injection ho with ho; subst ho
      cases hc)]
    exact h5
  · have ht : (#[50, 51].zip (encs x)).foldl (fun t ((p, v) : Nat × Value) => t.setIfInBounds p v) a.tmps = (a.tmps.setIfInBounds 50 (.int .u32 x.1)).setIfInBounds 51 (.agg #[.int .i64 x.2.1, .int .i64 x.2.2.1, .int .i64 x.2.2.2]) := by kernel_rfl
    have z1 : 50 < a.tmps.size := by rw [hp.1]; decide
    have z2 : 51 < (a.tmps.setIfInBounds 50 (.int .u32 x.1)).size := by rw [Array.size_setIfInBounds, hp.1]; decide
    have g : ∀ j, ((a.tmps.setIfInBounds 50 (.int .u32 x.1)).setIfInBounds 51 (.agg #[.int .i64 x.2.1, .int .i64 x.2.2.1, .int .i64 x.2.2.2])).getD j undef = if 51 = j then _ else if 50 = j then _ else a.tmps.getD j undef := fun j => by rw [getD_put1 z2, getD_put1 z1]
    rw [ht]
    refine asg1_ok (r := some l) (Bs := Bs) G hI (a0 := { tmps := (a.tmps.setIfInBounds 50 (.int .u32 x.1)).setIfInBounds 51 (.agg #[.int .i64 x.2.1, .int .i64 x.2.2.1, .int .i64 x.2.2.2]), defers := [] }) ⟨?_, ?_, ?_, ?_⟩ (x := x) ?_ ?_ rfl hB hB2 hB3 (fun a' W' kp hI' hAx => hK a' W' kp.1 kp.2 ⟨s', hs, hI'⟩ hAx)
    · show (Array.setIfInBounds _ _ _).size = 104
      rw [Array.size_setIfInBounds, Array.size_setIfInBounds]; exact hp.1
    · show Array.getD _ _ _ = _
      rw [g]; exact hp.2.1
    · show Array.getD _ _ _ = _
      rw [g]; exact hp.2.2.1
    · show Array.getD _ _ _ = _
      rw [g]; exact hp.2.2.2
    · show Array.getD _ _ _ = _
      rw [g]; rfl
    · show Array.getD _ _ _ = _
      rw [g]; rfl
  · refine bdy1_ok (r := some l) (Bs := Bs) G hI hAx hB hB2 hB3 (fun a'' W' s'' kp hst hI' => ⟨kp.1, kp.2, s'', ?_, hI'⟩) (fun a'' W' s'' kp hst hI' => ⟨kp.1, rfl, ?_, s'', hI'⟩)
    · rw [goR_app, hs]
      show (st1 p s' x).bind _ = _
      rw [hst]; rfl
    · rw [goR_app, hs]
      show (st1 p s' x).bind _ = _
      rw [hst]; rfl
  · have he : ys = xs := he
    subst he
    exact hdone D W s' hD hs hI hk
  · subst hc
    refine wpIn_ret (hstop D W s' hD ?_ hI hk)
    rw [he, goR_app, hs]; rfl
theorem r9_0 : r9[0]? = some (opOf r9 0) ∧ (opOf r9 0).op = .fieldAddr 50 (.tmp 1) 4 ∧ (opOf r9 0).guard = none ∧ (opOf r9 0).dst = some 58 := ⟨by kernel_rfl, by kernel_rfl, by kernel_rfl, by kernel_rfl⟩
theorem r9_1 : r9[1]? = some (opOf r9 1) ∧ (opOf r9 1).op = .load 46 (.tmp 58) ∧ (opOf r9 1).guard = none ∧ (opOf r9 1).dst = some 59 := ⟨by kernel_rfl, by kernel_rfl, by kernel_rfl, by kernel_rfl⟩
theorem r9_2 : r9[2]? = some (opOf r9 2) ∧ (opOf r9 2).op = .call { callee := .value (.func 50), args := #[.tmp 59], argTypes := #[46] } ∧ (opOf r9 2).guard = none ∧ (opOf r9 2).dst = some 60 := ⟨by kernel_rfl, by kernel_rfl, by kernel_rfl, by kernel_rfl⟩
theorem r9_n : r9.size = 3 := by kernel_rfl
theorem fa2 (p : t7.den) : fieldAddrQ part_Check.E 50 (.iptr t7 p) 4 = .ret (.iptr t5 p.2.2.2.2.1) := by kernel_rfl
theorem ld2 (t : t5.den) : loadQ part_Check.E 46 (.iptr t5 t) = .ret (mk t5 t) := by kernel_rfl
set_option maxRecDepth 100000 in
/-- The iterator is made. -/
theorem make2_ok (G : Ground A w b1 b2 b3 c1 p) (I : Inv A w b2 b3 n s w) {a : Act} (hp : Pts b1 b2 b3 a) {m : Nat} {Q : Exit → Act → World → Prop}
    (hQ : ∀ (a' : Act) (cs : Array Value) W', Pts b1 b2 b3 a' → a'.defers = a.defers → a'.tmps.getD 60 undef = .func (.func 80) #[] #[.pointer (some ⟨w.heap.size, 0, none⟩)] → W' = w.alloc (.cells cs 46) → TRel A W' t5 cs.toList p.2.2.2.2.1 → Q .normal a' W') : (Code.region 9 r9 false).wpIn Fence.wide m Try.prog Q a w := by
  refine wpIn_region ?_
  rw [r9_n]
  show wpOpsIn _ _ _ _ _ [0, 1, 2] _ _
  have H0 := boxes_HR (no_boxes G.lt)
  obtain ⟨_, u, hu, hru⟩ := fieldAddr_ok (i := 4) (h := hpL []) tabOk (G.iptr (.refl _ w) (gL [])) (show (fieldAddrQ part_Check.E 50 (.iptr t7 p) 4).Ok (hpL []) (.iptr t5 p.2.2.2.2.1) (hpL []) by rw [fa2]; exact ⟨rfl, rfl⟩)
  obtain ⟨_, v, hv, hrv⟩ := load_ok (E := part_Check.E) (tabB_look tabOk (show look 46 tl = some (.data t5) by kernel_rfl)) (by kernel_rfl) H0 hru (show (loadQ part_Check.E 46 (.iptr t5 p.2.2.2.2.1)).Ok (hpL []) (mk t5 p.2.2.2.2.1) (hpL []) by rw [ld2]; exact ⟨rfl, rfl⟩)
  obtain ⟨cs, rfl, hcs⟩ : ∃ cs, v = .agg cs ∧ (mk t5 p.2.2.2.2.1).rel (gL []) A w cs.toList := hrv
  have hT : TRel A w t5 cs.toList p.2.2.2.2.1 := flatV_rel _ _ _ _ hcs (by kernel_rfl)
  have hlen : cs.size = 11 := by
    have := TRel.len _ _ _ hT
    rw [Array.length_toList] at this; exact this
  have ha := hp.1
  refine val_step r9_0.1 r9_0.2.2.1 (fun c e => by rw [r9_0.2.1] at e; cases e) (v := u) ?_ ?_
  · unfold execOp
    rw [r9_0.2.1]
    have e1 : a.eval (.tmp 1) = .pointer (some ⟨b1, 0, none⟩) := hp.2.1
    simp only [e1, Sem.run_bind, hu]; rfl
  rw [r9_0.2.2.2]
  refine val_step r9_1.1 r9_1.2.2.1 (fun c e => by rw [r9_1.2.1] at e; cases e) (v := .agg cs) ?_ ?_
  · unfold execOp
    rw [r9_1.2.1]
    have e1 : (a.put (some 58) u).eval (.tmp 58) = u := by
      show (a.put (some 58) u).tmps.getD 58 undef = u
      rw [put_get _ _ _ _ (fun e h => by injection h with h; subst h; rw [ha]; decide)]; simp
    simp only [e1, Sem.run_bind, hv]; rfl
  rw [r9_1.2.2.2]
  refine call_step (f := 50) (args := #[.agg cs]) (R := fun v w' => v = .func (.func 80) #[] #[.pointer (some ⟨w.heap.size, 0, none⟩)] ∧ w' = w.alloc (.cells cs 46)) r9_2.1 r9_2.2.2.1 (fun c e => by rw [r9_2.2.1] at e; cases e) ?_ ?_ ?_
  · rw [run_keyed _ _ 59 r9_2.2.1 rfl]
    have e1 : ((a.put (some 58) u).put (some 59) (.agg cs)).eval (.tmp 59) = .agg cs := by
      show ((a.put (some 58) u).put (some 59) (.agg cs)).tmps.getD 59 undef = _
      rw [put_get _ _ _ _ (fun e h => by injection h with h; subst h; rw [put_size, ha]; decide)]; simp
    rw [e1]
  · exact (keyed_in (m - 1) cs hlen w).mono (fun e w' h => ⟨_, h.1, rfl, h.2⟩)
  · rintro v w' ⟨rfl, rfl⟩
    rw [r9_2.2.2.2]
    have s1 : ∀ (a : Act) (d t : Nat) (v : Value), a.tmps.size = 104 → d < 104 → (a.put (some d) v).tmps.getD t undef = if d = t then v else a.tmps.getD t undef := fun a d t v hs hd => by
      rw [put_get _ _ _ _ (fun e h => by injection h with h; subst h; rw [hs]; exact hd)]
      by_cases e : d = t
      · rw [if_pos e, if_pos (by rw [e])]
      · rw [if_neg e, if_neg (fun h => e (by injection h))]
    have z : (((a.put (some 58) u).put (some 59) (.agg cs)).put (some 60) (.func (.func 80) #[] #[.pointer (some ⟨w.heap.size, 0, none⟩)])).tmps.size = 104 := by rw [put_size, put_size, put_size]; exact ha
    have z2 : ((a.put (some 58) u).put (some 59) (.agg cs)).tmps.size = 104 := by rw [put_size, put_size]; exact ha
    have z3 : (a.put (some 58) u).tmps.size = 104 := by rw [put_size]; exact ha
    have low : ∀ t, t ≤ 3 → (((a.put (some 58) u).put (some 59) (.agg cs)).put (some 60) (.func (.func 80) #[] #[.pointer (some ⟨w.heap.size, 0, none⟩)])).tmps.getD t undef = a.tmps.getD t undef := fun t ht => by
      rw [s1 _ _ _ _ z2 (by decide), if_neg (by omega), s1 _ _ _ _ z3 (by decide), if_neg (by omega), s1 _ _ _ _ ha (by decide), if_neg (by omega)]
    refine hQ _ cs _ ⟨z, (low 1 (by omega)).trans hp.2.1, (low 2 (by omega)).trans hp.2.2.1, (low 3 (by omega)).trans hp.2.2.2⟩ rfl ?_ rfl ?_
    · rw [s1 _ _ _ _ z2 (by decide), if_pos rfl]
    · have G2 := Grew.alloc w (.cells cs 46)
      exact TRel.mono (fun _ h => h) (fun r hr => G2.block r (G.lt r hr)) _ _ _ hT
/-- The loop, whole. -/
theorem loop2_ok (G : Ground A w b1 b2 b3 c1 p) (I : Inv A w b2 b3 n s w) {a : Act} (hp : Pts b1 b2 b3 a) {Bs : Nat} {cs : Array Value} {e : TypeId} {t : t5.den} {xs : List (Int × Int × Int × Int)} (hg : a.tmps.getD 60 undef = .func (.func 80) #[] #[.pointer (some ⟨Bs, 0, none⟩)])
    (hBs : w.heap[Bs]? = some (.cells cs e (0, 0))) (hB2 : b2 ≠ Bs) (hB3 : b3 ≠ Bs) (hT : TRel A w t5 cs.toList t) (hx : tItems t = some xs) {Q : Exit → Act → World → Prop}
    (hdone : ∀ D W s', w.heap.size ≤ D → goR (st2 p) xs s = some s' → Inv A w b2 b3 n s' W → W.heap[D]? = some (.deferred (some [])) → Q .normal { a with defers := mark D :: a.defers } W)
    (hstop : ∀ D W s', w.heap.size ≤ D → goR (st2 p) xs s = none → Inv A w b2 b3 8 s' W → W.heap[D]? = some (.deferred (some [])) → Q .ret { a with defers := mark D :: a.defers } W) :
    (Code.rangeFunc (.tmp 60) #[61, 62] (rfAsg rf2) bd2).wpIn Fence.wide 3 Try.prog Q a w := by
  have hB := heap_lt hBs
  have own : ∀ m s', OwnFrom w.heap.size (fun (_ : Unit) W => Inv A w b2 b3 m s' W) := fun m s' _ W W' row I hgr hr => I.own G.lt2 G.lt3 G.lt hgr (fun r e => (hr r e).1)
  refine wpIn_rangeFunc_ownH (F := Fence.wide) (n := 3) rfl (by decide) (gf := 80) (lb := #[.pointer (some ⟨Bs, 0, none⟩)]) hg trivial (Go.Proofs.enters_of Try.func80 (by kernel_rfl) rfl) (encs := encs)
    (keyed_stops (m := 2) (by decide) G.lt hBs hT hx) (fun h k => h.trans k) (fun W l o o' hl hh ho _ r hr => ?_) (Go.RowKit.Below.refl _ _) (fun _ => rfl)
    (fun pre W => ∃ s', goR (st2 p) pre s = some s' ∧ Inv A w b2 b3 n s' W) (fun c pre W => c = .ret ∧ goR (st2 p) pre s = none ∧ ∃ s', Inv A w b2 b3 8 s' W)
    (fun pre W W' row ⟨s', h1, h2⟩ hgr hr => ⟨s', h1, own n s' () W W' row h2 hgr hr⟩) (fun c pre W W' row ⟨h0, h1, s', h2⟩ hgr hr => ⟨h0, h1, s', own 8 s' () W W' row h2 hgr hr⟩) ⟨s, rfl, I⟩
    (fun x a' W => Ax2 A w b1 b2 b3 x a' W) (fun x a' _ W W' row h hgr hr => ?_) (fun l pre x W K ⟨s', hs, hI⟩ hK => ?_) (fun l pre x a' W hl hrec ⟨s', hs, hI⟩ hAx hlen => ?_) (fun D ys W hD he ⟨s', hs, hI⟩ hk => ?_) (fun D c pre W hD ⟨rest, he⟩ ⟨hc, hs, s', hI⟩ hk => ?_)
  · have hne : l ≠ r := fun e => by
      subst e
      rcases hr with hr | rfl
      · have := G.lt l hr; omega
      · omega
    have := (grownBy_putObj' W l o').block r (by
      rcases hr with hr | rfl
      · have := G.lt r hr
        have := heap_lt hh
        omega
      · have := heap_lt hh
        omega) (fun e => hne (by injection e with e; exact e.symm))
    exact this
  · obtain ⟨h1, h2, h6, b5, h3, h4, c, e, h5, h7⟩ := h
    refine ⟨h1, h2, h6, b5, h3, h4, c, e, ?_, TRel.flat _ _ _ (by kernel_rfl) h7⟩
    rw [hgr.block b5 (heap_lt h5) (fun e' => by
      obtain ⟨_, o, ho, hc⟩ := hr b5 e'.symm
      rw [h5] at ho
      injection ho with ho; subst ho
      cases hc)]
    exact h5
  · have ht : (#[61, 62].zip (encs x)).foldl (fun t ((p, v) : Nat × Value) => t.setIfInBounds p v) a.tmps = (a.tmps.setIfInBounds 61 (.int .u32 x.1)).setIfInBounds 62 (.agg #[.int .i64 x.2.1, .int .i64 x.2.2.1, .int .i64 x.2.2.2]) := by kernel_rfl
    have z1 : 61 < a.tmps.size := by rw [hp.1]; decide
    have z2 : 62 < (a.tmps.setIfInBounds 61 (.int .u32 x.1)).size := by rw [Array.size_setIfInBounds, hp.1]; decide
    have g : ∀ j, ((a.tmps.setIfInBounds 61 (.int .u32 x.1)).setIfInBounds 62 (.agg #[.int .i64 x.2.1, .int .i64 x.2.2.1, .int .i64 x.2.2.2])).getD j undef = if 62 = j then _ else if 61 = j then _ else a.tmps.getD j undef := fun j => by rw [getD_put1 z2, getD_put1 z1]
    rw [ht]
    refine asg2_ok (r := some l) (Bs := Bs) G hI (a0 := { tmps := (a.tmps.setIfInBounds 61 (.int .u32 x.1)).setIfInBounds 62 (.agg #[.int .i64 x.2.1, .int .i64 x.2.2.1, .int .i64 x.2.2.2]), defers := [] }) ⟨?_, ?_, ?_, ?_⟩ (x := x) ?_ ?_ rfl hB hB2 hB3 (fun a' W' kp hI' hAx => hK a' W' kp.1 kp.2 ⟨s', hs, hI'⟩ hAx)
    · show (Array.setIfInBounds _ _ _).size = 104
      rw [Array.size_setIfInBounds, Array.size_setIfInBounds]; exact hp.1
    · show Array.getD _ _ _ = _
      rw [g]; exact hp.2.1
    · show Array.getD _ _ _ = _
      rw [g]; exact hp.2.2.1
    · show Array.getD _ _ _ = _
      rw [g]; exact hp.2.2.2
    · show Array.getD _ _ _ = _
      rw [g]; rfl
    · show Array.getD _ _ _ = _
      rw [g]; rfl
  · refine bdy2_ok (r := some l) (Bs := Bs) G hI hAx hB hB2 hB3 (fun a'' W' s'' kp hst hI' => ⟨kp.1, kp.2, s'', ?_, hI'⟩) (fun a'' W' s'' kp hst hI' => ⟨kp.1, rfl, ?_, s'', hI'⟩)
    · rw [goR_app, hs]
      show (st2 p s' x).bind _ = _
      rw [hst]; rfl
    · rw [goR_app, hs]
      show (st2 p s' x).bind _ = _
      rw [hst]; rfl
  · have he : ys = xs := he
    subst he
    exact hdone D W s' hD hs hI hk
  · subst hc
    refine wpIn_ret (hstop D W s' hD ?_ hI hk)
    rw [he, goR_app, hs]; rfl
end
end Go.Proofs.Ytjmgelpeonodgaa.PM
