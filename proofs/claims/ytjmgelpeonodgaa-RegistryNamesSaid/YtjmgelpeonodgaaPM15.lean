/- Every operation of the pure machine: what it does, the real one does. -/
import Derived.Test.YtjmgelpeonodgaaPM14
namespace Go.Proofs.Ytjmgelpeonodgaa.PM
set_option linter.unusedSimpArgs false
set_option linter.unusedVariables false
open Go

/-- A call that is done at once, or by a function that is entered. -/
def CallOk (P : Program) (f : FuncId) (vs : Array Value) (w : World) (Post : Value → World → Prop) : Prop :=
  (∃ v w', (callFunc f vs).run P w = .ok (.value v) w' ∧ Post v w') ∨
  ((callFunc f vs).run P w = .ok (.enter f vs) w ∧ Calls P f vs w fun e w' => ∃ v, e = .returned v ∧ Post v w')
/-- A row of the call's own comes out: new, or where the old one lay. -/
def NewRow (A : Nat → Prop) (w : World) (old : Option Nat) (u : Ty) (zs : List u.den) (v : Value) (w' : World) : Prop :=
  ∃ s, SlV s v ∧ RowAt A w' s u zs ∧ (∀ b, s.blk = some b → old = some b ∨ w.heap.size ≤ b) ∧ Keep (fun r => w.heap.size ≤ r ∨ old = some r) w w'
/-- A row that comes in as the call's own. -/
structure OwnRow (A : Nat → Prop) (w : World) (s : Slot) (u : Ty) (xs : List u.den) (v : Value) : Prop where
  val : SlV s v
  row : RowAt A w s u xs
  out : ∀ b, s.blk = some b → ¬ A b
  lt : ∀ r, A r → r < w.heap.size
def PrimSpec (P : Program) (f : FuncId) : Prim → Prop
  | .clone u => ∀ (A : Nat → Prop) (w : World) (v : Value) (ys : List u.den), Shown A w u v ys → (∀ r, A r → r < w.heap.size) → ys.length * u.bytes ≤ 140737488355328 → CallOk P f #[v] w (NewRow A w none u ys)
  | .ins u => ∀ (A : Nat → Prop) (w : World) (s : Slot) (v vv : Value) (xs ys : List u.den) (i : Nat), OwnRow A w s u xs v → Shown A w u vv ys → (∀ b a l c, s.blk = some b → vv = .slice (some a) l c → 0 < l → a.block ≠ b) → i ≤ xs.length → (xs.length + ys.length) * u.bytes ≤ 140737488355328 →
      CallOk P f #[v, .int .i64 i, vv] w (NewRow A w s.blk u (xs.take i ++ ys ++ xs.drop i))
  | .del u => ∀ (A : Nat → Prop) (w : World) (s : Slot) (v : Value) (xs : List u.den) (i j : Nat), OwnRow A w s u xs v → i ≤ j → j ≤ xs.length → CallOk P f #[v, .int .i64 i, .int .i64 j] w (NewRow A w s.blk u (xs.take i ++ xs.drop j))
  | .grow u => ∀ (A : Nat → Prop) (w : World) (n : Nat), n * u.bytes ≤ 140737488355328 → CallOk P f #[.slice none 0 0, .int .i64 n] w (NewRow A w none u [])
  | .cmp => ∀ (A : Nat → Prop) (w : World) (v v' : Value) (xs ys : List Int), Shown A w (.int .u8) v xs → Shown A w (.int .u8) v' ys → CallOk P f #[v, v'] w fun z w' => z = .int .i64 (cmpB xs ys) ∧ w' = w
structure EnvOk (P : Program) (E : Env) : Prop where
  tab : tabB P E.tl = true
  eq : EqOk P E
  fns : ∀ f F, E.fns f = some F → FnSpec P E.globs f F
  prims : ∀ f p, look f E.prim = some p → PrimSpec P f p
section
variable {P : Program} {E : Env} {t : TypeId} {g : Gh} {A W : Nat → Prop} {w : World} {h : Hp}
theorem wp_val {o : Oper} {a : Act} {w w' : World} {K : Act → World → Prop} {Q : Exit → Act → World → Prop} {v : Value} (hr : (execOp a.eval o).run P w = .ok (.value v) w') (hK : K (a.put o.dst v) w') : o.wp P a w K Q := by
  unfold Oper.wp; rw [hr]; exact hK
theorem wp_skip {o : Oper} {a : Act} {w w' : World} {K : Act → World → Prop} {Q : Exit → Act → World → Prop} (hr : (execOp a.eval o).run P w = .ok .skip w') (hK : K (a.put o.dst undef) w') : o.wp P a w K Q := by
  unfold Oper.wp; rw [hr]; exact hK
theorem wp_enter {o : Oper} {a : Act} {w w' : World} {K : Act → World → Prop} {Q : Exit → Act → World → Prop} {f : FuncId} {args : Array Value} (hr : (execOp a.eval o).run P w = .ok (.enter f args) w')
    (hK : Calls P f args w' fun e w'' => ∃ v, e = .returned v ∧ K (a.put o.dst v) w'') : o.wp P a w K Q := by
  unfold Oper.wp; rw [hr, Oper.upon_enter]
  exact hK.mono fun e w'' hh => by
    obtain ⟨v, rfl, hv⟩ := hh
    exact hv
theorem of_undef : VRel g A w .undef Go.undef := rfl
theorem seatI_ok (hT : tabB P E.tl = true) (H : HR g A W w h) {x y : PV} {v : Value} {nw : Nat} {h' : Hp} (hx : VRel g A w x v) (e : (seatI E t x nw).Ok h y h') : ∃ g', Step g A W w g' A w h' ∧ VRel g' A w y v := by
  cases x with
  | nils =>
    simp only [seatI, Ok_bind, Ok_get] at e
    obtain ⟨τ, h1, ⟨_, rfl⟩, e⟩ := e
    obtain ⟨g', S, r, _⟩ := seat_ok H hx e
    exact ⟨g', S, r⟩
  | _ =>
    simp only [seatI, Ok_ret] at e
    obtain ⟨rfl, rfl⟩ := e
    exact ⟨g, .refl H, hx⟩
theorem opds_list {gl tm : List (Nat × PV)} {ρ : Operand → Value} (hρ : ∀ o x, opd gl tm o = some x → VRel g A w x (ρ o)) : ∀ {l : List Operand} {xs : List PV}, opds gl tm l = some xs → ListR g A w xs (l.map ρ)
  | [], xs, e => by
    simp only [opds, Option.some.injEq] at e; subst e; trivial
  | o :: l, xs, e => by
    simp only [opds, Option.bind_eq_some_iff, Option.some.injEq] at e
    obtain ⟨a, e1, b, e2, rfl⟩ := e
    exact ⟨hρ o a e1, opds_list hρ e2⟩
theorem opds_app_nil (xs : List PV) : xs ++ ([] : List PV) = xs := List.append_nil xs
theorem list1 {x : PV} {vs : List Value} (h : ListR g A w [x] vs) : ∃ v, vs = [v] ∧ VRel g A w x v := by
  cases vs with
  | nil => exact h.elim
  | cons v vs => cases vs with
    | nil => exact ⟨v, rfl, h.1⟩
    | cons _ _ => exact h.2.elim
theorem list2 {x y : PV} {vs : List Value} (h : ListR g A w [x, y] vs) : ∃ v u, vs = [v, u] ∧ VRel g A w x v ∧ VRel g A w y u := by
  cases vs with
  | nil => exact h.elim
  | cons v vs =>
    obtain ⟨u, rfl, h2⟩ := list1 h.2
    exact ⟨v, u, rfl, h.1, h2⟩
theorem tups_get : ∀ (xs : List PV) (vs : List Value) (i : Nat) (x : PV), tups g A w xs vs → xs[i]? = some x → ∃ v, vs[i]? = some v ∧ VRel g A w x v
  | [], _, _, _, _, e => by simp at e
  | x :: xs, vs, 0, y, h, e => by
    unfold tups at h
    obtain ⟨v, r, rfl, h1, _⟩ := h
    simp at e; subst e
    exact ⟨v, rfl, h1⟩
  | x :: xs, vs, i + 1, y, h, e => by
    unfold tups at h
    obtain ⟨v, r, rfl, _, h2⟩ := h
    obtain ⟨u, h3, h4⟩ := tups_get xs r i y h2 (by simpa using e)
    exact ⟨u, by simpa using h3, h4⟩
theorem builtin_ok (hE : EnvOk P E) (H : HR g A W w h) (hW : ∀ r, w.heap.size ≤ r → W r) {b : Builtin} {ts : Array TypeId} {ty : TypeId} {cs : Array Bool} {xs : List PV} {vs : List Value} {share : Bool} {nw : Nat} {y : PV} {h' : Hp} (hv : ListR g A w xs vs) (e : (builtinQ E b ts.toList xs share nw).Ok h y h') :
    ∃ g' A' w' v, (builtin b ts ty cs vs.toArray).run P w = .ok (.value v) w' ∧ Step g A W w g' A' w' h' ∧ VRel g' A' w' y v := by
  unfold builtinQ at e
  split at e
  · rename_i t x hts
    obtain ⟨v, rfl, hx⟩ := list1 hv
    have hts' : ts = #[t] := Array.toList_inj.1 hts
    subst hts'
    obtain ⟨rfl, z, r, hz⟩ := len_ok hE.tab H hx e ty
    exact ⟨g, A, w, z, by simp [builtin, r], .refl H, hz⟩
  · rename_i t t' s x hts
    rw [Ok_cond] at e
    rcases e with ⟨ht, e⟩ | ⟨_, e⟩
    · obtain rfl := Nat.eq_of_beq_eq_true ht
      obtain ⟨v, u, rfl, hx, hy⟩ := list2 hv
      have hts' : ts = #[t, t] := Array.toList_inj.1 hts
      subst hts'
      obtain ⟨g', A', w', z, r, S, hz⟩ := append_ok hE.tab ty H hW hx hy e
      exact ⟨g', A', w', z, by simp [builtin, r], S, hz⟩
    · obtain ⟨v, u, rfl, hx, hy⟩ := list2 hv
      have hts' : ts = #[t, t'] := Array.toList_inj.1 hts
      subst hts'
      obtain ⟨g', A', w', z, r, S, hz⟩ := appendZ_ok hE.tab ty H hW hx hy e
      exact ⟨g', A', w', z, by simp [builtin, r], S, hz⟩
  · rename_i t ts' d s hts
    obtain ⟨v, u, rfl, hx, hy⟩ := list2 hv
    have hts' : ts = (t :: ts').toArray := Array.toList_inj.1 hts
    subst hts'
    obtain ⟨w', z, r, S, hz⟩ := copy_ok hE.tab ts' ty H hx hy e
    exact ⟨g, A, w', z, by simp only [builtin, Sem.run_bind]; rw [r]; rfl, S, hz⟩
  · rename_i t ts' d hts
    obtain ⟨v, rfl, hx⟩ := list1 hv
    have hts' : ts = (t :: ts').toArray := Array.toList_inj.1 hts
    subst hts'
    obtain ⟨w', z, r, S, hz⟩ := clear_ok hE.tab ts' ty H hx e
    exact ⟨g, A, w', z, by simp only [builtin, Sem.run_bind]; rw [r]; rfl, S, hz⟩
  · rename_i k a l b
    rw [Ok_cond, decide_eq_true_eq] at e
    rcases e with ⟨rfl, e⟩ | ⟨_, e⟩
    · rw [Ok_ret] at e; obtain ⟨rfl, rfl⟩ := e
      obtain ⟨v, u, rfl, hx, hy⟩ := list2 hv
      obtain rfl := v_int hx
      obtain rfl := v_int hy
      exact ⟨g, A, w, _, by simp [builtin, min_run], .refl H, of_int _ _⟩
    · exact e.elim
  · rename_i k a l b
    rw [Ok_cond, decide_eq_true_eq] at e
    rcases e with ⟨rfl, e⟩ | ⟨_, e⟩
    · rw [Ok_ret] at e; obtain ⟨rfl, rfl⟩ := e
      obtain ⟨v, u, rfl, hx, hy⟩ := list2 hv
      obtain rfl := v_int hx
      obtain rfl := v_int hy
      exact ⟨g, A, w, _, by simp [builtin, max_run], .refl H, of_int _ _⟩
    · exact e.elim
  · exact e.elim
theorem oopd_rel {gl tm : List (Nat × PV)} {ρ : Operand → Value} (hρ : ∀ o x, opd gl tm o = some x → VRel g A w x (ρ o)) {o : Option Operand} {x : Option PV} (e : oopd gl tm o = some x) : OptR g A w x (o.map ρ) := by
  cases o with
  | none => simp only [oopd, Option.some.injEq] at e; subst e; trivial
  | some o =>
    simp only [oopd, Option.map_eq_some_iff] at e
    obtain ⟨a, e, rfl⟩ := e
    exact hρ o a e
theorem parts_arr (ps : Array (Nat × Operand)) (ρ : Operand → Value) : (ps.map fun (i, x) => (i, ρ x)) = (ps.toList.map fun p => (p.1, ρ p.2)).toArray := by
  apply Array.toList_inj.1; simp
theorem CallOk.mono {f : FuncId} {vs : Array Value} {p q : Value → World → Prop} (hpq : ∀ v w', p v w' → q v w') : CallOk P f vs w p → CallOk P f vs w q
  | .inl ⟨v, w', h1, h2⟩ => .inl ⟨v, w', h1, hpq v w' h2⟩
  | .inr ⟨h1, h2⟩ => .inr ⟨h1, h2.mono fun _ w' ⟨v, e, h⟩ => ⟨v, e, hpq v w' h⟩⟩
theorem HR.delOff {w' : World} (H : HR g A W w h) {id : Nat} {B : Blk} {s : Slot} (hb : h.at id = some B) (hl : B.live = true) (hg : g id = some s) (hw : ∀ r, r < w.heap.size → s.blk ≠ some r → w'.heap[r]? = w.heap[r]?) (hz : w.heap.size ≤ w'.heap.size) :
    HR g A W w' ((id, none) :: h) ∧ (∀ b, s.blk = some b → Free g ((id, none) :: h) b) ∧ ∀ i C s' r, Hp.at ((id, none) :: h) i = some C → g i = some s' → s'.blk = some r → s.blk ≠ some r := by
  have off : ∀ i C s' r, Hp.at ((id, none) :: h) i = some C → g i = some s' → s'.blk = some r → s.blk ≠ some r := fun i C s' r e hg' hr hs => by
    rw [at_cons] at e
    split at e
    · cases e
    · rename_i hne
      cases hC : C.live with
      | true => exact hne (H.inj i id C B s' s r e hb hC hl hg' hg hr hs)
      | false =>
        have ho := (H.own id B s r hb hl hg hs).1
        cases C with
        | box x => cases hC
        | row t xs fz =>
          cases fz with
          | false => cases hC
          | true =>
            obtain ⟨s2, h1, _, h3⟩ := H.blk i _ e
            rw [hg'] at h1; injection h1 with h1; subst h1
            exact ho (h3 rfl r hr)
  refine ⟨(H.del id).move (fun r hr => hw r (H.lt r hr) (fun hs => (H.own id B s r hb hl hg hs).1 hr)) (fun i C s' r e hg' hr => hw r (((H.del id).blk i C e).lt hg' hr) (off i C s' r e hg' hr)) hz, fun b hs i C s' e _ hg' hr => off i C s' b e hg' hr hs, off⟩
theorem newRow_ok (H : HR g A W w h) (hW : ∀ r, w.heap.size ≤ r → W r) {id nw : Nat} {t u : Ty} {xs : List t.den} {zs : List u.den} {s : Slot} {v : Value} {w' : World} (hb : h.at id = some (.row t xs false)) (hg : g id = some s) (hn : look nw ((id, none) :: h) = none) (R : NewRow A w s.blk u zs v w') :
    ∃ g' A', Step g A W w g' A' w' ((nw, some (.row u zs false)) :: (id, none) :: h) ∧ VRel g' A' w' (.sl nw) v := by
  obtain ⟨s', h1, h2, h3, K⟩ := R
  have hsame : ∀ r, r < w.heap.size → s.blk ≠ some r → w'.heap[r]? = w.heap[r]? := fun r hr hs => K.block r hr (fun h => h.elim (fun h => by omega) hs)
  obtain ⟨H1, hf, _⟩ := H.delOff hb rfl hg hsame K.size
  have hown : ∀ r, s.blk = some r → ¬ A r ∧ W r := fun r hr => H.own id _ s r hb rfl hg hr
  have hA : ∀ r, A r → w'.heap[r]? = w.heap[r]? := fun r hr => hsame r (H.lt r hr) (fun hs => (hown r hs).1 hr)
  refine ⟨upd g nw s', A, ⟨le_upd (H1.gnone hn), fun _ h => h, fun _ h => .inl h, H1.add hn s' ⟨s', upd_self _ _ _, h2, fun h => by cases h⟩ (fun _ r hr => ?_), hA, K.os, K.tape, K.output, K.size, fun r hr hw => hsame r hr (fun hs => hw (hown r hs).2)⟩, of_sl (upd_self _ _ _) h1⟩
  rcases h3 r hr with h | h
  · exact ⟨(hown r h).1, (hown r h).2, hf r h⟩
  · exact ⟨fun ha => by have := H.lt r ha; omega, hW r h, (H.free h).del⟩
theorem newRow_ok0 (H : HR g A W w h) (hW : ∀ r, w.heap.size ≤ r → W r) {nw : Nat} {u : Ty} {zs : List u.den} {v : Value} {w' : World} (hn : look nw h = none) (R : NewRow A w none u zs v w') :
    ∃ g' A', Step g A W w g' A' w' ((nw, some (.row u zs false)) :: h) ∧ VRel g' A' w' (.sl nw) v := by
  obtain ⟨s', h1, h2, h3, K⟩ := R
  have hsame : ∀ r, r < w.heap.size → w'.heap[r]? = w.heap[r]? := fun r hr => K.block r hr (fun h => h.elim (fun h => by omega) (fun h => by cases h))
  have H1 : HR g A W w' h := H.move (fun r hr => hsame r (H.lt r hr)) (fun i C s' r e hg' hr => hsame r ((H.blk i C e).lt hg' hr)) K.size
  refine ⟨upd g nw s', A, ⟨le_upd (H1.gnone hn), fun _ h => h, fun _ h => .inl h, H1.add hn s' ⟨s', upd_self _ _ _, h2, fun h => by cases h⟩ (fun _ r hr => ?_), fun r hr => hsame r (H.lt r hr), K.os, K.tape, K.output, K.size, fun r hr _ => hsame r hr⟩, of_sl (upd_self _ _ _) h1⟩
  rcases h3 r hr with h | h
  · cases h
  · exact ⟨fun ha => by have := H.lt r ha; omega, hW r h, H.free h⟩
theorem int64_out {x : PV} {n : Int} {v : Value} {h' : Hp} (hx : VRel g A w x v) (e : (int64 x).Ok h n h') : h' = h ∧ v = .int .i64 n := by
  unfold int64 at e
  split at e
  · rw [Ok_ret] at e; obtain ⟨rfl, rfl⟩ := e
    exact ⟨rfl, v_int hx⟩
  · exact e.elim
theorem ownRow_out (H : HR g A W w h) {u : Ty} {x : PV} {xs : List u.den} {v : Value} {h' : Hp} (hx : VRel g A w x v) (e : (ownRow u x).Ok h xs h') :
    ∃ id s, h.at id = some (.row u xs false) ∧ g id = some s ∧ h' = (id, none) :: h ∧ OwnRow A w s u xs v := by
  cases x with
  | sl id =>
    simp only [ownRow, Q.Ok] at e
    obtain ⟨B, hb, e⟩ := e
    cases B with
    | box x => simp [Q.Ok] at e
    | row t ys fz =>
      cases fz with
      | true => simp [Q.Ok] at e
      | false =>
        simp only [Ok_bind, Ok_get, Q.Ok] at e
        obtain ⟨ys', h1, ⟨ec0, rfl⟩, _, rfl, rfl⟩ := e
        obtain ⟨ec, _⟩ := cast_some ec0
        injection ec with ec
        subst ec
        obtain rfl := cast_self ec0
        obtain ⟨s, hg, hv⟩ := to_sl hx
        obtain ⟨s', hg', hrow, _⟩ := H.blk id _ hb
        rw [hg] at hg'; injection hg' with hg'; subst hg'
        exact ⟨id, s, hb, hg, rfl, hv, hrow, fun b hs => (H.own id _ s b hb rfl hg hs).1, H.lt⟩
  | _ => simp [ownRow, Q.Ok] at e
theorem prim_ok {f : FuncId} {p : Prim} (hp : PrimSpec P f p) (H : HR g A W w h) (hW : ∀ r, w.heap.size ≤ r → W r) {xs : List PV} {vs : List Value} {nw : Nat} {x : PV} {h' : Hp} (hv : ListR g A w xs vs) (e : (primQ p xs nw).Ok h x h') :
    CallOk P f vs.toArray w fun v w' => ∃ g' A', Step g A W w g' A' w' h' ∧ VRel g' A' w' x v := by
  unfold primQ at e
  split at e
  · rename_i u
    split at e
    · rename_i x1
      obtain ⟨v, rfl, hx⟩ := list1 hv
      simp only [Ok_bind, Ok_ask, Ok_cond, Ok_fail, and_false, or_false, Q.Ok] at e
      obtain ⟨ys, h1, e1, hlim, _, hn, rfl, rfl⟩ := e
      obtain ⟨rfl, hs⟩ := dec_shown H hx e1
      exact (hp A w v ys hs H.lt (lim_out hlim)).mono fun v w' R => newRow_ok0 H hW hn R
    · exact e.elim
  · rename_i u
    split at e
    · rename_i x1 i1 v1
      obtain ⟨v, us, rfl, hx, hr⟩ := listR_cons hv
      obtain ⟨vi, vv, rfl, hi, hvv⟩ := list2 hr
      simp only [Ok_bind, Ok_ask, Ok_cond, Ok_fail, and_false, or_false, Q.Ok, Bool.and_eq_true, decide_eq_true_eq] at e
      obtain ⟨zs, h1, e1, i, h2, e2, ys, h3, e3, ⟨⟨hi0, hi1⟩, hlim⟩, _, hn, rfl, rfl⟩ := e
      obtain ⟨id, s, hb, hg, rfl, O⟩ := ownRow_out H hx e1
      obtain ⟨rfl, rfl⟩ := int64_out hi e2
      obtain ⟨H1, _, off⟩ := H.delOff hb rfl hg (fun _ _ _ => rfl) (Nat.le_refl _)
      obtain ⟨rfl, hs⟩ := dec_shown H1 hvv e3
      have hnn : i = (i.toNat : Int) := by rw [Int.toNat_of_nonneg hi0]
      have hap : ∀ b a l c, s.blk = some b → vv = .slice (some a) l c → 0 < l → a.block ≠ b := fun b a l c hsb hvv' hl hab => by
        have hag : aggP v1 = (Ty.slice u).agg := dec_agg _ _ _ _ _ e3
        have hrel := single_of (by rw [hag]; rfl) hvv
        have hd := (dec_rel H1 (.slice u) v1 ys _ [vv] hrel e3).2
        obtain ⟨a', cap, h4, h5, h6⟩ := hd
        injection h4 with h4
        rw [hvv'] at h4
        injection h4 with h7 h8 h9
        obtain ⟨ad, k1, k2, k3, _⟩ := h6 (by omega)
        rw [← h7] at k1; injection k1 with k1; subst k1
        rw [hab] at k3
        rcases k3 with k3 | ⟨i, C, s', k4, k5, k6⟩
        · exact O.out b hsb k3
        · exact off i C s' b k4 k5 k6 hsb
      have := hp A w s v vv zs ys i.toNat O hs hap (by omega) (lim_out hlim)
      rw [← hnn] at this
      exact this.mono fun v w' R => newRow_ok H hW hb hg hn R
    · exact e.elim
  · rename_i u
    split at e
    · rename_i x1 i1 v1
      obtain ⟨v, us, rfl, hx, hr⟩ := listR_cons hv
      obtain ⟨vi, vj, rfl, hi, hj⟩ := list2 hr
      simp only [Ok_bind, Ok_ask, Ok_cond, Ok_fail, and_false, or_false, Q.Ok, decide_eq_true_eq] at e
      obtain ⟨zs, h1, e1, i, h2, e2, j, h3, e3, ⟨hi0, hij, hj1⟩, _, hn, rfl, rfl⟩ := e
      obtain ⟨id, s, hb, hg, rfl, O⟩ := ownRow_out H hx e1
      obtain ⟨rfl, rfl⟩ := int64_out hi e2
      obtain ⟨rfl, rfl⟩ := int64_out hj e3
      have hnn : i = (i.toNat : Int) := by rw [Int.toNat_of_nonneg hi0]
      have hnj : j = (j.toNat : Int) := by rw [Int.toNat_of_nonneg (by omega)]
      have := hp A w s v zs i.toNat j.toNat O (by omega) (by omega)
      rw [← hnn, ← hnj] at this
      exact this.mono fun v w' R => newRow_ok H hW hb hg hn R
    · exact e.elim
  · rename_i u
    split at e
    · rename_i n1
      obtain ⟨v, vn, rfl, hx, hi⟩ := list2 hv
      simp only [Ok_bind, Ok_ask, Ok_cond, Ok_fail, and_false, or_false, Q.Ok, Bool.and_eq_true, decide_eq_true_eq] at e
      obtain ⟨n, h2, e2, ⟨hn0, hlim⟩, _, hn, rfl, rfl⟩ := e
      obtain ⟨rfl, rfl⟩ := int64_out hi e2
      have hv0 : v = .slice none 0 0 := by
        unfold VRel at hx; simp only [aggP] at hx; unfold PV.rel at hx
        simpa using hx
      subst hv0
      have hnn : n = (n.toNat : Int) := by rw [Int.toNat_of_nonneg hn0]
      have := hp A w n.toNat (lim_out hlim)
      rw [← hnn] at this
      exact this.mono fun v w' R => newRow_ok0 H hW hn R
    · exact e.elim
  · split at e
    · rename_i x1 y1
      obtain ⟨v, v', rfl, hx, hy⟩ := list2 hv
      simp only [Ok_bind, Ok_ret] at e
      obtain ⟨as, h1, e1, bs, h2, e2, rfl, rfl⟩ := e
      obtain ⟨rfl, hs1⟩ := dec_shown H hx e1
      obtain ⟨rfl, hs2⟩ := dec_shown H hy e2
      refine (hp A w v v' as bs hs1 hs2).mono fun z w' ⟨hz, hw⟩ => ?_
      subst hz hw
      exact ⟨g, A, .refl H, of_int _ _⟩
    · exact e.elim
theorem op_ok (hE : EnvOk P E) {tm : List (Nat × PV)} {o : Oper} {nw : Nat} {a : Act} {x : PV} {h' : Hp} (H : HR g A W w h) (hW : ∀ r, w.heap.size ≤ r → W r) (hG : GlOk E.globs A w) (hρ : ∀ o x, opd E.globs tm o = some x → VRel g A w x (a.eval o)) (e : (opQ E tm o nw).Ok h x h') {K : Act → World → Prop} {Q : Exit → Act → World → Prop}
    (hK : ∀ g' A' w' v, Step g A W w g' A' w' h' → VRel g' A' w' x v → K (a.put o.dst v) w') : o.wp P a w K Q := by
  unfold opQ at e
  split at e
  · -- move
    rename_i y hop
    simp only [Ok_bind, Ok_get] at e
    obtain ⟨z, h1, ⟨e1, rfl⟩, e⟩ := e
    obtain ⟨g', S, r⟩ := seatI_ok hE.tab H (hρ _ _ e1) e
    exact wp_val (by simp [execOp, hop]) (hK _ _ _ _ S r)
  · rename_i y hop
    simp only [Ok_bind, Ok_get] at e
    obtain ⟨z, h1, ⟨e1, rfl⟩, e⟩ := e
    obtain ⟨g', S, r⟩ := seatI_ok hE.tab H (hρ _ _ e1) e
    exact wp_val (by simp [execOp, hop]) (hK _ _ _ _ S r)
  · -- pick
    rename_i c y z hop
    simp only [Ok_bind, Ok_get] at e
    obtain ⟨b, h1, ⟨e1, rfl⟩, e⟩ := e
    have hb := hρ _ _ e1
    split at e
    · rename_i t
      have hb := v_bool hb
      rcases e with ⟨rfl, e⟩ | ⟨rfl, e⟩
      · simp only [Ok_bind, Ok_get] at e
        obtain ⟨u, h2, ⟨e2, rfl⟩, e⟩ := e
        obtain ⟨g', S, r⟩ := seatI_ok hE.tab H (hρ _ _ e2) e
        exact wp_val (by simp [execOp, hop, hb, asBool]) (hK _ _ _ _ S r)
      · simp only [Ok_bind, Ok_get] at e
        obtain ⟨u, h2, ⟨e2, rfl⟩, e⟩ := e
        obtain ⟨g', S, r⟩ := seatI_ok hE.tab H (hρ _ _ e2) e
        exact wp_val (by simp [execOp, hop, hb, asBool]) (hK _ _ _ _ S r)
    · exact e.elim
  · rename_i t hop
    obtain ⟨g', w', v, r, S, hv⟩ := alloc_ok hE.tab H hW e
    exact wp_val (by simp [execOp, hop, r]) (hK _ _ _ _ S hv)
  · rename_i t y hop
    rw [Ok_bind] at e
    obtain ⟨τ, h1, e1, e⟩ := e
    rw [Ok_bind] at e
    obtain ⟨z, h2, e2, e⟩ := e
    rw [Ok_get] at e1 e2
    obtain ⟨e1, rfl⟩ := e1
    obtain ⟨e2, rfl⟩ := e2
    have hb : ∃ g' w' u, (Instr.box t (a.eval y)).run P w = .ok u w' ∧ Step g A W w g' A w' h' ∧ VRel g' A w' x u :=
      box_ok (P := P) (E := E) (t := t) H hW (hρ _ _ e2) (nw := nw) (y := x) (h' := h') (by
        rw [Ok_bind]; exact ⟨τ, _, by rw [Ok_get]; exact ⟨e1, rfl⟩, e⟩)
    obtain ⟨g', w', v, r, S, hv⟩ := hb
    exact wp_val (by simp [execOp, hop, r]) (hK _ _ _ _ S hv)
  · rename_i t ps hop
    simp only [Ok_bind, Ok_get] at e
    obtain ⟨qs, h1, ⟨e1, rfl⟩, e⟩ := e
    obtain ⟨g', A', v, r, S, hv⟩ := build_ok hE.tab H (opds_rel hρ e1) e
    exact wp_val (by simp only [execOp, hop, parts_arr, Sem.run_bind, r]; rfl) (hK _ _ _ _ S hv)
  · rename_i t n ps hop
    simp only [Ok_bind, Ok_get] at e
    obtain ⟨qs, h1, ⟨e1, rfl⟩, e⟩ := e
    obtain ⟨g', A', w', v, r, S, hv⟩ := buildSlice_ok hE.tab H hW (opds_rel hρ e1) e
    exact wp_val (by simp only [execOp, hop, parts_arr, Sem.run_bind, r]; rfl) (hK _ _ _ _ S hv)
  · rename_i t y hop
    simp only [Ok_bind, Ok_get] at e
    obtain ⟨z, h1, ⟨e1, rfl⟩, e⟩ := e
    have e' := e
    simp only [loadQ, Ok_bind, Ok_get] at e'
    obtain ⟨τ, _, ⟨hτ, _⟩, _⟩ := e'
    obtain ⟨rfl, v, r, hv⟩ := load_ok (P := P) (tabB_look hE.tab hτ) hτ H (hρ _ _ e1) e
    exact wp_val (by simp [execOp, hop, r]) (hK _ _ _ _ (.refl H) hv)
  · rename_i t y z hop
    simp only [Ok_bind, Ok_get] at e
    obtain ⟨u1, h1, ⟨e1, rfl⟩, u2, h2, ⟨e2, rfl⟩, e⟩ := e
    have e' := e
    simp only [storeQ, Ok_bind, Ok_get] at e'
    obtain ⟨τ, _, ⟨hτ, _⟩, _⟩ := e'
    obtain ⟨rfl, g', A', w', r, S⟩ := store_ok (P := P) (tabB_look hE.tab hτ) hτ H (hρ _ _ e1) (hρ _ _ e2) e
    exact wp_skip (by simp [execOp, hop, r]) (hK _ _ _ _ S of_undef)
  · rename_i y hop
    simp only [Ok_bind, Ok_get] at e
    obtain ⟨z, h1, ⟨e1, rfl⟩, e⟩ := e
    have hz := hρ _ _ e1
    split at e
    · rw [Ok_ret] at e; obtain ⟨rfl, rfl⟩ := e
      obtain ⟨s, b, _, _, hv, _⟩ := rel_ptr hz
      exact wp_val (v := a.eval y) (by simp [execOp, hop, hv]) (hK _ _ _ _ (.refl H) hz)
    · rw [Ok_ret] at e; obtain ⟨rfl, rfl⟩ := e
      obtain ⟨ad, c, hv, _⟩ := rel_iptr hz
      exact wp_val (v := a.eval y) (by simp [execOp, hop, hv]) (hK _ _ _ _ (.refl H) hz)
    · exact e.elim
  · rename_i op t y z i hop
    simp only [Ok_bind, Ok_get] at e
    obtain ⟨u1, h1, ⟨e1, rfl⟩, u2, h2, ⟨e2, rfl⟩, e⟩ := e
    obtain ⟨rfl, q, v, r, hv⟩ := bin_ok (P := P) (ox := y) (oy := z) hE.tab hE.eq H (hρ _ _ e1) (hρ _ _ e2) e
    exact wp_val (by simp [execOp, hop, q, r]) (hK _ _ _ _ (.refl H) hv)
  · rename_i op t y hop
    simp only [Ok_bind, Ok_get] at e
    obtain ⟨u1, h1, ⟨e1, rfl⟩, e⟩ := e
    obtain ⟨rfl, v, r, hv⟩ := un_ok (P := P) (hρ _ _ e1) e
    exact wp_val (by simp [execOp, hop, r]) (hK _ _ _ _ (.refl H) hv)
  · rename_i s t y hop
    simp only [Ok_bind, Ok_get] at e
    obtain ⟨u1, h1, ⟨e1, rfl⟩, e⟩ := e
    obtain ⟨rfl, v, r, hv⟩ := conv_ok (P := P) hE.tab H (hρ _ _ e1) e
    exact wp_val (by simp [execOp, hop, r]) (hK _ _ _ _ (.refl H) hv)
  · rename_i t y z hop
    simp only [Ok_bind, Ok_get] at e
    obtain ⟨u1, h1, ⟨e1, rfl⟩, u2, h2, ⟨e2, rfl⟩, e⟩ := e
    obtain ⟨g', w', v, r, S, hv⟩ := makeSlice_ok hE.tab H hW (hρ _ _ e1) (hρ _ _ e2) e
    exact wp_val (by simp [execOp, hop, r]) (hK _ _ _ _ S hv)
  · rename_i t y lo hi mx hop
    rw [Ok_cond] at e
    rcases e with ⟨hm, e⟩ | ⟨_, e⟩
    · simp only [Ok_bind, Ok_get] at e
      obtain ⟨u1, h1, ⟨e1, rfl⟩, u2, h2, ⟨e2, rfl⟩, u3, h3, ⟨e3, rfl⟩, e⟩ := e
      obtain ⟨rfl, v, r, hv⟩ := slice_ok (P := P) hE.tab H (hρ _ _ e1) (oopd_rel hρ e2) (oopd_rel hρ e3) e
      have hm : mx = none := by simpa using hm
      subst hm
      exact wp_val (by simp [execOp, hop, r]) (hK _ _ _ _ (.refl H) hv)
    · exact e.elim
  · rename_i t y i hop
    simp only [Ok_bind, Ok_get] at e
    obtain ⟨u1, h1, ⟨e1, rfl⟩, e⟩ := e
    obtain ⟨rfl, v, r, hv⟩ := fieldAddr_ok (P := P) hE.tab (hρ _ _ e1) e
    exact wp_val (by simp [execOp, hop, r]) (hK _ _ _ _ (.refl H) hv)
  · rename_i t y i hop
    simp only [Ok_bind, Ok_get] at e
    obtain ⟨u1, h1, ⟨e1, rfl⟩, u2, h2, ⟨e2, rfl⟩, e⟩ := e
    obtain ⟨rfl, v, r, hv⟩ := indexAddr_ok (P := P) hE.tab H (hρ _ _ e1) (hρ _ _ e2) e
    exact wp_val (by simp [execOp, hop, r]) (hK _ _ _ _ (.refl H) hv)
  · rename_i t y i hop
    simp only [Ok_bind, Ok_get] at e
    obtain ⟨u1, h1, ⟨e1, rfl⟩, u2, h2, ⟨e2, rfl⟩, e⟩ := e
    obtain ⟨rfl, v, r, hv⟩ := index_ok (P := P) hE.tab (hρ _ _ e1) (hρ _ _ e2) e
    exact wp_val (by simp [execOp, hop, r]) (hK _ _ _ _ (.refl H) hv)
  · rename_i y i hop
    simp only [Ok_bind, Ok_get] at e
    obtain ⟨u1, h1, ⟨e1, rfl⟩, e⟩ := e
    have hz := hρ _ _ e1
    split at e
    · rename_i xs
      rw [Ok_get] at e
      obtain ⟨e, rfl⟩ := e
      unfold VRel at hz; simp only [aggP] at hz; unfold PV.rel at hz
      obtain ⟨vs, hv, ht⟩ := hz
      injection hv with hv
      obtain ⟨v, h1, h2⟩ := tups_get xs vs.toList i x ht e
      exact wp_val (v := v) (by
        have h1 : vs[i]? = some v := by simpa using h1
        simp [execOp, hop, hv, Instr.extract, h1]) (hK _ _ _ _ (.refl H) h2)
    · exact e.elim
  · rename_i c hop
    simp only [Ok_bind, Ok_get] at e
    obtain ⟨xs, h1, ⟨e1, rfl⟩, e⟩ := e
    have hl := opds_list hρ e1
    split at e
    · rename_i b hc
      obtain ⟨g', A', w', v, r, S, hv⟩ := builtin_ok (ty := o.type) (cs := c.args.map fun | .const _ => true | _ => false) hE H hW hl e
      have ha : (c.args.toList.map a.eval).toArray = c.args.map a.eval := by apply Array.toList_inj.1; simp
      rw [ha] at r
      exact wp_val (by simp only [execOp, hop, resolve, hc, Sem.run_bind, Sem.run_pure, Result.andThen_ok, invoke]; exact r) (hK _ _ _ _ S hv)
    · rename_i f hc
      simp only [Ok_bind, Ok_get] at e
      obtain ⟨z, h2, ⟨e2, rfl⟩, e⟩ := e
      have hz := hρ _ _ e2
      split at e
      · rename_i f' caps
        unfold VRel at hz; simp only [aggP] at hz; unfold PV.rel at hz
        obtain ⟨rfl, hv⟩ := hz
        injection hv with hv
        have ha : (c.args.toList.map a.eval).toArray = c.args.map a.eval := by apply Array.toList_inj.1; simp
        split at e
        · rename_i p hp
          have C := prim_ok (hE.prims f' p hp) H hW hl e
          rw [ha] at C
          rcases C with ⟨v, w', hr, g', A', S, hv2⟩ | ⟨hr, C⟩
          · exact wp_val (w' := w') (v := v) (by
              simp only [execOp, hop, resolve, hc, hv, Deferred.ofValue, Sem.run_bind, Sem.run_pure, Result.andThen_ok, invoke]
              simpa using hr) (hK _ _ _ _ S hv2)
          · refine wp_enter (f := f') (args := c.args.map a.eval) (w' := w) ?_ (C.mono fun e w' hh => ?_)
            · simp only [execOp, hop, resolve, hc, hv, Deferred.ofValue, Sem.run_bind, Sem.run_pure, Result.andThen_ok, invoke]
              simpa using hr
            · obtain ⟨v, rfl, g', A', S, hv⟩ := hh
              exact ⟨v, rfl, hK _ _ _ _ S hv⟩
        · simp only [Ok_bind, Ok_get] at e
          obtain ⟨F, h3, ⟨e3, rfl⟩, e⟩ := e
          rw [List.append_nil] at e
          have C := call_ok hG (hE.fns f' F e3) H hW hl e
          rw [ha] at C
          refine wp_enter (f := f') (args := c.args.map a.eval) (w' := w) ?_ (C.mono fun e w' hh => ?_)
          · have hr := (hE.fns f' F e3).enter (c.args.map a.eval) w
            simp only [execOp, hop, resolve, hc, hv, Deferred.ofValue, Sem.run_bind, Sem.run_pure, Result.andThen_ok, invoke]
            simpa using hr
          · obtain ⟨g', A', v, rfl, S, hv⟩ := hh
            exact ⟨v, rfl, hK _ _ _ _ S hv⟩
      · exact e.elim
    · exact e.elim
  · exact e.elim
end
end Go.Proofs.Ytjmgelpeonodgaa.PM
