/- part.Check: the rounds of its loops over functions. -/
import Derived.Test.YtjmgelpeonodgaaChk2
namespace Go.Proofs.Ytjmgelpeonodgaa.PM
set_option linter.unusedSimpArgs false
set_option linter.unusedVariables false
open Go Go.Proofs Go.Proofs.Ytjmgelpeonodgaa.Kd
section
variable {A : Nat → Prop} {w : World} {b1 b2 b3 : Nat} {c1 : List Value} {p : t7.den} {n : Int} {s : List t0.den} {W : World}
theorem bx2_sub {b2 b3 b5 : Nat} {n m : Int} {s s' : List t0.den} {x : Int × Int × Int × Int} : ∀ q ∈ bx2 b2 b3 m s', ∃ r ∈ bx3 b2 b3 b5 n s x, r.id = q.id ∧ r.b = q.b := fun q hq => by
  unfold bx2 at hq
  simp only [List.mem_cons, List.not_mem_nil, or_false] at hq
  unfold bx3
  rcases hq with rfl | rfl
  · exact ⟨_, List.mem_cons_self .., rfl, rfl⟩
  · exact ⟨_, List.mem_cons_of_mem _ (List.mem_cons_self ..), rfl, rfl⟩
theorem bx2_sub2 {b2 b3 : Nat} {n m : Int} {s s' : List t0.den} : ∀ q ∈ bx2 b2 b3 m s', ∃ r ∈ bx2 b2 b3 n s, r.id = q.id ∧ r.b = q.b := fun q hq => by
  unfold bx2 at hq
  simp only [List.mem_cons, List.not_mem_nil, or_false] at hq
  unfold bx2
  rcases hq with rfl | rfl
  · exact ⟨_, List.mem_cons_self .., rfl, rfl⟩
  · exact ⟨_, List.mem_cons_of_mem _ (List.mem_cons_self ..), rfl, rfl⟩
theorem bx2_all {b2 b3 : Nat} {m : Int} {s' : List t0.den} {h : Hp} (h1 : h.at 1 = some (.box (.v (.int .i64) m))) (h2 : h.at 2 = some (.box (.v (.arr 3 t0) s'))) : ∀ q ∈ bx2 b2 b3 m s', ∃ X, h.at q.id = some (.box X) ∧ flatV q.t X = some q.x ∧ q.t.flat = true := fun q hq => by
  unfold bx2 at hq
  simp only [List.mem_cons, List.not_mem_nil, or_false] at hq
  rcases hq with rfl | rfl
  · exact ⟨_, h1, by kernel_rfl, by kernel_rfl⟩
  · exact ⟨_, h2, by kernel_rfl, by kernel_rfl⟩
theorem bx2_nd {m : Int} {s' : List t0.den} (I : Inv A w b2 b3 n s W) : ((bx2 b2 b3 m s').map (·.id)).Nodup ∧ ((bx2 b2 b3 m s').map (·.b)).Nodup := ⟨I.bx.ids, I.bx.bs⟩
theorem lim_rel (x : Int × Int × Int × Int) : TRel A W t0 [.int .i64 x.2.1, .int .i64 x.2.2.1, .int .i64 x.2.2.2] (toL x) :=
  ⟨[_], _, rfl, rfl, [_], _, rfl, rfl, [_], _, rfl, rfl, rfl⟩
theorem lim_vrel {g : Gh} (x : Int × Int × Int × Int) : VRel g A W (mk t0 (toL x)) (.agg #[.int .i64 x.2.1, .int .i64 x.2.2.1, .int .i64 x.2.2.2]) := ⟨_, rfl, mk_rel t0 (toL x) _ (lim_rel x)⟩
theorem gL2_1 {b2 b3 : Nat} {n : Int} {s : List t0.den} : gL (bx2 b2 b3 n s) 1 = some ⟨some b2, 0, 0⟩ := rfl
theorem gL2_2 {b2 b3 : Nat} {n : Int} {s : List t0.den} : gL (bx2 b2 b3 n s) 2 = some ⟨some b3, 0, 0⟩ := rfl
theorem gL3_1 {b2 b3 b5 : Nat} {n : Int} {s : List t0.den} {x : Int × Int × Int × Int} : gL (bx3 b2 b3 b5 n s x) 1 = some ⟨some b2, 0, 0⟩ := rfl
theorem gL3_2 {b2 b3 b5 : Nat} {n : Int} {s : List t0.den} {x : Int × Int × Int × Int} : gL (bx3 b2 b3 b5 n s x) 2 = some ⟨some b3, 0, 0⟩ := rfl
theorem gL3_3 {b2 b3 b5 : Nat} {n : Int} {s : List t0.den} {x : Int × Int × Int × Int} : gL (bx3 b2 b3 b5 n s x) 3 = some ⟨some b5, 0, 0⟩ := rfl
theorem bx3_ok (I : Inv A w b2 b3 n s W) (G : Ground A w b1 b2 b3 c1 p) {b5 : Nat} {x : Int × Int × Int × Int} (h5 : w.heap.size ≤ b5) (hc : ∃ c e, W.heap[b5]? = some (.cells c e (0, 0)) ∧ TRel A W t0 c.toList (toL x)) : Boxes A W (bx3 b2 b3 b5 n s x) where
  cell q hq := by
    unfold bx3 at hq
    simp only [List.mem_cons, List.not_mem_nil, or_false] at hq
    rcases hq with rfl | rfl | rfl
    · exact I.bx.cell ⟨1, b2, .int .i64, n⟩ (List.mem_cons_self ..)
    · exact I.bx.cell ⟨2, b3, .arr 3 t0, s⟩ (List.mem_cons_of_mem _ (List.mem_cons_self ..))
    · exact hc
  out q hq := by
    unfold bx3 at hq
    simp only [List.mem_cons, List.not_mem_nil, or_false] at hq
    rcases hq with rfl | rfl | rfl
    · exact G.n2
    · exact G.n3
    · exact fun h => by have := G.lt _ h; simp only at this; omega
  ids := by unfold bx3; simp
  bs := by
    have h23 := I.bx.bs
    unfold bx2 at h23
    simp only [List.map_cons, List.map_nil, List.nodup_cons, List.mem_cons, List.not_mem_nil, or_false, not_false_eq_true, List.nodup_nil, and_true] at h23
    unfold bx3
    have := G.lt2
    have := G.lt3
    simp only [List.map_cons, List.map_nil, List.nodup_cons, List.mem_cons, List.not_mem_nil, or_false, not_false_eq_true, List.nodup_nil, and_true]
    omega
  lt := I.bx.lt
def Kp (A : Nat → Prop) (w : World) (Bs : Nat) (W W' : World) : Prop := KeepsFrom w.heap.size W W' ∧ KeepB (fun r => A r ∨ r = Bs) W W'
/-- What a stretch from a world to another one keeps. -/
theorem kp_of {g : Gh} {A' : Nat → Prop} {a : Act} {W' : World} {tm : List (Nat × PV)} {h : Hp} {l : List BoxF} {io : List PV} {hg : GlOk globs A W} {nt : Nat} {df : List Deferred} {Bs : Nat} (R : RS (BL hg l nt df) g A' a W' tm h io) (C : Boxes A W l) (hB : Bs < W.heap.size) (hBl : ∀ q ∈ l, q.b ≠ Bs) : Kp A w Bs W W' := by
  refine ⟨kept_of R rfl rfl C _, fun r hr => ?_⟩
  rcases hr with hr | rfl
  · exact R.same r hr
  · refine R.keep.block r hB (fun hx => ?_)
    rcases hx with hx | ⟨q, hq, rfl⟩
    · have : W.heap.size ≤ r := hx
      omega
    · exact hBl q hq rfl
/-- A round of the first loop; none: it is left. -/
noncomputable def st1 (p : t7.den) (s : List t0.den) (x : Int × Int × Int × Int) : Option (List t0.den) := bif Ty.beq (.arr 3 t0) (List.set s 1 (toL x)) p.2.1 then some (List.set s 1 (toL x)) else none
noncomputable def st2 (p : t7.den) (s : List t0.den) (x : Int × Int × Int × Int) : Option (List t0.den) := bif Ty.beq (.arr 3 t0) (List.set s 2 (toL x)) p.2.1 then (bif decide (x.1 > 65535) then none else some (List.set s 2 (toL x))) else none
theorem pts_of {b1 b2 b3 : Nat} {a a' : Act} {ops : List Oper} (hp : Pts b1 b2 b3 a) (hs : a'.tmps.size = 104) (hf : ∀ t, (∀ o ∈ ops, o.dst ≠ some t) → a'.tmps.getD t undef = a.tmps.getD t undef) (ho : (ops.all fun o => match o.dst with | some d => Nat.blt 3 d | none => true) = true) : Pts b1 b2 b3 a' := by
  have h : ∀ t, t ≤ 3 → a'.tmps.getD t undef = a.tmps.getD t undef := fun t ht => hf t (fun o hm e => by
    have := List.all_eq_true.1 ho o hm
    rw [e] at this
    have this : Nat.blt 3 t = true := this
    rw [Nat.blt_eq] at this
    omega)
  exact ⟨hs, (h 1 (by omega)).trans hp.2.1, (h 2 (by omega)).trans hp.2.2.1, (h 3 (by omega)).trans hp.2.2.2⟩
/- loop 1 -/
/-- The loop's variable is laid. -/
def Ax1 (A : Nat → Prop) (w : World) (b1 b2 b3 : Nat) (x : Int × Int × Int × Int) (a : Act) (W : World) : Prop :=
  Pts b1 b2 b3 a ∧ a.defers = [] ∧ ∃ b5, a.tmps.getD 5 undef = .pointer (some ⟨b5, 0, none⟩) ∧ w.heap.size ≤ b5 ∧ ∃ c e, W.heap[b5]? = some (.cells c e (0, 0)) ∧ TRel A W t0 c.toList (toL x)
theorem asg1_ok (G : Ground A w b1 b2 b3 c1 p) (I : Inv A w b2 b3 n s W) {a0 : Act} (hp : Pts b1 b2 b3 a0) {x : Int × Int × Int × Int} (h50 : a0.tmps.getD 50 undef = .int .u32 x.1) (h51 : a0.tmps.getD 51 undef = .agg #[.int .i64 x.2.1, .int .i64 x.2.2.1, .int .i64 x.2.2.2]) (hd : a0.defers = []) {r : Option Nat} {n' Bs : Nat} {K : Act → World → Prop}
    (hB : Bs < w.heap.size) (hB2 : b2 ≠ Bs) (hB3 : b3 ≠ Bs) (hK : ∀ a' W', Kp A w Bs W W' → Inv A w b2 b3 n s W' → Ax1 A w b1 b2 b3 x a' W' → K a' W') : (rfAsg rf1).wpIn (rnd r) n' Try.prog (Exit.then K (fun _ _ _ => False)) a0 W := by
  have hg := G.glAt I.keep
  have R0 := boxes_RS (nt := 104) I.bx hg (a := a0) (tm := (51, mk t0 (toL x)) :: (50, .v (.int .u32) x.1) :: tmP p) hp.1
    (tm_cons (by decide) (by rw [h51]; exact lim_vrel x) (tm_cons (by decide) (by rw [h50]; exact of_int _ _) (tmP_ok G I.keep hp gL2_1 gL2_2)))
  have fin : ∀ g A' a' W' X, RS (BL hg (bx2 b2 b3 n s) 104 a0.defers) g A' a' W' (tmR X) (hR X) (ioL (bx2 b2 b3 n s)) → Pts b1 b2 b3 a' → look 5 (tmR X) = some (.ptr 1000 []) → (hR X).at 1000 = some (.box (mk t0 (toL x))) → (hR X).at 1 = some (.box (.v (.int .i64) n)) → (hR X).at 2 = some (.box (.v (.arr 3 t0) s)) → K a' W' := by
    intro g A' a' W' X R hp' k1 k2 k3 k4
    have kp := kp_of (w := w) (Bs := Bs) R I.bx (Nat.lt_of_lt_of_le hB I.keep.size) (fun q hq => by
      unfold bx2 at hq
      simp only [List.mem_cons, List.not_mem_nil, or_false] at hq
      rcases hq with rfl | rfl
      · exact hB2
      · exact hB3)
    have hI : Inv A w b2 b3 n s W' := ⟨boxes_of rfl R rfl I.bx R.keep.size bx2_sub2 (bx2_nd I).1 (bx2_nd I).2 (bx2_all k3 k4), I.keep.trans ⟨R.keep.os, R.keep.tape, R.keep.output, R.keep.size, fun r hr hn => R.keep.block r hr (fun hx => hn (by
      rcases hx with hx | ⟨q, hq, rfl⟩
      · exact .inl (Nat.le_trans I.keep.size hx)
      · unfold bx2 at hq
        simp only [List.mem_cons, List.not_mem_nil, or_false] at hq
        rcases hq with rfl | rfl
        · exact .inr (.inl rfl)
        · exact .inr (.inr rfl)))⟩⟩
    obtain ⟨b5, e1, e2, c, e, e3, e4⟩ := new_box R k2 k1 (fun q hq => by
      unfold bx2 at hq
      simp only [List.mem_cons, List.not_mem_nil, or_false] at hq
      rcases hq with rfl | rfl
      · exact ⟨(fun e => by cases e), _, k3⟩
      · exact ⟨(fun e => by cases e), _, k4⟩) (τ := t0) (x := toL x) (by kernel_rfl) (by kernel_rfl)
    exact hK a' W' kp hI ⟨hp', R.defs.trans hd, b5, e1, Nat.le_trans I.keep.size e2, c, e, e3, e4⟩
  rw [a1_eq]
  refine regionIn_ok part_Check.envOk rfl (evR_some (qa1_ok p n s x)) (by kernel_rfl) (by kernel_rfl) R0 (fun g A' a' W' R hf => ?_)
  exact fin g A' a' W' (qa1 p n s x) R (pts_of hp (by rw [R.size]; rfl) hf (by kernel_rfl)) (qa1_5 ..) (qa1_b ..) (qa1_1 ..) (qa1_2 ..)
theorem bdy1_ok (G : Ground A w b1 b2 b3 c1 p) (I : Inv A w b2 b3 n s W) {a0 : Act} {x : Int × Int × Int × Int} (hAx : Ax1 A w b1 b2 b3 x a0 W) {r : Option Nat} {n' Bs : Nat} {Q : Exit → Act → World → Prop}
    (hB : Bs < w.heap.size) (hB2 : b2 ≠ Bs) (hB3 : b3 ≠ Bs) (hn : ∀ a' W' s', Kp A w Bs W W' → st1 p s x = some s' → Inv A w b2 b3 n s' W' → Q .normal a' W') (hr : ∀ a' W' s', Kp A w Bs W W' → st1 p s x = none → Inv A w b2 b3 8 s' W' → Q .ret a' W') : bd1.wpIn (rnd r) n' Try.prog Q a0 W := by
  obtain ⟨hp, hd, b5, h5, hb5, hc5⟩ := hAx
  have hg := G.glAt I.keep
  have C := bx3_ok (x := x) I G hb5 hc5
  have R0 := boxes_RS (nt := 104) C hg (a := a0) (tm := (5, .ptr 3 []) :: tmP p) hp.1
    (tm_cons (by decide) (by rw [h5]; exact mk_ptr (p := []) gL3_3 rfl trivial) (tmP_ok G I.keep hp gL3_1 gL3_2))
  have fin : ∀ g A' a' W' X m s', RS (BL hg (bx3 b2 b3 b5 n s x) 104 a0.defers) g A' a' W' (tmR X) (hR X) (ioL (bx3 b2 b3 b5 n s x)) → (hR X).at 1 = some (.box (.v (.int .i64) m)) → (hR X).at 2 = some (.box (.v (.arr 3 t0) s')) → Kp A w Bs W W' ∧ Inv A w b2 b3 m s' W' := by
    intro g A' a' W' X m s' R k3 k4
    have kp := kp_of (w := w) (Bs := Bs) R C (Nat.lt_of_lt_of_le hB I.keep.size) (fun q hq => by
      unfold bx3 at hq
      simp only [List.mem_cons, List.not_mem_nil, or_false] at hq
      rcases hq with rfl | rfl | rfl
      · exact hB2
      · exact hB3
      · exact fun e => by have e : b5 = Bs := e; omega)
    refine ⟨kp, boxes_of rfl R rfl C R.keep.size bx2_sub (bx2_nd I).1 (bx2_nd I).2 (bx2_all k3 k4), I.keep.trans ⟨R.keep.os, R.keep.tape, R.keep.output, R.keep.size, fun r hr hn => R.keep.block r hr (fun hx => hn ?_)⟩⟩
    rcases hx with hx | ⟨q, hq, rfl⟩
    · exact .inl (Nat.le_trans I.keep.size hx)
    · unfold bx3 at hq
      simp only [List.mem_cons, List.not_mem_nil, or_false] at hq
      rcases hq with rfl | rfl | rfl
      · exact .inr (.inl rfl)
      · exact .inr (.inr rfl)
      · exact .inl hb5
  rw [bd1_eq]
  refine wpIn_block ?_
  refine wpIn_seq ?_
  refine regionIn_ok part_Check.envOk rfl (evR_some (q6_ok p n s x)) (by kernel_rfl) (by kernel_rfl) R0 (fun g A' a' W' R _ => ?_)
  refine wpIn_seq ?_
  refine regionIn_ok part_Check.envOk rfl (evR_some (q7_ok p n s x)) (by kernel_rfl) (by kernel_rfl) R (fun g A' a' W' R _ => ?_)
  have hc := v_bool (R.tms 57 _ (q7_57 p n s x)).2
  cases hb : Ty.beq (.arr 3 t0) (List.set s 1 (toL x)) p.2.1 with
  | true =>
    rw [hb] at hc
    refine wpIn_cond_false hc (wpIn_skip ?_)
    obtain ⟨kp, hI⟩ := fin g A' a' W' _ _ _ R (q7_1 p n s x) (q7_2 p n s x)
    exact hn a' W' _ kp (by unfold st1; rw [hb]; rfl) hI
  | false =>
    rw [hb] at hc
    refine wpIn_cond_true hc (wpIn_seq ?_)
    refine regionIn_ok part_Check.envOk rfl (evR_some (q8_ok p n s x)) (by kernel_rfl) (by kernel_rfl) R (fun g A' a' W' R _ => ?_)
    refine wpIn_ret ?_
    obtain ⟨kp, hI⟩ := fin g A' a' W' _ _ _ R (q8_1 p n s x) (q8_2 p n s x)
    exact hr a' W' _ kp (by unfold st1; rw [hb]; rfl) hI
/- loop 2 -/
/-- The loop's variable is laid. -/
def Ax2 (A : Nat → Prop) (w : World) (b1 b2 b3 : Nat) (x : Int × Int × Int × Int) (a : Act) (W : World) : Prop :=
  Pts b1 b2 b3 a ∧ a.defers = [] ∧ a.tmps.getD 6 undef = .int .u32 x.1 ∧ ∃ b5, a.tmps.getD 7 undef = .pointer (some ⟨b5, 0, none⟩) ∧ w.heap.size ≤ b5 ∧ ∃ c e, W.heap[b5]? = some (.cells c e (0, 0)) ∧ TRel A W t0 c.toList (toL x)
theorem asg2_ok (G : Ground A w b1 b2 b3 c1 p) (I : Inv A w b2 b3 n s W) {a0 : Act} (hp : Pts b1 b2 b3 a0) {x : Int × Int × Int × Int} (h61 : a0.tmps.getD 61 undef = .int .u32 x.1) (h62 : a0.tmps.getD 62 undef = .agg #[.int .i64 x.2.1, .int .i64 x.2.2.1, .int .i64 x.2.2.2]) (hd : a0.defers = []) {r : Option Nat} {n' Bs : Nat} {K : Act → World → Prop}
    (hB : Bs < w.heap.size) (hB2 : b2 ≠ Bs) (hB3 : b3 ≠ Bs) (hK : ∀ a' W', Kp A w Bs W W' → Inv A w b2 b3 n s W' → Ax2 A w b1 b2 b3 x a' W' → K a' W') : (rfAsg rf2).wpIn (rnd r) n' Try.prog (Exit.then K (fun _ _ _ => False)) a0 W := by
  have hg := G.glAt I.keep
  have R0 := boxes_RS (nt := 104) I.bx hg (a := a0) (tm := (62, mk t0 (toL x)) :: (61, .v (.int .u32) x.1) :: tmP p) hp.1
    (tm_cons (by decide) (by rw [h62]; exact lim_vrel x) (tm_cons (by decide) (by rw [h61]; exact of_int _ _) (tmP_ok G I.keep hp gL2_1 gL2_2)))
  have fin : ∀ g A' a' W' X, RS (BL hg (bx2 b2 b3 n s) 104 a0.defers) g A' a' W' (tmR X) (hR X) (ioL (bx2 b2 b3 n s)) → Pts b1 b2 b3 a' → look 7 (tmR X) = some (.ptr 2000 []) → look 6 (tmR X) = some (.v (.int .u32) x.1) → (hR X).at 2000 = some (.box (mk t0 (toL x))) → (hR X).at 1 = some (.box (.v (.int .i64) n)) → (hR X).at 2 = some (.box (.v (.arr 3 t0) s)) → K a' W' := by
    intro g A' a' W' X R hp' k1 k6 k2 k3 k4
    have kp := kp_of (w := w) (Bs := Bs) R I.bx (Nat.lt_of_lt_of_le hB I.keep.size) (fun q hq => by
      unfold bx2 at hq
      simp only [List.mem_cons, List.not_mem_nil, or_false] at hq
      rcases hq with rfl | rfl
      · exact hB2
      · exact hB3)
    have hI : Inv A w b2 b3 n s W' := ⟨boxes_of rfl R rfl I.bx R.keep.size bx2_sub2 (bx2_nd I).1 (bx2_nd I).2 (bx2_all k3 k4), I.keep.trans ⟨R.keep.os, R.keep.tape, R.keep.output, R.keep.size, fun r hr hn => R.keep.block r hr (fun hx => hn (by
      rcases hx with hx | ⟨q, hq, rfl⟩
      · exact .inl (Nat.le_trans I.keep.size hx)
      · unfold bx2 at hq
        simp only [List.mem_cons, List.not_mem_nil, or_false] at hq
        rcases hq with rfl | rfl
        · exact .inr (.inl rfl)
        · exact .inr (.inr rfl)))⟩⟩
    obtain ⟨b5, e1, e2, c, e, e3, e4⟩ := new_box R k2 k1 (fun q hq => by
      unfold bx2 at hq
      simp only [List.mem_cons, List.not_mem_nil, or_false] at hq
      rcases hq with rfl | rfl
      · exact ⟨(fun e => by cases e), _, k3⟩
      · exact ⟨(fun e => by cases e), _, k4⟩) (τ := t0) (x := toL x) (by kernel_rfl) (by kernel_rfl)
    exact hK a' W' kp hI ⟨hp', R.defs.trans hd, v_int (R.tms 6 _ k6).2, b5, e1, Nat.le_trans I.keep.size e2, c, e, e3, e4⟩
  rw [a2_eq]
  refine wpIn_seq ?_
  refine regionIn_ok part_Check.envOk rfl (evR_some (qa2_ok p n s x)) (by kernel_rfl) (by kernel_rfl) R0 (fun g A' a' W' R hf => ?_)
  have hp' := pts_of hp (by rw [R.size]; rfl) hf (by kernel_rfl)
  refine regionIn_ok part_Check.envOk rfl (evR_some (qa3_ok p n s x)) (by kernel_rfl) (by kernel_rfl) R (fun g A' a'' W' R' hf' => ?_)
  exact fin g A' a'' W' (qa3 p n s x) R' (pts_of hp' (by rw [R'.size]; rfl) hf' (by kernel_rfl)) (qa3_7 ..) (qa3_6 ..) (qa3_b ..) (qa3_1 ..) (qa3_2 ..)
theorem bdy2_ok (G : Ground A w b1 b2 b3 c1 p) (I : Inv A w b2 b3 n s W) {a0 : Act} {x : Int × Int × Int × Int} (hAx : Ax2 A w b1 b2 b3 x a0 W) {r : Option Nat} {n' Bs : Nat} {Q : Exit → Act → World → Prop}
    (hB : Bs < w.heap.size) (hB2 : b2 ≠ Bs) (hB3 : b3 ≠ Bs) (hn : ∀ a' W' s', Kp A w Bs W W' → st2 p s x = some s' → Inv A w b2 b3 n s' W' → Q .normal a' W') (hr : ∀ a' W' s', Kp A w Bs W W' → st2 p s x = none → Inv A w b2 b3 8 s' W' → Q .ret a' W') : bd2.wpIn (rnd r) n' Try.prog Q a0 W := by
  obtain ⟨hp, hd, h6, b5, h5, hb5, hc5⟩ := hAx
  have hg := G.glAt I.keep
  have C := bx3_ok (x := x) I G hb5 hc5
  have R0 := boxes_RS (nt := 104) C hg (a := a0) (tm := (7, .ptr 3 []) :: (6, .v (.int .u32) x.1) :: tmP p) hp.1
    (tm_cons (by decide) (by rw [h5]; exact mk_ptr (p := []) gL3_3 rfl trivial) (tm_cons (by decide) (by rw [h6]; exact of_int _ _) (tmP_ok G I.keep hp gL3_1 gL3_2)))
  have fin : ∀ g A' a' W' X m s', RS (BL hg (bx3 b2 b3 b5 n s x) 104 a0.defers) g A' a' W' (tmR X) (hR X) (ioL (bx3 b2 b3 b5 n s x)) → (hR X).at 1 = some (.box (.v (.int .i64) m)) → (hR X).at 2 = some (.box (.v (.arr 3 t0) s')) → Kp A w Bs W W' ∧ Inv A w b2 b3 m s' W' := by
    intro g A' a' W' X m s' R k3 k4
    have kp := kp_of (w := w) (Bs := Bs) R C (Nat.lt_of_lt_of_le hB I.keep.size) (fun q hq => by
      unfold bx3 at hq
      simp only [List.mem_cons, List.not_mem_nil, or_false] at hq
      rcases hq with rfl | rfl | rfl
      · exact hB2
      · exact hB3
      · exact fun e => by have e : b5 = Bs := e; omega)
    refine ⟨kp, boxes_of rfl R rfl C R.keep.size bx2_sub (bx2_nd I).1 (bx2_nd I).2 (bx2_all k3 k4), I.keep.trans ⟨R.keep.os, R.keep.tape, R.keep.output, R.keep.size, fun r hr hn => R.keep.block r hr (fun hx => hn ?_)⟩⟩
    rcases hx with hx | ⟨q, hq, rfl⟩
    · exact .inl (Nat.le_trans I.keep.size hx)
    · unfold bx3 at hq
      simp only [List.mem_cons, List.not_mem_nil, or_false] at hq
      rcases hq with rfl | rfl | rfl
      · exact .inr (.inl rfl)
      · exact .inr (.inr rfl)
      · exact .inl hb5
  rw [bd2_eq]
  refine wpIn_block ?_
  refine wpIn_seq ?_
  refine regionIn_ok part_Check.envOk rfl (evR_some (q12_ok p n s x)) (by kernel_rfl) (by kernel_rfl) R0 (fun g A' a' W' R _ => ?_)
  refine wpIn_seq ?_
  cases hb : Ty.beq (.arr 3 t0) (List.set s 2 (toL x)) p.2.1 with
  | false =>
    have e13 : q13 p n s x = some (tmR (q13a p n s x), hR (q13a p n s x)) := by rw [q13_eq, hb, Bool.not_false, cond_true]; exact evR_some (q13a_ok p n s x)
    refine regionIn_ok part_Check.envOk rfl e13 (by kernel_rfl) (by kernel_rfl) R (fun g A' a' W' R _ => ?_)
    have hc := v_bool (R.tms 72 _ (q13a_72 p n s x)).2
    refine wpIn_cond_true hc (wpIn_seq ?_)
    refine regionIn_ok part_Check.envOk rfl (evR_some (q14a_ok p n s x)) (by kernel_rfl) (by kernel_rfl) R (fun g A' a' W' R _ => ?_)
    refine wpIn_ret ?_
    obtain ⟨kp, hI⟩ := fin g A' a' W' _ _ _ R (q14a_1 p n s x) (q14a_2 p n s x)
    exact hr a' W' _ kp (by unfold st2; rw [hb]; rfl) hI
  | true =>
    have e13 : q13 p n s x = some (tmR (q13b p n s x), hR (q13b p n s x)) := by rw [q13_eq, hb, Bool.not_true, cond_false]; exact evR_some (q13b_ok p n s x)
    refine regionIn_ok part_Check.envOk rfl e13 (by kernel_rfl) (by kernel_rfl) R (fun g A' a' W' R _ => ?_)
    have hc := v_bool (R.tms 72 _ (q13b_72 p n s x)).2
    cases hk : decide (x.1 > 65535) with
    | false =>
      rw [hk] at hc
      refine wpIn_cond_false hc (wpIn_skip ?_)
      obtain ⟨kp, hI⟩ := fin g A' a' W' _ _ _ R (q13b_1 p n s x) (q13b_2 p n s x)
      exact hn a' W' _ kp (by unfold st2; rw [hb, hk]; rfl) hI
    | true =>
      rw [hk] at hc
      refine wpIn_cond_true hc (wpIn_seq ?_)
      refine regionIn_ok part_Check.envOk rfl (evR_some (q14b_ok p n s x)) (by kernel_rfl) (by kernel_rfl) R (fun g A' a' W' R _ => ?_)
      refine wpIn_ret ?_
      obtain ⟨kp, hI⟩ := fin g A' a' W' _ _ _ R (q14b_1 p n s x) (q14b_2 p n s x)
      exact hr a' W' _ kp (by unfold st2; rw [hb, hk]; rfl) hI
end
end Go.Proofs.Ytjmgelpeonodgaa.PM
