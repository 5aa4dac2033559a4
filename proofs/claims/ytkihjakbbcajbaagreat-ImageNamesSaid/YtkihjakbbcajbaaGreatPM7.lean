/- One operation of the pure machine, and that the real one does the same: loads, stores, new memory. -/
import Derived.Test.YtkihjakbbcajbaaGreatPM6
namespace Go.Proofs.YtkihjakbbcajbaaGreat.PM
set_option linter.unusedSimpArgs false
set_option linter.unusedVariables false
open Go

structure Keep (W : Nat → Prop) (w w' : World) : Prop where
  os : w'.os = w.os
  tape : w'.tape = w.tape
  output : w'.output = w.output
  size : w.heap.size ≤ w'.heap.size
  block : ∀ r, r < w.heap.size → ¬ W r → w'.heap[r]? = w.heap[r]?
theorem Keep.refl (W : Nat → Prop) (w : World) : Keep W w w := ⟨rfl, rfl, rfl, Nat.le_refl _, fun _ _ _ => rfl⟩
theorem Keep.trans {W : Nat → Prop} {a b c : World} (h : Keep W a b) (k : Keep W b c) : Keep W a c :=
  ⟨k.os.trans h.os, k.tape.trans h.tape, k.output.trans h.output, Nat.le_trans h.size k.size, fun r hr hn => (k.block r (Nat.lt_of_lt_of_le hr h.size) hn).trans (h.block r hr hn)⟩
structure Step (g : Gh) (A W : Nat → Prop) (w : World) (g' : Gh) (A' : Nat → Prop) (w' : World) (h' : Hp) : Prop where
  le : g.le g'
  mono : ∀ r, A r → A' r
  in' : ∀ r, A' r → A r ∨ W r
  hr : HR g' A' W w' h'
  same : ∀ r, A r → w'.heap[r]? = w.heap[r]?
  keep : Keep W w w'
def TI.agg : TI → Bool
  | .data t => t.agg
  | .other => false
def TI.size : TI → Nat
  | .data t => t.size
  | .other => 1
section
variable {P : Program} {t : TypeId} {τ : TI} {g : Gh} {A W : Nat → Prop} {w : World} {h : Hp}
theorem Step.refl (H : HR g A W w h) : Step g A W w g A w h := ⟨Gh.le_refl g, fun _ h => h, fun _ h => .inl h, H, fun _ _ => rfl, .refl W w⟩
theorem Step.trans {g1 g2 : Gh} {A1 A2 : Nat → Prop} {w1 w2 : World} {h1 h2 : Hp} (a : Step g A W w g1 A1 w1 h1) (b : Step g1 A1 W w1 g2 A2 w2 h2) : Step g A W w g2 A2 w2 h2 :=
  ⟨Gh.le_trans a.le b.le, fun r hr => b.mono r (a.mono r hr), fun r hr => (b.in' r hr).elim (a.in' r) .inr, b.hr, fun r hr => (b.same r (a.mono r hr)).trans (a.same r hr), a.keep.trans b.keep⟩
theorem Frz.step {A' : Nat → Prop} {h' : Hp} (f : Frz g A W w h A' h') : Step g A W w g A' w h' := ⟨Gh.le_refl g, f.le, f.in', f.hr, fun _ _ => rfl, .refl W w⟩
theorem run_isAgg' (w : World) (hT : tiB P τ t = true) : (isAgg t).run P w = .ok τ.agg w := by
  cases τ with
  | data t' => exact run_isAgg w hT
  | other =>
    simp only [tiB] at hT
    split at hT
    · rename_i e i hd hi; simp [isAgg, run_underlying hd, TI.agg]
    · rename_i e i hd hi; simp [isAgg, run_underlying hd, TI.agg]
    · cases hT
theorem run_size' (w : World) (hT : tiB P τ t = true) : (sizeOf t).run P w = .ok τ.size w := by
  cases τ with
  | data t' => exact run_sizeT w hT
  | other =>
    simp only [tiB] at hT
    split at hT
    · rename_i e i hd hi; have := Nat.eq_of_beq_eq_true hT; simp [sizeOf, typeInfo, hi, TI.size, this]
    · rename_i e i hd hi; have := Nat.eq_of_beq_eq_true hT; simp [sizeOf, typeInfo, hi, TI.size, this]
    · cases hT
theorem agg_size (hT : tiB P τ t = true) (ha : τ.agg = false) : τ.size = 1 := by
  cases τ with
  | data t' => cases t' <;> simp_all [TI.agg, Ty.agg, TI.size, Ty.size]
  | other => rfl
theorem run_loadVar_at (hT : tiB P τ t = true) {a : Addr} {c : List Value} (hc : At w a c) (hl : c.length = τ.size) : (loadVar t a).run P w = .ok (ofCells τ.agg c) w := by
  unfold loadVar ofCells
  cases ha : τ.agg with
  | true =>
    have h1 := run_loadCells_list (P := P) w a c hc
    rw [hl] at h1
    simp [run_isAgg' w hT, ha, run_size' w hT, h1]
  | false =>
    have hs := agg_size hT ha
    obtain ⟨v, rfl⟩ : ∃ v, c = [v] := by
      cases c with
      | nil => simp at hl; omega
      | cons v c => cases c with
        | nil => exact ⟨v, rfl⟩
        | cons u c => simp at hl; omega
    have h0 := hc 0 v rfl
    have : a.add 0 = a := by unfold Addr.add; simp
    rw [this] at h0
    simp [run_isAgg' w hT, ha, h0]
theorem run_storeVar_at (hT : tiB P τ t = true) {b off : Nat} {cur : Array Value} {e : TypeId} (hh : w.heap[b]? = some (.cells cur e (0, 0))) {v : Value} (hl : v.cells.toList.length = τ.size) (hr : off + v.cells.toList.length ≤ cur.size) (h1 : ∀ u ∈ v.cells.toList, u.oneCell' = true) :
    (storeVar t ⟨b, off, none⟩ v).run P w = .ok () (w.setRow b (cur.toList.take off ++ v.cells.toList ++ cur.toList.drop (off + v.cells.toList.length)).toArray) := by
  unfold storeVar
  have hs := run_storeCells_at (P := P) b off e v.cells.toList 0 cur w hh (by simpa using hr) h1
  simp only [Nat.add_zero] at hs
  have hl' : v.cells.size = τ.size := by simpa using hl
  simp only [Sem.run_bind, run_size' w hT, Result.andThen_ok, hl', ne_eq, not_true_eq_false, if_false]
  exact hs
theorem HR.delMove {w' : World} (H : HR g A W w h) {id b : Nat} {B : Blk} {s : Slot} (hb : h.at id = some B) (hl : B.live = true) (hg : g id = some s) (hs : s.blk = some b) (hw : ∀ r, r ≠ b → w'.heap[r]? = w.heap[r]?) (hz : w.heap.size ≤ w'.heap.size) :
    HR g A W w' ((id, none) :: h) ∧ Free g ((id, none) :: h) b := by
  have hA : ∀ r, A r → w'.heap[r]? = w.heap[r]? := fun r hr => hw r (fun e => by subst e; exact (H.own id B s r hb hl hg hs).1 hr)
  refine ⟨(H.del id).move hA (fun i c s' r e hgi hr => hw r (fun e' => ?_)) hz, fun i c s' e hcl hgi hr => ?_⟩
  · subst e'
    rw [at_cons] at e
    split at e
    · cases e
    · rename_i hne
      cases hcl : c.live with
      | true => exact hne (H.inj i id c B s' s r e hb hcl hl hgi hg hr hs)
      | false =>
        cases c with
        | box x => cases hcl
        | row t xs fz =>
          cases fz with
          | false => cases hcl
          | true =>
            obtain ⟨s'', hg'', _, hf⟩ := H.blk i _ e
            rw [hgi] at hg''; injection hg'' with hg''; subst hg''
            exact (H.own id B s r hb hl hg hs).1 (hf rfl r hr)
  · rw [at_cons] at e
    split at e
    · cases e
    · rename_i hne
      exact hne (H.inj i id c B s' s b e hb hcl hl hgi hg hr hs)
theorem HR.store {w' : World} (H : HR g A W w h) {id b : Nat} {B B' : Blk} {s : Slot} (hb : h.at id = some B) (hl : B.live = true) (hg : g id = some s) (hs : s.blk = some b) (hw : ∀ r, r ≠ b → w'.heap[r]? = w.heap[r]?) (hz : w.heap.size ≤ w'.heap.size)
    (hB : BRel g A w' id B') : HR g A W w' ((id, some B') :: h) := by
  have hA : ∀ r, A r → w'.heap[r]? = w.heap[r]? := fun r hr => hw r (fun e => by subst e; exact (H.own id B s r hb hl hg hs).1 hr)
  have H1 : HR g A W w' ((id, none) :: h) := (H.del id).move hA (fun i c s' r e hgi hr => hw r (fun e' => by
    subst e'
    rw [at_cons] at e
    split at e
    · cases e
    · rename_i hne
      cases hcl : c.live with
      | true => exact hne (H.inj i id c B s' s r e hb hcl hl hgi hg hr hs)
      | false =>
        cases c with
        | box x => cases hcl
        | row t xs fz =>
          cases fz with
          | false => cases hcl
          | true =>
            obtain ⟨s'', hg'', _, hf⟩ := H.blk i _ e
            rw [hgi] at hg''; injection hg'' with hg''; subst hg''
            exact (H.own id B s r hb hl hg hs).1 (hf rfl r hr))) hz
  have H2 := H1.put hB (fun _ s' r hs' hr => by
    rw [hg] at hs'; injection hs' with hs'; subst hs'
    rw [hs] at hr; injection hr with hr; subst hr
    refine ⟨(H.own id B s b hb hl hg hs).1, (H.own id B s b hb hl hg hs).2, fun j c s' hj e hcl hgj hr => ?_⟩
    rw [at_cons, if_neg hj] at e
    exact hj (H.inj j id c B s' s b e hb hcl hl hgj hg hr hs))
  have ext : ∀ i, look i ((id, some B') :: (id, none) :: h) = look i ((id, some B') :: h) := fun i => by
    simp only [look_cons]; split <;> rfl
  have ext' : ∀ i, Hp.at ((id, some B') :: (id, none) :: h) i = Hp.at ((id, some B') :: h) i := fun i => by unfold Hp.at; rw [ext]
  exact ⟨fun i c hi => H2.blk i c (by rw [ext']; exact hi), fun i c s r hi => H2.own i c s r (by rw [ext']; exact hi), fun i j c d s s' r hi hj => H2.inj i j c d s s' r (by rw [ext']; exact hi) (by rw [ext']; exact hj), fun i s hg => by rw [← ext]; exact H2.dfn i s hg, H2.lt⟩
theorem setRow_keep {b : Nat} {c : Array Value} (hb : W b) : Keep W w (w.setRow b c) :=
  ⟨rfl, rfl, rfl, by simp, fun r _ hn => setRow_other w b r c (fun e => hn (e ▸ hb))⟩
/-- A block of the call's own is written. -/
theorem Step.set (H : HR g A W w h) {id b : Nat} {B B' : Blk} {s : Slot} {c : Array Value} (hb : h.at id = some B) (hl : B.live = true) (hg : g id = some s) (hs : s.blk = some b) (hB : BRel g A (w.setRow b c) id B') :
    Step g A W w g A (w.setRow b c) ((id, some B') :: h) := by
  have ho := H.own id B s b hb hl hg hs
  exact ⟨Gh.le_refl g, fun _ h => h, fun _ h => .inl h, H.store hb hl hg hs (fun r hr => setRow_other w b r c hr) (by simp) hB, fun r hr => setRow_other w b r c (fun e => ho.1 (e ▸ hr)), setRow_keep ho.2⟩
theorem poff_append (p q : List Stp) : poff (p ++ q) = poff p + poff q := by
  induction p with
  | nil => simp [poff]
  | cons a p ih => simp only [List.cons_append, poff, ih]; omega
theorem pok_append {L : Nat} (p q : List Stp) (h1 : pok L p) (h2 : pok L q) : pok L (p ++ q) := by
  induction p with
  | nil => exact h2
  | cons a p ih =>
    cases a with
    | fld i o => exact ih h1
    | idx i s n => exact ⟨h1.1, ih h1.2⟩
    | elt i s => exact ⟨h1.1, ih h1.2⟩
/-- The value behind a pointer, read. -/
theorem load_ok (hT : tiB P τ t = true) {E : Env} (hE : E.tab t = some τ) (H : HR g A W w h) {a : PV} {va : Value} (ha : VRel g A w a va) {x : PV} {h' : Hp} (e : (loadQ E t a).Ok h x h') :
    h' = h ∧ ∃ v, (Instr.loadAt t va).run P w = .ok v w ∧ VRel g A w x v := by
  have hfits : ∀ {x : PV}, fitsI τ x = true → aggP x = τ.agg ∧ x.size = τ.size := fun {x} hf => by
    cases τ with
    | data t' => exact fits_ok t' x hf
    | other => cases x <;> first | exact ⟨rfl, rfl⟩ | (simp [fitsI, lone] at hf)
  have fin : ∀ {ad : Addr} {x : PV} {c : List Value}, va = .pointer (some ad) → At w ad c → x.rel g A w c → fitsI τ x = true → ∃ v, (Instr.loadAt t va).run P w = .ok v w ∧ VRel g A w x v := fun {ad x c} hva hc hx hf => by
    obtain ⟨h1, h2⟩ := hfits hf
    refine ⟨_, ?_, VRel.of_cells hx⟩
    subst hva
    rw [h1, ← run_loadVar_at hT hc (by rw [PV.rel_len x c hx, h2])]
    simp [Instr.loadAt, Instr.sureAddr]
  simp only [loadQ, Ok_bind, Ok_get] at e
  obtain ⟨τ', h1, ⟨e1, rfl⟩, y, h2, e2, e3⟩ := e
  rw [hE] at e1; injection e1 with e1; subst e1
  rw [Ok_cond] at e3
  rcases e3 with ⟨hf, e3⟩ | ⟨_, e3⟩
  · rw [Ok_ret] at e3
    obtain ⟨rfl, rfl⟩ := e3
    cases a with
    | iptr u z =>
      simp only [ptrQ, Ok_ret] at e2
      obtain ⟨rfl, rfl⟩ := e2
      have hr := (VRel.cells ha).1
      unfold VRel at ha
      simp only [aggP] at ha
      unfold PV.rel at ha
      obtain ⟨ad, c, e, h1, h2, h3, h4⟩ := ha
      injection e with e
      exact ⟨rfl, fin e h3 (mk_rel u z c h4) hf⟩
    | ptr id p =>
      simp only [ptrQ, Q.Ok] at e2
      obtain ⟨B, hb, e2⟩ := e2
      unfold VRel at ha
      simp only [aggP] at ha
      unfold PV.rel at ha
      obtain ⟨s, b, hg, hs, e, hp⟩ := ha
      injection e with e
      cases B with
      | box x =>
        simp only [rdPath, Ok_get] at e2
        obtain ⟨e2, rfl⟩ := e2
        obtain ⟨s', b', c, ty, hg', hs', hh, hx⟩ := H.blk id _ hb
        rw [hg] at hg'; injection hg' with hg'; subst hg'
        rw [hs] at hs'; injection hs' with hs'; subst hs'
        obtain ⟨pre, ys, post, q1, q2, q3⟩ := getP_rel p x _ _ hx hp e2
        refine ⟨rfl, fin e (At_block hh (ys := ys) (fun j v hj => ?_)) q3 hf⟩
        have hlt : j < ys.length := (List.getElem?_eq_some_iff.1 hj).1
        have : c.toList[poff p + j]? = some v := by
          rw [q1, List.append_assoc, List.getElem?_append_right (by omega), List.getElem?_append_left (by omega), ← hj]
          congr 1; omega
        simpa using this
      | row u xs fz =>
        cases p with
        | nil => simp [Q.Ok] at e2
        | cons q p =>
          cases q with
          | elt i sz =>
            simp only [Ok_cond, rdPath, Ok_get, Ok_fail, and_false, or_false] at e2
            obtain ⟨hsz, e2, rfl⟩ := e2
            have hsz := Nat.eq_of_beq_eq_true hsz
            obtain ⟨s', hg', ⟨hlen, hr⟩, _⟩ := H.blk id _ hb
            rw [hg] at hg'; injection hg' with hg'; subst hg'
            rw [hs] at hr
            obtain ⟨hcap, c, ty, hh, hsize, hcat⟩ := hr
            have hi : i < xs.length := by rw [← hlen]; exact hp.1
            rw [getD_eq xs i _ hi] at e2
            have hn := Cat.nth (TRel.len u) hcat hi
            obtain ⟨pre, ys, post, q1, q2, q3⟩ := getP_rel p _ _ _ (mk_rel u _ _ hn) hp.2 e2
            refine ⟨rfl, fin e (At_block hh (ys := ys) (fun j v hj => ?_)) q3 hf⟩
            have hlt : j < ys.length := (List.getElem?_eq_some_iff.1 hj).1
            have h5 : (((c.toList.take (s.len * u.size)).drop (i * u.size)).take u.size)[poff p + j]? = some v := by
              rw [q1, List.append_assoc, List.getElem?_append_right (by omega), List.getElem?_append_left (by omega), ← hj]
              congr 1; omega
            have h6 := sub_getElem h5
            rw [List.getElem?_take] at h6
            split at h6
            · have h7 : c.toList[poff (Stp.elt i sz :: p) + j]? = some v := by
                rw [← h6]; congr 1; simp only [poff, Stp.off, hsz]; omega
              simpa using h7
            · cases h6
          | _ => simp [Q.Ok] at e2
    | _ => simp [ptrQ, Q.Ok] at e2
  · simp [Q.Ok] at e3
theorem seat_ok (H : HR g A W w h) {τ : TI} {y y' : PV} {n : Nat} {v : Value} {h' : Hp} (hy : VRel g A w y v) (e : (seat τ y n).Ok h y' h') : ∃ g', Step g A W w g' A w h' ∧ VRel g' A w y' v ∧ (∀ r, Free g h r → Free g' h' r) := by
  cases y with
  | nils =>
    cases τ with
    | other => simp [seat, Q.Ok] at e
    | data t =>
      cases t with
      | slice t =>
        simp only [seat, Q.Ok] at e
        obtain ⟨hn, rfl, rfl⟩ := e
        have hu : upd g n ⟨none, 0, 0⟩ n = some ⟨none, 0, 0⟩ := by unfold upd; rw [if_pos rfl]
        refine ⟨upd g n ⟨none, 0, 0⟩, ⟨le_upd (H.gnone hn), fun _ h => h, fun _ h => .inl h, H.add hn ⟨none, 0, 0⟩ ⟨_, hu, ⟨rfl, rfl, rfl⟩, fun h => by cases h⟩ (fun _ r hr => by cases hr), fun _ _ => rfl, .refl W w⟩, ?_, fun r hf => hf.add (H.gnone hn) (fun hr => by cases hr)⟩
        unfold VRel at *
        simp only [aggP] at *
        unfold PV.rel at *
        injection hy with hy
        exact ⟨_, v, hu, rfl, by unfold SlV; exact ⟨hy, rfl, rfl⟩⟩
      | _ => simp [seat, Q.Ok] at e
  | _ => simp only [seat, Ok_ret] at e; obtain ⟨rfl, rfl⟩ := e; exact ⟨g, Step.refl H, hy, fun r h => h⟩
theorem fitsI_ok {τ : TI} {x : PV} (hf : fitsI τ x = true) : aggP x = τ.agg ∧ x.size = τ.size := by
  cases τ with
  | data t' => exact fits_ok t' x hf
  | other => cases x <;> first | exact ⟨rfl, rfl⟩ | (simp [fitsI, lone] at hf)
theorem fitsI_one {τ : TI} {x : PV} {cs : List Value} (hf : fitsI τ x = true) (hr : x.rel g A w cs) : ∀ v ∈ cs, v.oneCell' = true := by
  cases τ with
  | data t' => exact fits_one t' x cs hf hr
  | other =>
    cases x <;> first | (simp [fitsI, lone] at hf; done) | skip
    · unfold PV.rel at hr; obtain ⟨s, b, _, _, rfl, _⟩ := hr; simp [Value.oneCell']
    · unfold PV.rel at hr; obtain ⟨_, rfl, _⟩ := hr; simp [Value.oneCell']
theorem take_pre {cs pre ys post zs : List Value} (h : cs = pre ++ ys ++ post) (hl : ys.length = zs.length) : cs.take pre.length ++ zs ++ cs.drop (pre.length + zs.length) = pre ++ zs ++ post := by
  subst h
  rw [List.append_assoc pre ys post, List.take_left, ← List.drop_drop, List.drop_left, ← hl, List.drop_left]
theorem splice_take {cs pre ys post zs : List Value} {m k n o : Nat} (h : ((cs.take m).drop k).take n = pre ++ ys ++ post) (ho : o = pre.length) (hl : ys.length = zs.length) (hm : m ≤ cs.length) (hk : k + n ≤ m) (hn : pre.length + ys.length + post.length = n) :
    (cs.take m).take k ++ (pre ++ zs ++ post) ++ (cs.take m).drop (k + n) = (cs.take (k + o) ++ zs ++ cs.drop (k + o + zs.length)).toArray.toList.take m := by
  obtain ⟨u, v, w, x, rfl, hu, hvw, hx⟩ : ∃ u v w x, cs = u ++ v ++ w ++ x ∧ u.length = k ∧ v = pre ++ ys ++ post ∧ (u ++ v ++ w).length = m := by
    refine ⟨cs.take k, ((cs.take m).drop k).take n, (cs.take m).drop (k + n), cs.drop m, ?_, by rw [List.length_take]; omega, h, ?_⟩
    · have h1 := cut3 (cs.take m) k n
      rw [List.take_take, Nat.min_eq_left (by omega)] at h1
      rw [← h1, List.take_append_drop]
    · have h1 := cut3 (cs.take m) k n
      rw [List.take_take, Nat.min_eq_left (by omega)] at h1
      rw [← h1, List.length_take]; omega
  subst hvw ho
  have e1 : (u ++ (pre ++ ys ++ post) ++ w ++ x).take m = u ++ (pre ++ ys ++ post) ++ w := by rw [← hx, List.take_left]
  rw [e1]
  have e2 : (u ++ (pre ++ ys ++ post) ++ w).take k = u := by rw [← hu, List.append_assoc, List.take_left]
  have e3 : (u ++ (pre ++ ys ++ post) ++ w).drop (k + n) = w := by
    have : k + n = (u ++ (pre ++ ys ++ post)).length := by simp only [List.length_append]; omega
    rw [this, List.drop_left]
  have e4 : (u ++ (pre ++ ys ++ post) ++ w ++ x).take (k + pre.length) = u ++ pre := by
    have : k + pre.length = (u ++ pre).length := by simp only [List.length_append]; omega
    rw [this]
    have : u ++ (pre ++ ys ++ post) ++ w ++ x = (u ++ pre) ++ (ys ++ post ++ w ++ x) := by simp [List.append_assoc]
    rw [this, List.take_left]
  have e5 : (u ++ (pre ++ ys ++ post) ++ w ++ x).drop (k + pre.length + zs.length) = post ++ w ++ x := by
    have : k + pre.length + zs.length = (u ++ pre ++ ys).length := by simp only [List.length_append]; omega
    rw [this]
    have : u ++ (pre ++ ys ++ post) ++ w ++ x = (u ++ pre ++ ys) ++ (post ++ w ++ x) := by simp [List.append_assoc]
    rw [this, List.drop_left]
  rw [e2, e3, e4, e5]
  have e6 : m = (u ++ pre ++ zs ++ post ++ w).length := by
    rw [← hx]; simp only [List.length_append]; omega
  have e7 : u ++ pre ++ zs ++ (post ++ w ++ x) = (u ++ pre ++ zs ++ post ++ w) ++ x := by simp [List.append_assoc]
  simp only []
  rw [e7, e6, List.take_left]
  simp [List.append_assoc]
theorem put_ok (hT : tiB P τ t = true) (H : HR g A W w h) {a y : PV} {va vy : Value} (ha : VRel g A w a va) (hy : VRel g A w y vy) (hf : fitsI τ y = true) {x : PV} {h' : Hp} (e : (putQ τ a y).Ok h x h') :
    x = .undef ∧ ∃ A' w', (Instr.storeAt t va vy).run P w = .ok () w' ∧ Step g A W w g A' w' h' := by
  obtain ⟨hf1, hf2⟩ := fitsI_ok hf
  have hyc := (VRel.cells hy).1
  have hyl := PV.rel_len y _ hyc
  have hy1 := fitsI_one hf hyc
  cases a with
  | ptr id p =>
    unfold VRel at ha
    simp only [aggP] at ha
    unfold PV.rel at ha
    obtain ⟨s, b, hg, hs, e', hp⟩ := ha
    injection e' with e'
    subst e'
    simp only [putQ, Q.Ok] at e
    obtain ⟨B, hb, e⟩ := e
    cases B with
    | box x0 =>
      simp only at e
      split at e
      · rename_i o z ho hz
        simp only [Ok_cond, Ok_fail, and_false, or_false, Q.Ok] at e
        obtain ⟨hfo, _, rfl, rfl⟩ := e
        obtain ⟨s', b', c, ty, hg', hs', hh, hx⟩ := H.blk id _ hb
        rw [hg] at hg'; injection hg' with hg'; subst hg'
        rw [hs] at hs'; injection hs' with hs'; subst hs'
        have hol := (fitsI_ok hfo).2
        obtain ⟨pre, ys, post, q1, q2, q3, q4⟩ := setP_rel p x0 o y z _ _ hx hp ho hz hyc (by rw [hyl, hf2, hol])
        have hsz : poff p + vy.cells.toList.length ≤ c.size := by
          have : c.toList.length = c.size := by simp
          rw [← this, q1]; simp only [List.length_append]; omega
        have hrun := run_storeVar_at (P := P) hT hh (v := vy) (off := poff p) (by rw [hyl, hf2]) hsz hy1
        refine ⟨rfl, A, _, by simp only [Instr.storeAt, Instr.sureAddr, Sem.run_bind, Sem.run_pure, Result.andThen_ok]; exact hrun, ?_⟩
        rw [← q2, take_pre q1 q3] 
        refine Step.set H hb rfl hg hs ⟨s, b, _, ty, hg, hs, setRow_heap w b c _ ty (0, 0) hh, ?_⟩
        refine PV.rel_mono (Gh.le_refl g) (fun _ h => h) (fun r hr => setRow_other w b r _ (fun e => (H.own id _ s b hb rfl hg hs).1 (e ▸ hr))) z _ ?_
        simpa using q4
      · simp [Q.Ok] at e
    | row u xs fz =>
      cases p with
      | nil => simp [Q.Ok] at e
      | cons q p =>
        cases q with
        | elt i sz =>
          simp only at e
          split at e
          · rename_i o z ho hz
            simp only [Ok_cond, Ok_fail, and_false, or_false, Bool.and_eq_true, Ok_bind] at e
            obtain ⟨⟨hsz, hfo⟩, el, h2, et, e⟩ := e
            have hsz := Nat.eq_of_beq_eq_true hsz
            obtain ⟨s', hg', ⟨hlen, hr⟩, _⟩ := H.blk id _ hb
            rw [hg] at hg'; injection hg' with hg'; subst hg'
            rw [hs] at hr
            obtain ⟨hcap, c, ty, hh, hsize, hcat⟩ := hr
            have hi : i < xs.length := by rw [← hlen]; exact hp.1
            rw [getD_eq xs i _ hi] at ho hz
            have hn := Cat.nth (TRel.len u) hcat hi
            have hol := (fitsI_ok hfo).2
            obtain ⟨pre, ys, post, q1, q2, q3, q4⟩ := setP_rel p _ o y z _ _ (mk_rel u _ _ hn) hp.2 ho hz hyc (by rw [hyl, hf2, hol])
            obtain ⟨A', F, ht⟩ := typed_own H q4 et
            simp only [Q.Ok] at e
            obtain ⟨B2, hb2, e⟩ := e
            obtain ⟨fz2, hb0⟩ : ∃ fz, h.at id = some (.row u xs fz) := ⟨fz, hb⟩
            cases B2 with
            | box x => simp [Q.Ok] at e
            | row v ys2 fz2 =>
              cases fz2 with
              | true => simp [Q.Ok] at e
              | false =>
                obtain ⟨fz3, hb3⟩ := F.sim id v ys2 false hb2
                rw [hb] at hb3
                injection hb3 with hb3
                injection hb3 with hv hys hfz
                subst hv
                cases hys
                simp only [Ok_bind, Ok_get, Q.Ok] at e
                obtain ⟨ys3, h3, ⟨ec, rfl⟩, _, rfl, rfl⟩ := e
                obtain ⟨_, rfl⟩ := cast_some ec
                have hol2 : ∀ r, A' r → r ≠ b := fun r hr e => by subst e; exact (F.hr.own id _ s r hb2 rfl hg hs).1 hr
                have hoff : poff (Stp.elt i sz :: p) = i * u.size + poff p := by simp only [poff, Stp.off, hsz]
                have hlen' : i * u.size + u.size ≤ s.len * u.size := by
                  rw [← Nat.succ_mul]; exact Nat.mul_le_mul_right _ hp.1
                have hcapl : s.len * u.size ≤ c.size := Nat.le_trans (Nat.mul_le_mul_right _ hcap) hsize
                have hcl : c.toList.length = c.size := by simp
                have hnl : ((c.toList.take (s.len * u.size)).drop (i * u.size)).take u.size = pre ++ ys ++ post := q1
                have hnlen : (pre ++ ys ++ post).length = u.size := by
                  rw [← hnl, List.length_take, List.length_drop, List.length_take]; omega
                have hplen : pre.length + ys.length + post.length = u.size := by simpa [List.length_append, Nat.add_assoc] using hnlen
                have hrun := run_storeVar_at (P := P) hT hh (v := vy) (off := i * u.size + poff p) (by rw [hyl, hf2]) (by omega) hy1
                refine ⟨rfl, A', _, by simp only [Instr.storeAt, Instr.sureAddr, Sem.run_bind, Sem.run_pure, Result.andThen_ok, hoff]; exact hrun, ?_⟩
                refine F.step.trans (Step.set F.hr hb2 rfl hg hs ⟨s, hg, ⟨by rw [List.length_set]; exact hlen, ?_⟩, fun h => by cases h⟩)
                rw [hs]
                refine ⟨hcap, _, ty, setRow_heap w b c _ ty (0, 0) hh, ?_, ?_⟩
                · simp only [List.size_toArray, List.length_append, List.length_take, List.length_drop, hcl]; omega
                · have hset := Cat.set (TRel.len u) (hcat.mono (TRel.mono F.le (fun _ _ => rfl) u)) hi ht
                  have hset' := hset.mono (TRel.mono (A' := A') (w' := w.setRow b (c.toList.take (i * u.size + poff p) ++ vy.cells.toList ++ c.toList.drop (i * u.size + poff p + vy.cells.toList.length)).toArray) (fun _ h => h) (fun r hr => setRow_other w b r _ (hol2 r hr)) u)
                  have heq : (c.toList.take (s.len * u.size)).take (i * u.size) ++ (pre ++ vy.cells.toList ++ post) ++ (c.toList.take (s.len * u.size)).drop (i * u.size + u.size) =
                      ((c.toList.take (i * u.size + poff p) ++ vy.cells.toList ++ c.toList.drop (i * u.size + poff p + vy.cells.toList.length)).toArray.toList).take (s.len * u.size) := by
                    apply splice_take (ys := ys) (n := u.size) hnl q2.symm q3 (by rw [hcl]; omega) hlen' (by omega)
                  rw [← heq]; exact hset'
          · simp [Q.Ok] at e
        | _ => simp [Q.Ok] at e
  | _ => simp [putQ, Q.Ok] at e
end
end Go.Proofs.YtkihjakbbcajbaaGreat.PM
