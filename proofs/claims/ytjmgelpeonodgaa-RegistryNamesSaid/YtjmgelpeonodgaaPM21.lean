/- A stretch of the pure machine, and its whole run: the real one goes the same way. -/
import Derived.Test.YtjmgelpeonodgaaPM20
namespace Go.Proofs.Ytjmgelpeonodgaa.PM
set_option linter.unusedSimpArgs false
set_option linter.unusedVariables false
open Go

def items (K : List Item) : List It → List Item
  | [] => K
  | .code c :: k => .code c :: items K k
  | .blk id :: k => .inBlock id :: items K k
  | .lp b :: k => .inLoop b :: items K k
  | .join :: k => items K k
def dstOk (nt : Nat) (ops : List Oper) : Bool := ops.all fun o => match o.dst with
  | some d => decide (d < nt)
  | none => true
def wfC (nt : Nat) : Code → Bool
  | .region _ ops _ => dstOk nt ops.toList && edgesOk ops.toList 0
  | .seq a b => wfC nt a && wfC nt b
  | .cond _ a b => wfC nt a && wfC nt b
  | .block _ b => wfC nt b
  | .loop b => wfC nt b
  | _ => true
def wfI (nt : Nat) : List It → Bool
  | [] => true
  | .code c :: k => wfC nt c && wfI nt k
  | .lp b :: k => wfC nt b && wfI nt k
  | _ :: k => wfI nt k
theorem dstOk_at {nt : Nat} {ops : List Oper} (h : dstOk nt ops = true) (j d : Nat) (e : dstOf ops j = some d) : d < nt := by
  unfold dstOf at e
  rw [Option.bind_eq_some_iff] at e
  obtain ⟨o, h1, h2⟩ := e
  have := List.all_eq_true.1 h o (List.mem_of_getElem? h1)
  rw [h2] at this
  exact of_decide_eq_true this
theorem exit_items {K : List Item} {id : Nat} {nt : Nat} : ∀ (k k' : List It), exitI id k = some k' → exitTo id (items K k) = some (items K k') ∧ (wfI nt k = true → wfI nt k' = true)
  | [], k', h => by cases h
  | .blk j :: k, k', h => by
    unfold exitI at h
    cases hb : Nat.beq id j with
    | true =>
      rw [hb] at h
      simp only [cond_true, Option.some.injEq] at h
      subst h
      obtain rfl := Nat.eq_of_beq_eq_true hb
      exact ⟨by simp [items, exitTo], fun h => h⟩
    | false =>
      rw [hb] at h
      have hne : id ≠ j := Nat.ne_of_beq_eq_false hb
      obtain ⟨h1, h2⟩ := exit_items (K := K) (nt := nt) k k' h
      have hne' : j ≠ id := fun e => hne e.symm
      exact ⟨by simp [items, exitTo, hne, hne', h1], h2⟩
  | .code c :: k, k', h => by
    obtain ⟨h1, h2⟩ := exit_items (K := K) (nt := nt) k k' h
    exact ⟨by simp [items, exitTo, h1], fun h => h2 (by simp only [wfI, Bool.and_eq_true] at h; exact h.2)⟩
  | .lp b :: k, k', h => by
    obtain ⟨h1, h2⟩ := exit_items (K := K) (nt := nt) k k' h
    exact ⟨by simp [items, exitTo, h1], fun h => h2 (by simp only [wfI, Bool.and_eq_true] at h; exact h.2)⟩
  | .join :: k, k', h => by
    obtain ⟨h1, h2⟩ := exit_items (K := K) (nt := nt) k k' h
    exact ⟨by simp only [items]; exact h1, h2⟩
def Ends (P : Program) (b : Frame) (K : List Item) (cs : List Frame) (m : Machine) (Post : Bool → Act → World → Prop) : Prop :=
  ∃ e a w, ((e = Exit.normal ∧ Post false a w) ∨ (e = Exit.ret ∧ Post true a w)) ∧ Arrives P m b K cs e a w
theorem Ends.of_steps {P : Program} {b : Frame} {K : List Item} {cs : List Frame} {m m' : Machine} {Post : Bool → Act → World → Prop} (h : Steps P m m') : Ends P b K cs m' Post → Ends P b K cs m Post :=
  fun ⟨e, a, w, h1, h2⟩ => ⟨e, a, w, h1, Arrives.of_steps h h2⟩
section
variable {P : Program} {E : Env} {B : Bs} {ρ : Type}
theorem seg_ok (hE : EnvOk P E) (hgl : E.globs = B.gl) (hmix : P.follows .mixedOrders = true) {C : Cx ρ} (hCE : C.E = E) (hCn : C.nt = B.nt) {Post : ρ → Bool → Act → World → Prop} {f : List It → St → Option ρ}
    (fin : ∀ st r, (C.fin st).ev f = some r → ∀ g A a w, RS B g A a w st.tm st.hp st.io → Post r false a w) (finR : ∀ st r, (C.finR st).ev f = some r → ∀ g A a w, RS B g A a w st.tm st.hp st.io → Post r true a w) (b : Frame) (K : List Item) (cs : List Frame)
    (hf : ∀ its st r, f its st = some r → ∀ g A a w, RS B g A a w st.tm st.hp st.io → wfI B.nt its = true → Ends P b K cs (Go.lone (b.at a (items K its)) cs w) (Post r)) :
    ∀ (n : Nat) (its : List It) (st : St) (r : ρ), (seg C n its st).ev f = some r → ∀ g A a w, RS B g A a w st.tm st.hp st.io → wfI B.nt its = true → Ends P b K cs (Go.lone (b.at a (items K its)) cs w) (Post r)
  | 0, its, st, r, e, _, _, _, _, _, _ => by simp [seg, DT.ev] at e
  | n + 1, [], st, r, e, g, A, a, w, R, _ => by
    unfold seg at e
    exact ⟨.normal, a, w, .inl ⟨rfl, fin st r e g A a w R⟩, .refl _ _⟩
  | n + 1, .blk id :: k, st, r, e, g, A, a, w, R, hw => by
    unfold seg at e
    exact (seg_ok hE hgl hmix hCE hCn fin finR b K cs hf n k st r e g A a w R hw).of_steps (.one step_inBlock)
  | n + 1, .join :: k, st, r, e, g, A, a, w, R, hw => by
    unfold seg at e
    simp only at e
    split at e
    · rename_i st' hs
      obtain ⟨g', R'⟩ := norm_ok R hs
      exact hf k st' r e g' A a w R' hw
    · simp [DT.ev] at e
  | n + 1, .lp c :: k, st, r, e, g, A, a, w, R, hw => by
    unfold seg at e
    simp only at e
    split at e
    · rename_i st' hs
      obtain ⟨g', R'⟩ := norm_ok R hs
      simp only [wfI, Bool.and_eq_true] at hw
      exact (hf (.code c :: .lp c :: k) st' r e g' A a w R' (by simp [wfI, hw.1, hw.2])).of_steps (.one step_inLoop)
    · simp [DT.ev] at e
  | n + 1, .code c :: k, st, r, e, g, A, a, w, R, hw => by
    unfold seg at e
    simp only at e
    simp only [wfI, Bool.and_eq_true] at hw
    obtain ⟨hwc, hwk⟩ := hw
    split at e
    · exact (seg_ok hE hgl hmix hCE hCn fin finR b K cs hf n k st r e g A a w R hwk).of_steps (.one step_skip)
    · rename_i x y
      simp only [wfC, Bool.and_eq_true] at hwc
      exact (seg_ok hE hgl hmix hCE hCn fin finR b K cs hf n (.code x :: .code y :: k) st r e g A a w R (by simp [wfI, hwc.1, hwc.2, hwk])).of_steps (.one step_seq)
    · rename_i id x
      simp only [wfC] at hwc
      exact (seg_ok hE hgl hmix hCE hCn fin finR b K cs hf n (.code x :: .blk id :: k) st r e g A a w R (by simp [wfI, hwc, hwk])).of_steps (.one step_block)
    · rename_i x
      simp only [wfC] at hwc
      cases n with
      | zero => simp [seg, DT.ev] at e
      | succ n =>
        unfold seg at e
        simp only at e
        split at e
        · rename_i st' hs
          obtain ⟨g', R'⟩ := norm_ok R hs
          exact (hf (.code x :: .lp x :: k) st' r e g' A a w R' (by simp [wfI, hwc, hwk])).of_steps (.one step_loop)
        · simp [DT.ev] at e
    · rename_i id
      split at e
      · rename_i k' hk
        obtain ⟨h1, h2⟩ := exit_items (K := K) (nt := B.nt) k k' hk
        exact (seg_ok hE hgl hmix hCE hCn fin finR b K cs hf n k' st r e g A a w R (h2 hwk)).of_steps (.one (step_exit h1))
      · simp [DT.ev] at e
    · exact ⟨.ret, a, w, .inr ⟨rfl, finR st r e g A a w R⟩, _, .one step_ret⟩
    · rename_i c x y
      simp only [wfC, Bool.and_eq_true] at hwc
      split at e
      · rename_i t hc
        have hv := v_bool (R.opd c _ (by rw [← hgl, ← hCE]; exact hc))
        have hlit : ∀ s, look s (litC st.tm c t) = look s st.tm := fun s => by
          cases c with
          | tmp u => exact known st.tm u t hc s
          | _ => rfl
        simp only [DT.ev] at e
        cases t with
        | true =>
          simp only [cond_true] at e
          have := seg_ok hE hgl hmix hCE hCn fin finR b K cs hf n (.code x :: .join :: k) ⟨litC st.tm c true, st.hp, st.nx, st.io⟩ r e g A a w (R.congr (fun s => (hlit s).symm) (fun _ => rfl)) (by simp [wfI, hwc.1, hwk])
          exact this.of_steps (.one (step_cond hv))
        | false =>
          simp only [cond_false] at e
          have := seg_ok hE hgl hmix hCE hCn fin finR b K cs hf n (.code y :: .join :: k) ⟨litC st.tm c false, st.hp, st.nx, st.io⟩ r e g A a w (R.congr (fun s => (hlit s).symm) (fun _ => rfl)) (by simp [wfI, hwc.2, hwk])
          exact this.of_steps (.one (step_cond hv))
      · simp [DT.ev] at e
    · rename_i id ops draw
      simp only [wfC, Bool.and_eq_true] at hwc
      rw [hCE] at e
      obtain ⟨rc, tm', hl, ran, htm, e2⟩ := opsD_ran (all := ops.toList) (nx := st.nx) (tm0 := st.tm) (h0 := st.hp) ops.toList [] [] st.tm (by simp) rfl (fun _ => rfl) (fun j h => by simp at h) (by simpa [hpS] using e)
      rw [show ∀ (b : Bool) (x y : DT ρ), (cond b x y).ev f = cond b (x.ev f) (y.ev f) from fun b x y => by cases b <;> rfl] at e2
      cases hd : (!draw || drawOk ops.toList (rc.map fun r => (r.rs.reverse, r.ws.map (·.1)))) with
      | false => rw [hd] at e2; simp [DT.ev] at e2
      | true =>
        rw [hd] at e2
        simp only [cond_true] at e2
        have W := region_ok (P := P) (id := id) (ops := ops) (draw := draw) (Q := fun e a w => e = .normal ∧ ∃ g A, RS B g A a w tm' (hpS (fun k => (rcAt rc k).ws) st.hp (fun _ => true) ops.toList.length) st.io) hE hgl hmix rfl hl hwc.2 (fun hdr => by rw [hdr] at hd; simpa [fpsOf] using hd) ran (dstOk_at hwc.1) R
          (fun g A a w R' => ⟨rfl, g, A, R'.congr (fun t => (htm t).symm) (fun _ => rfl)⟩)
        obtain ⟨ex, a', w', ⟨rfl, g', A', R'⟩, harr⟩ := W b (items K k) cs
        exact (seg_ok hE hgl hmix hCE hCn fin finR b K cs hf n k _ r e2 g' A' a' w' R' hwk).of_steps harr
    · simp [DT.ev] at e
theorem run_ok (hE : EnvOk P E) (hgl : E.globs = B.gl) (hmix : P.follows .mixedOrders = true) {C : Cx ρ} (hCE : C.E = E) (hCn : C.nt = B.nt) {Post : ρ → Bool → Act → World → Prop}
    (fin : ∀ f st r, (C.fin st).ev f = some r → ∀ g A a w, RS B g A a w st.tm st.hp st.io → Post r false a w) (finR : ∀ f st r, (C.finR st).ev f = some r → ∀ g A a w, RS B g A a w st.tm st.hp st.io → Post r true a w) (b : Frame) (K : List Item) (cs : List Frame) :
    ∀ (n : Nat) (its : List It) (st : St) (r : ρ), run C n its st = some r → ∀ g A a w, RS B g A a w st.tm st.hp st.io → wfI B.nt its = true → Ends P b K cs (Go.lone (b.at a (items K its)) cs w) (Post r)
  | 0, its, st, r, e, _, _, _, _, _, _ => by simp [run] at e
  | n + 1, its, st, r, e, g, A, a, w, R, hw =>
    seg_ok hE hgl hmix hCE hCn (fin (run C n)) (finR (run C n)) b K cs (run_ok hE hgl hmix hCE hCn fin finR b K cs n) 100000 its st r e g A a w R hw
theorem res_run {C : Cx ρ} {its : List It} {st : St} {r : ρ} (h : res C its st = some r) : ∃ n, run C n its st = some r := by
  unfold res lm at h
  split at h
  · rename_i hx
    injection h with h
    subst h
    exact hx.choose_spec
  · cases h
theorem res_ok (hE : EnvOk P E) (hgl : E.globs = B.gl) (hmix : P.follows .mixedOrders = true) {C : Cx ρ} (hCE : C.E = E) (hCn : C.nt = B.nt) {Post : ρ → Bool → Act → World → Prop}
    (fin : ∀ f st r, (C.fin st).ev f = some r → ∀ g A a w, RS B g A a w st.tm st.hp st.io → Post r false a w) (finR : ∀ f st r, (C.finR st).ev f = some r → ∀ g A a w, RS B g A a w st.tm st.hp st.io → Post r true a w) (b : Frame) (K : List Item) (cs : List Frame) {its : List It} {st : St} {r : ρ} (e : res C its st = some r) {g : Gh} {A : Nat → Prop} {a : Act} {w : World} (R : RS B g A a w st.tm st.hp st.io) (hw : wfI B.nt its = true) :
    Ends P b K cs (Go.lone (b.at a (items K its)) cs w) (Post r) := by
  obtain ⟨n, e⟩ := res_run e
  exact run_ok hE hgl hmix hCE hCn fin finR b K cs n its st r e g A a w R hw
end
end Go.Proofs.Ytjmgelpeonodgaa.PM
