/- part.Check: what its iterator yields of a table. -/
import Derived.Test.YtjmgelpeonodgaaChk3
namespace Go.Proofs.Ytjmgelpeonodgaa.PM
set_option linter.unusedSimpArgs false
set_option linter.unusedVariables false
open Go Go.Proofs Go.Proofs.Ytjmgelpeonodgaa.Kd
noncomputable def useT (t : t5.den) : Nat → Bool := fun j => List.getD (α := Bool) t.2.2.2.1.2.1 j false
noncomputable def keyT (t : t5.den) : Nat → Int := fun j => List.getD (α := Int) t.2.1 j 0
noncomputable def limT (t : t5.den) : Nat → Int × Int × Int := fun j => let b := List.getD (α := t1.den) t.2.2.1 j t1.zero; (b.1.1, b.1.2.1, b.1.2.2.1)
noncomputable def usedN (t : t5.den) : Nat := List.length (α := Bool) t.2.2.2.1.2.1
/-- What the iterator yields; none: it would leave a list. -/
noncomputable def tItems (t : t5.den) : Option (List (Int × Int × Int × Int)) :=
  bif decide (usedN t ≤ 1000) && (List.range (usedN t)).all fun j => !(useT t j) || (decide (j < List.length (α := Int) t.2.1) && decide (j < List.length (α := t1.den) t.2.2.1)) then some (come (useT t) (keyT t) (limT t) (usedN t)) else none
section
variable {A : Nat → Prop} {w : World}
theorem cat_at {τ : Ty} {ys : List τ.den} {c : List Value} {ad : Addr} {j i : Nat} {v : Value} (hs : ad.spot = none) (hA : At w ad c) (h : Cat (TRel A w τ) c ys) (hj : j < ys.length) (hv : ∀ cs, TRel A w τ cs ys[j] → cs[i]? = some v) : w.cell? ⟨ad.block, ad.off + (j * τ.size + i), none⟩ = some v := by
  have h1 := hv _ (h.nth (fun c x => TRel.len τ c x) hj)
  have h2 : c[j * τ.size + i]? = some v := by
    rw [List.getElem?_take] at h1
    split at h1
    · rw [List.getElem?_drop] at h1; exact h1
    · cases h1
  have h3 := hA _ v h2
  obtain ⟨b, o, sp⟩ := ad
  cases hs
  rw [add_at] at h3
  exact h3
theorem slice_out {τ : Ty} {cs : List Value} {x : List τ.den} (h : TRel A w (.slice τ) cs x) : ∃ a cap, cs = [.slice a x.length cap] ∧ ∀ j, j < x.length → ∃ b o, a = some ⟨b, o, none⟩ ∧ A b ∧ ∀ i v, (∀ (hj : j < x.length) cs, TRel A w τ cs x[j] → cs[i]? = some v) → w.cell? ⟨b, o + (j * τ.size + i), none⟩ = some v := by
  obtain ⟨a, cap, h1, _, h2⟩ := h
  refine ⟨a, cap, h1, fun j hj => ?_⟩
  obtain ⟨⟨b, o, sp⟩, e1, e2, e3, c, e4, e5⟩ := h2 (Nat.lt_of_le_of_lt (Nat.zero_le _) hj)
  cases e2
  exact ⟨b, o, e1, e3, fun i v hv => cat_at (ad := ⟨b, o, none⟩) rfl e4 e5 hj (hv hj)⟩
/-- The iterator's contract at a table that lies in memory. -/
theorem keyed_stops {m Bs : Nat} {cs : Array Value} {e : TypeId} {t : t5.den} (hn : 1 ≤ m) (hlt : ∀ r, A r → r < w.heap.size) (hBs : w.heap[Bs]? = some (.cells cs e (0, 0))) (hT : TRel A w t5 cs.toList t) {xs : List (Int × Int × Int × Int)} (hx : tItems t = some xs) :
    SeqStopsK Fence.wide m Try.prog 80 #[.pointer (some ⟨Bs, 0, none⟩)] encs (KeepB fun r => A r ∨ r = Bs) (fun ys => ys = xs) (fun pre => ∃ rest, xs = pre ++ rest) xs.length w := by
  intro l J Jx W hW hJ hJx hY h0
  unfold tItems at hx
  cases hc : decide (usedN t ≤ 1000) && (List.range (usedN t)).all fun j => !(useT t j) || (decide (j < List.length (α := Int) t.2.1) && decide (j < List.length (α := t1.den) t.2.2.1)) with
  | false => rw [hc] at hx; cases hx
  | true =>
    rw [hc] at hx
    have hx : some (come (useT t) (keyT t) (limT t) (usedN t)) = some xs := hx
    injection hx with hx
    subst hx
    rw [Bool.and_eq_true, decide_eq_true_eq, List.all_eq_true] at hc
    obtain ⟨hu, hall⟩ := hc
    have hB : Bs < w.heap.size := heap_lt hBs
    have hWk : ∀ r, A r ∨ r = Bs → W.heap[r]? = w.heap[r]? := fun r hr => hW.block r (by
      rcases hr with hr | rfl
      · exact hlt r hr
      · exact hB)
    obtain ⟨ccap, c1, e1, r1, ckeys, c2, e2, r2, cbs, c3, e3, r3, car, c4, e4, r4, _⟩ := hT
    obtain ⟨cnext, c5, e5, _, cused, c6, e6, r6, _⟩ := r4
    obtain ⟨ka, kc, hk, hks⟩ := slice_out r2
    obtain ⟨ba, bc, hb, hbs⟩ := slice_out r3
    obtain ⟨ua, uc, hus, hus2⟩ := slice_out r6
    have r1 : ccap = [.int .i64 t.1] := r1
    have hnext : cnext.length = 1 := by
      have := TRel.len _ _ _ (show TRel A w (.slice (.int .i64)) cnext _ from by assumption)
      exact this
    have hcs : ∃ x rest, cs.toList = [.int .i64 t.1, .slice ka (List.length (α := Int) t.2.1) kc, .slice ba (List.length (α := t1.den) t.2.2.1) bc, x, .slice ua (usedN t) uc] ++ rest := by
      match cnext, hnext with
      | [x], _ =>
        refine ⟨x, c6 ++ c4, ?_⟩
        rw [e1, e2, e3, e4, e5, e6, r1, hk, hb, hus]; simp [usedN]
    obtain ⟨x, rest, hcs⟩ := hcs
    have hAtW : At w ⟨Bs, 0, none⟩ cs.toList := At_block hBs (fun j v h => by rw [Nat.zero_add]; simpa using h)
    have cell : ∀ j v, cs.toList[j]? = some v → W.cell? ⟨Bs, j, none⟩ = some v := fun j v h => by
      have := hAtW j v h
      rw [add_at, Nat.zero_add] at this
      exact (World.cell?_of_block (a := ⟨Bs, j, none⟩) (hWk Bs (.inr rfl))).trans this
    have far : ∀ b o, A b → W.cell? ⟨b, o, none⟩ = w.cell? ⟨b, o, none⟩ := fun b o h => World.cell?_of_block (a := ⟨b, o, none⟩) (hWk b (.inl h))
    refine (keyed1_in m hn l Bs (usedN t) uc (List.length (α := Int) t.2.1) kc (List.length (α := t1.den) t.2.2.1) bc (fun r => A r ∨ r = Bs) ua ka ba (useT t) (keyT t) (limT t) (by omega) J Jx hY W (.inr rfl)
      (cell 1 _ (by rw [hcs]; rfl)) (cell 2 _ (by rw [hcs]; rfl)) (cell 4 _ (by rw [hcs]; rfl)) (fun j hj => ?_) (fun j hj hu => ?_) (fun j hj hu => ?_) (fun pre W1 h => hJ pre W1 _ none h ⟨rfl, rfl, rfl, Nat.le_refl _, fun _ _ _ => rfl⟩ (fun _ e => by cases e)) h0).mono ?_
    · obtain ⟨b, o, k1, k2, k3⟩ := hus2 j hj
      refine ⟨b, o, k1, .inl k2, ?_⟩
      rw [far b _ k2]
      have := k3 0 (.bool (useT t j)) (fun hj cs hr => by
        have hr : cs = [.bool _] := hr
        rw [hr]
        unfold useT
        rw [List.getD, List.getElem?_eq_getElem hj]; rfl)
      rw [show j * Ty.bool.size + 0 = j by show j * 1 + 0 = j; omega] at this
      exact this
    · have := hall j (List.mem_range.2 hj)
      rw [hu] at this
      simp only [Bool.not_true, Bool.false_or, Bool.and_eq_true, decide_eq_true_eq] at this
      refine ⟨this.1, ?_⟩
      obtain ⟨b, o, k1, k2, k3⟩ := hks j this.1
      refine ⟨b, o, k1, .inl k2, ?_⟩
      rw [far b _ k2]
      have := k3 0 (.int .u32 (keyT t j)) (fun hj cs hr => by
        have hr : cs = [.int .u32 _] := hr
        rw [hr]
        unfold keyT
        rw [List.getD, List.getElem?_eq_getElem hj]; rfl)
      rw [show j * (Ty.int .u32).size + 0 = j by show j * 1 + 0 = j; omega] at this
      exact this
    · have := hall j (List.mem_range.2 hj)
      rw [hu] at this
      simp only [Bool.not_true, Bool.false_or, Bool.and_eq_true, decide_eq_true_eq] at this
      refine ⟨this.2, ?_⟩
      obtain ⟨b, o, k1, k2, k3⟩ := hbs j this.2
      have lim : ∀ (hj : j < List.length (α := t1.den) t.2.2.1) cs, TRel A w t1 cs (t.2.2.1[j]'hj) → cs[0]? = some (.int .i64 (limT t j).1) ∧ cs[1]? = some (.int .i64 (limT t j).2.1) ∧ cs[2]? = some (.int .i64 (limT t j).2.2) := fun hj cs hr => by
        obtain ⟨cl, cr, k1, ⟨d1, d2, k2, k3, d3, d4, k4, k5, d5, d6, k6, k7, k8⟩, _⟩ := hr
        have k3 : d1 = [.int .i64 _] := k3
        have k5 : d3 = [.int .i64 _] := k5
        have k7 : d5 = [.int .i64 _] := k7
        unfold limT
        rw [List.getD, List.getElem?_eq_getElem hj, k1, k2, k3, k4, k5, k6, k7]
        exact ⟨rfl, rfl, rfl⟩
      refine ⟨b, o, k1, .inl k2, ?_, ?_, ?_⟩
      · rw [far b _ k2]; exact k3 0 _ (fun hj cs hr => (lim hj cs hr).1)
      · rw [far b _ k2]; exact k3 1 _ (fun hj cs hr => (lim hj cs hr).2.1)
      · rw [far b _ k2]; exact k3 2 _ (fun hj cs hr => (lim hj cs hr).2.2)
    · rintro e W' ⟨he, ⟨ys, rfl, hj⟩ | ⟨pre, ⟨k, hk, rfl⟩, hj⟩⟩
      · exact ⟨he, .inl ⟨_, rfl, hj⟩⟩
      · refine ⟨he, .inr ⟨_, ?_, hj⟩⟩
        have : ∀ d : Nat, ∃ rest, come (useT t) (keyT t) (limT t) (k + d) = come (useT t) (keyT t) (limT t) k ++ rest := fun d => by
          induction d with
          | zero => exact ⟨[], by simp⟩
          | succ d ih =>
            obtain ⟨r, hr⟩ := ih
            rw [← Nat.add_assoc]
            cases hu : useT t (k + d) with
            | true => rw [come_yes hu, hr, List.append_assoc]; exact ⟨_, rfl⟩
            | false => rw [come_no hu, hr]; exact ⟨_, rfl⟩
        have := this (usedN t - k)
        rwa [show k + (usedN t - k) = usedN t by omega] at this
end
end Go.Proofs.Ytjmgelpeonodgaa.PM
