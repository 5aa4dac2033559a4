/- A region that draws its order, whose first operations only read: they come in whatever order to the same values. -/
import Derived.OrdersIn
import Derived.WalkKit
import Derived.OwnWalkIn
import Derived.Test.YtkihjakbbcajbaaGreatPM19
namespace Go.Proofs.YtkihjakbbcajbaaGreat.Kd
set_option linter.unusedSimpArgs false
set_option linter.unusedVariables false
open Go Go.Proofs Go.Proofs.YtkihjakbbcajbaaGreat.PM
/-- What a temporary holds when the operations in S are over. -/
def tv (all : List Oper) (X : Nat → Value) (a : Act) (S : Nat → Bool) : Nat → Nat → Value
  | 0, t => a.tmps.getD t undef
  | k + 1, t => if S k = true ∧ dstOf all k = some t then X k else tv all X a S k t
structure AtS (all : List Oper) (X : Nat → Value) (a : Act) (n0 : Nat) (S : Nat → Bool) (a' : Act) : Prop where
  size : a'.tmps.size = a.tmps.size
  defs : a'.defers = a.defers
  vals : ∀ t, a'.tmps.getD t undef = tv all X a S n0 t
section
variable {all : List Oper} {X : Nat → Value} {a : Act} {S : Nat → Bool}
theorem tv_off : ∀ (k t : Nat), (∀ j, j < k → S j = true → dstOf all j ≠ some t) → tv all X a S k t = a.tmps.getD t undef
  | 0, _, _ => rfl
  | k + 1, t, h => by
    unfold tv
    rw [if_neg (fun ⟨h1, h2⟩ => h k (by omega) h1 h2)]
    exact tv_off k t (fun j hj => h j (by omega))
theorem tv_on (hd : ∀ i j d, dstOf all i = some d → dstOf all j = some d → i = j) {i t : Nat} (hi : dstOf all i = some t) (hs : S i = true) : ∀ k, i < k → tv all X a S k t = X i
  | k + 1, h => by
    unfold tv
    by_cases e : i = k
    · subst e; rw [if_pos ⟨hs, hi⟩]
    · rw [if_neg (fun ⟨_, h2⟩ => e (hd i k t hi h2))]
      exact tv_on hd hi hs k (by omega)
theorem tv_ext {S' : Nat → Bool} : ∀ k t, (∀ j, j < k → S j = S' j) → tv all X a S k t = tv all X a S' k t
  | 0, _, _ => rfl
  | k + 1, t, h => by
    unfold tv
    rw [h k (by omega), tv_ext k t (fun j hj => h j (by omega))]
theorem AtS.on {n0 : Nat} {a' : Act} (hd : ∀ i j d, dstOf all i = some d → dstOf all j = some d → i = j) (h : AtS all X a n0 S a') {i t : Nat} (hi : dstOf all i = some t) (hs : S i = true) (hk : i < n0) : a'.tmps.getD t undef = X i :=
  (h.vals t).trans (tv_on hd hi hs n0 hk)
theorem AtS.off {n0 : Nat} {a' : Act} (h : AtS all X a n0 S a') {t : Nat} (ht : ∀ j, j < n0 → dstOf all j ≠ some t) : a'.tmps.getD t undef = a.tmps.getD t undef :=
  (h.vals t).trans (tv_off n0 t (fun j hj _ => ht j hj))
end
section
variable {P : Program} {all : List Oper} {Q : Exit → Act → World → Prop} {X : Nat → Value} {a : Act} {w : World} {n0 n : Nat} {F : Fence}
theorem any_reads (hn0 : n0 ≤ all.length) (hed : edgesOk all 0 = true) (hd : ∀ i j d, dstOf all i = some d → dstOf all j = some d → i = j) (hsz : ∀ j d, dstOf all j = some d → d < a.tmps.size)
    (hlate : ∀ j, n0 ≤ j → j < all.length → ∀ i, i < n0 → Nat.testBit ((masks all []).getD j 0) i = true)
    (hread : ∀ j, j < n0 → ∀ (S : Nat → Bool) (a' : Act), (∀ i, Nat.testBit ((masks all []).getD j 0) i = true → S i = true) → AtS all X a n0 S a' → (∀ i j d, dstOf all i = some d → dstOf all j = some d → i = j) → ∀ K : Act → World → Prop, K (a'.put (dstOf all j) (X j)) w → wpOpIn F n P all.toArray Q j K a' w)
    (hfin : ∀ (a' : Act) (listed : Array Bool), AtS all X a n0 (fun k => decide (k < n0)) a' → listed.size = all.length → (∀ k (h : k < listed.size), listed[k] = decide (k < n0)) → wpAnyIn F n P .any all.toArray Q (all.length - n0) listed a' w) :
    ∀ (fuel : Nat) (S : Nat → Bool) (listed : Array Bool) (a' : Act), listed.size = all.length → (∀ k (h : k < listed.size), listed[k] = S k) → cnt S n0 = fuel → (∀ k, n0 ≤ k → S k = false) →
      (∀ k, k < all.length → S k = true → ∀ i, Nat.testBit ((masks all []).getD k 0) i = true → S i = true) → AtS all X a n0 S a' → wpAnyIn F n P .any all.toArray Q (fuel + (all.length - n0)) listed a' w
  | 0, S, listed, a', hz, hS, hc, hS0, hcl, hA => by
    have hall := cnt_zero _ hc
    rw [Nat.zero_add]
    have e : ∀ k, S k = decide (k < n0) := fun k => by
      by_cases h : k < n0
      · rw [hall k h]; simp [h]
      · rw [hS0 k (by omega)]; simp [h]
    refine hfin a' listed ⟨hA.size, hA.defs, fun t => (hA.vals t).trans (tv_ext _ _ (fun j _ => e j))⟩ hz (fun k h => (hS k h).trans (e k))
  | fuel + 1, S, listed, a', hz, hS, hc, hS0, hcl, hA => by
    have get : ∀ k d, k < all.length → listed.getD k d = S k := fun k d hk => by
      rw [Array.getD, dif_pos (by omega)]; exact hS k (by omega)
    have hex : ∃ k, k < n0 ∧ S k = false := by
      apply Classical.byContradiction
      intro hn
      have : cnt S n0 = 0 := cnt_all _ (fun k hk => by
        cases hs : S k with
        | true => rfl
        | false => exact absurd ⟨k, hk, hs⟩ hn)
      omega
    obtain ⟨k0, h1, h2, h3⟩ := first_free _ hex
    rw [Nat.succ_add]
    refine ⟨fun hnil => ?_, fun i hi => ?_⟩
    · exfalso
      have ho : all[k0]? = some all[k0] := List.getElem?_eq_getElem (by omega)
      have : k0 ∈ Region.ready .any all.toArray listed := ready_mem.2 ⟨_, ho, by rw [get k0 _ (by omega)]; exact h2, fun e he hb => by
        have := edgesOk_at all 0 k0 _ hed ho e he hb
        rw [get e.on _ (by omega)]; exact h3 _ (by omega)⟩
      rw [hnil] at this; cases this
    · obtain ⟨o, ho, g1, g2⟩ := ready_mem.1 hi
      have hil : i < all.length := by
        by_cases h : i < all.length
        · exact h
        · rw [List.getElem?_eq_none (by omega)] at ho; cases ho
      rw [get i _ hil] at g1
      have hbef : ∀ k, Nat.testBit ((masks all []).getD i 0) k = true → S k = true := fun k hk => by
        have hm := masks_at all [] i o ho
        simp only [List.length_nil, Nat.zero_add] at hm
        rw [hm] at hk
        obtain ⟨e, he, hb, hk⟩ := maskE_spec _ _ _ hk
        have hlt := edgesOk_at all 0 i o hed ho e he hb
        have hSe : S e.on = true := by rw [← get e.on false (by omega)]; exact g2 e he hb
        rcases hk with rfl | hk
        · exact hSe
        · rw [take_getD _ _ _ _ (by omega)] at hk
          exact hcl e.on (by omega) hSe k hk
      by_cases hin : i < n0
      · refine hread i hin S a' hbef hA hd _ ?_
        refine any_reads hn0 hed hd hsz hlate hread hfin fuel (addS S i) _ _ (by simpa using hz) (fun k hk => ?_) (by have := cnt_add g1 n0 hin; omega) (fun k hk => ?_) (fun k hk hSk j hj => ?_) ⟨by rw [put_size]; exact hA.size, by rw [put_defs]; exact hA.defs, fun t => ?_⟩
        · have hk' : k < listed.size := by simpa using hk
          rw [Array.getElem_setIfInBounds hk']
          unfold addS
          by_cases e : i = k
          · subst e; simp
          · rw [if_neg e]
            have e' : k ≠ i := fun h => e h.symm
            simpa [e'] using hS k hk'
        · unfold addS; rw [hS0 k hk]; simp; omega
        · unfold addS at hSk ⊢
          by_cases e : k = i
          · subst e; rw [hbef j hj]; rfl
          · have hSk' : S k = true := by simpa [e] using hSk
            rw [hcl k hk hSk' j hj]; rfl
        · rw [put_get _ _ _ _ (fun e he => by rw [hA.size]; exact hsz i e he), hA.vals t]
          have key : ∀ m, tv all X a (addS S i) m t = if i < m ∧ dstOf all i = some t then X i else tv all X a S m t := by
            intro m
            induction m with
            | zero => rw [if_neg (by omega)]; rfl
            | succ m ih =>
              unfold tv
              rw [ih]
              by_cases e : m = i
              · subst e
                by_cases hdm : dstOf all m = some t
                · rw [if_pos ⟨by simp [addS], hdm⟩, if_pos ⟨by omega, hdm⟩]
                · rw [if_neg (fun h => hdm h.2), if_neg (fun h => hdm h.2), if_neg (fun h => hdm h.2), if_neg (fun h => hdm h.2)]
              · have e1 : addS S i m = S m := by unfold addS; simp [e]
                rw [e1]
                by_cases hm : S m = true ∧ dstOf all m = some t
                · rw [if_pos hm, if_neg (fun h => e (hd m i t hm.2 h.2)), if_pos hm]
                · rw [if_neg hm, if_neg hm]
                  by_cases hi2 : i < m ∧ dstOf all i = some t
                  · rw [if_pos hi2, if_pos ⟨by omega, hi2.2⟩]
                  · rw [if_neg hi2, if_neg (fun h => hi2 ⟨by omega, h.2⟩)]
          rw [key n0]
          by_cases hdi : dstOf all i = some t
          · rw [if_pos hdi, if_pos ⟨hin, hdi⟩]
          · rw [if_neg hdi, if_neg (fun h => hdi h.2)]
      · exfalso
        have := hbef k0 (hlate i (by omega) hil k0 h1)
        rw [h2] at this; cases this
end
theorem rd_val {P : Program} {n : Nat} {all : List Oper} {Q : Exit → Act → World → Prop} {K : Act → World → Prop} {a : Act} {w : World} {o : Oper} {j : Nat} {v : Value} (ho : all.toArray[j]? = some o) (hw : Region.wanted o (yielded all.toArray a.tmps) = true)
    (hr : (o.semAt none a.eval).run P w = .ok (.value v) w) (hK : K (a.put (dstOf all j) v) w) : wpOpIn Fence.wide n P all.toArray Q j K a w := by
  unfold wpOpIn
  rw [ho]
  simp only [hw, if_true]
  have hd : dstOf all j = o.dst := by unfold dstOf; rw [List.getElem?_toArray] at ho; rw [ho]; rfl
  rw [hd] at hK
  refine ⟨fun _ _ => trivial, ?_⟩
  show Oper.uponIn _ _ _ _ _ _ _ ((o.semAt none a.eval).run P w)
  rw [hr, Oper.uponIn_value]; exact hK
theorem rd_skip {P : Program} {n : Nat} {all : List Oper} {Q : Exit → Act → World → Prop} {K : Act → World → Prop} {a : Act} {w : World} {o : Oper} {j : Nat} (ho : all.toArray[j]? = some o) (hw : Region.wanted o (yielded all.toArray a.tmps) = false)
    (hK : K (a.put (dstOf all j) undef) w) : wpOpIn Fence.wide n P all.toArray Q j K a w := by
  unfold wpOpIn
  rw [ho]
  simp only [hw, Bool.false_eq_true, if_false]
  have hd : dstOf all j = o.dst := by unfold dstOf; rw [List.getElem?_toArray] at ho; rw [ho]; rfl
  rw [hd] at hK
  exact ⟨fun _ _ => trivial, hK⟩
theorem rd_round {P : Program} {n : Nat} {all : List Oper} {Q : Exit → Act → World → Prop} {K : Act → World → Prop} {a : Act} {w : World} {o : Oper} {j l : Nat} {fn : FuncId} {tmps : Array Value} {assign body : Code} (ho : all.toArray[j]? = some o) (hw : Region.wanted o (yielded all.toArray a.tmps) = true)
    (hr : (o.semAt none a.eval).run P w = .ok (.round l fn tmps assign body) w) (hK : RoundIn Fence.wide (n - 1) P l fn tmps assign body w fun e w' => ∃ v, e = .returned v ∧ K (a.put (dstOf all j) v) w') : wpOpIn Fence.wide n P all.toArray Q j K a w := by
  unfold wpOpIn
  rw [ho]
  simp only [hw, if_true]
  have hd : dstOf all j = o.dst := by unfold dstOf; rw [List.getElem?_toArray] at ho; rw [ho]; rfl
  rw [hd] at hK
  refine ⟨fun _ _ => trivial, ?_⟩
  show Oper.uponIn _ _ _ _ _ _ _ ((o.semAt none a.eval).run P w)
  rw [hr, Oper.uponIn_round]
  refine ⟨(fun h => by cases h), hK.mono ?_⟩
  rintro e w' ⟨v, rfl, h⟩
  exact h
theorem yld {all : List Oper} {a : Act} {i d : Nat} {b : Bool} (hi : dstOf all i = some d) (h : a.tmps.getD d undef = .bool b) (hs : d < a.tmps.size) : yielded all.toArray a.tmps i = some b := by
  unfold yielded
  have : (all.toArray[i]?).bind (·.dst) = some d := by rw [List.getElem?_toArray]; exact hi
  rw [this]
  simp only [Option.bind_some]
  rw [Array.getElem?_eq_getElem hs]
  simp only [Array.getD, hs, dite_true] at h
  rw [show a.tmps.getInternal d hs = a.tmps[d] from rfl] at h
  rw [h]
theorem yld' {all : List Oper} {X : Nat → Value} {a a' : Act} {S : Nat → Bool} {n0 : Nat} (hd : ∀ i j d, dstOf all i = some d → dstOf all j = some d → i = j) (hA : AtS all X a n0 S a') {i d : Nat} {b : Bool} (hi : dstOf all i = some d) (hs : S i = true) (hk : i < n0) (hl : d < a.tmps.size) (hX : X i = .bool b) :
    yielded all.toArray a'.tmps i = some b := yld hi ((hA.on hd hi hs hk).trans hX) (by rw [hA.size]; exact hl)
theorem ev {a : Act} {t : Nat} {v : Value} (h : a.tmps.getD t undef = v) : a.eval (.tmp t) = v := h
theorem on' {all : List Oper} {X : Nat → Value} {a a' : Act} {S : Nat → Bool} {n0 : Nat} (hd : ∀ i j d, dstOf all i = some d → dstOf all j = some d → i = j) (h : AtS all X a n0 S a') {i t : Nat} (hi : dstOf all i = some t) (hs : S i = true) (hk : i < n0) : a'.tmps[t]?.getD undef = X i := by
  have := h.on hd hi hs hk
  simpa using this
theorem off' {all : List Oper} {X : Nat → Value} {a a' : Act} {S : Nat → Bool} {n0 : Nat} (h : AtS all X a n0 S a') {t : Nat} (ht : ∀ j, j < n0 → dstOf all j ≠ some t) : a'.tmps[t]?.getD undef = a.tmps[t]?.getD undef := by
  have := h.off ht
  simpa using this
/-- Who tells operations apart by their slots: by the list of slots. -/
theorem dst_inj {all : List Oper} (ds : List Nat) (h : all.map (·.dst) = ds.map some) (hn : ds.Nodup) : ∀ i j d, dstOf all i = some d → dstOf all j = some d → i = j := fun i j d hi hj => by
  have key : ∀ i, dstOf all i = ds[i]? := fun i => by
    have := congrArg (fun l => (l[i]?)) h
    simp only [List.getElem?_map] at this
    unfold dstOf
    cases ha : all[i]? with
    | none => rw [ha] at this; simp only [Option.map_none, Option.bind_none] at this ⊢; cases hb : ds[i]? with
      | none => rfl
      | some x => rw [hb] at this; cases this
    | some o => rw [ha] at this; simp only [Option.map_some, Option.bind_some] at this ⊢; cases hb : ds[i]? with
      | none => rw [hb] at this; cases this
      | some x => rw [hb] at this; simpa using this
  rw [key] at hi hj
  have hil : i < ds.length := (List.getElem?_eq_some_iff.1 hi).1
  exact (List.getElem?_inj hil hn).1 (hi.trans hj.symm)
theorem dst_at {all : List Oper} {ds : List Nat} (h : all.map (·.dst) = ds.map some) (i : Nat) : dstOf all i = ds[i]? := by
  have := congrArg (fun l => (l[i]?)) h
  simp only [List.getElem?_map] at this
  unfold dstOf
  cases ha : all[i]? with
  | none => rw [ha] at this; simp only [Option.map_none, Option.bind_none] at this ⊢; cases hb : ds[i]? with
    | none => rfl
    | some x => rw [hb] at this; cases this
  | some o => rw [ha] at this; simp only [Option.map_some, Option.bind_some] at this ⊢; cases hb : ds[i]? with
    | none => rw [hb] at this; cases this
    | some x => rw [hb] at this; simpa using this
theorem dst_lt {all : List Oper} (ds : List Nat) {m : Nat} (h : all.map (·.dst) = ds.map some) (hm : ∀ d ∈ ds, d < m) {j d : Nat} (hd : dstOf all j = some d) : d < m := by
  rw [dst_at h] at hd
  exact hm d (List.mem_of_getElem? hd)
theorem off_of {all : List Oper} {ds : List Nat} (h : all.map (·.dst) = ds.map some) {n : Nat} (hm : ∀ d ∈ ds, n ≤ d) (t : Nat) (ht : t < n) (j : Nat) : dstOf all j ≠ some t := fun e => by
  rw [dst_at h] at e
  have := hm t (List.mem_of_getElem? e)
  omega
theorem off2 {all : List Oper} {X : Nat → Value} {a a' : Act} {S : Nat → Bool} {n0 : Nat} (hA : AtS all X a n0 S a') (ds : List Nat) (h : all.map (·.dst) = ds.map some) {n : Nat} (hm : ∀ d ∈ ds, n ≤ d) (t : Nat) (ht : t < n) : a'.tmps[t]?.getD undef = a.tmps[t]?.getD undef :=
  off' hA (fun j _ => off_of h hm t ht j)
theorem late_of {all : List Oper} {n0 : Nat} (h : ((List.range all.length).all fun j => decide (j < n0) || (List.range n0).all fun i => Nat.testBit ((masks all []).getD j 0) i) = true) :
    ∀ j, n0 ≤ j → j < all.length → ∀ i, i < n0 → Nat.testBit ((masks all []).getD j 0) i = true := fun j h1 h2 i hi => by
  have := List.all_eq_true.1 h j (List.mem_range.2 h2)
  simp only [Bool.or_eq_true, decide_eq_true_eq, List.all_eq_true, List.mem_range] at this
  rcases this with h | h
  · omega
  · exact h i hi
theorem list_eq {listed : Array Bool} {m n0 : Nat} {l : Array Bool} (h1 : listed.size = m) (h2 : ∀ k (h : k < listed.size), listed[k] = decide (k < n0)) (h3 : Array.ofFn (fun k : Fin m => decide (k.1 < n0)) = l) : listed = l := by
  subst h3
  apply Array.ext
  · simp [h1]
  · intro i h4 h5
    rw [h2 i h4]; simp
theorem at_eq {all : List Oper} {X : Nat → Value} {a a' : Act} {S : Nat → Bool} {n0 m : Nat} (h : AtS all X a n0 S a') (hs : a.tmps.size = m) {tm : Array Value} (h3 : Array.ofFn (fun k : Fin m => tv all X a S n0 k.1) = tm) : { tmps := tm, defers := a.defers } = a' := by
  subst h3
  obtain ⟨t, d⟩ := a'
  have h1 := h.size
  have h2 := h.defs
  dsimp only at h1 h2
  subst h2
  congr 1
  apply Array.ext
  · simp [h1, hs]
  · intro i h4 h5
    have := h.vals i
    dsimp only at this
    rw [Array.getElem_ofFn, ← this]
    simp [Array.getD, h5]
end Go.Proofs.YtkihjakbbcajbaaGreat.Kd
