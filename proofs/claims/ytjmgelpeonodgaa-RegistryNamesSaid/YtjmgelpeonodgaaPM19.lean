/- Regions in order, and in any order that the edges allow. -/
import Derived.Test.YtjmgelpeonodgaaPM18
namespace Go.Proofs.Ytjmgelpeonodgaa.PM
set_option linter.unusedSimpArgs false
set_option linter.unusedVariables false
open Go

def edgesOk : List Oper → Nat → Bool
  | [], _ => true
  | o :: os, j => (o.after.toList.all fun e => !binds e || decide (e.on < j)) && edgesOk os (j + 1)
theorem edgesOk_at : ∀ (os : List Oper) (j p : Nat) (o : Oper), edgesOk os j = true → os[p]? = some o → ∀ e ∈ o.after.toList, binds e = true → e.on < j + p
  | [], _, _, _, _, h => by simp at h
  | o' :: os, j, 0, o, h, hp => fun e he hb => by
    simp only [edgesOk, Bool.and_eq_true, List.all_eq_true] at h
    simp at hp; subst hp
    have := h.1 e he
    simpa [hb] using this
  | o' :: os, j, p + 1, o, h, hp => fun e he hb => by
    simp only [edgesOk, Bool.and_eq_true] at h
    have := edgesOk_at os (j + 1) p o h.2 (by simpa using hp) e he hb
    omega
theorem binds_any (e : Edge) : Region.binds .any e = binds e := by
  unfold Region.binds binds
  cases e.ground <;> rfl
theorem maskE_spec : ∀ (es : List Edge) (ms : List Nat) (i : Nat), Nat.testBit (maskE es ms) i = true → ∃ e ∈ es, binds e = true ∧ (i = e.on ∨ Nat.testBit (ms.getD e.on 0) i = true)
  | [], ms, i, h => by simp [maskE] at h
  | e :: es, ms, i, h => by
    unfold maskE at h
    have rest : Nat.testBit (maskE es ms) i = true → ∃ e' ∈ e :: es, binds e' = true ∧ (i = e'.on ∨ Nat.testBit (ms.getD e'.on 0) i = true) := fun h => by
      obtain ⟨e', h1, h2⟩ := maskE_spec es ms i h
      exact ⟨e', List.mem_cons_of_mem _ h1, h2⟩
    cases hb : binds e with
    | false => rw [hb] at h; exact rest h
    | true =>
      rw [hb] at h
      have h : Nat.testBit (((1 <<< e.on) ||| (ms.getD e.on 0)) ||| maskE es ms) i = true := h
      rw [Nat.testBit_or, Nat.testBit_or, Bool.or_eq_true, Bool.or_eq_true] at h
      rcases h with (h | h) | h
      · refine ⟨e, List.mem_cons_self .., hb, .inl ?_⟩
        rw [Nat.testBit_shiftLeft] at h
        simp only [Bool.and_eq_true, decide_eq_true_eq] at h
        have h2 := h.2
        rw [Nat.testBit_one_eq_true_iff_self_eq_zero] at h2
        omega
      · exact ⟨e, List.mem_cons_self .., hb, .inr h⟩
      · exact rest h
theorem masks_app : ∀ (os : List Oper) (ms : List Nat), ∃ r, masks os ms = ms ++ r
  | [], ms => ⟨[], by simp [masks]⟩
  | o :: os, ms => by
    obtain ⟨r, h⟩ := masks_app os (ms ++ [maskE o.after.toList ms])
    exact ⟨maskE o.after.toList ms :: r, by unfold masks; rw [h]; simp⟩
theorem masks_at : ∀ (os : List Oper) (ms : List Nat) (p : Nat) (o : Oper), os[p]? = some o → (masks os ms).getD (ms.length + p) 0 = maskE o.after.toList ((masks os ms).take (ms.length + p))
  | [], _, _, _, h => by simp at h
  | o' :: os, ms, 0, o, h => by
    simp at h; subst h
    unfold masks
    obtain ⟨r, hr⟩ := masks_app os (ms ++ [maskE o'.after.toList ms])
    rw [hr]
    simp [List.getD]
  | o' :: os, ms, p + 1, o, h => by
    have := masks_at os (ms ++ [maskE o'.after.toList ms]) p o (by simpa using h)
    unfold masks
    rw [List.length_append] at this
    have e : ms.length + (p + 1) = ms.length + [maskE o'.after.toList ms].length + p := by simp; omega
    rw [e]; exact this
theorem take_getD {α : Type} (l : List α) (n i : Nat) (d : α) (h : i < n) : (l.take n).getD i d = l.getD i d := by
  simp [List.getD, List.getElem?_take, h]
/- what the check of a drawn region says -/
theorem apartL_spec {xs ys : List Nat} (h : apartL xs ys = true) (x : Nat) (hx : x ∈ xs) : x ∉ ys := fun hy => by
  unfold apartL at h
  have : (xs.any fun x => ys.any (Nat.beq x)) = true := List.any_eq_true.2 ⟨x, hx, List.any_eq_true.2 ⟨x, hy, Nat.beq_refl x⟩⟩
  rw [this] at h; cases h
theorem drawOne_spec {all : List Oper} {m : Nat} {oj : Oper} {fj : List Nat × List Nat} : ∀ (os : List Oper) (fs : List (List Nat × List Nat)) (i p : Nat) (o : Oper) (f : List Nat × List Nat), drawOne all m oj fj os fs i = true → os[p]? = some o → fs[p]? = some f →
    Nat.testBit m (i + p) = true ∨ (o.apart all.toArray oj = true ∧ fpApart f fj = true)
  | [], _, _, _, _, _, _, h, _ => by simp at h
  | _ :: _, [], _, _, _, _, _, _, h => by simp at h
  | o' :: os, f' :: fs, i, 0, o, f, h, h1, h2 => by
    simp at h1 h2; subst h1 h2
    simp only [drawOne, Bool.and_eq_true, Bool.or_eq_true] at h
    exact h.1
  | o' :: os, f' :: fs, i, p + 1, o, f, h, h1, h2 => by
    simp only [drawOne, Bool.and_eq_true] at h
    have := drawOne_spec os fs (i + 1) p o f h.2 (by simpa using h1) (by simpa using h2)
    have e : i + (p + 1) = i + 1 + p := by omega
    rw [e]; exact this
theorem drawAll_spec {all : List Oper} {fps : List (List Nat × List Nat)} {ms : List Nat} : ∀ (os : List Oper) (fs : List (List Nat × List Nat)) (j p : Nat) (o : Oper) (f : List Nat × List Nat), drawAll all fps ms os fs j = true → os[p]? = some o → fs[p]? = some f →
    drawOne all (ms.getD (j + p) 0) o f (all.take (j + p)) fps 0 = true
  | [], _, _, _, _, _, _, h, _ => by simp at h
  | _ :: _, [], _, _, _, _, _, _, h => by simp at h
  | o' :: os, f' :: fs, j, 0, o, f, h, h1, h2 => by
    simp at h1 h2; subst h1 h2
    simp only [drawAll, Bool.and_eq_true] at h
    exact h.1
  | o' :: os, f' :: fs, j, p + 1, o, f, h, h1, h2 => by
    simp only [drawAll, Bool.and_eq_true] at h
    have := drawAll_spec os fs (j + 1) p o f h.2 (by simpa using h1) (by simpa using h2)
    have e : j + (p + 1) = j + 1 + p := by omega
    rw [e]; exact this
def fpsOf (rc : List Rc) : List (List Nat × List Nat) := rc.map fun r => (r.rs.reverse, r.ws.map (·.1))
theorem fpsOf_at {rc : List Rc} {i : Nat} (h : i < rc.length) : (fpsOf rc)[i]? = some ((rcAt rc i).rs.reverse, (rcAt rc i).ws.map (·.1)) := by
  unfold fpsOf rcAt
  simp [List.getD, List.getElem?_eq_getElem h]
theorem drawOk_spec {all : List Oper} {rc : List Rc} (hl : rc.length = all.length) (h : drawOk all (fpsOf rc) = true) {i k : Nat} (hik : i < k) (hk : k < all.length) : Nat.testBit ((masks all []).getD k 0) i = true ∨ Ap all rc i k := by
  have hok : all[k]? = some all[k] := List.getElem?_eq_getElem hk
  have hoi : all[i]? = some (all[i]'(by omega)) := List.getElem?_eq_getElem (by omega)
  have h1 := drawAll_spec all (fpsOf rc) 0 k _ _ h hok (fpsOf_at (by omega))
  rw [Nat.zero_add] at h1
  have h2 := drawOne_spec _ _ 0 i _ _ h1 (by rw [List.getElem?_take, if_pos hik]; exact hoi) (fpsOf_at (by omega))
  rw [Nat.zero_add] at h2
  refine h2.imp (fun h => h) (fun ⟨h3, h4⟩ => ?_)
  obtain ⟨s1, s2, s3⟩ := Oper.apart_spec h3
  unfold fpApart at h4
  simp only [Bool.and_eq_true] at h4
  have hdi : dstOf all i = (all[i]'(by omega)).dst := by unfold dstOf; rw [hoi]; rfl
  have hdk : dstOf all k = all[k].dst := by unfold dstOf; rw [hok]; rfl
  exact ⟨fun d hd => by rw [hdk]; rw [hdi] at hd; exact s2 d hd, fun d o hd ho => by
      rw [hdi] at hd; rw [hok] at ho; injection ho with ho; subst ho; exact s1 d hd, fun d o hd ho => by
      rw [hdk] at hd; rw [hoi] at ho; injection ho with ho; subst ho; exact s3 d hd,
    fun x hx => apartL_spec h4.1.2 x hx, fun x hx hy => apartL_spec h4.1.1 x hx (by simpa using hy), fun x hx => apartL_spec h4.2 x (by simpa using hx)⟩
section
variable {P : Program} {E : Env} {B : Bs} {io : List PV} {all : List Oper} {rc : List Rc} {nx : Nat} {tm0 : List (Nat × PV)} {h0 : Hp} {Q : Exit → Act → World → Prop}
theorem reg_seq (hE : EnvOk P E) (hgl : E.globs = B.gl) (hl : rc.length = all.length) (ran : ∀ j, j < all.length → RanAt E all nx tm0 h0 rc j) (hnt : ∀ j d, dstOf all j = some d → d < B.nt)
    (fin : ∀ g A a w, RS B g A a w (tmS (dstOf all) (fun k => (rcAt rc k).x) tm0 (fun _ => true) all.length) (hpS (fun k => (rcAt rc k).ws) h0 (fun _ => true) all.length) io → Q .normal a w) :
    ∀ (m j : Nat), j + m = all.length → ∀ (g : Gh) (A : Nat → Prop) (a : Act) (w : World), RS B g A a w (tmS (dstOf all) (fun k => (rcAt rc k).x) tm0 (fun k => decide (k < j)) all.length) (hpS (fun k => (rcAt rc k).ws) h0 (fun k => decide (k < j)) all.length) io →
    wpOps P all.toArray Q (List.range' j m) a w
  | 0, j, hj, g, A, a, w, R => by
    have hj : j = all.length := by omega
    subst hj
    rw [tmS_ext (S' := fun _ => true) _ (fun k hk => by simp [hk]), hpS_ext (S' := fun _ => true) _ (fun k hk => by simp [hk])] at R
    exact fin g A a w R
  | m + 1, j, hj, g, A, a, w, R => by
    rw [List.range'_succ, wpOps_cons]
    refine reg_op hE hgl (n := all.length) (S := fun k => decide (k < j)) (j := j) (by omega) (by simp) rfl (ran j (by omega)) hnt (fun k _ h1 h2 => by simp at h2; omega) (fun k h1 h2 => by simp at h2; omega) R (fun g' A' a' w' R' => ?_)
    have e : ∀ k, k < all.length → addS (fun k => decide (k < j)) j k = decide (k < j + 1) := fun k _ => by
      unfold addS; rw [Bool.eq_iff_iff]; simp; omega
    rw [tmS_ext _ e, hpS_ext _ e] at R'
    exact reg_seq hE hgl hl ran hnt fin m (j + 1) (by omega) g' A' a' w' R'
end
def cnt (S : Nat → Bool) : Nat → Nat
  | 0 => 0
  | n + 1 => cnt S n + cond (S n) 0 1
theorem cnt_ext {S S' : Nat → Bool} : ∀ n : Nat, (∀ k, k < n → S k = S' k) → cnt S n = cnt S' n
  | 0, _ => rfl
  | n + 1, h => by unfold cnt; rw [h n (by omega), cnt_ext n (fun k hk => h k (by omega))]
theorem cnt_add {S : Nat → Bool} {j : Nat} (hS : S j = false) : ∀ n : Nat, j < n → cnt (addS S j) n + 1 = cnt S n
  | 0, h => by omega
  | n + 1, h => by
    by_cases e : j = n
    · subst e
      have h1 : addS S j j = true := by simp [addS]
      have h2 : cnt (addS S j) j = cnt S j := cnt_ext j (fun k hk => by
        have : k ≠ j := by omega
        simp [addS, this])
      unfold cnt
      rw [h1, hS, h2]; simp
    · have ih := cnt_add hS n (by omega)
      have h1 : addS S j n = S n := by
        have : n ≠ j := fun e' => e e'.symm
        simp [addS, this]
      unfold cnt
      rw [h1]; omega
theorem cnt_zero {S : Nat → Bool} : ∀ n : Nat, cnt S n = 0 → ∀ k, k < n → S k = true
  | 0, _, k, h => by omega
  | n + 1, h, k, hk => by
    unfold cnt at h
    by_cases e : k = n
    · subst e
      cases hs : S k with
      | true => rfl
      | false => rw [hs] at h; simp at h
    · exact cnt_zero n (by omega) k (by omega)
theorem cnt_all {S : Nat → Bool} : ∀ n : Nat, (∀ k, k < n → S k = true) → cnt S n = 0
  | 0, _ => rfl
  | n + 1, h => by unfold cnt; rw [h n (by omega), cnt_all n (fun k hk => h k (by omega))]; rfl
/-- The first that is not done. -/
theorem first_free {S : Nat → Bool} : ∀ n : Nat, (∃ k, k < n ∧ S k = false) → ∃ k, k < n ∧ S k = false ∧ ∀ i, i < k → S i = true
  | 0, h => by obtain ⟨k, hk, _⟩ := h; omega
  | n + 1, h => by
    by_cases hx : ∃ k, k < n ∧ S k = false
    · obtain ⟨k, h1, h2, h3⟩ := first_free n hx
      exact ⟨k, by omega, h2, h3⟩
    · obtain ⟨k, h1, h2⟩ := h
      have hk : k = n := by
        rcases Nat.lt_or_ge k n with hlt | hge
        · exact absurd ⟨k, hlt, h2⟩ hx
        · omega
      subst hk
      refine ⟨k, h1, h2, fun i hi => ?_⟩
      cases hs : S i with
      | true => rfl
      | false => exact absurd ⟨i, hi, hs⟩ hx
theorem ready_mem {all : List Oper} {listed : Array Bool} {i : Nat} : i ∈ Region.ready .any all.toArray listed ↔ ∃ o, all[i]? = some o ∧ listed.getD i true = false ∧ ∀ e ∈ o.after.toList, binds e = true → listed.getD e.on false = true := by
  unfold Region.ready
  rw [List.mem_filter, List.mem_range]
  constructor
  · rintro ⟨h1, h2⟩
    have h1 : i < all.length := by simpa using h1
    have ho : all[i]? = some all[i] := List.getElem?_eq_getElem h1
    refine ⟨_, ho, ?_⟩
    simp only [List.getElem?_toArray, ho, Bool.and_eq_true, Option.map_some, Option.getD_some, Bool.not_eq_true', ← Array.all_toList, List.all_eq_true, Bool.or_eq_true] at h2
    refine ⟨h2.1, fun e he hb => ?_⟩
    have := h2.2 e he
    rw [binds_any, hb] at this
    simpa using this
  · rintro ⟨o, ho, h1, h2⟩
    have hi : i < all.length := by
      by_cases h : i < all.length
      · exact h
      · rw [List.getElem?_eq_none (by omega)] at ho; cases ho
    refine ⟨by simpa using hi, ?_⟩
    simp only [List.getElem?_toArray, ho, Bool.and_eq_true, Option.map_some, Option.getD_some, Bool.not_eq_true', ← Array.all_toList, List.all_eq_true, Bool.or_eq_true]
    refine ⟨h1, fun e he => ?_⟩
    rw [binds_any]
    cases hb : binds e with
    | false => exact .inl rfl
    | true => exact .inr (h2 e he hb)
section
variable {P : Program} {E : Env} {B : Bs} {io : List PV} {all : List Oper} {rc : List Rc} {nx : Nat} {tm0 : List (Nat × PV)} {h0 : Hp} {Q : Exit → Act → World → Prop}
theorem reg_any (hE : EnvOk P E) (hgl : E.globs = B.gl) (hl : rc.length = all.length) (hed : edgesOk all 0 = true) (hdr : drawOk all (fpsOf rc) = true) (ran : ∀ j, j < all.length → RanAt E all nx tm0 h0 rc j) (hnt : ∀ j d, dstOf all j = some d → d < B.nt)
    (fin : ∀ g A a w, RS B g A a w (tmS (dstOf all) (fun k => (rcAt rc k).x) tm0 (fun _ => true) all.length) (hpS (fun k => (rcAt rc k).ws) h0 (fun _ => true) all.length) io → Q .normal a w) :
    ∀ (fuel : Nat) (S : Nat → Bool) (listed : Array Bool), listed.size = all.length → (∀ k (h : k < listed.size), listed[k] = S k) → cnt S all.length = fuel → (∀ k, k < all.length → S k = true → ∀ i, Nat.testBit ((masks all []).getD k 0) i = true → S i = true) →
    ∀ (g : Gh) (A : Nat → Prop) (a : Act) (w : World), RS B g A a w (tmS (dstOf all) (fun k => (rcAt rc k).x) tm0 S all.length) (hpS (fun k => (rcAt rc k).ws) h0 S all.length) io → wpAny P .any all.toArray Q fuel listed a w
  | 0, S, listed, hsz, hSl, hc, hcl, g, A, a, w, R => by
    have hall := cnt_zero _ hc
    refine ⟨?_, ?_⟩
    · rw [List.eq_nil_iff_forall_not_mem]
      intro i hi
      obtain ⟨o, ho, h1, _⟩ := ready_mem.1 hi
      have hi : i < all.length := by
        by_cases h : i < all.length
        · exact h
        · rw [List.getElem?_eq_none (by omega)] at ho; cases ho
      rw [Array.getD, dif_pos (by omega)] at h1
      have := hSl i (by omega)
      rw [hall i hi] at this
      rw [show listed.getInternal i (by omega) = listed[i] from rfl, this] at h1
      cases h1
    · rw [tmS_ext (S' := fun _ => true) _ hall, hpS_ext (S' := fun _ => true) _ hall] at R
      exact fin g A a w R
  | fuel + 1, S, listed, hsz, hSl, hc, hcl, g, A, a, w, R => by
    have get : ∀ k d, k < all.length → listed.getD k d = S k := fun k d hk => by
      rw [Array.getD, dif_pos (by omega)]; exact hSl k (by omega)
    refine ⟨fun hnil => ?_, fun i hi => ?_⟩
    · exfalso
      have hex : ∃ k, k < all.length ∧ S k = false := by
        apply Classical.byContradiction
        intro hn
        have : cnt S all.length = 0 := cnt_all _ (fun k hk => by
          cases hs : S k with
          | true => rfl
          | false => exact absurd ⟨k, hk, hs⟩ hn)
        omega
      obtain ⟨k, h1, h2, h3⟩ := first_free _ hex
      have ho : all[k]? = some all[k] := List.getElem?_eq_getElem h1
      have : k ∈ Region.ready .any all.toArray listed := ready_mem.2 ⟨_, ho, by rw [get k _ h1]; exact h2, fun e he hb => by
        have := edgesOk_at all 0 k _ hed ho e he hb
        rw [get e.on _ (by omega)]; exact h3 _ (by omega)⟩
      rw [hnil] at this; cases this
    · obtain ⟨o, ho, h1, h2⟩ := ready_mem.1 hi
      have hil : i < all.length := by
        by_cases h : i < all.length
        · exact h
        · rw [List.getElem?_eq_none (by omega)] at ho; cases ho
      rw [get i _ hil] at h1
      have hbef : ∀ k, Nat.testBit ((masks all []).getD i 0) k = true → S k = true := fun k hk => by
        have hm := masks_at all [] i o ho
        simp only [List.length_nil, Nat.zero_add] at hm
        rw [hm] at hk
        obtain ⟨e, he, hb, hk⟩ := maskE_spec _ _ _ hk
        have hlt := edgesOk_at all 0 i o hed ho e he hb
        have hSe : S e.on = true := by rw [← get e.on false (by omega)]; exact h2 e he hb
        rcases hk with rfl | hk
        · exact hSe
        · rw [take_getD _ _ _ _ (by omega)] at hk
          exact hcl e.on (by omega) hSe k hk
      refine reg_op hE hgl (n := all.length) hil h1 rfl (ran i hil) hnt (fun k hk hik hSk => ?_) (fun k hki hSk => ?_) R (fun g' A' a' w' R' => ?_)
      · rcases drawOk_spec hl hdr hik hk with hb | ap
        · have := hcl k hk hSk i hb
          rw [h1] at this; cases this
        · exact ap
      · rcases drawOk_spec hl hdr hki hil with hb | ap
        · have := hbef k hb
          rw [hSk] at this; cases this
        · exact ap
      · refine reg_any hE hgl hl hed hdr ran hnt fin fuel (addS S i) _ (by simpa using hsz) (fun k hk => ?_) (by have := cnt_add h1 all.length hil; omega) (fun k hk hSk j hj => ?_) g' A' a' w' R'
        · have hk' : k < listed.size := by simpa using hk
          rw [Array.getElem_setIfInBounds hk']
          unfold addS
          by_cases e : i = k
          · subst e; simp
          · rw [if_neg e]
            have e' : k ≠ i := fun h => e h.symm
            simpa [e'] using hSl k hk'
        · unfold addS at hSk ⊢
          by_cases e : k = i
          · subst e; rw [hbef j hj]; rfl
          · have hSk' : S k = true := by simpa [e] using hSk
            rw [hcl k hk hSk' j hj]; rfl
/-- A region: its run in order, and the check where the order is drawn. -/
theorem region_ok (hE : EnvOk P E) (hgl : E.globs = B.gl) (hmix : P.follows .mixedOrders = true) {id : Nat} {ops : Array Oper} {draw : Bool} {g : Gh} {A : Nat → Prop} {a : Act} {w : World} (hops : all = ops.toList) (hl : rc.length = all.length) (hed : edgesOk all 0 = true) (hdr : draw = true → drawOk all (fpsOf rc) = true) (ran : ∀ j, j < all.length → RanAt E all nx tm0 h0 rc j) (hnt : ∀ j d, dstOf all j = some d → d < B.nt)
    (R : RS B g A a w tm0 h0 io)
    (fin : ∀ g A a w, RS B g A a w (tmS (dstOf all) (fun k => (rcAt rc k).x) tm0 (fun _ => true) all.length) (hpS (fun k => (rcAt rc k).ws) h0 (fun _ => true) all.length) io → Q .normal a w) : (Code.region id ops draw).wp P Q a w := by
  have hops' : ops = all.toArray := by rw [hops]
  have hsz : ops.size = all.length := by rw [hops']; simp
  have hz : ∀ {X : Nat → PV} n, tmS (dstOf all) X tm0 (fun _ => false) n = tm0 := fun {X} n => by
    induction n with
    | zero => rfl
    | succ n ih => rw [tmS_succ]; exact ih
  have hz2 : ∀ {V : Nat → Hp} n, hpS V h0 (fun _ => false) n = h0 := fun {V} n => by
    induction n with
    | zero => rfl
    | succ n ih => rw [hpS_succ]; exact ih
  cases draw with
  | false =>
    refine wp_region ?_
    rw [hsz, hops', List.range_eq_range']
    refine reg_seq hE hgl hl ran hnt fin all.length 0 (by omega) g A a w ?_
    rw [tmS_ext (S' := fun _ => false) _ (fun k _ => by simp), hpS_ext (S' := fun _ => false) _ (fun k _ => by simp), hz, hz2]
    exact R
  | true =>
    refine wp_region_any hmix ?_
    rw [hsz, hops']
    refine reg_any hE hgl hl hed (hdr rfl) ran hnt fin all.length (fun _ => false) _ (by simp) (fun k hk => by simp) ?_ (fun k _ h => by cases h) g A a _ ?_
    · have : ∀ n, cnt (fun _ => false) n = n := fun n => by
        induction n with
        | zero => rfl
        | succ n ih => unfold cnt; rw [ih]; rfl
      exact this _
    · rw [hz, hz2]
      have G : Grew w { w with drawn := w.drawn + 1 } := Grew.drew w
      have St := Step.grow R.hr G
      exact ⟨R.size, R.defs, fun t x e => ⟨(R.tms t x e).1, (R.tms t x e).2.mono St.le St.mono St.same⟩, St.hr, R.mono, R.in', fun r hr => (St.same r (R.mono r hr)).trans (R.same r hr), R.keep.trans St.keep, R.io⟩
end
end Go.Proofs.Ytjmgelpeonodgaa.PM
