/- The law RegistryKeeps in plain words, for all that an argument may hold. -/
import Derived.Test.YtjmgelpeonodgaaRegP5
namespace Go.Proofs.Ytjmgelpeonodgaa.TB
set_option linter.unusedSimpArgs false
set_option linter.unusedVariables false
open Go Go.Proofs Go.Proofs.Ytjmgelpeonodgaa.PM Go.Proofs.Ytjmgelpeonodgaa.RP
def numN (n : Nat) (f : Nat → Bool) : Nat := ((List.range n).filter f).length
theorem numN_succ (n : Nat) (f : Nat → Bool) : numN (n + 1) f = numN n f + if f n = true then 1 else 0 := by
  unfold numN
  rw [List.range_succ, List.filter_append, List.length_append]
  by_cases h : f n = true
  · rw [if_pos h, List.filter_cons, if_pos h]; rfl
  · rw [if_neg h, List.filter_cons, if_neg h]; rfl
theorem numN_same {f g : Nat → Bool} : ∀ n : Nat, (∀ s, s < n → f s = g s) → numN n f = numN n g
  | 0, _ => rfl
  | n + 1, h => by rw [numN_succ, numN_succ, numN_same n fun s hs => h s (by omega), h n (by omega)]
theorem numN_upd {f : Nat → Bool} {t : Nat} {b : Bool} : ∀ n : Nat, t < n → numN n (upd f t b) + (if f t = true then 1 else 0) = numN n f + (if b = true then 1 else 0)
  | 0, h => absurd h (Nat.not_lt_zero t)
  | n + 1, h => by
    rw [numN_succ, numN_succ]
    by_cases e : t = n
    · subst e
      rw [numN_same (f := upd f t b) (g := f) t fun s hs => by unfold upd; rw [if_neg (by omega)]]
      have : upd f t b t = b := by unfold upd; rw [if_pos rfl]
      rw [this]; omega
    · have h1 := numN_upd (f := f) (t := t) (b := b) n (by omega)
      have : upd f t b n = f n := by unfold upd; rw [if_neg (fun h => e h.symm)]
      rw [this]; omega
theorem num_in {f : Nat → Bool} {t : Nat} (ht : t < 16) (h : f t = false) : num (upd f t true) = num f + 1 := by
  have := numN_upd (f := f) (t := t) (b := true) 16 ht
  rw [h, if_neg (by decide), if_pos rfl] at this
  exact this
theorem num_out {f : Nat → Bool} {t : Nat} (ht : t < 16) (h : f t = true) : num (upd f t false) + 1 = num f := by
  have := numN_upd (f := f) (t := t) (b := false) 16 ht
  rw [h, if_pos rfl, if_neg (by decide)] at this
  exact this
theorem keeps_12 (l : List Int) (ok : Bool) (count i : Int) (l0 : List t7.den) (b1 : List Bool) : spigotlaw19_RegistryKeeps.L12 l ok count i l0 b1 = spigotlaw19_RegistryKeeps.L2 l ok count i l0 b1 := by
  rw [spigotlaw19_RegistryKeeps.L12_eq, spigotlaw19_RegistryKeeps.L2_eq, spigotlaw19_RegistryKeeps.L13_eq, spigotlaw19_RegistryKeeps.L3_eq]
/-- All tenants are found as they are. -/
theorem keeps_inner {l : List Int} {count i : Int} {f : Nat → Bool} {b1 : List Bool} (hb : ∀ s : Nat, s < 16 → b1.getD s false = f s) (hn : num f ≤ 8) :
    spigotlaw19_RegistryKeeps.L9 l true count i 0 (QL f) b1 = spigotlaw19_RegistryKeeps.L2 l true count (IntKind.wrap .i64 (i + 1)) (QL f) b1 := by
  have h := loop_go (n := 16) (L := fun k => spigotlaw19_RegistryKeeps.L9 l true count i (k : Int) (QL f) b1) (fun k hk => by
    have nx_ : spigotlaw19_RegistryKeeps.L11 l true count i (k : Int) (QL f) b1 = spigotlaw19_RegistryKeeps.L9 l true count i ((k + 1 : Nat) : Int) (QL f) b1 := by
      rw [spigotlaw19_RegistryKeeps.L11_eq, show IntKind.wrap .u32 ((k : Int) + 1) = ((k + 1 : Nat) : Int) by rw [IntKind.wrap_u32]; omega]
    try dsimp only
    rw [spigotlaw19_RegistryKeeps.L9_eq, bd_pos (by omega), spigotlaw19_RegistryKeeps.L10_eq]
    rcases find_Q (f := f) (t := k) hk hn with ⟨ft, c, hc, e, e2⟩ | ⟨ft, e2⟩
    · rw [e2, ob, bd_pos (by omega), toNat_cast, hb k hk, ft, bnt (by rfl), beq_pos rfl, bd_neg (by dsimp only; omega), bd_neg (by dsimp only; omega), bd_pos (by dsimp only; omega), of_f (by omega), ob]
      simp only [toNat_cast]
      rw [getD_get hc, e, same18_refl (Q_small _), ob, bnt rfl, nx_]
    · rw [e2, ob, bd_pos (by omega), toNat_cast, hb k hk, ft, bnt (by rfl), beq_neg (by decide), nx_])
  refine Eq.trans h ?_
  try dsimp only
  rw [spigotlaw19_RegistryKeeps.L9_eq, bd_neg (by decide)]
theorem set_hb {b1 : List Bool} {f : Nat → Bool} {t : Nat} {b : Bool} (hl : b1.length = 16) (ht : t < 16) (hb : ∀ s : Nat, s < 16 → b1.getD s false = f s) : ∀ s : Nat, s < 16 → (b1.set t b).getD s false = upd f t b s := fun s hs => by
  unfold upd
  by_cases e : s = t
  · subst e; rw [if_pos rfl, RP.getD_set_eq (by omega)]
  · rw [if_neg e, RP.getD_set_ne (fun h => e h.symm), hb s hs]
theorem ref_Q {f : Nat → Bool} (hn : num f ≤ 8) : spigotref19_Check.F (QL f) = some (0, ()) := by
  rcases check_f (l := QL f) QL_wf (by rw [QL_len]; omega) with ⟨_, _, h⟩ | ⟨n, _⟩
  · exact h
  · exact absurd (QL_reg hn) n
theorem keeps_loop {l : List Int} (hl : l.length ≤ 40) (hw : ∀ x ∈ l, 0 ≤ x) : ∀ (k i : Nat) (f : Nat → Bool) (b1 : List Bool), i + k = l.length → b1.length = 16 → (∀ s : Nat, s < 16 → b1.getD s false = f s) → num f ≤ 8 →
    spigotlaw19_RegistryKeeps.L2 l true (num f : Int) (i : Int) (QL f) b1 = some (true, ())
  | 0, i, f, b1, h, _, _, _ => by
    rw [spigotlaw19_RegistryKeeps.L2_eq, bd_neg (by omega), bt rfl, QL_len, beq_iff_eq.2 rfl]
  | k + 1, i, f, b1, h, hb16, hb, hn => by
    have hi : i < l.length := by omega
    have hx := hw _ (List.getElem_mem hi)
    have et : Int.tmod l[i] 16 = (((l[i]).toNat % 16 : Nat) : Int) := by rw [Int.tmod_eq_emod_of_nonneg hx]; omega
    have ht : (l[i]).toNat % 16 < 16 := Nat.mod_lt _ (by decide)
    rw [spigotlaw19_RegistryKeeps.L2_eq, bd_pos (by omega), spigotlaw19_RegistryKeeps.L3_eq, bd_pos (by omega), bd_pos (by decide)]
    simp only [toNat_cast]
    rw [getD_get hi, et]
    generalize (l[i]).toNat % 16 = t at ht
    rw [bd_pos (by omega)]
    simp only [toNat_cast]
    rw [hb t ht]
    have go7 : ∀ (b : Bool) (c : Int), f t = (!b) → c = (num (upd f t b) : Int) → num (upd f t b) ≤ 8 → (bif b then (num f : Int) + 1 else (num f : Int) - 1) = c → spigotlaw19_RegistryKeeps.L6 l true (num f : Int) (i : Int) (t : Int) 0 b1 (QL (upd f t b)) = some (true, ()) := fun b c hf hc h8 hcc => by
      have hset : (!(List.getD b1 t false)) = b := by rw [hb t ht, hf, Bool.not_not]
      rw [spigotlaw19_RegistryKeeps.L6_eq, bne_neg rfl, ref_Q h8, ob, bne_neg rfl, spigotlaw19_RegistryKeeps.L7_eq, bd_pos (by omega), bd_pos (by omega), bd_pos (by omega)]
      simp only [toNat_cast]
      rw [hset, RP.getD_set_eq (by omega)]
      have fin : spigotlaw19_RegistryKeeps.L8 l true c (i : Int) (b1.set t b) (QL (upd f t b)) = some (true, ()) := by
        rw [spigotlaw19_RegistryKeeps.L8_eq, hc, keeps_inner (set_hb hb16 ht hb) h8, W_eq (by omega) (by omega), cast_add1]
        exact keeps_loop hl hw k (i + 1) (upd f t b) (b1.set t b) (by omega) (by rw [List.length_set]; exact hb16) (set_hb hb16 ht hb) h8
      cases b with
      | true =>
        rw [bt rfl, W_eq (by omega) (by omega)]
        have : (num f : Int) + 1 = c := hcc
        rw [this]; exact fin
      | false =>
        rw [bf rfl, W_eq (by omega) (by omega)]
        have : (num f : Int) - 1 = c := hcc
        rw [this]; exact fin
    by_cases ft : f t = true
    · have ho := num_out ht ft
      rw [bt ft, drop_Q ht ft hn, ob, spigotlaw19_RegistryKeeps.L4_eq, bd_pos (by omega), toNat_cast, hb t ht, ft, bnt rfl]
      exact go7 false _ ft rfl (by omega) (by show (num f : Int) - 1 = _; omega)
    · have ff := bool_not ft
      rw [bf ff, of_f (by omega), ob]
      by_cases h8 : num f = 8
      · rw [put_Q_full ht ff h8, ob, spigotlaw19_RegistryKeeps.L4_eq, bd_pos (by omega), toNat_cast, hb t ht, ff, bnf rfl, beq_pos (by omega), bne_neg rfl, spigotlaw19_RegistryKeeps.L5_eq, keeps_12, W_eq (by omega) (by omega), cast_add1]
        exact keeps_loop hl hw k (i + 1) f b1 (by omega) hb16 hb hn
      · have hi2 := num_in ht ff
        rw [put_Q ht ff (by omega), ob, spigotlaw19_RegistryKeeps.L4_eq, bd_pos (by omega), toNat_cast, hb t ht, ff, bnf rfl, beq_neg (by omega)]
        exact go7 true _ ff rfl (by omega) (by show (num f : Int) + 1 = _; omega)
theorem keeps_F {l : List Int} (hw : ∀ x ∈ l, 0 ≤ x) : spigotlaw19_RegistryKeeps.F l = some (true, ()) := by
  rw [spigotlaw19_RegistryKeeps.F_eq, alive_f, ob]
  by_cases h : (l.length : Int) > 40
  · rw [bd_pos h]
  · rw [bd_neg h, bnt rfl, spigotlaw19_RegistryKeeps.L1_eq]
    exact keeps_loop (by omega) hw l.length 0 (fun _ => false) (List.replicate 16 false) (by omega) List.length_replicate (fun s hs => getD_rep hs) (by decide)
end Go.Proofs.Ytjmgelpeonodgaa.TB
namespace Go.Proofs.Ytjmgelpeonodgaa.PM
set_option linter.unusedVariables false
open Go Go.Proofs Go.Proofs.Ytjmgelpeonodgaa.TB
theorem Pure.registryKeeps : ∀ x, argsWf spigotlaw19_RegistryKeeps.sg.ps x → spigotlaw19_RegistryKeeps.Fn.F x = some (true, ())
  | ⟨l, _⟩, hx => keeps_F fun x h => (wf_u32 (hx.1.2 x h)).1
end Go.Proofs.Ytjmgelpeonodgaa.PM
