/- New arenas, orders and tables. -/
import Derived.Test.YtecbgbfegpnilaaTbR2
namespace Go.Proofs.Ytecbgbfegpnilaa.TB
set_option linter.unusedSimpArgs false
set_option linter.unusedVariables false
open Go Go.Proofs Go.Proofs.Ytecbgbfegpnilaa.PM Go.Proofs.Ytecbgbfegpnilaa.RP
/-- The free list of a new arena. -/
def newN (n : Nat) : List Int := (List.range n).map (fun i : Nat => if i + 1 < n then ((i + 1 : Nat) : Int) else -1)
theorem newN_len (n : Nat) : (newN n).length = n := by simp [newN]
theorem newN_at {n i : Nat} (h : i < n) : (newN n).getD i 0 = if i + 1 < n then ((i + 1 : Nat) : Int) else -1 := by
  rw [getD_get (by rw [newN_len]; exact h)]
  simp [newN]
def seqI : Nat → Nat → List Int
  | _, 0 => []
  | i, k + 1 => (i : Int) :: seqI (i + 1) k
theorem mem_seqI {x : Int} : ∀ {k i : Nat}, x ∈ seqI i k ↔ (i : Int) ≤ x ∧ x < (i : Int) + k
  | 0, i => ⟨fun h => (by cases h), fun h => by omega⟩
  | k + 1, i => by
    show x ∈ (i : Int) :: seqI (i + 1) k ↔ _
    rw [List.mem_cons, mem_seqI]
    omega
theorem seqI_nodup : ∀ k i : Nat, (seqI i k).Nodup
  | 0, _ => List.nodup_nil
  | k + 1, i => List.nodup_cons.2 ⟨fun h => by have := mem_seqI.1 h; omega, seqI_nodup k (i + 1)⟩
theorem seqI_chain {n : Nat} : ∀ k i : Nat, i + k = n → Chain (newN n) (if k = 0 then -1 else (i : Int)) (seqI i k)
  | 0, i, _ => by rw [if_pos rfl]; exact .nil
  | k + 1, i, h => by
    rw [if_neg (by omega)]
    refine .cons (by omega) (by rw [newN_len]; omega) ?_
    rw [toNat_cast, newN_at (i := i) (by omega)]
    have := seqI_chain (n := n) k (i + 1) (by omega)
    by_cases e : k = 0
    · subst e
      rw [if_neg (by omega)]
      rw [if_pos rfl] at this
      exact this
    · rw [if_pos (by omega)]
      rw [if_neg e] at this
      exact this
theorem getD_rep {α : Type} {n i : Nat} {a d : α} (h : i < n) : (List.replicate n a).getD i d = a := by
  rw [getD_get (by rw [List.length_replicate]; exact h), List.getElem_replicate]
theorem new_arena {n : Nat} (h1 : 1 ≤ n) (h2 : n ≤ 16) : AGood (newN n) (List.replicate n false) 0 (seqI 0 n) where
  low := by rw [newN_len]; exact h1
  high := by rw [newN_len]; exact h2
  same := by rw [newN_len, List.length_replicate]
  chain := by
    have := seqI_chain (n := n) n 0 (by omega)
    rw [if_neg (by omega)] at this
    exact this
  nodup := seqI_nodup n 0
  mark j hj := by
    rw [List.length_replicate] at hj
    rw [getD_rep hj]
    exact ⟨fun h => (by cases h), fun h => absurd (mem_seqI.2 (by omega)) h⟩
  end_ j hj h := by
    rw [List.length_replicate] at hj
    rw [getD_rep hj] at h; cases h
@[reducible] noncomputable def c0_ : t3.den := (0, 0, false, ())
theorem cl_new (i : Int) : cl (List.replicate 16 c0_) i = c0_ := by
  unfold cl
  by_cases h : i.toNat < 16
  · exact getD_rep h
  · rw [List.getD_eq_getElem?_getD, List.getElem?_eq_none (by rw [List.length_replicate]; omega)]; rfl
theorem cnt_new : cnt (List.replicate 16 c0_) = 0 := by
  unfold cnt
  rw [List.countP_replicate, if_neg (by decide)]
theorem new_index : POk (List.replicate 16 c0_) where
  len := List.length_replicate
  few := by rw [cnt_new]; decide
  zero i _ _ _ := cl_new i
  place i _ _ h := by rw [cl_new] at h; cases h
  uniq i j _ _ _ _ h _ := by rw [cl_new] at h; cases h
  path i _ _ h := by rw [cl_new] at h; cases h
theorem new_order {n : Nat} (h1 : 1 ≤ n) (h2 : n ≤ 16) : OGood (PV n []) (NX n []) (-1) (-1) [] := OGood.of h1 h2 (Ok.nil n)
/-- The new table. -/
noncomputable def NT (n : Nat) : t5.den := ((n : Int), List.replicate n (0 : Int), List.replicate n b0_, (newN n, List.replicate n false, 0, ()), List.replicate 16 c0_, (PV n [], NX n [], -1, -1, ()), ())
theorem new_table {n : Nat} (h1 : 1 ≤ n) (h2 : n ≤ 8) : TGood (n : Int) (List.replicate n 0) (List.replicate n b0_) (newN n) (List.replicate n false) 0 (List.replicate 16 c0_) (PV n []) (NX n []) (-1) (-1) [] where
  low := by omega
  high := by omega
  nkeys := by rw [List.length_replicate]
  nbks := by rw [List.length_replicate]
  nnext := by rw [newN_len]
  nprev := by rw [PV_len]
  arena := ⟨_, new_arena h1 (by omega)⟩
  index := new_index
  order := new_order h1 (by omega)
  row i hi := by
    rw [List.length_replicate] at hi
    refine ⟨?_, fun _ => ⟨getD_rep hi, getD_rep hi⟩, fun h => ?_⟩
    · rw [getD_rep hi]; exact ⟨fun h => (by cases h), fun h => (by cases h)⟩
    · rw [getD_rep hi] at h; cases h
  count := by rw [cnt_new, List.countP_replicate, if_neg (by decide)]
theorem NT_ok {n : Nat} (h1 : 1 ≤ n) (h2 : n ≤ 8) : TOk (NT n) := ⟨[], new_table h1 h2⟩
end Go.Proofs.Ytecbgbfegpnilaa.TB
