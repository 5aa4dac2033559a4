/- Words for plain laws: tests that are known, sums that do not wrap, lists within bounds. -/
import Derived.Test.YtkihjakbbcajbaaPM1
namespace Go.Proofs.Ytkihjakbbcajbaa.RP
set_option linter.unusedSimpArgs false
set_option linter.unusedVariables false
open Go Go.Proofs.Ytkihjakbbcajbaa.PM
theorem bd_pos {α : Type} {p : Prop} [Decidable p] {a b : α} (h : p) : (bif decide p then a else b) = a := by simp [h]
theorem bd_neg {α : Type} {p : Prop} [Decidable p] {a b : α} (h : ¬ p) : (bif decide p then a else b) = b := by simp [h]
theorem W_eq {x : Int} (h1 : -9223372036854775808 ≤ x) (h2 : x ≤ 9223372036854775807) : IntKind.wrap .i64 x = x := by rw [IntKind.wrap_i64]; omega
theorem lim_ok {n : Nat} {u : Ty} (h : n * u.bytes ≤ 140737488355328) : lim n u = true := decide_eq_true h
theorem lim_ok_small {n : Nat} {u : Ty} {α : Type} {a b : α} (hu : u.bytes ≤ 1000000) (h : n ≤ 100000000) : (bif lim n u then a else b) = a := by
  rw [lim_ok (Nat.le_trans (Nat.mul_le_mul h hu) (by decide))]; rfl
theorem bne_pos {α : Type} {x y : Int} {a b : α} (h : x ≠ y) : (bif x != y then a else b) = a := by rw [bne_iff_ne.2 h]; rfl
theorem bne_neg {α : Type} {x y : Int} {a b : α} (h : x = y) : (bif x != y then a else b) = b := by rw [h, bne_self_eq_false]; rfl
theorem beq_pos {α : Type} {x y : Int} {a b : α} (h : x = y) : (bif x == y then a else b) = a := by rw [h, beq_self_eq_true]; rfl
theorem beq_neg {α : Type} {x y : Int} {a b : α} (h : x ≠ y) : (bif x == y then a else b) = b := by
  rw [show (x == y) = false by simpa using h]; rfl
theorem ob {α β : Type} {f : α → Option β} {x : α} : (some x).bind f = f x := rfl
theorem toNat_cast (n : Nat) : Int.toNat (n : Int) = n := Int.toNat_natCast n
theorem toNat_sub1 {n : Nat} (h : 0 < n) : Int.toNat ((n : Int) - 1) = n - 1 := by omega
theorem cast_add1 (n : Nat) : ((n : Int) + 1) = ((n + 1 : Nat) : Int) := by omega
theorem getD_set_eq {α : Type} {l : List α} {i : Nat} {x d : α} (h : i < l.length) : (l.set i x).getD i d = x := by simp [List.getD, h]
theorem getD_set_ne {α : Type} {l : List α} {i j : Nat} {x d : α} (h : i ≠ j) : (l.set i x).getD j d = l.getD j d := by simp [List.getD, h]
theorem getD_get {α : Type} {l : List α} {i : Nat} {d : α} (h : i < l.length) : l.getD i d = l[i] := by simp [List.getD, h]
theorem tk_getD {α : Type} {l : List α} {i : Nat} {d : α} (h : i < l.length) : l.take i ++ [l.getD i d] = l.take (i + 1) := by
  rw [getD_get h]; exact List.take_append_getElem h
end Go.Proofs.Ytkihjakbbcajbaa.RP
