-- printed by a program of this session (a turned copy of the kit's print); Lean checks it
import Derived.Test.YtiimflniadggaaaPLrux0
namespace Go.Proofs.Ytiimflniadggaaa.PLru
open Go.RowKit Go.Proofs.YtiimflniadggaaaW.PrintWords Go.Proofs.YtiimflniadggaaaW.PrintLast Go.Proofs.YtiimflniadggaaaW.PrintMore
attribute [local go_sem] max2_int min2_int max_two min_two max_three min_three max_four min_four   -- for this text's walks alone
set_option linter.unusedVariables false
set_option linter.unusedSimpArgs false

/-! ### bits_Mul32: function 37 -/
def bits_Mul32.f (a0 : Int) (a1 : Int) : Option (Int × Int) := some (((IntKind.u64.wrap ((IntKind.u64.wrap (a0)) * (IntKind.u64.wrap (a1)))) / 4294967296) % 4294967296, (IntKind.u64.wrap ((IntKind.u64.wrap (a0)) * (IntKind.u64.wrap (a1)))) % 4294967296)
set_option maxHeartbeats 8000000 in
set_option maxRecDepth 100000 in
theorem bits_Mul32.calls (a0 : Int) (a1 : Int) (r1 : Int) (r2 : Int) (w : World) (h : bits_Mul32.f a0 a1 = some (r1, r2)) :
    Calls Try.prog 37 #[.int .u32 a0, .int .u32 a1] w fun e w' => e = .returned (.tuple #[.int .u32 r1, .int .u32 r2]) ∧ Drawn0 w w' := by
  have H : (some (((IntKind.u64.wrap ((IntKind.u64.wrap (a0)) * (IntKind.u64.wrap (a1)))) / 4294967296) % 4294967296, (IntKind.u64.wrap ((IntKind.u64.wrap (a0)) * (IntKind.u64.wrap (a1)))) % 4294967296)) = some (r1, r2) := h
  clear h
  simp only [Option.some.injEq, Prod.mk.injEq] at H
  obtain ⟨rfl, rfl⟩ := H
  go_enter Try.func37, Try.ntmps37
  go_wp2
  go_ret2
  exact ⟨by first | rfl | (simp; done) | (simp [*]; done), by repeat (first | exact Drawn0.refl _ | apply Drawn0.step)⟩

/-! ### bits_Mul64: function 38 -/
def bits_Mul64.f (a0 : Int) (a1 : Int) : Option (Int × Int) := some (IntKind.u64.wrap ((IntKind.u64.wrap ((IntKind.u64.wrap ((a0 / 4294967296) * (a1 / 4294967296))) + ((IntKind.u64.wrap ((IntKind.u64.wrap ((a0 / 4294967296) * (Go.bits .and .u64 a1 4294967295))) + ((IntKind.u64.wrap ((Go.bits .and .u64 a0 4294967295) * (Go.bits .and .u64 a1 4294967295))) / 4294967296))) / 4294967296))) + ((IntKind.u64.wrap ((Go.bits .and .u64 (IntKind.u64.wrap ((IntKind.u64.wrap ((a0 / 4294967296) * (Go.bits .and .u64 a1 4294967295))) + ((IntKind.u64.wrap ((Go.bits .and .u64 a0 4294967295) * (Go.bits .and .u64 a1 4294967295))) / 4294967296))) 4294967295) + (IntKind.u64.wrap ((Go.bits .and .u64 a0 4294967295) * (a1 / 4294967296))))) / 4294967296)), IntKind.u64.wrap (a0 * a1))
set_option maxHeartbeats 8000000 in
set_option maxRecDepth 100000 in
theorem bits_Mul64.calls (a0 : Int) (a1 : Int) (r1 : Int) (r2 : Int) (w : World) (h : bits_Mul64.f a0 a1 = some (r1, r2)) :
    Calls Try.prog 38 #[.int .u64 a0, .int .u64 a1] w fun e w' => e = .returned (.tuple #[.int .u64 r1, .int .u64 r2]) ∧ Drawn0 w w' := by
  have H : (some (IntKind.u64.wrap ((IntKind.u64.wrap ((IntKind.u64.wrap ((a0 / 4294967296) * (a1 / 4294967296))) + ((IntKind.u64.wrap ((IntKind.u64.wrap ((a0 / 4294967296) * (Go.bits .and .u64 a1 4294967295))) + ((IntKind.u64.wrap ((Go.bits .and .u64 a0 4294967295) * (Go.bits .and .u64 a1 4294967295))) / 4294967296))) / 4294967296))) + ((IntKind.u64.wrap ((Go.bits .and .u64 (IntKind.u64.wrap ((IntKind.u64.wrap ((a0 / 4294967296) * (Go.bits .and .u64 a1 4294967295))) + ((IntKind.u64.wrap ((Go.bits .and .u64 a0 4294967295) * (Go.bits .and .u64 a1 4294967295))) / 4294967296))) 4294967295) + (IntKind.u64.wrap ((Go.bits .and .u64 a0 4294967295) * (a1 / 4294967296))))) / 4294967296)), IntKind.u64.wrap (a0 * a1))) = some (r1, r2) := h
  clear h
  simp only [Option.some.injEq, Prod.mk.injEq] at H
  obtain ⟨rfl, rfl⟩ := H
  go_enter Try.func38, Try.ntmps38
  go_wp2
  go_ret2
  exact ⟨by first | rfl | (simp; done) | (simp [*]; done), by repeat (first | exact Drawn0.refl _ | apply Drawn0.step)⟩

/-! ### bits_Mul: function 36 -/
def bits_Mul.f (a0 : Int) (a1 : Int) : Option (Int × Int) := (bits_Mul64.f a0 a1).bind fun bt116 => (some (bt116.1, bt116.2))
set_option maxHeartbeats 8000000 in
set_option maxRecDepth 100000 in
theorem bits_Mul.calls (a0 : Int) (a1 : Int) (r1 : Int) (r2 : Int) (w : World) (h : bits_Mul.f a0 a1 = some (r1, r2)) :
    Calls Try.prog 36 #[.int .u64 a0, .int .u64 a1] w fun e w' => e = .returned (.tuple #[.int .u64 r1, .int .u64 r2]) ∧ Drawn0 w w' := by
  have H : ((bits_Mul64.f a0 a1).bind fun bt116 => (some (bt116.1, bt116.2))) = some (r1, r2) := h
  clear h
  replace H := Option.bind_eq_some_iff.mp H
  obtain ⟨⟨t116, t117⟩, A30, H⟩ := H
  replace H : (some (t116, t117)) = some (r1, r2) := H
  have A3 := Aside0.mk A30
  clear A30
  simp only [Option.some.injEq, Prod.mk.injEq] at H
  obtain ⟨rfl, rfl⟩ := H
  go_enter Try.func36, Try.ntmps36
  go_wp2_with (first | ((with_reducible refine gate_callee (f := 38) rfl ?_); refine goesE (some 25) rfl rfl Try.func38 (by kernel_rfl) rfl #[.int .u64 a0, .int .u64 a1] rfl ?_; (with_reducible refine (bits_Mul64.calls a0 a1 t116 t117 _ A3.out).mono ?_); rintro e w' ⟨rfl, ⟨nd, rfl⟩⟩; refine ⟨_, rfl, ?_⟩))
  go_ret2
  exact ⟨by first | rfl | (simp; done) | (simp [*]; done), by repeat (first | exact Drawn0.refl _ | apply Drawn0.step)⟩

/-! ### slices_Repeat_int_int: function 28 -/
def slices_Repeat_int_int.f (l0 : List Int) (a1 : Int) : Option (List Int) := if l0.length = 1 ∧ 1 ≤ a1 ∧ a1 ≤ 16 then some (List.replicate a1.toNat (l0.headD 0)) else none
theorem slices_Repeat_int_int.mul1 : ∀ n : Fin 17, bits_Mul.f (IntKind.u64.wrap 1) (IntKind.u64.wrap ((n.val : Nat) : Int)) = some (0, ((n.val : Nat) : Int)) := by decide +kernel
theorem slices_Repeat_int_int.open_ {w : World} {base : Nat} {ok : Nat → Prop} {v : Value} {xs : List Int} {n : Nat} (h : (Kd.int .i64).R 3 w base ok v xs) (hn : xs.length = n) (hp : 0 < n) :
    ∃ g cap tl, v = .slice (some ⟨g, 0, none⟩) n cap ∧ base ≤ g ∧ xs.length + tl.length = cap ∧ cap ≤ maxLen ∧ w.heap[g]? = some (.cells (xs.map (Value.int .i64) ++ tl).toArray 3 (0, 0)) := by
  subst hn
  obtain ⟨_, inner, ⟨hl, ho⟩, hr⟩ := h
  rcases ho with ⟨_, h0⟩ | ⟨g, cap, cur, rfl, hb, hh, hnc, hcm, hcs, ht⟩
  · omega
  · have hin : inner = xs.map (Value.int .i64) := by
      apply List.ext_getElem?
      intro j
      have hs : (Kd.int .i64).sz = 1 := rfl
      rw [hs] at hl hr
      rcases Nat.lt_or_ge j xs.length with hj | hj
      · have hx := hr.2 j xs[j] (List.getElem?_eq_getElem hj)
        replace hx : (inner.drop (j * 1)).take 1 = [Value.int .i64 xs[j]] := hx
        rw [Nat.mul_one] at hx
        have h1 : ((inner.drop j).take 1)[0]? = some (Value.int .i64 xs[j]) := by rw [hx]; rfl
        rw [List.getElem?_take_of_lt (by omega), List.getElem?_drop] at h1
        rw [List.getElem?_map, List.getElem?_eq_getElem hj]
        simpa using h1
      · rw [List.getElem?_eq_none (by omega), List.getElem?_eq_none (by simpa using hj)]
    have hs : (Kd.int .i64).sz = 1 := rfl
    rw [hs] at hcs ht hl
    rw [Nat.mul_one] at hcs ht hl
    refine ⟨g, cap, cur.toList.drop xs.length, rfl, hb, by
      have e1 : cur.toList.length = cur.size := Array.length_toList
      rw [List.length_drop, e1]; omega, hcm, ?_⟩
    rw [hh, ← hin, ← ht, List.take_append_drop]
theorem slices_Repeat_int_int.shut_ {w : World} {base g cap : Nat} {xs : List Int} {tl : List Value} (hb : base ≤ g) (hl : xs.length + tl.length = cap) (hc : cap ≤ maxLen) (h : w.heap[g]? = some (.cells (xs.map (Value.int .i64) ++ tl).toArray 3 (0, 0))) :
    (Kd.int .i64).R 3 w base (fun _ => True) (.slice (some ⟨g, 0, none⟩) xs.length cap) xs := by
  refine ⟨fun _ _ => trivial, xs.map (Value.int .i64), ⟨?_, .inr ⟨g, cap, _, rfl, hb, h, by omega, hc, ?_, ?_⟩⟩, ?_⟩
  · have hs : (Kd.int .i64).sz = 1 := rfl
    rw [hs]; simp
  · have hs : (Kd.int .i64).sz = 1 := rfl
    rw [hs]; simp; omega
  · have hs : (Kd.int .i64).sz = 1 := rfl
    rw [hs, Nat.mul_one]
    show ((xs.map (Value.int .i64) ++ tl).toArray.toList).take xs.length = _
    rw [List.take_append_of_le_length (by simp), List.take_of_length_le (by simp)]
  · exact Kd.reps_scalar xs
/-- The row behind m elements that are laid: m of x, then zeros. -/
def slices_Repeat_int_int.row (x : Int) (m n : Nat) : List Int := List.replicate m x ++ List.replicate (n - m) 0
theorem slices_Repeat_int_int.len_row (x : Int) (m n : Nat) (h : m ≤ n) : (slices_Repeat_int_int.row x m n).length = n := by simp [slices_Repeat_int_int.row]; omega
theorem slices_Repeat_int_int.get_row (x : Int) (m n j : Nat) (h : j < m) : (slices_Repeat_int_int.row x m n)[j]? = some x := by
  rw [slices_Repeat_int_int.row, List.getElem?_append_left (by simpa using h), List.getElem?_replicate, if_pos h]
theorem slices_Repeat_int_int.splice_row (x : Int) (m n k : Nat) (tl : List Value) (h : m + k ≤ n) :
    splice ((slices_Repeat_int_int.row x m n).map (Value.int .i64) ++ tl) m (List.replicate k (Value.int .i64 x)) = (slices_Repeat_int_int.row x (m + k) n).map (Value.int .i64) ++ tl := by
  unfold splice slices_Repeat_int_int.row
  have e1 : ((List.replicate m x ++ List.replicate (n - m) 0).map (Value.int .i64) ++ tl) = List.replicate m (Value.int .i64 x) ++ (List.replicate (n - m) (Value.int .i64 0) ++ tl) := by simp
  have e2 : ((List.replicate (m + k) x ++ List.replicate (n - (m + k)) 0).map (Value.int .i64) ++ tl) = List.replicate m (Value.int .i64 x) ++ (List.replicate k (Value.int .i64 x) ++ (List.replicate (n - (m + k)) (Value.int .i64 0) ++ tl)) := by
    rw [← List.append_assoc, List.replicate_append_replicate]; simp
  rw [e1, e2, List.take_append_of_le_length (by simp), List.take_of_length_le (by simp)]
  congr 2
  rw [List.length_replicate, List.drop_append, List.drop_of_length_le (by simp), List.length_replicate, List.nil_append, show m + k - m = k by omega, List.drop_append_of_le_length (by simp; omega), List.drop_replicate, show n - m - k = n - (m + k) by omega]
theorem slices_Repeat_int_int.rep_get {α : Type} {k j : Nat} {a v : α} (h : (List.replicate k a)[j]? = some v) : j < k ∧ v = a := by
  rw [List.getElem?_replicate] at h
  by_cases c : j < k
  · rw [if_pos c] at h; exact ⟨c, (Option.some.inj h).symm⟩
  · rw [if_neg c] at h; cases h
theorem slices_Repeat_int_int.cell_row {w : World} {x : Int} {m N g : Nat} {tl : List Value} (h : w.heap[g]? = some (.cells ((slices_Repeat_int_int.row x m N).map (Value.int .i64) ++ tl).toArray 3 (0, 0))) (j : Nat) (hj : j < m) : w.cell? ⟨g, j, none⟩ = some (.int .i64 x) := by
  have h1 : ((slices_Repeat_int_int.row x m N).map (Value.int .i64) ++ tl)[j]? = some (.int .i64 x) := by
    have h2 := slices_Repeat_int_int.get_row x m N j hj
    obtain ⟨hl, _⟩ := List.getElem?_eq_some_iff.1 h2
    rw [List.getElem?_append_left (by simpa using hl), List.getElem?_map, h2]; rfl
  have h3 := blk_cell h j
  rw [h3]
  simpa using h1
set_option maxHeartbeats 8000000 in
set_option maxRecDepth 100000 in
theorem slices_Repeat_int_int.calls (A0 : Option Addr) (c0 : Nat) (l0 : List Int) (a1 : Int) (r : List Int) (w : World) (hr0 : Kd.C (Kd.int .i64) w A0 l0.length l0) (hc0 : l0.length ≤ c0) (h : slices_Repeat_int_int.f l0 a1 = some r) :
    Calls Try.prog 28 #[.slice A0 l0.length c0, .int .i64 a1] w fun e w' => ∃ v0_ : Value, e = .returned (v0_) ∧ Kd.R (Kd.int .i64) 3 w' w.heap.size (fun _ => True) v0_ r ∧ Below w.heap.size w w' := by
  unfold slices_Repeat_int_int.f at h
  by_cases hq : l0.length = 1 ∧ 1 ≤ a1 ∧ a1 ≤ 16
  case neg => rw [if_neg hq] at h; cases h
  rw [if_pos hq] at h
  obtain ⟨hq1, hq2, hq3⟩ := hq
  obtain ⟨x, rfl⟩ : ∃ x, l0 = [x] := List.length_eq_one_iff.1 hq1
  have hr : r = List.replicate a1.toNat x := by simpa using h.symm
  subst hr
  clear h
  obtain ⟨ad, rfl, hcell⟩ : ∃ ad, A0 = some ad ∧ w.cell? (ad.add 0) = some (.int .i64 x) := by
    obtain ⟨ad, e, hc⟩ := Kd.at_int hr0 0 (by omega) (by simp)
    exact ⟨ad, e, hc⟩
  have hMul : bits_Mul.f (IntKind.u64.wrap (([x].length : Nat) : Int)) (IntKind.u64.wrap a1) = some (0, a1) := by
    have h1 := slices_Repeat_int_int.mul1 ⟨a1.toNat, by omega⟩
    have h2 : ((a1.toNat : Nat) : Int) = a1 := by omega
    simp only [h2] at h1
    exact h1
  obtain ⟨l0, hl0⟩ : ∃ l : List Int, l = [x] := ⟨_, rfl⟩
  rw [← hl0] at hMul hr0 hc0 ⊢
  obtain ⟨L, hL⟩ : ∃ L : Nat, L = l0.length := ⟨_, rfl⟩
  rw [← hL] at hMul hc0 ⊢
  have hL1 : Aside0 (L = 1) := ⟨by rw [hL, hl0]; rfl⟩
  clear hL hl0 hr0 hq1
  obtain ⟨t118, ht118⟩ : ∃ t : Int, t = 0 := ⟨_, rfl⟩
  obtain ⟨t119, ht119⟩ : ∃ t : Int, t = a1 := ⟨_, rfl⟩
  have A4 : Aside0 (bits_Mul.f (IntKind.u64.wrap ((L : Nat) : Int)) (IntKind.u64.wrap a1) = some (t118, t119)) := ⟨by rw [hMul, ht118, ht119]⟩
  clear hMul
  have c3b0 : decide (a1 < 0) = false := decide_eq_false (by omega)
  have c5b0 : decide (0 < t118) = false := decide_eq_false (by omega)
  have c6b0 : decide (9223372036854775807 < t119) = false := decide_eq_false (by omega)
  obtain ⟨ji7, hji7⟩ : ∃ j_ : Int, (wrap64 t119) = j_ := ⟨_, rfl⟩
  have hji7w : (IntKind.i64.wrap t119) = ji7 := (i64_w _).trans hji7
  have hja : ji7 = a1 := by rw [← hji7w, ht119, IntKind.wrap_i64]; omega
  have c8b0 := eq_true (show 0 ≤ ji7 by omega)
  have c8b1 : decide (0 ≤ ji7) = true := decide_eq_true (by omega)
  have c9b0 := eq_true (show (ji7 : Int).toNat ≤ 35184372088832 by omega)
  have c9b1 : decide ((ji7 : Int).toNat ≤ 35184372088832) = true := decide_eq_true (by omega)
  obtain ⟨N, hN⟩ : ∃ N : Nat, N = ji7.toNat := ⟨_, rfl⟩
  have hNa : Aside0 (a1.toNat = N ∧ 1 ≤ N ∧ N ≤ 16) := ⟨by omega⟩
  have HN := Aside0.mk hN
  have HT := Aside0.mk (show ji7.toNat ≤ 35184372088832 by omega)
  have HC := Aside0.mk hcell
  have HB := Aside0.mk (Below.refl w.heap.size w)
  have hc0' := Aside0.mk hc0
  clear hN hq2 hq3 ht118 ht119 hji7 hja hcell hc0
  obtain ⟨m0, hm0⟩ : ∃ m : Nat, m = 1 := ⟨_, rfl⟩
  have HM0 := Aside0.mk hm0
  clear hm0
  have HP := Aside0.mk (show ∀ j v, (List.replicate m0 (Value.int .i64 x))[j]? = some v → w.cell? (ad.add j) = some v from fun j v hj => by
    obtain ⟨hj1, rfl⟩ := slices_Repeat_int_int.rep_get hj
    rw [HM0.out] at hj1
    obtain rfl : j = 0 := by omega
    exact HC.out)
  go_enter Try.func28, Try.ntmps28
  have hsz : (Try.prog.info? 3).map (·.size) = some 1 := by kernel_rfl
  go_wp2_with (first | ((with_reducible refine gate_callee (f := 36) rfl ?_); refine goesL_ (some 18) rfl rfl Try.func36 (by kernel_rfl) rfl #[.int .u64 (IntKind.u64.wrap ((L : Nat) : Int)), .int .u64 (IntKind.u64.wrap (a1))] rfl (by (try simp only [List.map_toArray, List.map_cons, List.map_nil]); first | done | rfl) ?_; (with_reducible refine (bits_Mul.calls (IntKind.u64.wrap ((L : Nat) : Int)) (IntKind.u64.wrap (a1)) t118 t119 _ A4.out).mono ?_); rintro e w' ⟨rfl, ⟨nd, rfl⟩⟩; refine ⟨_, rfl, ?_⟩) | ((with_reducible refine gate_dst (N := 30) rfl ?_); refine Kd.R_make (Kd.int .i64) _ 3 rfl (N := 30) rfl 22 _ _ rfl ji7 rfl rfl Try.underlying22 (.int .i64 0) 8 info3 rfl (by decide) (by omega) 0 (ok := fun _ => True) (okp := fun _ => True) rfl (fun _ hk => hk) trivial (of_eq_true c8b0) (Nat.le_trans (Nat.mul_le_mul_right _ HT.out) (by omega)) (Below.refl _ _) (Nat.le_refl _) ?_; intro v121 w10 ho11 hb hg_ hnew_; clear hg_ hnew_; rw [← HN.out] at ho11; have n0_ := Kd.R_lower ho11 (below_size (pB HB.out)); have n1_ := Aside0.mk (below_step (pB HB.out) hb); clear HB; have HB := n1_; clear n1_; obtain ⟨g, cap, tl, rfl, hbg, htl, hcm, hheap⟩ := slices_Repeat_int_int.open_ n0_ (List.length_replicate ..) hNa.out.2.1; rw [List.length_replicate] at htl; have HF := Aside0.mk (And.intro hbg (And.intro htl (And.intro hcm hheap))); clear hbg htl hcm hheap n0_ ho11 hb) | ((with_reducible refine gate_builtin (b := .copy) (xs := #[.tmp 31, .tmp 32]) rfl ?_); refine wpList_copy_splice ?hgd (.tmp 31) (.tmp 32) 22 22 ?ho 3 Try.underlying22 hsz (some ⟨g, 0, none⟩) (some ad) N cap L c0 ?hd ?hs g 0 ((List.replicate N (0 : Int)).map (Value.int .i64) ++ tl) 3 HF.out.2.2.2 (List.replicate m0 (Value.int .i64 x)) ?hn ?hpos ?hfit ?h1 w.heap.size w HB.out HF.out.1 ?_; (case hgd => rfl); (case ho => rfl); (case hd => rfl); (case hs => rfl); (case hn => rw [List.length_replicate, HM0.out, hL1.out]; exact (Nat.min_eq_left hNa.out.2.1).symm); (case hpos => exact fun _ => ⟨rfl, ad, rfl, fun j v hj => (HB.out.cell (World.block_lt_of_cell? _ _ (HP.out j v hj))).trans (HP.out j v hj)⟩); (case hfit => rw [List.length_replicate, HM0.out, List.length_append, List.length_map, List.length_replicate]; have := hNa.out.2.1; omega); (case h1 => exact fun v hv => by rw [List.eq_of_mem_replicate hv]; rfl); intro w2 HG2 hB2; have n0_ := Aside0.mk hB2; clear hB2 HB; have HB := n0_; clear n0_; have HG := Aside0.mk HG2.out; clear HG2; (try simp only [List.length_replicate])))
  have HG1 := Aside0.mk (show w2.heap[g]? = some (.cells ((slices_Repeat_int_int.row x m0 N).map (Value.int .i64) ++ tl).toArray 3 (0, 0)) from by
    have h0 : (List.replicate N (0 : Int)) = slices_Repeat_int_int.row x 0 N := by simp [slices_Repeat_int_int.row]
    have h1 := slices_Repeat_int_int.splice_row x 0 N m0 tl (by have := hNa.out; have := HM0.out; omega)
    rw [← h0, Nat.zero_add] at h1
    rw [HG.out, h1])
  clear HG
  go_loopg [8] N (fun kq v8 w' => ∃ m : Nat, v8 = .int .i64 (m : Int) ∧ Aside0 (1 ≤ m ∧ m ≤ N ∧ N - m ≤ kq) ∧ Aside0 (w'.heap[g]? = some (.cells ((slices_Repeat_int_int.row x m N).map (Value.int .i64) ++ tl).toArray 3 (0, 0))) ∧ Aside0 (Below w.heap.size w w'))
  case atStart => exact ⟨m0, by first | rfl | (simp; done), ⟨by have := hNa.out; have := HM0.out; omega⟩, HG1, HB⟩
  case round =>
    clear HG1 HB HC A4
    obtain ⟨m, rfl, HM, HG, HB⟩ := hrel
    by_cases c : m < N
    · have c1 : decide (m < N) = true := decide_eq_true c
      have c2 : decide ((m : Int) < (N : Int)) = true := decide_eq_true (by omega)
      have d1 : ¬ (cap = m) := by have := HF.out.2.1; omega
      have d2 : m ≤ N := by omega
      have d3 : (m : Int) ≤ (N : Int) := by omega
      have d4 : m ≤ cap := by have := HF.out.2.1; omega
      have d5 : N ≤ cap := by have := HF.out.2.1; omega
      obtain ⟨q, hq⟩ : ∃ q : Nat, q = Nat.min m (N - m) := ⟨_, rfl⟩
      have hq2 : Aside0 (1 ≤ q ∧ m + q ≤ N ∧ q ≤ m) := ⟨by have := HM.out; have e : q = min m (N - m) := hq; omega⟩
      have HQ := Aside0.mk hq
      have hw1 : wrap64 ((m : Int) + (q : Int)) = ((m + q : Nat) : Int) := by rw [← i64_w, IntKind.wrap_i64]; have := hq2.out; have := hNa.out; omega
      have hw2 : IntKind.i64.wrap ((m : Int) + (q : Int)) = ((m + q : Nat) : Int) := by rw [i64_w]; exact hw1
      clear hq c
      go_wp2
      go_region_law (refine step_copy_splice ?hgd (.tmp 41) (.tmp 44) 22 22 ?ho 3 Try.underlying22 hsz (some ⟨g, m, none⟩) (some ⟨g, 0, none⟩) (N - m) (cap - m) m cap ?hd ?hs g m ((slices_Repeat_int_int.row x m N).map (Value.int .i64) ++ tl) 3 ?hg (List.replicate q (Value.int .i64 x)) ?hn ?hpos ?hfit ?h1 w.heap.size w ?hb HF.out.1 ?_; (case hgd => rfl); (case ho => rfl); (case hd => simp [Act.eval, Act.put]); (case hs => simp [Act.eval, Act.put]); (case hg => exact HG.out); (case hn => rw [List.length_replicate]; exact HQ.out); (case hpos => exact fun _ => ⟨rfl, _, rfl, fun j v hj => by obtain ⟨hj1, rfl⟩ := slices_Repeat_int_int.rep_get hj; rw [Addr.add_lit, Nat.zero_add]; exact slices_Repeat_int_int.cell_row HG.out j (Nat.lt_of_lt_of_le hj1 hq2.out.2.2)⟩); (case hfit => rw [List.length_replicate, List.length_append, List.length_map, slices_Repeat_int_int.len_row _ _ _ HM.out.2.1]; have := hq2.out.2.1; omega); (case h1 => exact fun v hv => by rw [List.eq_of_mem_replicate hv]; rfl); (case hb => exact pB HB.out); intro w4 hg4 hb4)
      go_wp2
      go_roundg (N - (m + q))
      case measure => have := hq2.out; have := HM.out; omega
      case rel =>
        refine ⟨m + q, ?_, ⟨by have := hq2.out; omega⟩, ⟨?_⟩, ⟨hb4⟩⟩
        · first | rfl | (rw [Int.natCast_add]) | (simp; done)
        · have h1 := slices_Repeat_int_int.splice_row x m N q tl hq2.out.2.1
          rw [hg4.out, h1]
    · have c1 : decide (m < N) = false := decide_eq_false c
      have c2 : decide ((m : Int) < (N : Int)) = false := decide_eq_false (by omega)
      go_wp2
      go_ret
      refine ⟨_, rfl, ?_, pB HB.out⟩
      have e : m = N := by have := HM.out; omega
      subst e
      have e2 : (List.replicate a1.toNat x) = slices_Repeat_int_int.row x m m := by simp [slices_Repeat_int_int.row, hNa.out.1]
      have hl := slices_Repeat_int_int.len_row x m m (Nat.le_refl _)
      have h2 := slices_Repeat_int_int.shut_ (w := _) (base := w.heap.size) (g := g) (cap := cap) (xs := slices_Repeat_int_int.row x m m) (tl := tl) HF.out.1 (by rw [hl]; exact HF.out.2.1) HF.out.2.2.1 HG.out
      rw [hl] at h2
      rw [e2]
      exact h2


end Go.Proofs.Ytiimflniadggaaa.PLru
