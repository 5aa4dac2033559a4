/- slices.Clone, slices.Grow, slices.Insert, slices.Delete, bytealg.Compare: their contracts at this program's instances. -/
import Derived.Test.YtjmgelpeonodgaaPMlib
import Derived.Test.YtjmgelpeonodgaaProg
import Derived.Test.YtjmgelpeonodgaaTy
namespace Go.Proofs.Ytjmgelpeonodgaa.PM
open Go Go.Proofs Go.RowKit Go.Lib Go.Shelf
set_option linter.unusedVariables false
set_option linter.unusedSimpArgs false
set_option maxHeartbeats 4000000 in
set_option maxRecDepth 100000 in
theorem del30 : PrimSpec Try.prog 30 (.del t7) := by
  intro A w s v xs i j O hij hj
  refine .inr ⟨enter_of Try.func30 (by kernel_rfl) _ _, ?_⟩
  have hty : tyB Try.prog (.slice t7) 24 = true := by kernel_rfl
  obtain ⟨hv, ⟨hlen, hrow⟩, _, _⟩ := id O
  have mixed : Try.prog.follows .mixedOrders = true := by kernel_rfl
  rcases Nat.lt_or_ge i j with hlt | hge
  · obtain ⟨b, hb⟩ : ∃ b, s.blk = some b := by
      cases h : s.blk with
      | some b => exact ⟨b, rfl⟩
      | none => rw [h] at hrow; have := hrow.1; omega
    have hcap : xs.length ≤ s.cap := by rw [hb] at hrow; have := hrow.1; omega
    have hv' : v = .slice (some ⟨b, 0, none⟩) xs.length s.cap := by
      unfold SlV at hv; rw [hb] at hv; rw [hv, hlen]
    obtain ⟨a2, ha2⟩ : ∃ a2 : Option Addr, (if s.cap = j then some (⟨b, 0, none⟩ : Addr) else some ⟨b, j * 42, none⟩) = a2 := ⟨_, rfl⟩
    obtain ⟨w2, z, w3, r1, r2, R⟩ := del_run (ty := 24) (ty2 := 0) hty (by decide) O hb hlt hj a2 (s.cap - j) (fun h => by rw [← ha2, if_neg (by omega)]; simp [Ty.size]) (by omega)
    rw [hb] at R
    simp only [Ty.size, Nat.mul_one] at r2
    generalize hn : xs.length = n at *
    generalize hc : s.cap = c at *
    rw [hb]
    subst hv'
    clear hv hrow hlen hn O
    have hne : ¬ ((i : Int) = (j : Int)) := by omega
    have h1 : i + (n - j) ≤ n := by omega
    have h2 : n ≤ c := hcap
    have h3 : ¬ (c = i + (n - j)) := by omega
    have h4 : i ≤ n := by omega
    have h5 : i ≤ c := by omega
    have h6 : j ≤ c := by omega
    have h7 : i + (n - j) ≤ c := by omega
    go_enter Try.func30, Try.ntmps30
    go_wp2
    go_region_law_o (refine step_append_at rfl _ _ 24 24 rfl _ _ (by simp [Act.eval, Act.put]; done) (by simp [Act.eval, Act.put, ha2]; done) r1 ?_)
    go_wp2_with (at_builtin; refine wpList_clear_at _ rfl _ _ rfl _ rfl r2 ?_)
    go_ret
    exact ⟨_, rfl, R⟩
  · have hij' : i = j := by omega
    subst hij'
    rw [List.take_append_drop]
    have R : NewRow A w s.blk t7 xs v w := by
      exact ⟨s, hv, ⟨hlen, hrow⟩, fun b h => .inl h, Keep.refl _ _⟩
    cases hb : s.blk with
    | none =>
      rw [hb] at hrow R
      have hv' : v = .slice none 0 0 := by
        unfold SlV at hv; rw [hb] at hv; exact hv.1
      have h0 : i = 0 := by have := hrow.1; omega
      subst h0 hv'
      clear hv hrow hlen O
      go_enter Try.func30, Try.ntmps30
      go_wp2
      all_goals (go_ret; first | exact ⟨_, rfl, R⟩ | (subst_vars; exact ⟨_, rfl, R⟩) | (rename_i hh; rw [← hh] at R; exact ⟨_, rfl, R⟩) | (rename_i hh; rw [hh] at R; exact ⟨_, rfl, R⟩))
    | some b =>
      rw [hb] at hrow R
      have hcap : xs.length ≤ s.cap := by have := hrow.1; omega
      have hv' : v = .slice (some ⟨b, 0, none⟩) xs.length s.cap := by
        unfold SlV at hv; rw [hb] at hv; rw [hv, hlen]
      generalize xs.length = n at *
      generalize s.cap = c at *
      subst hv'
      clear hv hrow hlen O
      go_enter Try.func30, Try.ntmps30
      go_wp2
      all_goals (go_ret; first | exact ⟨_, rfl, R⟩ | (subst_vars; exact ⟨_, rfl, R⟩) | (rename_i hh; rw [← hh] at R; exact ⟨_, rfl, R⟩) | (rename_i hh; rw [hh] at R; exact ⟨_, rfl, R⟩))
set_option maxHeartbeats 8000000 in
set_option maxRecDepth 100000 in
theorem ins34 : PrimSpec Try.prog 34 (.ins t7) := by
  intro A w s v vv xs ys i O hsh hap hi hlim
  refine .inr ⟨enter_of Try.func34 (by kernel_rfl) _ _, ?_⟩
  have hty : tyB Try.prog (.slice t7) 24 = true := by kernel_rfl
  have mixed : Try.prog.follows .mixedOrders = true := by kernel_rfl
  have hbs : (t7 : Ty).bytes ≥ 1 := by decide
  have hn47 : (xs.length + ys.length) * 1 ≤ (xs.length + ys.length) * (t7 : Ty).bytes := Nat.mul_le_mul_left _ hbs
  obtain ⟨hv, ⟨hlen, hrow⟩, _, _⟩ := id O
  have hv1 : v = .slice (s.blk.map fun b => ⟨b, 0, none⟩) xs.length s.cap := by
    unfold SlV at hv
    cases hs0 : s.blk with
    | none => rw [hs0] at hv; rw [hv.1, ← hlen, hv.2.1, hv.2.2]; rfl
    | some b => rw [hs0] at hv; rw [hv, hlen]; rfl
  obtain ⟨av, cv, rfl, hcv, hcc⟩ := id hsh
  by_cases hm : ys.length = 0
  · have hy : ys = [] := List.eq_nil_of_length_eq_zero hm
    have R : NewRow A w s.blk t7 (xs.take i ++ ys ++ xs.drop i) v w := by
      rw [hy, List.append_nil, List.take_append_drop]
      exact ⟨s, hv, ⟨hlen, hrow⟩, fun b h => .inl h, Keep.refl _ _⟩
    rw [hm]
    generalize xs.take i ++ ys ++ xs.drop i = zs at R ⊢
    clear hcc hcv hap hsh
    have hcap : xs.length ≤ s.cap := by
      cases h : s.blk with
      | none => rw [h] at hrow; omega
      | some b => rw [h] at hrow; have := hrow.1; omega
    subst hv1
    clear hv hrow O
    generalize s.blk.map (fun b => (⟨b, 0, none⟩ : Addr)) = a1 at *
    generalize hn : xs.length = n at *
    generalize s.cap = c at *
    clear hlen
    cases a1 with
    | none =>
      go_enter Try.func34, Try.ntmps34
      go_wp2
      all_goals (go_ret; first | exact ⟨_, rfl, R⟩ | (rw [(by assumption : c = i)] at R; exact ⟨_, rfl, R⟩))
    | some a1 =>
      go_enter Try.func34, Try.ntmps34
      go_wp2
      all_goals (go_ret; first | exact ⟨_, rfl, R⟩ | (rw [(by assumption : c = i)] at R; exact ⟨_, rfl, R⟩))
  · have hm0 : ¬ ((ys.length : Int) = 0) := by omega
    by_cases hin : i = xs.length
    · subst hin
      obtain ⟨v', w', hr, R⟩ := ins_end (P := Try.prog) (t := 24) (ty := 24) hty (by decide) O hsh hlim
      rw [List.take_length, List.drop_length, List.append_nil]
      clear hcc hap hsh
      have hcap : xs.length ≤ s.cap := by
        cases h : s.blk with
        | none => rw [h] at hrow; omega
        | some b => rw [h] at hrow; have := hrow.1; omega
      subst hv1
      clear hv hrow O
      generalize s.blk.map (fun b => (⟨b, 0, none⟩ : Addr)) = a1 at *
      generalize xs ++ ys = zs at *
      generalize hn : xs.length = n at *
      generalize s.cap = c at *
      clear hlen hn
      cases a1 with
      | none =>
        go_enter Try.func34, Try.ntmps34
        go_wp2_with (at_builtin; refine wpList_append_at _ rfl _ _ _ _ rfl _ _ rfl rfl _ _ hr ?_)
        all_goals (go_ret; first | exact ⟨_, rfl, R⟩ | (rw [(by assumption : c = i)] at R; exact ⟨_, rfl, R⟩))
      | some a1 =>
        go_enter Try.func34, Try.ntmps34
        go_wp2_with (at_builtin; refine wpList_append_at _ rfl _ _ _ _ rfl _ _ rfl rfl _ _ hr ?_)
        all_goals (go_ret; first | exact ⟨_, rfl, R⟩ | (rw [(by assumption : c = i)] at R; exact ⟨_, rfl, R⟩))
    · have hlt : i < xs.length := by omega
      obtain ⟨b, hb⟩ : ∃ b, s.blk = some b := by
        cases h : s.blk with
        | some b => exact ⟨b, rfl⟩
        | none => rw [h] at hrow; have := hrow.1; omega
      have hcap : xs.length ≤ s.cap := by rw [hb] at hrow; have := hrow.1; omega
      have hz2 : ¬ ((i : Int) = (xs.length : Int)) := by omega
      have hw1 : IntKind.i64.wrap ((xs.length : Int) + (ys.length : Int)) = (xs.length : Int) + (ys.length : Int) := by rw [IntKind.wrap_i64]; omega
      have hw2 : IntKind.i64.wrap ((i : Int) + (ys.length : Int)) = (i : Int) + (ys.length : Int) := by rw [IntKind.wrap_i64]; omega
      have hw3 : IntKind.i64.wrap ((xs.length : Int) + (ys.length : Int) - (i : Int)) = ((xs.length + ys.length - i : Nat) : Int) := by rw [IntKind.wrap_i64]; omega
      have htn : ((i : Int) + (ys.length : Int)).toNat = i + ys.length := by omega
      have htm : ((xs.length : Int) + (ys.length : Int)).toNat = xs.length + ys.length := by omega
      have hb1 : (0 : Int) ≤ (i : Int) + (ys.length : Int) := by omega
      have hb2 : (i : Int) ≤ (xs.length : Int) + (ys.length : Int) := by omega
      have hb3 : (i : Int) + (ys.length : Int) ≤ (xs.length : Int) + (ys.length : Int) := by omega
      have hb4 : ¬ (s.cap = i) := by omega
      have hb5 : i ≤ s.cap := by omega
      have hb6 : (0 : Int) ≤ (xs.length : Int) + (ys.length : Int) := by omega
      obtain ⟨va, rfl⟩ : ∃ va, av = some va := by
        obtain ⟨ad, e, _⟩ := hcc (by omega)
        exact ⟨ad, e⟩
      have hvb : va.block ≠ b := hap b va _ _ hb rfl (by omega)
      obtain ⟨xa, ea, fa, hva, hxa⟩ : ∃ xa ea fa, w.heap[va.block]? = some (.cells xa ea fa) ∧ xa.size ≠ 0 := by
        obtain ⟨ad, e, hsp, c, h1, h2⟩ := hcc (by omega)
        injection e with e; subst e
        have hcl : 0 < c.length := by
          rw [Cat.len (TRel.len t7) h2]; exact Nat.mul_pos (by omega) (by decide)
        have k5 := h1 0 c[0] (by rw [List.getElem?_eq_getElem hcl])
        have k6 : w.cell? va = some c[0] := by simpa [Addr.add] using k5
        unfold World.cell? at k6
        split at k6
        · rename_i xa ea fa ho
          refine ⟨xa, ea, fa, ho, fun h0 => ?_⟩
          split at k6
          · cases k6
          · rw [Array.getElem?_eq_none (by omega)] at k6; cases k6
        · cases k6
      obtain ⟨xb, eb, hbb, hbs2⟩ : ∃ xb eb, w.heap[b]? = some (.cells xb eb (0, 0)) ∧ xb.size ≠ 0 := by
        rw [hb] at hrow
        obtain ⟨h1, c, e, h2, h3, _⟩ := hrow
        refine ⟨c, e, h2, fun h0 => ?_⟩
        have : 1 * 1 ≤ s.cap * (t7 : Ty).size := Nat.mul_le_mul (by omega) (by decide)
        omega
      have hv2 : v = .slice (some ⟨b, 0, none⟩) xs.length s.cap := by rw [hv1, hb]; rfl
      rcases Nat.lt_or_ge s.cap (xs.length + ys.length) with hg | hg
      · obtain ⟨B, G, w1, w2, w3, hG, r1, r2, r3, R⟩ := ins_grow (P := Try.prog) hty Try.underlying3 (by decide) O hsh hb hlt hg hlim 24
        have hgi : (s.cap : Int) < (xs.length : Int) + (ys.length : Int) := by omega
        rw [hb]
        simp only [Ty.size, Nat.mul_one] at r2 r3
        subst hv2
        clear hv hrow O hcc hap hsh hv1 hbb hva hbs2 hxa
        generalize xs.take i ++ ys ++ xs.drop i = zs at *
        generalize hn : xs.length = n at *
        generalize hmm : ys.length = m at *
        generalize s.cap = c at *
        have hG1 : ¬ (G = i) := by omega
        have hG2 : ¬ (G = i + m) := by omega
        have hG3 : i ≤ n + m := by omega
        have hG4 : i + m ≤ n + m := by omega
        have hG5 : n + m ≤ G := hG
        clear hlen hn hmm hlim hn47
        go_enter Try.func34, Try.ntmps34
        go_wp2_with (first
          | (at_builtin; refine wpList_append_at _ rfl _ _ _ _ rfl _ _ rfl rfl _ _ r1 ?_)
          | (at_builtin; refine wpList_copy_at _ rfl _ _ _ _ rfl _ _ rfl rfl (r2 _) ?_))
        go_region_law_o (refine step_copy_at rfl _ _ 24 24 rfl _ _ (by simp [Act.eval, Act.put]; done) (by simp [Act.eval, Act.put]; done) (r3 _) ?_)
        go_wp2
        go_ret
        exact ⟨_, rfl, R⟩
      · obtain ⟨w2, w3, r1, r2, R⟩ := ins_room (P := Try.prog) hty O hsh hb hap hlt hg
        have hgi : ¬ ((s.cap : Int) < (xs.length : Int) + (ys.length : Int)) := by omega
        have hgi2 : (xs.length : Int) + (ys.length : Int) ≤ (s.cap : Int) := by omega
        have hov : ∀ lb cb, (callFunc 54 #[.slice (some va) ys.length cv, .slice (some ⟨b, (i + ys.length) * 42, none⟩) lb cb]).run Try.prog w = .ok (.value (.bool false)) w := fun lb cb => by
          rw [run_callFunc_extern Try.func54 (by kernel_rfl) (by kernel_rfl) (by kernel_rfl) (e := Extern.SlicesOverlaps.overlaps #[24, 24] #[4]) (by kernel_rfl),
            overlaps_own w 24 4 50 Try.underlying24 42 (fun W => run_sizeT W (τ := t7) (by kernel_rfl)) ys.length cv lb cb hvb hva hbb hbs2 hxa]
          rfl
        rw [hb]
        simp only [Ty.size, Nat.mul_one] at r1 r2
        subst hv2
        clear hv hrow O hcc hap hsh hv1 hbb hva hbs2 hxa
        generalize xs.take i ++ ys ++ xs.drop i = zs at *
        generalize hn : xs.length = n at *
        generalize hmm : ys.length = m at *
        generalize s.cap = c at *
        have hc2 : ¬ (c = i + m) := by omega
        have hc3 : i ≤ n + m := by omega
        have hc4 : i + m ≤ n + m := by omega
        clear hlen hn hmm hlim hn47
        go_enter Try.func34, Try.ntmps34
        go_wp2_with (simp only [hov])
        go_region_law_o (refine step_copy_at rfl _ _ 24 24 rfl _ _ (by simp [Act.eval, Act.put]; done) (by simp [Act.eval, Act.put]; done) (r1 _ _ _) ?_)
        go_wp2_with (at_builtin; refine wpList_copy_at _ rfl _ _ _ _ rfl _ _ rfl rfl (r2 _ _) ?_)
        go_ret
        exact ⟨_, rfl, R⟩
set_option maxHeartbeats 4000000 in
set_option maxRecDepth 100000 in
theorem clone57 : PrimSpec Try.prog 57 (.clone (.int .u32)) := by
  intro A w v ys hs hA hlim
  refine .inr ⟨enter_of Try.func57 (by kernel_rfl) _ _, ?_⟩
  have hty : tyB Try.prog (.slice (.int .u32)) 22 = true := by kernel_rfl
  have hcr := fun ty e1 => clone_row (ty := ty) (e1 := e1) hty (by decide) hs hA hlim rfl
  obtain ⟨a, cap, rfl, hcap, hc⟩ := hs
  cases a with
  | none =>
    have h0 : ys.length = 0 := by
      rcases Nat.eq_zero_or_pos ys.length with h | h
      · exact h
      · obtain ⟨ad, e, _⟩ := hc h; cases e
    have hy : ys = [] := List.eq_nil_of_length_eq_zero h0
    clear hcr hc hlim hcap
    subst hy
    have hnl := fun W => Lib.run_eql_slice_nil (P := Try.prog) W 22 26 none 0 cap 0 0 Try.underlying22
    go_enter Try.func57, Try.ntmps57
    go_wp2
    go_ret
    exact ⟨_, rfl, ⟨none, 0, 0⟩, ⟨rfl, rfl, rfl⟩, ⟨rfl, rfl, rfl⟩, fun b h => (by cases h), Keep.refl _ _⟩
  | some a =>
    have hnl := fun W => Lib.run_eql_slice_nil (P := Try.prog) W 22 26 (some a) ys.length cap 0 0 Try.underlying22
    obtain ⟨v', w', hr, hN⟩ := hcr 22 26
    clear hcr hc hlim hcap
    go_enter Try.func57, Try.ntmps57
    go_wp2_with (at_builtin; refine wpList_append_at _ rfl _ _ _ _ rfl _ _ rfl rfl _ _ hr ?_)
    go_ret
    exact ⟨_, rfl, hN⟩
set_option maxHeartbeats 4000000 in
set_option maxRecDepth 100000 in
theorem clone83 : PrimSpec Try.prog 83 (.clone t1) := by
  intro A w v ys hs hA hlim
  refine .inr ⟨enter_of Try.func83 (by kernel_rfl) _ _, ?_⟩
  have hty : tyB Try.prog (.slice t1) 37 = true := by kernel_rfl
  have hcr := fun ty e1 => clone_row (ty := ty) (e1 := e1) hty (by decide) hs hA hlim rfl
  obtain ⟨a, cap, rfl, hcap, hc⟩ := hs
  cases a with
  | none =>
    have h0 : ys.length = 0 := by
      rcases Nat.eq_zero_or_pos ys.length with h | h
      · exact h
      · obtain ⟨ad, e, _⟩ := hc h; cases e
    have hy : ys = [] := List.eq_nil_of_length_eq_zero h0
    clear hcr hc hlim hcap
    subst hy
    have hnl := fun W => Lib.run_eql_slice_nil (P := Try.prog) W 37 36 none 0 cap 0 0 Try.underlying37
    go_enter Try.func83, Try.ntmps83
    go_wp2
    go_ret
    exact ⟨_, rfl, ⟨none, 0, 0⟩, ⟨rfl, rfl, rfl⟩, ⟨rfl, rfl, rfl⟩, fun b h => (by cases h), Keep.refl _ _⟩
  | some a =>
    have hnl := fun W => Lib.run_eql_slice_nil (P := Try.prog) W 37 36 (some a) ys.length cap 0 0 Try.underlying37
    obtain ⟨v', w', hr, hN⟩ := hcr 37 36
    clear hcr hc hlim hcap
    go_enter Try.func83, Try.ntmps83
    go_wp2_with (at_builtin; refine wpList_append_at _ rfl _ _ _ _ rfl _ _ rfl rfl _ _ hr ?_)
    go_ret
    exact ⟨_, rfl, hN⟩
set_option maxHeartbeats 4000000 in
set_option maxRecDepth 100000 in
theorem clone84 : PrimSpec Try.prog 84 (.clone t3) := by
  intro A w v ys hs hA hlim
  refine .inr ⟨enter_of Try.func84 (by kernel_rfl) _ _, ?_⟩
  have hty : tyB Try.prog (.slice t3) 42 = true := by kernel_rfl
  have hcr := fun ty e1 => clone_row (ty := ty) (e1 := e1) hty (by decide) hs hA hlim rfl
  obtain ⟨a, cap, rfl, hcap, hc⟩ := hs
  cases a with
  | none =>
    have h0 : ys.length = 0 := by
      rcases Nat.eq_zero_or_pos ys.length with h | h
      · exact h
      · obtain ⟨ad, e, _⟩ := hc h; cases e
    have hy : ys = [] := List.eq_nil_of_length_eq_zero h0
    clear hcr hc hlim hcap
    subst hy
    have hnl := fun W => Lib.run_eql_slice_nil (P := Try.prog) W 42 128 none 0 cap 0 0 Try.underlying42
    go_enter Try.func84, Try.ntmps84
    go_wp2
    go_ret
    exact ⟨_, rfl, ⟨none, 0, 0⟩, ⟨rfl, rfl, rfl⟩, ⟨rfl, rfl, rfl⟩, fun b h => (by cases h), Keep.refl _ _⟩
  | some a =>
    have hnl := fun W => Lib.run_eql_slice_nil (P := Try.prog) W 42 128 (some a) ys.length cap 0 0 Try.underlying42
    obtain ⟨v', w', hr, hN⟩ := hcr 42 128
    clear hcr hc hlim hcap
    go_enter Try.func84, Try.ntmps84
    go_wp2_with (at_builtin; refine wpList_append_at _ rfl _ _ _ _ rfl _ _ rfl rfl _ _ hr ?_)
    go_ret
    exact ⟨_, rfl, hN⟩
set_option maxHeartbeats 4000000 in
set_option maxRecDepth 100000 in
theorem clone85 : PrimSpec Try.prog 85 (.clone (.int .i64)) := by
  intro A w v ys hs hA hlim
  refine .inr ⟨enter_of Try.func85 (by kernel_rfl) _ _, ?_⟩
  have hty : tyB Try.prog (.slice (.int .i64)) 38 = true := by kernel_rfl
  have hcr := fun ty e1 => clone_row (ty := ty) (e1 := e1) hty (by decide) hs hA hlim rfl
  obtain ⟨a, cap, rfl, hcap, hc⟩ := hs
  cases a with
  | none =>
    have h0 : ys.length = 0 := by
      rcases Nat.eq_zero_or_pos ys.length with h | h
      · exact h
      · obtain ⟨ad, e, _⟩ := hc h; cases e
    have hy : ys = [] := List.eq_nil_of_length_eq_zero h0
    clear hcr hc hlim hcap
    subst hy
    have hnl := fun W => Lib.run_eql_slice_nil (P := Try.prog) W 38 3 none 0 cap 0 0 Try.underlying38
    go_enter Try.func85, Try.ntmps85
    go_wp2
    go_ret
    exact ⟨_, rfl, ⟨none, 0, 0⟩, ⟨rfl, rfl, rfl⟩, ⟨rfl, rfl, rfl⟩, fun b h => (by cases h), Keep.refl _ _⟩
  | some a =>
    have hnl := fun W => Lib.run_eql_slice_nil (P := Try.prog) W 38 3 (some a) ys.length cap 0 0 Try.underlying38
    obtain ⟨v', w', hr, hN⟩ := hcr 38 3
    clear hcr hc hlim hcap
    go_enter Try.func85, Try.ntmps85
    go_wp2_with (at_builtin; refine wpList_append_at _ rfl _ _ _ _ rfl _ _ rfl rfl _ _ hr ?_)
    go_ret
    exact ⟨_, rfl, hN⟩
set_option maxHeartbeats 4000000 in
set_option maxRecDepth 100000 in
theorem clone86 : PrimSpec Try.prog 86 (.clone .bool) := by
  intro A w v ys hs hA hlim
  refine .inr ⟨enter_of Try.func86 (by kernel_rfl) _ _, ?_⟩
  have hty : tyB Try.prog (.slice .bool) 39 = true := by kernel_rfl
  have hcr := fun ty e1 => clone_row (ty := ty) (e1 := e1) hty (by decide) hs hA hlim rfl
  obtain ⟨a, cap, rfl, hcap, hc⟩ := hs
  cases a with
  | none =>
    have h0 : ys.length = 0 := by
      rcases Nat.eq_zero_or_pos ys.length with h | h
      · exact h
      · obtain ⟨ad, e, _⟩ := hc h; cases e
    have hy : ys = [] := List.eq_nil_of_length_eq_zero h0
    clear hcr hc hlim hcap
    subst hy
    have hnl := fun W => Lib.run_eql_slice_nil (P := Try.prog) W 39 4 none 0 cap 0 0 Try.underlying39
    go_enter Try.func86, Try.ntmps86
    go_wp2
    go_ret
    exact ⟨_, rfl, ⟨none, 0, 0⟩, ⟨rfl, rfl, rfl⟩, ⟨rfl, rfl, rfl⟩, fun b h => (by cases h), Keep.refl _ _⟩
  | some a =>
    have hnl := fun W => Lib.run_eql_slice_nil (P := Try.prog) W 39 4 (some a) ys.length cap 0 0 Try.underlying39
    obtain ⟨v', w', hr, hN⟩ := hcr 39 4
    clear hcr hc hlim hcap
    go_enter Try.func86, Try.ntmps86
    go_wp2_with (at_builtin; refine wpList_append_at _ rfl _ _ _ _ rfl _ _ rfl rfl _ _ hr ?_)
    go_ret
    exact ⟨_, rfl, hN⟩
end Go.Proofs.Ytjmgelpeonodgaa.PM
