/- slices.Clone, slices.Grow, slices.Insert, slices.Delete, bytealg.Compare: their contracts at this program's instances. -/
import Derived.Test.YteiekaboepdaeaaDoorPMlib
import Derived.Test.YteiekaboepdaeaaDoorProg
namespace Go.Proofs.YteiekaboepdaeaaDoor.PM
open Go Go.Proofs Go.RowKit Go.Lib Go.Shelf
set_option linter.unusedVariables false
set_option linter.unusedSimpArgs false
set_option maxHeartbeats 4000000 in
set_option maxRecDepth 100000 in
theorem del40 : PrimSpec Tryd.prog 40 (.del (.int .u32)) := by
  intro A w s v xs i j O hij hj
  refine .inr ⟨enter_of Tryd.func40 (by kernel_rfl) _ _, ?_⟩
  have hty : tyB Tryd.prog (.slice (.int .u32)) 22 = true := by kernel_rfl
  obtain ⟨hv, ⟨hlen, hrow⟩, _, _⟩ := id O
  have mixed : Tryd.prog.follows .mixedOrders = true := by kernel_rfl
  rcases Nat.lt_or_ge i j with hlt | hge
  · obtain ⟨b, hb⟩ : ∃ b, s.blk = some b := by
      cases h : s.blk with
      | some b => exact ⟨b, rfl⟩
      | none => rw [h] at hrow; have := hrow.1; omega
    have hcap : xs.length ≤ s.cap := by rw [hb] at hrow; have := hrow.1; omega
    have hv' : v = .slice (some ⟨b, 0, none⟩) xs.length s.cap := by
      unfold SlV at hv; rw [hb] at hv; rw [hv, hlen]
    obtain ⟨a2, ha2⟩ : ∃ a2 : Option Addr, (if s.cap = j then some (⟨b, 0, none⟩ : Addr) else some ⟨b, j, none⟩) = a2 := ⟨_, rfl⟩
    obtain ⟨w2, z, w3, r1, r2, R⟩ := del_run (ty := 22) (ty2 := 0) hty (by decide) O hb hlt hj a2 (s.cap - j) (fun h => by rw [← ha2, if_neg (by omega)]; simp [Ty.size]) (by omega)
    rw [hb] at R
    simp only [Ty.size, Nat.mul_one] at r2
    generalize hn : xs.length = n at *
    generalize hc : s.cap = c at *
    rw [hb]
    subst hv'
    clear hv hrow hlen hn O
    have hne : ¬ ((i : Int) = (j : Int)) := by omega
    have h1 : i + (n - j) ≤ n := by omega
    have h2 : n ≤ c := hcap
    have h3 : ¬ (c = i + (n - j)) := by omega
    have h4 : i ≤ n := by omega
    have h5 : i ≤ c := by omega
    have h6 : j ≤ c := by omega
    have h7 : i + (n - j) ≤ c := by omega
    go_enter Tryd.func40, Tryd.ntmps40
    go_wp2
    go_region_law_o (refine step_append_at rfl _ _ 22 22 rfl _ _ (by simp [Act.eval, Act.put]; done) (by simp [Act.eval, Act.put, ha2]; done) r1 ?_)
    go_wp2_with (at_builtin; refine wpList_clear_at _ rfl _ _ rfl _ rfl r2 ?_)
    go_ret
    exact ⟨_, rfl, R⟩
  · have hij' : i = j := by omega
    subst hij'
    rw [List.take_append_drop]
    have R : NewRow A w s.blk (.int .u32) xs v w := by
      exact ⟨s, hv, ⟨hlen, hrow⟩, fun b h => .inl h, Keep.refl _ _⟩
    cases hb : s.blk with
    | none =>
      rw [hb] at hrow R
      have hv' : v = .slice none 0 0 := by
        unfold SlV at hv; rw [hb] at hv; exact hv.1
      have h0 : i = 0 := by have := hrow.1; omega
      subst h0 hv'
      clear hv hrow hlen O
      go_enter Tryd.func40, Tryd.ntmps40
      go_wp2
      all_goals (go_ret; first | exact ⟨_, rfl, R⟩ | (subst_vars; exact ⟨_, rfl, R⟩) | (rename_i hh; rw [← hh] at R; exact ⟨_, rfl, R⟩) | (rename_i hh; rw [hh] at R; exact ⟨_, rfl, R⟩))
    | some b =>
      rw [hb] at hrow R
      have hcap : xs.length ≤ s.cap := by have := hrow.1; omega
      have hv' : v = .slice (some ⟨b, 0, none⟩) xs.length s.cap := by
        unfold SlV at hv; rw [hb] at hv; rw [hv, hlen]
      generalize xs.length = n at *
      generalize s.cap = c at *
      subst hv'
      clear hv hrow hlen O
      go_enter Tryd.func40, Tryd.ntmps40
      go_wp2
      all_goals (go_ret; first | exact ⟨_, rfl, R⟩ | (subst_vars; exact ⟨_, rfl, R⟩) | (rename_i hh; rw [← hh] at R; exact ⟨_, rfl, R⟩) | (rename_i hh; rw [hh] at R; exact ⟨_, rfl, R⟩))
set_option maxHeartbeats 4000000 in
set_option maxRecDepth 100000 in
theorem clone41 : PrimSpec Tryd.prog 41 (.clone (.int .u32)) := by
  intro A w v ys hs hA hlim
  refine .inr ⟨enter_of Tryd.func41 (by kernel_rfl) _ _, ?_⟩
  have hty : tyB Tryd.prog (.slice (.int .u32)) 22 = true := by kernel_rfl
  have hcr := fun ty e1 => clone_row (ty := ty) (e1 := e1) hty (by decide) hs hA hlim rfl
  obtain ⟨a, cap, rfl, hcap, hc⟩ := hs
  cases a with
  | none =>
    have h0 : ys.length = 0 := by
      rcases Nat.eq_zero_or_pos ys.length with h | h
      · exact h
      · obtain ⟨ad, e, _⟩ := hc h; cases e
    have hy : ys = [] := List.eq_nil_of_length_eq_zero h0
    clear hcr hc hlim hcap
    subst hy
    have hnl := fun W => Lib.run_eql_slice_nil (P := Tryd.prog) W 22 23 none 0 cap 0 0 Tryd.underlying22
    go_enter Tryd.func41, Tryd.ntmps41
    go_wp2
    go_ret
    exact ⟨_, rfl, ⟨none, 0, 0⟩, ⟨rfl, rfl, rfl⟩, ⟨rfl, rfl, rfl⟩, fun b h => (by cases h), Keep.refl _ _⟩
  | some a =>
    have hnl := fun W => Lib.run_eql_slice_nil (P := Tryd.prog) W 22 23 (some a) ys.length cap 0 0 Tryd.underlying22
    obtain ⟨v', w', hr, hN⟩ := hcr 22 23
    clear hcr hc hlim hcap
    go_enter Tryd.func41, Tryd.ntmps41
    go_wp2_with (at_builtin; refine wpList_append_at _ rfl _ _ _ _ rfl _ _ rfl rfl _ _ hr ?_)
    go_ret
    exact ⟨_, rfl, hN⟩
set_option maxHeartbeats 8000000 in
set_option maxRecDepth 100000 in
theorem ins44 : PrimSpec Tryd.prog 44 (.ins (.int .u32)) := by
  intro A w s v vv xs ys i O hsh hap hi hlim
  refine .inr ⟨enter_of Tryd.func44 (by kernel_rfl) _ _, ?_⟩
  have hty : tyB Tryd.prog (.slice (.int .u32)) 22 = true := by kernel_rfl
  have mixed : Tryd.prog.follows .mixedOrders = true := by kernel_rfl
  have hbs : ((.int .u32) : Ty).bytes ≥ 1 := by decide
  have hn47 : (xs.length + ys.length) * 1 ≤ (xs.length + ys.length) * ((.int .u32) : Ty).bytes := Nat.mul_le_mul_left _ hbs
  obtain ⟨hv, ⟨hlen, hrow⟩, _, _⟩ := id O
  have hv1 : v = .slice (s.blk.map fun b => ⟨b, 0, none⟩) xs.length s.cap := by
    unfold SlV at hv
    cases hs0 : s.blk with
    | none => rw [hs0] at hv; rw [hv.1, ← hlen, hv.2.1, hv.2.2]; rfl
    | some b => rw [hs0] at hv; rw [hv, hlen]; rfl
  obtain ⟨av, cv, rfl, hcv, hcc⟩ := id hsh
  by_cases hm : ys.length = 0
  · have hy : ys = [] := List.eq_nil_of_length_eq_zero hm
    have R : NewRow A w s.blk (.int .u32) (xs.take i ++ ys ++ xs.drop i) v w := by
      rw [hy, List.append_nil, List.take_append_drop]
      exact ⟨s, hv, ⟨hlen, hrow⟩, fun b h => .inl h, Keep.refl _ _⟩
    rw [hm]
    generalize xs.take i ++ ys ++ xs.drop i = zs at R ⊢
    clear hcc hcv hap hsh
    have hcap : xs.length ≤ s.cap := by
      cases h : s.blk with
      | none => rw [h] at hrow; omega
      | some b => rw [h] at hrow; have := hrow.1; omega
    subst hv1
    clear hv hrow O
    generalize s.blk.map (fun b => (⟨b, 0, none⟩ : Addr)) = a1 at *
    generalize hn : xs.length = n at *
    generalize s.cap = c at *
    clear hlen
    cases a1 with
    | none =>
      go_enter Tryd.func44, Tryd.ntmps44
      go_wp2
      all_goals (go_ret; first | exact ⟨_, rfl, R⟩ | (rw [(by assumption : c = i)] at R; exact ⟨_, rfl, R⟩))
    | some a1 =>
      go_enter Tryd.func44, Tryd.ntmps44
      go_wp2
      all_goals (go_ret; first | exact ⟨_, rfl, R⟩ | (rw [(by assumption : c = i)] at R; exact ⟨_, rfl, R⟩))
  · have hm0 : ¬ ((ys.length : Int) = 0) := by omega
    by_cases hin : i = xs.length
    · subst hin
      obtain ⟨v', w', hr, R⟩ := ins_end (P := Tryd.prog) (t := 22) (ty := 22) hty (by decide) O hsh hlim
      rw [List.take_length, List.drop_length, List.append_nil]
      clear hcc hap hsh
      have hcap : xs.length ≤ s.cap := by
        cases h : s.blk with
        | none => rw [h] at hrow; omega
        | some b => rw [h] at hrow; have := hrow.1; omega
      subst hv1
      clear hv hrow O
      generalize s.blk.map (fun b => (⟨b, 0, none⟩ : Addr)) = a1 at *
      generalize xs ++ ys = zs at *
      generalize hn : xs.length = n at *
      generalize s.cap = c at *
      clear hlen hn
      cases a1 with
      | none =>
        go_enter Tryd.func44, Tryd.ntmps44
        go_wp2_with (at_builtin; refine wpList_append_at _ rfl _ _ _ _ rfl _ _ rfl rfl _ _ hr ?_)
        all_goals (go_ret; first | exact ⟨_, rfl, R⟩ | (rw [(by assumption : c = i)] at R; exact ⟨_, rfl, R⟩))
      | some a1 =>
        go_enter Tryd.func44, Tryd.ntmps44
        go_wp2_with (at_builtin; refine wpList_append_at _ rfl _ _ _ _ rfl _ _ rfl rfl _ _ hr ?_)
        all_goals (go_ret; first | exact ⟨_, rfl, R⟩ | (rw [(by assumption : c = i)] at R; exact ⟨_, rfl, R⟩))
    · have hlt : i < xs.length := by omega
      obtain ⟨b, hb⟩ : ∃ b, s.blk = some b := by
        cases h : s.blk with
        | some b => exact ⟨b, rfl⟩
        | none => rw [h] at hrow; have := hrow.1; omega
      have hcap : xs.length ≤ s.cap := by rw [hb] at hrow; have := hrow.1; omega
      have hz2 : ¬ ((i : Int) = (xs.length : Int)) := by omega
      have hw1 : IntKind.i64.wrap ((xs.length : Int) + (ys.length : Int)) = (xs.length : Int) + (ys.length : Int) := by rw [IntKind.wrap_i64]; omega
      have hw2 : IntKind.i64.wrap ((i : Int) + (ys.length : Int)) = (i : Int) + (ys.length : Int) := by rw [IntKind.wrap_i64]; omega
      have hw3 : IntKind.i64.wrap ((xs.length : Int) + (ys.length : Int) - (i : Int)) = ((xs.length + ys.length - i : Nat) : Int) := by rw [IntKind.wrap_i64]; omega
      have htn : ((i : Int) + (ys.length : Int)).toNat = i + ys.length := by omega
      have htm : ((xs.length : Int) + (ys.length : Int)).toNat = xs.length + ys.length := by omega
      have hb1 : (0 : Int) ≤ (i : Int) + (ys.length : Int) := by omega
      have hb2 : (i : Int) ≤ (xs.length : Int) + (ys.length : Int) := by omega
      have hb3 : (i : Int) + (ys.length : Int) ≤ (xs.length : Int) + (ys.length : Int) := by omega
      have hb4 : ¬ (s.cap = i) := by omega
      have hb5 : i ≤ s.cap := by omega
      have hb6 : (0 : Int) ≤ (xs.length : Int) + (ys.length : Int) := by omega
      obtain ⟨va, rfl⟩ : ∃ va, av = some va := by
        obtain ⟨ad, e, _⟩ := hcc (by omega)
        exact ⟨ad, e⟩
      have hvb : va.block ≠ b := hap b va _ _ hb rfl (by omega)
      obtain ⟨xa, ea, fa, hva, hxa⟩ : ∃ xa ea fa, w.heap[va.block]? = some (.cells xa ea fa) ∧ xa.size ≠ 0 := by
        obtain ⟨ad, e, hsp, c, h1, h2⟩ := hcc (by omega)
        injection e with e; subst e
        have hcl : 0 < c.length := by
          rw [Cat.len (TRel.len (.int .u32)) h2]; exact Nat.mul_pos (by omega) (by decide)
        have k5 := h1 0 c[0] (by rw [List.getElem?_eq_getElem hcl])
        have k6 : w.cell? va = some c[0] := by simpa [Addr.add] using k5
        unfold World.cell? at k6
        split at k6
        · rename_i xa ea fa ho
          refine ⟨xa, ea, fa, ho, fun h0 => ?_⟩
          split at k6
          · cases k6
          · rw [Array.getElem?_eq_none (by omega)] at k6; cases k6
        · cases k6
      obtain ⟨xb, eb, hbb, hbs2⟩ : ∃ xb eb, w.heap[b]? = some (.cells xb eb (0, 0)) ∧ xb.size ≠ 0 := by
        rw [hb] at hrow
        obtain ⟨h1, c, e, h2, h3, _⟩ := hrow
        refine ⟨c, e, h2, fun h0 => ?_⟩
        have : 1 * 1 ≤ s.cap * ((.int .u32) : Ty).size := Nat.mul_le_mul (by omega) (by decide)
        omega
      have hv2 : v = .slice (some ⟨b, 0, none⟩) xs.length s.cap := by rw [hv1, hb]; rfl
      rcases Nat.lt_or_ge s.cap (xs.length + ys.length) with hg | hg
      · obtain ⟨B, G, w1, w2, w3, hG, r1, r2, r3, R⟩ := ins_grow (P := Tryd.prog) hty Tryd.underlying3 (by decide) O hsh hb hlt hg hlim 22
        have hgi : (s.cap : Int) < (xs.length : Int) + (ys.length : Int) := by omega
        rw [hb]
        simp only [Ty.size, Nat.mul_one] at r2 r3
        subst hv2
        clear hv hrow O hcc hap hsh hv1 hbb hva hbs2 hxa
        generalize xs.take i ++ ys ++ xs.drop i = zs at *
        generalize hn : xs.length = n at *
        generalize hmm : ys.length = m at *
        generalize s.cap = c at *
        have hG1 : ¬ (G = i) := by omega
        have hG2 : ¬ (G = i + m) := by omega
        have hG3 : i ≤ n + m := by omega
        have hG4 : i + m ≤ n + m := by omega
        have hG5 : n + m ≤ G := hG
        clear hlen hn hmm hlim hn47
        go_enter Tryd.func44, Tryd.ntmps44
        go_wp2_with (first
          | (at_builtin; refine wpList_append_at _ rfl _ _ _ _ rfl _ _ rfl rfl _ _ r1 ?_)
          | (at_builtin; refine wpList_copy_at _ rfl _ _ _ _ rfl _ _ rfl rfl (r2 _) ?_))
        go_region_law_o (refine step_copy_at rfl _ _ 22 22 rfl _ _ (by simp [Act.eval, Act.put]; done) (by simp [Act.eval, Act.put]; done) (r3 _) ?_)
        go_wp2
        go_ret
        exact ⟨_, rfl, R⟩
      · obtain ⟨w2, w3, r1, r2, R⟩ := ins_room (P := Tryd.prog) hty O hsh hb hap hlt hg
        have hgi : ¬ ((s.cap : Int) < (xs.length : Int) + (ys.length : Int)) := by omega
        have hgi2 : (xs.length : Int) + (ys.length : Int) ≤ (s.cap : Int) := by omega
        have hov : ∀ lb cb, (callFunc 57 #[.slice (some va) ys.length cv, .slice (some ⟨b, (i + ys.length), none⟩) lb cb]).run Tryd.prog w = .ok (.value (.bool false)) w := fun lb cb => by
          rw [run_callFunc_extern Tryd.func57 (by kernel_rfl) (by kernel_rfl) (by kernel_rfl) (e := Extern.SlicesOverlaps.overlaps #[22, 22] #[4]) (by kernel_rfl),
            overlaps_own w 22 4 23 Tryd.underlying22 1 (fun W => run_sizeT W (τ := (.int .u32)) (by kernel_rfl)) ys.length cv lb cb hvb hva hbb hbs2 hxa]
          rfl
        rw [hb]
        simp only [Ty.size, Nat.mul_one] at r1 r2
        subst hv2
        clear hv hrow O hcc hap hsh hv1 hbb hva hbs2 hxa
        generalize xs.take i ++ ys ++ xs.drop i = zs at *
        generalize hn : xs.length = n at *
        generalize hmm : ys.length = m at *
        generalize s.cap = c at *
        have hc2 : ¬ (c = i + m) := by omega
        have hc3 : i ≤ n + m := by omega
        have hc4 : i + m ≤ n + m := by omega
        clear hlen hn hmm hlim hn47
        go_enter Tryd.func44, Tryd.ntmps44
        go_wp2_with (simp only [hov])
        go_region_law_o (refine step_copy_at rfl _ _ 22 22 rfl _ _ (by simp [Act.eval, Act.put]; done) (by simp [Act.eval, Act.put]; done) (r1 _ _ _) ?_)
        go_wp2_with (at_builtin; refine wpList_copy_at _ rfl _ _ _ _ rfl _ _ rfl rfl (r2 _ _) ?_)
        go_ret
        exact ⟨_, rfl, R⟩
theorem cmp50 : PrimSpec Tryd.prog 50 .cmp := cmp_spec Tryd.func50 (by kernel_rfl) (by kernel_rfl) (by kernel_rfl) (by kernel_rfl)
set_option maxHeartbeats 4000000 in
set_option maxRecDepth 100000 in
theorem clone62 : PrimSpec Tryd.prog 62 (.clone (.int .u8)) := by
  intro A w v ys hs hA hlim
  refine .inr ⟨enter_of Tryd.func62 (by kernel_rfl) _ _, ?_⟩
  have hty : tyB Tryd.prog (.slice (.int .u8)) 58 = true := by kernel_rfl
  have hcr := fun ty e1 => clone_row (ty := ty) (e1 := e1) hty (by decide) hs hA hlim rfl
  obtain ⟨a, cap, rfl, hcap, hc⟩ := hs
  cases a with
  | none =>
    have h0 : ys.length = 0 := by
      rcases Nat.eq_zero_or_pos ys.length with h | h
      · exact h
      · obtain ⟨ad, e, _⟩ := hc h; cases e
    have hy : ys = [] := List.eq_nil_of_length_eq_zero h0
    clear hcr hc hlim hcap
    subst hy
    have hnl := fun W => Lib.run_eql_slice_nil (P := Tryd.prog) W 58 5 none 0 cap 0 0 Tryd.underlying58
    go_enter Tryd.func62, Tryd.ntmps62
    go_wp2
    go_ret
    exact ⟨_, rfl, ⟨none, 0, 0⟩, ⟨rfl, rfl, rfl⟩, ⟨rfl, rfl, rfl⟩, fun b h => (by cases h), Keep.refl _ _⟩
  | some a =>
    have hnl := fun W => Lib.run_eql_slice_nil (P := Tryd.prog) W 58 5 (some a) ys.length cap 0 0 Tryd.underlying58
    obtain ⟨v', w', hr, hN⟩ := hcr 58 5
    clear hcr hc hlim hcap
    go_enter Tryd.func62, Tryd.ntmps62
    go_wp2_with (at_builtin; refine wpList_append_at _ rfl _ _ _ _ rfl _ _ rfl rfl _ _ hr ?_)
    go_ret
    exact ⟨_, rfl, hN⟩
set_option maxHeartbeats 4000000 in
set_option maxRecDepth 100000 in
theorem grow68 : PrimSpec Tryd.prog 68 (.grow (.int .u8)) := by
  intro A w n hlim
  refine .inr ⟨enter_of Tryd.func68 (by kernel_rfl) _ _, ?_⟩
  have hty : tyB Tryd.prog (.slice (.int .u8)) 58 = true := by kernel_rfl
  have hsz : 1 ≤ ((.int .u8) : Ty).size := by decide
  have hbs := size_bytes (.int .u8)
  have h1 : n * 1 ≤ n * ((.int .u8) : Ty).bytes := Nat.mul_le_mul_left _ (by omega)
  have hw1 : IntKind.i64.wrap (n : Int) = n := by rw [IntKind.wrap_i64]; omega
  have hw2 : IntKind.i64.wrap ((n : Int) - IntKind.i64.wrap 0) = n := by rw [IntKind.wrap_i64, IntKind.wrap_i64]; omega
  have hneg : ¬ ((n : Int) < 0) := by omega
  have src := AppSrc.of_zero (A := A) (w := w) (P := Tryd.prog) hty Tryd.underlying3 0 hlim hsz
  have src := fun ty => (AppSrc.of_zero (A := A) (w := w) (P := Tryd.prog) hty Tryd.underlying3 ty hlim hsz).out
  by_cases h0 : n = 0
  · subst h0
    clear src
    go_enter Tryd.func68, Tryd.ntmps68
    go_wp2
    go_ret
    exact ⟨_, rfl, ⟨none, 0, 0⟩, ⟨rfl, rfl, rfl⟩, ⟨rfl, rfl, rfl⟩, fun b h => (by cases h), Keep.refl _ _⟩
  · have hpos : (n : Int) > 0 := by omega
    obtain ⟨c, c1, c2⟩ := src 58
    obtain ⟨e0, cap, z, hcap, hz, hrun⟩ := c2 none 0 0 [] (by simp [Builtin.firstCells]) (by simp; omega) (by simpa using hlim) hsz
    simp only [List.length_replicate, Nat.zero_add] at hcap hrun
    obtain ⟨w2, hw2e⟩ : ∃ w2, w2 = w.drew.alloc (.cells (([] : List Value).toArray ++ c.toArray ++ Builtin.zeroCells z (cap - n)) e0) := ⟨_, rfl⟩
    have G : Grew w w2 := hw2e ▸ (Grew.drew w).trans (Grew.alloc w.drew _)
    have hh : w2.heap[w.heap.size]? = some (.cells (([] : List Value).toArray ++ c.toArray ++ Builtin.zeroCells z (cap - n)) e0 (0, 0)) := by rw [hw2e]; exact alloc_new w.drew _
    have hl := Cat.len (TRel.len (.int .u8)) c1
    rw [List.length_replicate] at hl
    have hcsz : cap * ((.int .u8) : Ty).size ≤ (([] : List Value).toArray ++ c.toArray ++ Builtin.zeroCells z (cap - n)).size := by
      simp only [Array.size_append, List.size_toArray, size_zeroCells, hz, hl, List.length_nil, Nat.zero_add, ← Nat.add_mul]
      exact Nat.mul_le_mul_right _ (by omega)
    rw [← hw2e] at hrun
    clear hw2e c2 src
    go_enter Tryd.func68, Tryd.ntmps68
    go_wp2_with (at_builtin; refine wpList_append_at _ rfl _ _ _ _ rfl _ _ rfl rfl _ _ hrun ?_)
    go_ret
    exact ⟨_, rfl, ⟨some w.heap.size, cap, 0⟩, rfl, ⟨rfl, Nat.zero_le _, _, _, hh, hcsz, by simp [Cat]⟩, fun b h => by injection h with h; right; omega, G.keep⟩
end Go.Proofs.YteiekaboepdaeaaDoor.PM
