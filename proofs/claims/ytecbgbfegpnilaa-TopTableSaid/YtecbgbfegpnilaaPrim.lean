/- slices.Clone, slices.Grow, slices.Insert, slices.Delete, bytealg.Compare: their contracts at this program's instances. -/
import Derived.Test.YtecbgbfegpnilaaPMlib
import Derived.Test.YtecbgbfegpnilaaProg
import Derived.Test.YtecbgbfegpnilaaTy
namespace Go.Proofs.Ytecbgbfegpnilaa.PM
open Go Go.Proofs Go.RowKit Go.Lib Go.Shelf
set_option linter.unusedVariables false
set_option linter.unusedSimpArgs false
set_option maxHeartbeats 4000000 in
set_option maxRecDepth 100000 in
theorem clone21 : PrimSpec Try.prog 21 (.clone (.int .i64)) := by
  intro A w v ys hs hA hlim
  refine .inr ⟨enter_of Try.func21 (by kernel_rfl) _ _, ?_⟩
  have hty : tyB Try.prog (.slice (.int .i64)) 26 = true := by kernel_rfl
  have hcr := fun ty e1 => clone_row (ty := ty) (e1 := e1) hty (by decide) hs hA hlim rfl
  obtain ⟨a, cap, rfl, hcap, hc⟩ := hs
  cases a with
  | none =>
    have h0 : ys.length = 0 := by
      rcases Nat.eq_zero_or_pos ys.length with h | h
      · exact h
      · obtain ⟨ad, e, _⟩ := hc h; cases e
    have hy : ys = [] := List.eq_nil_of_length_eq_zero h0
    clear hcr hc hlim hcap
    subst hy
    have hnl := fun W => Lib.run_eql_slice_nil (P := Try.prog) W 26 3 none 0 cap 0 0 Try.underlying26
    go_enter Try.func21, Try.ntmps21
    go_wp2
    go_ret
    exact ⟨_, rfl, ⟨none, 0, 0⟩, ⟨rfl, rfl, rfl⟩, ⟨rfl, rfl, rfl⟩, fun b h => (by cases h), Keep.refl _ _⟩
  | some a =>
    have hnl := fun W => Lib.run_eql_slice_nil (P := Try.prog) W 26 3 (some a) ys.length cap 0 0 Try.underlying26
    obtain ⟨v', w', hr, hN⟩ := hcr 26 3
    clear hcr hc hlim hcap
    go_enter Try.func21, Try.ntmps21
    go_wp2_with (at_builtin; refine wpList_append_at _ rfl _ _ _ _ rfl _ _ rfl rfl _ _ hr ?_)
    go_ret
    exact ⟨_, rfl, hN⟩
set_option maxHeartbeats 4000000 in
set_option maxRecDepth 100000 in
theorem clone50 : PrimSpec Try.prog 50 (.clone (.int .u32)) := by
  intro A w v ys hs hA hlim
  refine .inr ⟨enter_of Try.func50 (by kernel_rfl) _ _, ?_⟩
  have hty : tyB Try.prog (.slice (.int .u32)) 22 = true := by kernel_rfl
  have hcr := fun ty e1 => clone_row (ty := ty) (e1 := e1) hty (by decide) hs hA hlim rfl
  obtain ⟨a, cap, rfl, hcap, hc⟩ := hs
  cases a with
  | none =>
    have h0 : ys.length = 0 := by
      rcases Nat.eq_zero_or_pos ys.length with h | h
      · exact h
      · obtain ⟨ad, e, _⟩ := hc h; cases e
    have hy : ys = [] := List.eq_nil_of_length_eq_zero h0
    clear hcr hc hlim hcap
    subst hy
    have hnl := fun W => Lib.run_eql_slice_nil (P := Try.prog) W 22 42 none 0 cap 0 0 Try.underlying22
    go_enter Try.func50, Try.ntmps50
    go_wp2
    go_ret
    exact ⟨_, rfl, ⟨none, 0, 0⟩, ⟨rfl, rfl, rfl⟩, ⟨rfl, rfl, rfl⟩, fun b h => (by cases h), Keep.refl _ _⟩
  | some a =>
    have hnl := fun W => Lib.run_eql_slice_nil (P := Try.prog) W 22 42 (some a) ys.length cap 0 0 Try.underlying22
    obtain ⟨v', w', hr, hN⟩ := hcr 22 42
    clear hcr hc hlim hcap
    go_enter Try.func50, Try.ntmps50
    go_wp2_with (at_builtin; refine wpList_append_at _ rfl _ _ _ _ rfl _ _ rfl rfl _ _ hr ?_)
    go_ret
    exact ⟨_, rfl, hN⟩
set_option maxHeartbeats 4000000 in
set_option maxRecDepth 100000 in
theorem clone51 : PrimSpec Try.prog 51 (.clone t1) := by
  intro A w v ys hs hA hlim
  refine .inr ⟨enter_of Try.func51 (by kernel_rfl) _ _, ?_⟩
  have hty : tyB Try.prog (.slice t1) 25 = true := by kernel_rfl
  have hcr := fun ty e1 => clone_row (ty := ty) (e1 := e1) hty (by decide) hs hA hlim rfl
  obtain ⟨a, cap, rfl, hcap, hc⟩ := hs
  cases a with
  | none =>
    have h0 : ys.length = 0 := by
      rcases Nat.eq_zero_or_pos ys.length with h | h
      · exact h
      · obtain ⟨ad, e, _⟩ := hc h; cases e
    have hy : ys = [] := List.eq_nil_of_length_eq_zero h0
    clear hcr hc hlim hcap
    subst hy
    have hnl := fun W => Lib.run_eql_slice_nil (P := Try.prog) W 25 63 none 0 cap 0 0 Try.underlying25
    go_enter Try.func51, Try.ntmps51
    go_wp2
    go_ret
    exact ⟨_, rfl, ⟨none, 0, 0⟩, ⟨rfl, rfl, rfl⟩, ⟨rfl, rfl, rfl⟩, fun b h => (by cases h), Keep.refl _ _⟩
  | some a =>
    have hnl := fun W => Lib.run_eql_slice_nil (P := Try.prog) W 25 63 (some a) ys.length cap 0 0 Try.underlying25
    obtain ⟨v', w', hr, hN⟩ := hcr 25 63
    clear hcr hc hlim hcap
    go_enter Try.func51, Try.ntmps51
    go_wp2_with (at_builtin; refine wpList_append_at _ rfl _ _ _ _ rfl _ _ rfl rfl _ _ hr ?_)
    go_ret
    exact ⟨_, rfl, hN⟩
set_option maxHeartbeats 4000000 in
set_option maxRecDepth 100000 in
theorem clone52 : PrimSpec Try.prog 52 (.clone .bool) := by
  intro A w v ys hs hA hlim
  refine .inr ⟨enter_of Try.func52 (by kernel_rfl) _ _, ?_⟩
  have hty : tyB Try.prog (.slice .bool) 23 = true := by kernel_rfl
  have hcr := fun ty e1 => clone_row (ty := ty) (e1 := e1) hty (by decide) hs hA hlim rfl
  obtain ⟨a, cap, rfl, hcap, hc⟩ := hs
  cases a with
  | none =>
    have h0 : ys.length = 0 := by
      rcases Nat.eq_zero_or_pos ys.length with h | h
      · exact h
      · obtain ⟨ad, e, _⟩ := hc h; cases e
    have hy : ys = [] := List.eq_nil_of_length_eq_zero h0
    clear hcr hc hlim hcap
    subst hy
    have hnl := fun W => Lib.run_eql_slice_nil (P := Try.prog) W 23 4 none 0 cap 0 0 Try.underlying23
    go_enter Try.func52, Try.ntmps52
    go_wp2
    go_ret
    exact ⟨_, rfl, ⟨none, 0, 0⟩, ⟨rfl, rfl, rfl⟩, ⟨rfl, rfl, rfl⟩, fun b h => (by cases h), Keep.refl _ _⟩
  | some a =>
    have hnl := fun W => Lib.run_eql_slice_nil (P := Try.prog) W 23 4 (some a) ys.length cap 0 0 Try.underlying23
    obtain ⟨v', w', hr, hN⟩ := hcr 23 4
    clear hcr hc hlim hcap
    go_enter Try.func52, Try.ntmps52
    go_wp2_with (at_builtin; refine wpList_append_at _ rfl _ _ _ _ rfl _ _ rfl rfl _ _ hr ?_)
    go_ret
    exact ⟨_, rfl, hN⟩
set_option maxHeartbeats 4000000 in
set_option maxRecDepth 100000 in
theorem clone53 : PrimSpec Try.prog 53 (.clone t3) := by
  intro A w v ys hs hA hlim
  refine .inr ⟨enter_of Try.func53 (by kernel_rfl) _ _, ?_⟩
  have hty : tyB Try.prog (.slice t3) 29 = true := by kernel_rfl
  have hcr := fun ty e1 => clone_row (ty := ty) (e1 := e1) hty (by decide) hs hA hlim rfl
  obtain ⟨a, cap, rfl, hcap, hc⟩ := hs
  cases a with
  | none =>
    have h0 : ys.length = 0 := by
      rcases Nat.eq_zero_or_pos ys.length with h | h
      · exact h
      · obtain ⟨ad, e, _⟩ := hc h; cases e
    have hy : ys = [] := List.eq_nil_of_length_eq_zero h0
    clear hcr hc hlim hcap
    subst hy
    have hnl := fun W => Lib.run_eql_slice_nil (P := Try.prog) W 29 72 none 0 cap 0 0 Try.underlying29
    go_enter Try.func53, Try.ntmps53
    go_wp2
    go_ret
    exact ⟨_, rfl, ⟨none, 0, 0⟩, ⟨rfl, rfl, rfl⟩, ⟨rfl, rfl, rfl⟩, fun b h => (by cases h), Keep.refl _ _⟩
  | some a =>
    have hnl := fun W => Lib.run_eql_slice_nil (P := Try.prog) W 29 72 (some a) ys.length cap 0 0 Try.underlying29
    obtain ⟨v', w', hr, hN⟩ := hcr 29 72
    clear hcr hc hlim hcap
    go_enter Try.func53, Try.ntmps53
    go_wp2_with (at_builtin; refine wpList_append_at _ rfl _ _ _ _ rfl _ _ rfl rfl _ _ hr ?_)
    go_ret
    exact ⟨_, rfl, hN⟩
end Go.Proofs.Ytecbgbfegpnilaa.PM
