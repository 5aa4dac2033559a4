/- slices.Clone, slices.Grow, slices.Insert, slices.Delete, bytealg.Compare: their contracts at this program's instances. -/
import Derived.Test.YtkihjakbbcajbaaPMlib
import Derived.Test.YtkihjakbbcajbaaProg
import Derived.Test.YtkihjakbbcajbaaTy
namespace Go.Proofs.Ytkihjakbbcajbaa.PM
open Go Go.Proofs Go.RowKit Go.Lib Go.Shelf
set_option linter.unusedVariables false
set_option linter.unusedSimpArgs false
set_option maxHeartbeats 4000000 in
set_option maxRecDepth 100000 in
theorem clone41 : PrimSpec Try.prog 41 (.clone (.int .u32)) := by
  intro A w v ys hs hA hlim
  refine .inr ⟨enter_of Try.func41 (by kernel_rfl) _ _, ?_⟩
  have hty : tyB Try.prog (.slice (.int .u32)) 60 = true := by kernel_rfl
  have hcr := fun ty e1 => clone_row (ty := ty) (e1 := e1) hty (by decide) hs hA hlim rfl
  obtain ⟨a, cap, rfl, hcap, hc⟩ := hs
  cases a with
  | none =>
    have h0 : ys.length = 0 := by
      rcases Nat.eq_zero_or_pos ys.length with h | h
      · exact h
      · obtain ⟨ad, e, _⟩ := hc h; cases e
    have hy : ys = [] := List.eq_nil_of_length_eq_zero h0
    clear hcr hc hlim hcap
    subst hy
    have hnl := fun W => Lib.run_eql_slice_nil (P := Try.prog) W 60 25 none 0 cap 0 0 Try.underlying60
    go_enter Try.func41, Try.ntmps41
    go_wp2
    go_ret
    exact ⟨_, rfl, ⟨none, 0, 0⟩, ⟨rfl, rfl, rfl⟩, ⟨rfl, rfl, rfl⟩, fun b h => (by cases h), Keep.refl _ _⟩
  | some a =>
    have hnl := fun W => Lib.run_eql_slice_nil (P := Try.prog) W 60 25 (some a) ys.length cap 0 0 Try.underlying60
    obtain ⟨v', w', hr, hN⟩ := hcr 60 25
    clear hcr hc hlim hcap
    go_enter Try.func41, Try.ntmps41
    go_wp2_with (at_builtin; refine wpList_append_at _ rfl _ _ _ _ rfl _ _ rfl rfl _ _ hr ?_)
    go_ret
    exact ⟨_, rfl, hN⟩
set_option maxHeartbeats 4000000 in
set_option maxRecDepth 100000 in
theorem clone95 : PrimSpec Try.prog 95 (.clone .bool) := by
  intro A w v ys hs hA hlim
  refine .inr ⟨enter_of Try.func95 (by kernel_rfl) _ _, ?_⟩
  have hty : tyB Try.prog (.slice .bool) 73 = true := by kernel_rfl
  have hcr := fun ty e1 => clone_row (ty := ty) (e1 := e1) hty (by decide) hs hA hlim rfl
  obtain ⟨a, cap, rfl, hcap, hc⟩ := hs
  cases a with
  | none =>
    have h0 : ys.length = 0 := by
      rcases Nat.eq_zero_or_pos ys.length with h | h
      · exact h
      · obtain ⟨ad, e, _⟩ := hc h; cases e
    have hy : ys = [] := List.eq_nil_of_length_eq_zero h0
    clear hcr hc hlim hcap
    subst hy
    have hnl := fun W => Lib.run_eql_slice_nil (P := Try.prog) W 73 4 none 0 cap 0 0 Try.underlying73
    go_enter Try.func95, Try.ntmps95
    go_wp2
    go_ret
    exact ⟨_, rfl, ⟨none, 0, 0⟩, ⟨rfl, rfl, rfl⟩, ⟨rfl, rfl, rfl⟩, fun b h => (by cases h), Keep.refl _ _⟩
  | some a =>
    have hnl := fun W => Lib.run_eql_slice_nil (P := Try.prog) W 73 4 (some a) ys.length cap 0 0 Try.underlying73
    obtain ⟨v', w', hr, hN⟩ := hcr 73 4
    clear hcr hc hlim hcap
    go_enter Try.func95, Try.ntmps95
    go_wp2_with (at_builtin; refine wpList_append_at _ rfl _ _ _ _ rfl _ _ rfl rfl _ _ hr ?_)
    go_ret
    exact ⟨_, rfl, hN⟩
end Go.Proofs.Ytkihjakbbcajbaa.PM
