/- slices.Clone, slices.Grow, slices.Insert, slices.Delete, bytealg.Compare: their contracts at this program's instances. -/
import Derived.Test.YtkihjakbbcajbaaGreatPMlib
import Derived.Test.YtkihjakbbcajbaaGreatProg
import Derived.Test.YtkihjakbbcajbaaGreatTy
namespace Go.Proofs.YtkihjakbbcajbaaGreat.PM
open Go Go.Proofs Go.RowKit Go.Lib Go.Shelf
set_option linter.unusedVariables false
set_option linter.unusedSimpArgs false
set_option maxHeartbeats 4000000 in
set_option maxRecDepth 100000 in
theorem clone48 : PrimSpec Tryz.prog 48 (.clone (.int .u32)) := by
  intro A w v ys hs hA hlim
  refine .inr ⟨enter_of Tryz.func48 (by kernel_rfl) _ _, ?_⟩
  have hty : tyB Tryz.prog (.slice (.int .u32)) 54 = true := by kernel_rfl
  have hcr := fun ty e1 => clone_row (ty := ty) (e1 := e1) hty (by decide) hs hA hlim rfl
  obtain ⟨a, cap, rfl, hcap, hc⟩ := hs
  cases a with
  | none =>
    have h0 : ys.length = 0 := by
      rcases Nat.eq_zero_or_pos ys.length with h | h
      · exact h
      · obtain ⟨ad, e, _⟩ := hc h; cases e
    have hy : ys = [] := List.eq_nil_of_length_eq_zero h0
    clear hcr hc hlim hcap
    subst hy
    have hnl := fun W => Lib.run_eql_slice_nil (P := Tryz.prog) W 54 26 none 0 cap 0 0 Tryz.underlying54
    go_enter Tryz.func48, Tryz.ntmps48
    go_wp2
    go_ret
    exact ⟨_, rfl, ⟨none, 0, 0⟩, ⟨rfl, rfl, rfl⟩, ⟨rfl, rfl, rfl⟩, fun b h => (by cases h), Keep.refl _ _⟩
  | some a =>
    have hnl := fun W => Lib.run_eql_slice_nil (P := Tryz.prog) W 54 26 (some a) ys.length cap 0 0 Tryz.underlying54
    obtain ⟨v', w', hr, hN⟩ := hcr 54 26
    clear hcr hc hlim hcap
    go_enter Tryz.func48, Tryz.ntmps48
    go_wp2_with (at_builtin; refine wpList_append_at _ rfl _ _ _ _ rfl _ _ rfl rfl _ _ hr ?_)
    go_ret
    exact ⟨_, rfl, hN⟩
set_option maxHeartbeats 4000000 in
set_option maxRecDepth 100000 in
theorem clone139 : PrimSpec Tryz.prog 139 (.clone (.int .i64)) := by
  intro A w v ys hs hA hlim
  refine .inr ⟨enter_of Tryz.func139 (by kernel_rfl) _ _, ?_⟩
  have hty : tyB Tryz.prog (.slice (.int .i64)) 56 = true := by kernel_rfl
  have hcr := fun ty e1 => clone_row (ty := ty) (e1 := e1) hty (by decide) hs hA hlim rfl
  obtain ⟨a, cap, rfl, hcap, hc⟩ := hs
  cases a with
  | none =>
    have h0 : ys.length = 0 := by
      rcases Nat.eq_zero_or_pos ys.length with h | h
      · exact h
      · obtain ⟨ad, e, _⟩ := hc h; cases e
    have hy : ys = [] := List.eq_nil_of_length_eq_zero h0
    clear hcr hc hlim hcap
    subst hy
    have hnl := fun W => Lib.run_eql_slice_nil (P := Tryz.prog) W 56 3 none 0 cap 0 0 Tryz.underlying56
    go_enter Tryz.func139, Tryz.ntmps139
    go_wp2
    go_ret
    exact ⟨_, rfl, ⟨none, 0, 0⟩, ⟨rfl, rfl, rfl⟩, ⟨rfl, rfl, rfl⟩, fun b h => (by cases h), Keep.refl _ _⟩
  | some a =>
    have hnl := fun W => Lib.run_eql_slice_nil (P := Tryz.prog) W 56 3 (some a) ys.length cap 0 0 Tryz.underlying56
    obtain ⟨v', w', hr, hN⟩ := hcr 56 3
    clear hcr hc hlim hcap
    go_enter Tryz.func139, Tryz.ntmps139
    go_wp2_with (at_builtin; refine wpList_append_at _ rfl _ _ _ _ rfl _ _ rfl rfl _ _ hr ?_)
    go_ret
    exact ⟨_, rfl, hN⟩
set_option maxHeartbeats 4000000 in
set_option maxRecDepth 100000 in
theorem clone144 : PrimSpec Tryz.prog 144 (.clone t1) := by
  intro A w v ys hs hA hlim
  refine .inr ⟨enter_of Tryz.func144 (by kernel_rfl) _ _, ?_⟩
  have hty : tyB Tryz.prog (.slice t1) 55 = true := by kernel_rfl
  have hcr := fun ty e1 => clone_row (ty := ty) (e1 := e1) hty (by decide) hs hA hlim rfl
  obtain ⟨a, cap, rfl, hcap, hc⟩ := hs
  cases a with
  | none =>
    have h0 : ys.length = 0 := by
      rcases Nat.eq_zero_or_pos ys.length with h | h
      · exact h
      · obtain ⟨ad, e, _⟩ := hc h; cases e
    have hy : ys = [] := List.eq_nil_of_length_eq_zero h0
    clear hcr hc hlim hcap
    subst hy
    have hnl := fun W => Lib.run_eql_slice_nil (P := Tryz.prog) W 55 52 none 0 cap 0 0 Tryz.underlying55
    go_enter Tryz.func144, Tryz.ntmps144
    go_wp2
    go_ret
    exact ⟨_, rfl, ⟨none, 0, 0⟩, ⟨rfl, rfl, rfl⟩, ⟨rfl, rfl, rfl⟩, fun b h => (by cases h), Keep.refl _ _⟩
  | some a =>
    have hnl := fun W => Lib.run_eql_slice_nil (P := Tryz.prog) W 55 52 (some a) ys.length cap 0 0 Tryz.underlying55
    obtain ⟨v', w', hr, hN⟩ := hcr 55 52
    clear hcr hc hlim hcap
    go_enter Tryz.func144, Tryz.ntmps144
    go_wp2_with (at_builtin; refine wpList_append_at _ rfl _ _ _ _ rfl _ _ rfl rfl _ _ hr ?_)
    go_ret
    exact ⟨_, rfl, hN⟩
set_option maxHeartbeats 4000000 in
set_option maxRecDepth 100000 in
theorem clone145 : PrimSpec Tryz.prog 145 (.clone .bool) := by
  intro A w v ys hs hA hlim
  refine .inr ⟨enter_of Tryz.func145 (by kernel_rfl) _ _, ?_⟩
  have hty : tyB Tryz.prog (.slice .bool) 57 = true := by kernel_rfl
  have hcr := fun ty e1 => clone_row (ty := ty) (e1 := e1) hty (by decide) hs hA hlim rfl
  obtain ⟨a, cap, rfl, hcap, hc⟩ := hs
  cases a with
  | none =>
    have h0 : ys.length = 0 := by
      rcases Nat.eq_zero_or_pos ys.length with h | h
      · exact h
      · obtain ⟨ad, e, _⟩ := hc h; cases e
    have hy : ys = [] := List.eq_nil_of_length_eq_zero h0
    clear hcr hc hlim hcap
    subst hy
    have hnl := fun W => Lib.run_eql_slice_nil (P := Tryz.prog) W 57 4 none 0 cap 0 0 Tryz.underlying57
    go_enter Tryz.func145, Tryz.ntmps145
    go_wp2
    go_ret
    exact ⟨_, rfl, ⟨none, 0, 0⟩, ⟨rfl, rfl, rfl⟩, ⟨rfl, rfl, rfl⟩, fun b h => (by cases h), Keep.refl _ _⟩
  | some a =>
    have hnl := fun W => Lib.run_eql_slice_nil (P := Tryz.prog) W 57 4 (some a) ys.length cap 0 0 Tryz.underlying57
    obtain ⟨v', w', hr, hN⟩ := hcr 57 4
    clear hcr hc hlim hcap
    go_enter Tryz.func145, Tryz.ntmps145
    go_wp2_with (at_builtin; refine wpList_append_at _ rfl _ _ _ _ rfl _ _ rfl rfl _ _ hr ?_)
    go_ret
    exact ⟨_, rfl, hN⟩
set_option maxHeartbeats 4000000 in
set_option maxRecDepth 100000 in
theorem clone146 : PrimSpec Tryz.prog 146 (.clone t3) := by
  intro A w v ys hs hA hlim
  refine .inr ⟨enter_of Tryz.func146 (by kernel_rfl) _ _, ?_⟩
  have hty : tyB Tryz.prog (.slice t3) 60 = true := by kernel_rfl
  have hcr := fun ty e1 => clone_row (ty := ty) (e1 := e1) hty (by decide) hs hA hlim rfl
  obtain ⟨a, cap, rfl, hcap, hc⟩ := hs
  cases a with
  | none =>
    have h0 : ys.length = 0 := by
      rcases Nat.eq_zero_or_pos ys.length with h | h
      · exact h
      · obtain ⟨ad, e, _⟩ := hc h; cases e
    have hy : ys = [] := List.eq_nil_of_length_eq_zero h0
    clear hcr hc hlim hcap
    subst hy
    have hnl := fun W => Lib.run_eql_slice_nil (P := Tryz.prog) W 60 224 none 0 cap 0 0 Tryz.underlying60
    go_enter Tryz.func146, Tryz.ntmps146
    go_wp2
    go_ret
    exact ⟨_, rfl, ⟨none, 0, 0⟩, ⟨rfl, rfl, rfl⟩, ⟨rfl, rfl, rfl⟩, fun b h => (by cases h), Keep.refl _ _⟩
  | some a =>
    have hnl := fun W => Lib.run_eql_slice_nil (P := Tryz.prog) W 60 224 (some a) ys.length cap 0 0 Tryz.underlying60
    obtain ⟨v', w', hr, hN⟩ := hcr 60 224
    clear hcr hc hlim hcap
    go_enter Tryz.func146, Tryz.ntmps146
    go_wp2_with (at_builtin; refine wpList_append_at _ rfl _ _ _ _ rfl _ _ rfl rfl _ _ hr ?_)
    go_ret
    exact ⟨_, rfl, hN⟩
end Go.Proofs.YtkihjakbbcajbaaGreat.PM
