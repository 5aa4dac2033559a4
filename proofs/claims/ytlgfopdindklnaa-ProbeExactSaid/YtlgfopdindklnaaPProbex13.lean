-- printed by a program of this session (a turned copy of the kit's print); Lean checks it
import Derived.Test.YtlgfopdindklnaaPProbex0
namespace Go.Proofs.Ytlgfopdindklnaa.PProbe
open Go.RowKit Go.Proofs.YtlgfopdindklnaaW.PrintWords Go.Proofs.YtlgfopdindklnaaW.PrintLast Go.Proofs.YtlgfopdindklnaaW.PrintMore
attribute [local go_sem] max2_int min2_int max_two min_two max_three min_three max_four min_four   -- for this text's walks alone
set_option linter.unusedVariables false
set_option linter.unusedSimpArgs false

/-! ### spigotref14_behind: function 53 -/
def spigotref14_behind.l0 : Nat → Int → Int → Int → Option (Bool)
  | 0, _, _, _ => none
  | k + 1, x0, x2, x7 => if x7 = x0 then (some true) else (if x7 = x2 then (some false) else (spigotref14_behind.l0 k x0 x2 (Int.tmod (wrap64 (x7 + 1)) 16)))
def spigotref14_behind.f (k : Nat) (a0 : Int) (a1 : Int) (a2 : Int) : Option (Bool) := spigotref14_behind.l0 k a0 a2 (Int.tmod (wrap64 (a1 + 1)) 16)
theorem spigotref14_behind.mono_l : ∀ k, (∀ y0 y1 y2, LeO (spigotref14_behind.l0 k y0 y1 y2) (spigotref14_behind.l0 (k + 1) y0 y1 y2))
  | 0 => fun _ _ _ r h => by simp [spigotref14_behind.l0] at h
  | k + 1 => by
    have ih0 := spigotref14_behind.mono_l k
    · intro y0 y1 y2
      unfold spigotref14_behind.l0
      repeat' first
      | (with_reducible exact ih0 _ _ _)
      | (with_reducible exact LeO.refl _)
      | (with_reducible exact LeO.none _)
      | (with_reducible refine LeO.ite ?_ ?_)
      | (with_reducible refine LeO.bind ?_ (fun _ => ?_))
      | exact ih0 _ _ _
      | exact LeO.none _
      | refine LeO.ite ?_ ?_
      | refine LeO.bind ?_ (fun _ => ?_)
theorem spigotref14_behind.mono : ∀ a0 a1 a2 k, LeO (spigotref14_behind.f k a0 a1 a2) (spigotref14_behind.f (k + 1) a0 a1 a2) := by
  intro a0 a1 a2 k
  have ih0 := spigotref14_behind.mono_l k
  unfold spigotref14_behind.f
  repeat' first
      | (with_reducible exact ih0 _ _ _)
      | (with_reducible exact LeO.refl _)
      | (with_reducible exact LeO.none _)
      | (with_reducible refine LeO.ite ?_ ?_)
      | (with_reducible refine LeO.bind ?_ (fun _ => ?_))
      | exact ih0 _ _ _
      | exact LeO.none _
      | refine LeO.ite ?_ ?_
      | refine LeO.bind ?_ (fun _ => ?_)
set_option maxHeartbeats 8000000 in
set_option maxRecDepth 100000 in
theorem spigotref14_behind.calls (k : Nat) (a0 : Int) (a1 : Int) (a2 : Int) (r : Bool) (w : World) (h : spigotref14_behind.f k a0 a1 a2 = some r) :
    Calls Try.prog 53 #[.int .i64 a0, .int .i64 a1, .int .i64 a2] w fun e w' => e = .returned (.bool r) ∧ Drawn0 w w' := by
  have H : (spigotref14_behind.l0 k a0 a2 (Int.tmod (wrap64 (a1 + 1)) 16)) = some r := h
  clear h
  have H' := Aside0.mk H
  clear H
  go_enter Try.func53, Try.ntmps53
  go_wp2
  go_loopg [7] k (fun kq v7 w' => ∃ (x7_1 : Int), v7 = .int .i64 x7_1 ∧ Aside0 (spigotref14_behind.l0 kq a0 a2 x7_1 = some r) ∧ Aside0 (kq ≤ k) ∧ Drawn0 w w')
  case atStart => exact ⟨(Int.tmod (wrap64 (a1 + 1)) 16), (by first | rfl | (simp; done) | (simp [*]; done)), H', ⟨Nat.le_refl _⟩, by repeat (first | exact Drawn0.refl _ | apply Drawn0.step)⟩
  case round =>
    clear H'
    try clear p2
    obtain ⟨x7_1, rfl, HA, HK1, ⟨m1, rfl⟩⟩ := hrel
    cases gk with
    | zero => exact absurd HA.out (by simp [spigotref14_behind.l0])
    | succ k1 =>
      have H := HA.out
      clear HA
      simp only [spigotref14_behind.l0] at H
      by_cases c4 : x7_1 = a0
      · rw [if_pos c4] at H
        have c4b0 : (x7_1 == a0) = true := beq_iff_eq.mpr c4
        have c4b1 : (x7_1 != a0) = false := bne_eq_false_iff_eq.mpr c4
        clear c4
        obtain rfl := Option.some.inj H
        go_wp2
        go_ret
        exact ⟨by first | rfl | (simp; done) | (simp [*]; done), by repeat (first | exact Drawn0.refl _ | apply Drawn0.step)⟩
      · rw [if_neg c4] at H
        have c4b0 : (x7_1 == a0) = false := beq_eq_false_iff_ne.mpr c4
        have c4b1 : (x7_1 != a0) = true := bne_iff_ne.mpr c4
        by_cases c5 : x7_1 = a2
        · rw [if_pos c5] at H
          have c5b0 : (x7_1 == a2) = true := beq_iff_eq.mpr c5
          have c5b1 : (x7_1 != a2) = false := bne_eq_false_iff_eq.mpr c5
          clear c5
          obtain rfl := Option.some.inj H
          go_wp2
          go_ret
          exact ⟨by first | rfl | (simp; done) | (simp [*]; done), by repeat (first | exact Drawn0.refl _ | apply Drawn0.step)⟩
        · rw [if_neg c5] at H
          have c5b0 : (x7_1 == a2) = false := beq_eq_false_iff_ne.mpr c5
          have c5b1 : (x7_1 != a2) = true := bne_iff_ne.mpr c5
          have H' := Aside0.mk H
          clear H
          go_wp2
          go_roundg k1
          case measure => have := HK1.out; omega
          case rel => exact ⟨(Int.tmod (wrap64 (x7_1 + 1)) 16), (by first | rfl | (simp; done) | (simp [*]; done)), H', ⟨by have := HK1.out; omega⟩, by repeat (first | exact Drawn0.refl _ | apply Drawn0.step)⟩

end Go.Proofs.Ytlgfopdindklnaa.PProbe
