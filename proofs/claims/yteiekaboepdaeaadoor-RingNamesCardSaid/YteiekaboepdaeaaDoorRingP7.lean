/- The law RingNames in plain words. -/
import Derived.Test.YteiekaboepdaeaaDoorRingP6
namespace Go.Proofs.YteiekaboepdaeaaDoor.RP
set_option linter.unusedSimpArgs false
set_option linter.unusedVariables false
open Go Go.Proofs Go.Proofs.YteiekaboepdaeaaDoor.PM
def ten (k : Nat) : List Int := (List.range k).map fun i : Nat => 10 * (i : Int)
theorem ten_len (k : Nat) : (ten k).length = k := by unfold ten; simp
theorem ten_succ (k : Nat) : ten (k + 1) = ten k ++ [10 * (k : Int)] := by unfold ten; rw [List.range_succ, List.map_append]; rfl
def l12 : List Int := [0, 10, 20, 30, 40, 50, 60, 70, 80, 90, 100, 110]
theorem ten12 : ten 12 = l12 := rfl
theorem Names_loop {a b c : Int} {d e r : List Int} : ∀ m k : Nat, k + m = 12 → spigotlaw41_RingNames.L1 a b c (k : Int) d e r (ten k) = spigotlaw41_RingNames.L1 a b c 12 d e r (ten 12)
  | 0, k, hk => by
    obtain rfl : k = 12 := by omega
    rfl
  | m + 1, k, hk => by
    have ew : IntKind.wrap .u32 (10 * (k : Int)) = 10 * (k : Int) := by rw [w32]; omega
    have ew2 : IntKind.wrap .u32 ((k : Int) + 1) = ((k + 1 : Nat) : Int) := by rw [w32]; omega
    rw [spigotlaw41_RingNames.L1_eq, bd_pos (by omega), spigotlaw41_RingNames.L2_eq, ew, ew2, lim_ok_small (by decide) (by rw [ten_len]; simp only [List.length_cons, List.length_nil]; omega), ← ten_succ]
    exact Names_loop m (k + 1) (by omega)
theorem Loads_err {l T : List Int} (hc : chk l = 0) (hr : routedV l T ≠ 0) : ring_Loads.F l T = some ([], routedV l T, ()) := by
  rw [ring_Loads.F_eq, Check_F, ob, bne_neg hc, ring_Loads.L1_eq, routed_F, ob, bne_pos hr]
theorem moved_same (a T : List Int) : moved a a T = [] := by
  unfold moved
  rw [List.filter_eq_nil_iff]
  intro t _; simp
theorem text_top : text 4294967295 1 = [114, 255, 255, 255, 255, 0, 0, 0, 1] := by decide +kernel
theorem RingNames_F : spigotlaw41_RingNames.F = some (true, ()) := by
  have c12 : chk l12 = 0 := chk_val (by decide +kernel)
  have c11 : chk (List.take (Int.toNat 11 - Int.toNat 0) (List.drop (Int.toNat 0) l12)) = 0 := chk_val (by decide +kernel)
  have c0 : chk [] = 0 := chk_val (by decide)
  have c2 : chk [0, 4294967295] = 0 := chk_val (by decide +kernel)
  have c13 : chk (l12 ++ [500]) = 4 := chk_val (by decide +kernel)
  have c54 : chk [5, 4] = 8 := chk_val (by decide)
  have c11' : chk [1, 1] = 8 := chk_val (by decide)
  have u12 : ∀ h ∈ l12, U32 h := all_u32 (by decide +kernel)
  have u0 : ∀ h ∈ ([] : List Int), U32 h := fun h hh => by simp at hh
  have ur : ∀ n : Nat, ∀ h ∈ List.replicate n (0 : Int), U32 h := fun n h hh => by
    have := List.eq_of_mem_replicate hh
    subst this; unfold U32; omega
  have s0 : ring_Score.F 4294967295 1 = some (score 4294967295 1, 0, ()) := Score_F (by unfold U32; omega) (by unfold U32; omega)
  have s1 : sha_Sum.F [114, 255, 255, 255, 255, 0, 0, 0, 1] = some (score 4294967295 1, 0, ()) := by rw [← text_top]; exact Sum_text _ _
  have s2 : ring_Rank.F [0, 4294967295] 4294967295 = some (rank [0, 4294967295] 4294967295, 0, ()) := Rank_ok c2 (all_u32 (by decide +kernel)) (by unfold U32; omega)
  have hlen : ((List.length (rank [0, 4294967295] 4294967295) : Nat) : Int) = 2 := by rw [rank_len]; rfl
  have r0 : ring_Add.F l12 5 = some ([], 4, ()) := Add_many c12 (by decide +kernel) (by decide)
  have r1 : ring_Add.F l12 10 = some ([], 14, ()) := Add_twice c12 (by decide +kernel)
  have r2 : ring_Add.F (List.take (Int.toNat 11 - Int.toNat 0) (List.drop (Int.toNat 0) l12)) 5 = some ([0, 5, 10, 20, 30, 40, 50, 60, 70, 80, 90, 100], 0, ()) := by
    rw [Add_ok c11 (by decide +kernel) (by decide +kernel)]
    have : addTo (List.take (Int.toNat 11 - Int.toNat 0) (List.drop (Int.toNat 0) l12)) 5 = [0, 5, 10, 20, 30, 40, 50, 60, 70, 80, 90, 100] := by decide +kernel
    rw [this]
  have r3 : ring_Drop.F l12 50 = some ([0, 10, 20, 30, 40, 60, 70, 80, 90, 100, 110], 0, ()) := by
    rw [Drop_ok c12 (by decide +kernel)]
    have : l12.filter (· != 50) = [0, 10, 20, 30, 40, 60, 70, 80, 90, 100, 110] := by decide +kernel
    rw [this]
  have r4 : ring_Drop.F l12 51 = some ([], 6, ()) := Drop_none c12 (by decide +kernel)
  have r5 : ring_Rank.F (l12 ++ [500]) 1 = some ([], 4, ()) := by rw [Rank_bad (by rw [c13]; omega), c13]
  have r6 : ring_Owner.F [5, 4] 1 = some (0, 8, ()) := by rw [Owner_bad (by rw [c54]; omega), c54]
  have r7 : ring_Moved.F l12 [] (List.replicate (Int.toNat 101) 0) = some ([], 4, ()) := by
    have : routedV l12 (List.replicate (Int.toNat 101) 0) = 4 := by decide +kernel
    rw [Moved_err.2.2.1 c12 c0 (by rw [this]; omega), this]
  have r8 : ring_Moved.F l12 [] [1] = some ([], 6, ()) := by
    have e1 : routedV l12 [1] = 0 := by decide +kernel
    have e2 : routedV [] [1] = 6 := by decide +kernel
    rw [Moved_err.2.2.2 c12 c0 e1 (by rw [e2]; omega), e2]
  have r9 : ring_Moved.F [] l12 [1] = some ([], 6, ()) := by
    have e2 : routedV [] [1] = 6 := by decide +kernel
    rw [Moved_err.2.2.1 c0 c12 (by rw [e2]; omega), e2]
  have r10 : ring_Moved.F [] [] [] = some ([], 0, ()) := by
    rw [Moved_ok c0 c0 (by decide +kernel) (by decide +kernel) u0 u0 u0, moved_same]
  have r11 : ring_Moved.F [1, 1] [1, 1] [] = some ([], 8, ()) := by rw [Moved_err.1 (by rw [c11']; omega), c11']
  have r12 : ring_Loads.F [] [1] = some ([], 6, ()) := by
    have e2 : routedV [] [1] = 6 := by decide +kernel
    rw [Loads_err c0 (by rw [e2]; omega), e2]
  have r13 : ring_Loads.F l12 [] = some (List.replicate (Int.toNat 12) 0, 0, ()) := by
    rw [Loads_ok c12 (by decide +kernel) u12 u0]
    have : loads l12 [] = List.replicate (Int.toNat 12) 0 := by
      unfold loads
      simp only [List.filter_nil, List.length_nil, Int.natCast_zero]
      exact List.map_const'
    rw [this]
  have r14 : ring_Loads.F l12 (List.replicate (Int.toNat 101) 0) = some ([], 4, ()) := by
    have : routedV l12 (List.replicate (Int.toNat 101) 0) = 4 := by decide +kernel
    rw [Loads_err c12 (by rw [this]; omega), this]
  have r15 : ring_Moved.F l12 l12 (List.replicate (Int.toNat 100) 0) = some ([], 0, ()) := by
    rw [Moved_ok c12 c12 (by decide +kernel) (by decide +kernel) u12 u12 (ur _), moved_same]
  have hl12 : ((List.length l12 : Nat) : Int) = 12 := rfl
  rw [spigotlaw41_RingNames.F_eq, s0, ob, s1, ob, s2, ob]
  have h0 := Names_loop (a := 0) (b := 0) (c := 0) (d := score 4294967295 1) (e := score 4294967295 1) (r := rank [0, 4294967295] 4294967295) 12 0 (by omega)
  show spigotlaw41_RingNames.L1 0 0 0 ((0 : Nat) : Int) (score 4294967295 1) (score 4294967295 1) (rank [0, 4294967295] 4294967295) (ten 0) = _
  rw [h0, ten12, spigotlaw41_RingNames.L1_eq, bd_neg (by omega), r0, ob, r1, ob, hl12, bd_pos (by omega), r2, ob, r3, ob, r4, ob, lim_ok_small (by decide) (by decide), r5, ob, r6, ob, lim_ok (by decide), Bool.and_true, bd_pos (by omega), r7, ob, r8, ob, r9, ob, r10, ob, r11, ob, r12, ob, r13, ob, bd_pos (by omega), r14, ob,
    lim_ok (by decide), Bool.and_true, bd_pos (by omega), r15, ob, beq_pos rfl, beq_pos rfl, beq8, decide_eq_true rfl, cond_true, beq_pos rfl, beq_pos hlen, beq_pos rfl, beq_pos (by rfl), bd_pos (by decide), beq_pos (by rfl), beq_pos rfl, beq_pos (by rfl), bd_pos (by decide), beq_pos (by rfl), beq_pos rfl, beq_pos (by rfl), beq_pos rfl,
    lim_ok (by decide), Bool.and_true, bd_pos (by omega), SameInts_F (by decide), ob, decide_eq_true rfl, cond_true, beq_pos rfl, beq_pos rfl, beq_pos rfl, beq_pos rfl, beq_pos rfl, beq_pos rfl, beq_pos rfl, beq_pos rfl, beq_pos rfl, beq_pos rfl, beq_pos rfl, beq_pos (by rfl), beq_pos rfl, alive_F, ob]
end Go.Proofs.YteiekaboepdaeaaDoor.RP
