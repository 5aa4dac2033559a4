/- Contracts and equations of the functions, printed by a program of this session: part 2. -/
import Derived.Test.YteiekaboepdaeaaDoorZpmA
namespace Go.Proofs.YteiekaboepdaeaaDoor.PM
open Go Go.Proofs
set_option linter.unusedVariables false
/-! ### spigot/spigotlaw41.RingNames (7) -/
noncomputable def spigotlaw41_RingNames.sg : Sig := ⟨[], [(.bool, true)]⟩
noncomputable def spigotlaw41_RingNames.E : Env := ⟨tl, fun i => look i [(10, ring_Score.Fn), (11, ring_Rank.Fn), (13, ring_Owner.Fn), (19, spigotlaw41_alive.Fn), (22, ring_Drop.Fn), (24, ring_Loads.Fn), (25, ring_Moved.Fn), (26, ring_Add.Fn), (31, spigotref41_SameInts.Fn), (32, sha_Sum.Fn)], [97], eqs, globs, prims⟩
noncomputable def spigotlaw41_RingNames.c := cxOf spigotlaw41_RingNames.E spigotlaw41_RingNames.sg Tryd.f7
noncomputable def spigotlaw41_RingNames.b := body Tryd.f7
noncomputable def spigotlaw41_RingNames.Fn : Fun := fnOf spigotlaw41_RingNames.E spigotlaw41_RingNames.sg Tryd.f7
noncomputable def spigotlaw41_RingNames.F : Option (Bool × Unit) := spigotlaw41_RingNames.Fn.F ()
noncomputable def spigotlaw41_RingNames.S1 (a : Int) (b : Int) (c : Int) (i : Int) (b0 : (List Int)) (b1 : (List Int)) (l2 : (List Int)) (l3 : (List Int)) : St := ⟨[(2, (.ptr 0 [])), (3, (.v (.int .i64) a)), (4, (.ptr 1 [])), (5, (.v (.int .i64) b)), (6, (.sl 2)), (7, (.v (.int .i64) c)), (8, (.sl 3)), (9, (.v (.int .u32) i))], [(0, some (.box (.v (.arr 32 (.int .u8)) b0))), (1, some (.box (.v (.arr 32 (.int .u8)) b1))), (2, some (.row (.int .u32) l2 false)), (3, some (.row (.int .u32) l3 false))], 4, []⟩
noncomputable def spigotlaw41_RingNames.L1 (a : Int) (b : Int) (c : Int) (i : Int) (b0 : (List Int)) (b1 : (List Int)) (l2 : (List Int)) (l3 : (List Int)) : Option (Bool × Unit) := res spigotlaw41_RingNames.c (atLoop spigotlaw41_RingNames.b [1, 1, 1, 1, 1, 1, 0, 1, 0]) (spigotlaw41_RingNames.S1 a b c i b0 b1 l2 l3)
noncomputable def spigotlaw41_RingNames.S2 (a : Int) (b : Int) (c : Int) (i : Int) (b0 : (List Int)) (b1 : (List Int)) (l2 : (List Int)) (l3 : (List Int)) : St := ⟨[(2, (.ptr 0 [])), (3, (.v (.int .i64) a)), (4, (.ptr 1 [])), (5, (.v (.int .i64) b)), (6, (.sl 2)), (7, (.v (.int .i64) c)), (8, (.sl 3)), (9, (.v (.int .u32) i))], [(0, some (.box (.v (.arr 32 (.int .u8)) b0))), (1, some (.box (.v (.arr 32 (.int .u8)) b1))), (2, some (.row (.int .u32) l2 false)), (3, some (.row (.int .u32) l3 false))], 4, []⟩
noncomputable def spigotlaw41_RingNames.L2 (a : Int) (b : Int) (c : Int) (i : Int) (b0 : (List Int)) (b1 : (List Int)) (l2 : (List Int)) (l3 : (List Int)) : Option (Bool × Unit) := res spigotlaw41_RingNames.c (atJoin spigotlaw41_RingNames.b [1, 1, 1, 1, 1, 1, 0, 1, 0, 0, 0, 1]) (spigotlaw41_RingNames.S2 a b c i b0 b1 l2 l3)
theorem spigotlaw41_RingNames.spec : FnSpec Tryd.prog globs 7 spigotlaw41_RingNames.Fn := spec_of (E := spigotlaw41_RingNames.E) (envOk_at tabOk eqOk primsOk (.cons ring_Score.spec <| .cons ring_Rank.spec <| .cons ring_Owner.spec <| .cons spigotlaw41_alive.spec <| .cons ring_Drop.spec <| .cons ring_Loads.spec <| .cons ring_Moved.spec <| .cons ring_Add.spec <| .cons spigotref41_SameInts.spec <| .cons sha_Sum.spec <| .nil)) mixOk Tryd.func7 (by kernel_rfl)
theorem spigotlaw41_RingNames.L1_eq (a : Int) (b : Int) (c : Int) (i : Int) (b0 : (List Int)) (b1 : (List Int)) (l2 : (List Int)) (l3 : (List Int)) : spigotlaw41_RingNames.L1 a b c i b0 b1 l2 l3 =
  bif (decide ((i : Int) < 12)) then
    spigotlaw41_RingNames.L2 a b c i b0 b1 l2 l3
  else
    (ring_Add.F l3 5).bind fun r0 =>
    (ring_Add.F l3 10).bind fun r1 =>
    bif (decide ((0 : Int) ≤ 0 ∧ (0 : Int) ≤ 11 ∧ (11 : Int) ≤ ((List.length l3 : Int)))) then
      (ring_Add.F (List.take ((Int.toNat 11) - (Int.toNat 0)) (List.drop (Int.toNat 0) l3)) 5).bind fun r2 =>
      (ring_Drop.F l3 50).bind fun r3 =>
      (ring_Drop.F l3 51).bind fun r4 =>
      bif (lim ((List.length l3) + (List.length ([500] : List Int))) (.int .u32)) then
        (ring_Rank.F (l3 ++ ([500] : List Int)) 1).bind fun r5 =>
        (ring_Owner.F ([5, 4] : List Int) 1).bind fun r6 =>
        bif (decide ((0 : Int) ≤ 101 ∧ (101 : Int) ≤ 101) && (lim (Int.toNat 101) (.int .u32))) then
          (ring_Moved.F l3 ([] : List Int) (List.replicate (Int.toNat 101) (0 : Int))).bind fun r7 =>
          (ring_Moved.F l3 ([] : List Int) ([1] : List Int)).bind fun r8 =>
          (ring_Moved.F ([] : List Int) l3 ([1] : List Int)).bind fun r9 =>
          (ring_Moved.F ([] : List Int) ([] : List Int) ([] : List Int)).bind fun r10 =>
          (ring_Moved.F ([1, 1] : List Int) ([1, 1] : List Int) ([] : List Int)).bind fun r11 =>
          (ring_Loads.F ([] : List Int) ([1] : List Int)).bind fun r12 =>
          (ring_Loads.F l3 ([] : List Int)).bind fun r13 =>
          bif (decide ((0 : Int) ≤ 101 ∧ (101 : Int) ≤ 101) && (lim (Int.toNat 101) (.int .u32))) then
            (ring_Loads.F l3 (List.replicate (Int.toNat 101) (0 : Int))).bind fun r14 =>
            bif (decide ((0 : Int) ≤ 100 ∧ (100 : Int) ≤ 100) && (lim (Int.toNat 100) (.int .u32))) then
              (ring_Moved.F l3 l3 (List.replicate (Int.toNat 100) (0 : Int))).bind fun r15 =>
              bif (a == 0) then
                bif (b == 0) then
                  bif (Ty.beq (.arr 32 (.int .u8)) b0 b1) then
                    bif (c == 0) then
                      bif (((List.length l2 : Int)) == 2) then
                        bif (r2.2.1 == 0) then
                          bif (((List.length r2.1 : Int)) == 12) then
                            bif (decide ((0 : Int) ≤ 1 ∧ (1 : Int) < ((List.length r2.1 : Int)))) then
                              bif ((List.getD r2.1 (Int.toNat 1) 0) == 5) then
                                bif (r3.2.1 == 0) then
                                  bif (((List.length r3.1 : Int)) == 11) then
                                    bif (decide ((0 : Int) ≤ 5 ∧ (5 : Int) < ((List.length r3.1 : Int)))) then
                                      bif ((List.getD r3.1 (Int.toNat 5) 0) == 60) then
                                        bif (r10.2.1 == 0) then
                                          bif (((List.length r10.1 : Int)) == 0) then
                                            bif (r13.2.1 == 0) then
                                              bif (decide ((0 : Int) ≤ 12 ∧ (12 : Int) ≤ 12) && (lim (Int.toNat 12) (.int .i64))) then
                                                (spigotref41_SameInts.F r13.1 (List.replicate (Int.toNat 12) (0 : Int))).bind fun r16 =>
                                                bif r16.1 then
                                                  bif (r15.2.1 == 0) then
                                                    bif (r0.2.1 == 4) then
                                                      bif (r1.2.1 == 14) then
                                                        bif (r4.2.1 == 6) then
                                                          bif (r5.2.1 == 4) then
                                                            bif (r6.2.1 == 8) then
                                                              bif (r7.2.1 == 4) then
                                                                bif (r8.2.1 == 6) then
                                                                  bif (r9.2.1 == 6) then
                                                                    bif (r11.2.1 == 8) then
                                                                      bif (r12.2.1 == 6) then
                                                                        bif (((List.length r15.1 : Int)) == 0) then
                                                                          bif (r14.2.1 == 4) then
                                                                            spigotlaw41_alive.F.bind fun r17 =>
                                                                            some (r17.1, ())
                                                                          else
                                                                            some (false, ())
                                                                        else
                                                                          some (false, ())
                                                                      else
                                                                        bif (((List.length r15.1 : Int)) == 0) then
                                                                          some (false, ())
                                                                        else
                                                                          some (false, ())
                                                                    else
                                                                      bif (((List.length r15.1 : Int)) == 0) then
                                                                        some (false, ())
                                                                      else
                                                                        some (false, ())
                                                                  else
                                                                    bif (((List.length r15.1 : Int)) == 0) then
                                                                      some (false, ())
                                                                    else
                                                                      some (false, ())
                                                                else
                                                                  bif (((List.length r15.1 : Int)) == 0) then
                                                                    some (false, ())
                                                                  else
                                                                    some (false, ())
                                                              else
                                                                bif (((List.length r15.1 : Int)) == 0) then
                                                                  some (false, ())
                                                                else
                                                                  some (false, ())
                                                            else
                                                              bif (((List.length r15.1 : Int)) == 0) then
                                                                some (false, ())
                                                              else
                                                                some (false, ())
                                                          else
                                                            bif (((List.length r15.1 : Int)) == 0) then
                                                              some (false, ())
                                                            else
                                                              some (false, ())
                                                        else
                                                          bif (((List.length r15.1 : Int)) == 0) then
                                                            some (false, ())
                                                          else
                                                            some (false, ())
                                                      else
                                                        bif (((List.length r15.1 : Int)) == 0) then
                                                          some (false, ())
                                                        else
                                                          some (false, ())
                                                    else
                                                      bif (((List.length r15.1 : Int)) == 0) then
                                                        some (false, ())
                                                      else
                                                        some (false, ())
                                                  else
                                                    bif (r0.2.1 == 4) then
                                                      bif (r1.2.1 == 14) then
                                                        bif (r4.2.1 == 6) then
                                                          bif (r5.2.1 == 4) then
                                                            bif (r6.2.1 == 8) then
                                                              bif (r7.2.1 == 4) then
                                                                bif (r8.2.1 == 6) then
                                                                  bif (r9.2.1 == 6) then
                                                                    bif (r11.2.1 == 8) then
                                                                      bif (r12.2.1 == 6) then
                                                                        some (false, ())
                                                                      else
                                                                        some (false, ())
                                                                    else
                                                                      some (false, ())
                                                                  else
                                                                    some (false, ())
                                                                else
                                                                  some (false, ())
                                                              else
                                                                some (false, ())
                                                            else
                                                              some (false, ())
                                                          else
                                                            some (false, ())
                                                        else
                                                          some (false, ())
                                                      else
                                                        some (false, ())
                                                    else
                                                      some (false, ())
                                                else
                                                  bif (r0.2.1 == 4) then
                                                    bif (r1.2.1 == 14) then
                                                      bif (r4.2.1 == 6) then
                                                        bif (r5.2.1 == 4) then
                                                          bif (r6.2.1 == 8) then
                                                            bif (r7.2.1 == 4) then
                                                              bif (r8.2.1 == 6) then
                                                                bif (r9.2.1 == 6) then
                                                                  bif (r11.2.1 == 8) then
                                                                    bif (r12.2.1 == 6) then
                                                                      some (false, ())
                                                                    else
                                                                      some (false, ())
                                                                  else
                                                                    some (false, ())
                                                                else
                                                                  some (false, ())
                                                              else
                                                                some (false, ())
                                                            else
                                                              some (false, ())
                                                          else
                                                            some (false, ())
                                                        else
                                                          some (false, ())
                                                      else
                                                        some (false, ())
                                                    else
                                                      some (false, ())
                                                  else
                                                    some (false, ())
                                              else none
                                            else
                                              bif (r0.2.1 == 4) then
                                                bif (r1.2.1 == 14) then
                                                  bif (r4.2.1 == 6) then
                                                    bif (r5.2.1 == 4) then
                                                      bif (r6.2.1 == 8) then
                                                        bif (r7.2.1 == 4) then
                                                          bif (r8.2.1 == 6) then
                                                            bif (r9.2.1 == 6) then
                                                              bif (r11.2.1 == 8) then
                                                                bif (r12.2.1 == 6) then
                                                                  some (false, ())
                                                                else
                                                                  some (false, ())
                                                              else
                                                                some (false, ())
                                                            else
                                                              some (false, ())
                                                          else
                                                            some (false, ())
                                                        else
                                                          some (false, ())
                                                      else
                                                        some (false, ())
                                                    else
                                                      some (false, ())
                                                  else
                                                    some (false, ())
                                                else
                                                  some (false, ())
                                              else
                                                some (false, ())
                                          else
                                            bif (r0.2.1 == 4) then
                                              bif (r1.2.1 == 14) then
                                                bif (r4.2.1 == 6) then
                                                  bif (r5.2.1 == 4) then
                                                    bif (r6.2.1 == 8) then
                                                      bif (r7.2.1 == 4) then
                                                        bif (r8.2.1 == 6) then
                                                          bif (r9.2.1 == 6) then
                                                            bif (r11.2.1 == 8) then
                                                              bif (r12.2.1 == 6) then
                                                                some (false, ())
                                                              else
                                                                some (false, ())
                                                            else
                                                              some (false, ())
                                                          else
                                                            some (false, ())
                                                        else
                                                          some (false, ())
                                                      else
                                                        some (false, ())
                                                    else
                                                      some (false, ())
                                                  else
                                                    some (false, ())
                                                else
                                                  some (false, ())
                                              else
                                                some (false, ())
                                            else
                                              some (false, ())
                                        else
                                          bif (r0.2.1 == 4) then
                                            bif (r1.2.1 == 14) then
                                              bif (r4.2.1 == 6) then
                                                bif (r5.2.1 == 4) then
                                                  bif (r6.2.1 == 8) then
                                                    bif (r7.2.1 == 4) then
                                                      bif (r8.2.1 == 6) then
                                                        bif (r9.2.1 == 6) then
                                                          bif (r11.2.1 == 8) then
                                                            bif (r12.2.1 == 6) then
                                                              some (false, ())
                                                            else
                                                              some (false, ())
                                                          else
                                                            some (false, ())
                                                        else
                                                          some (false, ())
                                                      else
                                                        some (false, ())
                                                    else
                                                      some (false, ())
                                                  else
                                                    some (false, ())
                                                else
                                                  some (false, ())
                                              else
                                                some (false, ())
                                            else
                                              some (false, ())
                                          else
                                            some (false, ())
                                      else
                                        bif (r0.2.1 == 4) then
                                          bif (r1.2.1 == 14) then
                                            bif (r4.2.1 == 6) then
                                              bif (r5.2.1 == 4) then
                                                bif (r6.2.1 == 8) then
                                                  bif (r7.2.1 == 4) then
                                                    bif (r8.2.1 == 6) then
                                                      bif (r9.2.1 == 6) then
                                                        bif (r11.2.1 == 8) then
                                                          bif (r12.2.1 == 6) then
                                                            some (false, ())
                                                          else
                                                            some (false, ())
                                                        else
                                                          some (false, ())
                                                      else
                                                        some (false, ())
                                                    else
                                                      some (false, ())
                                                  else
                                                    some (false, ())
                                                else
                                                  some (false, ())
                                              else
                                                some (false, ())
                                            else
                                              some (false, ())
                                          else
                                            some (false, ())
                                        else
                                          some (false, ())
                                    else none
                                  else
                                    bif (r0.2.1 == 4) then
                                      bif (r1.2.1 == 14) then
                                        bif (r4.2.1 == 6) then
                                          bif (r5.2.1 == 4) then
                                            bif (r6.2.1 == 8) then
                                              bif (r7.2.1 == 4) then
                                                bif (r8.2.1 == 6) then
                                                  bif (r9.2.1 == 6) then
                                                    bif (r11.2.1 == 8) then
                                                      bif (r12.2.1 == 6) then
                                                        some (false, ())
                                                      else
                                                        some (false, ())
                                                    else
                                                      some (false, ())
                                                  else
                                                    some (false, ())
                                                else
                                                  some (false, ())
                                              else
                                                some (false, ())
                                            else
                                              some (false, ())
                                          else
                                            some (false, ())
                                        else
                                          some (false, ())
                                      else
                                        some (false, ())
                                    else
                                      some (false, ())
                                else
                                  bif (r0.2.1 == 4) then
                                    bif (r1.2.1 == 14) then
                                      bif (r4.2.1 == 6) then
                                        bif (r5.2.1 == 4) then
                                          bif (r6.2.1 == 8) then
                                            bif (r7.2.1 == 4) then
                                              bif (r8.2.1 == 6) then
                                                bif (r9.2.1 == 6) then
                                                  bif (r11.2.1 == 8) then
                                                    bif (r12.2.1 == 6) then
                                                      some (false, ())
                                                    else
                                                      some (false, ())
                                                  else
                                                    some (false, ())
                                                else
                                                  some (false, ())
                                              else
                                                some (false, ())
                                            else
                                              some (false, ())
                                          else
                                            some (false, ())
                                        else
                                          some (false, ())
                                      else
                                        some (false, ())
                                    else
                                      some (false, ())
                                  else
                                    some (false, ())
                              else
                                bif (r0.2.1 == 4) then
                                  bif (r1.2.1 == 14) then
                                    bif (r4.2.1 == 6) then
                                      bif (r5.2.1 == 4) then
                                        bif (r6.2.1 == 8) then
                                          bif (r7.2.1 == 4) then
                                            bif (r8.2.1 == 6) then
                                              bif (r9.2.1 == 6) then
                                                bif (r11.2.1 == 8) then
                                                  bif (r12.2.1 == 6) then
                                                    some (false, ())
                                                  else
                                                    some (false, ())
                                                else
                                                  some (false, ())
                                              else
                                                some (false, ())
                                            else
                                              some (false, ())
                                          else
                                            some (false, ())
                                        else
                                          some (false, ())
                                      else
                                        some (false, ())
                                    else
                                      some (false, ())
                                  else
                                    some (false, ())
                                else
                                  some (false, ())
                            else none
                          else
                            bif (r0.2.1 == 4) then
                              bif (r1.2.1 == 14) then
                                bif (r4.2.1 == 6) then
                                  bif (r5.2.1 == 4) then
                                    bif (r6.2.1 == 8) then
                                      bif (r7.2.1 == 4) then
                                        bif (r8.2.1 == 6) then
                                          bif (r9.2.1 == 6) then
                                            bif (r11.2.1 == 8) then
                                              bif (r12.2.1 == 6) then
                                                some (false, ())
                                              else
                                                some (false, ())
                                            else
                                              some (false, ())
                                          else
                                            some (false, ())
                                        else
                                          some (false, ())
                                      else
                                        some (false, ())
                                    else
                                      some (false, ())
                                  else
                                    some (false, ())
                                else
                                  some (false, ())
                              else
                                some (false, ())
                            else
                              some (false, ())
                        else
                          bif (r0.2.1 == 4) then
                            bif (r1.2.1 == 14) then
                              bif (r4.2.1 == 6) then
                                bif (r5.2.1 == 4) then
                                  bif (r6.2.1 == 8) then
                                    bif (r7.2.1 == 4) then
                                      bif (r8.2.1 == 6) then
                                        bif (r9.2.1 == 6) then
                                          bif (r11.2.1 == 8) then
                                            bif (r12.2.1 == 6) then
                                              some (false, ())
                                            else
                                              some (false, ())
                                          else
                                            some (false, ())
                                        else
                                          some (false, ())
                                      else
                                        some (false, ())
                                    else
                                      some (false, ())
                                  else
                                    some (false, ())
                                else
                                  some (false, ())
                              else
                                some (false, ())
                            else
                              some (false, ())
                          else
                            some (false, ())
                      else
                        bif (r0.2.1 == 4) then
                          bif (r1.2.1 == 14) then
                            bif (r4.2.1 == 6) then
                              bif (r5.2.1 == 4) then
                                bif (r6.2.1 == 8) then
                                  bif (r7.2.1 == 4) then
                                    bif (r8.2.1 == 6) then
                                      bif (r9.2.1 == 6) then
                                        bif (r11.2.1 == 8) then
                                          bif (r12.2.1 == 6) then
                                            some (false, ())
                                          else
                                            some (false, ())
                                        else
                                          some (false, ())
                                      else
                                        some (false, ())
                                    else
                                      some (false, ())
                                  else
                                    some (false, ())
                                else
                                  some (false, ())
                              else
                                some (false, ())
                            else
                              some (false, ())
                          else
                            some (false, ())
                        else
                          some (false, ())
                    else
                      bif (r0.2.1 == 4) then
                        bif (r1.2.1 == 14) then
                          bif (r4.2.1 == 6) then
                            bif (r5.2.1 == 4) then
                              bif (r6.2.1 == 8) then
                                bif (r7.2.1 == 4) then
                                  bif (r8.2.1 == 6) then
                                    bif (r9.2.1 == 6) then
                                      bif (r11.2.1 == 8) then
                                        bif (r12.2.1 == 6) then
                                          some (false, ())
                                        else
                                          some (false, ())
                                      else
                                        some (false, ())
                                    else
                                      some (false, ())
                                  else
                                    some (false, ())
                                else
                                  some (false, ())
                              else
                                some (false, ())
                            else
                              some (false, ())
                          else
                            some (false, ())
                        else
                          some (false, ())
                      else
                        some (false, ())
                  else
                    bif (r0.2.1 == 4) then
                      bif (r1.2.1 == 14) then
                        bif (r4.2.1 == 6) then
                          bif (r5.2.1 == 4) then
                            bif (r6.2.1 == 8) then
                              bif (r7.2.1 == 4) then
                                bif (r8.2.1 == 6) then
                                  bif (r9.2.1 == 6) then
                                    bif (r11.2.1 == 8) then
                                      bif (r12.2.1 == 6) then
                                        some (false, ())
                                      else
                                        some (false, ())
                                    else
                                      some (false, ())
                                  else
                                    some (false, ())
                                else
                                  some (false, ())
                              else
                                some (false, ())
                            else
                              some (false, ())
                          else
                            some (false, ())
                        else
                          some (false, ())
                      else
                        some (false, ())
                    else
                      some (false, ())
                else
                  bif (r0.2.1 == 4) then
                    bif (r1.2.1 == 14) then
                      bif (r4.2.1 == 6) then
                        bif (r5.2.1 == 4) then
                          bif (r6.2.1 == 8) then
                            bif (r7.2.1 == 4) then
                              bif (r8.2.1 == 6) then
                                bif (r9.2.1 == 6) then
                                  bif (r11.2.1 == 8) then
                                    bif (r12.2.1 == 6) then
                                      some (false, ())
                                    else
                                      some (false, ())
                                  else
                                    some (false, ())
                                else
                                  some (false, ())
                              else
                                some (false, ())
                            else
                              some (false, ())
                          else
                            some (false, ())
                        else
                          some (false, ())
                      else
                        some (false, ())
                    else
                      some (false, ())
                  else
                    some (false, ())
              else
                bif (r0.2.1 == 4) then
                  bif (r1.2.1 == 14) then
                    bif (r4.2.1 == 6) then
                      bif (r5.2.1 == 4) then
                        bif (r6.2.1 == 8) then
                          bif (r7.2.1 == 4) then
                            bif (r8.2.1 == 6) then
                              bif (r9.2.1 == 6) then
                                bif (r11.2.1 == 8) then
                                  bif (r12.2.1 == 6) then
                                    some (false, ())
                                  else
                                    some (false, ())
                                else
                                  some (false, ())
                              else
                                some (false, ())
                            else
                              some (false, ())
                          else
                            some (false, ())
                        else
                          some (false, ())
                      else
                        some (false, ())
                    else
                      some (false, ())
                  else
                    some (false, ())
                else
                  some (false, ())
            else none
          else none
        else none
      else none
    else none := res_eq (by kernel_rfl)
theorem spigotlaw41_RingNames.L2_eq (a : Int) (b : Int) (c : Int) (i : Int) (b0 : (List Int)) (b1 : (List Int)) (l2 : (List Int)) (l3 : (List Int)) : spigotlaw41_RingNames.L2 a b c i b0 b1 l2 l3 =
  bif (lim ((List.length l3) + (List.length ([(IntKind.wrap .u32 (10 * i))] : List Int))) (.int .u32)) then
    spigotlaw41_RingNames.L1 a b c (IntKind.wrap .u32 (i + 1)) b0 b1 l2 (l3 ++ ([(IntKind.wrap .u32 (10 * i))] : List Int))
  else none := res_eq (by kernel_rfl)
theorem spigotlaw41_RingNames.F_eq : spigotlaw41_RingNames.F =
  (ring_Score.F 4294967295 1).bind fun r0 =>
  (sha_Sum.F ([114, 255, 255, 255, 255, 0, 0, 0, 1] : List Int)).bind fun r1 =>
  (ring_Rank.F ([0, 4294967295] : List Int) 4294967295).bind fun r2 =>
  spigotlaw41_RingNames.L1 r0.2.1 r1.2.1 r2.2.1 0 r0.1 r1.1 r2.1 ([] : List Int) := by kernel_rfl
/-! ### spigot/spigotlaw41.RingFew (8) -/
noncomputable def spigotlaw41_RingFew.sg : Sig := ⟨[.val (.slice (.int .u32)), .val (.int .u32), .val (.slice (.int .u32))], [(.bool, true)]⟩
noncomputable def spigotlaw41_RingFew.E : Env := ⟨tl, fun i => look i [(13, ring_Owner.Fn), (16, spigotref41_Check.Fn), (18, spigotref41_Same.Fn), (19, spigotlaw41_alive.Fn), (20, spigotref41_In.Fn), (22, ring_Drop.Fn), (25, ring_Moved.Fn), (26, ring_Add.Fn)], [], eqs, globs, prims⟩
noncomputable def spigotlaw41_RingFew.c := cxOf spigotlaw41_RingFew.E spigotlaw41_RingFew.sg Tryd.f8
noncomputable def spigotlaw41_RingFew.b := body Tryd.f8
noncomputable def spigotlaw41_RingFew.Fn : Fun := fnOf spigotlaw41_RingFew.E spigotlaw41_RingFew.sg Tryd.f8
noncomputable def spigotlaw41_RingFew.F (l : (List Int)) (host : Int) (tenants : (List Int)) : Option (Bool × Unit) := spigotlaw41_RingFew.Fn.F (l, host, tenants, ())
noncomputable def spigotlaw41_RingFew.S1 (l : (List Int)) (host : Int) (tenants : (List Int)) (ok : Bool) : St := ⟨[(0, (.v (.slice (.int .u32)) l)), (1, (.v (.int .u32) host)), (2, (.v (.slice (.int .u32)) tenants)), (7, (.v .bool ok))], [], 0, []⟩
noncomputable def spigotlaw41_RingFew.L1 (l : (List Int)) (host : Int) (tenants : (List Int)) (ok : Bool) : Option (Bool × Unit) := res spigotlaw41_RingFew.c (atJoin spigotlaw41_RingFew.b [1, 1, 0, 1]) (spigotlaw41_RingFew.S1 l host tenants ok)
noncomputable def spigotlaw41_RingFew.S2 (l : (List Int)) (host : Int) (tenants : (List Int)) (ok : Bool) (l0 : (List Int)) : St := ⟨[(0, (.v (.slice (.int .u32)) l)), (1, (.v (.int .u32) host)), (2, (.v (.slice (.int .u32)) tenants)), (7, (.v .bool ok)), (8, (.sl 0))], [(0, some (.row (.int .u32) l0 false))], 1, []⟩
noncomputable def spigotlaw41_RingFew.L2 (l : (List Int)) (host : Int) (tenants : (List Int)) (ok : Bool) (l0 : (List Int)) : Option (Bool × Unit) := res spigotlaw41_RingFew.c (atJoin spigotlaw41_RingFew.b [1, 1, 1, 1, 0, 1]) (spigotlaw41_RingFew.S2 l host tenants ok l0)
noncomputable def spigotlaw41_RingFew.S3 (l : (List Int)) (host : Int) (tenants : (List Int)) (ok : Bool) (l0 : (List Int)) (l1 : (List Int)) : St := ⟨[(0, (.v (.slice (.int .u32)) l)), (1, (.v (.int .u32) host)), (2, (.v (.slice (.int .u32)) tenants)), (7, (.v .bool ok)), (8, (.sl 0)), (10, (.sl 1))], [(0, some (.row (.int .u32) l0 false)), (1, some (.row (.int .u32) l1 false))], 2, []⟩
noncomputable def spigotlaw41_RingFew.L3 (l : (List Int)) (host : Int) (tenants : (List Int)) (ok : Bool) (l0 : (List Int)) (l1 : (List Int)) : Option (Bool × Unit) := res spigotlaw41_RingFew.c (atJoin spigotlaw41_RingFew.b [1, 1, 1, 1, 1, 1, 1, 1, 0, 1]) (spigotlaw41_RingFew.S3 l host tenants ok l0 l1)
noncomputable def spigotlaw41_RingFew.S4 (l : (List Int)) (host : Int) (tenants : (List Int)) (ok : Bool) (i : Int) (l0 : (List Int)) (l1 : (List Int)) (l2 : (List Int)) : St := ⟨[(0, (.v (.slice (.int .u32)) l)), (1, (.v (.int .u32) host)), (2, (.v (.slice (.int .u32)) tenants)), (7, (.v .bool ok)), (8, (.sl 0)), (10, (.sl 1)), (16, (.sl 2)), (17, (.v (.int .i64) i))], [(0, some (.row (.int .u32) l0 false)), (1, some (.row (.int .u32) l1 false)), (2, some (.row (.int .u32) l2 false))], 3, []⟩
noncomputable def spigotlaw41_RingFew.L4 (l : (List Int)) (host : Int) (tenants : (List Int)) (ok : Bool) (i : Int) (l0 : (List Int)) (l1 : (List Int)) (l2 : (List Int)) : Option (Bool × Unit) := res spigotlaw41_RingFew.c (atLoop spigotlaw41_RingFew.b [1, 1, 1, 1, 1, 1, 1, 1, 1, 1, 0, 1, 0]) (spigotlaw41_RingFew.S4 l host tenants ok i l0 l1 l2)
noncomputable def spigotlaw41_RingFew.S5 (l : (List Int)) (host : Int) (tenants : (List Int)) (ok : Bool) (i : Int) (l0 : (List Int)) (l1 : (List Int)) (l2 : (List Int)) : St := ⟨[(0, (.v (.slice (.int .u32)) l)), (1, (.v (.int .u32) host)), (2, (.v (.slice (.int .u32)) tenants)), (7, (.v .bool ok)), (8, (.sl 0)), (10, (.sl 1)), (16, (.sl 2)), (17, (.v (.int .i64) i))], [(0, some (.row (.int .u32) l0 false)), (1, some (.row (.int .u32) l1 false)), (2, some (.row (.int .u32) l2 false))], 3, []⟩
noncomputable def spigotlaw41_RingFew.L5 (l : (List Int)) (host : Int) (tenants : (List Int)) (ok : Bool) (i : Int) (l0 : (List Int)) (l1 : (List Int)) (l2 : (List Int)) : Option (Bool × Unit) := res spigotlaw41_RingFew.c (atJoin spigotlaw41_RingFew.b [1, 1, 1, 1, 1, 1, 1, 1, 1, 1, 0, 1, 0, 0, 0, 1]) (spigotlaw41_RingFew.S5 l host tenants ok i l0 l1 l2)
noncomputable def spigotlaw41_RingFew.S6 (l : (List Int)) (host : Int) (tenants : (List Int)) (ok : Bool) (i : Int) (now : Int) (l0 : (List Int)) (l1 : (List Int)) (l2 : (List Int)) : St := ⟨[(0, (.v (.slice (.int .u32)) l)), (1, (.v (.int .u32) host)), (2, (.v (.slice (.int .u32)) tenants)), (7, (.v .bool ok)), (8, (.sl 0)), (10, (.sl 1)), (16, (.sl 2)), (17, (.v (.int .i64) i)), (20, (.v (.int .u32) now))], [(0, some (.row (.int .u32) l0 false)), (1, some (.row (.int .u32) l1 false)), (2, some (.row (.int .u32) l2 false))], 3, []⟩
noncomputable def spigotlaw41_RingFew.L6 (l : (List Int)) (host : Int) (tenants : (List Int)) (ok : Bool) (i : Int) (now : Int) (l0 : (List Int)) (l1 : (List Int)) (l2 : (List Int)) : Option (Bool × Unit) := res spigotlaw41_RingFew.c (atJoin spigotlaw41_RingFew.b [1, 1, 1, 1, 1, 1, 1, 1, 1, 1, 0, 1, 0, 0, 1, 0, 0, 1, 1, 0, 1]) (spigotlaw41_RingFew.S6 l host tenants ok i now l0 l1 l2)
noncomputable def spigotlaw41_RingFew.S7 (l : (List Int)) (host : Int) (tenants : (List Int)) (ok : Bool) (i : Int) (l0 : (List Int)) (l1 : (List Int)) (l2 : (List Int)) : St := ⟨[(0, (.v (.slice (.int .u32)) l)), (1, (.v (.int .u32) host)), (2, (.v (.slice (.int .u32)) tenants)), (7, (.v .bool ok)), (8, (.sl 0)), (10, (.sl 1)), (16, (.sl 2)), (17, (.v (.int .i64) i))], [(0, some (.row (.int .u32) l0 false)), (1, some (.row (.int .u32) l1 false)), (2, some (.row (.int .u32) l2 false))], 3, []⟩
noncomputable def spigotlaw41_RingFew.L7 (l : (List Int)) (host : Int) (tenants : (List Int)) (ok : Bool) (i : Int) (l0 : (List Int)) (l1 : (List Int)) (l2 : (List Int)) : Option (Bool × Unit) := res spigotlaw41_RingFew.c (atJoin spigotlaw41_RingFew.b [1, 1, 1, 1, 1, 1, 1, 1, 1, 1, 0, 1, 0, 0, 1, 0, 0, 1, 1, 1, 1]) (spigotlaw41_RingFew.S7 l host tenants ok i l0 l1 l2)
theorem spigotlaw41_RingFew.spec : FnSpec Tryd.prog globs 8 spigotlaw41_RingFew.Fn := spec_of (E := spigotlaw41_RingFew.E) (envOk_at tabOk eqOk primsOk (.cons ring_Owner.spec <| .cons spigotref41_Check.spec <| .cons spigotref41_Same.spec <| .cons spigotlaw41_alive.spec <| .cons spigotref41_In.spec <| .cons ring_Drop.spec <| .cons ring_Moved.spec <| .cons ring_Add.spec <| .nil)) mixOk Tryd.func8 (by kernel_rfl)
theorem spigotlaw41_RingFew.L1_eq (l : (List Int)) (host : Int) (tenants : (List Int)) (ok : Bool) : spigotlaw41_RingFew.L1 l host tenants ok =
  (ring_Add.F l host).bind fun r0 =>
  bif (r0.2.1 != 0) then
    some (false, ())
  else
    (spigotref41_Check.F r0.1).bind fun r1 =>
    bif (r1.1 != 0) then
      some (false, ())
    else
      bif (((List.length r0.1 : Int)) != (IntKind.wrap .i64 (((List.length l : Int)) + 1))) then
        some (false, ())
      else
        spigotlaw41_RingFew.L2 l host tenants ok r0.1 := res_eq (by kernel_rfl)
theorem spigotlaw41_RingFew.L2_eq (l : (List Int)) (host : Int) (tenants : (List Int)) (ok : Bool) (l0 : (List Int)) : spigotlaw41_RingFew.L2 l host tenants ok l0 =
  (ring_Moved.F l l0 tenants).bind fun r0 =>
  (ring_Moved.F l0 l tenants).bind fun r1 =>
  (ring_Drop.F l0 host).bind fun r2 =>
  bif (r0.2.1 != 0) then
    some (false, ())
  else
    bif (r1.2.1 != 0) then
      some (false, ())
    else
      (spigotref41_Same.F r0.1 r1.1).bind fun r3 =>
      bif (!r3.1) then
        some (false, ())
      else
        bif (r2.2.1 != 0) then
          some (false, ())
        else
          (spigotref41_Same.F r2.1 l).bind fun r4 =>
          bif (!r4.1) then
            some (false, ())
          else
            spigotlaw41_RingFew.L3 l host tenants ok l0 r0.1 := res_eq (by kernel_rfl)
theorem spigotlaw41_RingFew.L3_eq (l : (List Int)) (host : Int) (tenants : (List Int)) (ok : Bool) (l0 : (List Int)) (l1 : (List Int)) : spigotlaw41_RingFew.L3 l host tenants ok l0 l1 =
  spigotlaw41_RingFew.L4 l host tenants ok 0 l0 l1 ([] : List Int) := res_eq (by kernel_rfl)
theorem spigotlaw41_RingFew.L4_eq (l : (List Int)) (host : Int) (tenants : (List Int)) (ok : Bool) (i : Int) (l0 : (List Int)) (l1 : (List Int)) (l2 : (List Int)) : spigotlaw41_RingFew.L4 l host tenants ok i l0 l1 l2 =
  bif (decide ((i : Int) < ((List.length tenants : Int)))) then
    spigotlaw41_RingFew.L5 l host tenants ok i l0 l1 l2
  else
    bif ok then
      (spigotref41_Same.F l1 l2).bind fun r0 =>
      some (r0.1, ())
    else
      some (false, ()) := res_eq (by kernel_rfl)
theorem spigotlaw41_RingFew.L5_eq (l : (List Int)) (host : Int) (tenants : (List Int)) (ok : Bool) (i : Int) (l0 : (List Int)) (l1 : (List Int)) (l2 : (List Int)) : spigotlaw41_RingFew.L5 l host tenants ok i l0 l1 l2 =
  bif (decide ((0 : Int) ≤ i ∧ (i : Int) < ((List.length tenants : Int)))) then
    (ring_Owner.F l (List.getD tenants (Int.toNat i) 0)).bind fun r0 =>
    bif (decide ((0 : Int) ≤ i ∧ (i : Int) < ((List.length tenants : Int)))) then
      (ring_Owner.F l0 (List.getD tenants (Int.toNat i) 0)).bind fun r1 =>
      bif (r0.2.1 != 0) then
        some (false, ())
      else
        bif (r1.2.1 != 0) then
          some (false, ())
        else
          bif (r1.1 != r0.1) then
            bif (r1.1 != host) then
              some (false, ())
            else
              spigotlaw41_RingFew.L6 l host tenants ok i r1.1 l0 l1 l2
          else
            spigotlaw41_RingFew.L6 l host tenants ok i r1.1 l0 l1 l2
    else none
  else none := res_eq (by kernel_rfl)
theorem spigotlaw41_RingFew.L6_eq (l : (List Int)) (host : Int) (tenants : (List Int)) (ok : Bool) (i : Int) (now : Int) (l0 : (List Int)) (l1 : (List Int)) (l2 : (List Int)) : spigotlaw41_RingFew.L6 l host tenants ok i now l0 l1 l2 =
  bif (now == host) then
    bif (decide ((0 : Int) ≤ i ∧ (i : Int) < ((List.length tenants : Int)))) then
      bif (lim ((List.length l2) + (List.length ([(List.getD tenants (Int.toNat i) 0)] : List Int))) (.int .u32)) then
        spigotlaw41_RingFew.L7 l host tenants ok i l0 l1 (l2 ++ ([(List.getD tenants (Int.toNat i) 0)] : List Int))
      else none
    else none
  else
    spigotlaw41_RingFew.L7 l host tenants ok i l0 l1 l2 := res_eq (by kernel_rfl)
theorem spigotlaw41_RingFew.L7_eq (l : (List Int)) (host : Int) (tenants : (List Int)) (ok : Bool) (i : Int) (l0 : (List Int)) (l1 : (List Int)) (l2 : (List Int)) : spigotlaw41_RingFew.L7 l host tenants ok i l0 l1 l2 =
  spigotlaw41_RingFew.L4 l host tenants ok (IntKind.wrap .i64 (i + 1)) l0 l1 l2 := res_eq (by kernel_rfl)
theorem spigotlaw41_RingFew.F_eq (l : (List Int)) (host : Int) (tenants : (List Int)) : spigotlaw41_RingFew.F l host tenants =
  spigotlaw41_alive.F.bind fun r0 =>
  (spigotref41_Check.F l).bind fun r1 =>
  bif (r1.1 != 0) then
    some (r0.1, ())
  else
    bif (decide ((((List.length l : Int)) : Int) > 11)) then
      some (r0.1, ())
    else
      bif (((List.length l : Int)) == 0) then
        some (r0.1, ())
      else
        (spigotref41_In.F l host).bind fun r2 =>
        bif r2.1 then
          some (r0.1, ())
        else
          bif (decide ((((List.length tenants : Int)) : Int) > 15)) then
            some (r0.1, ())
          else
            bif (!r0.1) then
              some (r0.1, ())
            else
              spigotlaw41_RingFew.L1 l host tenants r0.1 := by kernel_rfl
end Go.Proofs.YteiekaboepdaeaaDoor.PM
