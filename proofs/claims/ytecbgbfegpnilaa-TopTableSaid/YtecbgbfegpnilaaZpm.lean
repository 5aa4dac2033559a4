/- Contracts and equations of the functions, printed by a program of this session: part 2. -/
import Derived.Test.YtecbgbfegpnilaaZpmA
namespace Go.Proofs.Ytecbgbfegpnilaa.PM
open Go Go.Proofs
set_option linter.unusedVariables false
/-! ### spigot/spigotref15.Made (71) -/
noncomputable def spigotref15_Made.sg : Sig := ⟨[.val (.int .i64), .val (.slice (.int .i64))], [(t4, true)]⟩
noncomputable def spigotref15_Made.E : Env := ⟨tl, fun i => look i [], [], eqs, globs, prims⟩
noncomputable def spigotref15_Made.c := cxOf spigotref15_Made.E spigotref15_Made.sg Try.f71
noncomputable def spigotref15_Made.b := body Try.f71
noncomputable def spigotref15_Made.Fn : Fun := fnOf spigotref15_Made.E spigotref15_Made.sg Try.f71
noncomputable def spigotref15_Made.F (n : Int) (l : (List Int)) : Option (t4.den × Unit) := spigotref15_Made.Fn.F (n, l, ())
noncomputable def spigotref15_Made.S1 (n : Int) (l : (List Int)) (i : Int) (l2 : (List Int)) (l4 : (List Int)) : St := ⟨[(0, (.v (.int .i64) n)), (1, (.v (.slice (.int .i64)) l)), (4, (.ptr 0 [])), (5, (.ptr 1 [])), (6, (.v (.int .i64) i))], [(0, some (.box (.agg [(.sl 2), (.sl 3), (.v (.int .i64) 0), (.v (.int .i64) 0)]))), (1, some (.box (.agg [(.sl 4), (.sl 5), (.v (.int .i64) (-1)), (.v (.int .i64) (-1))]))), (2, some (.row (.int .i64) l2 false)), (3, some (.row (.int .i64) l2 false)), (4, some (.row (.int .i64) l4 false)), (5, some (.row (.int .i64) l4 false))], 6, []⟩
noncomputable def spigotref15_Made.L1 (n : Int) (l : (List Int)) (i : Int) (l2 : (List Int)) (l4 : (List Int)) : Option (t4.den × Unit) := res spigotref15_Made.c (atLoop spigotref15_Made.b [1, 1, 0, 1, 0]) (spigotref15_Made.S1 n l i l2 l4)
noncomputable def spigotref15_Made.S2 (n : Int) (l : (List Int)) (i : Int) (l2 : (List Int)) (l4 : (List Int)) : St := ⟨[(0, (.v (.int .i64) n)), (1, (.v (.slice (.int .i64)) l)), (4, (.ptr 0 [])), (5, (.ptr 1 [])), (6, (.v (.int .i64) i))], [(0, some (.box (.agg [(.sl 2), (.sl 3), (.v (.int .i64) 0), (.v (.int .i64) 0)]))), (1, some (.box (.agg [(.sl 4), (.sl 5), (.v (.int .i64) (-1)), (.v (.int .i64) (-1))]))), (2, some (.row (.int .i64) l2 false)), (3, some (.row (.int .i64) l2 false)), (4, some (.row (.int .i64) l4 false)), (5, some (.row (.int .i64) l4 false))], 6, []⟩
noncomputable def spigotref15_Made.L2 (n : Int) (l : (List Int)) (i : Int) (l2 : (List Int)) (l4 : (List Int)) : Option (t4.den × Unit) := res spigotref15_Made.c (atJoin spigotref15_Made.b [1, 1, 0, 1, 0, 0, 0, 1]) (spigotref15_Made.S2 n l i l2 l4)
noncomputable def spigotref15_Made.S3 (l : (List Int)) (i : Int) (b1 : Int) (b12 : Int) (l2 : (List Int)) (l4 : (List Int)) (l5 : (List Int)) : St := ⟨[(1, (.v (.slice (.int .i64)) l)), (4, (.ptr 0 [])), (5, (.ptr 1 [])), (7, (.v (.int .i64) i))], [(0, some (.box (.agg [(.sl 2), (.sl 3), (.v (.int .i64) 0), (.v (.int .i64) 0)]))), (1, some (.box (.agg [(.sl 4), (.sl 5), (.v (.int .i64) b1), (.v (.int .i64) b12)]))), (2, some (.row (.int .i64) l2 false)), (3, some (.row (.int .i64) l2 false)), (4, some (.row (.int .i64) l4 false)), (5, some (.row (.int .i64) l5 false))], 6, []⟩
noncomputable def spigotref15_Made.L3 (l : (List Int)) (i : Int) (b1 : Int) (b12 : Int) (l2 : (List Int)) (l4 : (List Int)) (l5 : (List Int)) : Option (t4.den × Unit) := res spigotref15_Made.c (atLoop spigotref15_Made.b [1, 1, 1, 0, 1, 0]) (spigotref15_Made.S3 l i b1 b12 l2 l4 l5)
noncomputable def spigotref15_Made.S4 (l : (List Int)) (i : Int) (b1 : Int) (b12 : Int) (l2 : (List Int)) (l4 : (List Int)) (l5 : (List Int)) : St := ⟨[(1, (.v (.slice (.int .i64)) l)), (4, (.ptr 0 [])), (5, (.ptr 1 [])), (7, (.v (.int .i64) i))], [(0, some (.box (.agg [(.sl 2), (.sl 3), (.v (.int .i64) 0), (.v (.int .i64) 0)]))), (1, some (.box (.agg [(.sl 4), (.sl 5), (.v (.int .i64) b1), (.v (.int .i64) b12)]))), (2, some (.row (.int .i64) l2 false)), (3, some (.row (.int .i64) l2 false)), (4, some (.row (.int .i64) l4 false)), (5, some (.row (.int .i64) l5 false))], 6, []⟩
noncomputable def spigotref15_Made.L4 (l : (List Int)) (i : Int) (b1 : Int) (b12 : Int) (l2 : (List Int)) (l4 : (List Int)) (l5 : (List Int)) : Option (t4.den × Unit) := res spigotref15_Made.c (atJoin spigotref15_Made.b [1, 1, 1, 0, 1, 0, 0, 0, 1]) (spigotref15_Made.S4 l i b1 b12 l2 l4 l5)
noncomputable def spigotref15_Made.S5 (l : (List Int)) (i : Int) (b1 : Int) (b12 : Int) (l2 : (List Int)) (l4 : (List Int)) (l5 : (List Int)) : St := ⟨[(1, (.v (.slice (.int .i64)) l)), (4, (.ptr 0 [])), (5, (.ptr 1 [])), (7, (.v (.int .i64) i))], [(0, some (.box (.agg [(.sl 2), (.sl 3), (.v (.int .i64) 0), (.v (.int .i64) 0)]))), (1, some (.box (.agg [(.sl 4), (.sl 5), (.v (.int .i64) b1), (.v (.int .i64) b12)]))), (2, some (.row (.int .i64) l2 false)), (3, some (.row (.int .i64) l2 false)), (4, some (.row (.int .i64) l4 false)), (5, some (.row (.int .i64) l5 false))], 6, []⟩
noncomputable def spigotref15_Made.L5 (l : (List Int)) (i : Int) (b1 : Int) (b12 : Int) (l2 : (List Int)) (l4 : (List Int)) (l5 : (List Int)) : Option (t4.den × Unit) := res spigotref15_Made.c (atJoin spigotref15_Made.b [1, 1, 1, 0, 1, 0, 0, 1, 0, 0, 0, 1]) (spigotref15_Made.S5 l i b1 b12 l2 l4 l5)
theorem spigotref15_Made.spec : FnSpec Try.prog globs 71 spigotref15_Made.Fn := spec_of (E := spigotref15_Made.E) (envOk_at tabOk eqOk primsOk (.nil)) mixOk Try.func71 (by kernel_rfl)
theorem spigotref15_Made.L1_eq (n : Int) (l : (List Int)) (i : Int) (l2 : (List Int)) (l4 : (List Int)) : spigotref15_Made.L1 n l i l2 l4 =
  bif (decide ((i : Int) < n)) then
    spigotref15_Made.L2 n l i l2 l4
  else
    spigotref15_Made.L3 l 0 (-1) (-1) l2 l4 l4 := res_eq (by kernel_rfl)
theorem spigotref15_Made.L2_eq (n : Int) (l : (List Int)) (i : Int) (l2 : (List Int)) (l4 : (List Int)) : spigotref15_Made.L2 n l i l2 l4 =
  bif (lim ((List.length l4) + (List.length ([(-1)] : List Int))) (.int .i64)) then
    bif (lim ((List.length l4) + (List.length ([(-1)] : List Int))) (.int .i64)) then
      spigotref15_Made.L1 n l (IntKind.wrap .i64 (i + 1)) l2 (l4 ++ ([(-1)] : List Int))
    else none
  else none := res_eq (by kernel_rfl)
theorem spigotref15_Made.L3_eq (l : (List Int)) (i : Int) (b1 : Int) (b12 : Int) (l2 : (List Int)) (l4 : (List Int)) (l5 : (List Int)) : spigotref15_Made.L3 l i b1 b12 l2 l4 l5 =
  bif (decide ((i : Int) < ((List.length l : Int)))) then
    spigotref15_Made.L4 l i b1 b12 l2 l4 l5
  else
    some ((l4, l5, b1, b12, ()), ()) := res_eq (by kernel_rfl)
theorem spigotref15_Made.L4_eq (l : (List Int)) (i : Int) (b1 : Int) (b12 : Int) (l2 : (List Int)) (l4 : (List Int)) (l5 : (List Int)) : spigotref15_Made.L4 l i b1 b12 l2 l4 l5 =
  bif (i == 0) then
    bif (decide ((0 : Int) ≤ i ∧ (i : Int) < ((List.length l : Int)))) then
      spigotref15_Made.L5 l i (List.getD l (Int.toNat i) 0) b12 l2 l4 l5
    else none
  else
    bif (decide ((0 : Int) ≤ i ∧ (i : Int) < ((List.length l : Int)))) then
      bif (decide ((0 : Int) ≤ (IntKind.wrap .i64 (i - 1)) ∧ ((IntKind.wrap .i64 (i - 1)) : Int) < ((List.length l : Int)))) then
        bif (decide ((0 : Int) ≤ (List.getD l (Int.toNat i) 0) ∧ ((List.getD l (Int.toNat i) 0) : Int) < ((List.length l4 : Int)))) then
          bif (decide ((0 : Int) ≤ (IntKind.wrap .i64 (i - 1)) ∧ ((IntKind.wrap .i64 (i - 1)) : Int) < ((List.length l : Int)))) then
            bif (decide ((0 : Int) ≤ i ∧ (i : Int) < ((List.length l : Int)))) then
              bif (decide ((0 : Int) ≤ (List.getD l (Int.toNat (IntKind.wrap .i64 (i - 1))) 0) ∧ ((List.getD l (Int.toNat (IntKind.wrap .i64 (i - 1))) 0) : Int) < ((List.length l5 : Int)))) then
                spigotref15_Made.L5 l i b1 b12 l2 (List.set l4 (Int.toNat (List.getD l (Int.toNat i) 0)) (List.getD l (Int.toNat (IntKind.wrap .i64 (i - 1))) 0)) (List.set l5 (Int.toNat (List.getD l (Int.toNat (IntKind.wrap .i64 (i - 1))) 0)) (List.getD l (Int.toNat i) 0))
              else none
            else none
          else none
        else none
      else none
    else none := res_eq (by kernel_rfl)
theorem spigotref15_Made.L5_eq (l : (List Int)) (i : Int) (b1 : Int) (b12 : Int) (l2 : (List Int)) (l4 : (List Int)) (l5 : (List Int)) : spigotref15_Made.L5 l i b1 b12 l2 l4 l5 =
  bif (decide ((0 : Int) ≤ i ∧ (i : Int) < ((List.length l : Int)))) then
    spigotref15_Made.L3 l (IntKind.wrap .i64 (i + 1)) b1 (List.getD l (Int.toNat i) 0) l2 l4 l5
  else none := res_eq (by kernel_rfl)
theorem spigotref15_Made.F_eq (n : Int) (l : (List Int)) : spigotref15_Made.F n l =
  spigotref15_Made.L1 n l 0 ([] : List Int) ([] : List Int) := by kernel_rfl
/-! ### spigot/spigotref15.Check (58) -/
noncomputable def spigotref15_Check.sg : Sig := ⟨[.val t4], [((.int .i64), true)]⟩
noncomputable def spigotref15_Check.E : Env := ⟨tl, fun i => look i [(42, spigotref15_Same.Fn), (59, spigotref15_All.Fn), (71, spigotref15_Made.Fn)], [], eqs, globs, prims⟩
noncomputable def spigotref15_Check.c := cxOf spigotref15_Check.E spigotref15_Check.sg Try.f58
noncomputable def spigotref15_Check.b := body Try.f58
noncomputable def spigotref15_Check.Fn : Fun := fnOf spigotref15_Check.E spigotref15_Check.sg Try.f58
noncomputable def spigotref15_Check.F (o : t4.den) : Option (Int × Unit) := spigotref15_Check.Fn.F (o, ())
noncomputable def spigotref15_Check.S1 (b0 : (List Int)) (b02 : (List Int)) (b03 : Int) (b04 : Int) : St := ⟨[(1, (.ptr 0 []))], [(0, some (.box (.agg [(.v (.slice (.int .i64)) b0), (.v (.slice (.int .i64)) b02), (.v (.int .i64) b03), (.v (.int .i64) b04)])))], 1, []⟩
noncomputable def spigotref15_Check.L1 (b0 : (List Int)) (b02 : (List Int)) (b03 : Int) (b04 : Int) : Option (Int × Unit) := res spigotref15_Check.c (atJoin spigotref15_Check.b [1, 0, 1]) (spigotref15_Check.S1 b0 b02 b03 b04)
noncomputable def spigotref15_Check.S2 : St := ⟨[], [], 0, []⟩
noncomputable def spigotref15_Check.L2 : Option (Int × Unit) := res spigotref15_Check.c (atJoin spigotref15_Check.b [1, 1, 1, 0, 1]) (spigotref15_Check.S2)
theorem spigotref15_Check.spec : FnSpec Try.prog globs 58 spigotref15_Check.Fn := spec_of (E := spigotref15_Check.E) (envOk_at tabOk eqOk primsOk (.cons spigotref15_Same.spec <| .cons spigotref15_All.spec <| .cons spigotref15_Made.spec <| .nil)) mixOk Try.func58 (by kernel_rfl)
theorem spigotref15_Check.L1_eq (b0 : (List Int)) (b02 : (List Int)) (b03 : Int) (b04 : Int) : spigotref15_Check.L1 b0 b02 b03 b04 =
  (spigotref15_All.F (b0, b02, b03, b04, ())).bind fun r0 =>
  bif (!r0.2.1) then
    some (8, ())
  else
    (spigotref15_Made.F ((List.length b0 : Int)) r0.1).bind fun r1 =>
    (spigotref15_Same.F (b0, b02, b03, b04, ()) r1.1).bind fun r2 =>
    bif (!r2.1) then
      some (8, ())
    else
      spigotref15_Check.L2 := res_eq (by kernel_rfl)
theorem spigotref15_Check.L2_eq : spigotref15_Check.L2 =
  some (0, ()) := res_eq (by kernel_rfl)
theorem spigotref15_Check.F_eq (o : t4.den) : spigotref15_Check.F o =
  bif (decide ((((List.length o.1 : Int)) : Int) < 1)) then
    some (8, ())
  else
    bif (decide ((((List.length o.1 : Int)) : Int) > 16)) then
      some (8, ())
    else
      bif (((List.length o.2.1 : Int)) != ((List.length o.1 : Int))) then
        some (8, ())
      else
        spigotref15_Check.L1 o.1 o.2.1 o.2.2.1 o.2.2.2.1 := by kernel_rfl
/-! ### spigot/spigotref16.cells (61) -/
noncomputable def spigotref16_cells.sg : Sig := ⟨[.val (.slice t3), .val (.int .i64), .val (.int .u32)], [((.int .i64), true), (.bool, true)]⟩
noncomputable def spigotref16_cells.E : Env := ⟨tl, fun i => look i [], [], eqs, globs, prims⟩
noncomputable def spigotref16_cells.c := cxOf spigotref16_cells.E spigotref16_cells.sg Try.f61
noncomputable def spigotref16_cells.b := body Try.f61
noncomputable def spigotref16_cells.Fn : Fun := fnOf spigotref16_cells.E spigotref16_cells.sg Try.f61
noncomputable def spigotref16_cells.F (x : (List t3.den)) (place : Int) (key : Int) : Option (Int × Bool × Unit) := spigotref16_cells.Fn.F (x, place, key, ())
noncomputable def spigotref16_cells.S1 (x : (List t3.den)) (place : Int) (key : Int) (n : Int) (same : Bool) (i : Int) : St := ⟨[(0, (.v (.slice t3) x)), (1, (.v (.int .i64) place)), (2, (.v (.int .u32) key)), (8, (.v (.int .i64) n)), (9, (.v .bool same)), (10, (.v (.int .i64) i))], [], 0, []⟩
noncomputable def spigotref16_cells.L1 (x : (List t3.den)) (place : Int) (key : Int) (n : Int) (same : Bool) (i : Int) : Option (Int × Bool × Unit) := res spigotref16_cells.c (atLoop spigotref16_cells.b [1, 1, 0, 1, 0]) (spigotref16_cells.S1 x place key n same i)
noncomputable def spigotref16_cells.S2 (x : (List t3.den)) (place : Int) (key : Int) (n : Int) (same : Bool) (i : Int) : St := ⟨[(0, (.v (.slice t3) x)), (1, (.v (.int .i64) place)), (2, (.v (.int .u32) key)), (8, (.v (.int .i64) n)), (9, (.v .bool same)), (10, (.v (.int .i64) i))], [], 0, []⟩
noncomputable def spigotref16_cells.L2 (x : (List t3.den)) (place : Int) (key : Int) (n : Int) (same : Bool) (i : Int) : Option (Int × Bool × Unit) := res spigotref16_cells.c (atJoin spigotref16_cells.b [1, 1, 0, 1, 0, 0, 0, 1]) (spigotref16_cells.S2 x place key n same i)
noncomputable def spigotref16_cells.S3 (x : (List t3.den)) (place : Int) (key : Int) (n : Int) (same : Bool) (i : Int) : St := ⟨[(0, (.v (.slice t3) x)), (1, (.v (.int .i64) place)), (2, (.v (.int .u32) key)), (8, (.v (.int .i64) n)), (9, (.v .bool same)), (10, (.v (.int .i64) i))], [], 0, []⟩
noncomputable def spigotref16_cells.L3 (x : (List t3.den)) (place : Int) (key : Int) (n : Int) (same : Bool) (i : Int) : Option (Int × Bool × Unit) := res spigotref16_cells.c (atJoin spigotref16_cells.b [1, 1, 0, 1, 0, 0, 1, 0, 0, 1]) (spigotref16_cells.S3 x place key n same i)
theorem spigotref16_cells.spec : FnSpec Try.prog globs 61 spigotref16_cells.Fn := spec_of (E := spigotref16_cells.E) (envOk_at tabOk eqOk primsOk (.nil)) mixOk Try.func61 (by kernel_rfl)
theorem spigotref16_cells.L1_eq (x : (List t3.den)) (place : Int) (key : Int) (n : Int) (same : Bool) (i : Int) : spigotref16_cells.L1 x place key n same i =
  bif (decide ((i : Int) < ((List.length x : Int)))) then
    spigotref16_cells.L2 x place key n same i
  else
    some (n, same, ()) := res_eq (by kernel_rfl)
theorem spigotref16_cells.L2_eq (x : (List t3.den)) (place : Int) (key : Int) (n : Int) (same : Bool) (i : Int) : spigotref16_cells.L2 x place key n same i =
  bif (decide ((0 : Int) ≤ i ∧ (i : Int) < ((List.length x : Int)))) then
    bif (((List.getD x (Int.toNat i) (0, 0, false, ())).2).2).1 then
      bif (decide ((0 : Int) ≤ i ∧ (i : Int) < ((List.length x : Int)))) then
        bif (((List.getD x (Int.toNat i) (0, 0, false, ())).2).1 == place) then
          bif same then
            bif (decide ((0 : Int) ≤ i ∧ (i : Int) < ((List.length x : Int)))) then
              spigotref16_cells.L3 x place key (IntKind.wrap .i64 (n + 1)) ((List.getD x (Int.toNat i) (0, 0, false, ())).1 == key) i
            else none
          else
            spigotref16_cells.L3 x place key (IntKind.wrap .i64 (n + 1)) false i
        else
          spigotref16_cells.L3 x place key n same i
      else none
    else
      spigotref16_cells.L3 x place key n same i
  else none := res_eq (by kernel_rfl)
theorem spigotref16_cells.L3_eq (x : (List t3.den)) (place : Int) (key : Int) (n : Int) (same : Bool) (i : Int) : spigotref16_cells.L3 x place key n same i =
  spigotref16_cells.L1 x place key n same (IntKind.wrap .i64 (i + 1)) := res_eq (by kernel_rfl)
theorem spigotref16_cells.F_eq (x : (List t3.den)) (place : Int) (key : Int) : spigotref16_cells.F x place key =
  spigotref16_cells.L1 x place key 0 true 0 := by kernel_rfl
/-! ### spigot/spigotref03.CheckLimit (72) -/
noncomputable def spigotref03_CheckLimit.sg : Sig := ⟨[.val t0], [((.int .i64), true)]⟩
noncomputable def spigotref03_CheckLimit.E : Env := ⟨tl, fun i => look i [], [], eqs, globs, prims⟩
noncomputable def spigotref03_CheckLimit.c := cxOf spigotref03_CheckLimit.E spigotref03_CheckLimit.sg Try.f72
noncomputable def spigotref03_CheckLimit.b := body Try.f72
noncomputable def spigotref03_CheckLimit.Fn : Fun := fnOf spigotref03_CheckLimit.E spigotref03_CheckLimit.sg Try.f72
noncomputable def spigotref03_CheckLimit.F (l : t0.den) : Option (Int × Unit) := spigotref03_CheckLimit.Fn.F (l, ())
noncomputable def spigotref03_CheckLimit.S1 : St := ⟨[], [], 0, []⟩
noncomputable def spigotref03_CheckLimit.L1 : Option (Int × Unit) := res spigotref03_CheckLimit.c (atJoin spigotref03_CheckLimit.b [1, 0, 1]) (spigotref03_CheckLimit.S1)
theorem spigotref03_CheckLimit.spec : FnSpec Try.prog globs 72 spigotref03_CheckLimit.Fn := spec_of (E := spigotref03_CheckLimit.E) (envOk_at tabOk eqOk primsOk (.nil)) mixOk Try.func72 (by kernel_rfl)
theorem spigotref03_CheckLimit.L1_eq : spigotref03_CheckLimit.L1 =
  some (0, ()) := res_eq (by kernel_rfl)
theorem spigotref03_CheckLimit.F_eq (l : t0.den) : spigotref03_CheckLimit.F l =
  bif (decide ((l.1 : Int) < 1)) then
    some (8, ())
  else
    bif (decide ((l.1 : Int) > 1000000000)) then
      some (8, ())
    else
      bif (decide ((l.2.1 : Int) < 0)) then
        some (8, ())
      else
        bif (decide ((l.2.1 : Int) > 1000000000)) then
          some (8, ())
        else
          bif (decide ((l.2.2.1 : Int) < 1)) then
            some (8, ())
          else
            bif (decide ((l.2.2.1 : Int) > 1000000000)) then
              some (8, ())
            else
              spigotref03_CheckLimit.L1 := by kernel_rfl
/-! ### spigot/spigotref03.Check (63) -/
noncomputable def spigotref03_Check.sg : Sig := ⟨[.val t1], [((.int .i64), true)]⟩
noncomputable def spigotref03_Check.E : Env := ⟨tl, fun i => look i [(72, spigotref03_CheckLimit.Fn)], [], eqs, globs, prims⟩
noncomputable def spigotref03_Check.c := cxOf spigotref03_Check.E spigotref03_Check.sg Try.f63
noncomputable def spigotref03_Check.b := body Try.f63
noncomputable def spigotref03_Check.Fn : Fun := fnOf spigotref03_Check.E spigotref03_Check.sg Try.f63
noncomputable def spigotref03_Check.F (b : t1.den) : Option (Int × Unit) := spigotref03_Check.Fn.F (b, ())
noncomputable def spigotref03_Check.S1 : St := ⟨[], [], 0, []⟩
noncomputable def spigotref03_Check.L1 : Option (Int × Unit) := res spigotref03_Check.c (atJoin spigotref03_Check.b [1, 0, 1]) (spigotref03_Check.S1)
theorem spigotref03_Check.spec : FnSpec Try.prog globs 63 spigotref03_Check.Fn := spec_of (E := spigotref03_Check.E) (envOk_at tabOk eqOk primsOk (.cons spigotref03_CheckLimit.spec <| .nil)) mixOk Try.func63 (by kernel_rfl)
theorem spigotref03_Check.L1_eq : spigotref03_Check.L1 =
  some (0, ()) := res_eq (by kernel_rfl)
theorem spigotref03_Check.F_eq (b : t1.den) : spigotref03_Check.F b =
  (spigotref03_CheckLimit.F b.1).bind fun r0 =>
  bif (r0.1 != 0) then
    some (8, ())
  else
    bif (decide ((b.2.1 : Int) < 0)) then
      some (8, ())
    else
      bif (decide ((b.2.1 : Int) > b.1.1)) then
        some (8, ())
      else
        bif (decide ((b.2.2.1 : Int) < 0)) then
          some (8, ())
        else
          bif (decide ((b.2.2.1 : Int) ≥ b.1.2.2.1)) then
            some (8, ())
          else
            bif (b.2.1 == b.1.1) then
              bif (b.2.2.1 != 0) then
                some (8, ())
              else
                spigotref03_Check.L1
            else
              spigotref03_Check.L1 := by kernel_rfl
/-! ### spigot/spigotref16.Check (40) -/
noncomputable def spigotref16_Check.sg : Sig := ⟨[.val t5], [((.int .i64), true)]⟩
noncomputable def spigotref16_Check.E : Env := ⟨tl, fun i => look i [(56, spigotref13_Check.Fn), (57, spigotref14_Check.Fn), (58, spigotref15_Check.Fn), (59, spigotref15_All.Fn), (60, spigotref14_Count.Fn), (61, spigotref16_cells.Fn), (62, spigotref13_In.Fn), (63, spigotref03_Check.Fn)], [], eqs, globs, prims⟩
noncomputable def spigotref16_Check.c := cxOf spigotref16_Check.E spigotref16_Check.sg Try.f40
noncomputable def spigotref16_Check.b := body Try.f40
noncomputable def spigotref16_Check.Fn : Fun := fnOf spigotref16_Check.E spigotref16_Check.sg Try.f40
noncomputable def spigotref16_Check.F (t : t5.den) : Option (Int × Unit) := spigotref16_Check.Fn.F (t, ())
noncomputable def spigotref16_Check.S1 (b0 : Int) (b02 : (List Int)) (b03 : (List t1.den)) (b04 : (List Int)) (b05 : (List Bool)) (b06 : Int) (b07 : (List t3.den)) (b08 : (List Int)) (b09 : (List Int)) (b010 : Int) (b011 : Int) : St := ⟨[(1, (.ptr 0 []))], [(0, some (.box (.agg [(.v (.int .i64) b0), (.v (.slice (.int .u32)) b02), (.v (.slice t1) b03), (.agg [(.v (.slice (.int .i64)) b04), (.v (.slice .bool) b05), (.v (.int .i64) b06)]), (.v (.slice t3) b07), (.agg [(.v (.slice (.int .i64)) b08), (.v (.slice (.int .i64)) b09), (.v (.int .i64) b010), (.v (.int .i64) b011)])])))], 1, []⟩
noncomputable def spigotref16_Check.L1 (b0 : Int) (b02 : (List Int)) (b03 : (List t1.den)) (b04 : (List Int)) (b05 : (List Bool)) (b06 : Int) (b07 : (List t3.den)) (b08 : (List Int)) (b09 : (List Int)) (b010 : Int) (b011 : Int) : Option (Int × Unit) := res spigotref16_Check.c (atJoin spigotref16_Check.b [1, 0, 1]) (spigotref16_Check.S1 b0 b02 b03 b04 b05 b06 b07 b08 b09 b010 b011)
noncomputable def spigotref16_Check.S2 (b0 : Int) (b02 : (List Int)) (b03 : (List t1.den)) (b04 : (List Int)) (b05 : (List Bool)) (b06 : Int) (b07 : (List t3.den)) (b08 : (List Int)) (b09 : (List Int)) (b010 : Int) (b011 : Int) : St := ⟨[(1, (.ptr 0 []))], [(0, some (.box (.agg [(.v (.int .i64) b0), (.v (.slice (.int .u32)) b02), (.v (.slice t1) b03), (.agg [(.v (.slice (.int .i64)) b04), (.v (.slice .bool) b05), (.v (.int .i64) b06)]), (.v (.slice t3) b07), (.agg [(.v (.slice (.int .i64)) b08), (.v (.slice (.int .i64)) b09), (.v (.int .i64) b010), (.v (.int .i64) b011)])])))], 1, []⟩
noncomputable def spigotref16_Check.L2 (b0 : Int) (b02 : (List Int)) (b03 : (List t1.den)) (b04 : (List Int)) (b05 : (List Bool)) (b06 : Int) (b07 : (List t3.den)) (b08 : (List Int)) (b09 : (List Int)) (b010 : Int) (b011 : Int) : Option (Int × Unit) := res spigotref16_Check.c (atJoin spigotref16_Check.b [1, 1, 0, 1]) (spigotref16_Check.S2 b0 b02 b03 b04 b05 b06 b07 b08 b09 b010 b011)
noncomputable def spigotref16_Check.S3 (b0 : Int) (b02 : (List Int)) (b03 : (List t1.den)) (b04 : (List Int)) (b05 : (List Bool)) (b06 : Int) (b07 : (List t3.den)) (b08 : (List Int)) (b09 : (List Int)) (b010 : Int) (b011 : Int) (l1 : (List Int)) : St := ⟨[(1, (.ptr 0 [])), (3, (.sl 1))], [(0, some (.box (.agg [(.v (.int .i64) b0), (.v (.slice (.int .u32)) b02), (.v (.slice t1) b03), (.agg [(.v (.slice (.int .i64)) b04), (.v (.slice .bool) b05), (.v (.int .i64) b06)]), (.v (.slice t3) b07), (.agg [(.v (.slice (.int .i64)) b08), (.v (.slice (.int .i64)) b09), (.v (.int .i64) b010), (.v (.int .i64) b011)])]))), (1, some (.row (.int .i64) l1 false))], 2, []⟩
noncomputable def spigotref16_Check.L3 (b0 : Int) (b02 : (List Int)) (b03 : (List t1.den)) (b04 : (List Int)) (b05 : (List Bool)) (b06 : Int) (b07 : (List t3.den)) (b08 : (List Int)) (b09 : (List Int)) (b010 : Int) (b011 : Int) (l1 : (List Int)) : Option (Int × Unit) := res spigotref16_Check.c (atJoin spigotref16_Check.b [1, 1, 1, 1, 0, 1]) (spigotref16_Check.S3 b0 b02 b03 b04 b05 b06 b07 b08 b09 b010 b011 l1)
noncomputable def spigotref16_Check.S4 (i : Int) (b0 : Int) (b02 : (List Int)) (b03 : (List t1.den)) (b04 : (List Int)) (b05 : (List Bool)) (b06 : Int) (b07 : (List t3.den)) (b08 : (List Int)) (b09 : (List Int)) (b010 : Int) (b011 : Int) (l1 : (List Int)) : St := ⟨[(1, (.ptr 0 [])), (3, (.sl 1)), (5, (.v (.int .i64) i))], [(0, some (.box (.agg [(.v (.int .i64) b0), (.v (.slice (.int .u32)) b02), (.v (.slice t1) b03), (.agg [(.v (.slice (.int .i64)) b04), (.v (.slice .bool) b05), (.v (.int .i64) b06)]), (.v (.slice t3) b07), (.agg [(.v (.slice (.int .i64)) b08), (.v (.slice (.int .i64)) b09), (.v (.int .i64) b010), (.v (.int .i64) b011)])]))), (1, some (.row (.int .i64) l1 false))], 2, []⟩
noncomputable def spigotref16_Check.L4 (i : Int) (b0 : Int) (b02 : (List Int)) (b03 : (List t1.den)) (b04 : (List Int)) (b05 : (List Bool)) (b06 : Int) (b07 : (List t3.den)) (b08 : (List Int)) (b09 : (List Int)) (b010 : Int) (b011 : Int) (l1 : (List Int)) : Option (Int × Unit) := res spigotref16_Check.c (atLoop spigotref16_Check.b [1, 1, 1, 1, 1, 0, 1, 0]) (spigotref16_Check.S4 i b0 b02 b03 b04 b05 b06 b07 b08 b09 b010 b011 l1)
noncomputable def spigotref16_Check.S5 (i : Int) (b0 : Int) (b02 : (List Int)) (b03 : (List t1.den)) (b04 : (List Int)) (b05 : (List Bool)) (b06 : Int) (b07 : (List t3.den)) (b08 : (List Int)) (b09 : (List Int)) (b010 : Int) (b011 : Int) (l1 : (List Int)) : St := ⟨[(1, (.ptr 0 [])), (3, (.sl 1)), (5, (.v (.int .i64) i))], [(0, some (.box (.agg [(.v (.int .i64) b0), (.v (.slice (.int .u32)) b02), (.v (.slice t1) b03), (.agg [(.v (.slice (.int .i64)) b04), (.v (.slice .bool) b05), (.v (.int .i64) b06)]), (.v (.slice t3) b07), (.agg [(.v (.slice (.int .i64)) b08), (.v (.slice (.int .i64)) b09), (.v (.int .i64) b010), (.v (.int .i64) b011)])]))), (1, some (.row (.int .i64) l1 false))], 2, []⟩
noncomputable def spigotref16_Check.L5 (i : Int) (b0 : Int) (b02 : (List Int)) (b03 : (List t1.den)) (b04 : (List Int)) (b05 : (List Bool)) (b06 : Int) (b07 : (List t3.den)) (b08 : (List Int)) (b09 : (List Int)) (b010 : Int) (b011 : Int) (l1 : (List Int)) : Option (Int × Unit) := res spigotref16_Check.c (atJoin spigotref16_Check.b [1, 1, 1, 1, 1, 0, 1, 0, 0, 0, 1]) (spigotref16_Check.S5 i b0 b02 b03 b04 b05 b06 b07 b08 b09 b010 b011 l1)
noncomputable def spigotref16_Check.S6 (i : Int) (b0 : Int) (b02 : (List Int)) (b03 : (List t1.den)) (b04 : (List Int)) (b05 : (List Bool)) (b06 : Int) (b07 : (List t3.den)) (b08 : (List Int)) (b09 : (List Int)) (b010 : Int) (b011 : Int) (l1 : (List Int)) : St := ⟨[(1, (.ptr 0 [])), (3, (.sl 1)), (5, (.v (.int .i64) i))], [(0, some (.box (.agg [(.v (.int .i64) b0), (.v (.slice (.int .u32)) b02), (.v (.slice t1) b03), (.agg [(.v (.slice (.int .i64)) b04), (.v (.slice .bool) b05), (.v (.int .i64) b06)]), (.v (.slice t3) b07), (.agg [(.v (.slice (.int .i64)) b08), (.v (.slice (.int .i64)) b09), (.v (.int .i64) b010), (.v (.int .i64) b011)])]))), (1, some (.row (.int .i64) l1 false))], 2, []⟩
noncomputable def spigotref16_Check.L6 (i : Int) (b0 : Int) (b02 : (List Int)) (b03 : (List t1.den)) (b04 : (List Int)) (b05 : (List Bool)) (b06 : Int) (b07 : (List t3.den)) (b08 : (List Int)) (b09 : (List Int)) (b010 : Int) (b011 : Int) (l1 : (List Int)) : Option (Int × Unit) := res spigotref16_Check.c (atJoin spigotref16_Check.b [1, 1, 1, 1, 1, 0, 1, 0, 0, 1, 0, 0, 1, 0, 1]) (spigotref16_Check.S6 i b0 b02 b03 b04 b05 b06 b07 b08 b09 b010 b011 l1)
noncomputable def spigotref16_Check.S7 (i : Int) (b0 : Int) (b02 : (List Int)) (b03 : (List t1.den)) (b04 : (List Int)) (b05 : (List Bool)) (b06 : Int) (b07 : (List t3.den)) (b08 : (List Int)) (b09 : (List Int)) (b010 : Int) (b011 : Int) (l1 : (List Int)) : St := ⟨[(1, (.ptr 0 [])), (3, (.sl 1)), (5, (.v (.int .i64) i))], [(0, some (.box (.agg [(.v (.int .i64) b0), (.v (.slice (.int .u32)) b02), (.v (.slice t1) b03), (.agg [(.v (.slice (.int .i64)) b04), (.v (.slice .bool) b05), (.v (.int .i64) b06)]), (.v (.slice t3) b07), (.agg [(.v (.slice (.int .i64)) b08), (.v (.slice (.int .i64)) b09), (.v (.int .i64) b010), (.v (.int .i64) b011)])]))), (1, some (.row (.int .i64) l1 false))], 2, []⟩
noncomputable def spigotref16_Check.L7 (i : Int) (b0 : Int) (b02 : (List Int)) (b03 : (List t1.den)) (b04 : (List Int)) (b05 : (List Bool)) (b06 : Int) (b07 : (List t3.den)) (b08 : (List Int)) (b09 : (List Int)) (b010 : Int) (b011 : Int) (l1 : (List Int)) : Option (Int × Unit) := res spigotref16_Check.c (atJoin spigotref16_Check.b [1, 1, 1, 1, 1, 0, 1, 0, 0, 1, 0, 0, 1, 1, 0, 1]) (spigotref16_Check.S7 i b0 b02 b03 b04 b05 b06 b07 b08 b09 b010 b011 l1)
noncomputable def spigotref16_Check.S8 (i : Int) (b0 : Int) (b02 : (List Int)) (b03 : (List t1.den)) (b04 : (List Int)) (b05 : (List Bool)) (b06 : Int) (b07 : (List t3.den)) (b08 : (List Int)) (b09 : (List Int)) (b010 : Int) (b011 : Int) (l1 : (List Int)) : St := ⟨[(1, (.ptr 0 [])), (3, (.sl 1)), (5, (.v (.int .i64) i))], [(0, some (.box (.agg [(.v (.int .i64) b0), (.v (.slice (.int .u32)) b02), (.v (.slice t1) b03), (.agg [(.v (.slice (.int .i64)) b04), (.v (.slice .bool) b05), (.v (.int .i64) b06)]), (.v (.slice t3) b07), (.agg [(.v (.slice (.int .i64)) b08), (.v (.slice (.int .i64)) b09), (.v (.int .i64) b010), (.v (.int .i64) b011)])]))), (1, some (.row (.int .i64) l1 false))], 2, []⟩
noncomputable def spigotref16_Check.L8 (i : Int) (b0 : Int) (b02 : (List Int)) (b03 : (List t1.den)) (b04 : (List Int)) (b05 : (List Bool)) (b06 : Int) (b07 : (List t3.den)) (b08 : (List Int)) (b09 : (List Int)) (b010 : Int) (b011 : Int) (l1 : (List Int)) : Option (Int × Unit) := res spigotref16_Check.c (atJoin spigotref16_Check.b [1, 1, 1, 1, 1, 0, 1, 0, 0, 1, 0, 0, 1, 1, 1, 1]) (spigotref16_Check.S8 i b0 b02 b03 b04 b05 b06 b07 b08 b09 b010 b011 l1)
theorem spigotref16_Check.spec : FnSpec Try.prog globs 40 spigotref16_Check.Fn := spec_of (E := spigotref16_Check.E) (envOk_at tabOk eqOk primsOk (.cons spigotref13_Check.spec <| .cons spigotref14_Check.spec <| .cons spigotref15_Check.spec <| .cons spigotref15_All.spec <| .cons spigotref14_Count.spec <| .cons spigotref16_cells.spec <| .cons spigotref13_In.spec <| .cons spigotref03_Check.spec <| .nil)) mixOk Try.func40 (by kernel_rfl)
theorem spigotref16_Check.L1_eq (b0 : Int) (b02 : (List Int)) (b03 : (List t1.den)) (b04 : (List Int)) (b05 : (List Bool)) (b06 : Int) (b07 : (List t3.den)) (b08 : (List Int)) (b09 : (List Int)) (b010 : Int) (b011 : Int) : spigotref16_Check.L1 b0 b02 b03 b04 b05 b06 b07 b08 b09 b010 b011 =
  (spigotref13_Check.F (b04, b05, b06, ())).bind fun r0 =>
  bif (r0.1 != 0) then
    some (8, ())
  else
    (spigotref14_Check.F b07).bind fun r1 =>
    bif (r1.1 != 0) then
      some (8, ())
    else
      (spigotref15_Check.F (b08, b09, b010, b011, ())).bind fun r2 =>
      bif (r2.1 != 0) then
        some (8, ())
      else
        spigotref16_Check.L2 b0 b02 b03 b04 b05 b06 b07 b08 b09 b010 b011 := res_eq (by kernel_rfl)
theorem spigotref16_Check.L2_eq (b0 : Int) (b02 : (List Int)) (b03 : (List t1.den)) (b04 : (List Int)) (b05 : (List Bool)) (b06 : Int) (b07 : (List t3.den)) (b08 : (List Int)) (b09 : (List Int)) (b010 : Int) (b011 : Int) : spigotref16_Check.L2 b0 b02 b03 b04 b05 b06 b07 b08 b09 b010 b011 =
  (spigotref15_All.F (b08, b09, b010, b011, ())).bind fun r0 =>
  (spigotref14_Count.F b07).bind fun r1 =>
  bif (r1.1 != ((List.length r0.1 : Int))) then
    some (8, ())
  else
    spigotref16_Check.L3 b0 b02 b03 b04 b05 b06 b07 b08 b09 b010 b011 r0.1 := res_eq (by kernel_rfl)
theorem spigotref16_Check.L3_eq (b0 : Int) (b02 : (List Int)) (b03 : (List t1.den)) (b04 : (List Int)) (b05 : (List Bool)) (b06 : Int) (b07 : (List t3.den)) (b08 : (List Int)) (b09 : (List Int)) (b010 : Int) (b011 : Int) (l1 : (List Int)) : spigotref16_Check.L3 b0 b02 b03 b04 b05 b06 b07 b08 b09 b010 b011 l1 =
  spigotref16_Check.L4 0 b0 b02 b03 b04 b05 b06 b07 b08 b09 b010 b011 l1 := res_eq (by kernel_rfl)
theorem spigotref16_Check.L4_eq (i : Int) (b0 : Int) (b02 : (List Int)) (b03 : (List t1.den)) (b04 : (List Int)) (b05 : (List Bool)) (b06 : Int) (b07 : (List t3.den)) (b08 : (List Int)) (b09 : (List Int)) (b010 : Int) (b011 : Int) (l1 : (List Int)) : spigotref16_Check.L4 i b0 b02 b03 b04 b05 b06 b07 b08 b09 b010 b011 l1 =
  bif (decide ((i : Int) < b0)) then
    spigotref16_Check.L5 i b0 b02 b03 b04 b05 b06 b07 b08 b09 b010 b011 l1
  else
    some (0, ()) := res_eq (by kernel_rfl)
theorem spigotref16_Check.L5_eq (i : Int) (b0 : Int) (b02 : (List Int)) (b03 : (List t1.den)) (b04 : (List Int)) (b05 : (List Bool)) (b06 : Int) (b07 : (List t3.den)) (b08 : (List Int)) (b09 : (List Int)) (b010 : Int) (b011 : Int) (l1 : (List Int)) : spigotref16_Check.L5 i b0 b02 b03 b04 b05 b06 b07 b08 b09 b010 b011 l1 =
  bif (decide ((0 : Int) ≤ i ∧ (i : Int) < ((List.length b02 : Int)))) then
    (spigotref16_cells.F b07 i (List.getD b02 (Int.toNat i) 0)).bind fun r0 =>
    bif (decide ((0 : Int) ≤ i ∧ (i : Int) < ((List.length b05 : Int)))) then
      (spigotref13_In.F l1 i).bind fun r1 =>
      bif (!((List.getD b05 (Int.toNat i) false) == r1.1)) then
        some (8, ())
      else
        bif (decide ((0 : Int) ≤ i ∧ (i : Int) < ((List.length b05 : Int)))) then
          bif (!((List.getD b05 (Int.toNat i) false) == (r0.1 == 1))) then
            some (8, ())
          else
            bif (!r0.2.1) then
              some (8, ())
            else
              spigotref16_Check.L6 i b0 b02 b03 b04 b05 b06 b07 b08 b09 b010 b011 l1
        else none
    else none
  else none := res_eq (by kernel_rfl)
theorem spigotref16_Check.L6_eq (i : Int) (b0 : Int) (b02 : (List Int)) (b03 : (List t1.den)) (b04 : (List Int)) (b05 : (List Bool)) (b06 : Int) (b07 : (List t3.den)) (b08 : (List Int)) (b09 : (List Int)) (b010 : Int) (b011 : Int) (l1 : (List Int)) : spigotref16_Check.L6 i b0 b02 b03 b04 b05 b06 b07 b08 b09 b010 b011 l1 =
  bif (decide ((0 : Int) ≤ i ∧ (i : Int) < ((List.length b05 : Int)))) then
    bif (List.getD b05 (Int.toNat i) false) then
      bif (decide ((0 : Int) ≤ i ∧ (i : Int) < ((List.length b03 : Int)))) then
        (spigotref03_Check.F (List.getD b03 (Int.toNat i) ((0, 0, 0, ()), 0, 0, 0, ()))).bind fun r0 =>
        bif (r0.1 != 0) then
          some (8, ())
        else
          spigotref16_Check.L7 i b0 b02 b03 b04 b05 b06 b07 b08 b09 b010 b011 l1
      else none
    else
      spigotref16_Check.L7 i b0 b02 b03 b04 b05 b06 b07 b08 b09 b010 b011 l1
  else none := res_eq (by kernel_rfl)
theorem spigotref16_Check.L7_eq (i : Int) (b0 : Int) (b02 : (List Int)) (b03 : (List t1.den)) (b04 : (List Int)) (b05 : (List Bool)) (b06 : Int) (b07 : (List t3.den)) (b08 : (List Int)) (b09 : (List Int)) (b010 : Int) (b011 : Int) (l1 : (List Int)) : spigotref16_Check.L7 i b0 b02 b03 b04 b05 b06 b07 b08 b09 b010 b011 l1 =
  bif (decide ((0 : Int) ≤ i ∧ (i : Int) < ((List.length b05 : Int)))) then
    bif (!(List.getD b05 (Int.toNat i) false)) then
      bif (decide ((0 : Int) ≤ i ∧ (i : Int) < ((List.length b02 : Int)))) then
        bif ((List.getD b02 (Int.toNat i) 0) != 0) then
          some (8, ())
        else
          bif (decide ((0 : Int) ≤ i ∧ (i : Int) < ((List.length b03 : Int)))) then
            bif (!(Ty.beq t1 (List.getD b03 (Int.toNat i) ((0, 0, 0, ()), 0, 0, 0, ())) ((0, 0, 0, ()), 0, 0, 0, ()))) then
              some (8, ())
            else
              spigotref16_Check.L8 i b0 b02 b03 b04 b05 b06 b07 b08 b09 b010 b011 l1
          else none
      else none
    else
      spigotref16_Check.L8 i b0 b02 b03 b04 b05 b06 b07 b08 b09 b010 b011 l1
  else none := res_eq (by kernel_rfl)
theorem spigotref16_Check.L8_eq (i : Int) (b0 : Int) (b02 : (List Int)) (b03 : (List t1.den)) (b04 : (List Int)) (b05 : (List Bool)) (b06 : Int) (b07 : (List t3.den)) (b08 : (List Int)) (b09 : (List Int)) (b010 : Int) (b011 : Int) (l1 : (List Int)) : spigotref16_Check.L8 i b0 b02 b03 b04 b05 b06 b07 b08 b09 b010 b011 l1 =
  spigotref16_Check.L4 (IntKind.wrap .i64 (i + 1)) b0 b02 b03 b04 b05 b06 b07 b08 b09 b010 b011 l1 := res_eq (by kernel_rfl)
theorem spigotref16_Check.F_eq (t : t5.den) : spigotref16_Check.F t =
  bif (decide ((t.1 : Int) < 1)) then
    some (8, ())
  else
    bif (decide ((t.1 : Int) > 8)) then
      some (8, ())
    else
      bif (((List.length t.2.1 : Int)) != t.1) then
        some (8, ())
      else
        bif (((List.length t.2.2.1 : Int)) != t.1) then
          some (8, ())
        else
          bif (((List.length t.2.2.2.1.1 : Int)) != t.1) then
            some (8, ())
          else
            bif (((List.length t.2.2.2.2.2.1.1 : Int)) != t.1) then
              some (8, ())
            else
              spigotref16_Check.L1 t.1 t.2.1 t.2.2.1 t.2.2.2.1.1 t.2.2.2.1.2.1 t.2.2.2.1.2.2.1 t.2.2.2.2.1 t.2.2.2.2.2.1.1 t.2.2.2.2.2.1.2.1 t.2.2.2.2.2.1.2.2.1 t.2.2.2.2.2.1.2.2.2.1 := by kernel_rfl
/-! ### spigot/spigotref13.Same (41) -/
noncomputable def spigotref13_Same.sg : Sig := ⟨[.val t2, .val t2], [(.bool, true)]⟩
noncomputable def spigotref13_Same.E : Env := ⟨tl, fun i => look i [], [], eqs, globs, prims⟩
noncomputable def spigotref13_Same.c := cxOf spigotref13_Same.E spigotref13_Same.sg Try.f41
noncomputable def spigotref13_Same.b := body Try.f41
noncomputable def spigotref13_Same.Fn : Fun := fnOf spigotref13_Same.E spigotref13_Same.sg Try.f41
noncomputable def spigotref13_Same.F (a : t2.den) (b : t2.den) : Option (Bool × Unit) := spigotref13_Same.Fn.F (a, b, ())
noncomputable def spigotref13_Same.S1 (b0 : (List Int)) (b02 : (List Bool)) (b03 : Int) (b1 : (List Int)) (b12 : (List Bool)) (b13 : Int) : St := ⟨[(2, (.ptr 0 [])), (3, (.ptr 1 []))], [(0, some (.box (.agg [(.v (.slice (.int .i64)) b0), (.v (.slice .bool) b02), (.v (.int .i64) b03)]))), (1, some (.box (.agg [(.v (.slice (.int .i64)) b1), (.v (.slice .bool) b12), (.v (.int .i64) b13)])))], 2, []⟩
noncomputable def spigotref13_Same.L1 (b0 : (List Int)) (b02 : (List Bool)) (b03 : Int) (b1 : (List Int)) (b12 : (List Bool)) (b13 : Int) : Option (Bool × Unit) := res spigotref13_Same.c (atJoin spigotref13_Same.b [1, 0, 1]) (spigotref13_Same.S1 b0 b02 b03 b1 b12 b13)
noncomputable def spigotref13_Same.S2 (i : Int) (b0 : (List Int)) (b02 : (List Bool)) (b03 : Int) (b1 : (List Int)) (b12 : (List Bool)) (b13 : Int) : St := ⟨[(2, (.ptr 0 [])), (3, (.ptr 1 [])), (5, (.v (.int .i64) i))], [(0, some (.box (.agg [(.v (.slice (.int .i64)) b0), (.v (.slice .bool) b02), (.v (.int .i64) b03)]))), (1, some (.box (.agg [(.v (.slice (.int .i64)) b1), (.v (.slice .bool) b12), (.v (.int .i64) b13)])))], 2, []⟩
noncomputable def spigotref13_Same.L2 (i : Int) (b0 : (List Int)) (b02 : (List Bool)) (b03 : Int) (b1 : (List Int)) (b12 : (List Bool)) (b13 : Int) : Option (Bool × Unit) := res spigotref13_Same.c (atLoop spigotref13_Same.b [1, 1, 0, 1, 0]) (spigotref13_Same.S2 i b0 b02 b03 b1 b12 b13)
noncomputable def spigotref13_Same.S3 (i : Int) (b0 : (List Int)) (b02 : (List Bool)) (b03 : Int) (b1 : (List Int)) (b12 : (List Bool)) (b13 : Int) : St := ⟨[(2, (.ptr 0 [])), (3, (.ptr 1 [])), (5, (.v (.int .i64) i))], [(0, some (.box (.agg [(.v (.slice (.int .i64)) b0), (.v (.slice .bool) b02), (.v (.int .i64) b03)]))), (1, some (.box (.agg [(.v (.slice (.int .i64)) b1), (.v (.slice .bool) b12), (.v (.int .i64) b13)])))], 2, []⟩
noncomputable def spigotref13_Same.L3 (i : Int) (b0 : (List Int)) (b02 : (List Bool)) (b03 : Int) (b1 : (List Int)) (b12 : (List Bool)) (b13 : Int) : Option (Bool × Unit) := res spigotref13_Same.c (atJoin spigotref13_Same.b [1, 1, 0, 1, 0, 0, 0, 1]) (spigotref13_Same.S3 i b0 b02 b03 b1 b12 b13)
noncomputable def spigotref13_Same.S4 (i : Int) (b0 : (List Int)) (b02 : (List Bool)) (b03 : Int) (b1 : (List Int)) (b12 : (List Bool)) (b13 : Int) : St := ⟨[(2, (.ptr 0 [])), (3, (.ptr 1 [])), (6, (.v (.int .i64) i))], [(0, some (.box (.agg [(.v (.slice (.int .i64)) b0), (.v (.slice .bool) b02), (.v (.int .i64) b03)]))), (1, some (.box (.agg [(.v (.slice (.int .i64)) b1), (.v (.slice .bool) b12), (.v (.int .i64) b13)])))], 2, []⟩
noncomputable def spigotref13_Same.L4 (i : Int) (b0 : (List Int)) (b02 : (List Bool)) (b03 : Int) (b1 : (List Int)) (b12 : (List Bool)) (b13 : Int) : Option (Bool × Unit) := res spigotref13_Same.c (atLoop spigotref13_Same.b [1, 1, 1, 0, 1, 0]) (spigotref13_Same.S4 i b0 b02 b03 b1 b12 b13)
noncomputable def spigotref13_Same.S5 (i : Int) (b0 : (List Int)) (b02 : (List Bool)) (b03 : Int) (b1 : (List Int)) (b12 : (List Bool)) (b13 : Int) : St := ⟨[(2, (.ptr 0 [])), (3, (.ptr 1 [])), (6, (.v (.int .i64) i))], [(0, some (.box (.agg [(.v (.slice (.int .i64)) b0), (.v (.slice .bool) b02), (.v (.int .i64) b03)]))), (1, some (.box (.agg [(.v (.slice (.int .i64)) b1), (.v (.slice .bool) b12), (.v (.int .i64) b13)])))], 2, []⟩
noncomputable def spigotref13_Same.L5 (i : Int) (b0 : (List Int)) (b02 : (List Bool)) (b03 : Int) (b1 : (List Int)) (b12 : (List Bool)) (b13 : Int) : Option (Bool × Unit) := res spigotref13_Same.c (atJoin spigotref13_Same.b [1, 1, 1, 0, 1, 0, 0, 0, 1]) (spigotref13_Same.S5 i b0 b02 b03 b1 b12 b13)
noncomputable def spigotref13_Same.S6 (i : Int) (b0 : (List Int)) (b02 : (List Bool)) (b03 : Int) (b1 : (List Int)) (b12 : (List Bool)) (b13 : Int) : St := ⟨[(2, (.ptr 0 [])), (3, (.ptr 1 [])), (6, (.v (.int .i64) i))], [(0, some (.box (.agg [(.v (.slice (.int .i64)) b0), (.v (.slice .bool) b02), (.v (.int .i64) b03)]))), (1, some (.box (.agg [(.v (.slice (.int .i64)) b1), (.v (.slice .bool) b12), (.v (.int .i64) b13)])))], 2, []⟩
noncomputable def spigotref13_Same.L6 (i : Int) (b0 : (List Int)) (b02 : (List Bool)) (b03 : Int) (b1 : (List Int)) (b12 : (List Bool)) (b13 : Int) : Option (Bool × Unit) := res spigotref13_Same.c (atJoin spigotref13_Same.b [1, 1, 1, 0, 1, 0, 0, 1, 0, 0, 1]) (spigotref13_Same.S6 i b0 b02 b03 b1 b12 b13)
noncomputable def spigotref13_Same.S7 (i : Int) (b0 : (List Int)) (b02 : (List Bool)) (b03 : Int) (b1 : (List Int)) (b12 : (List Bool)) (b13 : Int) : St := ⟨[(2, (.ptr 0 [])), (3, (.ptr 1 [])), (5, (.v (.int .i64) i))], [(0, some (.box (.agg [(.v (.slice (.int .i64)) b0), (.v (.slice .bool) b02), (.v (.int .i64) b03)]))), (1, some (.box (.agg [(.v (.slice (.int .i64)) b1), (.v (.slice .bool) b12), (.v (.int .i64) b13)])))], 2, []⟩
noncomputable def spigotref13_Same.L7 (i : Int) (b0 : (List Int)) (b02 : (List Bool)) (b03 : Int) (b1 : (List Int)) (b12 : (List Bool)) (b13 : Int) : Option (Bool × Unit) := res spigotref13_Same.c (atJoin spigotref13_Same.b [1, 1, 0, 1, 0, 0, 1, 0, 0, 1]) (spigotref13_Same.S7 i b0 b02 b03 b1 b12 b13)
theorem spigotref13_Same.spec : FnSpec Try.prog globs 41 spigotref13_Same.Fn := spec_of (E := spigotref13_Same.E) (envOk_at tabOk eqOk primsOk (.nil)) mixOk Try.func41 (by kernel_rfl)
theorem spigotref13_Same.L1_eq (b0 : (List Int)) (b02 : (List Bool)) (b03 : Int) (b1 : (List Int)) (b12 : (List Bool)) (b13 : Int) : spigotref13_Same.L1 b0 b02 b03 b1 b12 b13 =
  spigotref13_Same.L2 0 b0 b02 b03 b1 b12 b13 := res_eq (by kernel_rfl)
theorem spigotref13_Same.L2_eq (i : Int) (b0 : (List Int)) (b02 : (List Bool)) (b03 : Int) (b1 : (List Int)) (b12 : (List Bool)) (b13 : Int) : spigotref13_Same.L2 i b0 b02 b03 b1 b12 b13 =
  bif (decide ((i : Int) < ((List.length b0 : Int)))) then
    spigotref13_Same.L3 i b0 b02 b03 b1 b12 b13
  else
    spigotref13_Same.L4 0 b0 b02 b03 b1 b12 b13 := res_eq (by kernel_rfl)
theorem spigotref13_Same.L3_eq (i : Int) (b0 : (List Int)) (b02 : (List Bool)) (b03 : Int) (b1 : (List Int)) (b12 : (List Bool)) (b13 : Int) : spigotref13_Same.L3 i b0 b02 b03 b1 b12 b13 =
  bif (decide ((0 : Int) ≤ i ∧ (i : Int) < ((List.length b0 : Int)))) then
    bif (decide ((0 : Int) ≤ i ∧ (i : Int) < ((List.length b1 : Int)))) then
      bif ((List.getD b0 (Int.toNat i) 0) != (List.getD b1 (Int.toNat i) 0)) then
        some (false, ())
      else
        spigotref13_Same.L7 i b0 b02 b03 b1 b12 b13
    else none
  else none := res_eq (by kernel_rfl)
theorem spigotref13_Same.L4_eq (i : Int) (b0 : (List Int)) (b02 : (List Bool)) (b03 : Int) (b1 : (List Int)) (b12 : (List Bool)) (b13 : Int) : spigotref13_Same.L4 i b0 b02 b03 b1 b12 b13 =
  bif (decide ((i : Int) < ((List.length b02 : Int)))) then
    spigotref13_Same.L5 i b0 b02 b03 b1 b12 b13
  else
    some (true, ()) := res_eq (by kernel_rfl)
theorem spigotref13_Same.L5_eq (i : Int) (b0 : (List Int)) (b02 : (List Bool)) (b03 : Int) (b1 : (List Int)) (b12 : (List Bool)) (b13 : Int) : spigotref13_Same.L5 i b0 b02 b03 b1 b12 b13 =
  bif (decide ((0 : Int) ≤ i ∧ (i : Int) < ((List.length b02 : Int)))) then
    bif (decide ((0 : Int) ≤ i ∧ (i : Int) < ((List.length b12 : Int)))) then
      bif (!((List.getD b02 (Int.toNat i) false) == (List.getD b12 (Int.toNat i) false))) then
        some (false, ())
      else
        spigotref13_Same.L6 i b0 b02 b03 b1 b12 b13
    else none
  else none := res_eq (by kernel_rfl)
theorem spigotref13_Same.L6_eq (i : Int) (b0 : (List Int)) (b02 : (List Bool)) (b03 : Int) (b1 : (List Int)) (b12 : (List Bool)) (b13 : Int) : spigotref13_Same.L6 i b0 b02 b03 b1 b12 b13 =
  spigotref13_Same.L4 (IntKind.wrap .i64 (i + 1)) b0 b02 b03 b1 b12 b13 := res_eq (by kernel_rfl)
theorem spigotref13_Same.L7_eq (i : Int) (b0 : (List Int)) (b02 : (List Bool)) (b03 : Int) (b1 : (List Int)) (b12 : (List Bool)) (b13 : Int) : spigotref13_Same.L7 i b0 b02 b03 b1 b12 b13 =
  spigotref13_Same.L2 (IntKind.wrap .i64 (i + 1)) b0 b02 b03 b1 b12 b13 := res_eq (by kernel_rfl)
theorem spigotref13_Same.F_eq (a : t2.den) (b : t2.den) : spigotref13_Same.F a b =
  bif (a.2.2.1 != b.2.2.1) then
    some (false, ())
  else
    bif (((List.length a.1 : Int)) != ((List.length b.1 : Int))) then
      some (false, ())
    else
      bif (((List.length a.2.1 : Int)) != ((List.length b.2.1 : Int))) then
        some (false, ())
      else
        spigotref13_Same.L1 a.1 a.2.1 a.2.2.1 b.1 b.2.1 b.2.2.1 := by kernel_rfl
/-! ### spigot/table.Keys (44) -/
noncomputable def table_Keys.sg : Sig := ⟨[.val t5], [((.slice (.int .u32)), true), ((.int .i64), true)]⟩
noncomputable def table_Keys.E : Env := ⟨tl, fun i => look i [(24, table_Check.Fn), (43, lru_List.Fn)], [], eqs, globs, prims⟩
noncomputable def table_Keys.c := cxOf table_Keys.E table_Keys.sg Try.f44
noncomputable def table_Keys.b := body Try.f44
noncomputable def table_Keys.Fn : Fun := fnOf table_Keys.E table_Keys.sg Try.f44
noncomputable def table_Keys.F (t : t5.den) : Option ((List Int) × Int × Unit) := table_Keys.Fn.F (t, ())
noncomputable def table_Keys.S1 (b0 : Int) (b02 : (List Int)) (b03 : (List t1.den)) (b04 : (List Int)) (b05 : (List Bool)) (b06 : Int) (b07 : (List t3.den)) (b08 : (List Int)) (b09 : (List Int)) (b010 : Int) (b011 : Int) : St := ⟨[(1, (.ptr 0 []))], [(0, some (.box (.agg [(.v (.int .i64) b0), (.v (.slice (.int .u32)) b02), (.v (.slice t1) b03), (.agg [(.v (.slice (.int .i64)) b04), (.v (.slice .bool) b05), (.v (.int .i64) b06)]), (.v (.slice t3) b07), (.agg [(.v (.slice (.int .i64)) b08), (.v (.slice (.int .i64)) b09), (.v (.int .i64) b010), (.v (.int .i64) b011)])])))], 1, []⟩
noncomputable def table_Keys.L1 (b0 : Int) (b02 : (List Int)) (b03 : (List t1.den)) (b04 : (List Int)) (b05 : (List Bool)) (b06 : Int) (b07 : (List t3.den)) (b08 : (List Int)) (b09 : (List Int)) (b010 : Int) (b011 : Int) : Option ((List Int) × Int × Unit) := res table_Keys.c (atJoin table_Keys.b [1, 0, 1, 1]) (table_Keys.S1 b0 b02 b03 b04 b05 b06 b07 b08 b09 b010 b011)
noncomputable def table_Keys.S2 (t22_ : Int) (t23_ : Int) (b0 : Int) (b02 : (List Int)) (b03 : (List t1.den)) (b04 : (List Int)) (b05 : (List Bool)) (b06 : Int) (b07 : (List t3.den)) (b08 : (List Int)) (b09 : (List Int)) (b010 : Int) (b011 : Int) (l1 : (List Int)) (l2 : (List Int)) : St := ⟨[(1, (.ptr 0 [])), (7, (.sl 1)), (21, (.sl 2)), (22, (.v (.int .i64) t22_)), (23, (.v (.int .i64) t23_))], [(0, some (.box (.agg [(.v (.int .i64) b0), (.v (.slice (.int .u32)) b02), (.v (.slice t1) b03), (.agg [(.v (.slice (.int .i64)) b04), (.v (.slice .bool) b05), (.v (.int .i64) b06)]), (.v (.slice t3) b07), (.agg [(.v (.slice (.int .i64)) b08), (.v (.slice (.int .i64)) b09), (.v (.int .i64) b010), (.v (.int .i64) b011)])]))), (1, some (.row (.int .u32) l1 false)), (2, some (.row (.int .i64) l2 false))], 3, []⟩
noncomputable def table_Keys.L2 (t22_ : Int) (t23_ : Int) (b0 : Int) (b02 : (List Int)) (b03 : (List t1.den)) (b04 : (List Int)) (b05 : (List Bool)) (b06 : Int) (b07 : (List t3.den)) (b08 : (List Int)) (b09 : (List Int)) (b010 : Int) (b011 : Int) (l1 : (List Int)) (l2 : (List Int)) : Option ((List Int) × Int × Unit) := res table_Keys.c (atLoop table_Keys.b [1, 1, 1, 1, 0, 1, 0]) (table_Keys.S2 t22_ t23_ b0 b02 b03 b04 b05 b06 b07 b08 b09 b010 b011 l1 l2)
noncomputable def table_Keys.S3 (t22_ : Int) (t23_ : Int) (b0 : Int) (b02 : (List Int)) (b03 : (List t1.den)) (b04 : (List Int)) (b05 : (List Bool)) (b06 : Int) (b07 : (List t3.den)) (b08 : (List Int)) (b09 : (List Int)) (b010 : Int) (b011 : Int) (l1 : (List Int)) (l2 : (List Int)) : St := ⟨[(1, (.ptr 0 [])), (7, (.sl 1)), (21, (.sl 2)), (22, (.v (.int .i64) t22_)), (23, (.v (.int .i64) t23_))], [(0, some (.box (.agg [(.v (.int .i64) b0), (.v (.slice (.int .u32)) b02), (.v (.slice t1) b03), (.agg [(.v (.slice (.int .i64)) b04), (.v (.slice .bool) b05), (.v (.int .i64) b06)]), (.v (.slice t3) b07), (.agg [(.v (.slice (.int .i64)) b08), (.v (.slice (.int .i64)) b09), (.v (.int .i64) b010), (.v (.int .i64) b011)])]))), (1, some (.row (.int .u32) l1 false)), (2, some (.row (.int .i64) l2 false))], 3, []⟩
noncomputable def table_Keys.L3 (t22_ : Int) (t23_ : Int) (b0 : Int) (b02 : (List Int)) (b03 : (List t1.den)) (b04 : (List Int)) (b05 : (List Bool)) (b06 : Int) (b07 : (List t3.den)) (b08 : (List Int)) (b09 : (List Int)) (b010 : Int) (b011 : Int) (l1 : (List Int)) (l2 : (List Int)) : Option ((List Int) × Int × Unit) := res table_Keys.c (atJoin table_Keys.b [1, 1, 1, 1, 0, 1, 0, 0, 1, 0]) (table_Keys.S3 t22_ t23_ b0 b02 b03 b04 b05 b06 b07 b08 b09 b010 b011 l1 l2)
theorem table_Keys.spec : FnSpec Try.prog globs 44 table_Keys.Fn := spec_of (E := table_Keys.E) (envOk_at tabOk eqOk primsOk (.cons table_Check.spec <| .cons lru_List.spec <| .nil)) mixOk Try.func44 (by kernel_rfl)
theorem table_Keys.L1_eq (b0 : Int) (b02 : (List Int)) (b03 : (List t1.den)) (b04 : (List Int)) (b05 : (List Bool)) (b06 : Int) (b07 : (List t3.den)) (b08 : (List Int)) (b09 : (List Int)) (b010 : Int) (b011 : Int) : table_Keys.L1 b0 b02 b03 b04 b05 b06 b07 b08 b09 b010 b011 =
  (lru_List.F (b08, b09, b010, b011, ())).bind fun r0 =>
  table_Keys.L2 ((List.length r0.1 : Int)) 0 b0 b02 b03 b04 b05 b06 b07 b08 b09 b010 b011 ([] : List Int) r0.1 := res_eq (by kernel_rfl)
theorem table_Keys.L2_eq (t22_ : Int) (t23_ : Int) (b0 : Int) (b02 : (List Int)) (b03 : (List t1.den)) (b04 : (List Int)) (b05 : (List Bool)) (b06 : Int) (b07 : (List t3.den)) (b08 : (List Int)) (b09 : (List Int)) (b010 : Int) (b011 : Int) (l1 : (List Int)) (l2 : (List Int)) : table_Keys.L2 t22_ t23_ b0 b02 b03 b04 b05 b06 b07 b08 b09 b010 b011 l1 l2 =
  bif (decide ((t23_ : Int) < t22_)) then
    table_Keys.L3 t22_ t23_ b0 b02 b03 b04 b05 b06 b07 b08 b09 b010 b011 l1 l2
  else
    some (l1, 0, ()) := res_eq (by kernel_rfl)
theorem table_Keys.L3_eq (t22_ : Int) (t23_ : Int) (b0 : Int) (b02 : (List Int)) (b03 : (List t1.den)) (b04 : (List Int)) (b05 : (List Bool)) (b06 : Int) (b07 : (List t3.den)) (b08 : (List Int)) (b09 : (List Int)) (b010 : Int) (b011 : Int) (l1 : (List Int)) (l2 : (List Int)) : table_Keys.L3 t22_ t23_ b0 b02 b03 b04 b05 b06 b07 b08 b09 b010 b011 l1 l2 =
  bif (decide ((0 : Int) ≤ t23_ ∧ (t23_ : Int) < ((List.length l2 : Int)))) then
    bif (decide ((0 : Int) ≤ (List.getD l2 (Int.toNat t23_) 0) ∧ ((List.getD l2 (Int.toNat t23_) 0) : Int) < ((List.length b02 : Int)))) then
      bif (lim ((List.length l1) + (List.length ([(List.getD b02 (Int.toNat (List.getD l2 (Int.toNat t23_) 0)) 0)] : List Int))) (.int .u32)) then
        table_Keys.L2 t22_ (IntKind.wrap .i64 (t23_ + 1)) b0 b02 b03 b04 b05 b06 b07 b08 b09 b010 b011 (l1 ++ ([(List.getD b02 (Int.toNat (List.getD l2 (Int.toNat t23_) 0)) 0)] : List Int)) l2
      else none
    else none
  else none := res_eq (by kernel_rfl)
theorem table_Keys.F_eq (t : t5.den) : table_Keys.F t =
  (table_Check.F t).bind fun r0 =>
  bif (r0.1 != 0) then
    some (([] : List Int), r0.1, ())
  else
    table_Keys.L1 t.1 t.2.1 t.2.2.1 t.2.2.2.1.1 t.2.2.2.1.2.1 t.2.2.2.1.2.2.1 t.2.2.2.2.1 t.2.2.2.2.2.1.1 t.2.2.2.2.2.1.2.1 t.2.2.2.2.2.1.2.2.1 t.2.2.2.2.2.1.2.2.2.1 := by kernel_rfl
/-! ### spigot/spigottop.same16 (18) -/
noncomputable def spigottop_same16.sg : Sig := ⟨[.val t5, .val t2, .val t4, .val (.slice t3)], [(.bool, true)]⟩
noncomputable def spigottop_same16.E : Env := ⟨tl, fun i => look i [(9, probe_Find.Fn), (40, spigotref16_Check.Fn), (41, spigotref13_Same.Fn), (42, spigotref15_Same.Fn), (43, lru_List.Fn), (44, table_Keys.Fn)], [], eqs, globs, prims⟩
noncomputable def spigottop_same16.c := cxOf spigottop_same16.E spigottop_same16.sg Try.f18
noncomputable def spigottop_same16.b := body Try.f18
noncomputable def spigottop_same16.Fn : Fun := fnOf spigottop_same16.E spigottop_same16.sg Try.f18
noncomputable def spigottop_same16.F (t : t5.den) (a : t2.den) (o : t4.den) (x : (List t3.den)) : Option (Bool × Unit) := spigottop_same16.Fn.F (t, a, o, x, ())
noncomputable def spigottop_same16.S1 (x : (List t3.den)) (b0 : Int) (b02 : (List Int)) (b03 : (List t1.den)) (b04 : (List Int)) (b05 : (List Bool)) (b06 : Int) (b07 : (List t3.den)) (b08 : (List Int)) (b09 : (List Int)) (b010 : Int) (b011 : Int) (b1 : (List Int)) (b12 : (List Int)) (b13 : Int) (b14 : Int) : St := ⟨[(3, (.v (.slice t3) x)), (4, (.ptr 0 [])), (6, (.ptr 1 []))], [(0, some (.box (.agg [(.v (.int .i64) b0), (.v (.slice (.int .u32)) b02), (.v (.slice t1) b03), (.agg [(.v (.slice (.int .i64)) b04), (.v (.slice .bool) b05), (.v (.int .i64) b06)]), (.v (.slice t3) b07), (.agg [(.v (.slice (.int .i64)) b08), (.v (.slice (.int .i64)) b09), (.v (.int .i64) b010), (.v (.int .i64) b011)])]))), (1, some (.box (.agg [(.v (.slice (.int .i64)) b1), (.v (.slice (.int .i64)) b12), (.v (.int .i64) b13), (.v (.int .i64) b14)])))], 2, []⟩
noncomputable def spigottop_same16.L1 (x : (List t3.den)) (b0 : Int) (b02 : (List Int)) (b03 : (List t1.den)) (b04 : (List Int)) (b05 : (List Bool)) (b06 : Int) (b07 : (List t3.den)) (b08 : (List Int)) (b09 : (List Int)) (b010 : Int) (b011 : Int) (b1 : (List Int)) (b12 : (List Int)) (b13 : Int) (b14 : Int) : Option (Bool × Unit) := res spigottop_same16.c (atJoin spigottop_same16.b [1, 0, 1]) (spigottop_same16.S1 x b0 b02 b03 b04 b05 b06 b07 b08 b09 b010 b011 b1 b12 b13 b14)
noncomputable def spigottop_same16.S2 (x : (List t3.den)) (i : Int) (b0 : Int) (b02 : (List Int)) (b03 : (List t1.den)) (b04 : (List Int)) (b05 : (List Bool)) (b06 : Int) (b07 : (List t3.den)) (b08 : (List Int)) (b09 : (List Int)) (b010 : Int) (b011 : Int) (b1 : (List Int)) (b12 : (List Int)) (b13 : Int) (b14 : Int) : St := ⟨[(3, (.v (.slice t3) x)), (4, (.ptr 0 [])), (6, (.ptr 1 [])), (9, (.v (.int .i64) i))], [(0, some (.box (.agg [(.v (.int .i64) b0), (.v (.slice (.int .u32)) b02), (.v (.slice t1) b03), (.agg [(.v (.slice (.int .i64)) b04), (.v (.slice .bool) b05), (.v (.int .i64) b06)]), (.v (.slice t3) b07), (.agg [(.v (.slice (.int .i64)) b08), (.v (.slice (.int .i64)) b09), (.v (.int .i64) b010), (.v (.int .i64) b011)])]))), (1, some (.box (.agg [(.v (.slice (.int .i64)) b1), (.v (.slice (.int .i64)) b12), (.v (.int .i64) b13), (.v (.int .i64) b14)])))], 2, []⟩
noncomputable def spigottop_same16.L2 (x : (List t3.den)) (i : Int) (b0 : Int) (b02 : (List Int)) (b03 : (List t1.den)) (b04 : (List Int)) (b05 : (List Bool)) (b06 : Int) (b07 : (List t3.den)) (b08 : (List Int)) (b09 : (List Int)) (b010 : Int) (b011 : Int) (b1 : (List Int)) (b12 : (List Int)) (b13 : Int) (b14 : Int) : Option (Bool × Unit) := res spigottop_same16.c (atLoop spigottop_same16.b [1, 1, 0, 1, 0]) (spigottop_same16.S2 x i b0 b02 b03 b04 b05 b06 b07 b08 b09 b010 b011 b1 b12 b13 b14)
noncomputable def spigottop_same16.S3 (x : (List t3.den)) (i : Int) (b0 : Int) (b02 : (List Int)) (b03 : (List t1.den)) (b04 : (List Int)) (b05 : (List Bool)) (b06 : Int) (b07 : (List t3.den)) (b08 : (List Int)) (b09 : (List Int)) (b010 : Int) (b011 : Int) (b1 : (List Int)) (b12 : (List Int)) (b13 : Int) (b14 : Int) : St := ⟨[(3, (.v (.slice t3) x)), (4, (.ptr 0 [])), (6, (.ptr 1 [])), (9, (.v (.int .i64) i))], [(0, some (.box (.agg [(.v (.int .i64) b0), (.v (.slice (.int .u32)) b02), (.v (.slice t1) b03), (.agg [(.v (.slice (.int .i64)) b04), (.v (.slice .bool) b05), (.v (.int .i64) b06)]), (.v (.slice t3) b07), (.agg [(.v (.slice (.int .i64)) b08), (.v (.slice (.int .i64)) b09), (.v (.int .i64) b010), (.v (.int .i64) b011)])]))), (1, some (.box (.agg [(.v (.slice (.int .i64)) b1), (.v (.slice (.int .i64)) b12), (.v (.int .i64) b13), (.v (.int .i64) b14)])))], 2, []⟩
noncomputable def spigottop_same16.L3 (x : (List t3.den)) (i : Int) (b0 : Int) (b02 : (List Int)) (b03 : (List t1.den)) (b04 : (List Int)) (b05 : (List Bool)) (b06 : Int) (b07 : (List t3.den)) (b08 : (List Int)) (b09 : (List Int)) (b010 : Int) (b011 : Int) (b1 : (List Int)) (b12 : (List Int)) (b13 : Int) (b14 : Int) : Option (Bool × Unit) := res spigottop_same16.c (atJoin spigottop_same16.b [1, 1, 0, 1, 0, 0, 0, 1]) (spigottop_same16.S3 x i b0 b02 b03 b04 b05 b06 b07 b08 b09 b010 b011 b1 b12 b13 b14)
noncomputable def spigottop_same16.S4 (x : (List t3.den)) (l0 : (List Int)) (l1 : (List Int)) : St := ⟨[(3, (.v (.slice t3) x)), (10, (.sl 0)), (12, (.sl 1))], [(0, some (.row (.int .i64) l0 false)), (1, some (.row (.int .u32) l1 false))], 2, []⟩
noncomputable def spigottop_same16.L4 (x : (List t3.den)) (l0 : (List Int)) (l1 : (List Int)) : Option (Bool × Unit) := res spigottop_same16.c (atJoin spigottop_same16.b [1, 1, 1, 1, 1, 0, 1]) (spigottop_same16.S4 x l0 l1)
noncomputable def spigottop_same16.S5 (x : (List t3.den)) (i : Int) (l0 : (List Int)) (l1 : (List Int)) : St := ⟨[(3, (.v (.slice t3) x)), (10, (.sl 0)), (12, (.sl 1)), (14, (.v (.int .i64) i))], [(0, some (.row (.int .i64) l0 false)), (1, some (.row (.int .u32) l1 false))], 2, []⟩
noncomputable def spigottop_same16.L5 (x : (List t3.den)) (i : Int) (l0 : (List Int)) (l1 : (List Int)) : Option (Bool × Unit) := res spigottop_same16.c (atLoop spigottop_same16.b [1, 1, 1, 1, 1, 1, 0, 1, 0]) (spigottop_same16.S5 x i l0 l1)
noncomputable def spigottop_same16.S6 (x : (List t3.den)) (i : Int) (l0 : (List Int)) (l1 : (List Int)) : St := ⟨[(3, (.v (.slice t3) x)), (10, (.sl 0)), (12, (.sl 1)), (14, (.v (.int .i64) i))], [(0, some (.row (.int .i64) l0 false)), (1, some (.row (.int .u32) l1 false))], 2, []⟩
noncomputable def spigottop_same16.L6 (x : (List t3.den)) (i : Int) (l0 : (List Int)) (l1 : (List Int)) : Option (Bool × Unit) := res spigottop_same16.c (atJoin spigottop_same16.b [1, 1, 1, 1, 1, 1, 0, 1, 0, 0, 0, 1]) (spigottop_same16.S6 x i l0 l1)
noncomputable def spigottop_same16.S7 (x : (List t3.den)) (i : Int) (l0 : (List Int)) (l1 : (List Int)) : St := ⟨[(3, (.v (.slice t3) x)), (10, (.sl 0)), (12, (.sl 1)), (14, (.v (.int .i64) i))], [(0, some (.row (.int .i64) l0 false)), (1, some (.row (.int .u32) l1 false))], 2, []⟩
noncomputable def spigottop_same16.L7 (x : (List t3.den)) (i : Int) (l0 : (List Int)) (l1 : (List Int)) : Option (Bool × Unit) := res spigottop_same16.c (atJoin spigottop_same16.b [1, 1, 1, 1, 1, 1, 0, 1, 0, 0, 1, 0, 0, 1, 1]) (spigottop_same16.S7 x i l0 l1)
noncomputable def spigottop_same16.S8 (x : (List t3.den)) (i : Int) (b0 : Int) (b02 : (List Int)) (b03 : (List t1.den)) (b04 : (List Int)) (b05 : (List Bool)) (b06 : Int) (b07 : (List t3.den)) (b08 : (List Int)) (b09 : (List Int)) (b010 : Int) (b011 : Int) (b1 : (List Int)) (b12 : (List Int)) (b13 : Int) (b14 : Int) : St := ⟨[(3, (.v (.slice t3) x)), (4, (.ptr 0 [])), (6, (.ptr 1 [])), (9, (.v (.int .i64) i))], [(0, some (.box (.agg [(.v (.int .i64) b0), (.v (.slice (.int .u32)) b02), (.v (.slice t1) b03), (.agg [(.v (.slice (.int .i64)) b04), (.v (.slice .bool) b05), (.v (.int .i64) b06)]), (.v (.slice t3) b07), (.agg [(.v (.slice (.int .i64)) b08), (.v (.slice (.int .i64)) b09), (.v (.int .i64) b010), (.v (.int .i64) b011)])]))), (1, some (.box (.agg [(.v (.slice (.int .i64)) b1), (.v (.slice (.int .i64)) b12), (.v (.int .i64) b13), (.v (.int .i64) b14)])))], 2, []⟩
noncomputable def spigottop_same16.L8 (x : (List t3.den)) (i : Int) (b0 : Int) (b02 : (List Int)) (b03 : (List t1.den)) (b04 : (List Int)) (b05 : (List Bool)) (b06 : Int) (b07 : (List t3.den)) (b08 : (List Int)) (b09 : (List Int)) (b010 : Int) (b011 : Int) (b1 : (List Int)) (b12 : (List Int)) (b13 : Int) (b14 : Int) : Option (Bool × Unit) := res spigottop_same16.c (atJoin spigottop_same16.b [1, 1, 0, 1, 0, 0, 1, 0, 0, 1]) (spigottop_same16.S8 x i b0 b02 b03 b04 b05 b06 b07 b08 b09 b010 b011 b1 b12 b13 b14)
theorem spigottop_same16.spec : FnSpec Try.prog globs 18 spigottop_same16.Fn := spec_of (E := spigottop_same16.E) (envOk_at tabOk eqOk primsOk (.cons probe_Find.spec <| .cons spigotref16_Check.spec <| .cons spigotref13_Same.spec <| .cons spigotref15_Same.spec <| .cons lru_List.spec <| .cons table_Keys.spec <| .nil)) mixOk Try.func18 (by kernel_rfl)
theorem spigottop_same16.L1_eq (x : (List t3.den)) (b0 : Int) (b02 : (List Int)) (b03 : (List t1.den)) (b04 : (List Int)) (b05 : (List Bool)) (b06 : Int) (b07 : (List t3.den)) (b08 : (List Int)) (b09 : (List Int)) (b010 : Int) (b011 : Int) (b1 : (List Int)) (b12 : (List Int)) (b13 : Int) (b14 : Int) : spigottop_same16.L1 x b0 b02 b03 b04 b05 b06 b07 b08 b09 b010 b011 b1 b12 b13 b14 =
  spigottop_same16.L2 x 0 b0 b02 b03 b04 b05 b06 b07 b08 b09 b010 b011 b1 b12 b13 b14 := res_eq (by kernel_rfl)
theorem spigottop_same16.L2_eq (x : (List t3.den)) (i : Int) (b0 : Int) (b02 : (List Int)) (b03 : (List t1.den)) (b04 : (List Int)) (b05 : (List Bool)) (b06 : Int) (b07 : (List t3.den)) (b08 : (List Int)) (b09 : (List Int)) (b010 : Int) (b011 : Int) (b1 : (List Int)) (b12 : (List Int)) (b13 : Int) (b14 : Int) : spigottop_same16.L2 x i b0 b02 b03 b04 b05 b06 b07 b08 b09 b010 b011 b1 b12 b13 b14 =
  bif (decide ((i : Int) < ((List.length x : Int)))) then
    spigottop_same16.L3 x i b0 b02 b03 b04 b05 b06 b07 b08 b09 b010 b011 b1 b12 b13 b14
  else
    (lru_List.F (b1, b12, b13, b14, ())).bind fun r0 =>
    (table_Keys.F (b0, b02, b03, (b04, b05, b06, ()), b07, (b08, b09, b010, b011, ()), ())).bind fun r1 =>
    bif (r0.2.1 != 0) then
      some (false, ())
    else
      bif (r1.2.1 != 0) then
        some (false, ())
      else
        bif (((List.length r1.1 : Int)) != ((List.length r0.1 : Int))) then
          some (false, ())
        else
          spigottop_same16.L4 x r0.1 r1.1 := res_eq (by kernel_rfl)
theorem spigottop_same16.L3_eq (x : (List t3.den)) (i : Int) (b0 : Int) (b02 : (List Int)) (b03 : (List t1.den)) (b04 : (List Int)) (b05 : (List Bool)) (b06 : Int) (b07 : (List t3.den)) (b08 : (List Int)) (b09 : (List Int)) (b010 : Int) (b011 : Int) (b1 : (List Int)) (b12 : (List Int)) (b13 : Int) (b14 : Int) : spigottop_same16.L3 x i b0 b02 b03 b04 b05 b06 b07 b08 b09 b010 b011 b1 b12 b13 b14 =
  bif (decide ((0 : Int) ≤ i ∧ (i : Int) < ((List.length b07 : Int)))) then
    bif (decide ((0 : Int) ≤ i ∧ (i : Int) < ((List.length x : Int)))) then
      bif (!(Ty.beq t3 (List.getD b07 (Int.toNat i) (0, 0, false, ())) (List.getD x (Int.toNat i) (0, 0, false, ())))) then
        some (false, ())
      else
        spigottop_same16.L8 x i b0 b02 b03 b04 b05 b06 b07 b08 b09 b010 b011 b1 b12 b13 b14
    else none
  else none := res_eq (by kernel_rfl)
theorem spigottop_same16.L4_eq (x : (List t3.den)) (l0 : (List Int)) (l1 : (List Int)) : spigottop_same16.L4 x l0 l1 =
  spigottop_same16.L5 x 0 l0 l1 := res_eq (by kernel_rfl)
theorem spigottop_same16.L5_eq (x : (List t3.den)) (i : Int) (l0 : (List Int)) (l1 : (List Int)) : spigottop_same16.L5 x i l0 l1 =
  bif (decide ((i : Int) < ((List.length l0 : Int)))) then
    spigottop_same16.L6 x i l0 l1
  else
    some (true, ()) := res_eq (by kernel_rfl)
theorem spigottop_same16.L6_eq (x : (List t3.den)) (i : Int) (l0 : (List Int)) (l1 : (List Int)) : spigottop_same16.L6 x i l0 l1 =
  bif (decide ((0 : Int) ≤ i ∧ (i : Int) < ((List.length l1 : Int)))) then
    (probe_Find.F x (List.getD l1 (Int.toNat i) 0)).bind fun r0 =>
    bif (r0.2.1 != 0) then
      some (false, ())
    else
      bif (decide ((0 : Int) ≤ i ∧ (i : Int) < ((List.length l0 : Int)))) then
        bif (r0.1 != (List.getD l0 (Int.toNat i) 0)) then
          some (false, ())
        else
          spigottop_same16.L7 x i l0 l1
      else none
  else none := res_eq (by kernel_rfl)
theorem spigottop_same16.L7_eq (x : (List t3.den)) (i : Int) (l0 : (List Int)) (l1 : (List Int)) : spigottop_same16.L7 x i l0 l1 =
  spigottop_same16.L5 x (IntKind.wrap .i64 (i + 1)) l0 l1 := res_eq (by kernel_rfl)
theorem spigottop_same16.L8_eq (x : (List t3.den)) (i : Int) (b0 : Int) (b02 : (List Int)) (b03 : (List t1.den)) (b04 : (List Int)) (b05 : (List Bool)) (b06 : Int) (b07 : (List t3.den)) (b08 : (List Int)) (b09 : (List Int)) (b010 : Int) (b011 : Int) (b1 : (List Int)) (b12 : (List Int)) (b13 : Int) (b14 : Int) : spigottop_same16.L8 x i b0 b02 b03 b04 b05 b06 b07 b08 b09 b010 b011 b1 b12 b13 b14 =
  spigottop_same16.L2 x (IntKind.wrap .i64 (i + 1)) b0 b02 b03 b04 b05 b06 b07 b08 b09 b010 b011 b1 b12 b13 b14 := res_eq (by kernel_rfl)
theorem spigottop_same16.F_eq (t : t5.den) (a : t2.den) (o : t4.den) (x : (List t3.den)) : spigottop_same16.F t a o x =
  (spigotref16_Check.F t).bind fun r0 =>
  bif (r0.1 != 0) then
    some (false, ())
  else
    (spigotref13_Same.F t.2.2.2.1 a).bind fun r1 =>
    bif (!r1.1) then
      some (false, ())
    else
      (spigotref15_Same.F t.2.2.2.2.2.1 o).bind fun r2 =>
      bif (!r2.1) then
        some (false, ())
      else
        bif (((List.length t.2.2.2.2.1 : Int)) != ((List.length x : Int))) then
          some (false, ())
        else
          spigottop_same16.L1 x t.1 t.2.1 t.2.2.1 t.2.2.2.1.1 t.2.2.2.1.2.1 t.2.2.2.1.2.2.1 t.2.2.2.2.1 t.2.2.2.2.2.1.1 t.2.2.2.2.2.1.2.1 t.2.2.2.2.2.1.2.2.1 t.2.2.2.2.2.1.2.2.2.1 o.1 o.2.1 o.2.2.1 o.2.2.2.1 := by kernel_rfl
/-! ### spigot/spigottop.TopTable (3) -/
noncomputable def spigottop_TopTable.sg : Sig := ⟨[.val (.int .i64), .val (.slice (.int .u32)), .val (.slice .bool)], [(.bool, true)]⟩
noncomputable def spigottop_TopTable.E : Env := ⟨tl, fun i => look i [(4, spigottop_alive16.Fn), (5, table_New.Fn), (6, arena_New.Fn), (7, lru_New.Fn), (8, probe_New.Fn), (9, probe_Find.Fn), (10, table_Drop.Fn), (11, spigottop_out16.Fn), (12, table_Use.Fn), (13, spigottop_limit16.Fn), (14, arena_Count.Fn), (15, lru_Last.Fn), (16, spigottop_in16.Fn), (17, lru_Touch.Fn), (18, spigottop_same16.Fn)], [], eqs, globs, prims⟩
noncomputable def spigottop_TopTable.c := cxOf spigottop_TopTable.E spigottop_TopTable.sg Try.f3
noncomputable def spigottop_TopTable.b := body Try.f3
noncomputable def spigottop_TopTable.Fn : Fun := fnOf spigottop_TopTable.E spigottop_TopTable.sg Try.f3
noncomputable def spigottop_TopTable.F (capacity : Int) (keys : (List Int)) (drop : (List Bool)) : Option (Bool × Unit) := spigottop_TopTable.Fn.F (capacity, keys, drop, ())
noncomputable def spigottop_TopTable.S1 (capacity : Int) (keys : (List Int)) (drop : (List Bool)) (ok : Bool) (e : Int) (f : Int) (g : Int) (b0 : Int) (b02 : Int) (b03 : Int) (b04 : Int) (b1 : Int) (b2 : Int) (b22 : Int) (l3 : (List Int)) (l4 : (List t1.den)) (l5 : (List Int)) (l6 : (List Bool)) (l7 : (List t3.den)) (l8 : (List Int)) (l9 : (List Int)) (l10 : (List Int)) (l11 : (List Bool)) (l12 : (List Int)) (l13 : (List Int)) : St := ⟨[(0, (.v (.int .i64) capacity)), (1, (.v (.slice (.int .u32)) keys)), (2, (.v (.slice .bool) drop)), (7, (.v .bool ok)), (8, (.ptr 0 [])), (9, (.v (.int .i64) e)), (10, (.ptr 1 [])), (11, (.v (.int .i64) f)), (12, (.ptr 2 [])), (13, (.v (.int .i64) g))], [(0, some (.box (.agg [(.v (.int .i64) b0), (.sl 3), (.sl 4), (.agg [(.sl 5), (.sl 6), (.v (.int .i64) b02)]), (.sl 7), (.agg [(.sl 8), (.sl 9), (.v (.int .i64) b03), (.v (.int .i64) b04)])]))), (1, some (.box (.agg [(.sl 10), (.sl 11), (.v (.int .i64) b1)]))), (2, some (.box (.agg [(.sl 12), (.sl 13), (.v (.int .i64) b2), (.v (.int .i64) b22)]))), (3, some (.row (.int .u32) l3 false)), (4, some (.row t1 l4 false)), (5, some (.row (.int .i64) l5 false)), (6, some (.row .bool l6 false)), (7, some (.row t3 l7 false)), (8, some (.row (.int .i64) l8 false)), (9, some (.row (.int .i64) l9 false)), (10, some (.row (.int .i64) l10 false)), (11, some (.row .bool l11 false)), (12, some (.row (.int .i64) l12 false)), (13, some (.row (.int .i64) l13 false))], 14, []⟩
noncomputable def spigottop_TopTable.L1 (capacity : Int) (keys : (List Int)) (drop : (List Bool)) (ok : Bool) (e : Int) (f : Int) (g : Int) (b0 : Int) (b02 : Int) (b03 : Int) (b04 : Int) (b1 : Int) (b2 : Int) (b22 : Int) (l3 : (List Int)) (l4 : (List t1.den)) (l5 : (List Int)) (l6 : (List Bool)) (l7 : (List t3.den)) (l8 : (List Int)) (l9 : (List Int)) (l10 : (List Int)) (l11 : (List Bool)) (l12 : (List Int)) (l13 : (List Int)) : Option (Bool × Unit) := res spigottop_TopTable.c (atJoin spigottop_TopTable.b [1, 1, 1, 1, 1, 0, 1]) (spigottop_TopTable.S1 capacity keys drop ok e f g b0 b02 b03 b04 b1 b2 b22 l3 l4 l5 l6 l7 l8 l9 l10 l11 l12 l13)
noncomputable def spigottop_TopTable.S2 (capacity : Int) (keys : (List Int)) (drop : (List Bool)) (ok : Bool) (b0 : Int) (b02 : Int) (b03 : Int) (b04 : Int) (b1 : Int) (b2 : Int) (b22 : Int) (l3 : (List t3.den)) (l4 : (List Int)) (l5 : (List t1.den)) (l6 : (List Int)) (l7 : (List Bool)) (l8 : (List t3.den)) (l9 : (List Int)) (l10 : (List Int)) (l11 : (List Int)) (l12 : (List Bool)) (l13 : (List Int)) (l14 : (List Int)) : St := ⟨[(0, (.v (.int .i64) capacity)), (1, (.v (.slice (.int .u32)) keys)), (2, (.v (.slice .bool) drop)), (7, (.v .bool ok)), (8, (.ptr 0 [])), (10, (.ptr 1 [])), (12, (.ptr 2 [])), (14, (.sl 3))], [(0, some (.box (.agg [(.v (.int .i64) b0), (.sl 4), (.sl 5), (.agg [(.sl 6), (.sl 7), (.v (.int .i64) b02)]), (.sl 8), (.agg [(.sl 9), (.sl 10), (.v (.int .i64) b03), (.v (.int .i64) b04)])]))), (1, some (.box (.agg [(.sl 11), (.sl 12), (.v (.int .i64) b1)]))), (2, some (.box (.agg [(.sl 13), (.sl 14), (.v (.int .i64) b2), (.v (.int .i64) b22)]))), (3, some (.row t3 l3 false)), (4, some (.row (.int .u32) l4 false)), (5, some (.row t1 l5 false)), (6, some (.row (.int .i64) l6 false)), (7, some (.row .bool l7 false)), (8, some (.row t3 l8 false)), (9, some (.row (.int .i64) l9 false)), (10, some (.row (.int .i64) l10 false)), (11, some (.row (.int .i64) l11 false)), (12, some (.row .bool l12 false)), (13, some (.row (.int .i64) l13 false)), (14, some (.row (.int .i64) l14 false))], 15, []⟩
noncomputable def spigottop_TopTable.L2 (capacity : Int) (keys : (List Int)) (drop : (List Bool)) (ok : Bool) (b0 : Int) (b02 : Int) (b03 : Int) (b04 : Int) (b1 : Int) (b2 : Int) (b22 : Int) (l3 : (List t3.den)) (l4 : (List Int)) (l5 : (List t1.den)) (l6 : (List Int)) (l7 : (List Bool)) (l8 : (List t3.den)) (l9 : (List Int)) (l10 : (List Int)) (l11 : (List Int)) (l12 : (List Bool)) (l13 : (List Int)) (l14 : (List Int)) : Option (Bool × Unit) := res spigottop_TopTable.c (atJoin spigottop_TopTable.b [1, 1, 1, 1, 1, 1, 1, 0, 1]) (spigottop_TopTable.S2 capacity keys drop ok b0 b02 b03 b04 b1 b2 b22 l3 l4 l5 l6 l7 l8 l9 l10 l11 l12 l13 l14)
noncomputable def spigottop_TopTable.S3 (capacity : Int) (keys : (List Int)) (drop : (List Bool)) (ok : Bool) (i : Int) (b0 : Int) (b02 : Int) (b03 : Int) (b04 : Int) (b1 : Int) (b2 : Int) (b22 : Int) (l3 : (List t3.den)) (l4 : (List Int)) (l5 : (List t1.den)) (l6 : (List Int)) (l7 : (List Bool)) (l8 : (List t3.den)) (l9 : (List Int)) (l10 : (List Int)) (l11 : (List Int)) (l12 : (List Bool)) (l13 : (List Int)) (l14 : (List Int)) : St := ⟨[(0, (.v (.int .i64) capacity)), (1, (.v (.slice (.int .u32)) keys)), (2, (.v (.slice .bool) drop)), (7, (.v .bool ok)), (8, (.ptr 0 [])), (10, (.ptr 1 [])), (12, (.ptr 2 [])), (14, (.sl 3)), (15, (.v (.int .i64) i))], [(0, some (.box (.agg [(.v (.int .i64) b0), (.sl 4), (.sl 5), (.agg [(.sl 6), (.sl 7), (.v (.int .i64) b02)]), (.sl 8), (.agg [(.sl 9), (.sl 10), (.v (.int .i64) b03), (.v (.int .i64) b04)])]))), (1, some (.box (.agg [(.sl 11), (.sl 12), (.v (.int .i64) b1)]))), (2, some (.box (.agg [(.sl 13), (.sl 14), (.v (.int .i64) b2), (.v (.int .i64) b22)]))), (3, some (.row t3 l3 false)), (4, some (.row (.int .u32) l4 false)), (5, some (.row t1 l5 false)), (6, some (.row (.int .i64) l6 false)), (7, some (.row .bool l7 false)), (8, some (.row t3 l8 false)), (9, some (.row (.int .i64) l9 false)), (10, some (.row (.int .i64) l10 false)), (11, some (.row (.int .i64) l11 false)), (12, some (.row .bool l12 false)), (13, some (.row (.int .i64) l13 false)), (14, some (.row (.int .i64) l14 false))], 15, []⟩
noncomputable def spigottop_TopTable.L3 (capacity : Int) (keys : (List Int)) (drop : (List Bool)) (ok : Bool) (i : Int) (b0 : Int) (b02 : Int) (b03 : Int) (b04 : Int) (b1 : Int) (b2 : Int) (b22 : Int) (l3 : (List t3.den)) (l4 : (List Int)) (l5 : (List t1.den)) (l6 : (List Int)) (l7 : (List Bool)) (l8 : (List t3.den)) (l9 : (List Int)) (l10 : (List Int)) (l11 : (List Int)) (l12 : (List Bool)) (l13 : (List Int)) (l14 : (List Int)) : Option (Bool × Unit) := res spigottop_TopTable.c (atLoop spigottop_TopTable.b [1, 1, 1, 1, 1, 1, 1, 1, 0, 1, 0]) (spigottop_TopTable.S3 capacity keys drop ok i b0 b02 b03 b04 b1 b2 b22 l3 l4 l5 l6 l7 l8 l9 l10 l11 l12 l13 l14)
noncomputable def spigottop_TopTable.S4 (capacity : Int) (keys : (List Int)) (drop : (List Bool)) (ok : Bool) (i : Int) (b0 : Int) (b02 : Int) (b03 : Int) (b04 : Int) (b1 : Int) (b2 : Int) (b22 : Int) (l3 : (List t3.den)) (l4 : (List Int)) (l5 : (List t1.den)) (l6 : (List Int)) (l7 : (List Bool)) (l8 : (List t3.den)) (l9 : (List Int)) (l10 : (List Int)) (l11 : (List Int)) (l12 : (List Bool)) (l13 : (List Int)) (l14 : (List Int)) : St := ⟨[(0, (.v (.int .i64) capacity)), (1, (.v (.slice (.int .u32)) keys)), (2, (.v (.slice .bool) drop)), (7, (.v .bool ok)), (8, (.ptr 0 [])), (10, (.ptr 1 [])), (12, (.ptr 2 [])), (14, (.sl 3)), (15, (.v (.int .i64) i))], [(0, some (.box (.agg [(.v (.int .i64) b0), (.sl 4), (.sl 5), (.agg [(.sl 6), (.sl 7), (.v (.int .i64) b02)]), (.sl 8), (.agg [(.sl 9), (.sl 10), (.v (.int .i64) b03), (.v (.int .i64) b04)])]))), (1, some (.box (.agg [(.sl 11), (.sl 12), (.v (.int .i64) b1)]))), (2, some (.box (.agg [(.sl 13), (.sl 14), (.v (.int .i64) b2), (.v (.int .i64) b22)]))), (3, some (.row t3 l3 false)), (4, some (.row (.int .u32) l4 false)), (5, some (.row t1 l5 false)), (6, some (.row (.int .i64) l6 false)), (7, some (.row .bool l7 false)), (8, some (.row t3 l8 false)), (9, some (.row (.int .i64) l9 false)), (10, some (.row (.int .i64) l10 false)), (11, some (.row (.int .i64) l11 false)), (12, some (.row .bool l12 false)), (13, some (.row (.int .i64) l13 false)), (14, some (.row (.int .i64) l14 false))], 15, []⟩
noncomputable def spigottop_TopTable.L4 (capacity : Int) (keys : (List Int)) (drop : (List Bool)) (ok : Bool) (i : Int) (b0 : Int) (b02 : Int) (b03 : Int) (b04 : Int) (b1 : Int) (b2 : Int) (b22 : Int) (l3 : (List t3.den)) (l4 : (List Int)) (l5 : (List t1.den)) (l6 : (List Int)) (l7 : (List Bool)) (l8 : (List t3.den)) (l9 : (List Int)) (l10 : (List Int)) (l11 : (List Int)) (l12 : (List Bool)) (l13 : (List Int)) (l14 : (List Int)) : Option (Bool × Unit) := res spigottop_TopTable.c (atJoin spigottop_TopTable.b [1, 1, 1, 1, 1, 1, 1, 1, 0, 1, 0, 0, 0, 1]) (spigottop_TopTable.S4 capacity keys drop ok i b0 b02 b03 b04 b1 b2 b22 l3 l4 l5 l6 l7 l8 l9 l10 l11 l12 l13 l14)
noncomputable def spigottop_TopTable.S5 (capacity : Int) (keys : (List Int)) (drop : (List Bool)) (ok : Bool) (i : Int) (key : Int) (place : Int) (h : Int) (b0 : Int) (b02 : Int) (b03 : Int) (b04 : Int) (b1 : Int) (b2 : Int) (b22 : Int) (l3 : (List t3.den)) (b4 : Int) (b42 : Int) (b43 : Int) (b44 : Int) (l5 : (List Int)) (l6 : (List t1.den)) (l7 : (List Int)) (l8 : (List Bool)) (l9 : (List t3.den)) (l10 : (List Int)) (l11 : (List Int)) (l12 : (List Int)) (l13 : (List Bool)) (l14 : (List Int)) (l15 : (List Int)) (l16 : (List Int)) (l17 : (List t1.den)) (l18 : (List Int)) (l19 : (List Bool)) (l20 : (List t3.den)) (l21 : (List Int)) (l22 : (List Int)) : St := ⟨[(0, (.v (.int .i64) capacity)), (1, (.v (.slice (.int .u32)) keys)), (2, (.v (.slice .bool) drop)), (7, (.v .bool ok)), (8, (.ptr 0 [])), (10, (.ptr 1 [])), (12, (.ptr 2 [])), (14, (.sl 3)), (15, (.v (.int .i64) i)), (16, (.v (.int .u32) key)), (17, (.v (.int .i64) place)), (19, (.ptr 4 [])), (20, (.v (.int .i64) h))], [(0, some (.box (.agg [(.v (.int .i64) b0), (.sl 5), (.sl 6), (.agg [(.sl 7), (.sl 8), (.v (.int .i64) b02)]), (.sl 9), (.agg [(.sl 10), (.sl 11), (.v (.int .i64) b03), (.v (.int .i64) b04)])]))), (1, some (.box (.agg [(.sl 12), (.sl 13), (.v (.int .i64) b1)]))), (2, some (.box (.agg [(.sl 14), (.sl 15), (.v (.int .i64) b2), (.v (.int .i64) b22)]))), (3, some (.row t3 l3 false)), (4, some (.box (.agg [(.v (.int .i64) b4), (.sl 16), (.sl 17), (.agg [(.sl 18), (.sl 19), (.v (.int .i64) b42)]), (.sl 20), (.agg [(.sl 21), (.sl 22), (.v (.int .i64) b43), (.v (.int .i64) b44)])]))), (5, some (.row (.int .u32) l5 false)), (6, some (.row t1 l6 false)), (7, some (.row (.int .i64) l7 false)), (8, some (.row .bool l8 false)), (9, some (.row t3 l9 false)), (10, some (.row (.int .i64) l10 false)), (11, some (.row (.int .i64) l11 false)), (12, some (.row (.int .i64) l12 false)), (13, some (.row .bool l13 false)), (14, some (.row (.int .i64) l14 false)), (15, some (.row (.int .i64) l15 false)), (16, some (.row (.int .u32) l16 false)), (17, some (.row t1 l17 false)), (18, some (.row (.int .i64) l18 false)), (19, some (.row .bool l19 false)), (20, some (.row t3 l20 false)), (21, some (.row (.int .i64) l21 false)), (22, some (.row (.int .i64) l22 false))], 23, []⟩
noncomputable def spigottop_TopTable.L5 (capacity : Int) (keys : (List Int)) (drop : (List Bool)) (ok : Bool) (i : Int) (key : Int) (place : Int) (h : Int) (b0 : Int) (b02 : Int) (b03 : Int) (b04 : Int) (b1 : Int) (b2 : Int) (b22 : Int) (l3 : (List t3.den)) (b4 : Int) (b42 : Int) (b43 : Int) (b44 : Int) (l5 : (List Int)) (l6 : (List t1.den)) (l7 : (List Int)) (l8 : (List Bool)) (l9 : (List t3.den)) (l10 : (List Int)) (l11 : (List Int)) (l12 : (List Int)) (l13 : (List Bool)) (l14 : (List Int)) (l15 : (List Int)) (l16 : (List Int)) (l17 : (List t1.den)) (l18 : (List Int)) (l19 : (List Bool)) (l20 : (List t3.den)) (l21 : (List Int)) (l22 : (List Int)) : Option (Bool × Unit) := res spigottop_TopTable.c (atJoin spigottop_TopTable.b [1, 1, 1, 1, 1, 1, 1, 1, 0, 1, 0, 0, 1, 0, 0, 1, 1, 0, 1, 0, 1, 0, 1]) (spigottop_TopTable.S5 capacity keys drop ok i key place h b0 b02 b03 b04 b1 b2 b22 l3 b4 b42 b43 b44 l5 l6 l7 l8 l9 l10 l11 l12 l13 l14 l15 l16 l17 l18 l19 l20 l21 l22)
noncomputable def spigottop_TopTable.S6 (capacity : Int) (keys : (List Int)) (drop : (List Bool)) (ok : Bool) (i : Int) (key : Int) (place : Int) (there : Int) (gone : Int) (evicted : Bool) (b0 : Int) (b02 : Int) (b03 : Int) (b04 : Int) (b1 : Int) (b2 : Int) (b22 : Int) (l3 : (List t3.den)) (b4 : Int) (b42 : Int) (b43 : Int) (b44 : Int) (l5 : (List Int)) (l6 : (List t1.den)) (l7 : (List Int)) (l8 : (List Bool)) (l9 : (List t3.den)) (l10 : (List Int)) (l11 : (List Int)) (l12 : (List Int)) (l13 : (List Bool)) (l14 : (List Int)) (l15 : (List Int)) (l16 : (List Int)) (l17 : (List t1.den)) (l18 : (List Int)) (l19 : (List Bool)) (l20 : (List t3.den)) (l21 : (List Int)) (l22 : (List Int)) : St := ⟨[(0, (.v (.int .i64) capacity)), (1, (.v (.slice (.int .u32)) keys)), (2, (.v (.slice .bool) drop)), (7, (.v .bool ok)), (8, (.ptr 0 [])), (10, (.ptr 1 [])), (12, (.ptr 2 [])), (14, (.sl 3)), (15, (.v (.int .i64) i)), (16, (.v (.int .u32) key)), (17, (.v (.int .i64) place)), (18, (.v (.int .i64) there)), (21, (.ptr 4 [])), (22, (.v (.int .u32) gone)), (23, (.v .bool evicted))], [(0, some (.box (.agg [(.v (.int .i64) b0), (.sl 5), (.sl 6), (.agg [(.sl 7), (.sl 8), (.v (.int .i64) b02)]), (.sl 9), (.agg [(.sl 10), (.sl 11), (.v (.int .i64) b03), (.v (.int .i64) b04)])]))), (1, some (.box (.agg [(.sl 12), (.sl 13), (.v (.int .i64) b1)]))), (2, some (.box (.agg [(.sl 14), (.sl 15), (.v (.int .i64) b2), (.v (.int .i64) b22)]))), (3, some (.row t3 l3 false)), (4, some (.box (.agg [(.v (.int .i64) b4), (.sl 16), (.sl 17), (.agg [(.sl 18), (.sl 19), (.v (.int .i64) b42)]), (.sl 20), (.agg [(.sl 21), (.sl 22), (.v (.int .i64) b43), (.v (.int .i64) b44)])]))), (5, some (.row (.int .u32) l5 false)), (6, some (.row t1 l6 false)), (7, some (.row (.int .i64) l7 false)), (8, some (.row .bool l8 false)), (9, some (.row t3 l9 false)), (10, some (.row (.int .i64) l10 false)), (11, some (.row (.int .i64) l11 false)), (12, some (.row (.int .i64) l12 false)), (13, some (.row .bool l13 false)), (14, some (.row (.int .i64) l14 false)), (15, some (.row (.int .i64) l15 false)), (16, some (.row (.int .u32) l16 false)), (17, some (.row t1 l17 false)), (18, some (.row (.int .i64) l18 false)), (19, some (.row .bool l19 false)), (20, some (.row t3 l20 false)), (21, some (.row (.int .i64) l21 false)), (22, some (.row (.int .i64) l22 false))], 23, []⟩
noncomputable def spigottop_TopTable.L6 (capacity : Int) (keys : (List Int)) (drop : (List Bool)) (ok : Bool) (i : Int) (key : Int) (place : Int) (there : Int) (gone : Int) (evicted : Bool) (b0 : Int) (b02 : Int) (b03 : Int) (b04 : Int) (b1 : Int) (b2 : Int) (b22 : Int) (l3 : (List t3.den)) (b4 : Int) (b42 : Int) (b43 : Int) (b44 : Int) (l5 : (List Int)) (l6 : (List t1.den)) (l7 : (List Int)) (l8 : (List Bool)) (l9 : (List t3.den)) (l10 : (List Int)) (l11 : (List Int)) (l12 : (List Int)) (l13 : (List Bool)) (l14 : (List Int)) (l15 : (List Int)) (l16 : (List Int)) (l17 : (List t1.den)) (l18 : (List Int)) (l19 : (List Bool)) (l20 : (List t3.den)) (l21 : (List Int)) (l22 : (List Int)) : Option (Bool × Unit) := res spigottop_TopTable.c (atJoin spigottop_TopTable.b [1, 1, 1, 1, 1, 1, 1, 1, 0, 1, 0, 0, 1, 0, 0, 1, 1, 0, 1, 1, 1, 0, 1]) (spigottop_TopTable.S6 capacity keys drop ok i key place there gone evicted b0 b02 b03 b04 b1 b2 b22 l3 b4 b42 b43 b44 l5 l6 l7 l8 l9 l10 l11 l12 l13 l14 l15 l16 l17 l18 l19 l20 l21 l22)
noncomputable def spigottop_TopTable.S7 (capacity : Int) (keys : (List Int)) (drop : (List Bool)) (i : Int) (key : Int) (gone : Int) (evicted : Bool) (b0 : Int) (b02 : Int) (b03 : Int) (b04 : Int) (b1 : Int) (b2 : Int) (b22 : Int) (l3 : (List t3.den)) (l4 : (List Int)) (l5 : (List t1.den)) (l6 : (List Int)) (l7 : (List Bool)) (l8 : (List t3.den)) (l9 : (List Int)) (l10 : (List Int)) (l11 : (List Int)) (l12 : (List Bool)) (l13 : (List Int)) (l14 : (List Int)) : St := ⟨[(0, (.v (.int .i64) capacity)), (1, (.v (.slice (.int .u32)) keys)), (2, (.v (.slice .bool) drop)), (8, (.ptr 0 [])), (10, (.ptr 1 [])), (12, (.ptr 2 [])), (14, (.sl 3)), (15, (.v (.int .i64) i)), (16, (.v (.int .u32) key)), (22, (.v (.int .u32) gone)), (23, (.v .bool evicted))], [(0, some (.box (.agg [(.v (.int .i64) b0), (.sl 4), (.sl 5), (.agg [(.sl 6), (.sl 7), (.v (.int .i64) b02)]), (.sl 8), (.agg [(.sl 9), (.sl 10), (.v (.int .i64) b03), (.v (.int .i64) b04)])]))), (1, some (.box (.agg [(.sl 11), (.sl 12), (.v (.int .i64) b1)]))), (2, some (.box (.agg [(.sl 13), (.sl 14), (.v (.int .i64) b2), (.v (.int .i64) b22)]))), (3, some (.row t3 l3 false)), (4, some (.row (.int .u32) l4 false)), (5, some (.row t1 l5 false)), (6, some (.row (.int .i64) l6 false)), (7, some (.row .bool l7 false)), (8, some (.row t3 l8 false)), (9, some (.row (.int .i64) l9 false)), (10, some (.row (.int .i64) l10 false)), (11, some (.row (.int .i64) l11 false)), (12, some (.row .bool l12 false)), (13, some (.row (.int .i64) l13 false)), (14, some (.row (.int .i64) l14 false))], 15, []⟩
noncomputable def spigottop_TopTable.L7 (capacity : Int) (keys : (List Int)) (drop : (List Bool)) (i : Int) (key : Int) (gone : Int) (evicted : Bool) (b0 : Int) (b02 : Int) (b03 : Int) (b04 : Int) (b1 : Int) (b2 : Int) (b22 : Int) (l3 : (List t3.den)) (l4 : (List Int)) (l5 : (List t1.den)) (l6 : (List Int)) (l7 : (List Bool)) (l8 : (List t3.den)) (l9 : (List Int)) (l10 : (List Int)) (l11 : (List Int)) (l12 : (List Bool)) (l13 : (List Int)) (l14 : (List Int)) : Option (Bool × Unit) := res spigottop_TopTable.c (atJoin spigottop_TopTable.b [1, 1, 1, 1, 1, 1, 1, 1, 0, 1, 0, 0, 1, 0, 0, 1, 1, 0, 1, 1, 1, 1, 1, 0, 1, 0, 1, 0, 1]) (spigottop_TopTable.S7 capacity keys drop i key gone evicted b0 b02 b03 b04 b1 b2 b22 l3 l4 l5 l6 l7 l8 l9 l10 l11 l12 l13 l14)
noncomputable def spigottop_TopTable.S8 (capacity : Int) (keys : (List Int)) (drop : (List Bool)) (ok : Bool) (i : Int) (place : Int) (b0 : Int) (b02 : Int) (b03 : Int) (b04 : Int) (b1 : Int) (b2 : Int) (b22 : Int) (l3 : (List t3.den)) (l4 : (List Int)) (l5 : (List t1.den)) (l6 : (List Int)) (l7 : (List Bool)) (l8 : (List t3.den)) (l9 : (List Int)) (l10 : (List Int)) (l11 : (List Int)) (l12 : (List Bool)) (l13 : (List Int)) (l14 : (List Int)) : St := ⟨[(0, (.v (.int .i64) capacity)), (1, (.v (.slice (.int .u32)) keys)), (2, (.v (.slice .bool) drop)), (7, (.v .bool ok)), (8, (.ptr 0 [])), (10, (.ptr 1 [])), (12, (.ptr 2 [])), (14, (.sl 3)), (15, (.v (.int .i64) i)), (17, (.v (.int .i64) place))], [(0, some (.box (.agg [(.v (.int .i64) b0), (.sl 4), (.sl 5), (.agg [(.sl 6), (.sl 7), (.v (.int .i64) b02)]), (.sl 8), (.agg [(.sl 9), (.sl 10), (.v (.int .i64) b03), (.v (.int .i64) b04)])]))), (1, some (.box (.agg [(.sl 11), (.sl 12), (.v (.int .i64) b1)]))), (2, some (.box (.agg [(.sl 13), (.sl 14), (.v (.int .i64) b2), (.v (.int .i64) b22)]))), (3, some (.row t3 l3 false)), (4, some (.row (.int .u32) l4 false)), (5, some (.row t1 l5 false)), (6, some (.row (.int .i64) l6 false)), (7, some (.row .bool l7 false)), (8, some (.row t3 l8 false)), (9, some (.row (.int .i64) l9 false)), (10, some (.row (.int .i64) l10 false)), (11, some (.row (.int .i64) l11 false)), (12, some (.row .bool l12 false)), (13, some (.row (.int .i64) l13 false)), (14, some (.row (.int .i64) l14 false))], 15, []⟩
noncomputable def spigottop_TopTable.L8 (capacity : Int) (keys : (List Int)) (drop : (List Bool)) (ok : Bool) (i : Int) (place : Int) (b0 : Int) (b02 : Int) (b03 : Int) (b04 : Int) (b1 : Int) (b2 : Int) (b22 : Int) (l3 : (List t3.den)) (l4 : (List Int)) (l5 : (List t1.den)) (l6 : (List Int)) (l7 : (List Bool)) (l8 : (List t3.den)) (l9 : (List Int)) (l10 : (List Int)) (l11 : (List Int)) (l12 : (List Bool)) (l13 : (List Int)) (l14 : (List Int)) : Option (Bool × Unit) := res spigottop_TopTable.c (atJoin spigottop_TopTable.b [1, 1, 1, 1, 1, 1, 1, 1, 0, 1, 0, 0, 1, 0, 0, 1, 1, 0, 1, 1, 1, 1, 1, 0, 1]) (spigottop_TopTable.S8 capacity keys drop ok i place b0 b02 b03 b04 b1 b2 b22 l3 l4 l5 l6 l7 l8 l9 l10 l11 l12 l13 l14)
noncomputable def spigottop_TopTable.S9 (capacity : Int) (keys : (List Int)) (drop : (List Bool)) (ok : Bool) (i : Int) (b0 : Int) (b02 : Int) (b03 : Int) (b04 : Int) (b1 : Int) (b2 : Int) (b22 : Int) (l3 : (List t3.den)) (b4 : Int) (b42 : Int) (l5 : (List Int)) (l6 : (List t1.den)) (l7 : (List Int)) (l8 : (List Bool)) (l9 : (List t3.den)) (l10 : (List Int)) (l11 : (List Int)) (l12 : (List Int)) (l13 : (List Bool)) (l14 : (List Int)) (l15 : (List Int)) (l16 : (List Int)) (l17 : (List Int)) : St := ⟨[(0, (.v (.int .i64) capacity)), (1, (.v (.slice (.int .u32)) keys)), (2, (.v (.slice .bool) drop)), (7, (.v .bool ok)), (8, (.ptr 0 [])), (10, (.ptr 1 [])), (12, (.ptr 2 [])), (14, (.sl 3)), (15, (.v (.int .i64) i)), (32, (.ptr 4 []))], [(0, some (.box (.agg [(.v (.int .i64) b0), (.sl 5), (.sl 6), (.agg [(.sl 7), (.sl 8), (.v (.int .i64) b02)]), (.sl 9), (.agg [(.sl 10), (.sl 11), (.v (.int .i64) b03), (.v (.int .i64) b04)])]))), (1, some (.box (.agg [(.sl 12), (.sl 13), (.v (.int .i64) b1)]))), (2, some (.box (.agg [(.sl 14), (.sl 15), (.v (.int .i64) b2), (.v (.int .i64) b22)]))), (3, some (.row t3 l3 false)), (4, some (.box (.agg [(.sl 16), (.sl 17), (.v (.int .i64) b4), (.v (.int .i64) b42)]))), (5, some (.row (.int .u32) l5 false)), (6, some (.row t1 l6 false)), (7, some (.row (.int .i64) l7 false)), (8, some (.row .bool l8 false)), (9, some (.row t3 l9 false)), (10, some (.row (.int .i64) l10 false)), (11, some (.row (.int .i64) l11 false)), (12, some (.row (.int .i64) l12 false)), (13, some (.row .bool l13 false)), (14, some (.row (.int .i64) l14 false)), (15, some (.row (.int .i64) l15 false)), (16, some (.row (.int .i64) l16 false)), (17, some (.row (.int .i64) l17 false))], 18, []⟩
noncomputable def spigottop_TopTable.L9 (capacity : Int) (keys : (List Int)) (drop : (List Bool)) (ok : Bool) (i : Int) (b0 : Int) (b02 : Int) (b03 : Int) (b04 : Int) (b1 : Int) (b2 : Int) (b22 : Int) (l3 : (List t3.den)) (b4 : Int) (b42 : Int) (l5 : (List Int)) (l6 : (List t1.den)) (l7 : (List Int)) (l8 : (List Bool)) (l9 : (List t3.den)) (l10 : (List Int)) (l11 : (List Int)) (l12 : (List Int)) (l13 : (List Bool)) (l14 : (List Int)) (l15 : (List Int)) (l16 : (List Int)) (l17 : (List Int)) : Option (Bool × Unit) := res spigottop_TopTable.c (atJoin spigottop_TopTable.b [1, 1, 1, 1, 1, 1, 1, 1, 0, 1, 0, 0, 1, 0, 0, 1, 1, 0, 1, 1, 1, 1, 1, 1, 1, 0, 1]) (spigottop_TopTable.S9 capacity keys drop ok i b0 b02 b03 b04 b1 b2 b22 l3 b4 b42 l5 l6 l7 l8 l9 l10 l11 l12 l13 l14 l15 l16 l17)
noncomputable def spigottop_TopTable.S10 (capacity : Int) (keys : (List Int)) (drop : (List Bool)) (ok : Bool) (i : Int) (b0 : Int) (b02 : Int) (b03 : Int) (b04 : Int) (b1 : Int) (b2 : Int) (b22 : Int) (l3 : (List t3.den)) (l4 : (List Int)) (l5 : (List t1.den)) (l6 : (List Int)) (l7 : (List Bool)) (l8 : (List t3.den)) (l9 : (List Int)) (l10 : (List Int)) (l11 : (List Int)) (l12 : (List Bool)) (l13 : (List Int)) (l14 : (List Int)) : St := ⟨[(0, (.v (.int .i64) capacity)), (1, (.v (.slice (.int .u32)) keys)), (2, (.v (.slice .bool) drop)), (7, (.v .bool ok)), (8, (.ptr 0 [])), (10, (.ptr 1 [])), (12, (.ptr 2 [])), (14, (.sl 3)), (15, (.v (.int .i64) i))], [(0, some (.box (.agg [(.v (.int .i64) b0), (.sl 4), (.sl 5), (.agg [(.sl 6), (.sl 7), (.v (.int .i64) b02)]), (.sl 8), (.agg [(.sl 9), (.sl 10), (.v (.int .i64) b03), (.v (.int .i64) b04)])]))), (1, some (.box (.agg [(.sl 11), (.sl 12), (.v (.int .i64) b1)]))), (2, some (.box (.agg [(.sl 13), (.sl 14), (.v (.int .i64) b2), (.v (.int .i64) b22)]))), (3, some (.row t3 l3 false)), (4, some (.row (.int .u32) l4 false)), (5, some (.row t1 l5 false)), (6, some (.row (.int .i64) l6 false)), (7, some (.row .bool l7 false)), (8, some (.row t3 l8 false)), (9, some (.row (.int .i64) l9 false)), (10, some (.row (.int .i64) l10 false)), (11, some (.row (.int .i64) l11 false)), (12, some (.row .bool l12 false)), (13, some (.row (.int .i64) l13 false)), (14, some (.row (.int .i64) l14 false))], 15, []⟩
noncomputable def spigottop_TopTable.L10 (capacity : Int) (keys : (List Int)) (drop : (List Bool)) (ok : Bool) (i : Int) (b0 : Int) (b02 : Int) (b03 : Int) (b04 : Int) (b1 : Int) (b2 : Int) (b22 : Int) (l3 : (List t3.den)) (l4 : (List Int)) (l5 : (List t1.den)) (l6 : (List Int)) (l7 : (List Bool)) (l8 : (List t3.den)) (l9 : (List Int)) (l10 : (List Int)) (l11 : (List Int)) (l12 : (List Bool)) (l13 : (List Int)) (l14 : (List Int)) : Option (Bool × Unit) := res spigottop_TopTable.c (atJoin spigottop_TopTable.b [1, 1, 1, 1, 1, 1, 1, 1, 0, 1, 0, 0, 1, 0, 0, 1, 1, 0, 1]) (spigottop_TopTable.S10 capacity keys drop ok i b0 b02 b03 b04 b1 b2 b22 l3 l4 l5 l6 l7 l8 l9 l10 l11 l12 l13 l14)
noncomputable def spigottop_TopTable.S11 (capacity : Int) (keys : (List Int)) (drop : (List Bool)) (ok : Bool) (i : Int) (b0 : Int) (b02 : Int) (b03 : Int) (b04 : Int) (b1 : Int) (b2 : Int) (b22 : Int) (l3 : (List t3.den)) (l4 : (List Int)) (l5 : (List t1.den)) (l6 : (List Int)) (l7 : (List Bool)) (l8 : (List t3.den)) (l9 : (List Int)) (l10 : (List Int)) (l11 : (List Int)) (l12 : (List Bool)) (l13 : (List Int)) (l14 : (List Int)) : St := ⟨[(0, (.v (.int .i64) capacity)), (1, (.v (.slice (.int .u32)) keys)), (2, (.v (.slice .bool) drop)), (7, (.v .bool ok)), (8, (.ptr 0 [])), (10, (.ptr 1 [])), (12, (.ptr 2 [])), (14, (.sl 3)), (15, (.v (.int .i64) i))], [(0, some (.box (.agg [(.v (.int .i64) b0), (.sl 4), (.sl 5), (.agg [(.sl 6), (.sl 7), (.v (.int .i64) b02)]), (.sl 8), (.agg [(.sl 9), (.sl 10), (.v (.int .i64) b03), (.v (.int .i64) b04)])]))), (1, some (.box (.agg [(.sl 11), (.sl 12), (.v (.int .i64) b1)]))), (2, some (.box (.agg [(.sl 13), (.sl 14), (.v (.int .i64) b2), (.v (.int .i64) b22)]))), (3, some (.row t3 l3 false)), (4, some (.row (.int .u32) l4 false)), (5, some (.row t1 l5 false)), (6, some (.row (.int .i64) l6 false)), (7, some (.row .bool l7 false)), (8, some (.row t3 l8 false)), (9, some (.row (.int .i64) l9 false)), (10, some (.row (.int .i64) l10 false)), (11, some (.row (.int .i64) l11 false)), (12, some (.row .bool l12 false)), (13, some (.row (.int .i64) l13 false)), (14, some (.row (.int .i64) l14 false))], 15, []⟩
noncomputable def spigottop_TopTable.L11 (capacity : Int) (keys : (List Int)) (drop : (List Bool)) (ok : Bool) (i : Int) (b0 : Int) (b02 : Int) (b03 : Int) (b04 : Int) (b1 : Int) (b2 : Int) (b22 : Int) (l3 : (List t3.den)) (l4 : (List Int)) (l5 : (List t1.den)) (l6 : (List Int)) (l7 : (List Bool)) (l8 : (List t3.den)) (l9 : (List Int)) (l10 : (List Int)) (l11 : (List Int)) (l12 : (List Bool)) (l13 : (List Int)) (l14 : (List Int)) : Option (Bool × Unit) := res spigottop_TopTable.c (atJoin spigottop_TopTable.b [1, 1, 1, 1, 1, 1, 1, 1, 0, 1, 0, 0, 1, 0, 0, 1, 1, 1, 1]) (spigottop_TopTable.S11 capacity keys drop ok i b0 b02 b03 b04 b1 b2 b22 l3 l4 l5 l6 l7 l8 l9 l10 l11 l12 l13 l14)
noncomputable def spigottop_TopTable.S12 (capacity : Int) (keys : (List Int)) (drop : (List Bool)) (i : Int) (key : Int) (gone : Int) (at_ : Int) (b0 : Int) (b02 : Int) (b03 : Int) (b04 : Int) (b1 : Int) (b2 : Int) (b22 : Int) (l3 : (List t3.den)) (l4 : (List Int)) (l5 : (List t1.den)) (l6 : (List Int)) (l7 : (List Bool)) (l8 : (List t3.den)) (l9 : (List Int)) (l10 : (List Int)) (l11 : (List Int)) (l12 : (List Bool)) (l13 : (List Int)) (l14 : (List Int)) : St := ⟨[(0, (.v (.int .i64) capacity)), (1, (.v (.slice (.int .u32)) keys)), (2, (.v (.slice .bool) drop)), (8, (.ptr 0 [])), (10, (.ptr 1 [])), (12, (.ptr 2 [])), (14, (.sl 3)), (15, (.v (.int .i64) i)), (16, (.v (.int .u32) key)), (22, (.v (.int .u32) gone)), (30, (.v (.int .i64) at_))], [(0, some (.box (.agg [(.v (.int .i64) b0), (.sl 4), (.sl 5), (.agg [(.sl 6), (.sl 7), (.v (.int .i64) b02)]), (.sl 8), (.agg [(.sl 9), (.sl 10), (.v (.int .i64) b03), (.v (.int .i64) b04)])]))), (1, some (.box (.agg [(.sl 11), (.sl 12), (.v (.int .i64) b1)]))), (2, some (.box (.agg [(.sl 13), (.sl 14), (.v (.int .i64) b2), (.v (.int .i64) b22)]))), (3, some (.row t3 l3 false)), (4, some (.row (.int .u32) l4 false)), (5, some (.row t1 l5 false)), (6, some (.row (.int .i64) l6 false)), (7, some (.row .bool l7 false)), (8, some (.row t3 l8 false)), (9, some (.row (.int .i64) l9 false)), (10, some (.row (.int .i64) l10 false)), (11, some (.row (.int .i64) l11 false)), (12, some (.row .bool l12 false)), (13, some (.row (.int .i64) l13 false)), (14, some (.row (.int .i64) l14 false))], 15, []⟩
noncomputable def spigottop_TopTable.L12 (capacity : Int) (keys : (List Int)) (drop : (List Bool)) (i : Int) (key : Int) (gone : Int) (at_ : Int) (b0 : Int) (b02 : Int) (b03 : Int) (b04 : Int) (b1 : Int) (b2 : Int) (b22 : Int) (l3 : (List t3.den)) (l4 : (List Int)) (l5 : (List t1.den)) (l6 : (List Int)) (l7 : (List Bool)) (l8 : (List t3.den)) (l9 : (List Int)) (l10 : (List Int)) (l11 : (List Int)) (l12 : (List Bool)) (l13 : (List Int)) (l14 : (List Int)) : Option (Bool × Unit) := res spigottop_TopTable.c (atJoin spigottop_TopTable.b [1, 1, 1, 1, 1, 1, 1, 1, 0, 1, 0, 0, 1, 0, 0, 1, 1, 0, 1, 1, 1, 1, 1, 0, 1, 0, 1, 1, 0, 1, 0, 1, 1, 0, 1]) (spigottop_TopTable.S12 capacity keys drop i key gone at_ b0 b02 b03 b04 b1 b2 b22 l3 l4 l5 l6 l7 l8 l9 l10 l11 l12 l13 l14)
noncomputable def spigottop_TopTable.S13 (capacity : Int) (keys : (List Int)) (drop : (List Bool)) (i : Int) (key : Int) (b0 : Int) (b02 : Int) (b03 : Int) (b04 : Int) (b1 : Int) (b2 : Int) (b22 : Int) (l3 : (List t3.den)) (l4 : (List Int)) (l5 : (List t1.den)) (l6 : (List Int)) (l7 : (List Bool)) (l8 : (List t3.den)) (l9 : (List Int)) (l10 : (List Int)) (l11 : (List Int)) (l12 : (List Bool)) (l13 : (List Int)) (l14 : (List Int)) : St := ⟨[(0, (.v (.int .i64) capacity)), (1, (.v (.slice (.int .u32)) keys)), (2, (.v (.slice .bool) drop)), (8, (.ptr 0 [])), (10, (.ptr 1 [])), (12, (.ptr 2 [])), (14, (.sl 3)), (15, (.v (.int .i64) i)), (16, (.v (.int .u32) key))], [(0, some (.box (.agg [(.v (.int .i64) b0), (.sl 4), (.sl 5), (.agg [(.sl 6), (.sl 7), (.v (.int .i64) b02)]), (.sl 8), (.agg [(.sl 9), (.sl 10), (.v (.int .i64) b03), (.v (.int .i64) b04)])]))), (1, some (.box (.agg [(.sl 11), (.sl 12), (.v (.int .i64) b1)]))), (2, some (.box (.agg [(.sl 13), (.sl 14), (.v (.int .i64) b2), (.v (.int .i64) b22)]))), (3, some (.row t3 l3 false)), (4, some (.row (.int .u32) l4 false)), (5, some (.row t1 l5 false)), (6, some (.row (.int .i64) l6 false)), (7, some (.row .bool l7 false)), (8, some (.row t3 l8 false)), (9, some (.row (.int .i64) l9 false)), (10, some (.row (.int .i64) l10 false)), (11, some (.row (.int .i64) l11 false)), (12, some (.row .bool l12 false)), (13, some (.row (.int .i64) l13 false)), (14, some (.row (.int .i64) l14 false))], 15, []⟩
noncomputable def spigottop_TopTable.L13 (capacity : Int) (keys : (List Int)) (drop : (List Bool)) (i : Int) (key : Int) (b0 : Int) (b02 : Int) (b03 : Int) (b04 : Int) (b1 : Int) (b2 : Int) (b22 : Int) (l3 : (List t3.den)) (l4 : (List Int)) (l5 : (List t1.den)) (l6 : (List Int)) (l7 : (List Bool)) (l8 : (List t3.den)) (l9 : (List Int)) (l10 : (List Int)) (l11 : (List Int)) (l12 : (List Bool)) (l13 : (List Int)) (l14 : (List Int)) : Option (Bool × Unit) := res spigottop_TopTable.c (atJoin spigottop_TopTable.b [1, 1, 1, 1, 1, 1, 1, 1, 0, 1, 0, 0, 1, 0, 0, 1, 1, 0, 1, 1, 1, 1, 1, 0, 1, 0, 1, 1, 0, 1]) (spigottop_TopTable.S13 capacity keys drop i key b0 b02 b03 b04 b1 b2 b22 l3 l4 l5 l6 l7 l8 l9 l10 l11 l12 l13 l14)
noncomputable def spigottop_TopTable.S14 (capacity : Int) (keys : (List Int)) (drop : (List Bool)) (ok : Bool) (i : Int) (place : Int) (b0 : Int) (b02 : Int) (b03 : Int) (b04 : Int) (b1 : Int) (b2 : Int) (b22 : Int) (l3 : (List t3.den)) (l4 : (List Int)) (l5 : (List t1.den)) (l6 : (List Int)) (l7 : (List Bool)) (l8 : (List t3.den)) (l9 : (List Int)) (l10 : (List Int)) (l11 : (List Int)) (l12 : (List Bool)) (l13 : (List Int)) (l14 : (List Int)) : St := ⟨[(0, (.v (.int .i64) capacity)), (1, (.v (.slice (.int .u32)) keys)), (2, (.v (.slice .bool) drop)), (7, (.v .bool ok)), (8, (.ptr 0 [])), (10, (.ptr 1 [])), (12, (.ptr 2 [])), (14, (.sl 3)), (15, (.v (.int .i64) i)), (17, (.v (.int .i64) place))], [(0, some (.box (.agg [(.v (.int .i64) b0), (.sl 4), (.sl 5), (.agg [(.sl 6), (.sl 7), (.v (.int .i64) b02)]), (.sl 8), (.agg [(.sl 9), (.sl 10), (.v (.int .i64) b03), (.v (.int .i64) b04)])]))), (1, some (.box (.agg [(.sl 11), (.sl 12), (.v (.int .i64) b1)]))), (2, some (.box (.agg [(.sl 13), (.sl 14), (.v (.int .i64) b2), (.v (.int .i64) b22)]))), (3, some (.row t3 l3 false)), (4, some (.row (.int .u32) l4 false)), (5, some (.row t1 l5 false)), (6, some (.row (.int .i64) l6 false)), (7, some (.row .bool l7 false)), (8, some (.row t3 l8 false)), (9, some (.row (.int .i64) l9 false)), (10, some (.row (.int .i64) l10 false)), (11, some (.row (.int .i64) l11 false)), (12, some (.row .bool l12 false)), (13, some (.row (.int .i64) l13 false)), (14, some (.row (.int .i64) l14 false))], 15, []⟩
noncomputable def spigottop_TopTable.L14 (capacity : Int) (keys : (List Int)) (drop : (List Bool)) (ok : Bool) (i : Int) (place : Int) (b0 : Int) (b02 : Int) (b03 : Int) (b04 : Int) (b1 : Int) (b2 : Int) (b22 : Int) (l3 : (List t3.den)) (l4 : (List Int)) (l5 : (List t1.den)) (l6 : (List Int)) (l7 : (List Bool)) (l8 : (List t3.den)) (l9 : (List Int)) (l10 : (List Int)) (l11 : (List Int)) (l12 : (List Bool)) (l13 : (List Int)) (l14 : (List Int)) : Option (Bool × Unit) := res spigottop_TopTable.c (atJoin spigottop_TopTable.b [1, 1, 1, 1, 1, 1, 1, 1, 0, 1, 0, 0, 1, 0, 0, 1, 1, 0, 1, 1, 1, 1, 1, 0, 1, 0, 1, 1, 1, 1, 1]) (spigottop_TopTable.S14 capacity keys drop ok i place b0 b02 b03 b04 b1 b2 b22 l3 l4 l5 l6 l7 l8 l9 l10 l11 l12 l13 l14)
noncomputable def spigottop_TopTable.S15 (capacity : Int) (keys : (List Int)) (drop : (List Bool)) (i : Int) (key : Int) (b0 : Int) (b02 : Int) (b03 : Int) (b04 : Int) (b1 : Int) (b2 : Int) (b22 : Int) (l3 : (List t3.den)) (l4 : (List Int)) (l5 : (List t1.den)) (l6 : (List Int)) (l7 : (List Bool)) (l8 : (List t3.den)) (l9 : (List Int)) (l10 : (List Int)) (l11 : (List Int)) (l12 : (List Bool)) (l13 : (List Int)) (l14 : (List Int)) : St := ⟨[(0, (.v (.int .i64) capacity)), (1, (.v (.slice (.int .u32)) keys)), (2, (.v (.slice .bool) drop)), (8, (.ptr 0 [])), (10, (.ptr 1 [])), (12, (.ptr 2 [])), (14, (.sl 3)), (15, (.v (.int .i64) i)), (16, (.v (.int .u32) key))], [(0, some (.box (.agg [(.v (.int .i64) b0), (.sl 4), (.sl 5), (.agg [(.sl 6), (.sl 7), (.v (.int .i64) b02)]), (.sl 8), (.agg [(.sl 9), (.sl 10), (.v (.int .i64) b03), (.v (.int .i64) b04)])]))), (1, some (.box (.agg [(.sl 11), (.sl 12), (.v (.int .i64) b1)]))), (2, some (.box (.agg [(.sl 13), (.sl 14), (.v (.int .i64) b2), (.v (.int .i64) b22)]))), (3, some (.row t3 l3 false)), (4, some (.row (.int .u32) l4 false)), (5, some (.row t1 l5 false)), (6, some (.row (.int .i64) l6 false)), (7, some (.row .bool l7 false)), (8, some (.row t3 l8 false)), (9, some (.row (.int .i64) l9 false)), (10, some (.row (.int .i64) l10 false)), (11, some (.row (.int .i64) l11 false)), (12, some (.row .bool l12 false)), (13, some (.row (.int .i64) l13 false)), (14, some (.row (.int .i64) l14 false))], 15, []⟩
noncomputable def spigottop_TopTable.L15 (capacity : Int) (keys : (List Int)) (drop : (List Bool)) (i : Int) (key : Int) (b0 : Int) (b02 : Int) (b03 : Int) (b04 : Int) (b1 : Int) (b2 : Int) (b22 : Int) (l3 : (List t3.den)) (l4 : (List Int)) (l5 : (List t1.den)) (l6 : (List Int)) (l7 : (List Bool)) (l8 : (List t3.den)) (l9 : (List Int)) (l10 : (List Int)) (l11 : (List Int)) (l12 : (List Bool)) (l13 : (List Int)) (l14 : (List Int)) : Option (Bool × Unit) := res spigottop_TopTable.c (atJoin spigottop_TopTable.b [1, 1, 1, 1, 1, 1, 1, 1, 0, 1, 0, 0, 1, 0, 0, 1, 1, 0, 1, 1, 1, 1, 1, 0, 1, 0, 1, 1, 0, 1, 0, 1, 1, 1, 1, 1]) (spigottop_TopTable.S15 capacity keys drop i key b0 b02 b03 b04 b1 b2 b22 l3 l4 l5 l6 l7 l8 l9 l10 l11 l12 l13 l14)
noncomputable def spigottop_TopTable.S16 (capacity : Int) (keys : (List Int)) (drop : (List Bool)) (i : Int) (key : Int) (place : Int) (b0 : Int) (b02 : Int) (b03 : Int) (b04 : Int) (b1 : Int) (b2 : Int) (b22 : Int) (l3 : (List t3.den)) (b4 : Int) (b42 : Int) (b43 : Int) (b44 : Int) (l5 : (List Int)) (l6 : (List t1.den)) (l7 : (List Int)) (l8 : (List Bool)) (l9 : (List t3.den)) (l10 : (List Int)) (l11 : (List Int)) (l12 : (List Int)) (l13 : (List Bool)) (l14 : (List Int)) (l15 : (List Int)) (l16 : (List Int)) (l17 : (List t1.den)) (l18 : (List Int)) (l19 : (List Bool)) (l20 : (List t3.den)) (l21 : (List Int)) (l22 : (List Int)) : St := ⟨[(0, (.v (.int .i64) capacity)), (1, (.v (.slice (.int .u32)) keys)), (2, (.v (.slice .bool) drop)), (8, (.ptr 0 [])), (10, (.ptr 1 [])), (12, (.ptr 2 [])), (14, (.sl 3)), (15, (.v (.int .i64) i)), (16, (.v (.int .u32) key)), (17, (.v (.int .i64) place)), (19, (.ptr 4 []))], [(0, some (.box (.agg [(.v (.int .i64) b0), (.sl 5), (.sl 6), (.agg [(.sl 7), (.sl 8), (.v (.int .i64) b02)]), (.sl 9), (.agg [(.sl 10), (.sl 11), (.v (.int .i64) b03), (.v (.int .i64) b04)])]))), (1, some (.box (.agg [(.sl 12), (.sl 13), (.v (.int .i64) b1)]))), (2, some (.box (.agg [(.sl 14), (.sl 15), (.v (.int .i64) b2), (.v (.int .i64) b22)]))), (3, some (.row t3 l3 false)), (4, some (.box (.agg [(.v (.int .i64) b4), (.sl 16), (.sl 17), (.agg [(.sl 18), (.sl 19), (.v (.int .i64) b42)]), (.sl 20), (.agg [(.sl 21), (.sl 22), (.v (.int .i64) b43), (.v (.int .i64) b44)])]))), (5, some (.row (.int .u32) l5 false)), (6, some (.row t1 l6 false)), (7, some (.row (.int .i64) l7 false)), (8, some (.row .bool l8 false)), (9, some (.row t3 l9 false)), (10, some (.row (.int .i64) l10 false)), (11, some (.row (.int .i64) l11 false)), (12, some (.row (.int .i64) l12 false)), (13, some (.row .bool l13 false)), (14, some (.row (.int .i64) l14 false)), (15, some (.row (.int .i64) l15 false)), (16, some (.row (.int .u32) l16 false)), (17, some (.row t1 l17 false)), (18, some (.row (.int .i64) l18 false)), (19, some (.row .bool l19 false)), (20, some (.row t3 l20 false)), (21, some (.row (.int .i64) l21 false)), (22, some (.row (.int .i64) l22 false))], 23, []⟩
noncomputable def spigottop_TopTable.L16 (capacity : Int) (keys : (List Int)) (drop : (List Bool)) (i : Int) (key : Int) (place : Int) (b0 : Int) (b02 : Int) (b03 : Int) (b04 : Int) (b1 : Int) (b2 : Int) (b22 : Int) (l3 : (List t3.den)) (b4 : Int) (b42 : Int) (b43 : Int) (b44 : Int) (l5 : (List Int)) (l6 : (List t1.den)) (l7 : (List Int)) (l8 : (List Bool)) (l9 : (List t3.den)) (l10 : (List Int)) (l11 : (List Int)) (l12 : (List Int)) (l13 : (List Bool)) (l14 : (List Int)) (l15 : (List Int)) (l16 : (List Int)) (l17 : (List t1.den)) (l18 : (List Int)) (l19 : (List Bool)) (l20 : (List t3.den)) (l21 : (List Int)) (l22 : (List Int)) : Option (Bool × Unit) := res spigottop_TopTable.c (atJoin spigottop_TopTable.b [1, 1, 1, 1, 1, 1, 1, 1, 0, 1, 0, 0, 1, 0, 0, 1, 1, 0, 1, 0, 1, 1, 0, 1]) (spigottop_TopTable.S16 capacity keys drop i key place b0 b02 b03 b04 b1 b2 b22 l3 b4 b42 b43 b44 l5 l6 l7 l8 l9 l10 l11 l12 l13 l14 l15 l16 l17 l18 l19 l20 l21 l22)
noncomputable def spigottop_TopTable.S17 (capacity : Int) (keys : (List Int)) (drop : (List Bool)) (ok : Bool) (i : Int) (b0 : Int) (b02 : Int) (b03 : Int) (b04 : Int) (b1 : Int) (b2 : Int) (b22 : Int) (l3 : (List t3.den)) (l4 : (List Int)) (l5 : (List t1.den)) (l6 : (List Int)) (l7 : (List Bool)) (l8 : (List t3.den)) (l9 : (List Int)) (l10 : (List Int)) (l11 : (List Int)) (l12 : (List Bool)) (l13 : (List Int)) (l14 : (List Int)) : St := ⟨[(0, (.v (.int .i64) capacity)), (1, (.v (.slice (.int .u32)) keys)), (2, (.v (.slice .bool) drop)), (7, (.v .bool ok)), (8, (.ptr 0 [])), (10, (.ptr 1 [])), (12, (.ptr 2 [])), (14, (.sl 3)), (15, (.v (.int .i64) i))], [(0, some (.box (.agg [(.v (.int .i64) b0), (.sl 4), (.sl 5), (.agg [(.sl 6), (.sl 7), (.v (.int .i64) b02)]), (.sl 8), (.agg [(.sl 9), (.sl 10), (.v (.int .i64) b03), (.v (.int .i64) b04)])]))), (1, some (.box (.agg [(.sl 11), (.sl 12), (.v (.int .i64) b1)]))), (2, some (.box (.agg [(.sl 13), (.sl 14), (.v (.int .i64) b2), (.v (.int .i64) b22)]))), (3, some (.row t3 l3 false)), (4, some (.row (.int .u32) l4 false)), (5, some (.row t1 l5 false)), (6, some (.row (.int .i64) l6 false)), (7, some (.row .bool l7 false)), (8, some (.row t3 l8 false)), (9, some (.row (.int .i64) l9 false)), (10, some (.row (.int .i64) l10 false)), (11, some (.row (.int .i64) l11 false)), (12, some (.row .bool l12 false)), (13, some (.row (.int .i64) l13 false)), (14, some (.row (.int .i64) l14 false))], 15, []⟩
noncomputable def spigottop_TopTable.L17 (capacity : Int) (keys : (List Int)) (drop : (List Bool)) (ok : Bool) (i : Int) (b0 : Int) (b02 : Int) (b03 : Int) (b04 : Int) (b1 : Int) (b2 : Int) (b22 : Int) (l3 : (List t3.den)) (l4 : (List Int)) (l5 : (List t1.den)) (l6 : (List Int)) (l7 : (List Bool)) (l8 : (List t3.den)) (l9 : (List Int)) (l10 : (List Int)) (l11 : (List Int)) (l12 : (List Bool)) (l13 : (List Int)) (l14 : (List Int)) : Option (Bool × Unit) := res spigottop_TopTable.c (atJoin spigottop_TopTable.b [1, 1, 1, 1, 1, 1, 1, 1, 0, 1, 0, 0, 1, 0, 0, 1, 1, 0, 1, 0, 1, 1, 1, 1, 1, 1]) (spigottop_TopTable.S17 capacity keys drop ok i b0 b02 b03 b04 b1 b2 b22 l3 l4 l5 l6 l7 l8 l9 l10 l11 l12 l13 l14)
theorem spigottop_TopTable.spec : FnSpec Try.prog globs 3 spigottop_TopTable.Fn := spec_of (E := spigottop_TopTable.E) (envOk_at tabOk eqOk primsOk (.cons spigottop_alive16.spec <| .cons table_New.spec <| .cons arena_New.spec <| .cons lru_New.spec <| .cons probe_New.spec <| .cons probe_Find.spec <| .cons table_Drop.spec <| .cons spigottop_out16.spec <| .cons table_Use.spec <| .cons spigottop_limit16.spec <| .cons arena_Count.spec <| .cons lru_Last.spec <| .cons spigottop_in16.spec <| .cons lru_Touch.spec <| .cons spigottop_same16.spec <| .nil)) mixOk Try.func3 (by kernel_rfl)
theorem spigottop_TopTable.L1_eq (capacity : Int) (keys : (List Int)) (drop : (List Bool)) (ok : Bool) (e : Int) (f : Int) (g : Int) (b0 : Int) (b02 : Int) (b03 : Int) (b04 : Int) (b1 : Int) (b2 : Int) (b22 : Int) (l3 : (List Int)) (l4 : (List t1.den)) (l5 : (List Int)) (l6 : (List Bool)) (l7 : (List t3.den)) (l8 : (List Int)) (l9 : (List Int)) (l10 : (List Int)) (l11 : (List Bool)) (l12 : (List Int)) (l13 : (List Int)) : spigottop_TopTable.L1 capacity keys drop ok e f g b0 b02 b03 b04 b1 b2 b22 l3 l4 l5 l6 l7 l8 l9 l10 l11 l12 l13 =
  probe_New.F.bind fun r0 =>
  bif (e != 0) then
    some (false, ())
  else
    bif (f != 0) then
      some (false, ())
    else
      bif (g != 0) then
        some (false, ())
      else
        spigottop_TopTable.L2 capacity keys drop ok b0 b02 b03 b04 b1 b2 b22 r0.1 l3 l4 l5 l6 l7 l8 l9 l10 l11 l12 l13 := res_eq (by kernel_rfl)
theorem spigottop_TopTable.L2_eq (capacity : Int) (keys : (List Int)) (drop : (List Bool)) (ok : Bool) (b0 : Int) (b02 : Int) (b03 : Int) (b04 : Int) (b1 : Int) (b2 : Int) (b22 : Int) (l3 : (List t3.den)) (l4 : (List Int)) (l5 : (List t1.den)) (l6 : (List Int)) (l7 : (List Bool)) (l8 : (List t3.den)) (l9 : (List Int)) (l10 : (List Int)) (l11 : (List Int)) (l12 : (List Bool)) (l13 : (List Int)) (l14 : (List Int)) : spigottop_TopTable.L2 capacity keys drop ok b0 b02 b03 b04 b1 b2 b22 l3 l4 l5 l6 l7 l8 l9 l10 l11 l12 l13 l14 =
  spigottop_TopTable.L3 capacity keys drop ok 0 b0 b02 b03 b04 b1 b2 b22 l3 l4 l5 l6 l7 l8 l9 l10 l11 l12 l13 l14 := res_eq (by kernel_rfl)
theorem spigottop_TopTable.L3_eq (capacity : Int) (keys : (List Int)) (drop : (List Bool)) (ok : Bool) (i : Int) (b0 : Int) (b02 : Int) (b03 : Int) (b04 : Int) (b1 : Int) (b2 : Int) (b22 : Int) (l3 : (List t3.den)) (l4 : (List Int)) (l5 : (List t1.den)) (l6 : (List Int)) (l7 : (List Bool)) (l8 : (List t3.den)) (l9 : (List Int)) (l10 : (List Int)) (l11 : (List Int)) (l12 : (List Bool)) (l13 : (List Int)) (l14 : (List Int)) : spigottop_TopTable.L3 capacity keys drop ok i b0 b02 b03 b04 b1 b2 b22 l3 l4 l5 l6 l7 l8 l9 l10 l11 l12 l13 l14 =
  bif (decide ((i : Int) < ((List.length keys : Int)))) then
    spigottop_TopTable.L4 capacity keys drop ok i b0 b02 b03 b04 b1 b2 b22 l3 l4 l5 l6 l7 l8 l9 l10 l11 l12 l13 l14
  else
    some (ok, ()) := res_eq (by kernel_rfl)
theorem spigottop_TopTable.L4_eq (capacity : Int) (keys : (List Int)) (drop : (List Bool)) (ok : Bool) (i : Int) (b0 : Int) (b02 : Int) (b03 : Int) (b04 : Int) (b1 : Int) (b2 : Int) (b22 : Int) (l3 : (List t3.den)) (l4 : (List Int)) (l5 : (List t1.den)) (l6 : (List Int)) (l7 : (List Bool)) (l8 : (List t3.den)) (l9 : (List Int)) (l10 : (List Int)) (l11 : (List Int)) (l12 : (List Bool)) (l13 : (List Int)) (l14 : (List Int)) : spigottop_TopTable.L4 capacity keys drop ok i b0 b02 b03 b04 b1 b2 b22 l3 l4 l5 l6 l7 l8 l9 l10 l11 l12 l13 l14 =
  bif (decide ((0 : Int) ≤ i ∧ (i : Int) < ((List.length keys : Int)))) then
    (probe_Find.F l3 (List.getD keys (Int.toNat i) 0)).bind fun r0 =>
    bif (decide ((0 : Int) ≤ i ∧ (i : Int) < ((List.length drop : Int)))) then
      bif (List.getD drop (Int.toNat i) false) then
        (table_Drop.F (b0, l4, l5, (l6, l7, b02, ()), l8, (l9, l10, b03, b04, ()), ()) (List.getD keys (Int.toNat i) 0)).bind fun r1 =>
        bif (r1.2.1 != r0.2.1) then
          some (false, ())
        else
          spigottop_TopTable.L5 capacity keys drop ok i (List.getD keys (Int.toNat i) 0) r0.1 r1.2.1 b0 b02 b03 b04 b1 b2 b22 l3 r1.1.1 r1.1.2.2.2.1.2.2.1 r1.1.2.2.2.2.2.1.2.2.1 r1.1.2.2.2.2.2.1.2.2.2.1 l4 l5 l6 l7 l8 l9 l10 l11 l12 l13 l14 r1.1.2.1 r1.1.2.2.1 r1.1.2.2.2.1.1 r1.1.2.2.2.1.2.1 r1.1.2.2.2.2.1 r1.1.2.2.2.2.2.1.1 r1.1.2.2.2.2.2.1.2.1
      else
        spigottop_limit16.F.bind fun r1 =>
        (table_Use.F (b0, l4, l5, (l6, l7, b02, ()), l8, (l9, l10, b03, b04, ()), ()) (List.getD keys (Int.toNat i) 0) r1.1 (IntKind.wrap .u64 i)).bind fun r2 =>
        bif (r2.2.2.2.1 != 0) then
          some (false, ())
        else
          spigottop_TopTable.L6 capacity keys drop ok i (List.getD keys (Int.toNat i) 0) r0.1 r0.2.1 r2.2.1 r2.2.2.1 b0 b02 b03 b04 b1 b2 b22 l3 r2.1.1 r2.1.2.2.2.1.2.2.1 r2.1.2.2.2.2.2.1.2.2.1 r2.1.2.2.2.2.2.1.2.2.2.1 l4 l5 l6 l7 l8 l9 l10 l11 l12 l13 l14 r2.1.2.1 r2.1.2.2.1 r2.1.2.2.2.1.1 r2.1.2.2.2.1.2.1 r2.1.2.2.2.2.1 r2.1.2.2.2.2.2.1.1 r2.1.2.2.2.2.2.1.2.1
    else none
  else none := res_eq (by kernel_rfl)
theorem spigottop_TopTable.L5_eq (capacity : Int) (keys : (List Int)) (drop : (List Bool)) (ok : Bool) (i : Int) (key : Int) (place : Int) (h : Int) (b0 : Int) (b02 : Int) (b03 : Int) (b04 : Int) (b1 : Int) (b2 : Int) (b22 : Int) (l3 : (List t3.den)) (b4 : Int) (b42 : Int) (b43 : Int) (b44 : Int) (l5 : (List Int)) (l6 : (List t1.den)) (l7 : (List Int)) (l8 : (List Bool)) (l9 : (List t3.den)) (l10 : (List Int)) (l11 : (List Int)) (l12 : (List Int)) (l13 : (List Bool)) (l14 : (List Int)) (l15 : (List Int)) (l16 : (List Int)) (l17 : (List t1.den)) (l18 : (List Int)) (l19 : (List Bool)) (l20 : (List t3.den)) (l21 : (List Int)) (l22 : (List Int)) : spigottop_TopTable.L5 capacity keys drop ok i key place h b0 b02 b03 b04 b1 b2 b22 l3 b4 b42 b43 b44 l5 l6 l7 l8 l9 l10 l11 l12 l13 l14 l15 l16 l17 l18 l19 l20 l21 l22 =
  bif (h != 0) then
    spigottop_TopTable.L3 capacity keys drop ok (IntKind.wrap .i64 (i + 1)) b0 b02 b03 b04 b1 b2 b22 l3 l5 l6 l7 l8 l9 l10 l11 l12 l13 l14 l15
  else
    spigottop_TopTable.L16 capacity keys drop i key place b0 b02 b03 b04 b1 b2 b22 l3 b4 b42 b43 b44 l5 l6 l7 l8 l9 l10 l11 l12 l13 l14 l15 l16 l17 l18 l19 l20 l21 l22 := res_eq (by kernel_rfl)
theorem spigottop_TopTable.L6_eq (capacity : Int) (keys : (List Int)) (drop : (List Bool)) (ok : Bool) (i : Int) (key : Int) (place : Int) (there : Int) (gone : Int) (evicted : Bool) (b0 : Int) (b02 : Int) (b03 : Int) (b04 : Int) (b1 : Int) (b2 : Int) (b22 : Int) (l3 : (List t3.den)) (b4 : Int) (b42 : Int) (b43 : Int) (b44 : Int) (l5 : (List Int)) (l6 : (List t1.den)) (l7 : (List Int)) (l8 : (List Bool)) (l9 : (List t3.den)) (l10 : (List Int)) (l11 : (List Int)) (l12 : (List Int)) (l13 : (List Bool)) (l14 : (List Int)) (l15 : (List Int)) (l16 : (List Int)) (l17 : (List t1.den)) (l18 : (List Int)) (l19 : (List Bool)) (l20 : (List t3.den)) (l21 : (List Int)) (l22 : (List Int)) : spigottop_TopTable.L6 capacity keys drop ok i key place there gone evicted b0 b02 b03 b04 b1 b2 b22 l3 b4 b42 b43 b44 l5 l6 l7 l8 l9 l10 l11 l12 l13 l14 l15 l16 l17 l18 l19 l20 l21 l22 =
  bif (there != 0) then
    (arena_Count.F (l12, l13, b1, ())).bind fun r0 =>
    bif (r0.2.2.1 != 0) then
      some (false, ())
    else
      bif (!(evicted == (r0.1 == capacity))) then
        some (false, ())
      else
        spigottop_TopTable.L7 capacity keys drop i key gone evicted b4 b42 b43 b44 b1 b2 b22 l3 l16 l17 l18 l19 l20 l21 l22 l12 l13 l14 l15
  else
    spigottop_TopTable.L8 capacity keys drop ok i place b4 b42 b43 b44 b1 b2 b22 l3 l16 l17 l18 l19 l20 l21 l22 l12 l13 l14 l15 := res_eq (by kernel_rfl)
theorem spigottop_TopTable.L7_eq (capacity : Int) (keys : (List Int)) (drop : (List Bool)) (i : Int) (key : Int) (gone : Int) (evicted : Bool) (b0 : Int) (b02 : Int) (b03 : Int) (b04 : Int) (b1 : Int) (b2 : Int) (b22 : Int) (l3 : (List t3.den)) (l4 : (List Int)) (l5 : (List t1.den)) (l6 : (List Int)) (l7 : (List Bool)) (l8 : (List t3.den)) (l9 : (List Int)) (l10 : (List Int)) (l11 : (List Int)) (l12 : (List Bool)) (l13 : (List Int)) (l14 : (List Int)) : spigottop_TopTable.L7 capacity keys drop i key gone evicted b0 b02 b03 b04 b1 b2 b22 l3 l4 l5 l6 l7 l8 l9 l10 l11 l12 l13 l14 =
  bif evicted then
    (lru_Last.F (l13, l14, b2, b22, ())).bind fun r0 =>
    (probe_Find.F l3 gone).bind fun r1 =>
    bif (r0.2.1 != 0) then
      some (false, ())
    else
      bif (r1.2.1 != 0) then
        some (false, ())
      else
        bif (r0.1 != r1.1) then
          some (false, ())
        else
          spigottop_TopTable.L12 capacity keys drop i key gone r1.1 b0 b02 b03 b04 b1 b2 b22 l3 l4 l5 l6 l7 l8 l9 l10 l11 l12 l13 l14
  else
    spigottop_TopTable.L13 capacity keys drop i key b0 b02 b03 b04 b1 b2 b22 l3 l4 l5 l6 l7 l8 l9 l10 l11 l12 l13 l14 := res_eq (by kernel_rfl)
theorem spigottop_TopTable.L8_eq (capacity : Int) (keys : (List Int)) (drop : (List Bool)) (ok : Bool) (i : Int) (place : Int) (b0 : Int) (b02 : Int) (b03 : Int) (b04 : Int) (b1 : Int) (b2 : Int) (b22 : Int) (l3 : (List t3.den)) (l4 : (List Int)) (l5 : (List t1.den)) (l6 : (List Int)) (l7 : (List Bool)) (l8 : (List t3.den)) (l9 : (List Int)) (l10 : (List Int)) (l11 : (List Int)) (l12 : (List Bool)) (l13 : (List Int)) (l14 : (List Int)) : spigottop_TopTable.L8 capacity keys drop ok i place b0 b02 b03 b04 b1 b2 b22 l3 l4 l5 l6 l7 l8 l9 l10 l11 l12 l13 l14 =
  (lru_Touch.F (l13, l14, b2, b22, ()) place).bind fun r0 =>
  bif (r0.2.1 != 0) then
    some (false, ())
  else
    spigottop_TopTable.L9 capacity keys drop ok i b0 b02 b03 b04 b1 b2 b22 l3 r0.1.2.2.1 r0.1.2.2.2.1 l4 l5 l6 l7 l8 l9 l10 l11 l12 l13 l14 r0.1.1 r0.1.2.1 := res_eq (by kernel_rfl)
theorem spigottop_TopTable.L9_eq (capacity : Int) (keys : (List Int)) (drop : (List Bool)) (ok : Bool) (i : Int) (b0 : Int) (b02 : Int) (b03 : Int) (b04 : Int) (b1 : Int) (b2 : Int) (b22 : Int) (l3 : (List t3.den)) (b4 : Int) (b42 : Int) (l5 : (List Int)) (l6 : (List t1.den)) (l7 : (List Int)) (l8 : (List Bool)) (l9 : (List t3.den)) (l10 : (List Int)) (l11 : (List Int)) (l12 : (List Int)) (l13 : (List Bool)) (l14 : (List Int)) (l15 : (List Int)) (l16 : (List Int)) (l17 : (List Int)) : spigottop_TopTable.L9 capacity keys drop ok i b0 b02 b03 b04 b1 b2 b22 l3 b4 b42 l5 l6 l7 l8 l9 l10 l11 l12 l13 l14 l15 l16 l17 =
  spigottop_TopTable.L10 capacity keys drop ok i b0 b02 b03 b04 b1 b4 b42 l3 l5 l6 l7 l8 l9 l10 l11 l12 l13 l16 l17 := res_eq (by kernel_rfl)
theorem spigottop_TopTable.L10_eq (capacity : Int) (keys : (List Int)) (drop : (List Bool)) (ok : Bool) (i : Int) (b0 : Int) (b02 : Int) (b03 : Int) (b04 : Int) (b1 : Int) (b2 : Int) (b22 : Int) (l3 : (List t3.den)) (l4 : (List Int)) (l5 : (List t1.den)) (l6 : (List Int)) (l7 : (List Bool)) (l8 : (List t3.den)) (l9 : (List Int)) (l10 : (List Int)) (l11 : (List Int)) (l12 : (List Bool)) (l13 : (List Int)) (l14 : (List Int)) : spigottop_TopTable.L10 capacity keys drop ok i b0 b02 b03 b04 b1 b2 b22 l3 l4 l5 l6 l7 l8 l9 l10 l11 l12 l13 l14 =
  (spigottop_same16.F (b0, l4, l5, (l6, l7, b02, ()), l8, (l9, l10, b03, b04, ()), ()) (l11, l12, b1, ()) (l13, l14, b2, b22, ()) l3).bind fun r0 =>
  bif (!r0.1) then
    some (false, ())
  else
    spigottop_TopTable.L11 capacity keys drop ok i b0 b02 b03 b04 b1 b2 b22 l3 l4 l5 l6 l7 l8 l9 l10 l11 l12 l13 l14 := res_eq (by kernel_rfl)
theorem spigottop_TopTable.L11_eq (capacity : Int) (keys : (List Int)) (drop : (List Bool)) (ok : Bool) (i : Int) (b0 : Int) (b02 : Int) (b03 : Int) (b04 : Int) (b1 : Int) (b2 : Int) (b22 : Int) (l3 : (List t3.den)) (l4 : (List Int)) (l5 : (List t1.den)) (l6 : (List Int)) (l7 : (List Bool)) (l8 : (List t3.den)) (l9 : (List Int)) (l10 : (List Int)) (l11 : (List Int)) (l12 : (List Bool)) (l13 : (List Int)) (l14 : (List Int)) : spigottop_TopTable.L11 capacity keys drop ok i b0 b02 b03 b04 b1 b2 b22 l3 l4 l5 l6 l7 l8 l9 l10 l11 l12 l13 l14 =
  spigottop_TopTable.L3 capacity keys drop ok (IntKind.wrap .i64 (i + 1)) b0 b02 b03 b04 b1 b2 b22 l3 l4 l5 l6 l7 l8 l9 l10 l11 l12 l13 l14 := res_eq (by kernel_rfl)
theorem spigottop_TopTable.L12_eq (capacity : Int) (keys : (List Int)) (drop : (List Bool)) (i : Int) (key : Int) (gone : Int) (at_ : Int) (b0 : Int) (b02 : Int) (b03 : Int) (b04 : Int) (b1 : Int) (b2 : Int) (b22 : Int) (l3 : (List t3.den)) (l4 : (List Int)) (l5 : (List t1.den)) (l6 : (List Int)) (l7 : (List Bool)) (l8 : (List t3.den)) (l9 : (List Int)) (l10 : (List Int)) (l11 : (List Int)) (l12 : (List Bool)) (l13 : (List Int)) (l14 : (List Int)) : spigottop_TopTable.L12 capacity keys drop i key gone at_ b0 b02 b03 b04 b1 b2 b22 l3 l4 l5 l6 l7 l8 l9 l10 l11 l12 l13 l14 =
  (spigottop_out16.F (l11, l12, b1, ()) (l13, l14, b2, b22, ()) l3 gone at_).bind fun r0 =>
  bif (!r0.2.2.2.1) then
    some (false, ())
  else
    spigottop_TopTable.L15 capacity keys drop i key b0 b02 b03 b04 r0.1.2.2.1 r0.2.1.2.2.1 r0.2.1.2.2.2.1 r0.2.2.1 l4 l5 l6 l7 l8 l9 l10 r0.1.1 r0.1.2.1 r0.2.1.1 r0.2.1.2.1 := res_eq (by kernel_rfl)
theorem spigottop_TopTable.L13_eq (capacity : Int) (keys : (List Int)) (drop : (List Bool)) (i : Int) (key : Int) (b0 : Int) (b02 : Int) (b03 : Int) (b04 : Int) (b1 : Int) (b2 : Int) (b22 : Int) (l3 : (List t3.den)) (l4 : (List Int)) (l5 : (List t1.den)) (l6 : (List Int)) (l7 : (List Bool)) (l8 : (List t3.den)) (l9 : (List Int)) (l10 : (List Int)) (l11 : (List Int)) (l12 : (List Bool)) (l13 : (List Int)) (l14 : (List Int)) : spigottop_TopTable.L13 capacity keys drop i key b0 b02 b03 b04 b1 b2 b22 l3 l4 l5 l6 l7 l8 l9 l10 l11 l12 l13 l14 =
  (spigottop_in16.F (l11, l12, b1, ()) l3 key).bind fun r0 =>
  bif (!r0.2.2.2.1) then
    some (false, ())
  else
    spigottop_TopTable.L14 capacity keys drop r0.2.2.2.1 i r0.2.2.1 b0 b02 b03 b04 r0.1.2.2.1 b2 b22 r0.2.1 l4 l5 l6 l7 l8 l9 l10 r0.1.1 r0.1.2.1 l13 l14 := res_eq (by kernel_rfl)
theorem spigottop_TopTable.L14_eq (capacity : Int) (keys : (List Int)) (drop : (List Bool)) (ok : Bool) (i : Int) (place : Int) (b0 : Int) (b02 : Int) (b03 : Int) (b04 : Int) (b1 : Int) (b2 : Int) (b22 : Int) (l3 : (List t3.den)) (l4 : (List Int)) (l5 : (List t1.den)) (l6 : (List Int)) (l7 : (List Bool)) (l8 : (List t3.den)) (l9 : (List Int)) (l10 : (List Int)) (l11 : (List Int)) (l12 : (List Bool)) (l13 : (List Int)) (l14 : (List Int)) : spigottop_TopTable.L14 capacity keys drop ok i place b0 b02 b03 b04 b1 b2 b22 l3 l4 l5 l6 l7 l8 l9 l10 l11 l12 l13 l14 =
  spigottop_TopTable.L8 capacity keys drop ok i place b0 b02 b03 b04 b1 b2 b22 l3 l4 l5 l6 l7 l8 l9 l10 l11 l12 l13 l14 := res_eq (by kernel_rfl)
theorem spigottop_TopTable.L15_eq (capacity : Int) (keys : (List Int)) (drop : (List Bool)) (i : Int) (key : Int) (b0 : Int) (b02 : Int) (b03 : Int) (b04 : Int) (b1 : Int) (b2 : Int) (b22 : Int) (l3 : (List t3.den)) (l4 : (List Int)) (l5 : (List t1.den)) (l6 : (List Int)) (l7 : (List Bool)) (l8 : (List t3.den)) (l9 : (List Int)) (l10 : (List Int)) (l11 : (List Int)) (l12 : (List Bool)) (l13 : (List Int)) (l14 : (List Int)) : spigottop_TopTable.L15 capacity keys drop i key b0 b02 b03 b04 b1 b2 b22 l3 l4 l5 l6 l7 l8 l9 l10 l11 l12 l13 l14 =
  spigottop_TopTable.L13 capacity keys drop i key b0 b02 b03 b04 b1 b2 b22 l3 l4 l5 l6 l7 l8 l9 l10 l11 l12 l13 l14 := res_eq (by kernel_rfl)
theorem spigottop_TopTable.L16_eq (capacity : Int) (keys : (List Int)) (drop : (List Bool)) (i : Int) (key : Int) (place : Int) (b0 : Int) (b02 : Int) (b03 : Int) (b04 : Int) (b1 : Int) (b2 : Int) (b22 : Int) (l3 : (List t3.den)) (b4 : Int) (b42 : Int) (b43 : Int) (b44 : Int) (l5 : (List Int)) (l6 : (List t1.den)) (l7 : (List Int)) (l8 : (List Bool)) (l9 : (List t3.den)) (l10 : (List Int)) (l11 : (List Int)) (l12 : (List Int)) (l13 : (List Bool)) (l14 : (List Int)) (l15 : (List Int)) (l16 : (List Int)) (l17 : (List t1.den)) (l18 : (List Int)) (l19 : (List Bool)) (l20 : (List t3.den)) (l21 : (List Int)) (l22 : (List Int)) : spigottop_TopTable.L16 capacity keys drop i key place b0 b02 b03 b04 b1 b2 b22 l3 b4 b42 b43 b44 l5 l6 l7 l8 l9 l10 l11 l12 l13 l14 l15 l16 l17 l18 l19 l20 l21 l22 =
  (spigottop_out16.F (l12, l13, b1, ()) (l14, l15, b2, b22, ()) l3 key place).bind fun r0 =>
  bif (!r0.2.2.2.1) then
    some (false, ())
  else
    spigottop_TopTable.L17 capacity keys drop r0.2.2.2.1 i b4 b42 b43 b44 r0.1.2.2.1 r0.2.1.2.2.1 r0.2.1.2.2.2.1 r0.2.2.1 l16 l17 l18 l19 l20 l21 l22 r0.1.1 r0.1.2.1 r0.2.1.1 r0.2.1.2.1 := res_eq (by kernel_rfl)
theorem spigottop_TopTable.L17_eq (capacity : Int) (keys : (List Int)) (drop : (List Bool)) (ok : Bool) (i : Int) (b0 : Int) (b02 : Int) (b03 : Int) (b04 : Int) (b1 : Int) (b2 : Int) (b22 : Int) (l3 : (List t3.den)) (l4 : (List Int)) (l5 : (List t1.den)) (l6 : (List Int)) (l7 : (List Bool)) (l8 : (List t3.den)) (l9 : (List Int)) (l10 : (List Int)) (l11 : (List Int)) (l12 : (List Bool)) (l13 : (List Int)) (l14 : (List Int)) : spigottop_TopTable.L17 capacity keys drop ok i b0 b02 b03 b04 b1 b2 b22 l3 l4 l5 l6 l7 l8 l9 l10 l11 l12 l13 l14 =
  spigottop_TopTable.L10 capacity keys drop ok i b0 b02 b03 b04 b1 b2 b22 l3 l4 l5 l6 l7 l8 l9 l10 l11 l12 l13 l14 := res_eq (by kernel_rfl)
theorem spigottop_TopTable.F_eq (capacity : Int) (keys : (List Int)) (drop : (List Bool)) : spigottop_TopTable.F capacity keys drop =
  spigottop_alive16.F.bind fun r0 =>
  (table_New.F capacity).bind fun r1 =>
  (arena_New.F capacity).bind fun r2 =>
  (lru_New.F capacity).bind fun r3 =>
  bif (decide ((capacity : Int) < 1)) then
    some (r0.1, ())
  else
    bif (decide ((capacity : Int) > 8)) then
      some (r0.1, ())
    else
      bif (decide ((((List.length keys : Int)) : Int) > 40)) then
        some (r0.1, ())
      else
        bif (((List.length drop : Int)) != ((List.length keys : Int))) then
          some (r0.1, ())
        else
          bif (!r0.1) then
            some (r0.1, ())
          else
            spigottop_TopTable.L1 capacity keys drop r0.1 r1.2.1 r2.2.1 r3.2.1 r1.1.1 r1.1.2.2.2.1.2.2.1 r1.1.2.2.2.2.2.1.2.2.1 r1.1.2.2.2.2.2.1.2.2.2.1 r2.1.2.2.1 r3.1.2.2.1 r3.1.2.2.2.1 r1.1.2.1 r1.1.2.2.1 r1.1.2.2.2.1.1 r1.1.2.2.2.1.2.1 r1.1.2.2.2.2.1 r1.1.2.2.2.2.2.1.1 r1.1.2.2.2.2.2.1.2.1 r2.1.1 r2.1.2.1 r3.1.1 r3.1.2.1 := by kernel_rfl
end Go.Proofs.Ytecbgbfegpnilaa.PM
