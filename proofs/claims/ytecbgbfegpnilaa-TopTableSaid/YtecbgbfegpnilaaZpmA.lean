/- Contracts and equations of the functions, printed by a program of this session. -/
import Derived.Test.YtecbgbfegpnilaaPM30
import Derived.Test.YtecbgbfegpnilaaPrim
import Derived.KernelRfl
namespace Go.Proofs.Ytecbgbfegpnilaa.PM
open Go Go.Proofs
set_option linter.unusedVariables false
noncomputable def tl : List (Nat × TI) := [(1, .other), (2, .data (.int .i64)), (3, .data (.int .i64)), (4, .data .bool), (5, .data (.int .u8)), (6, .data (.int .u8)), (7, .data t8), (8, .data t8), (9, .data .str), (10, .data .str), (11, .data .str), (12, .data (.int .u64)), (13, .data t9), (14, .data t9), (15, .other), (16, .other), (17, .other), (21, .data (.int .i32)), (22, .data (.slice (.int .u32))), (23, .data (.slice .bool)), (24, .other), (25, .data (.slice t1)), (26, .data (.slice (.int .i64))), (27, .data t2), (28, .data t2), (29, .data (.slice t3)), (30, .data t4), (31, .data t4), (32, .data t5), (33, .data t5), (34, .data (.int .i64)), (36, .other), (38, .other), (40, .other), (41, .other), (42, .data (.int .u32)), (44, .other), (45, .other), (47, .other), (49, .other), (50, .data t0), (51, .data t0), (52, .other), (53, .data (.int .u64)), (55, .other), (56, .other), (58, .other), (59, .other), (60, .other), (61, .other), (62, .data t1), (63, .data t1), (65, .other), (66, .other), (67, .other), (68, .other), (70, .other), (71, .data t3), (72, .data t3), (73, .other), (74, .other), (75, .other), (76, .other), (77, .other), (78, .other), (80, .other), (81, .other), (83, .other), (84, .other), (85, .other), (86, .other), (87, .other), (88, .other), (89, .other), (90, .other), (91, .other), (92, .other), (93, .other), (94, .other), (96, .other), (98, .other), (99, .data (.int .u64)), (101, .other), (102, .other), (103, .other), (104, .data (.arr 4 (.int .i64))), (105, .other), (106, .other), (107, .other), (108, .other), (109, .other), (110, .other), (111, .other), (112, .other), (113, .other), (114, .other), (115, .other), (117, .other), (119, .other), (120, .other), (121, .other), (123, .other), (125, .other), (126, .other), (127, .other), (128, .other), (129, .other), (130, .other), (131, .other), (137, .other), (138, .data (.int .u8)), (139, .data (.int .u8)), (140, .other), (141, .other), (142, .data (.int .i32)), (143, .data (.int .i32))]
noncomputable def eqs : List Nat := [63, 72, 104]
noncomputable def globs : List (Nat × PV) := []
noncomputable def prims : List (Nat × Prim) := [(21, .clone (.int .i64)), (50, .clone (.int .u32)), (51, .clone t1), (52, .clone .bool), (53, .clone t3)]
theorem primsOk : PrimsOk Try.prog prims := .cons clone21 <| .cons clone50 <| .cons clone51 <| .cons clone52 <| .cons clone53 <| .nil
theorem tabOk : tabB Try.prog tl = true := by kernel_rfl
theorem eqOk : EqOk Try.prog ⟨tl, fun _ => none, [], eqs, [], []⟩ := eqOk_of tabOk (by kernel_rfl)
theorem mixOk : Try.prog.follows .mixedOrders = true := by kernel_rfl
/-! ### spigot/arena.New (6) -/
noncomputable def arena_New.sg : Sig := ⟨[.val (.int .i64)], [(t2, true), ((.int .i64), true)]⟩
noncomputable def arena_New.E : Env := ⟨tl, fun i => look i [], [], eqs, globs, prims⟩
noncomputable def arena_New.c := cxOf arena_New.E arena_New.sg Try.f6
noncomputable def arena_New.b := body Try.f6
noncomputable def arena_New.Fn : Fun := fnOf arena_New.E arena_New.sg Try.f6
noncomputable def arena_New.F (n : Int) : Option (t2.den × Int × Unit) := arena_New.Fn.F (n, ())
noncomputable def arena_New.S1 (n : Int) (l1 : (List Int)) (l2 : (List Bool)) : St := ⟨[(0, (.v (.int .i64) n)), (2, (.ptr 0 []))], [(0, some (.box (.agg [(.sl 1), (.sl 2), (.v (.int .i64) 0)]))), (1, some (.row (.int .i64) l1 false)), (2, some (.row .bool l2 false))], 3, []⟩
noncomputable def arena_New.L1 (n : Int) (l1 : (List Int)) (l2 : (List Bool)) : Option (t2.den × Int × Unit) := res arena_New.c (atJoin arena_New.b [1, 0, 1]) (arena_New.S1 n l1 l2)
noncomputable def arena_New.S2 (n : Int) (t17_ : Int) (l2 : (List Int)) (l3 : (List Bool)) (l4 : (List Int)) (l5 : (List Bool)) : St := ⟨[(0, (.v (.int .i64) n)), (2, (.ptr 0 [])), (4, (.ptr 1 [])), (16, (.v (.int .i64) n)), (17, (.v (.int .i64) t17_))], [(0, some (.box (.agg [(.sl 2), (.sl 3), (.v (.int .i64) 0)]))), (1, some (.box (.agg [(.sl 4), (.sl 5), (.v (.int .i64) 0)]))), (2, some (.row (.int .i64) l2 false)), (3, some (.row .bool l3 false)), (4, some (.row (.int .i64) l4 false)), (5, some (.row .bool l5 false))], 6, []⟩
noncomputable def arena_New.L2 (n : Int) (t17_ : Int) (l2 : (List Int)) (l3 : (List Bool)) (l4 : (List Int)) (l5 : (List Bool)) : Option (t2.den × Int × Unit) := res arena_New.c (atLoop arena_New.b [1, 1, 1, 0, 1, 0]) (arena_New.S2 n t17_ l2 l3 l4 l5)
noncomputable def arena_New.S3 (n : Int) (t17_ : Int) (l2 : (List Int)) (l3 : (List Bool)) (l4 : (List Int)) (l5 : (List Bool)) : St := ⟨[(0, (.v (.int .i64) n)), (2, (.ptr 0 [])), (4, (.ptr 1 [])), (16, (.v (.int .i64) n)), (17, (.v (.int .i64) t17_))], [(0, some (.box (.agg [(.sl 2), (.sl 3), (.v (.int .i64) 0)]))), (1, some (.box (.agg [(.sl 4), (.sl 5), (.v (.int .i64) 0)]))), (2, some (.row (.int .i64) l2 false)), (3, some (.row .bool l3 false)), (4, some (.row (.int .i64) l4 false)), (5, some (.row .bool l5 false))], 6, []⟩
noncomputable def arena_New.L3 (n : Int) (t17_ : Int) (l2 : (List Int)) (l3 : (List Bool)) (l4 : (List Int)) (l5 : (List Bool)) : Option (t2.den × Int × Unit) := res arena_New.c (atJoin arena_New.b [1, 1, 1, 0, 1, 0, 0, 1, 0]) (arena_New.S3 n t17_ l2 l3 l4 l5)
theorem arena_New.spec : FnSpec Try.prog globs 6 arena_New.Fn := spec_of (E := arena_New.E) (envOk_at tabOk eqOk primsOk (.nil)) mixOk Try.func6 (by kernel_rfl)
theorem arena_New.L1_eq (n : Int) (l1 : (List Int)) (l2 : (List Bool)) : arena_New.L1 n l1 l2 =
  bif (decide ((0 : Int) ≤ n ∧ (n : Int) ≤ n) && (lim (Int.toNat n) .bool)) then
    arena_New.L2 n 0 l1 l2 ([] : List Int) (List.replicate (Int.toNat n) false)
  else none := res_eq (by kernel_rfl)
theorem arena_New.L2_eq (n : Int) (t17_ : Int) (l2 : (List Int)) (l3 : (List Bool)) (l4 : (List Int)) (l5 : (List Bool)) : arena_New.L2 n t17_ l2 l3 l4 l5 =
  bif (decide ((t17_ : Int) < n)) then
    arena_New.L3 n t17_ l2 l3 l4 l5
  else
    bif (decide ((0 : Int) ≤ (IntKind.wrap .i64 (n - 1)) ∧ ((IntKind.wrap .i64 (n - 1)) : Int) < ((List.length l4 : Int)))) then
      some (((List.set l4 (Int.toNat (IntKind.wrap .i64 (n - 1))) (-1)), l5, 0, ()), 0, ())
    else none := res_eq (by kernel_rfl)
theorem arena_New.L3_eq (n : Int) (t17_ : Int) (l2 : (List Int)) (l3 : (List Bool)) (l4 : (List Int)) (l5 : (List Bool)) : arena_New.L3 n t17_ l2 l3 l4 l5 =
  bif (lim ((List.length l4) + (List.length ([(IntKind.wrap .i64 (t17_ + 1))] : List Int))) (.int .i64)) then
    arena_New.L2 n (IntKind.wrap .i64 (t17_ + 1)) l2 l3 (l4 ++ ([(IntKind.wrap .i64 (t17_ + 1))] : List Int)) l5
  else none := res_eq (by kernel_rfl)
theorem arena_New.F_eq (n : Int) : arena_New.F n =
  bif (decide ((n : Int) < 1)) then
    some ((([] : List Int), ([] : List Bool), 0, ()), 2, ())
  else
    bif (decide ((n : Int) > 16)) then
      some ((([] : List Int), ([] : List Bool), 0, ()), 2, ())
    else
      arena_New.L1 n ([] : List Int) ([] : List Bool) := by kernel_rfl
/-! ### math/bits.Mul32 (65) -/
noncomputable def bits_Mul32.sg : Sig := ⟨[.val (.int .u32), .val (.int .u32)], [((.int .u32), true), ((.int .u32), true)]⟩
noncomputable def bits_Mul32.E : Env := ⟨tl, fun i => look i [], [], eqs, globs, prims⟩
noncomputable def bits_Mul32.c := cxOf bits_Mul32.E bits_Mul32.sg Try.f65
noncomputable def bits_Mul32.b := body Try.f65
noncomputable def bits_Mul32.Fn : Fun := fnOf bits_Mul32.E bits_Mul32.sg Try.f65
noncomputable def bits_Mul32.F (x : Int) (y : Int) : Option (Int × Int × Unit) := bits_Mul32.Fn.F (x, y, ())
theorem bits_Mul32.spec : FnSpec Try.prog globs 65 bits_Mul32.Fn := spec_of (E := bits_Mul32.E) (envOk_at tabOk eqOk primsOk (.nil)) mixOk Try.func65 (by kernel_rfl)
theorem bits_Mul32.F_eq (x : Int) (y : Int) : bits_Mul32.F x y =
  bif (decide ((0 : Int) ≤ 32)) then
    some ((IntKind.wrap .u32 (Int.fdiv (IntKind.wrap .u64 ((IntKind.wrap .u64 x) * (IntKind.wrap .u64 y))) (2 ^ min (Int.toNat 32) (IntKind.bits .u64)))), (IntKind.wrap .u32 (IntKind.wrap .u64 ((IntKind.wrap .u64 x) * (IntKind.wrap .u64 y)))), ())
  else none := by kernel_rfl
/-! ### math/bits.Mul64 (66) -/
noncomputable def bits_Mul64.sg : Sig := ⟨[.val (.int .u64), .val (.int .u64)], [((.int .u64), true), ((.int .u64), true)]⟩
noncomputable def bits_Mul64.E : Env := ⟨tl, fun i => look i [], [], eqs, globs, prims⟩
noncomputable def bits_Mul64.c := cxOf bits_Mul64.E bits_Mul64.sg Try.f66
noncomputable def bits_Mul64.b := body Try.f66
noncomputable def bits_Mul64.Fn : Fun := fnOf bits_Mul64.E bits_Mul64.sg Try.f66
noncomputable def bits_Mul64.F (x : Int) (y : Int) : Option (Int × Int × Unit) := bits_Mul64.Fn.F (x, y, ())
theorem bits_Mul64.spec : FnSpec Try.prog globs 66 bits_Mul64.Fn := spec_of (E := bits_Mul64.E) (envOk_at tabOk eqOk primsOk (.nil)) mixOk Try.func66 (by kernel_rfl)
theorem bits_Mul64.F_eq (x : Int) (y : Int) : bits_Mul64.F x y =
  bif (decide ((0 : Int) ≤ 32)) then
    bif (decide ((0 : Int) ≤ 32)) then
      bif (decide ((0 : Int) ≤ 32)) then
        bif (decide ((0 : Int) ≤ 32)) then
          bif (decide ((0 : Int) ≤ 32)) then
            some ((IntKind.wrap .u64 ((IntKind.wrap .u64 ((IntKind.wrap .u64 ((Int.fdiv x (2 ^ min (Int.toNat 32) (IntKind.bits .u64))) * (Int.fdiv y (2 ^ min (Int.toNat 32) (IntKind.bits .u64))))) + (Int.fdiv (IntKind.wrap .u64 ((IntKind.wrap .u64 ((Int.fdiv x (2 ^ min (Int.toNat 32) (IntKind.bits .u64))) * (bits .and .u64 y 4294967295))) + (Int.fdiv (IntKind.wrap .u64 ((bits .and .u64 x 4294967295) * (bits .and .u64 y 4294967295))) (2 ^ min (Int.toNat 32) (IntKind.bits .u64))))) (2 ^ min (Int.toNat 32) (IntKind.bits .u64))))) + (Int.fdiv (IntKind.wrap .u64 ((bits .and .u64 (IntKind.wrap .u64 ((IntKind.wrap .u64 ((Int.fdiv x (2 ^ min (Int.toNat 32) (IntKind.bits .u64))) * (bits .and .u64 y 4294967295))) + (Int.fdiv (IntKind.wrap .u64 ((bits .and .u64 x 4294967295) * (bits .and .u64 y 4294967295))) (2 ^ min (Int.toNat 32) (IntKind.bits .u64))))) 4294967295) + (IntKind.wrap .u64 ((bits .and .u64 x 4294967295) * (Int.fdiv y (2 ^ min (Int.toNat 32) (IntKind.bits .u64))))))) (2 ^ min (Int.toNat 32) (IntKind.bits .u64))))), (IntKind.wrap .u64 (x * y)), ())
          else none
        else none
      else none
    else none
  else none := by kernel_rfl
/-! ### math/bits.Mul (45) -/
noncomputable def bits_Mul.sg : Sig := ⟨[.val (.int .u64), .val (.int .u64)], [((.int .u64), true), ((.int .u64), true)]⟩
noncomputable def bits_Mul.E : Env := ⟨tl, fun i => look i [(65, bits_Mul32.Fn), (66, bits_Mul64.Fn)], [], eqs, globs, prims⟩
noncomputable def bits_Mul.c := cxOf bits_Mul.E bits_Mul.sg Try.f45
noncomputable def bits_Mul.b := body Try.f45
noncomputable def bits_Mul.Fn : Fun := fnOf bits_Mul.E bits_Mul.sg Try.f45
noncomputable def bits_Mul.F (x : Int) (y : Int) : Option (Int × Int × Unit) := bits_Mul.Fn.F (x, y, ())
noncomputable def bits_Mul.S1 (x : Int) (y : Int) : St := ⟨[(0, (.v (.int .u64) x)), (1, (.v (.int .u64) y))], [], 0, []⟩
noncomputable def bits_Mul.L1 (x : Int) (y : Int) : Option (Int × Int × Unit) := res bits_Mul.c (atJoin bits_Mul.b [1, 0]) (bits_Mul.S1 x y)
theorem bits_Mul.spec : FnSpec Try.prog globs 45 bits_Mul.Fn := spec_of (E := bits_Mul.E) (envOk_at tabOk eqOk primsOk (.cons bits_Mul32.spec <| .cons bits_Mul64.spec <| .nil)) mixOk Try.func45 (by kernel_rfl)
theorem bits_Mul.L1_eq (x : Int) (y : Int) : bits_Mul.L1 x y =
  (bits_Mul64.F x y).bind fun r0 =>
  some (r0.1, r0.2.1, ()) := res_eq (by kernel_rfl)
theorem bits_Mul.F_eq (x : Int) (y : Int) : bits_Mul.F x y =
  bits_Mul.L1 x y := by kernel_rfl
/-! ### slices.Repeat[[]int,int] (20) -/
noncomputable def slices_Repeat.sg : Sig := ⟨[.val (.slice (.int .i64)), .val (.int .i64)], [((.slice (.int .i64)), true)]⟩
noncomputable def slices_Repeat.E : Env := ⟨tl, fun i => look i [(45, bits_Mul.Fn)], [], eqs, globs, prims⟩
noncomputable def slices_Repeat.c := cxOf slices_Repeat.E slices_Repeat.sg Try.f20
noncomputable def slices_Repeat.b := body Try.f20
noncomputable def slices_Repeat.Fn : Fun := fnOf slices_Repeat.E slices_Repeat.sg Try.f20
noncomputable def slices_Repeat.F (x : (List Int)) (count : Int) : Option ((List Int) × Unit) := slices_Repeat.Fn.F (x, count, ())
noncomputable def slices_Repeat.S1 (x : (List Int)) (count : Int) : St := ⟨[(0, (.v (.slice (.int .i64)) x)), (1, (.v (.int .i64) count))], [], 0, []⟩
noncomputable def slices_Repeat.L1 (x : (List Int)) (count : Int) : Option ((List Int) × Unit) := res slices_Repeat.c (atJoin slices_Repeat.b [1, 0, 1]) (slices_Repeat.S1 x count)
noncomputable def slices_Repeat.S2 (x : (List Int)) (lo : Int) : St := ⟨[(0, (.v (.slice (.int .i64)) x)), (6, (.v (.int .u64) lo))], [], 0, []⟩
noncomputable def slices_Repeat.L2 (x : (List Int)) (lo : Int) : Option ((List Int) × Unit) := res slices_Repeat.c (atJoin slices_Repeat.b [1, 1, 1, 0, 1]) (slices_Repeat.S2 x lo)
noncomputable def slices_Repeat.S3 (n : Int) (l0 : (List Int)) : St := ⟨[(7, (.sl 0)), (8, (.v (.int .i64) n))], [(0, some (.row (.int .i64) l0 false))], 1, []⟩
noncomputable def slices_Repeat.L3 (n : Int) (l0 : (List Int)) : Option ((List Int) × Unit) := res slices_Repeat.c (atLoop slices_Repeat.b [1, 1, 1, 1, 1, 1, 0, 0]) (slices_Repeat.S3 n l0)
noncomputable def slices_Repeat.S4 (n : Int) (l0 : (List Int)) : St := ⟨[(7, (.sl 0)), (8, (.v (.int .i64) n))], [(0, some (.row (.int .i64) l0 false))], 1, []⟩
noncomputable def slices_Repeat.L4 (n : Int) (l0 : (List Int)) : Option ((List Int) × Unit) := res slices_Repeat.c (atJoin slices_Repeat.b [1, 1, 1, 1, 1, 1, 0, 0, 0, 0, 1]) (slices_Repeat.S4 n l0)
theorem slices_Repeat.spec : FnSpec Try.prog globs 20 slices_Repeat.Fn := spec_of (E := slices_Repeat.E) (envOk_at tabOk eqOk primsOk (.cons bits_Mul.spec <| .nil)) mixOk Try.func20 (by kernel_rfl)
theorem slices_Repeat.L1_eq (x : (List Int)) (count : Int) : slices_Repeat.L1 x count =
  (bits_Mul.F (IntKind.wrap .u64 ((List.length x : Int))) (IntKind.wrap .u64 count)).bind fun r0 =>
  bif (decide ((r0.1 : Int) > 0)) then
    none
  else
    bif (decide ((r0.2.1 : Int) > 9223372036854775807)) then
      none
    else
      slices_Repeat.L2 x r0.2.1 := res_eq (by kernel_rfl)
theorem slices_Repeat.L2_eq (x : (List Int)) (lo : Int) : slices_Repeat.L2 x lo =
  bif (decide ((0 : Int) ≤ (IntKind.wrap .i64 lo) ∧ ((IntKind.wrap .i64 lo) : Int) ≤ (IntKind.wrap .i64 lo)) && (lim (Int.toNat (IntKind.wrap .i64 lo)) (.int .i64))) then
    slices_Repeat.L3 (((min (List.length x) (List.length (List.replicate (Int.toNat (IntKind.wrap .i64 lo)) (0 : Int))) : Nat) : Int)) (splice (List.replicate (Int.toNat (IntKind.wrap .i64 lo)) (0 : Int)) 0 (List.take (List.length (List.replicate (Int.toNat (IntKind.wrap .i64 lo)) (0 : Int))) x))
  else none := res_eq (by kernel_rfl)
theorem slices_Repeat.L3_eq (n : Int) (l0 : (List Int)) : slices_Repeat.L3 n l0 =
  bif (decide ((n : Int) < ((List.length l0 : Int)))) then
    slices_Repeat.L4 n l0
  else
    some (l0, ()) := res_eq (by kernel_rfl)
theorem slices_Repeat.L4_eq (n : Int) (l0 : (List Int)) : slices_Repeat.L4 n l0 =
  bif (decide ((0 : Int) ≤ n ∧ (n : Int) ≤ ((List.length l0 : Int)) ∧ (((List.length l0 : Int)) : Int) ≤ ((List.length l0 : Int)))) then
    bif (decide ((0 : Int) ≤ 0 ∧ (0 : Int) ≤ n ∧ (n : Int) ≤ ((List.length l0 : Int)))) then
      slices_Repeat.L3 (IntKind.wrap .i64 (n + (((min (List.length (List.take ((Int.toNat n) - (Int.toNat 0)) (List.drop (Int.toNat 0) l0))) ((Int.toNat ((List.length l0 : Int))) - (Int.toNat n)) : Nat) : Int)))) (splice l0 (Int.toNat n) (List.take ((Int.toNat ((List.length l0 : Int))) - (Int.toNat n)) (List.take ((Int.toNat n) - (Int.toNat 0)) (List.drop (Int.toNat 0) l0))))
    else none
  else none := res_eq (by kernel_rfl)
theorem slices_Repeat.F_eq (x : (List Int)) (count : Int) : slices_Repeat.F x count =
  bif (decide ((count : Int) < 0)) then
    none
  else
    slices_Repeat.L1 x count := by kernel_rfl
/-! ### spigot/lru.New (7) -/
noncomputable def lru_New.sg : Sig := ⟨[.val (.int .i64)], [(t4, true), ((.int .i64), true)]⟩
noncomputable def lru_New.E : Env := ⟨tl, fun i => look i [(20, slices_Repeat.Fn)], [], eqs, globs, prims⟩
noncomputable def lru_New.c := cxOf lru_New.E lru_New.sg Try.f7
noncomputable def lru_New.b := body Try.f7
noncomputable def lru_New.Fn : Fun := fnOf lru_New.E lru_New.sg Try.f7
noncomputable def lru_New.F (n : Int) : Option (t4.den × Int × Unit) := lru_New.Fn.F (n, ())
noncomputable def lru_New.S1 (n : Int) (l1 : (List Int)) : St := ⟨[(0, (.v (.int .i64) n)), (2, (.ptr 0 []))], [(0, some (.box (.agg [(.sl 1), (.sl 2), (.v (.int .i64) 0), (.v (.int .i64) 0)]))), (1, some (.row (.int .i64) l1 false)), (2, some (.row (.int .i64) l1 false))], 3, []⟩
noncomputable def lru_New.L1 (n : Int) (l1 : (List Int)) : Option (t4.den × Int × Unit) := res lru_New.c (atJoin lru_New.b [1, 0, 1]) (lru_New.S1 n l1)
theorem lru_New.spec : FnSpec Try.prog globs 7 lru_New.Fn := spec_of (E := lru_New.E) (envOk_at tabOk eqOk primsOk (.cons slices_Repeat.spec <| .nil)) mixOk Try.func7 (by kernel_rfl)
theorem lru_New.L1_eq (n : Int) (l1 : (List Int)) : lru_New.L1 n l1 =
  (slices_Repeat.F ([(-1)] : List Int) n).bind fun r0 =>
  bif (lim (List.length r0.1) (.int .i64)) then
    some ((r0.1, r0.1, (-1), (-1), ()), 0, ())
  else none := res_eq (by kernel_rfl)
theorem lru_New.F_eq (n : Int) : lru_New.F n =
  bif (decide ((n : Int) < 1)) then
    some ((([] : List Int), ([] : List Int), 0, 0, ()), 2, ())
  else
    bif (decide ((n : Int) > 16)) then
      some ((([] : List Int), ([] : List Int), 0, 0, ()), 2, ())
    else
      lru_New.L1 n ([] : List Int) := by kernel_rfl
/-! ### spigot/probe.New (8) -/
noncomputable def probe_New.sg : Sig := ⟨[], [((.slice t3), true)]⟩
noncomputable def probe_New.E : Env := ⟨tl, fun i => look i [], [], eqs, globs, prims⟩
noncomputable def probe_New.c := cxOf probe_New.E probe_New.sg Try.f8
noncomputable def probe_New.b := body Try.f8
noncomputable def probe_New.Fn : Fun := fnOf probe_New.E probe_New.sg Try.f8
noncomputable def probe_New.F : Option ((List t3.den) × Unit) := probe_New.Fn.F ()
theorem probe_New.spec : FnSpec Try.prog globs 8 probe_New.Fn := spec_of (E := probe_New.E) (envOk_at tabOk eqOk primsOk (.nil)) mixOk Try.func8 (by kernel_rfl)
theorem probe_New.F_eq : probe_New.F =
  bif (decide ((0 : Int) ≤ 16 ∧ (16 : Int) ≤ 16) && (lim (Int.toNat 16) t3)) then
    some ((List.replicate (Int.toNat 16) (0, 0, false, ())), ())
  else none := by kernel_rfl
/-! ### spigot/table.New (5) -/
noncomputable def table_New.sg : Sig := ⟨[.val (.int .i64)], [(t5, true), ((.int .i64), true)]⟩
noncomputable def table_New.E : Env := ⟨tl, fun i => look i [(6, arena_New.Fn), (7, lru_New.Fn), (8, probe_New.Fn)], [], eqs, globs, prims⟩
noncomputable def table_New.c := cxOf table_New.E table_New.sg Try.f5
noncomputable def table_New.b := body Try.f5
noncomputable def table_New.Fn : Fun := fnOf table_New.E table_New.sg Try.f5
noncomputable def table_New.F (capacity : Int) : Option (t5.den × Int × Unit) := table_New.Fn.F (capacity, ())
noncomputable def table_New.S1 (capacity : Int) (l1 : (List Int)) (l2 : (List t1.den)) (l3 : (List Int)) (l4 : (List Bool)) (l5 : (List t3.den)) : St := ⟨[(0, (.v (.int .i64) capacity)), (2, (.ptr 0 []))], [(0, some (.box (.agg [(.v (.int .i64) 0), (.sl 1), (.sl 2), (.agg [(.sl 3), (.sl 4), (.v (.int .i64) 0)]), (.sl 5), (.agg [(.sl 6), (.sl 7), (.v (.int .i64) 0), (.v (.int .i64) 0)])]))), (1, some (.row (.int .u32) l1 false)), (2, some (.row t1 l2 false)), (3, some (.row (.int .i64) l3 false)), (4, some (.row .bool l4 false)), (5, some (.row t3 l5 false)), (6, some (.row (.int .i64) l3 false)), (7, some (.row (.int .i64) l3 false))], 8, []⟩
noncomputable def table_New.L1 (capacity : Int) (l1 : (List Int)) (l2 : (List t1.den)) (l3 : (List Int)) (l4 : (List Bool)) (l5 : (List t3.den)) : Option (t5.den × Int × Unit) := res table_New.c (atJoin table_New.b [1, 0, 1]) (table_New.S1 capacity l1 l2 l3 l4 l5)
theorem table_New.spec : FnSpec Try.prog globs 5 table_New.Fn := spec_of (E := table_New.E) (envOk_at tabOk eqOk primsOk (.cons arena_New.spec <| .cons lru_New.spec <| .cons probe_New.spec <| .nil)) mixOk Try.func5 (by kernel_rfl)
theorem table_New.L1_eq (capacity : Int) (l1 : (List Int)) (l2 : (List t1.den)) (l3 : (List Int)) (l4 : (List Bool)) (l5 : (List t3.den)) : table_New.L1 capacity l1 l2 l3 l4 l5 =
  (arena_New.F capacity).bind fun r0 =>
  (lru_New.F capacity).bind fun r1 =>
  bif (decide ((0 : Int) ≤ capacity ∧ (capacity : Int) ≤ capacity) && (lim (Int.toNat capacity) (.int .u32))) then
    bif (decide ((0 : Int) ≤ capacity ∧ (capacity : Int) ≤ capacity) && (lim (Int.toNat capacity) t1)) then
      probe_New.F.bind fun r2 =>
      some ((capacity, (List.replicate (Int.toNat capacity) (0 : Int)), (List.replicate (Int.toNat capacity) ((0, 0, 0, ()), 0, 0, 0, ())), r0.1, r2.1, r1.1, ()), 0, ())
    else none
  else none := res_eq (by kernel_rfl)
theorem table_New.F_eq (capacity : Int) : table_New.F capacity =
  bif (decide ((capacity : Int) < 1)) then
    some ((0, ([] : List Int), ([] : List t1.den), (([] : List Int), ([] : List Bool), 0, ()), ([] : List t3.den), (([] : List Int), ([] : List Int), 0, 0, ()), ()), 2, ())
  else
    bif (decide ((capacity : Int) > 8)) then
      some ((0, ([] : List Int), ([] : List t1.den), (([] : List Int), ([] : List Bool), 0, ()), ([] : List t3.den), (([] : List Int), ([] : List Int), 0, 0, ()), ()), 2, ())
    else
      table_New.L1 capacity ([] : List Int) ([] : List t1.den) ([] : List Int) ([] : List Bool) ([] : List t3.den) := by kernel_rfl
/-! ### spigot/lru.Check (35) -/
noncomputable def lru_Check.sg : Sig := ⟨[.val t4], [((.int .i64), true)]⟩
noncomputable def lru_Check.E : Env := ⟨tl, fun i => look i [], [], eqs, globs, prims⟩
noncomputable def lru_Check.c := cxOf lru_Check.E lru_Check.sg Try.f35
noncomputable def lru_Check.b := body Try.f35
noncomputable def lru_Check.Fn : Fun := fnOf lru_Check.E lru_Check.sg Try.f35
noncomputable def lru_Check.F (o : t4.den) : Option (Int × Unit) := lru_Check.Fn.F (o, ())
noncomputable def lru_Check.S1 (n : Int) (b0 : (List Int)) (b02 : (List Int)) (b03 : Int) (b04 : Int) : St := ⟨[(1, (.ptr 0 [])), (3, (.v (.int .i64) n))], [(0, some (.box (.agg [(.v (.slice (.int .i64)) b0), (.v (.slice (.int .i64)) b02), (.v (.int .i64) b03), (.v (.int .i64) b04)])))], 1, []⟩
noncomputable def lru_Check.L1 (n : Int) (b0 : (List Int)) (b02 : (List Int)) (b03 : Int) (b04 : Int) : Option (Int × Unit) := res lru_Check.c (atJoin lru_Check.b [1, 1, 0, 1]) (lru_Check.S1 n b0 b02 b03 b04)
noncomputable def lru_Check.S2 (n : Int) (last : Int) (i : Int) (b0 : (List Int)) (b02 : (List Int)) (b03 : Int) (b04 : Int) (l1 : (List Bool)) : St := ⟨[(1, (.ptr 0 [])), (3, (.v (.int .i64) n)), (4, (.sl 1)), (5, (.v (.int .i64) last)), (6, (.v (.int .i64) i))], [(0, some (.box (.agg [(.v (.slice (.int .i64)) b0), (.v (.slice (.int .i64)) b02), (.v (.int .i64) b03), (.v (.int .i64) b04)]))), (1, some (.row .bool l1 false))], 2, []⟩
noncomputable def lru_Check.L2 (n : Int) (last : Int) (i : Int) (b0 : (List Int)) (b02 : (List Int)) (b03 : Int) (b04 : Int) (l1 : (List Bool)) : Option (Int × Unit) := res lru_Check.c (atLoop lru_Check.b [1, 1, 1, 1, 1, 0, 1, 0]) (lru_Check.S2 n last i b0 b02 b03 b04 l1)
noncomputable def lru_Check.S3 (n : Int) (last : Int) (i : Int) (b0 : (List Int)) (b02 : (List Int)) (b03 : Int) (b04 : Int) (l1 : (List Bool)) : St := ⟨[(1, (.ptr 0 [])), (3, (.v (.int .i64) n)), (4, (.sl 1)), (5, (.v (.int .i64) last)), (6, (.v (.int .i64) i))], [(0, some (.box (.agg [(.v (.slice (.int .i64)) b0), (.v (.slice (.int .i64)) b02), (.v (.int .i64) b03), (.v (.int .i64) b04)]))), (1, some (.row .bool l1 false))], 2, []⟩
noncomputable def lru_Check.L3 (n : Int) (last : Int) (i : Int) (b0 : (List Int)) (b02 : (List Int)) (b03 : Int) (b04 : Int) (l1 : (List Bool)) : Option (Int × Unit) := res lru_Check.c (atJoin lru_Check.b [1, 1, 1, 1, 1, 0, 1, 0, 0, 0, 1]) (lru_Check.S3 n last i b0 b02 b03 b04 l1)
noncomputable def lru_Check.S4 (last : Int) (t63_ : Int) (t64_ : Int) (b0 : (List Int)) (b02 : (List Int)) (b03 : Int) (b04 : Int) (l1 : (List Bool)) : St := ⟨[(1, (.ptr 0 [])), (5, (.v (.int .i64) last)), (62, (.sl 1)), (63, (.v (.int .i64) t63_)), (64, (.v (.int .i64) t64_))], [(0, some (.box (.agg [(.v (.slice (.int .i64)) b0), (.v (.slice (.int .i64)) b02), (.v (.int .i64) b03), (.v (.int .i64) b04)]))), (1, some (.row .bool l1 false))], 2, []⟩
noncomputable def lru_Check.L4 (last : Int) (t63_ : Int) (t64_ : Int) (b0 : (List Int)) (b02 : (List Int)) (b03 : Int) (b04 : Int) (l1 : (List Bool)) : Option (Int × Unit) := res lru_Check.c (atLoop lru_Check.b [1, 1, 1, 1, 1, 1, 0, 1, 0]) (lru_Check.S4 last t63_ t64_ b0 b02 b03 b04 l1)
noncomputable def lru_Check.S5 (last : Int) (t63_ : Int) (t64_ : Int) (b0 : (List Int)) (b02 : (List Int)) (b03 : Int) (b04 : Int) (l1 : (List Bool)) : St := ⟨[(1, (.ptr 0 [])), (5, (.v (.int .i64) last)), (62, (.sl 1)), (63, (.v (.int .i64) t63_)), (64, (.v (.int .i64) t64_))], [(0, some (.box (.agg [(.v (.slice (.int .i64)) b0), (.v (.slice (.int .i64)) b02), (.v (.int .i64) b03), (.v (.int .i64) b04)]))), (1, some (.row .bool l1 false))], 2, []⟩
noncomputable def lru_Check.L5 (last : Int) (t63_ : Int) (t64_ : Int) (b0 : (List Int)) (b02 : (List Int)) (b03 : Int) (b04 : Int) (l1 : (List Bool)) : Option (Int × Unit) := res lru_Check.c (atJoin lru_Check.b [1, 1, 1, 1, 1, 1, 0, 1, 0, 0, 1, 0]) (lru_Check.S5 last t63_ t64_ b0 b02 b03 b04 l1)
noncomputable def lru_Check.S6 : St := ⟨[], [], 0, []⟩
noncomputable def lru_Check.L6 : Option (Int × Unit) := res lru_Check.c (atJoin lru_Check.b [1, 1, 1, 1, 1, 1, 1, 0, 1]) (lru_Check.S6)
noncomputable def lru_Check.S7 (last : Int) (t63_ : Int) (t64_ : Int) (b0 : (List Int)) (b02 : (List Int)) (b03 : Int) (b04 : Int) (l1 : (List Bool)) : St := ⟨[(1, (.ptr 0 [])), (5, (.v (.int .i64) last)), (62, (.sl 1)), (63, (.v (.int .i64) t63_)), (64, (.v (.int .i64) t64_))], [(0, some (.box (.agg [(.v (.slice (.int .i64)) b0), (.v (.slice (.int .i64)) b02), (.v (.int .i64) b03), (.v (.int .i64) b04)]))), (1, some (.row .bool l1 false))], 2, []⟩
noncomputable def lru_Check.L7 (last : Int) (t63_ : Int) (t64_ : Int) (b0 : (List Int)) (b02 : (List Int)) (b03 : Int) (b04 : Int) (l1 : (List Bool)) : Option (Int × Unit) := res lru_Check.c (atJoin lru_Check.b [1, 1, 1, 1, 1, 1, 0, 1, 0, 0, 1, 1, 0, 0, 1, 1]) (lru_Check.S7 last t63_ t64_ b0 b02 b03 b04 l1)
noncomputable def lru_Check.S8 (n : Int) (i : Int) (b0 : (List Int)) (b02 : (List Int)) (b03 : Int) (b04 : Int) (l1 : (List Bool)) : St := ⟨[(1, (.ptr 0 [])), (3, (.v (.int .i64) n)), (4, (.sl 1)), (6, (.v (.int .i64) i))], [(0, some (.box (.agg [(.v (.slice (.int .i64)) b0), (.v (.slice (.int .i64)) b02), (.v (.int .i64) b03), (.v (.int .i64) b04)]))), (1, some (.row .bool l1 false))], 2, []⟩
noncomputable def lru_Check.L8 (n : Int) (i : Int) (b0 : (List Int)) (b02 : (List Int)) (b03 : Int) (b04 : Int) (l1 : (List Bool)) : Option (Int × Unit) := res lru_Check.c (atJoin lru_Check.b [1, 1, 1, 1, 1, 0, 1, 0, 0, 1, 0, 0, 0, 1]) (lru_Check.S8 n i b0 b02 b03 b04 l1)
theorem lru_Check.spec : FnSpec Try.prog globs 35 lru_Check.Fn := spec_of (E := lru_Check.E) (envOk_at tabOk eqOk primsOk (.nil)) mixOk Try.func35 (by kernel_rfl)
theorem lru_Check.L1_eq (n : Int) (b0 : (List Int)) (b02 : (List Int)) (b03 : Int) (b04 : Int) : lru_Check.L1 n b0 b02 b03 b04 =
  bif (decide ((0 : Int) ≤ n ∧ (n : Int) ≤ n) && (lim (Int.toNat n) .bool)) then
    lru_Check.L2 n (-1) b03 b0 b02 b03 b04 (List.replicate (Int.toNat n) false)
  else none := res_eq (by kernel_rfl)
theorem lru_Check.L2_eq (n : Int) (last : Int) (i : Int) (b0 : (List Int)) (b02 : (List Int)) (b03 : Int) (b04 : Int) (l1 : (List Bool)) : lru_Check.L2 n last i b0 b02 b03 b04 l1 =
  bif (i != (-1)) then
    lru_Check.L3 n last i b0 b02 b03 b04 l1
  else
    lru_Check.L4 last ((List.length l1 : Int)) 0 b0 b02 b03 b04 l1 := res_eq (by kernel_rfl)
theorem lru_Check.L3_eq (n : Int) (last : Int) (i : Int) (b0 : (List Int)) (b02 : (List Int)) (b03 : Int) (b04 : Int) (l1 : (List Bool)) : lru_Check.L3 n last i b0 b02 b03 b04 l1 =
  bif (decide ((i : Int) < 0)) then
    some (8, ())
  else
    bif (decide ((i : Int) ≥ n)) then
      some (8, ())
    else
      bif (decide ((0 : Int) ≤ i ∧ (i : Int) < ((List.length l1 : Int)))) then
        bif (List.getD l1 (Int.toNat i) false) then
          some (8, ())
        else
          bif (decide ((0 : Int) ≤ i ∧ (i : Int) < ((List.length b0 : Int)))) then
            bif ((List.getD b0 (Int.toNat i) 0) != last) then
              some (8, ())
            else
              lru_Check.L8 n i b0 b02 b03 b04 l1
          else none
      else none := res_eq (by kernel_rfl)
theorem lru_Check.L4_eq (last : Int) (t63_ : Int) (t64_ : Int) (b0 : (List Int)) (b02 : (List Int)) (b03 : Int) (b04 : Int) (l1 : (List Bool)) : lru_Check.L4 last t63_ t64_ b0 b02 b03 b04 l1 =
  bif (decide ((t64_ : Int) < t63_)) then
    lru_Check.L5 last t63_ t64_ b0 b02 b03 b04 l1
  else
    bif (b04 != last) then
      some (8, ())
    else
      lru_Check.L6 := res_eq (by kernel_rfl)
theorem lru_Check.L5_eq (last : Int) (t63_ : Int) (t64_ : Int) (b0 : (List Int)) (b02 : (List Int)) (b03 : Int) (b04 : Int) (l1 : (List Bool)) : lru_Check.L5 last t63_ t64_ b0 b02 b03 b04 l1 =
  bif (decide ((0 : Int) ≤ t64_ ∧ (t64_ : Int) < ((List.length l1 : Int)))) then
    bif (!(List.getD l1 (Int.toNat t64_) false)) then
      bif (decide ((0 : Int) ≤ t64_ ∧ (t64_ : Int) < ((List.length b0 : Int)))) then
        bif ((List.getD b0 (Int.toNat t64_) 0) != (-1)) then
          some (8, ())
        else
          bif (decide ((0 : Int) ≤ t64_ ∧ (t64_ : Int) < ((List.length b02 : Int)))) then
            bif ((List.getD b02 (Int.toNat t64_) 0) != (-1)) then
              some (8, ())
            else
              lru_Check.L7 last t63_ t64_ b0 b02 b03 b04 l1
          else none
      else none
    else
      lru_Check.L7 last t63_ t64_ b0 b02 b03 b04 l1
  else none := res_eq (by kernel_rfl)
theorem lru_Check.L6_eq : lru_Check.L6 =
  some (0, ()) := res_eq (by kernel_rfl)
theorem lru_Check.L7_eq (last : Int) (t63_ : Int) (t64_ : Int) (b0 : (List Int)) (b02 : (List Int)) (b03 : Int) (b04 : Int) (l1 : (List Bool)) : lru_Check.L7 last t63_ t64_ b0 b02 b03 b04 l1 =
  lru_Check.L4 last t63_ (IntKind.wrap .i64 (t64_ + 1)) b0 b02 b03 b04 l1 := res_eq (by kernel_rfl)
theorem lru_Check.L8_eq (n : Int) (i : Int) (b0 : (List Int)) (b02 : (List Int)) (b03 : Int) (b04 : Int) (l1 : (List Bool)) : lru_Check.L8 n i b0 b02 b03 b04 l1 =
  bif (decide ((0 : Int) ≤ i ∧ (i : Int) < ((List.length l1 : Int)))) then
    bif (decide ((0 : Int) ≤ i ∧ (i : Int) < ((List.length b02 : Int)))) then
      lru_Check.L2 n i (List.getD b02 (Int.toNat i) 0) b0 b02 b03 b04 (List.set l1 (Int.toNat i) true)
    else none
  else none := res_eq (by kernel_rfl)
theorem lru_Check.F_eq (o : t4.den) : lru_Check.F o =
  bif (decide ((((List.length o.1 : Int)) : Int) < 1)) then
    some (8, ())
  else
    bif (decide ((((List.length o.1 : Int)) : Int) > 16)) then
      some (8, ())
    else
      bif (((List.length o.2.1 : Int)) != ((List.length o.1 : Int))) then
        some (8, ())
      else
        lru_Check.L1 ((List.length o.1 : Int)) o.1 o.2.1 o.2.2.1 o.2.2.2.1 := by kernel_rfl
/-! ### spigot/lru.Last (15) -/
noncomputable def lru_Last.sg : Sig := ⟨[.val t4], [((.int .i64), true), ((.int .i64), true)]⟩
noncomputable def lru_Last.E : Env := ⟨tl, fun i => look i [(35, lru_Check.Fn)], [], eqs, globs, prims⟩
noncomputable def lru_Last.c := cxOf lru_Last.E lru_Last.sg Try.f15
noncomputable def lru_Last.b := body Try.f15
noncomputable def lru_Last.Fn : Fun := fnOf lru_Last.E lru_Last.sg Try.f15
noncomputable def lru_Last.F (o : t4.den) : Option (Int × Int × Unit) := lru_Last.Fn.F (o, ())
noncomputable def lru_Last.S1 (b0 : (List Int)) (b02 : (List Int)) (b03 : Int) (b04 : Int) : St := ⟨[(1, (.ptr 0 []))], [(0, some (.box (.agg [(.v (.slice (.int .i64)) b0), (.v (.slice (.int .i64)) b02), (.v (.int .i64) b03), (.v (.int .i64) b04)])))], 1, []⟩
noncomputable def lru_Last.L1 (b0 : (List Int)) (b02 : (List Int)) (b03 : Int) (b04 : Int) : Option (Int × Int × Unit) := res lru_Last.c (atJoin lru_Last.b [1, 0, 1, 1]) (lru_Last.S1 b0 b02 b03 b04)
noncomputable def lru_Last.S2 (b0 : (List Int)) (b02 : (List Int)) (b03 : Int) (b04 : Int) : St := ⟨[(1, (.ptr 0 []))], [(0, some (.box (.agg [(.v (.slice (.int .i64)) b0), (.v (.slice (.int .i64)) b02), (.v (.int .i64) b03), (.v (.int .i64) b04)])))], 1, []⟩
noncomputable def lru_Last.L2 (b0 : (List Int)) (b02 : (List Int)) (b03 : Int) (b04 : Int) : Option (Int × Int × Unit) := res lru_Last.c (atJoin lru_Last.b [1, 1, 0, 1]) (lru_Last.S2 b0 b02 b03 b04)
theorem lru_Last.spec : FnSpec Try.prog globs 15 lru_Last.Fn := spec_of (E := lru_Last.E) (envOk_at tabOk eqOk primsOk (.cons lru_Check.spec <| .nil)) mixOk Try.func15 (by kernel_rfl)
theorem lru_Last.L1_eq (b0 : (List Int)) (b02 : (List Int)) (b03 : Int) (b04 : Int) : lru_Last.L1 b0 b02 b03 b04 =
  bif (b04 == (-1)) then
    some (0, 6, ())
  else
    lru_Last.L2 b0 b02 b03 b04 := res_eq (by kernel_rfl)
theorem lru_Last.L2_eq (b0 : (List Int)) (b02 : (List Int)) (b03 : Int) (b04 : Int) : lru_Last.L2 b0 b02 b03 b04 =
  some (b04, 0, ()) := res_eq (by kernel_rfl)
theorem lru_Last.F_eq (o : t4.den) : lru_Last.F o =
  (lru_Check.F o).bind fun r0 =>
  bif (r0.1 != 0) then
    some (0, r0.1, ())
  else
    lru_Last.L1 o.1 o.2.1 o.2.2.1 o.2.2.2.1 := by kernel_rfl
/-! ### spigot/lru.check (36) -/
noncomputable def lru_check.sg : Sig := ⟨[.val t4, .val (.int .i64)], [((.int .i64), true)]⟩
noncomputable def lru_check.E : Env := ⟨tl, fun i => look i [(35, lru_Check.Fn)], [], eqs, globs, prims⟩
noncomputable def lru_check.c := cxOf lru_check.E lru_check.sg Try.f36
noncomputable def lru_check.b := body Try.f36
noncomputable def lru_check.Fn : Fun := fnOf lru_check.E lru_check.sg Try.f36
noncomputable def lru_check.F (o : t4.den) (place : Int) : Option (Int × Unit) := lru_check.Fn.F (o, place, ())
noncomputable def lru_check.S1 (place : Int) (b0 : (List Int)) (b02 : (List Int)) (b03 : Int) (b04 : Int) : St := ⟨[(1, (.v (.int .i64) place)), (2, (.ptr 0 []))], [(0, some (.box (.agg [(.v (.slice (.int .i64)) b0), (.v (.slice (.int .i64)) b02), (.v (.int .i64) b03), (.v (.int .i64) b04)])))], 1, []⟩
noncomputable def lru_check.L1 (place : Int) (b0 : (List Int)) (b02 : (List Int)) (b03 : Int) (b04 : Int) : Option (Int × Unit) := res lru_check.c (atJoin lru_check.b [1, 0, 1, 1]) (lru_check.S1 place b0 b02 b03 b04)
noncomputable def lru_check.S2 : St := ⟨[], [], 0, []⟩
noncomputable def lru_check.L2 : Option (Int × Unit) := res lru_check.c (atJoin lru_check.b [1, 1, 0, 1]) (lru_check.S2)
theorem lru_check.spec : FnSpec Try.prog globs 36 lru_check.Fn := spec_of (E := lru_check.E) (envOk_at tabOk eqOk primsOk (.cons lru_Check.spec <| .nil)) mixOk Try.func36 (by kernel_rfl)
theorem lru_check.L1_eq (place : Int) (b0 : (List Int)) (b02 : (List Int)) (b03 : Int) (b04 : Int) : lru_check.L1 place b0 b02 b03 b04 =
  bif (decide ((place : Int) < 0)) then
    some (2, ())
  else
    bif (decide ((place : Int) ≥ ((List.length b0 : Int)))) then
      some (2, ())
    else
      lru_check.L2 := res_eq (by kernel_rfl)
theorem lru_check.L2_eq : lru_check.L2 =
  some (0, ()) := res_eq (by kernel_rfl)
theorem lru_check.F_eq (o : t4.den) (place : Int) : lru_check.F o place =
  (lru_Check.F o).bind fun r0 =>
  bif (r0.1 != 0) then
    some (r0.1, ())
  else
    lru_check.L1 place o.1 o.2.1 o.2.2.1 o.2.2.2.1 := by kernel_rfl
/-! ### spigot/lru.twin (37) -/
noncomputable def lru_twin.sg : Sig := ⟨[.val t4], [(t4, true)]⟩
noncomputable def lru_twin.E : Env := ⟨tl, fun i => look i [], [], eqs, globs, prims⟩
noncomputable def lru_twin.c := cxOf lru_twin.E lru_twin.sg Try.f37
noncomputable def lru_twin.b := body Try.f37
noncomputable def lru_twin.Fn : Fun := fnOf lru_twin.E lru_twin.sg Try.f37
noncomputable def lru_twin.F (o : t4.den) : Option (t4.den × Unit) := lru_twin.Fn.F (o, ())
theorem lru_twin.spec : FnSpec Try.prog globs 37 lru_twin.Fn := spec_of (E := lru_twin.E) (envOk_at tabOk eqOk primsOk (.nil)) mixOk Try.func37 (by kernel_rfl)
theorem lru_twin.F_eq (o : t4.den) : lru_twin.F o =
  bif (lim (List.length o.1) (.int .i64)) then
    bif (lim (List.length o.2.1) (.int .i64)) then
      some (o, ())
    else none
  else none := by kernel_rfl
/-! ### spigot/lru.in (38) -/
noncomputable def lru_in.sg : Sig := ⟨[.val t4, .val (.int .i64)], [(.bool, true)]⟩
noncomputable def lru_in.E : Env := ⟨tl, fun i => look i [], [], eqs, globs, prims⟩
noncomputable def lru_in.c := cxOf lru_in.E lru_in.sg Try.f38
noncomputable def lru_in.b := body Try.f38
noncomputable def lru_in.Fn : Fun := fnOf lru_in.E lru_in.sg Try.f38
noncomputable def lru_in.F (o : t4.den) (place : Int) : Option (Bool × Unit) := lru_in.Fn.F (o, place, ())
theorem lru_in.spec : FnSpec Try.prog globs 38 lru_in.Fn := spec_of (E := lru_in.E) (envOk_at tabOk eqOk primsOk (.nil)) mixOk Try.func38 (by kernel_rfl)
theorem lru_in.F_eq (o : t4.den) (place : Int) : lru_in.F o place =
  bif (o.2.2.1 == place) then
    some (true, ())
  else
    bif (decide ((0 : Int) ≤ place ∧ (place : Int) < ((List.length o.1 : Int)))) then
      some (((List.getD o.1 (Int.toNat place) 0) != (-1)), ())
    else none := by kernel_rfl
/-! ### spigot/lru.out (39) -/
noncomputable def lru_out.sg : Sig := ⟨[.io t4 true, .val (.int .i64)], []⟩
noncomputable def lru_out.E : Env := ⟨tl, fun i => look i [], [], eqs, globs, prims⟩
noncomputable def lru_out.c := cxOf lru_out.E lru_out.sg Try.f39
noncomputable def lru_out.b := body Try.f39
noncomputable def lru_out.Fn : Fun := fnOf lru_out.E lru_out.sg Try.f39
noncomputable def lru_out.F (o : t4.den) (place : Int) : Option (t4.den × Unit) := lru_out.Fn.F (o, place, ())
noncomputable def lru_out.S1 (place : Int) (p : Int) (n : Int) (b0 : Int) (b02 : Int) (l1 : (List Int)) (l2 : (List Int)) : St := ⟨[(0, (.ptr 0 [])), (1, (.v (.int .i64) place)), (4, (.v (.int .i64) p)), (5, (.v (.int .i64) n))], [(0, some (.box (.agg [(.sl 1), (.sl 2), (.v (.int .i64) b0), (.v (.int .i64) b02)]))), (1, some (.row (.int .i64) l1 false)), (2, some (.row (.int .i64) l2 false))], 3, [(.ptr 0 [])]⟩
noncomputable def lru_out.L1 (place : Int) (p : Int) (n : Int) (b0 : Int) (b02 : Int) (l1 : (List Int)) (l2 : (List Int)) : Option (t4.den × Unit) := res lru_out.c (atJoin lru_out.b [1, 0, 1]) (lru_out.S1 place p n b0 b02 l1 l2)
noncomputable def lru_out.S2 (place : Int) (b0 : Int) (b02 : Int) (l1 : (List Int)) (l2 : (List Int)) : St := ⟨[(0, (.ptr 0 [])), (1, (.v (.int .i64) place))], [(0, some (.box (.agg [(.sl 1), (.sl 2), (.v (.int .i64) b0), (.v (.int .i64) b02)]))), (1, some (.row (.int .i64) l1 false)), (2, some (.row (.int .i64) l2 false))], 3, [(.ptr 0 [])]⟩
noncomputable def lru_out.L2 (place : Int) (b0 : Int) (b02 : Int) (l1 : (List Int)) (l2 : (List Int)) : Option (t4.den × Unit) := res lru_out.c (atJoin lru_out.b [1, 1, 0, 1]) (lru_out.S2 place b0 b02 l1 l2)
theorem lru_out.spec : FnSpec Try.prog globs 39 lru_out.Fn := spec_of (E := lru_out.E) (envOk_at tabOk eqOk primsOk (.nil)) mixOk Try.func39 (by kernel_rfl)
theorem lru_out.L1_eq (place : Int) (p : Int) (n : Int) (b0 : Int) (b02 : Int) (l1 : (List Int)) (l2 : (List Int)) : lru_out.L1 place p n b0 b02 l1 l2 =
  bif (n == (-1)) then
    lru_out.L2 place b0 p l1 l2
  else
    bif (decide ((0 : Int) ≤ n ∧ (n : Int) < ((List.length l1 : Int)))) then
      lru_out.L2 place b0 b02 (List.set l1 (Int.toNat n) p) l2
    else none := res_eq (by kernel_rfl)
theorem lru_out.L2_eq (place : Int) (b0 : Int) (b02 : Int) (l1 : (List Int)) (l2 : (List Int)) : lru_out.L2 place b0 b02 l1 l2 =
  bif (decide ((0 : Int) ≤ place ∧ (place : Int) < ((List.length l1 : Int)))) then
    bif (decide ((0 : Int) ≤ place ∧ (place : Int) < ((List.length l2 : Int)))) then
      some (((List.set l1 (Int.toNat place) (-1)), (List.set l2 (Int.toNat place) (-1)), b0, b02, ()), ())
    else none
  else none := res_eq (by kernel_rfl)
theorem lru_out.F_eq (o : t4.den) (place : Int) : lru_out.F o place =
  bif (decide ((0 : Int) ≤ place ∧ (place : Int) < ((List.length o.1 : Int)))) then
    bif (decide ((0 : Int) ≤ place ∧ (place : Int) < ((List.length o.2.1 : Int)))) then
      bif ((List.getD o.1 (Int.toNat place) 0) == (-1)) then
        lru_out.L1 place (List.getD o.1 (Int.toNat place) 0) (List.getD o.2.1 (Int.toNat place) 0) (List.getD o.2.1 (Int.toNat place) 0) o.2.2.2.1 o.1 o.2.1
      else
        bif (decide ((0 : Int) ≤ (List.getD o.1 (Int.toNat place) 0) ∧ ((List.getD o.1 (Int.toNat place) 0) : Int) < ((List.length o.2.1 : Int)))) then
          lru_out.L1 place (List.getD o.1 (Int.toNat place) 0) (List.getD o.2.1 (Int.toNat place) 0) o.2.2.1 o.2.2.2.1 o.1 (List.set o.2.1 (Int.toNat (List.getD o.1 (Int.toNat place) 0)) (List.getD o.2.1 (Int.toNat place) 0))
        else none
    else none
  else none := by kernel_rfl
/-! ### spigot/lru.Touch (17) -/
noncomputable def lru_Touch.sg : Sig := ⟨[.val t4, .val (.int .i64)], [(t4, true), ((.int .i64), true)]⟩
noncomputable def lru_Touch.E : Env := ⟨tl, fun i => look i [(36, lru_check.Fn), (37, lru_twin.Fn), (38, lru_in.Fn), (39, lru_out.Fn)], [], eqs, globs, prims⟩
noncomputable def lru_Touch.c := cxOf lru_Touch.E lru_Touch.sg Try.f17
noncomputable def lru_Touch.b := body Try.f17
noncomputable def lru_Touch.Fn : Fun := fnOf lru_Touch.E lru_Touch.sg Try.f17
noncomputable def lru_Touch.F (o : t4.den) (place : Int) : Option (t4.den × Int × Unit) := lru_Touch.Fn.F (o, place, ())
noncomputable def lru_Touch.S1 (place : Int) (b0 : (List Int)) (b02 : (List Int)) (b03 : Int) (b04 : Int) (l2 : (List Int)) : St := ⟨[(1, (.v (.int .i64) place)), (2, (.ptr 0 [])), (4, (.ptr 1 []))], [(0, some (.box (.agg [(.v (.slice (.int .i64)) b0), (.v (.slice (.int .i64)) b02), (.v (.int .i64) b03), (.v (.int .i64) b04)]))), (1, some (.box (.agg [(.sl 2), (.sl 3), (.v (.int .i64) 0), (.v (.int .i64) 0)]))), (2, some (.row (.int .i64) l2 false)), (3, some (.row (.int .i64) l2 false))], 4, []⟩
noncomputable def lru_Touch.L1 (place : Int) (b0 : (List Int)) (b02 : (List Int)) (b03 : Int) (b04 : Int) (l2 : (List Int)) : Option (t4.den × Int × Unit) := res lru_Touch.c (atJoin lru_Touch.b [1, 0, 1, 1]) (lru_Touch.S1 place b0 b02 b03 b04 l2)
noncomputable def lru_Touch.S2 (place : Int) (b1 : Int) (b12 : Int) (l2 : (List Int)) (l4 : (List Int)) (l5 : (List Int)) : St := ⟨[(1, (.v (.int .i64) place)), (4, (.ptr 0 [])), (7, (.ptr 1 []))], [(0, some (.box (.agg [(.sl 2), (.sl 3), (.v (.int .i64) 0), (.v (.int .i64) 0)]))), (1, some (.box (.agg [(.sl 4), (.sl 5), (.v (.int .i64) b1), (.v (.int .i64) b12)]))), (2, some (.row (.int .i64) l2 false)), (3, some (.row (.int .i64) l2 false)), (4, some (.row (.int .i64) l4 false)), (5, some (.row (.int .i64) l5 false))], 6, []⟩
noncomputable def lru_Touch.L2 (place : Int) (b1 : Int) (b12 : Int) (l2 : (List Int)) (l4 : (List Int)) (l5 : (List Int)) : Option (t4.den × Int × Unit) := res lru_Touch.c (atJoin lru_Touch.b [1, 1, 1, 0, 1]) (lru_Touch.S2 place b1 b12 l2 l4 l5)
noncomputable def lru_Touch.S3 (place : Int) (b1 : Int) (b12 : Int) (l2 : (List Int)) (l4 : (List Int)) (l5 : (List Int)) : St := ⟨[(1, (.v (.int .i64) place)), (4, (.ptr 0 [])), (7, (.ptr 1 []))], [(0, some (.box (.agg [(.sl 2), (.sl 3), (.v (.int .i64) 0), (.v (.int .i64) 0)]))), (1, some (.box (.agg [(.sl 4), (.sl 5), (.v (.int .i64) b1), (.v (.int .i64) b12)]))), (2, some (.row (.int .i64) l2 false)), (3, some (.row (.int .i64) l2 false)), (4, some (.row (.int .i64) l4 false)), (5, some (.row (.int .i64) l5 false))], 6, []⟩
noncomputable def lru_Touch.L3 (place : Int) (b1 : Int) (b12 : Int) (l2 : (List Int)) (l4 : (List Int)) (l5 : (List Int)) : Option (t4.den × Int × Unit) := res lru_Touch.c (atJoin lru_Touch.b [1, 1, 1, 1, 1, 0, 1]) (lru_Touch.S3 place b1 b12 l2 l4 l5)
theorem lru_Touch.spec : FnSpec Try.prog globs 17 lru_Touch.Fn := spec_of (E := lru_Touch.E) (envOk_at tabOk eqOk primsOk (.cons lru_check.spec <| .cons lru_twin.spec <| .cons lru_in.spec <| .cons lru_out.spec <| .nil)) mixOk Try.func17 (by kernel_rfl)
theorem lru_Touch.L1_eq (place : Int) (b0 : (List Int)) (b02 : (List Int)) (b03 : Int) (b04 : Int) (l2 : (List Int)) : lru_Touch.L1 place b0 b02 b03 b04 l2 =
  (lru_twin.F (b0, b02, b03, b04, ())).bind fun r0 =>
  (lru_in.F r0.1 place).bind fun r1 =>
  bif r1.1 then
    (lru_out.F r0.1 place).bind fun r2 =>
    lru_Touch.L2 place r2.1.2.2.1 r2.1.2.2.2.1 l2 r2.1.1 r2.1.2.1
  else
    lru_Touch.L2 place r0.1.2.2.1 r0.1.2.2.2.1 l2 r0.1.1 r0.1.2.1 := res_eq (by kernel_rfl)
theorem lru_Touch.L2_eq (place : Int) (b1 : Int) (b12 : Int) (l2 : (List Int)) (l4 : (List Int)) (l5 : (List Int)) : lru_Touch.L2 place b1 b12 l2 l4 l5 =
  bif (decide ((0 : Int) ≤ place ∧ (place : Int) < ((List.length l5 : Int)))) then
    bif (b1 == (-1)) then
      lru_Touch.L3 place b1 place l2 l4 (List.set l5 (Int.toNat place) b1)
    else
      bif (decide ((0 : Int) ≤ b1 ∧ (b1 : Int) < ((List.length l4 : Int)))) then
        lru_Touch.L3 place b1 b12 l2 (List.set l4 (Int.toNat b1) place) (List.set l5 (Int.toNat place) b1)
      else none
  else none := res_eq (by kernel_rfl)
theorem lru_Touch.L3_eq (place : Int) (b1 : Int) (b12 : Int) (l2 : (List Int)) (l4 : (List Int)) (l5 : (List Int)) : lru_Touch.L3 place b1 b12 l2 l4 l5 =
  some ((l4, l5, place, b12, ()), 0, ()) := res_eq (by kernel_rfl)
theorem lru_Touch.F_eq (o : t4.den) (place : Int) : lru_Touch.F o place =
  (lru_check.F o place).bind fun r0 =>
  bif (r0.1 != 0) then
    some ((([] : List Int), ([] : List Int), 0, 0, ()), r0.1, ())
  else
    lru_Touch.L1 place o.1 o.2.1 o.2.2.1 o.2.2.2.1 ([] : List Int) := by kernel_rfl
/-! ### spigot/probe.Home (46) -/
noncomputable def probe_Home.sg : Sig := ⟨[.val (.int .u32)], [((.int .i64), true)]⟩
noncomputable def probe_Home.E : Env := ⟨tl, fun i => look i [], [], eqs, globs, prims⟩
noncomputable def probe_Home.c := cxOf probe_Home.E probe_Home.sg Try.f46
noncomputable def probe_Home.b := body Try.f46
noncomputable def probe_Home.Fn : Fun := fnOf probe_Home.E probe_Home.sg Try.f46
noncomputable def probe_Home.F (key : Int) : Option (Int × Unit) := probe_Home.Fn.F (key, ())
theorem probe_Home.spec : FnSpec Try.prog globs 46 probe_Home.Fn := spec_of (E := probe_Home.E) (envOk_at tabOk eqOk primsOk (.nil)) mixOk Try.func46 (by kernel_rfl)
theorem probe_Home.F_eq (key : Int) : probe_Home.F key =
  bif (decide ((0 : Int) ≤ 28)) then
    some ((IntKind.wrap .i64 (Int.fdiv (IntKind.wrap .u32 (key * 2654435769)) (2 ^ min (Int.toNat 28) (IntKind.bits .u32)))), ())
  else none := by kernel_rfl
/-! ### spigot/probe.wrap (47) -/
noncomputable def probe_wrap.sg : Sig := ⟨[.val (.int .i64)], [((.int .i64), true)]⟩
noncomputable def probe_wrap.E : Env := ⟨tl, fun i => look i [], [], eqs, globs, prims⟩
noncomputable def probe_wrap.c := cxOf probe_wrap.E probe_wrap.sg Try.f47
noncomputable def probe_wrap.b := body Try.f47
noncomputable def probe_wrap.Fn : Fun := fnOf probe_wrap.E probe_wrap.sg Try.f47
noncomputable def probe_wrap.F (i : Int) : Option (Int × Unit) := probe_wrap.Fn.F (i, ())
theorem probe_wrap.spec : FnSpec Try.prog globs 47 probe_wrap.Fn := spec_of (E := probe_wrap.E) (envOk_at tabOk eqOk primsOk (.nil)) mixOk Try.func47 (by kernel_rfl)
theorem probe_wrap.F_eq (i : Int) : probe_wrap.F i =
  some ((bits .and .i64 i 15), ()) := by kernel_rfl
/-! ### spigot/probe.look (23) -/
noncomputable def probe_look.sg : Sig := ⟨[.val (.slice t3), .val (.int .u32)], [((.int .i64), true), ((.int .i64), true)]⟩
noncomputable def probe_look.E : Env := ⟨tl, fun i => look i [(46, probe_Home.Fn), (47, probe_wrap.Fn)], [], eqs, globs, prims⟩
noncomputable def probe_look.c := cxOf probe_look.E probe_look.sg Try.f23
noncomputable def probe_look.b := body Try.f23
noncomputable def probe_look.Fn : Fun := fnOf probe_look.E probe_look.sg Try.f23
noncomputable def probe_look.F (x : (List t3.den)) (key : Int) : Option (Int × Int × Unit) := probe_look.Fn.F (x, key, ())
noncomputable def probe_look.S1 (x : (List t3.den)) (key : Int) (i : Int) (steps : Int) : St := ⟨[(0, (.v (.slice t3) x)), (1, (.v (.int .u32) key)), (4, (.v (.int .i64) i)), (5, (.v (.int .i64) steps))], [], 0, []⟩
noncomputable def probe_look.L1 (x : (List t3.den)) (key : Int) (i : Int) (steps : Int) : Option (Int × Int × Unit) := res probe_look.c (atLoop probe_look.b [1, 0, 1, 0]) (probe_look.S1 x key i steps)
noncomputable def probe_look.S2 (x : (List t3.den)) (key : Int) (i : Int) (steps : Int) : St := ⟨[(0, (.v (.slice t3) x)), (1, (.v (.int .u32) key)), (4, (.v (.int .i64) i)), (5, (.v (.int .i64) steps))], [], 0, []⟩
noncomputable def probe_look.L2 (x : (List t3.den)) (key : Int) (i : Int) (steps : Int) : Option (Int × Int × Unit) := res probe_look.c (atJoin probe_look.b [1, 0, 1, 0, 0, 0, 1]) (probe_look.S2 x key i steps)
theorem probe_look.spec : FnSpec Try.prog globs 23 probe_look.Fn := spec_of (E := probe_look.E) (envOk_at tabOk eqOk primsOk (.cons probe_Home.spec <| .cons probe_wrap.spec <| .nil)) mixOk Try.func23 (by kernel_rfl)
theorem probe_look.L1_eq (x : (List t3.den)) (key : Int) (i : Int) (steps : Int) : probe_look.L1 x key i steps =
  bif (decide ((0 : Int) ≤ i ∧ (i : Int) < ((List.length x : Int)))) then
    bif (((List.getD x (Int.toNat i) (0, 0, false, ())).2).2).1 then
      bif (decide ((0 : Int) ≤ i ∧ (i : Int) < ((List.length x : Int)))) then
        bif ((List.getD x (Int.toNat i) (0, 0, false, ())).1 != key) then
          probe_look.L2 x key i steps
        else
          some (i, (IntKind.wrap .i64 (steps + 1)), ())
      else none
    else
      some (i, (IntKind.wrap .i64 (steps + 1)), ())
  else none := res_eq (by kernel_rfl)
theorem probe_look.L2_eq (x : (List t3.den)) (key : Int) (i : Int) (steps : Int) : probe_look.L2 x key i steps =
  (probe_wrap.F (IntKind.wrap .i64 (i + 1))).bind fun r0 =>
  probe_look.L1 x key r0.1 (IntKind.wrap .i64 (steps + 1)) := res_eq (by kernel_rfl)
theorem probe_look.F_eq (x : (List t3.den)) (key : Int) : probe_look.F x key =
  (probe_Home.F key).bind fun r0 =>
  probe_look.L1 x key r0.1 0 := by kernel_rfl
/-! ### spigot/probe.Check (22) -/
noncomputable def probe_Check.sg : Sig := ⟨[.val (.slice t3)], [((.int .i64), true)]⟩
noncomputable def probe_Check.E : Env := ⟨tl, fun i => look i [(23, probe_look.Fn)], [], eqs, globs, prims⟩
noncomputable def probe_Check.c := cxOf probe_Check.E probe_Check.sg Try.f22
noncomputable def probe_Check.b := body Try.f22
noncomputable def probe_Check.Fn : Fun := fnOf probe_Check.E probe_Check.sg Try.f22
noncomputable def probe_Check.F (x : (List t3.den)) : Option (Int × Unit) := probe_Check.Fn.F (x, ())
noncomputable def probe_Check.S1 (x : (List t3.den)) : St := ⟨[(0, (.v (.slice t3) x))], [], 0, []⟩
noncomputable def probe_Check.L1 (x : (List t3.den)) : Option (Int × Unit) := res probe_Check.c (atJoin probe_Check.b [1, 0, 1]) (probe_Check.S1 x)
noncomputable def probe_Check.S2 (x : (List t3.den)) (n : Int) (t14_ : Int) (t15_ : Int) : St := ⟨[(0, (.v (.slice t3) x)), (3, (.v (.int .i64) n)), (13, (.v (.slice t3) x)), (14, (.v (.int .i64) t14_)), (15, (.v (.int .i64) t15_))], [], 0, []⟩
noncomputable def probe_Check.L2 (x : (List t3.den)) (n : Int) (t14_ : Int) (t15_ : Int) : Option (Int × Unit) := res probe_Check.c (atLoop probe_Check.b [1, 1, 1, 0, 1, 0]) (probe_Check.S2 x n t14_ t15_)
noncomputable def probe_Check.S3 (x : (List t3.den)) (n : Int) (t14_ : Int) (t15_ : Int) : St := ⟨[(0, (.v (.slice t3) x)), (3, (.v (.int .i64) n)), (13, (.v (.slice t3) x)), (14, (.v (.int .i64) t14_)), (15, (.v (.int .i64) t15_))], [], 0, []⟩
noncomputable def probe_Check.L3 (x : (List t3.den)) (n : Int) (t14_ : Int) (t15_ : Int) : Option (Int × Unit) := res probe_Check.c (atJoin probe_Check.b [1, 1, 1, 0, 1, 0, 0, 1, 0]) (probe_Check.S3 x n t14_ t15_)
noncomputable def probe_Check.S4 (x : (List t3.den)) : St := ⟨[(0, (.v (.slice t3) x))], [], 0, []⟩
noncomputable def probe_Check.L4 (x : (List t3.den)) : Option (Int × Unit) := res probe_Check.c (atJoin probe_Check.b [1, 1, 1, 1, 0, 1]) (probe_Check.S4 x)
noncomputable def probe_Check.S5 (x : (List t3.den)) (t26_ : Int) : St := ⟨[(0, (.v (.slice t3) x)), (26, (.v (.int .i64) t26_))], [], 0, []⟩
noncomputable def probe_Check.L5 (x : (List t3.den)) (t26_ : Int) : Option (Int × Unit) := res probe_Check.c (atLoop probe_Check.b [1, 1, 1, 1, 1, 0, 1, 0]) (probe_Check.S5 x t26_)
noncomputable def probe_Check.S6 (x : (List t3.den)) (t26_ : Int) : St := ⟨[(0, (.v (.slice t3) x)), (26, (.v (.int .i64) t26_))], [], 0, []⟩
noncomputable def probe_Check.L6 (x : (List t3.den)) (t26_ : Int) : Option (Int × Unit) := res probe_Check.c (atJoin probe_Check.b [1, 1, 1, 1, 1, 0, 1, 0, 0, 1, 0]) (probe_Check.S6 x t26_)
noncomputable def probe_Check.S7 (x : (List t3.den)) (i : Int) (b0 : Int) (b02 : Int) (b03 : Bool) : St := ⟨[(0, (.v (.slice t3) x)), (6, (.v (.int .i64) i)), (7, (.ptr 0 [])), (26, (.v (.int .i64) i))], [(0, some (.box (.agg [(.v (.int .u32) b0), (.v (.int .i64) b02), (.v .bool b03)])))], 1, []⟩
noncomputable def probe_Check.L7 (x : (List t3.den)) (i : Int) (b0 : Int) (b02 : Int) (b03 : Bool) : Option (Int × Unit) := res probe_Check.c (atJoin probe_Check.b [1, 1, 1, 1, 1, 0, 1, 0, 0, 1, 1, 0, 0, 1, 1, 0, 1]) (probe_Check.S7 x i b0 b02 b03)
noncomputable def probe_Check.S8 (x : (List t3.den)) (t26_ : Int) : St := ⟨[(0, (.v (.slice t3) x)), (26, (.v (.int .i64) t26_))], [], 0, []⟩
noncomputable def probe_Check.L8 (x : (List t3.den)) (t26_ : Int) : Option (Int × Unit) := res probe_Check.c (atJoin probe_Check.b [1, 1, 1, 1, 1, 0, 1, 0, 0, 1, 1, 0, 0, 1, 1, 1, 1, 1]) (probe_Check.S8 x t26_)
noncomputable def probe_Check.S9 (x : (List t3.den)) (n : Int) (t14_ : Int) (t15_ : Int) : St := ⟨[(0, (.v (.slice t3) x)), (3, (.v (.int .i64) n)), (13, (.v (.slice t3) x)), (14, (.v (.int .i64) t14_)), (15, (.v (.int .i64) t15_))], [], 0, []⟩
noncomputable def probe_Check.L9 (x : (List t3.den)) (n : Int) (t14_ : Int) (t15_ : Int) : Option (Int × Unit) := res probe_Check.c (atJoin probe_Check.b [1, 1, 1, 0, 1, 0, 0, 1, 1, 0, 0, 1, 1]) (probe_Check.S9 x n t14_ t15_)
theorem probe_Check.spec : FnSpec Try.prog globs 22 probe_Check.Fn := spec_of (E := probe_Check.E) (envOk_at tabOk eqOk primsOk (.cons probe_look.spec <| .nil)) mixOk Try.func22 (by kernel_rfl)
theorem probe_Check.L1_eq (x : (List t3.den)) : probe_Check.L1 x =
  probe_Check.L2 x 0 ((List.length x : Int)) 0 := res_eq (by kernel_rfl)
theorem probe_Check.L2_eq (x : (List t3.den)) (n : Int) (t14_ : Int) (t15_ : Int) : probe_Check.L2 x n t14_ t15_ =
  bif (decide ((t15_ : Int) < t14_)) then
    probe_Check.L3 x n t14_ t15_
  else
    bif (decide ((n : Int) > 12)) then
      some (8, ())
    else
      probe_Check.L4 x := res_eq (by kernel_rfl)
theorem probe_Check.L3_eq (x : (List t3.den)) (n : Int) (t14_ : Int) (t15_ : Int) : probe_Check.L3 x n t14_ t15_ =
  bif (decide ((0 : Int) ≤ t15_ ∧ (t15_ : Int) < ((List.length x : Int)))) then
    bif (((List.getD x (Int.toNat t15_) (0, 0, false, ())).2).2).1 then
      probe_Check.L9 x (IntKind.wrap .i64 (n + 1)) t14_ t15_
    else
      probe_Check.L9 x n t14_ t15_
  else none := res_eq (by kernel_rfl)
theorem probe_Check.L4_eq (x : (List t3.den)) : probe_Check.L4 x =
  probe_Check.L5 x 0 := res_eq (by kernel_rfl)
theorem probe_Check.L5_eq (x : (List t3.den)) (t26_ : Int) : probe_Check.L5 x t26_ =
  bif (decide ((t26_ : Int) < 16)) then
    probe_Check.L6 x t26_
  else
    some (0, ()) := res_eq (by kernel_rfl)
theorem probe_Check.L6_eq (x : (List t3.den)) (t26_ : Int) : probe_Check.L6 x t26_ =
  bif (decide ((0 : Int) ≤ t26_ ∧ (t26_ : Int) < ((List.length x : Int)))) then
    bif (!((((List.getD x (Int.toNat t26_) (0, 0, false, ())).2).2).1)) then
      bif (!(Ty.beq t3 (List.getD x (Int.toNat t26_) (0, 0, false, ())) (0, 0, false, ()))) then
        some (8, ())
      else
        bif (((List.getD x (Int.toNat t26_) (0, 0, false, ())).2).2).1 then
          bif (decide (((((List.getD x (Int.toNat t26_) (0, 0, false, ())).2).1) : Int) < 0)) then
            some (8, ())
          else
            bif (decide (((((List.getD x (Int.toNat t26_) (0, 0, false, ())).2).1) : Int) ≥ 16)) then
              some (8, ())
            else
              probe_Check.L7 x t26_ ((List.getD x (Int.toNat t26_) (0, 0, false, ())).1) (((List.getD x (Int.toNat t26_) (0, 0, false, ())).2).1) ((((List.getD x (Int.toNat t26_) (0, 0, false, ())).2).2).1)
        else
          probe_Check.L7 x t26_ ((List.getD x (Int.toNat t26_) (0, 0, false, ())).1) (((List.getD x (Int.toNat t26_) (0, 0, false, ())).2).1) ((((List.getD x (Int.toNat t26_) (0, 0, false, ())).2).2).1)
    else
      bif (((List.getD x (Int.toNat t26_) (0, 0, false, ())).2).2).1 then
        bif (decide (((((List.getD x (Int.toNat t26_) (0, 0, false, ())).2).1) : Int) < 0)) then
          some (8, ())
        else
          bif (decide (((((List.getD x (Int.toNat t26_) (0, 0, false, ())).2).1) : Int) ≥ 16)) then
            some (8, ())
          else
            probe_Check.L7 x t26_ ((List.getD x (Int.toNat t26_) (0, 0, false, ())).1) (((List.getD x (Int.toNat t26_) (0, 0, false, ())).2).1) ((((List.getD x (Int.toNat t26_) (0, 0, false, ())).2).2).1)
      else
        probe_Check.L7 x t26_ ((List.getD x (Int.toNat t26_) (0, 0, false, ())).1) (((List.getD x (Int.toNat t26_) (0, 0, false, ())).2).1) ((((List.getD x (Int.toNat t26_) (0, 0, false, ())).2).2).1)
  else none := res_eq (by kernel_rfl)
theorem probe_Check.L7_eq (x : (List t3.den)) (i : Int) (b0 : Int) (b02 : Int) (b03 : Bool) : probe_Check.L7 x i b0 b02 b03 =
  (probe_look.F x b0).bind fun r0 =>
  bif b03 then
    bif (r0.1 != i) then
      some (8, ())
    else
      probe_Check.L8 x i
  else
    probe_Check.L8 x i := res_eq (by kernel_rfl)
theorem probe_Check.L8_eq (x : (List t3.den)) (t26_ : Int) : probe_Check.L8 x t26_ =
  probe_Check.L5 x (IntKind.wrap .i64 (t26_ + 1)) := res_eq (by kernel_rfl)
theorem probe_Check.L9_eq (x : (List t3.den)) (n : Int) (t14_ : Int) (t15_ : Int) : probe_Check.L9 x n t14_ t15_ =
  probe_Check.L2 x n t14_ (IntKind.wrap .i64 (t15_ + 1)) := res_eq (by kernel_rfl)
theorem probe_Check.F_eq (x : (List t3.den)) : probe_Check.F x =
  bif (((List.length x : Int)) != 16) then
    some (8, ())
  else
    probe_Check.L1 x := by kernel_rfl
/-! ### spigot/probe.Find (9) -/
noncomputable def probe_Find.sg : Sig := ⟨[.val (.slice t3), .val (.int .u32)], [((.int .i64), true), ((.int .i64), true)]⟩
noncomputable def probe_Find.E : Env := ⟨tl, fun i => look i [(22, probe_Check.Fn), (23, probe_look.Fn)], [], eqs, globs, prims⟩
noncomputable def probe_Find.c := cxOf probe_Find.E probe_Find.sg Try.f9
noncomputable def probe_Find.b := body Try.f9
noncomputable def probe_Find.Fn : Fun := fnOf probe_Find.E probe_Find.sg Try.f9
noncomputable def probe_Find.F (x : (List t3.den)) (key : Int) : Option (Int × Int × Unit) := probe_Find.Fn.F (x, key, ())
noncomputable def probe_Find.S1 (x : (List t3.den)) (key : Int) : St := ⟨[(0, (.v (.slice t3) x)), (1, (.v (.int .u32) key))], [], 0, []⟩
noncomputable def probe_Find.L1 (x : (List t3.den)) (key : Int) : Option (Int × Int × Unit) := res probe_Find.c (atJoin probe_Find.b [1, 0, 1, 1]) (probe_Find.S1 x key)
noncomputable def probe_Find.S2 (x : (List t3.den)) (i : Int) : St := ⟨[(0, (.v (.slice t3) x)), (7, (.v (.int .i64) i))], [], 0, []⟩
noncomputable def probe_Find.L2 (x : (List t3.den)) (i : Int) : Option (Int × Int × Unit) := res probe_Find.c (atJoin probe_Find.b [1, 1, 1, 0, 1]) (probe_Find.S2 x i)
theorem probe_Find.spec : FnSpec Try.prog globs 9 probe_Find.Fn := spec_of (E := probe_Find.E) (envOk_at tabOk eqOk primsOk (.cons probe_Check.spec <| .cons probe_look.spec <| .nil)) mixOk Try.func9 (by kernel_rfl)
theorem probe_Find.L1_eq (x : (List t3.den)) (key : Int) : probe_Find.L1 x key =
  (probe_look.F x key).bind fun r0 =>
  bif (decide ((0 : Int) ≤ r0.1 ∧ (r0.1 : Int) < ((List.length x : Int)))) then
    bif (!((((List.getD x (Int.toNat r0.1) (0, 0, false, ())).2).2).1)) then
      some (0, 6, ())
    else
      probe_Find.L2 x r0.1
  else none := res_eq (by kernel_rfl)
theorem probe_Find.L2_eq (x : (List t3.den)) (i : Int) : probe_Find.L2 x i =
  bif (decide ((0 : Int) ≤ i ∧ (i : Int) < ((List.length x : Int)))) then
    some (((List.getD x (Int.toNat i) (0, 0, false, ())).2).1, 0, ())
  else none := res_eq (by kernel_rfl)
theorem probe_Find.F_eq (x : (List t3.den)) (key : Int) : probe_Find.F x key =
  (probe_Check.F x).bind fun r0 =>
  bif (r0.1 != 0) then
    some (0, r0.1, ())
  else
    probe_Find.L1 x key := by kernel_rfl
/-! ### spigot/arena.Check (34) -/
noncomputable def arena_Check.sg : Sig := ⟨[.val t2], [((.int .i64), true)]⟩
noncomputable def arena_Check.E : Env := ⟨tl, fun i => look i [], [], eqs, globs, prims⟩
noncomputable def arena_Check.c := cxOf arena_Check.E arena_Check.sg Try.f34
noncomputable def arena_Check.b := body Try.f34
noncomputable def arena_Check.Fn : Fun := fnOf arena_Check.E arena_Check.sg Try.f34
noncomputable def arena_Check.F (a : t2.den) : Option (Int × Unit) := arena_Check.Fn.F (a, ())
noncomputable def arena_Check.S1 (n : Int) (b0 : (List Int)) (b02 : (List Bool)) (b03 : Int) : St := ⟨[(1, (.ptr 0 [])), (3, (.v (.int .i64) n))], [(0, some (.box (.agg [(.v (.slice (.int .i64)) b0), (.v (.slice .bool) b02), (.v (.int .i64) b03)])))], 1, []⟩
noncomputable def arena_Check.L1 (n : Int) (b0 : (List Int)) (b02 : (List Bool)) (b03 : Int) : Option (Int × Unit) := res arena_Check.c (atJoin arena_Check.b [1, 1, 0, 1]) (arena_Check.S1 n b0 b02 b03)
noncomputable def arena_Check.S2 (n : Int) (i : Int) (b0 : (List Int)) (b02 : (List Bool)) (b03 : Int) (l1 : (List Bool)) : St := ⟨[(1, (.ptr 0 [])), (3, (.v (.int .i64) n)), (4, (.sl 1)), (5, (.v (.int .i64) i))], [(0, some (.box (.agg [(.v (.slice (.int .i64)) b0), (.v (.slice .bool) b02), (.v (.int .i64) b03)]))), (1, some (.row .bool l1 false))], 2, []⟩
noncomputable def arena_Check.L2 (n : Int) (i : Int) (b0 : (List Int)) (b02 : (List Bool)) (b03 : Int) (l1 : (List Bool)) : Option (Int × Unit) := res arena_Check.c (atLoop arena_Check.b [1, 1, 1, 1, 0, 1, 0]) (arena_Check.S2 n i b0 b02 b03 l1)
noncomputable def arena_Check.S3 (n : Int) (i : Int) (b0 : (List Int)) (b02 : (List Bool)) (b03 : Int) (l1 : (List Bool)) : St := ⟨[(1, (.ptr 0 [])), (3, (.v (.int .i64) n)), (4, (.sl 1)), (5, (.v (.int .i64) i))], [(0, some (.box (.agg [(.v (.slice (.int .i64)) b0), (.v (.slice .bool) b02), (.v (.int .i64) b03)]))), (1, some (.row .bool l1 false))], 2, []⟩
noncomputable def arena_Check.L3 (n : Int) (i : Int) (b0 : (List Int)) (b02 : (List Bool)) (b03 : Int) (l1 : (List Bool)) : Option (Int × Unit) := res arena_Check.c (atJoin arena_Check.b [1, 1, 1, 1, 0, 1, 0, 0, 0, 1]) (arena_Check.S3 n i b0 b02 b03 l1)
noncomputable def arena_Check.S4 (t53_ : (List Bool)) (t54_ : Int) (t55_ : Int) (b0 : (List Int)) (b02 : Int) (l1 : (List Bool)) : St := ⟨[(1, (.ptr 0 [])), (4, (.sl 1)), (53, (.v (.slice .bool) t53_)), (54, (.v (.int .i64) t54_)), (55, (.v (.int .i64) t55_))], [(0, some (.box (.agg [(.v (.slice (.int .i64)) b0), (.v (.slice .bool) t53_), (.v (.int .i64) b02)]))), (1, some (.row .bool l1 false))], 2, []⟩
noncomputable def arena_Check.L4 (t53_ : (List Bool)) (t54_ : Int) (t55_ : Int) (b0 : (List Int)) (b02 : Int) (l1 : (List Bool)) : Option (Int × Unit) := res arena_Check.c (atLoop arena_Check.b [1, 1, 1, 1, 1, 0, 1, 0]) (arena_Check.S4 t53_ t54_ t55_ b0 b02 l1)
noncomputable def arena_Check.S5 (t53_ : (List Bool)) (t54_ : Int) (t55_ : Int) (b0 : (List Int)) (b02 : Int) (l1 : (List Bool)) : St := ⟨[(1, (.ptr 0 [])), (4, (.sl 1)), (53, (.v (.slice .bool) t53_)), (54, (.v (.int .i64) t54_)), (55, (.v (.int .i64) t55_))], [(0, some (.box (.agg [(.v (.slice (.int .i64)) b0), (.v (.slice .bool) t53_), (.v (.int .i64) b02)]))), (1, some (.row .bool l1 false))], 2, []⟩
noncomputable def arena_Check.L5 (t53_ : (List Bool)) (t54_ : Int) (t55_ : Int) (b0 : (List Int)) (b02 : Int) (l1 : (List Bool)) : Option (Int × Unit) := res arena_Check.c (atJoin arena_Check.b [1, 1, 1, 1, 1, 0, 1, 0, 0, 1, 0]) (arena_Check.S5 t53_ t54_ t55_ b0 b02 l1)
noncomputable def arena_Check.S6 (t53_ : (List Bool)) (t54_ : Int) (t55_ : Int) (b0 : (List Int)) (b02 : Int) (l1 : (List Bool)) : St := ⟨[(1, (.ptr 0 [])), (4, (.sl 1)), (53, (.v (.slice .bool) t53_)), (54, (.v (.int .i64) t54_)), (55, (.v (.int .i64) t55_))], [(0, some (.box (.agg [(.v (.slice (.int .i64)) b0), (.v (.slice .bool) t53_), (.v (.int .i64) b02)]))), (1, some (.row .bool l1 false))], 2, []⟩
noncomputable def arena_Check.L6 (t53_ : (List Bool)) (t54_ : Int) (t55_ : Int) (b0 : (List Int)) (b02 : Int) (l1 : (List Bool)) : Option (Int × Unit) := res arena_Check.c (atJoin arena_Check.b [1, 1, 1, 1, 1, 0, 1, 0, 0, 1, 1, 0, 0, 1, 1]) (arena_Check.S6 t53_ t54_ t55_ b0 b02 l1)
noncomputable def arena_Check.S7 (n : Int) (i : Int) (b0 : (List Int)) (b02 : (List Bool)) (b03 : Int) (l1 : (List Bool)) : St := ⟨[(1, (.ptr 0 [])), (3, (.v (.int .i64) n)), (4, (.sl 1)), (5, (.v (.int .i64) i))], [(0, some (.box (.agg [(.v (.slice (.int .i64)) b0), (.v (.slice .bool) b02), (.v (.int .i64) b03)]))), (1, some (.row .bool l1 false))], 2, []⟩
noncomputable def arena_Check.L7 (n : Int) (i : Int) (b0 : (List Int)) (b02 : (List Bool)) (b03 : Int) (l1 : (List Bool)) : Option (Int × Unit) := res arena_Check.c (atJoin arena_Check.b [1, 1, 1, 1, 0, 1, 0, 0, 1, 0, 0, 0, 1]) (arena_Check.S7 n i b0 b02 b03 l1)
theorem arena_Check.spec : FnSpec Try.prog globs 34 arena_Check.Fn := spec_of (E := arena_Check.E) (envOk_at tabOk eqOk primsOk (.nil)) mixOk Try.func34 (by kernel_rfl)
theorem arena_Check.L1_eq (n : Int) (b0 : (List Int)) (b02 : (List Bool)) (b03 : Int) : arena_Check.L1 n b0 b02 b03 =
  bif (lim (List.length b02) .bool) then
    arena_Check.L2 n b03 b0 b02 b03 b02
  else none := res_eq (by kernel_rfl)
theorem arena_Check.L2_eq (n : Int) (i : Int) (b0 : (List Int)) (b02 : (List Bool)) (b03 : Int) (l1 : (List Bool)) : arena_Check.L2 n i b0 b02 b03 l1 =
  bif (i != (-1)) then
    arena_Check.L3 n i b0 b02 b03 l1
  else
    arena_Check.L4 b02 ((List.length b02 : Int)) 0 b0 b03 l1 := res_eq (by kernel_rfl)
theorem arena_Check.L3_eq (n : Int) (i : Int) (b0 : (List Int)) (b02 : (List Bool)) (b03 : Int) (l1 : (List Bool)) : arena_Check.L3 n i b0 b02 b03 l1 =
  bif (decide ((i : Int) < 0)) then
    some (8, ())
  else
    bif (decide ((i : Int) ≥ n)) then
      some (8, ())
    else
      bif (decide ((0 : Int) ≤ i ∧ (i : Int) < ((List.length l1 : Int)))) then
        bif (List.getD l1 (Int.toNat i) false) then
          some (8, ())
        else
          arena_Check.L7 n i b0 b02 b03 l1
      else none := res_eq (by kernel_rfl)
theorem arena_Check.L4_eq (t53_ : (List Bool)) (t54_ : Int) (t55_ : Int) (b0 : (List Int)) (b02 : Int) (l1 : (List Bool)) : arena_Check.L4 t53_ t54_ t55_ b0 b02 l1 =
  bif (decide ((t55_ : Int) < t54_)) then
    arena_Check.L5 t53_ t54_ t55_ b0 b02 l1
  else
    some (0, ()) := res_eq (by kernel_rfl)
theorem arena_Check.L5_eq (t53_ : (List Bool)) (t54_ : Int) (t55_ : Int) (b0 : (List Int)) (b02 : Int) (l1 : (List Bool)) : arena_Check.L5 t53_ t54_ t55_ b0 b02 l1 =
  bif (decide ((0 : Int) ≤ t55_ ∧ (t55_ : Int) < ((List.length t53_ : Int)))) then
    bif (decide ((0 : Int) ≤ t55_ ∧ (t55_ : Int) < ((List.length l1 : Int)))) then
      bif (!(List.getD l1 (Int.toNat t55_) false)) then
        some (8, ())
      else
        bif (List.getD t53_ (Int.toNat t55_) false) then
          bif (decide ((0 : Int) ≤ t55_ ∧ (t55_ : Int) < ((List.length b0 : Int)))) then
            bif ((List.getD b0 (Int.toNat t55_) 0) != (-1)) then
              some (8, ())
            else
              arena_Check.L6 t53_ t54_ t55_ b0 b02 l1
          else none
        else
          arena_Check.L6 t53_ t54_ t55_ b0 b02 l1
    else none
  else none := res_eq (by kernel_rfl)
theorem arena_Check.L6_eq (t53_ : (List Bool)) (t54_ : Int) (t55_ : Int) (b0 : (List Int)) (b02 : Int) (l1 : (List Bool)) : arena_Check.L6 t53_ t54_ t55_ b0 b02 l1 =
  arena_Check.L4 t53_ t54_ (IntKind.wrap .i64 (t55_ + 1)) b0 b02 l1 := res_eq (by kernel_rfl)
theorem arena_Check.L7_eq (n : Int) (i : Int) (b0 : (List Int)) (b02 : (List Bool)) (b03 : Int) (l1 : (List Bool)) : arena_Check.L7 n i b0 b02 b03 l1 =
  bif (decide ((0 : Int) ≤ i ∧ (i : Int) < ((List.length l1 : Int)))) then
    bif (decide ((0 : Int) ≤ i ∧ (i : Int) < ((List.length b0 : Int)))) then
      arena_Check.L2 n (List.getD b0 (Int.toNat i) 0) b0 b02 b03 (List.set l1 (Int.toNat i) true)
    else none
  else none := res_eq (by kernel_rfl)
theorem arena_Check.F_eq (a : t2.den) : arena_Check.F a =
  bif (decide ((((List.length a.1 : Int)) : Int) < 1)) then
    some (8, ())
  else
    bif (decide ((((List.length a.1 : Int)) : Int) > 16)) then
      some (8, ())
    else
      bif (((List.length a.2.1 : Int)) != ((List.length a.1 : Int))) then
        some (8, ())
      else
        arena_Check.L1 ((List.length a.1 : Int)) a.1 a.2.1 a.2.2.1 := by kernel_rfl
/-! ### spigot/lru.List (43) -/
noncomputable def lru_List.sg : Sig := ⟨[.val t4], [((.slice (.int .i64)), true), ((.int .i64), true)]⟩
noncomputable def lru_List.E : Env := ⟨tl, fun i => look i [(35, lru_Check.Fn)], [], eqs, globs, prims⟩
noncomputable def lru_List.c := cxOf lru_List.E lru_List.sg Try.f43
noncomputable def lru_List.b := body Try.f43
noncomputable def lru_List.Fn : Fun := fnOf lru_List.E lru_List.sg Try.f43
noncomputable def lru_List.F (o : t4.den) : Option ((List Int) × Int × Unit) := lru_List.Fn.F (o, ())
noncomputable def lru_List.S1 (b0 : (List Int)) (b02 : (List Int)) (b03 : Int) (b04 : Int) : St := ⟨[(1, (.ptr 0 []))], [(0, some (.box (.agg [(.v (.slice (.int .i64)) b0), (.v (.slice (.int .i64)) b02), (.v (.int .i64) b03), (.v (.int .i64) b04)])))], 1, []⟩
noncomputable def lru_List.L1 (b0 : (List Int)) (b02 : (List Int)) (b03 : Int) (b04 : Int) : Option ((List Int) × Int × Unit) := res lru_List.c (atJoin lru_List.b [1, 0, 1, 1]) (lru_List.S1 b0 b02 b03 b04)
noncomputable def lru_List.S2 (i : Int) (b0 : (List Int)) (b02 : (List Int)) (b03 : Int) (b04 : Int) (l1 : (List Int)) : St := ⟨[(1, (.ptr 0 [])), (5, (.sl 1)), (6, (.v (.int .i64) i))], [(0, some (.box (.agg [(.v (.slice (.int .i64)) b0), (.v (.slice (.int .i64)) b02), (.v (.int .i64) b03), (.v (.int .i64) b04)]))), (1, some (.row (.int .i64) l1 false))], 2, []⟩
noncomputable def lru_List.L2 (i : Int) (b0 : (List Int)) (b02 : (List Int)) (b03 : Int) (b04 : Int) (l1 : (List Int)) : Option ((List Int) × Int × Unit) := res lru_List.c (atLoop lru_List.b [1, 1, 1, 0, 1, 0]) (lru_List.S2 i b0 b02 b03 b04 l1)
noncomputable def lru_List.S3 (i : Int) (b0 : (List Int)) (b02 : (List Int)) (b03 : Int) (b04 : Int) (l1 : (List Int)) : St := ⟨[(1, (.ptr 0 [])), (5, (.sl 1)), (6, (.v (.int .i64) i))], [(0, some (.box (.agg [(.v (.slice (.int .i64)) b0), (.v (.slice (.int .i64)) b02), (.v (.int .i64) b03), (.v (.int .i64) b04)]))), (1, some (.row (.int .i64) l1 false))], 2, []⟩
noncomputable def lru_List.L3 (i : Int) (b0 : (List Int)) (b02 : (List Int)) (b03 : Int) (b04 : Int) (l1 : (List Int)) : Option ((List Int) × Int × Unit) := res lru_List.c (atJoin lru_List.b [1, 1, 1, 0, 1, 0, 0, 0, 1]) (lru_List.S3 i b0 b02 b03 b04 l1)
theorem lru_List.spec : FnSpec Try.prog globs 43 lru_List.Fn := spec_of (E := lru_List.E) (envOk_at tabOk eqOk primsOk (.cons lru_Check.spec <| .nil)) mixOk Try.func43 (by kernel_rfl)
theorem lru_List.L1_eq (b0 : (List Int)) (b02 : (List Int)) (b03 : Int) (b04 : Int) : lru_List.L1 b0 b02 b03 b04 =
  lru_List.L2 b03 b0 b02 b03 b04 ([] : List Int) := res_eq (by kernel_rfl)
theorem lru_List.L2_eq (i : Int) (b0 : (List Int)) (b02 : (List Int)) (b03 : Int) (b04 : Int) (l1 : (List Int)) : lru_List.L2 i b0 b02 b03 b04 l1 =
  bif (i != (-1)) then
    lru_List.L3 i b0 b02 b03 b04 l1
  else
    some (l1, 0, ()) := res_eq (by kernel_rfl)
theorem lru_List.L3_eq (i : Int) (b0 : (List Int)) (b02 : (List Int)) (b03 : Int) (b04 : Int) (l1 : (List Int)) : lru_List.L3 i b0 b02 b03 b04 l1 =
  bif (lim ((List.length l1) + (List.length ([i] : List Int))) (.int .i64)) then
    bif (decide ((0 : Int) ≤ i ∧ (i : Int) < ((List.length b02 : Int)))) then
      lru_List.L2 (List.getD b02 (Int.toNat i) 0) b0 b02 b03 b04 (l1 ++ ([i] : List Int))
    else none
  else none := res_eq (by kernel_rfl)
theorem lru_List.F_eq (o : t4.den) : lru_List.F o =
  (lru_Check.F o).bind fun r0 =>
  bif (r0.1 != 0) then
    some (([] : List Int), r0.1, ())
  else
    lru_List.L1 o.1 o.2.1 o.2.2.1 o.2.2.2.1 := by kernel_rfl
/-! ### slices.Index[[]int,int] (67) -/
noncomputable def slices_Index.sg : Sig := ⟨[.val (.slice (.int .i64)), .val (.int .i64)], [((.int .i64), true)]⟩
noncomputable def slices_Index.E : Env := ⟨tl, fun i => look i [], [], eqs, globs, prims⟩
noncomputable def slices_Index.c := cxOf slices_Index.E slices_Index.sg Try.f67
noncomputable def slices_Index.b := body Try.f67
noncomputable def slices_Index.Fn : Fun := fnOf slices_Index.E slices_Index.sg Try.f67
noncomputable def slices_Index.F (s : (List Int)) (v : Int) : Option (Int × Unit) := slices_Index.Fn.F (s, v, ())
noncomputable def slices_Index.S1 (s : (List Int)) (v : Int) (t7_ : Int) (t8_ : Int) : St := ⟨[(0, (.v (.slice (.int .i64)) s)), (1, (.v (.int .i64) v)), (7, (.v (.int .i64) t7_)), (8, (.v (.int .i64) t8_))], [], 0, []⟩
noncomputable def slices_Index.L1 (s : (List Int)) (v : Int) (t7_ : Int) (t8_ : Int) : Option (Int × Unit) := res slices_Index.c (atLoop slices_Index.b [1, 0, 1, 0]) (slices_Index.S1 s v t7_ t8_)
noncomputable def slices_Index.S2 (s : (List Int)) (v : Int) (t7_ : Int) (t8_ : Int) : St := ⟨[(0, (.v (.slice (.int .i64)) s)), (1, (.v (.int .i64) v)), (7, (.v (.int .i64) t7_)), (8, (.v (.int .i64) t8_))], [], 0, []⟩
noncomputable def slices_Index.L2 (s : (List Int)) (v : Int) (t7_ : Int) (t8_ : Int) : Option (Int × Unit) := res slices_Index.c (atJoin slices_Index.b [1, 0, 1, 0, 0, 1, 0]) (slices_Index.S2 s v t7_ t8_)
noncomputable def slices_Index.S3 (s : (List Int)) (v : Int) (t7_ : Int) (t8_ : Int) : St := ⟨[(0, (.v (.slice (.int .i64)) s)), (1, (.v (.int .i64) v)), (7, (.v (.int .i64) t7_)), (8, (.v (.int .i64) t8_))], [], 0, []⟩
noncomputable def slices_Index.L3 (s : (List Int)) (v : Int) (t7_ : Int) (t8_ : Int) : Option (Int × Unit) := res slices_Index.c (atJoin slices_Index.b [1, 0, 1, 0, 0, 1, 1, 0, 0, 1, 1]) (slices_Index.S3 s v t7_ t8_)
theorem slices_Index.spec : FnSpec Try.prog globs 67 slices_Index.Fn := spec_of (E := slices_Index.E) (envOk_at tabOk eqOk primsOk (.nil)) mixOk Try.func67 (by kernel_rfl)
theorem slices_Index.L1_eq (s : (List Int)) (v : Int) (t7_ : Int) (t8_ : Int) : slices_Index.L1 s v t7_ t8_ =
  bif (decide ((t8_ : Int) < t7_)) then
    slices_Index.L2 s v t7_ t8_
  else
    some ((-1), ()) := res_eq (by kernel_rfl)
theorem slices_Index.L2_eq (s : (List Int)) (v : Int) (t7_ : Int) (t8_ : Int) : slices_Index.L2 s v t7_ t8_ =
  bif (decide ((0 : Int) ≤ t8_ ∧ (t8_ : Int) < ((List.length s : Int)))) then
    bif (v == (List.getD s (Int.toNat t8_) 0)) then
      some (t8_, ())
    else
      slices_Index.L3 s v t7_ t8_
  else none := res_eq (by kernel_rfl)
theorem slices_Index.L3_eq (s : (List Int)) (v : Int) (t7_ : Int) (t8_ : Int) : slices_Index.L3 s v t7_ t8_ =
  slices_Index.L1 s v t7_ (IntKind.wrap .i64 (t8_ + 1)) := res_eq (by kernel_rfl)
theorem slices_Index.F_eq (s : (List Int)) (v : Int) : slices_Index.F s v =
  slices_Index.L1 s v ((List.length s : Int)) 0 := by kernel_rfl
/-! ### slices.Contains[[]int,int] (48) -/
noncomputable def slices_Contains.sg : Sig := ⟨[.val (.slice (.int .i64)), .val (.int .i64)], [(.bool, true)]⟩
noncomputable def slices_Contains.E : Env := ⟨tl, fun i => look i [(67, slices_Index.Fn)], [], eqs, globs, prims⟩
noncomputable def slices_Contains.c := cxOf slices_Contains.E slices_Contains.sg Try.f48
noncomputable def slices_Contains.b := body Try.f48
noncomputable def slices_Contains.Fn : Fun := fnOf slices_Contains.E slices_Contains.sg Try.f48
noncomputable def slices_Contains.F (s : (List Int)) (v : Int) : Option (Bool × Unit) := slices_Contains.Fn.F (s, v, ())
theorem slices_Contains.spec : FnSpec Try.prog globs 48 slices_Contains.Fn := spec_of (E := slices_Contains.E) (envOk_at tabOk eqOk primsOk (.cons slices_Index.spec <| .nil)) mixOk Try.func48 (by kernel_rfl)
theorem slices_Contains.F_eq (s : (List Int)) (v : Int) : slices_Contains.F s v =
  (slices_Index.F s v).bind fun r0 =>
  some ((decide ((r0.1 : Int) ≥ 0)), ()) := by kernel_rfl
/-! ### spigot/bucket.CheckLimit (55) -/
noncomputable def bucket_CheckLimit.sg : Sig := ⟨[.val t0], [((.int .i64), true)]⟩
noncomputable def bucket_CheckLimit.E : Env := ⟨tl, fun i => look i [], [], eqs, globs, prims⟩
noncomputable def bucket_CheckLimit.c := cxOf bucket_CheckLimit.E bucket_CheckLimit.sg Try.f55
noncomputable def bucket_CheckLimit.b := body Try.f55
noncomputable def bucket_CheckLimit.Fn : Fun := fnOf bucket_CheckLimit.E bucket_CheckLimit.sg Try.f55
noncomputable def bucket_CheckLimit.F (l : t0.den) : Option (Int × Unit) := bucket_CheckLimit.Fn.F (l, ())
noncomputable def bucket_CheckLimit.S1 : St := ⟨[], [], 0, []⟩
noncomputable def bucket_CheckLimit.L1 : Option (Int × Unit) := res bucket_CheckLimit.c (atJoin bucket_CheckLimit.b [1, 0, 1]) (bucket_CheckLimit.S1)
theorem bucket_CheckLimit.spec : FnSpec Try.prog globs 55 bucket_CheckLimit.Fn := spec_of (E := bucket_CheckLimit.E) (envOk_at tabOk eqOk primsOk (.nil)) mixOk Try.func55 (by kernel_rfl)
theorem bucket_CheckLimit.L1_eq : bucket_CheckLimit.L1 =
  some (0, ()) := res_eq (by kernel_rfl)
theorem bucket_CheckLimit.F_eq (l : t0.den) : bucket_CheckLimit.F l =
  bif (decide ((l.1 : Int) < 1)) then
    some (8, ())
  else
    bif (decide ((l.1 : Int) > 1000000000)) then
      some (8, ())
    else
      bif (decide ((l.2.1 : Int) < 0)) then
        some (8, ())
      else
        bif (decide ((l.2.1 : Int) > 1000000000)) then
          some (8, ())
        else
          bif (decide ((l.2.2.1 : Int) < 1)) then
            some (8, ())
          else
            bif (decide ((l.2.2.1 : Int) > 1000000000)) then
              some (8, ())
            else
              bucket_CheckLimit.L1 := by kernel_rfl
/-! ### spigot/bucket.Check (49) -/
noncomputable def bucket_Check.sg : Sig := ⟨[.val t1], [((.int .i64), true)]⟩
noncomputable def bucket_Check.E : Env := ⟨tl, fun i => look i [(55, bucket_CheckLimit.Fn)], [], eqs, globs, prims⟩
noncomputable def bucket_Check.c := cxOf bucket_Check.E bucket_Check.sg Try.f49
noncomputable def bucket_Check.b := body Try.f49
noncomputable def bucket_Check.Fn : Fun := fnOf bucket_Check.E bucket_Check.sg Try.f49
noncomputable def bucket_Check.F (b : t1.den) : Option (Int × Unit) := bucket_Check.Fn.F (b, ())
noncomputable def bucket_Check.S1 (b0 : Int) (b02 : Int) (b03 : Int) (b04 : Int) (b05 : Int) (b06 : Int) : St := ⟨[(1, (.ptr 0 []))], [(0, some (.box (.agg [(.agg [(.v (.int .i64) b0), (.v (.int .i64) b02), (.v (.int .i64) b03)]), (.v (.int .i64) b04), (.v (.int .i64) b05), (.v (.int .u64) b06)])))], 1, []⟩
noncomputable def bucket_Check.L1 (b0 : Int) (b02 : Int) (b03 : Int) (b04 : Int) (b05 : Int) (b06 : Int) : Option (Int × Unit) := res bucket_Check.c (atJoin bucket_Check.b [1, 0, 1, 1]) (bucket_Check.S1 b0 b02 b03 b04 b05 b06)
noncomputable def bucket_Check.S2 : St := ⟨[], [], 0, []⟩
noncomputable def bucket_Check.L2 : Option (Int × Unit) := res bucket_Check.c (atJoin bucket_Check.b [1, 1, 1, 0, 1]) (bucket_Check.S2)
theorem bucket_Check.spec : FnSpec Try.prog globs 49 bucket_Check.Fn := spec_of (E := bucket_Check.E) (envOk_at tabOk eqOk primsOk (.cons bucket_CheckLimit.spec <| .nil)) mixOk Try.func49 (by kernel_rfl)
theorem bucket_Check.L1_eq (b0 : Int) (b02 : Int) (b03 : Int) (b04 : Int) (b05 : Int) (b06 : Int) : bucket_Check.L1 b0 b02 b03 b04 b05 b06 =
  bif (decide ((b04 : Int) < 0)) then
    some (8, ())
  else
    bif (decide (((IntKind.wrap .i64 (b0 - b04)) : Int) < 0)) then
      some (8, ())
    else
      bif (decide ((b05 : Int) < 0)) then
        some (8, ())
      else
        bif (decide ((b05 : Int) ≥ b03)) then
          some (8, ())
        else
          bif ((IntKind.wrap .i64 (b0 - b04)) == 0) then
            bif (decide ((b05 : Int) > 0)) then
              some (8, ())
            else
              bucket_Check.L2
          else
            bucket_Check.L2 := res_eq (by kernel_rfl)
theorem bucket_Check.L2_eq : bucket_Check.L2 =
  some (0, ()) := res_eq (by kernel_rfl)
theorem bucket_Check.F_eq (b : t1.den) : bucket_Check.F b =
  (bucket_CheckLimit.F b.1).bind fun r0 =>
  bif (r0.1 != 0) then
    some (r0.1, ())
  else
    bucket_Check.L1 b.1.1 b.1.2.1 b.1.2.2.1 b.2.1 b.2.2.1 b.2.2.2.1 := by kernel_rfl
/-! ### spigot/table.Check (24) -/
noncomputable def table_Check.sg : Sig := ⟨[.val t5], [((.int .i64), true)]⟩
noncomputable def table_Check.E : Env := ⟨tl, fun i => look i [(9, probe_Find.Fn), (22, probe_Check.Fn), (34, arena_Check.Fn), (43, lru_List.Fn), (48, slices_Contains.Fn), (49, bucket_Check.Fn)], [], eqs, globs, prims⟩
noncomputable def table_Check.c := cxOf table_Check.E table_Check.sg Try.f24
noncomputable def table_Check.b := body Try.f24
noncomputable def table_Check.Fn : Fun := fnOf table_Check.E table_Check.sg Try.f24
noncomputable def table_Check.F (t : t5.den) : Option (Int × Unit) := table_Check.Fn.F (t, ())
noncomputable def table_Check.S1 (b0 : Int) (b02 : (List Int)) (b03 : (List t1.den)) (b04 : (List Int)) (b05 : (List Bool)) (b06 : Int) (b07 : (List t3.den)) (b08 : (List Int)) (b09 : (List Int)) (b010 : Int) (b011 : Int) : St := ⟨[(1, (.ptr 0 []))], [(0, some (.box (.agg [(.v (.int .i64) b0), (.v (.slice (.int .u32)) b02), (.v (.slice t1) b03), (.agg [(.v (.slice (.int .i64)) b04), (.v (.slice .bool) b05), (.v (.int .i64) b06)]), (.v (.slice t3) b07), (.agg [(.v (.slice (.int .i64)) b08), (.v (.slice (.int .i64)) b09), (.v (.int .i64) b010), (.v (.int .i64) b011)])])))], 1, []⟩
noncomputable def table_Check.L1 (b0 : Int) (b02 : (List Int)) (b03 : (List t1.den)) (b04 : (List Int)) (b05 : (List Bool)) (b06 : Int) (b07 : (List t3.den)) (b08 : (List Int)) (b09 : (List Int)) (b010 : Int) (b011 : Int) : Option (Int × Unit) := res table_Check.c (atJoin table_Check.b [1, 1, 1, 0, 1]) (table_Check.S1 b0 b02 b03 b04 b05 b06 b07 b08 b09 b010 b011)
noncomputable def table_Check.S2 (b0 : Int) (b02 : (List Int)) (b03 : (List t1.den)) (b04 : (List Int)) (b05 : (List Bool)) (b06 : Int) (b07 : (List t3.den)) (b08 : (List Int)) (b09 : (List Int)) (b010 : Int) (b011 : Int) (l1 : (List Int)) : St := ⟨[(1, (.ptr 0 [])), (5, (.sl 1))], [(0, some (.box (.agg [(.v (.int .i64) b0), (.v (.slice (.int .u32)) b02), (.v (.slice t1) b03), (.agg [(.v (.slice (.int .i64)) b04), (.v (.slice .bool) b05), (.v (.int .i64) b06)]), (.v (.slice t3) b07), (.agg [(.v (.slice (.int .i64)) b08), (.v (.slice (.int .i64)) b09), (.v (.int .i64) b010), (.v (.int .i64) b011)])]))), (1, some (.row (.int .i64) l1 false))], 2, []⟩
noncomputable def table_Check.L2 (b0 : Int) (b02 : (List Int)) (b03 : (List t1.den)) (b04 : (List Int)) (b05 : (List Bool)) (b06 : Int) (b07 : (List t3.den)) (b08 : (List Int)) (b09 : (List Int)) (b010 : Int) (b011 : Int) (l1 : (List Int)) : Option (Int × Unit) := res table_Check.c (atJoin table_Check.b [1, 1, 1, 1, 1, 0, 1]) (table_Check.S2 b0 b02 b03 b04 b05 b06 b07 b08 b09 b010 b011 l1)
noncomputable def table_Check.S3 (used : Int) (t68_ : (List Bool)) (t69_ : Int) (t70_ : Int) (b0 : Int) (b02 : (List Int)) (b03 : (List t1.den)) (b04 : (List Int)) (b05 : Int) (b06 : (List t3.den)) (b07 : (List Int)) (b08 : (List Int)) (b09 : Int) (b010 : Int) (l1 : (List Int)) : St := ⟨[(1, (.ptr 0 [])), (5, (.sl 1)), (7, (.v (.int .i64) used)), (68, (.v (.slice .bool) t68_)), (69, (.v (.int .i64) t69_)), (70, (.v (.int .i64) t70_))], [(0, some (.box (.agg [(.v (.int .i64) b0), (.v (.slice (.int .u32)) b02), (.v (.slice t1) b03), (.agg [(.v (.slice (.int .i64)) b04), (.v (.slice .bool) t68_), (.v (.int .i64) b05)]), (.v (.slice t3) b06), (.agg [(.v (.slice (.int .i64)) b07), (.v (.slice (.int .i64)) b08), (.v (.int .i64) b09), (.v (.int .i64) b010)])]))), (1, some (.row (.int .i64) l1 false))], 2, []⟩
noncomputable def table_Check.L3 (used : Int) (t68_ : (List Bool)) (t69_ : Int) (t70_ : Int) (b0 : Int) (b02 : (List Int)) (b03 : (List t1.den)) (b04 : (List Int)) (b05 : Int) (b06 : (List t3.den)) (b07 : (List Int)) (b08 : (List Int)) (b09 : Int) (b010 : Int) (l1 : (List Int)) : Option (Int × Unit) := res table_Check.c (atLoop table_Check.b [1, 1, 1, 1, 1, 1, 1, 0, 1, 0]) (table_Check.S3 used t68_ t69_ t70_ b0 b02 b03 b04 b05 b06 b07 b08 b09 b010 l1)
noncomputable def table_Check.S4 (used : Int) (t68_ : (List Bool)) (t69_ : Int) (t70_ : Int) (b0 : Int) (b02 : (List Int)) (b03 : (List t1.den)) (b04 : (List Int)) (b05 : Int) (b06 : (List t3.den)) (b07 : (List Int)) (b08 : (List Int)) (b09 : Int) (b010 : Int) (l1 : (List Int)) : St := ⟨[(1, (.ptr 0 [])), (5, (.sl 1)), (7, (.v (.int .i64) used)), (68, (.v (.slice .bool) t68_)), (69, (.v (.int .i64) t69_)), (70, (.v (.int .i64) t70_))], [(0, some (.box (.agg [(.v (.int .i64) b0), (.v (.slice (.int .u32)) b02), (.v (.slice t1) b03), (.agg [(.v (.slice (.int .i64)) b04), (.v (.slice .bool) t68_), (.v (.int .i64) b05)]), (.v (.slice t3) b06), (.agg [(.v (.slice (.int .i64)) b07), (.v (.slice (.int .i64)) b08), (.v (.int .i64) b09), (.v (.int .i64) b010)])]))), (1, some (.row (.int .i64) l1 false))], 2, []⟩
noncomputable def table_Check.L4 (used : Int) (t68_ : (List Bool)) (t69_ : Int) (t70_ : Int) (b0 : Int) (b02 : (List Int)) (b03 : (List t1.den)) (b04 : (List Int)) (b05 : Int) (b06 : (List t3.den)) (b07 : (List Int)) (b08 : (List Int)) (b09 : Int) (b010 : Int) (l1 : (List Int)) : Option (Int × Unit) := res table_Check.c (atJoin table_Check.b [1, 1, 1, 1, 1, 1, 1, 0, 1, 0, 0, 1, 0]) (table_Check.S4 used t68_ t69_ t70_ b0 b02 b03 b04 b05 b06 b07 b08 b09 b010 l1)
noncomputable def table_Check.S5 (used : Int) (t134_ : (List t3.den)) (t135_ : Int) (t136_ : Int) : St := ⟨[(7, (.v (.int .i64) used)), (134, (.v (.slice t3) t134_)), (135, (.v (.int .i64) t135_)), (136, (.v (.int .i64) t136_))], [], 0, []⟩
noncomputable def table_Check.L5 (used : Int) (t134_ : (List t3.den)) (t135_ : Int) (t136_ : Int) : Option (Int × Unit) := res table_Check.c (atLoop table_Check.b [1, 1, 1, 1, 1, 1, 1, 1, 0, 1, 0]) (table_Check.S5 used t134_ t135_ t136_)
noncomputable def table_Check.S6 (used : Int) (t134_ : (List t3.den)) (t135_ : Int) (t136_ : Int) : St := ⟨[(7, (.v (.int .i64) used)), (134, (.v (.slice t3) t134_)), (135, (.v (.int .i64) t135_)), (136, (.v (.int .i64) t136_))], [], 0, []⟩
noncomputable def table_Check.L6 (used : Int) (t134_ : (List t3.den)) (t135_ : Int) (t136_ : Int) : Option (Int × Unit) := res table_Check.c (atJoin table_Check.b [1, 1, 1, 1, 1, 1, 1, 1, 0, 1, 0, 0, 1, 0]) (table_Check.S6 used t134_ t135_ t136_)
noncomputable def table_Check.S7 : St := ⟨[], [], 0, []⟩
noncomputable def table_Check.L7 : Option (Int × Unit) := res table_Check.c (atJoin table_Check.b [1, 1, 1, 1, 1, 1, 1, 1, 1, 0, 1]) (table_Check.S7)
noncomputable def table_Check.S8 (used : Int) (t134_ : (List t3.den)) (t135_ : Int) (t136_ : Int) : St := ⟨[(7, (.v (.int .i64) used)), (134, (.v (.slice t3) t134_)), (135, (.v (.int .i64) t135_)), (136, (.v (.int .i64) t136_))], [], 0, []⟩
noncomputable def table_Check.L8 (used : Int) (t134_ : (List t3.den)) (t135_ : Int) (t136_ : Int) : Option (Int × Unit) := res table_Check.c (atJoin table_Check.b [1, 1, 1, 1, 1, 1, 1, 1, 0, 1, 0, 0, 1, 1, 0, 0, 1, 1]) (table_Check.S8 used t134_ t135_ t136_)
noncomputable def table_Check.S9 (used : Int) (i : Int) (is_ : Bool) (t68_ : (List Bool)) (t69_ : Int) (b0 : Int) (b02 : (List Int)) (b03 : (List t1.den)) (b04 : (List Int)) (b05 : Int) (b06 : (List t3.den)) (b07 : (List Int)) (b08 : (List Int)) (b09 : Int) (b010 : Int) (l1 : (List Int)) : St := ⟨[(1, (.ptr 0 [])), (5, (.sl 1)), (7, (.v (.int .i64) used)), (8, (.v (.int .i64) i)), (9, (.v .bool is_)), (68, (.v (.slice .bool) t68_)), (69, (.v (.int .i64) t69_)), (70, (.v (.int .i64) i))], [(0, some (.box (.agg [(.v (.int .i64) b0), (.v (.slice (.int .u32)) b02), (.v (.slice t1) b03), (.agg [(.v (.slice (.int .i64)) b04), (.v (.slice .bool) t68_), (.v (.int .i64) b05)]), (.v (.slice t3) b06), (.agg [(.v (.slice (.int .i64)) b07), (.v (.slice (.int .i64)) b08), (.v (.int .i64) b09), (.v (.int .i64) b010)])]))), (1, some (.row (.int .i64) l1 false))], 2, []⟩
noncomputable def table_Check.L9 (used : Int) (i : Int) (is_ : Bool) (t68_ : (List Bool)) (t69_ : Int) (b0 : Int) (b02 : (List Int)) (b03 : (List t1.den)) (b04 : (List Int)) (b05 : Int) (b06 : (List t3.den)) (b07 : (List Int)) (b08 : (List Int)) (b09 : Int) (b010 : Int) (l1 : (List Int)) : Option (Int × Unit) := res table_Check.c (atJoin table_Check.b [1, 1, 1, 1, 1, 1, 1, 0, 1, 0, 0, 1, 1, 0, 0, 1, 0, 1]) (table_Check.S9 used i is_ t68_ t69_ b0 b02 b03 b04 b05 b06 b07 b08 b09 b010 l1)
noncomputable def table_Check.S10 (used : Int) (i : Int) (t68_ : (List Bool)) (t69_ : Int) (b0 : Int) (b02 : (List Int)) (b03 : (List t1.den)) (b04 : (List Int)) (b05 : Int) (b06 : (List t3.den)) (b07 : (List Int)) (b08 : (List Int)) (b09 : Int) (b010 : Int) (l1 : (List Int)) : St := ⟨[(1, (.ptr 0 [])), (5, (.sl 1)), (7, (.v (.int .i64) used)), (8, (.v (.int .i64) i)), (68, (.v (.slice .bool) t68_)), (69, (.v (.int .i64) t69_)), (70, (.v (.int .i64) i))], [(0, some (.box (.agg [(.v (.int .i64) b0), (.v (.slice (.int .u32)) b02), (.v (.slice t1) b03), (.agg [(.v (.slice (.int .i64)) b04), (.v (.slice .bool) t68_), (.v (.int .i64) b05)]), (.v (.slice t3) b06), (.agg [(.v (.slice (.int .i64)) b07), (.v (.slice (.int .i64)) b08), (.v (.int .i64) b09), (.v (.int .i64) b010)])]))), (1, some (.row (.int .i64) l1 false))], 2, []⟩
noncomputable def table_Check.L10 (used : Int) (i : Int) (t68_ : (List Bool)) (t69_ : Int) (b0 : Int) (b02 : (List Int)) (b03 : (List t1.den)) (b04 : (List Int)) (b05 : Int) (b06 : (List t3.den)) (b07 : (List Int)) (b08 : (List Int)) (b09 : Int) (b010 : Int) (l1 : (List Int)) : Option (Int × Unit) := res table_Check.c (atJoin table_Check.b [1, 1, 1, 1, 1, 1, 1, 0, 1, 0, 0, 1, 1, 0, 0, 1, 1, 0, 1]) (table_Check.S10 used i t68_ t69_ b0 b02 b03 b04 b05 b06 b07 b08 b09 b010 l1)
noncomputable def table_Check.S11 (used : Int) (t68_ : (List Bool)) (t69_ : Int) (t70_ : Int) (b0 : Int) (b02 : (List Int)) (b03 : (List t1.den)) (b04 : (List Int)) (b05 : Int) (b06 : (List t3.den)) (b07 : (List Int)) (b08 : (List Int)) (b09 : Int) (b010 : Int) (l1 : (List Int)) : St := ⟨[(1, (.ptr 0 [])), (5, (.sl 1)), (7, (.v (.int .i64) used)), (68, (.v (.slice .bool) t68_)), (69, (.v (.int .i64) t69_)), (70, (.v (.int .i64) t70_))], [(0, some (.box (.agg [(.v (.int .i64) b0), (.v (.slice (.int .u32)) b02), (.v (.slice t1) b03), (.agg [(.v (.slice (.int .i64)) b04), (.v (.slice .bool) t68_), (.v (.int .i64) b05)]), (.v (.slice t3) b06), (.agg [(.v (.slice (.int .i64)) b07), (.v (.slice (.int .i64)) b08), (.v (.int .i64) b09), (.v (.int .i64) b010)])]))), (1, some (.row (.int .i64) l1 false))], 2, []⟩
noncomputable def table_Check.L11 (used : Int) (t68_ : (List Bool)) (t69_ : Int) (t70_ : Int) (b0 : Int) (b02 : (List Int)) (b03 : (List t1.den)) (b04 : (List Int)) (b05 : Int) (b06 : (List t3.den)) (b07 : (List Int)) (b08 : (List Int)) (b09 : Int) (b010 : Int) (l1 : (List Int)) : Option (Int × Unit) := res table_Check.c (atJoin table_Check.b [1, 1, 1, 1, 1, 1, 1, 0, 1, 0, 0, 1, 1, 0, 0, 1, 1, 1, 1, 1, 1]) (table_Check.S11 used t68_ t69_ t70_ b0 b02 b03 b04 b05 b06 b07 b08 b09 b010 l1)
theorem table_Check.spec : FnSpec Try.prog globs 24 table_Check.Fn := spec_of (E := table_Check.E) (envOk_at tabOk eqOk primsOk (.cons probe_Find.spec <| .cons probe_Check.spec <| .cons arena_Check.spec <| .cons lru_List.spec <| .cons slices_Contains.spec <| .cons bucket_Check.spec <| .nil)) mixOk Try.func24 (by kernel_rfl)
theorem table_Check.L1_eq (b0 : Int) (b02 : (List Int)) (b03 : (List t1.den)) (b04 : (List Int)) (b05 : (List Bool)) (b06 : Int) (b07 : (List t3.den)) (b08 : (List Int)) (b09 : (List Int)) (b010 : Int) (b011 : Int) : table_Check.L1 b0 b02 b03 b04 b05 b06 b07 b08 b09 b010 b011 =
  (lru_List.F (b08, b09, b010, b011, ())).bind fun r0 =>
  bif (r0.2.1 != 0) then
    some (8, ())
  else
    table_Check.L2 b0 b02 b03 b04 b05 b06 b07 b08 b09 b010 b011 r0.1 := res_eq (by kernel_rfl)
theorem table_Check.L2_eq (b0 : Int) (b02 : (List Int)) (b03 : (List t1.den)) (b04 : (List Int)) (b05 : (List Bool)) (b06 : Int) (b07 : (List t3.den)) (b08 : (List Int)) (b09 : (List Int)) (b010 : Int) (b011 : Int) (l1 : (List Int)) : table_Check.L2 b0 b02 b03 b04 b05 b06 b07 b08 b09 b010 b011 l1 =
  table_Check.L3 0 b05 ((List.length b05 : Int)) 0 b0 b02 b03 b04 b06 b07 b08 b09 b010 b011 l1 := res_eq (by kernel_rfl)
theorem table_Check.L3_eq (used : Int) (t68_ : (List Bool)) (t69_ : Int) (t70_ : Int) (b0 : Int) (b02 : (List Int)) (b03 : (List t1.den)) (b04 : (List Int)) (b05 : Int) (b06 : (List t3.den)) (b07 : (List Int)) (b08 : (List Int)) (b09 : Int) (b010 : Int) (l1 : (List Int)) : table_Check.L3 used t68_ t69_ t70_ b0 b02 b03 b04 b05 b06 b07 b08 b09 b010 l1 =
  bif (decide ((t70_ : Int) < t69_)) then
    table_Check.L4 used t68_ t69_ t70_ b0 b02 b03 b04 b05 b06 b07 b08 b09 b010 l1
  else
    table_Check.L5 used b06 ((List.length b06 : Int)) 0 := res_eq (by kernel_rfl)
theorem table_Check.L4_eq (used : Int) (t68_ : (List Bool)) (t69_ : Int) (t70_ : Int) (b0 : Int) (b02 : (List Int)) (b03 : (List t1.den)) (b04 : (List Int)) (b05 : Int) (b06 : (List t3.den)) (b07 : (List Int)) (b08 : (List Int)) (b09 : Int) (b010 : Int) (l1 : (List Int)) : table_Check.L4 used t68_ t69_ t70_ b0 b02 b03 b04 b05 b06 b07 b08 b09 b010 l1 =
  bif (decide ((0 : Int) ≤ t70_ ∧ (t70_ : Int) < ((List.length t68_ : Int)))) then
    (slices_Contains.F l1 t70_).bind fun r0 =>
    bif (!((List.getD t68_ (Int.toNat t70_) false) == r0.1)) then
      some (8, ())
    else
      bif (!(List.getD t68_ (Int.toNat t70_) false)) then
        bif (decide ((0 : Int) ≤ t70_ ∧ (t70_ : Int) < ((List.length b02 : Int)))) then
          bif ((List.getD b02 (Int.toNat t70_) 0) != 0) then
            some (8, ())
          else
            bif (decide ((0 : Int) ≤ t70_ ∧ (t70_ : Int) < ((List.length b03 : Int)))) then
              bif (!(Ty.beq t1 (List.getD b03 (Int.toNat t70_) ((0, 0, 0, ()), 0, 0, 0, ())) ((0, 0, 0, ()), 0, 0, 0, ()))) then
                some (8, ())
              else
                table_Check.L9 used t70_ (List.getD t68_ (Int.toNat t70_) false) t68_ t69_ b0 b02 b03 b04 b05 b06 b07 b08 b09 b010 l1
            else none
        else none
      else
        table_Check.L9 used t70_ (List.getD t68_ (Int.toNat t70_) false) t68_ t69_ b0 b02 b03 b04 b05 b06 b07 b08 b09 b010 l1
  else none := res_eq (by kernel_rfl)
theorem table_Check.L5_eq (used : Int) (t134_ : (List t3.den)) (t135_ : Int) (t136_ : Int) : table_Check.L5 used t134_ t135_ t136_ =
  bif (decide ((t136_ : Int) < t135_)) then
    table_Check.L6 used t134_ t135_ t136_
  else
    bif (used != 0) then
      some (8, ())
    else
      table_Check.L7 := res_eq (by kernel_rfl)
theorem table_Check.L6_eq (used : Int) (t134_ : (List t3.den)) (t135_ : Int) (t136_ : Int) : table_Check.L6 used t134_ t135_ t136_ =
  bif (decide ((0 : Int) ≤ t136_ ∧ (t136_ : Int) < ((List.length t134_ : Int)))) then
    bif (((List.getD t134_ (Int.toNat t136_) (0, 0, false, ())).2).2).1 then
      table_Check.L8 (IntKind.wrap .i64 (used - 1)) t134_ t135_ t136_
    else
      table_Check.L8 used t134_ t135_ t136_
  else none := res_eq (by kernel_rfl)
theorem table_Check.L7_eq : table_Check.L7 =
  some (0, ()) := res_eq (by kernel_rfl)
theorem table_Check.L8_eq (used : Int) (t134_ : (List t3.den)) (t135_ : Int) (t136_ : Int) : table_Check.L8 used t134_ t135_ t136_ =
  table_Check.L5 used t134_ t135_ (IntKind.wrap .i64 (t136_ + 1)) := res_eq (by kernel_rfl)
theorem table_Check.L9_eq (used : Int) (i : Int) (is_ : Bool) (t68_ : (List Bool)) (t69_ : Int) (b0 : Int) (b02 : (List Int)) (b03 : (List t1.den)) (b04 : (List Int)) (b05 : Int) (b06 : (List t3.den)) (b07 : (List Int)) (b08 : (List Int)) (b09 : Int) (b010 : Int) (l1 : (List Int)) : table_Check.L9 used i is_ t68_ t69_ b0 b02 b03 b04 b05 b06 b07 b08 b09 b010 l1 =
  bif (!is_) then
    table_Check.L3 used t68_ t69_ (IntKind.wrap .i64 (i + 1)) b0 b02 b03 b04 b05 b06 b07 b08 b09 b010 l1
  else
    table_Check.L10 used i t68_ t69_ b0 b02 b03 b04 b05 b06 b07 b08 b09 b010 l1 := res_eq (by kernel_rfl)
theorem table_Check.L10_eq (used : Int) (i : Int) (t68_ : (List Bool)) (t69_ : Int) (b0 : Int) (b02 : (List Int)) (b03 : (List t1.den)) (b04 : (List Int)) (b05 : Int) (b06 : (List t3.den)) (b07 : (List Int)) (b08 : (List Int)) (b09 : Int) (b010 : Int) (l1 : (List Int)) : table_Check.L10 used i t68_ t69_ b0 b02 b03 b04 b05 b06 b07 b08 b09 b010 l1 =
  bif (decide ((0 : Int) ≤ i ∧ (i : Int) < ((List.length b02 : Int)))) then
    (probe_Find.F b06 (List.getD b02 (Int.toNat i) 0)).bind fun r0 =>
    bif (r0.2.1 != 0) then
      some (8, ())
    else
      bif (r0.1 != i) then
        some (8, ())
      else
        bif (decide ((0 : Int) ≤ i ∧ (i : Int) < ((List.length b03 : Int)))) then
          (bucket_Check.F (List.getD b03 (Int.toNat i) ((0, 0, 0, ()), 0, 0, 0, ()))).bind fun r1 =>
          bif (r1.1 != 0) then
            some (8, ())
          else
            table_Check.L11 (IntKind.wrap .i64 (used + 1)) t68_ t69_ i b0 b02 b03 b04 b05 b06 b07 b08 b09 b010 l1
        else none
  else none := res_eq (by kernel_rfl)
theorem table_Check.L11_eq (used : Int) (t68_ : (List Bool)) (t69_ : Int) (t70_ : Int) (b0 : Int) (b02 : (List Int)) (b03 : (List t1.den)) (b04 : (List Int)) (b05 : Int) (b06 : (List t3.den)) (b07 : (List Int)) (b08 : (List Int)) (b09 : Int) (b010 : Int) (l1 : (List Int)) : table_Check.L11 used t68_ t69_ t70_ b0 b02 b03 b04 b05 b06 b07 b08 b09 b010 l1 =
  table_Check.L3 used t68_ t69_ (IntKind.wrap .i64 (t70_ + 1)) b0 b02 b03 b04 b05 b06 b07 b08 b09 b010 l1 := res_eq (by kernel_rfl)
theorem table_Check.F_eq (t : t5.den) : table_Check.F t =
  bif (decide ((t.1 : Int) < 1)) then
    some (8, ())
  else
    bif (decide ((t.1 : Int) > 8)) then
      some (8, ())
    else
      bif (!(Ty.beq (.arr 4 (.int .i64)) ([((List.length t.2.1 : Int)), ((List.length t.2.2.1 : Int)), ((List.length t.2.2.2.1.1 : Int)), ((List.length t.2.2.2.2.2.1.1 : Int))] : List Int) ([t.1, t.1, t.1, t.1] : List Int))) then
        some (8, ())
      else
        (arena_Check.F t.2.2.2.1).bind fun r0 =>
        bif (r0.1 != 0) then
          some (8, ())
        else
          (probe_Check.F t.2.2.2.2.1).bind fun r1 =>
          bif (r1.1 != 0) then
            some (8, ())
          else
            table_Check.L1 t.1 t.2.1 t.2.2.1 t.2.2.2.1.1 t.2.2.2.1.2.1 t.2.2.2.1.2.2.1 t.2.2.2.2.1 t.2.2.2.2.2.1.1 t.2.2.2.2.2.1.2.1 t.2.2.2.2.2.1.2.2.1 t.2.2.2.2.2.1.2.2.2.1 := by kernel_rfl
/-! ### spigot/table.place (25) -/
noncomputable def table_place.sg : Sig := ⟨[.val t5, .val (.int .u32)], [((.int .i64), true)]⟩
noncomputable def table_place.E : Env := ⟨tl, fun i => look i [(9, probe_Find.Fn)], [], eqs, globs, prims⟩
noncomputable def table_place.c := cxOf table_place.E table_place.sg Try.f25
noncomputable def table_place.b := body Try.f25
noncomputable def table_place.Fn : Fun := fnOf table_place.E table_place.sg Try.f25
noncomputable def table_place.F (t : t5.den) (key : Int) : Option (Int × Unit) := table_place.Fn.F (t, key, ())
noncomputable def table_place.S1 (i : Int) : St := ⟨[(5, (.v (.int .i64) i))], [], 0, []⟩
noncomputable def table_place.L1 (i : Int) : Option (Int × Unit) := res table_place.c (atJoin table_place.b [1, 1, 0, 1]) (table_place.S1 i)
theorem table_place.spec : FnSpec Try.prog globs 25 table_place.Fn := spec_of (E := table_place.E) (envOk_at tabOk eqOk primsOk (.cons probe_Find.spec <| .nil)) mixOk Try.func25 (by kernel_rfl)
theorem table_place.L1_eq (i : Int) : table_place.L1 i =
  some (i, ()) := res_eq (by kernel_rfl)
theorem table_place.F_eq (t : t5.den) (key : Int) : table_place.F t key =
  (probe_Find.F t.2.2.2.2.1 key).bind fun r0 =>
  bif (r0.2.1 != 0) then
    some ((-1), ())
  else
    table_place.L1 r0.1 := by kernel_rfl
/-! ### spigot/table.twin (26) -/
noncomputable def table_twin.sg : Sig := ⟨[.val t5], [(t5, true)]⟩
noncomputable def table_twin.E : Env := ⟨tl, fun i => look i [], [], eqs, globs, prims⟩
noncomputable def table_twin.c := cxOf table_twin.E table_twin.sg Try.f26
noncomputable def table_twin.b := body Try.f26
noncomputable def table_twin.Fn : Fun := fnOf table_twin.E table_twin.sg Try.f26
noncomputable def table_twin.F (t : t5.den) : Option (t5.den × Unit) := table_twin.Fn.F (t, ())
theorem table_twin.spec : FnSpec Try.prog globs 26 table_twin.Fn := spec_of (E := table_twin.E) (envOk_at tabOk eqOk primsOk (.nil)) mixOk Try.func26 (by kernel_rfl)
theorem table_twin.F_eq (t : t5.den) : table_twin.F t =
  bif (lim (List.length t.2.1) (.int .u32)) then
    bif (lim (List.length t.2.2.1) t1) then
      bif (lim (List.length t.2.2.2.1.1) (.int .i64)) then
        bif (lim (List.length t.2.2.2.1.2.1) .bool) then
          bif (lim (List.length t.2.2.2.2.1) t3) then
            bif (lim (List.length t.2.2.2.2.2.1.1) (.int .i64)) then
              bif (lim (List.length t.2.2.2.2.2.1.2.1) (.int .i64)) then
                some (t, ())
              else none
            else none
          else none
        else none
      else none
    else none
  else none := by kernel_rfl
/-! ### spigot/arena.twin (54) -/
noncomputable def arena_twin.sg : Sig := ⟨[.val t2], [(t2, true)]⟩
noncomputable def arena_twin.E : Env := ⟨tl, fun i => look i [], [], eqs, globs, prims⟩
noncomputable def arena_twin.c := cxOf arena_twin.E arena_twin.sg Try.f54
noncomputable def arena_twin.b := body Try.f54
noncomputable def arena_twin.Fn : Fun := fnOf arena_twin.E arena_twin.sg Try.f54
noncomputable def arena_twin.F (a : t2.den) : Option (t2.den × Unit) := arena_twin.Fn.F (a, ())
theorem arena_twin.spec : FnSpec Try.prog globs 54 arena_twin.Fn := spec_of (E := arena_twin.E) (envOk_at tabOk eqOk primsOk (.nil)) mixOk Try.func54 (by kernel_rfl)
theorem arena_twin.F_eq (a : t2.den) : arena_twin.F a =
  bif (lim (List.length a.1) (.int .i64)) then
    bif (lim (List.length a.2.1) .bool) then
      some (a, ())
    else none
  else none := by kernel_rfl
/-! ### spigot/arena.Give (28) -/
noncomputable def arena_Give.sg : Sig := ⟨[.val t2, .val (.int .i64)], [(t2, true), ((.int .i64), true)]⟩
noncomputable def arena_Give.E : Env := ⟨tl, fun i => look i [(34, arena_Check.Fn), (54, arena_twin.Fn)], [], eqs, globs, prims⟩
noncomputable def arena_Give.c := cxOf arena_Give.E arena_Give.sg Try.f28
noncomputable def arena_Give.b := body Try.f28
noncomputable def arena_Give.Fn : Fun := fnOf arena_Give.E arena_Give.sg Try.f28
noncomputable def arena_Give.F (a : t2.den) (place : Int) : Option (t2.den × Int × Unit) := arena_Give.Fn.F (a, place, ())
noncomputable def arena_Give.S1 (place : Int) (b0 : (List Int)) (b02 : (List Bool)) (b03 : Int) (l2 : (List Int)) (l3 : (List Bool)) : St := ⟨[(1, (.v (.int .i64) place)), (2, (.ptr 0 [])), (4, (.ptr 1 []))], [(0, some (.box (.agg [(.v (.slice (.int .i64)) b0), (.v (.slice .bool) b02), (.v (.int .i64) b03)]))), (1, some (.box (.agg [(.sl 2), (.sl 3), (.v (.int .i64) 0)]))), (2, some (.row (.int .i64) l2 false)), (3, some (.row .bool l3 false))], 4, []⟩
noncomputable def arena_Give.L1 (place : Int) (b0 : (List Int)) (b02 : (List Bool)) (b03 : Int) (l2 : (List Int)) (l3 : (List Bool)) : Option (t2.den × Int × Unit) := res arena_Give.c (atJoin arena_Give.b [1, 0, 1, 0, 1, 1, 1, 1, 1]) (arena_Give.S1 place b0 b02 b03 l2 l3)
noncomputable def arena_Give.S2 (place : Int) (b0 : (List Int)) (b02 : (List Bool)) (b03 : Int) (l2 : (List Int)) (l3 : (List Bool)) : St := ⟨[(1, (.v (.int .i64) place)), (2, (.ptr 0 [])), (4, (.ptr 1 []))], [(0, some (.box (.agg [(.v (.slice (.int .i64)) b0), (.v (.slice .bool) b02), (.v (.int .i64) b03)]))), (1, some (.box (.agg [(.sl 2), (.sl 3), (.v (.int .i64) 0)]))), (2, some (.row (.int .i64) l2 false)), (3, some (.row .bool l3 false))], 4, []⟩
noncomputable def arena_Give.L2 (place : Int) (b0 : (List Int)) (b02 : (List Bool)) (b03 : Int) (l2 : (List Int)) (l3 : (List Bool)) : Option (t2.den × Int × Unit) := res arena_Give.c (atJoin arena_Give.b [1, 0, 1, 0, 1, 1, 1]) (arena_Give.S2 place b0 b02 b03 l2 l3)
noncomputable def arena_Give.S3 (place : Int) (b0 : (List Int)) (b02 : (List Bool)) (b03 : Int) (l2 : (List Int)) (l3 : (List Bool)) : St := ⟨[(1, (.v (.int .i64) place)), (2, (.ptr 0 [])), (4, (.ptr 1 []))], [(0, some (.box (.agg [(.v (.slice (.int .i64)) b0), (.v (.slice .bool) b02), (.v (.int .i64) b03)]))), (1, some (.box (.agg [(.sl 2), (.sl 3), (.v (.int .i64) 0)]))), (2, some (.row (.int .i64) l2 false)), (3, some (.row .bool l3 false))], 4, []⟩
noncomputable def arena_Give.L3 (place : Int) (b0 : (List Int)) (b02 : (List Bool)) (b03 : Int) (l2 : (List Int)) (l3 : (List Bool)) : Option (t2.den × Int × Unit) := res arena_Give.c (atJoin arena_Give.b [1, 0, 1, 0, 1]) (arena_Give.S3 place b0 b02 b03 l2 l3)
theorem arena_Give.spec : FnSpec Try.prog globs 28 arena_Give.Fn := spec_of (E := arena_Give.E) (envOk_at tabOk eqOk primsOk (.cons arena_Check.spec <| .cons arena_twin.spec <| .nil)) mixOk Try.func28 (by kernel_rfl)
theorem arena_Give.L1_eq (place : Int) (b0 : (List Int)) (b02 : (List Bool)) (b03 : Int) (l2 : (List Int)) (l3 : (List Bool)) : arena_Give.L1 place b0 b02 b03 l2 l3 =
  arena_Give.L2 place b0 b02 b03 l2 l3 := res_eq (by kernel_rfl)
theorem arena_Give.L2_eq (place : Int) (b0 : (List Int)) (b02 : (List Bool)) (b03 : Int) (l2 : (List Int)) (l3 : (List Bool)) : arena_Give.L2 place b0 b02 b03 l2 l3 =
  arena_Give.L3 place b0 b02 b03 l2 l3 := res_eq (by kernel_rfl)
theorem arena_Give.L3_eq (place : Int) (b0 : (List Int)) (b02 : (List Bool)) (b03 : Int) (l2 : (List Int)) (l3 : (List Bool)) : arena_Give.L3 place b0 b02 b03 l2 l3 =
  (arena_twin.F (b0, b02, b03, ())).bind fun r0 =>
  bif (decide ((0 : Int) ≤ place ∧ (place : Int) < ((List.length r0.1.1 : Int)))) then
    bif (decide ((0 : Int) ≤ place ∧ (place : Int) < ((List.length r0.1.2.1 : Int)))) then
      some (((List.set r0.1.1 (Int.toNat place) b03), (List.set r0.1.2.1 (Int.toNat place) false), place, ()), 0, ())
    else none
  else none := res_eq (by kernel_rfl)
theorem arena_Give.F_eq (a : t2.den) (place : Int) : arena_Give.F a place =
  (arena_Check.F a).bind fun r0 =>
  bif (r0.1 != 0) then
    some ((([] : List Int), ([] : List Bool), 0, ()), r0.1, ())
  else
    bif (decide ((place : Int) < 0)) then
      some ((([] : List Int), ([] : List Bool), 0, ()), 2, ())
    else
      bif (decide ((place : Int) ≥ ((List.length a.1 : Int)))) then
        some ((([] : List Int), ([] : List Bool), 0, ()), 2, ())
      else
        bif (decide ((0 : Int) ≤ place ∧ (place : Int) < ((List.length a.2.1 : Int)))) then
          bif (!(List.getD a.2.1 (Int.toNat place) false)) then
            some ((([] : List Int), ([] : List Bool), 0, ()), 36, ())
          else
            arena_Give.L1 place a.1 a.2.1 a.2.2.1 ([] : List Int) ([] : List Bool)
        else none := by kernel_rfl
/-! ### spigot/lru.Remove (29) -/
noncomputable def lru_Remove.sg : Sig := ⟨[.val t4, .val (.int .i64)], [(t4, true), ((.int .i64), true)]⟩
noncomputable def lru_Remove.E : Env := ⟨tl, fun i => look i [(36, lru_check.Fn), (37, lru_twin.Fn), (38, lru_in.Fn), (39, lru_out.Fn)], [], eqs, globs, prims⟩
noncomputable def lru_Remove.c := cxOf lru_Remove.E lru_Remove.sg Try.f29
noncomputable def lru_Remove.b := body Try.f29
noncomputable def lru_Remove.Fn : Fun := fnOf lru_Remove.E lru_Remove.sg Try.f29
noncomputable def lru_Remove.F (o : t4.den) (place : Int) : Option (t4.den × Int × Unit) := lru_Remove.Fn.F (o, place, ())
noncomputable def lru_Remove.S1 (place : Int) (b0 : (List Int)) (b02 : (List Int)) (b03 : Int) (b04 : Int) (l2 : (List Int)) : St := ⟨[(1, (.v (.int .i64) place)), (2, (.ptr 0 [])), (4, (.ptr 1 []))], [(0, some (.box (.agg [(.v (.slice (.int .i64)) b0), (.v (.slice (.int .i64)) b02), (.v (.int .i64) b03), (.v (.int .i64) b04)]))), (1, some (.box (.agg [(.sl 2), (.sl 3), (.v (.int .i64) 0), (.v (.int .i64) 0)]))), (2, some (.row (.int .i64) l2 false)), (3, some (.row (.int .i64) l2 false))], 4, []⟩
noncomputable def lru_Remove.L1 (place : Int) (b0 : (List Int)) (b02 : (List Int)) (b03 : Int) (b04 : Int) (l2 : (List Int)) : Option (t4.den × Int × Unit) := res lru_Remove.c (atJoin lru_Remove.b [1, 0, 1, 1]) (lru_Remove.S1 place b0 b02 b03 b04 l2)
noncomputable def lru_Remove.S2 (place : Int) (b0 : (List Int)) (b02 : (List Int)) (b03 : Int) (b04 : Int) (l2 : (List Int)) : St := ⟨[(1, (.v (.int .i64) place)), (2, (.ptr 0 [])), (4, (.ptr 1 []))], [(0, some (.box (.agg [(.v (.slice (.int .i64)) b0), (.v (.slice (.int .i64)) b02), (.v (.int .i64) b03), (.v (.int .i64) b04)]))), (1, some (.box (.agg [(.sl 2), (.sl 3), (.v (.int .i64) 0), (.v (.int .i64) 0)]))), (2, some (.row (.int .i64) l2 false)), (3, some (.row (.int .i64) l2 false))], 4, []⟩
noncomputable def lru_Remove.L2 (place : Int) (b0 : (List Int)) (b02 : (List Int)) (b03 : Int) (b04 : Int) (l2 : (List Int)) : Option (t4.den × Int × Unit) := res lru_Remove.c (atJoin lru_Remove.b [1, 1, 0, 1]) (lru_Remove.S2 place b0 b02 b03 b04 l2)
theorem lru_Remove.spec : FnSpec Try.prog globs 29 lru_Remove.Fn := spec_of (E := lru_Remove.E) (envOk_at tabOk eqOk primsOk (.cons lru_check.spec <| .cons lru_twin.spec <| .cons lru_in.spec <| .cons lru_out.spec <| .nil)) mixOk Try.func29 (by kernel_rfl)
theorem lru_Remove.L1_eq (place : Int) (b0 : (List Int)) (b02 : (List Int)) (b03 : Int) (b04 : Int) (l2 : (List Int)) : lru_Remove.L1 place b0 b02 b03 b04 l2 =
  (lru_in.F (b0, b02, b03, b04, ()) place).bind fun r0 =>
  bif (!r0.1) then
    some ((([] : List Int), ([] : List Int), 0, 0, ()), 6, ())
  else
    lru_Remove.L2 place b0 b02 b03 b04 l2 := res_eq (by kernel_rfl)
theorem lru_Remove.L2_eq (place : Int) (b0 : (List Int)) (b02 : (List Int)) (b03 : Int) (b04 : Int) (l2 : (List Int)) : lru_Remove.L2 place b0 b02 b03 b04 l2 =
  (lru_twin.F (b0, b02, b03, b04, ())).bind fun r0 =>
  (lru_out.F r0.1 place).bind fun r1 =>
  some (r1.1, 0, ()) := res_eq (by kernel_rfl)
theorem lru_Remove.F_eq (o : t4.den) (place : Int) : lru_Remove.F o place =
  (lru_check.F o place).bind fun r0 =>
  bif (r0.1 != 0) then
    some ((([] : List Int), ([] : List Int), 0, 0, ()), r0.1, ())
  else
    lru_Remove.L1 place o.1 o.2.1 o.2.2.1 o.2.2.2.1 ([] : List Int) := by kernel_rfl
/-! ### spigot/probe.Drop (30) -/
noncomputable def probe_Drop.sg : Sig := ⟨[.val (.slice t3), .val (.int .u32)], [((.slice t3), true), ((.int .i64), true)]⟩
noncomputable def probe_Drop.E : Env := ⟨tl, fun i => look i [(22, probe_Check.Fn), (23, probe_look.Fn), (46, probe_Home.Fn), (47, probe_wrap.Fn)], [], eqs, globs, prims⟩
noncomputable def probe_Drop.c := cxOf probe_Drop.E probe_Drop.sg Try.f30
noncomputable def probe_Drop.b := body Try.f30
noncomputable def probe_Drop.Fn : Fun := fnOf probe_Drop.E probe_Drop.sg Try.f30
noncomputable def probe_Drop.F (x : (List t3.den)) (key : Int) : Option ((List t3.den) × Int × Unit) := probe_Drop.Fn.F (x, key, ())
noncomputable def probe_Drop.S1 (x : (List t3.den)) (key : Int) : St := ⟨[(0, (.v (.slice t3) x)), (1, (.v (.int .u32) key))], [], 0, []⟩
noncomputable def probe_Drop.L1 (x : (List t3.den)) (key : Int) : Option ((List t3.den) × Int × Unit) := res probe_Drop.c (atJoin probe_Drop.b [1, 0, 1, 1]) (probe_Drop.S1 x key)
noncomputable def probe_Drop.S2 (x : (List t3.den)) (i : Int) : St := ⟨[(0, (.v (.slice t3) x)), (7, (.v (.int .i64) i))], [], 0, []⟩
noncomputable def probe_Drop.L2 (x : (List t3.den)) (i : Int) : Option ((List t3.den) × Int × Unit) := res probe_Drop.c (atJoin probe_Drop.b [1, 1, 1, 0, 1]) (probe_Drop.S2 x i)
noncomputable def probe_Drop.S3 (i : Int) (j : Int) (l0 : (List t3.den)) : St := ⟨[(7, (.v (.int .i64) i)), (9, (.sl 0)), (10, (.v (.int .i64) j))], [(0, some (.row t3 l0 false))], 1, []⟩
noncomputable def probe_Drop.L3 (i : Int) (j : Int) (l0 : (List t3.den)) : Option ((List t3.den) × Int × Unit) := res probe_Drop.c (atLoop probe_Drop.b [1, 1, 1, 1, 1, 0, 1, 0]) (probe_Drop.S3 i j l0)
noncomputable def probe_Drop.S4 (i : Int) (j : Int) (l0 : (List t3.den)) : St := ⟨[(7, (.v (.int .i64) i)), (9, (.sl 0)), (10, (.v (.int .i64) j))], [(0, some (.row t3 l0 false))], 1, []⟩
noncomputable def probe_Drop.L4 (i : Int) (j : Int) (l0 : (List t3.den)) : Option ((List t3.den) × Int × Unit) := res probe_Drop.c (atJoin probe_Drop.b [1, 1, 1, 1, 1, 0, 1, 0, 0, 0, 1]) (probe_Drop.S4 i j l0)
noncomputable def probe_Drop.S5 (i : Int) (j : Int) (l0 : (List t3.den)) : St := ⟨[(7, (.v (.int .i64) i)), (9, (.sl 0)), (10, (.v (.int .i64) j))], [(0, some (.row t3 l0 false))], 1, []⟩
noncomputable def probe_Drop.L5 (i : Int) (j : Int) (l0 : (List t3.den)) : Option ((List t3.den) × Int × Unit) := res probe_Drop.c (atJoin probe_Drop.b [1, 1, 1, 1, 1, 0, 1, 0, 0, 1, 0, 0, 1, 1]) (probe_Drop.S5 i j l0)
theorem probe_Drop.spec : FnSpec Try.prog globs 30 probe_Drop.Fn := spec_of (E := probe_Drop.E) (envOk_at tabOk eqOk primsOk (.cons probe_Check.spec <| .cons probe_look.spec <| .cons probe_Home.spec <| .cons probe_wrap.spec <| .nil)) mixOk Try.func30 (by kernel_rfl)
theorem probe_Drop.L1_eq (x : (List t3.den)) (key : Int) : probe_Drop.L1 x key =
  (probe_look.F x key).bind fun r0 =>
  bif (decide ((0 : Int) ≤ r0.1 ∧ (r0.1 : Int) < ((List.length x : Int)))) then
    bif (!((((List.getD x (Int.toNat r0.1) (0, 0, false, ())).2).2).1)) then
      some (([] : List t3.den), 6, ())
    else
      probe_Drop.L2 x r0.1
  else none := res_eq (by kernel_rfl)
theorem probe_Drop.L2_eq (x : (List t3.den)) (i : Int) : probe_Drop.L2 x i =
  bif (lim (List.length x) t3) then
    (probe_wrap.F (IntKind.wrap .i64 (i + 1))).bind fun r0 =>
    probe_Drop.L3 i r0.1 x
  else none := res_eq (by kernel_rfl)
theorem probe_Drop.L3_eq (i : Int) (j : Int) (l0 : (List t3.den)) : probe_Drop.L3 i j l0 =
  bif (decide ((0 : Int) ≤ j ∧ (j : Int) < ((List.length l0 : Int)))) then
    bif (((List.getD l0 (Int.toNat j) (0, 0, false, ())).2).2).1 then
      probe_Drop.L4 i j l0
    else
      bif (decide ((0 : Int) ≤ i ∧ (i : Int) < ((List.length l0 : Int)))) then
        some ((List.set l0 (Int.toNat i) (0, 0, false, ())), 0, ())
      else none
  else none := res_eq (by kernel_rfl)
theorem probe_Drop.L4_eq (i : Int) (j : Int) (l0 : (List t3.den)) : probe_Drop.L4 i j l0 =
  (probe_wrap.F (IntKind.wrap .i64 (j - i))).bind fun r0 =>
  bif (decide ((0 : Int) ≤ j ∧ (j : Int) < ((List.length l0 : Int)))) then
    (probe_Home.F ((List.getD l0 (Int.toNat j) (0, 0, false, ())).1)).bind fun r1 =>
    (probe_wrap.F (IntKind.wrap .i64 ((IntKind.wrap .i64 (r1.1 - i)) - 1))).bind fun r2 =>
    bif (decide ((r2.1 : Int) ≥ r0.1)) then
      bif (decide ((0 : Int) ≤ j ∧ (j : Int) < ((List.length l0 : Int)))) then
        bif (decide ((0 : Int) ≤ i ∧ (i : Int) < ((List.length l0 : Int)))) then
          probe_Drop.L5 j j (List.set l0 (Int.toNat i) (List.getD l0 (Int.toNat j) (0, 0, false, ())))
        else none
      else none
    else
      probe_Drop.L5 i j l0
  else none := res_eq (by kernel_rfl)
theorem probe_Drop.L5_eq (i : Int) (j : Int) (l0 : (List t3.den)) : probe_Drop.L5 i j l0 =
  (probe_wrap.F (IntKind.wrap .i64 (j + 1))).bind fun r0 =>
  probe_Drop.L3 i r0.1 l0 := res_eq (by kernel_rfl)
theorem probe_Drop.F_eq (x : (List t3.den)) (key : Int) : probe_Drop.F x key =
  (probe_Check.F x).bind fun r0 =>
  bif (r0.1 != 0) then
    some (([] : List t3.den), r0.1, ())
  else
    probe_Drop.L1 x key := by kernel_rfl
/-! ### spigot/table.drop (27) -/
noncomputable def table_drop.sg : Sig := ⟨[.io t5 true, .val (.int .u32)], []⟩
noncomputable def table_drop.E : Env := ⟨tl, fun i => look i [(25, table_place.Fn), (28, arena_Give.Fn), (29, lru_Remove.Fn), (30, probe_Drop.Fn)], [], eqs, globs, prims⟩
noncomputable def table_drop.c := cxOf table_drop.E table_drop.sg Try.f27
noncomputable def table_drop.b := body Try.f27
noncomputable def table_drop.Fn : Fun := fnOf table_drop.E table_drop.sg Try.f27
noncomputable def table_drop.F (t : t5.den) (key : Int) : Option (t5.den × Unit) := table_drop.Fn.F (t, key, ())
theorem table_drop.spec : FnSpec Try.prog globs 27 table_drop.Fn := spec_of (E := table_drop.E) (envOk_at tabOk eqOk primsOk (.cons table_place.spec <| .cons arena_Give.spec <| .cons lru_Remove.spec <| .cons probe_Drop.spec <| .nil)) mixOk Try.func27 (by kernel_rfl)
theorem table_drop.F_eq (t : t5.den) (key : Int) : table_drop.F t key =
  (table_place.F t key).bind fun r0 =>
  (lru_Remove.F t.2.2.2.2.2.1 r0.1).bind fun r1 =>
  (probe_Drop.F t.2.2.2.2.1 key).bind fun r2 =>
  (arena_Give.F t.2.2.2.1 r0.1).bind fun r3 =>
  bif (decide ((0 : Int) ≤ r0.1 ∧ (r0.1 : Int) < ((List.length t.2.1 : Int)))) then
    bif (decide ((0 : Int) ≤ r0.1 ∧ (r0.1 : Int) < ((List.length t.2.2.1 : Int)))) then
      some ((t.1, (List.set t.2.1 (Int.toNat r0.1) 0), (List.set t.2.2.1 (Int.toNat r0.1) ((0, 0, 0, ()), 0, 0, 0, ())), r3.1, r2.1, r1.1, ()), ())
    else none
  else none := by kernel_rfl
/-! ### spigot/bucket.Full (31) -/
noncomputable def bucket_Full.sg : Sig := ⟨[.val t0, .val (.int .u64)], [(t1, true), ((.int .i64), true)]⟩
noncomputable def bucket_Full.E : Env := ⟨tl, fun i => look i [(55, bucket_CheckLimit.Fn)], [], eqs, globs, prims⟩
noncomputable def bucket_Full.c := cxOf bucket_Full.E bucket_Full.sg Try.f31
noncomputable def bucket_Full.b := body Try.f31
noncomputable def bucket_Full.Fn : Fun := fnOf bucket_Full.E bucket_Full.sg Try.f31
noncomputable def bucket_Full.F (l : t0.den) (at_ : Int) : Option (t1.den × Int × Unit) := bucket_Full.Fn.F (l, at_, ())
noncomputable def bucket_Full.S1 (at_ : Int) (b0 : Int) (b02 : Int) (b03 : Int) : St := ⟨[(1, (.v (.int .u64) at_)), (2, (.ptr 0 [])), (4, (.ptr 1 []))], [(0, some (.box (.agg [(.v (.int .i64) b0), (.v (.int .i64) b02), (.v (.int .i64) b03)]))), (1, some (.box (.agg [(.agg [(.v (.int .i64) 0), (.v (.int .i64) 0), (.v (.int .i64) 0)]), (.v (.int .i64) 0), (.v (.int .i64) 0), (.v (.int .u64) 0)])))], 2, []⟩
noncomputable def bucket_Full.L1 (at_ : Int) (b0 : Int) (b02 : Int) (b03 : Int) : Option (t1.den × Int × Unit) := res bucket_Full.c (atJoin bucket_Full.b [1, 0, 1, 1]) (bucket_Full.S1 at_ b0 b02 b03)
theorem bucket_Full.spec : FnSpec Try.prog globs 31 bucket_Full.Fn := spec_of (E := bucket_Full.E) (envOk_at tabOk eqOk primsOk (.cons bucket_CheckLimit.spec <| .nil)) mixOk Try.func31 (by kernel_rfl)
theorem bucket_Full.L1_eq (at_ : Int) (b0 : Int) (b02 : Int) (b03 : Int) : bucket_Full.L1 at_ b0 b02 b03 =
  some (((b0, b02, b03, ()), b0, 0, at_, ()), 0, ()) := res_eq (by kernel_rfl)
theorem bucket_Full.F_eq (l : t0.den) (at_ : Int) : bucket_Full.F l at_ =
  (bucket_CheckLimit.F l).bind fun r0 =>
  bif (r0.1 != 0) then
    some (((0, 0, 0, ()), 0, 0, 0, ()), r0.1, ())
  else
    bucket_Full.L1 at_ l.1 l.2.1 l.2.2.1 := by kernel_rfl
/-! ### spigot/arena.Take (32) -/
noncomputable def arena_Take.sg : Sig := ⟨[.val t2], [(t2, true), ((.int .i64), true), ((.int .i64), true)]⟩
noncomputable def arena_Take.E : Env := ⟨tl, fun i => look i [(34, arena_Check.Fn), (54, arena_twin.Fn)], [], eqs, globs, prims⟩
noncomputable def arena_Take.c := cxOf arena_Take.E arena_Take.sg Try.f32
noncomputable def arena_Take.b := body Try.f32
noncomputable def arena_Take.Fn : Fun := fnOf arena_Take.E arena_Take.sg Try.f32
noncomputable def arena_Take.F (a : t2.den) : Option (t2.den × Int × Int × Unit) := arena_Take.Fn.F (a, ())
noncomputable def arena_Take.S1 (b0 : (List Int)) (b02 : (List Bool)) (b03 : Int) (l2 : (List Int)) (l3 : (List Bool)) : St := ⟨[(1, (.ptr 0 [])), (2, (.ptr 1 []))], [(0, some (.box (.agg [(.v (.slice (.int .i64)) b0), (.v (.slice .bool) b02), (.v (.int .i64) b03)]))), (1, some (.box (.agg [(.sl 2), (.sl 3), (.v (.int .i64) 0)]))), (2, some (.row (.int .i64) l2 false)), (3, some (.row .bool l3 false))], 4, []⟩
noncomputable def arena_Take.L1 (b0 : (List Int)) (b02 : (List Bool)) (b03 : Int) (l2 : (List Int)) (l3 : (List Bool)) : Option (t2.den × Int × Int × Unit) := res arena_Take.c (atJoin arena_Take.b [1, 0, 1, 1]) (arena_Take.S1 b0 b02 b03 l2 l3)
noncomputable def arena_Take.S2 (b0 : (List Int)) (b02 : (List Bool)) (b03 : Int) (l2 : (List Int)) (l3 : (List Bool)) : St := ⟨[(1, (.ptr 0 [])), (2, (.ptr 1 []))], [(0, some (.box (.agg [(.v (.slice (.int .i64)) b0), (.v (.slice .bool) b02), (.v (.int .i64) b03)]))), (1, some (.box (.agg [(.sl 2), (.sl 3), (.v (.int .i64) 0)]))), (2, some (.row (.int .i64) l2 false)), (3, some (.row .bool l3 false))], 4, []⟩
noncomputable def arena_Take.L2 (b0 : (List Int)) (b02 : (List Bool)) (b03 : Int) (l2 : (List Int)) (l3 : (List Bool)) : Option (t2.den × Int × Int × Unit) := res arena_Take.c (atJoin arena_Take.b [1, 1, 0, 1]) (arena_Take.S2 b0 b02 b03 l2 l3)
theorem arena_Take.spec : FnSpec Try.prog globs 32 arena_Take.Fn := spec_of (E := arena_Take.E) (envOk_at tabOk eqOk primsOk (.cons arena_Check.spec <| .cons arena_twin.spec <| .nil)) mixOk Try.func32 (by kernel_rfl)
theorem arena_Take.L1_eq (b0 : (List Int)) (b02 : (List Bool)) (b03 : Int) (l2 : (List Int)) (l3 : (List Bool)) : arena_Take.L1 b0 b02 b03 l2 l3 =
  bif (b03 == (-1)) then
    some ((([] : List Int), ([] : List Bool), 0, ()), 0, 18, ())
  else
    arena_Take.L2 b0 b02 b03 l2 l3 := res_eq (by kernel_rfl)
theorem arena_Take.L2_eq (b0 : (List Int)) (b02 : (List Bool)) (b03 : Int) (l2 : (List Int)) (l3 : (List Bool)) : arena_Take.L2 b0 b02 b03 l2 l3 =
  (arena_twin.F (b0, b02, b03, ())).bind fun r0 =>
  bif (decide ((0 : Int) ≤ b03 ∧ (b03 : Int) < ((List.length b0 : Int)))) then
    bif (decide ((0 : Int) ≤ b03 ∧ (b03 : Int) < ((List.length r0.1.1 : Int)))) then
      bif (decide ((0 : Int) ≤ b03 ∧ (b03 : Int) < ((List.length r0.1.2.1 : Int)))) then
        some (((List.set r0.1.1 (Int.toNat b03) (-1)), (List.set r0.1.2.1 (Int.toNat b03) true), (List.getD b0 (Int.toNat b03) 0), ()), b03, 0, ())
      else none
    else none
  else none := res_eq (by kernel_rfl)
theorem arena_Take.F_eq (a : t2.den) : arena_Take.F a =
  (arena_Check.F a).bind fun r0 =>
  bif (r0.1 != 0) then
    some ((([] : List Int), ([] : List Bool), 0, ()), 0, r0.1, ())
  else
    arena_Take.L1 a.1 a.2.1 a.2.2.1 ([] : List Int) ([] : List Bool) := by kernel_rfl
/-! ### spigot/probe.Put (33) -/
noncomputable def probe_Put.sg : Sig := ⟨[.val (.slice t3), .val (.int .u32), .val (.int .i64)], [((.slice t3), true), ((.int .i64), true)]⟩
noncomputable def probe_Put.E : Env := ⟨tl, fun i => look i [(22, probe_Check.Fn), (23, probe_look.Fn)], [], eqs, globs, prims⟩
noncomputable def probe_Put.c := cxOf probe_Put.E probe_Put.sg Try.f33
noncomputable def probe_Put.b := body Try.f33
noncomputable def probe_Put.Fn : Fun := fnOf probe_Put.E probe_Put.sg Try.f33
noncomputable def probe_Put.F (x : (List t3.den)) (key : Int) (place : Int) : Option ((List t3.den) × Int × Unit) := probe_Put.Fn.F (x, key, place, ())
noncomputable def probe_Put.S1 (x : (List t3.den)) (key : Int) (place : Int) : St := ⟨[(0, (.v (.slice t3) x)), (1, (.v (.int .u32) key)), (2, (.v (.int .i64) place))], [], 0, []⟩
noncomputable def probe_Put.L1 (x : (List t3.den)) (key : Int) (place : Int) : Option ((List t3.den) × Int × Unit) := res probe_Put.c (atJoin probe_Put.b [1, 0, 1, 1]) (probe_Put.S1 x key place)
noncomputable def probe_Put.S2 (x : (List t3.den)) (key : Int) (place : Int) : St := ⟨[(0, (.v (.slice t3) x)), (1, (.v (.int .u32) key)), (2, (.v (.int .i64) place))], [], 0, []⟩
noncomputable def probe_Put.L2 (x : (List t3.den)) (key : Int) (place : Int) : Option ((List t3.den) × Int × Unit) := res probe_Put.c (atJoin probe_Put.b [1, 1, 0, 1]) (probe_Put.S2 x key place)
noncomputable def probe_Put.S3 (x : (List t3.den)) (key : Int) (place : Int) (i : Int) : St := ⟨[(0, (.v (.slice t3) x)), (1, (.v (.int .u32) key)), (2, (.v (.int .i64) place)), (9, (.v (.int .i64) i))], [], 0, []⟩
noncomputable def probe_Put.L3 (x : (List t3.den)) (key : Int) (place : Int) (i : Int) : Option ((List t3.den) × Int × Unit) := res probe_Put.c (atJoin probe_Put.b [1, 1, 1, 1, 0, 1]) (probe_Put.S3 x key place i)
noncomputable def probe_Put.S4 (x : (List t3.den)) (key : Int) (place : Int) (i : Int) (n : Int) (t38_ : Int) (t39_ : Int) : St := ⟨[(0, (.v (.slice t3) x)), (1, (.v (.int .u32) key)), (2, (.v (.int .i64) place)), (9, (.v (.int .i64) i)), (11, (.v (.int .i64) n)), (37, (.v (.slice t3) x)), (38, (.v (.int .i64) t38_)), (39, (.v (.int .i64) t39_))], [], 0, []⟩
noncomputable def probe_Put.L4 (x : (List t3.den)) (key : Int) (place : Int) (i : Int) (n : Int) (t38_ : Int) (t39_ : Int) : Option ((List t3.den) × Int × Unit) := res probe_Put.c (atLoop probe_Put.b [1, 1, 1, 1, 1, 1, 0, 1, 0]) (probe_Put.S4 x key place i n t38_ t39_)
noncomputable def probe_Put.S5 (x : (List t3.den)) (key : Int) (place : Int) (i : Int) (n : Int) (t38_ : Int) (t39_ : Int) : St := ⟨[(0, (.v (.slice t3) x)), (1, (.v (.int .u32) key)), (2, (.v (.int .i64) place)), (9, (.v (.int .i64) i)), (11, (.v (.int .i64) n)), (37, (.v (.slice t3) x)), (38, (.v (.int .i64) t38_)), (39, (.v (.int .i64) t39_))], [], 0, []⟩
noncomputable def probe_Put.L5 (x : (List t3.den)) (key : Int) (place : Int) (i : Int) (n : Int) (t38_ : Int) (t39_ : Int) : Option ((List t3.den) × Int × Unit) := res probe_Put.c (atJoin probe_Put.b [1, 1, 1, 1, 1, 1, 0, 1, 0, 0, 1, 0]) (probe_Put.S5 x key place i n t38_ t39_)
noncomputable def probe_Put.S6 (x : (List t3.den)) (key : Int) (place : Int) (i : Int) : St := ⟨[(0, (.v (.slice t3) x)), (1, (.v (.int .u32) key)), (2, (.v (.int .i64) place)), (9, (.v (.int .i64) i))], [], 0, []⟩
noncomputable def probe_Put.L6 (x : (List t3.den)) (key : Int) (place : Int) (i : Int) : Option ((List t3.den) × Int × Unit) := res probe_Put.c (atJoin probe_Put.b [1, 1, 1, 1, 1, 1, 1, 0, 1]) (probe_Put.S6 x key place i)
noncomputable def probe_Put.S7 (x : (List t3.den)) (key : Int) (place : Int) (i : Int) (n : Int) (t38_ : Int) (t39_ : Int) : St := ⟨[(0, (.v (.slice t3) x)), (1, (.v (.int .u32) key)), (2, (.v (.int .i64) place)), (9, (.v (.int .i64) i)), (11, (.v (.int .i64) n)), (37, (.v (.slice t3) x)), (38, (.v (.int .i64) t38_)), (39, (.v (.int .i64) t39_))], [], 0, []⟩
noncomputable def probe_Put.L7 (x : (List t3.den)) (key : Int) (place : Int) (i : Int) (n : Int) (t38_ : Int) (t39_ : Int) : Option ((List t3.den) × Int × Unit) := res probe_Put.c (atJoin probe_Put.b [1, 1, 1, 1, 1, 1, 0, 1, 0, 0, 1, 1, 0, 0, 1, 1]) (probe_Put.S7 x key place i n t38_ t39_)
theorem probe_Put.spec : FnSpec Try.prog globs 33 probe_Put.Fn := spec_of (E := probe_Put.E) (envOk_at tabOk eqOk primsOk (.cons probe_Check.spec <| .cons probe_look.spec <| .nil)) mixOk Try.func33 (by kernel_rfl)
theorem probe_Put.L1_eq (x : (List t3.den)) (key : Int) (place : Int) : probe_Put.L1 x key place =
  bif (decide ((place : Int) < 0)) then
    some (([] : List t3.den), 2, ())
  else
    bif (decide ((place : Int) ≥ 16)) then
      some (([] : List t3.den), 2, ())
    else
      probe_Put.L2 x key place := res_eq (by kernel_rfl)
theorem probe_Put.L2_eq (x : (List t3.den)) (key : Int) (place : Int) : probe_Put.L2 x key place =
  (probe_look.F x key).bind fun r0 =>
  bif (decide ((0 : Int) ≤ r0.1 ∧ (r0.1 : Int) < ((List.length x : Int)))) then
    bif (((List.getD x (Int.toNat r0.1) (0, 0, false, ())).2).2).1 then
      some (([] : List t3.den), 14, ())
    else
      probe_Put.L3 x key place r0.1
  else none := res_eq (by kernel_rfl)
theorem probe_Put.L3_eq (x : (List t3.den)) (key : Int) (place : Int) (i : Int) : probe_Put.L3 x key place i =
  probe_Put.L4 x key place i 0 ((List.length x : Int)) 0 := res_eq (by kernel_rfl)
theorem probe_Put.L4_eq (x : (List t3.den)) (key : Int) (place : Int) (i : Int) (n : Int) (t38_ : Int) (t39_ : Int) : probe_Put.L4 x key place i n t38_ t39_ =
  bif (decide ((t39_ : Int) < t38_)) then
    probe_Put.L5 x key place i n t38_ t39_
  else
    bif (decide ((n : Int) ≥ 12)) then
      some (([] : List t3.den), 18, ())
    else
      probe_Put.L6 x key place i := res_eq (by kernel_rfl)
theorem probe_Put.L5_eq (x : (List t3.den)) (key : Int) (place : Int) (i : Int) (n : Int) (t38_ : Int) (t39_ : Int) : probe_Put.L5 x key place i n t38_ t39_ =
  bif (decide ((0 : Int) ≤ t39_ ∧ (t39_ : Int) < ((List.length x : Int)))) then
    bif (((List.getD x (Int.toNat t39_) (0, 0, false, ())).2).2).1 then
      probe_Put.L7 x key place i (IntKind.wrap .i64 (n + 1)) t38_ t39_
    else
      probe_Put.L7 x key place i n t38_ t39_
  else none := res_eq (by kernel_rfl)
theorem probe_Put.L6_eq (x : (List t3.den)) (key : Int) (place : Int) (i : Int) : probe_Put.L6 x key place i =
  bif (lim (List.length x) t3) then
    bif (decide ((0 : Int) ≤ i ∧ (i : Int) < ((List.length x : Int)))) then
      some ((List.set x (Int.toNat i) (key, place, true, ())), 0, ())
    else none
  else none := res_eq (by kernel_rfl)
theorem probe_Put.L7_eq (x : (List t3.den)) (key : Int) (place : Int) (i : Int) (n : Int) (t38_ : Int) (t39_ : Int) : probe_Put.L7 x key place i n t38_ t39_ =
  probe_Put.L4 x key place i n t38_ (IntKind.wrap .i64 (t39_ + 1)) := res_eq (by kernel_rfl)
theorem probe_Put.F_eq (x : (List t3.den)) (key : Int) (place : Int) : probe_Put.F x key place =
  (probe_Check.F x).bind fun r0 =>
  bif (r0.1 != 0) then
    some (([] : List t3.den), r0.1, ())
  else
    probe_Put.L1 x key place := by kernel_rfl
/-! ### spigot/table.Use (12) -/
noncomputable def table_Use.sg : Sig := ⟨[.val t5, .val (.int .u32), .val t0, .val (.int .u64)], [(t5, true), ((.int .u32), true), (.bool, true), ((.int .i64), true)]⟩
noncomputable def table_Use.E : Env := ⟨tl, fun i => look i [(15, lru_Last.Fn), (17, lru_Touch.Fn), (24, table_Check.Fn), (25, table_place.Fn), (26, table_twin.Fn), (27, table_drop.Fn), (31, bucket_Full.Fn), (32, arena_Take.Fn), (33, probe_Put.Fn)], [], eqs, globs, prims⟩
noncomputable def table_Use.c := cxOf table_Use.E table_Use.sg Try.f12
noncomputable def table_Use.b := body Try.f12
noncomputable def table_Use.Fn : Fun := fnOf table_Use.E table_Use.sg Try.f12
noncomputable def table_Use.F (t : t5.den) (key : Int) (l : t0.den) (tick : Int) : Option (t5.den × Int × Bool × Int × Unit) := table_Use.Fn.F (t, key, l, tick, ())
noncomputable def table_Use.S1 (key : Int) (tick : Int) (b0 : Int) (b02 : (List Int)) (b03 : (List t1.den)) (b04 : (List Int)) (b05 : (List Bool)) (b06 : Int) (b07 : (List t3.den)) (b08 : (List Int)) (b09 : (List Int)) (b010 : Int) (b011 : Int) (b1 : Int) (b12 : Int) (b13 : Int) (l3 : (List Int)) (l4 : (List t1.den)) (l5 : (List Int)) (l6 : (List Bool)) (l7 : (List t3.den)) : St := ⟨[(1, (.v (.int .u32) key)), (3, (.v (.int .u64) tick)), (4, (.ptr 0 [])), (6, (.ptr 1 [])), (8, (.ptr 2 [])), (9, (.v (.int .u32) 0)), (10, (.v .bool false))], [(0, some (.box (.agg [(.v (.int .i64) b0), (.v (.slice (.int .u32)) b02), (.v (.slice t1) b03), (.agg [(.v (.slice (.int .i64)) b04), (.v (.slice .bool) b05), (.v (.int .i64) b06)]), (.v (.slice t3) b07), (.agg [(.v (.slice (.int .i64)) b08), (.v (.slice (.int .i64)) b09), (.v (.int .i64) b010), (.v (.int .i64) b011)])]))), (1, some (.box (.agg [(.v (.int .i64) b1), (.v (.int .i64) b12), (.v (.int .i64) b13)]))), (2, some (.box (.agg [(.v (.int .i64) 0), (.sl 3), (.sl 4), (.agg [(.sl 5), (.sl 6), (.v (.int .i64) 0)]), (.sl 7), (.agg [(.sl 8), (.sl 9), (.v (.int .i64) 0), (.v (.int .i64) 0)])]))), (3, some (.row (.int .u32) l3 false)), (4, some (.row t1 l4 false)), (5, some (.row (.int .i64) l5 false)), (6, some (.row .bool l6 false)), (7, some (.row t3 l7 false)), (8, some (.row (.int .i64) l5 false)), (9, some (.row (.int .i64) l5 false))], 10, []⟩
noncomputable def table_Use.L1 (key : Int) (tick : Int) (b0 : Int) (b02 : (List Int)) (b03 : (List t1.den)) (b04 : (List Int)) (b05 : (List Bool)) (b06 : Int) (b07 : (List t3.den)) (b08 : (List Int)) (b09 : (List Int)) (b010 : Int) (b011 : Int) (b1 : Int) (b12 : Int) (b13 : Int) (l3 : (List Int)) (l4 : (List t1.den)) (l5 : (List Int)) (l6 : (List Bool)) (l7 : (List t3.den)) : Option (t5.den × Int × Bool × Int × Unit) := res table_Use.c (atJoin table_Use.b [1, 0, 1, 1]) (table_Use.S1 key tick b0 b02 b03 b04 b05 b06 b07 b08 b09 b010 b011 b1 b12 b13 l3 l4 l5 l6 l7)
noncomputable def table_Use.S2 (key : Int) (b0 : Int) (b02 : (List Int)) (b03 : (List t1.den)) (b04 : (List Int)) (b05 : (List Bool)) (b06 : Int) (b07 : (List t3.den)) (b08 : (List Int)) (b09 : (List Int)) (b010 : Int) (b011 : Int) (b2 : Int) (b22 : Int) (b23 : Int) (b24 : Int) (b25 : Int) (b26 : Int) (l3 : (List Int)) (l4 : (List t1.den)) (l5 : (List Int)) (l6 : (List Bool)) (l7 : (List t3.den)) : St := ⟨[(1, (.v (.int .u32) key)), (4, (.ptr 0 [])), (8, (.ptr 1 [])), (9, (.v (.int .u32) 0)), (10, (.v .bool false)), (13, (.ptr 2 []))], [(0, some (.box (.agg [(.v (.int .i64) b0), (.v (.slice (.int .u32)) b02), (.v (.slice t1) b03), (.agg [(.v (.slice (.int .i64)) b04), (.v (.slice .bool) b05), (.v (.int .i64) b06)]), (.v (.slice t3) b07), (.agg [(.v (.slice (.int .i64)) b08), (.v (.slice (.int .i64)) b09), (.v (.int .i64) b010), (.v (.int .i64) b011)])]))), (1, some (.box (.agg [(.v (.int .i64) 0), (.sl 3), (.sl 4), (.agg [(.sl 5), (.sl 6), (.v (.int .i64) 0)]), (.sl 7), (.agg [(.sl 8), (.sl 9), (.v (.int .i64) 0), (.v (.int .i64) 0)])]))), (2, some (.box (.agg [(.agg [(.v (.int .i64) b2), (.v (.int .i64) b22), (.v (.int .i64) b23)]), (.v (.int .i64) b24), (.v (.int .i64) b25), (.v (.int .u64) b26)]))), (3, some (.row (.int .u32) l3 false)), (4, some (.row t1 l4 false)), (5, some (.row (.int .i64) l5 false)), (6, some (.row .bool l6 false)), (7, some (.row t3 l7 false)), (8, some (.row (.int .i64) l5 false)), (9, some (.row (.int .i64) l5 false))], 10, []⟩
noncomputable def table_Use.L2 (key : Int) (b0 : Int) (b02 : (List Int)) (b03 : (List t1.den)) (b04 : (List Int)) (b05 : (List Bool)) (b06 : Int) (b07 : (List t3.den)) (b08 : (List Int)) (b09 : (List Int)) (b010 : Int) (b011 : Int) (b2 : Int) (b22 : Int) (b23 : Int) (b24 : Int) (b25 : Int) (b26 : Int) (l3 : (List Int)) (l4 : (List t1.den)) (l5 : (List Int)) (l6 : (List Bool)) (l7 : (List t3.den)) : Option (t5.den × Int × Bool × Int × Unit) := res table_Use.c (atJoin table_Use.b [1, 1, 1, 0, 1]) (table_Use.S2 key b0 b02 b03 b04 b05 b06 b07 b08 b09 b010 b011 b2 b22 b23 b24 b25 b26 l3 l4 l5 l6 l7)
noncomputable def table_Use.S3 (key : Int) (gone : Int) (evicted : Bool) (b0 : Int) (b02 : Int) (b03 : Int) (b04 : Int) (b1 : Int) (b12 : Int) (b13 : Int) (b14 : Int) (b15 : Int) (b16 : Int) (l2 : (List Int)) (l3 : (List t1.den)) (l4 : (List Int)) (l5 : (List Bool)) (l6 : (List t3.den)) (l7 : (List Int)) (l8 : (List Int)) : St := ⟨[(1, (.v (.int .u32) key)), (8, (.ptr 0 [])), (9, (.v (.int .u32) gone)), (10, (.v .bool evicted)), (13, (.ptr 1 []))], [(0, some (.box (.agg [(.v (.int .i64) b0), (.sl 2), (.sl 3), (.agg [(.sl 4), (.sl 5), (.v (.int .i64) b02)]), (.sl 6), (.agg [(.sl 7), (.sl 8), (.v (.int .i64) b03), (.v (.int .i64) b04)])]))), (1, some (.box (.agg [(.agg [(.v (.int .i64) b1), (.v (.int .i64) b12), (.v (.int .i64) b13)]), (.v (.int .i64) b14), (.v (.int .i64) b15), (.v (.int .u64) b16)]))), (2, some (.row (.int .u32) l2 false)), (3, some (.row t1 l3 false)), (4, some (.row (.int .i64) l4 false)), (5, some (.row .bool l5 false)), (6, some (.row t3 l6 false)), (7, some (.row (.int .i64) l7 false)), (8, some (.row (.int .i64) l8 false))], 9, []⟩
noncomputable def table_Use.L3 (key : Int) (gone : Int) (evicted : Bool) (b0 : Int) (b02 : Int) (b03 : Int) (b04 : Int) (b1 : Int) (b12 : Int) (b13 : Int) (b14 : Int) (b15 : Int) (b16 : Int) (l2 : (List Int)) (l3 : (List t1.den)) (l4 : (List Int)) (l5 : (List Bool)) (l6 : (List t3.den)) (l7 : (List Int)) (l8 : (List Int)) : Option (t5.den × Int × Bool × Int × Unit) := res table_Use.c (atJoin table_Use.b [1, 1, 1, 1, 1, 1, 0, 1, 0, 0, 1, 1]) (table_Use.S3 key gone evicted b0 b02 b03 b04 b1 b12 b13 b14 b15 b16 l2 l3 l4 l5 l6 l7 l8)
noncomputable def table_Use.S4 (gone : Int) (evicted : Bool) (i : Int) (b0 : Int) (b02 : Int) (b03 : Int) (b04 : Int) (l1 : (List Int)) (l2 : (List t1.den)) (l3 : (List Int)) (l4 : (List Bool)) (l5 : (List t3.den)) (l6 : (List Int)) (l7 : (List Int)) : St := ⟨[(8, (.ptr 0 [])), (9, (.v (.int .u32) gone)), (10, (.v .bool evicted)), (14, (.v (.int .i64) i))], [(0, some (.box (.agg [(.v (.int .i64) b0), (.sl 1), (.sl 2), (.agg [(.sl 3), (.sl 4), (.v (.int .i64) b02)]), (.sl 5), (.agg [(.sl 6), (.sl 7), (.v (.int .i64) b03), (.v (.int .i64) b04)])]))), (1, some (.row (.int .u32) l1 false)), (2, some (.row t1 l2 false)), (3, some (.row (.int .i64) l3 false)), (4, some (.row .bool l4 false)), (5, some (.row t3 l5 false)), (6, some (.row (.int .i64) l6 false)), (7, some (.row (.int .i64) l7 false))], 8, []⟩
noncomputable def table_Use.L4 (gone : Int) (evicted : Bool) (i : Int) (b0 : Int) (b02 : Int) (b03 : Int) (b04 : Int) (l1 : (List Int)) (l2 : (List t1.den)) (l3 : (List Int)) (l4 : (List Bool)) (l5 : (List t3.den)) (l6 : (List Int)) (l7 : (List Int)) : Option (t5.den × Int × Bool × Int × Unit) := res table_Use.c (atJoin table_Use.b [1, 1, 1, 1, 1, 1, 0, 1]) (table_Use.S4 gone evicted i b0 b02 b03 b04 l1 l2 l3 l4 l5 l6 l7)
theorem table_Use.spec : FnSpec Try.prog globs 12 table_Use.Fn := spec_of (E := table_Use.E) (envOk_at tabOk eqOk primsOk (.cons lru_Last.spec <| .cons lru_Touch.spec <| .cons table_Check.spec <| .cons table_place.spec <| .cons table_twin.spec <| .cons table_drop.spec <| .cons bucket_Full.spec <| .cons arena_Take.spec <| .cons probe_Put.spec <| .nil)) mixOk Try.func12 (by kernel_rfl)
theorem table_Use.L1_eq (key : Int) (tick : Int) (b0 : Int) (b02 : (List Int)) (b03 : (List t1.den)) (b04 : (List Int)) (b05 : (List Bool)) (b06 : Int) (b07 : (List t3.den)) (b08 : (List Int)) (b09 : (List Int)) (b010 : Int) (b011 : Int) (b1 : Int) (b12 : Int) (b13 : Int) (l3 : (List Int)) (l4 : (List t1.den)) (l5 : (List Int)) (l6 : (List Bool)) (l7 : (List t3.den)) : table_Use.L1 key tick b0 b02 b03 b04 b05 b06 b07 b08 b09 b010 b011 b1 b12 b13 l3 l4 l5 l6 l7 =
  (bucket_Full.F (b1, b12, b13, ()) tick).bind fun r0 =>
  bif (r0.2.1 != 0) then
    some ((0, ([] : List Int), ([] : List t1.den), (([] : List Int), ([] : List Bool), 0, ()), ([] : List t3.den), (([] : List Int), ([] : List Int), 0, 0, ()), ()), 0, false, r0.2.1, ())
  else
    table_Use.L2 key b0 b02 b03 b04 b05 b06 b07 b08 b09 b010 b011 r0.1.1.1 r0.1.1.2.1 r0.1.1.2.2.1 r0.1.2.1 r0.1.2.2.1 r0.1.2.2.2.1 l3 l4 l5 l6 l7 := res_eq (by kernel_rfl)
theorem table_Use.L2_eq (key : Int) (b0 : Int) (b02 : (List Int)) (b03 : (List t1.den)) (b04 : (List Int)) (b05 : (List Bool)) (b06 : Int) (b07 : (List t3.den)) (b08 : (List Int)) (b09 : (List Int)) (b010 : Int) (b011 : Int) (b2 : Int) (b22 : Int) (b23 : Int) (b24 : Int) (b25 : Int) (b26 : Int) (l3 : (List Int)) (l4 : (List t1.den)) (l5 : (List Int)) (l6 : (List Bool)) (l7 : (List t3.den)) : table_Use.L2 key b0 b02 b03 b04 b05 b06 b07 b08 b09 b010 b011 b2 b22 b23 b24 b25 b26 l3 l4 l5 l6 l7 =
  (table_twin.F (b0, b02, b03, (b04, b05, b06, ()), b07, (b08, b09, b010, b011, ()), ())).bind fun r0 =>
  (table_place.F r0.1 key).bind fun r1 =>
  bif (decide ((r1.1 : Int) < 0)) then
    (arena_Take.F r0.1.2.2.2.1).bind fun r2 =>
    bif (r2.2.2.1 != 0) then
      (lru_Last.F r0.1.2.2.2.2.2.1).bind fun r3 =>
      bif (decide ((0 : Int) ≤ r3.1 ∧ (r3.1 : Int) < ((List.length r0.1.2.1 : Int)))) then
        (table_drop.F r0.1 (List.getD r0.1.2.1 (Int.toNat r3.1) 0)).bind fun r4 =>
        table_Use.L3 key (List.getD r0.1.2.1 (Int.toNat r3.1) 0) true r4.1.1 r4.1.2.2.2.1.2.2.1 r4.1.2.2.2.2.2.1.2.2.1 r4.1.2.2.2.2.2.1.2.2.2.1 b2 b22 b23 b24 b25 b26 r4.1.2.1 r4.1.2.2.1 r4.1.2.2.2.1.1 r4.1.2.2.2.1.2.1 r4.1.2.2.2.2.1 r4.1.2.2.2.2.2.1.1 r4.1.2.2.2.2.2.1.2.1
      else none
    else
      table_Use.L3 key 0 false r0.1.1 r0.1.2.2.2.1.2.2.1 r0.1.2.2.2.2.2.1.2.2.1 r0.1.2.2.2.2.2.1.2.2.2.1 b2 b22 b23 b24 b25 b26 r0.1.2.1 r0.1.2.2.1 r0.1.2.2.2.1.1 r0.1.2.2.2.1.2.1 r0.1.2.2.2.2.1 r0.1.2.2.2.2.2.1.1 r0.1.2.2.2.2.2.1.2.1
  else
    table_Use.L4 0 false r1.1 r0.1.1 r0.1.2.2.2.1.2.2.1 r0.1.2.2.2.2.2.1.2.2.1 r0.1.2.2.2.2.2.1.2.2.2.1 r0.1.2.1 r0.1.2.2.1 r0.1.2.2.2.1.1 r0.1.2.2.2.1.2.1 r0.1.2.2.2.2.1 r0.1.2.2.2.2.2.1.1 r0.1.2.2.2.2.2.1.2.1 := res_eq (by kernel_rfl)
theorem table_Use.L3_eq (key : Int) (gone : Int) (evicted : Bool) (b0 : Int) (b02 : Int) (b03 : Int) (b04 : Int) (b1 : Int) (b12 : Int) (b13 : Int) (b14 : Int) (b15 : Int) (b16 : Int) (l2 : (List Int)) (l3 : (List t1.den)) (l4 : (List Int)) (l5 : (List Bool)) (l6 : (List t3.den)) (l7 : (List Int)) (l8 : (List Int)) : table_Use.L3 key gone evicted b0 b02 b03 b04 b1 b12 b13 b14 b15 b16 l2 l3 l4 l5 l6 l7 l8 =
  (arena_Take.F (l4, l5, b02, ())).bind fun r0 =>
  (probe_Put.F l6 key r0.2.1).bind fun r1 =>
  bif (decide ((0 : Int) ≤ r0.2.1 ∧ (r0.2.1 : Int) < ((List.length l2 : Int)))) then
    bif (decide ((0 : Int) ≤ r0.2.1 ∧ (r0.2.1 : Int) < ((List.length l3 : Int)))) then
      table_Use.L4 gone evicted r0.2.1 b0 r0.1.2.2.1 b03 b04 (List.set l2 (Int.toNat r0.2.1) key) (List.set l3 (Int.toNat r0.2.1) ((b1, b12, b13, ()), b14, b15, b16, ())) r0.1.1 r0.1.2.1 r1.1 l7 l8
    else none
  else none := res_eq (by kernel_rfl)
theorem table_Use.L4_eq (gone : Int) (evicted : Bool) (i : Int) (b0 : Int) (b02 : Int) (b03 : Int) (b04 : Int) (l1 : (List Int)) (l2 : (List t1.den)) (l3 : (List Int)) (l4 : (List Bool)) (l5 : (List t3.den)) (l6 : (List Int)) (l7 : (List Int)) : table_Use.L4 gone evicted i b0 b02 b03 b04 l1 l2 l3 l4 l5 l6 l7 =
  (lru_Touch.F (l6, l7, b03, b04, ()) i).bind fun r0 =>
  some ((b0, l1, l2, (l3, l4, b02, ()), l5, r0.1, ()), gone, evicted, 0, ()) := res_eq (by kernel_rfl)
theorem table_Use.F_eq (t : t5.den) (key : Int) (l : t0.den) (tick : Int) : table_Use.F t key l tick =
  (table_Check.F t).bind fun r0 =>
  bif (r0.1 != 0) then
    some ((0, ([] : List Int), ([] : List t1.den), (([] : List Int), ([] : List Bool), 0, ()), ([] : List t3.den), (([] : List Int), ([] : List Int), 0, 0, ()), ()), 0, false, r0.1, ())
  else
    table_Use.L1 key tick t.1 t.2.1 t.2.2.1 t.2.2.2.1.1 t.2.2.2.1.2.1 t.2.2.2.1.2.2.1 t.2.2.2.2.1 t.2.2.2.2.2.1.1 t.2.2.2.2.2.1.2.1 t.2.2.2.2.2.1.2.2.1 t.2.2.2.2.2.1.2.2.2.1 l.1 l.2.1 l.2.2.1 ([] : List Int) ([] : List t1.den) ([] : List Int) ([] : List Bool) ([] : List t3.den) := by kernel_rfl
/-! ### spigot/spigottop.limit16 (13) -/
noncomputable def spigottop_limit16.sg : Sig := ⟨[], [(t0, true)]⟩
noncomputable def spigottop_limit16.E : Env := ⟨tl, fun i => look i [], [], eqs, globs, prims⟩
noncomputable def spigottop_limit16.c := cxOf spigottop_limit16.E spigottop_limit16.sg Try.f13
noncomputable def spigottop_limit16.b := body Try.f13
noncomputable def spigottop_limit16.Fn : Fun := fnOf spigottop_limit16.E spigottop_limit16.sg Try.f13
noncomputable def spigottop_limit16.F : Option (t0.den × Unit) := spigottop_limit16.Fn.F ()
theorem spigottop_limit16.spec : FnSpec Try.prog globs 13 spigottop_limit16.Fn := spec_of (E := spigottop_limit16.E) (envOk_at tabOk eqOk primsOk (.nil)) mixOk Try.func13 (by kernel_rfl)
theorem spigottop_limit16.F_eq : spigottop_limit16.F =
  some ((9, 2, 3, ()), ()) := by kernel_rfl
/-! ### spigot/table.Get (19) -/
noncomputable def table_Get.sg : Sig := ⟨[.val t5, .val (.int .u32)], [(t1, true), ((.int .i64), true)]⟩
noncomputable def table_Get.E : Env := ⟨tl, fun i => look i [(24, table_Check.Fn), (25, table_place.Fn)], [], eqs, globs, prims⟩
noncomputable def table_Get.c := cxOf table_Get.E table_Get.sg Try.f19
noncomputable def table_Get.b := body Try.f19
noncomputable def table_Get.Fn : Fun := fnOf table_Get.E table_Get.sg Try.f19
noncomputable def table_Get.F (t : t5.den) (key : Int) : Option (t1.den × Int × Unit) := table_Get.Fn.F (t, key, ())
noncomputable def table_Get.S1 (key : Int) (b0 : Int) (b02 : (List Int)) (b03 : (List t1.den)) (b04 : (List Int)) (b05 : (List Bool)) (b06 : Int) (b07 : (List t3.den)) (b08 : (List Int)) (b09 : (List Int)) (b010 : Int) (b011 : Int) : St := ⟨[(1, (.v (.int .u32) key)), (2, (.ptr 0 [])), (4, (.ptr 1 []))], [(0, some (.box (.agg [(.v (.int .i64) b0), (.v (.slice (.int .u32)) b02), (.v (.slice t1) b03), (.agg [(.v (.slice (.int .i64)) b04), (.v (.slice .bool) b05), (.v (.int .i64) b06)]), (.v (.slice t3) b07), (.agg [(.v (.slice (.int .i64)) b08), (.v (.slice (.int .i64)) b09), (.v (.int .i64) b010), (.v (.int .i64) b011)])]))), (1, some (.box (.agg [(.agg [(.v (.int .i64) 0), (.v (.int .i64) 0), (.v (.int .i64) 0)]), (.v (.int .i64) 0), (.v (.int .i64) 0), (.v (.int .u64) 0)])))], 2, []⟩
noncomputable def table_Get.L1 (key : Int) (b0 : Int) (b02 : (List Int)) (b03 : (List t1.den)) (b04 : (List Int)) (b05 : (List Bool)) (b06 : Int) (b07 : (List t3.den)) (b08 : (List Int)) (b09 : (List Int)) (b010 : Int) (b011 : Int) : Option (t1.den × Int × Unit) := res table_Get.c (atJoin table_Get.b [1, 0, 1, 1]) (table_Get.S1 key b0 b02 b03 b04 b05 b06 b07 b08 b09 b010 b011)
noncomputable def table_Get.S2 (i : Int) (b0 : Int) (b02 : (List Int)) (b03 : (List t1.den)) (b04 : (List Int)) (b05 : (List Bool)) (b06 : Int) (b07 : (List t3.den)) (b08 : (List Int)) (b09 : (List Int)) (b010 : Int) (b011 : Int) : St := ⟨[(2, (.ptr 0 [])), (4, (.ptr 1 [])), (7, (.v (.int .i64) i))], [(0, some (.box (.agg [(.v (.int .i64) b0), (.v (.slice (.int .u32)) b02), (.v (.slice t1) b03), (.agg [(.v (.slice (.int .i64)) b04), (.v (.slice .bool) b05), (.v (.int .i64) b06)]), (.v (.slice t3) b07), (.agg [(.v (.slice (.int .i64)) b08), (.v (.slice (.int .i64)) b09), (.v (.int .i64) b010), (.v (.int .i64) b011)])]))), (1, some (.box (.agg [(.agg [(.v (.int .i64) 0), (.v (.int .i64) 0), (.v (.int .i64) 0)]), (.v (.int .i64) 0), (.v (.int .i64) 0), (.v (.int .u64) 0)])))], 2, []⟩
noncomputable def table_Get.L2 (i : Int) (b0 : Int) (b02 : (List Int)) (b03 : (List t1.den)) (b04 : (List Int)) (b05 : (List Bool)) (b06 : Int) (b07 : (List t3.den)) (b08 : (List Int)) (b09 : (List Int)) (b010 : Int) (b011 : Int) : Option (t1.den × Int × Unit) := res table_Get.c (atJoin table_Get.b [1, 1, 1, 0, 1]) (table_Get.S2 i b0 b02 b03 b04 b05 b06 b07 b08 b09 b010 b011)
theorem table_Get.spec : FnSpec Try.prog globs 19 table_Get.Fn := spec_of (E := table_Get.E) (envOk_at tabOk eqOk primsOk (.cons table_Check.spec <| .cons table_place.spec <| .nil)) mixOk Try.func19 (by kernel_rfl)
theorem table_Get.L1_eq (key : Int) (b0 : Int) (b02 : (List Int)) (b03 : (List t1.den)) (b04 : (List Int)) (b05 : (List Bool)) (b06 : Int) (b07 : (List t3.den)) (b08 : (List Int)) (b09 : (List Int)) (b010 : Int) (b011 : Int) : table_Get.L1 key b0 b02 b03 b04 b05 b06 b07 b08 b09 b010 b011 =
  (table_place.F (b0, b02, b03, (b04, b05, b06, ()), b07, (b08, b09, b010, b011, ()), ()) key).bind fun r0 =>
  bif (decide ((r0.1 : Int) < 0)) then
    some (((0, 0, 0, ()), 0, 0, 0, ()), 6, ())
  else
    table_Get.L2 r0.1 b0 b02 b03 b04 b05 b06 b07 b08 b09 b010 b011 := res_eq (by kernel_rfl)
theorem table_Get.L2_eq (i : Int) (b0 : Int) (b02 : (List Int)) (b03 : (List t1.den)) (b04 : (List Int)) (b05 : (List Bool)) (b06 : Int) (b07 : (List t3.den)) (b08 : (List Int)) (b09 : (List Int)) (b010 : Int) (b011 : Int) : table_Get.L2 i b0 b02 b03 b04 b05 b06 b07 b08 b09 b010 b011 =
  bif (decide ((0 : Int) ≤ i ∧ (i : Int) < ((List.length b03 : Int)))) then
    some ((List.getD b03 (Int.toNat i) ((0, 0, 0, ()), 0, 0, 0, ())), 0, ())
  else none := res_eq (by kernel_rfl)
theorem table_Get.F_eq (t : t5.den) (key : Int) : table_Get.F t key =
  (table_Check.F t).bind fun r0 =>
  bif (r0.1 != 0) then
    some (((0, 0, 0, ()), 0, 0, 0, ()), r0.1, ())
  else
    table_Get.L1 key t.1 t.2.1 t.2.2.1 t.2.2.2.1.1 t.2.2.2.1.2.1 t.2.2.2.1.2.2.1 t.2.2.2.2.1 t.2.2.2.2.2.1.1 t.2.2.2.2.2.1.2.1 t.2.2.2.2.2.1.2.2.1 t.2.2.2.2.2.1.2.2.2.1 := by kernel_rfl
/-! ### spigot/spigottop.alive16 (4) -/
noncomputable def spigottop_alive16.sg : Sig := ⟨[], [(.bool, true)]⟩
noncomputable def spigottop_alive16.E : Env := ⟨tl, fun i => look i [(5, table_New.Fn), (12, table_Use.Fn), (13, spigottop_limit16.Fn), (19, table_Get.Fn)], [], eqs, globs, prims⟩
noncomputable def spigottop_alive16.c := cxOf spigottop_alive16.E spigottop_alive16.sg Try.f4
noncomputable def spigottop_alive16.b := body Try.f4
noncomputable def spigottop_alive16.Fn : Fun := fnOf spigottop_alive16.E spigottop_alive16.sg Try.f4
noncomputable def spigottop_alive16.F : Option (Bool × Unit) := spigottop_alive16.Fn.F ()
theorem spigottop_alive16.spec : FnSpec Try.prog globs 4 spigottop_alive16.Fn := spec_of (E := spigottop_alive16.E) (envOk_at tabOk eqOk primsOk (.cons table_New.spec <| .cons table_Use.spec <| .cons spigottop_limit16.spec <| .cons table_Get.spec <| .nil)) mixOk Try.func4 (by kernel_rfl)
theorem spigottop_alive16.F_eq : spigottop_alive16.F =
  (table_New.F 1).bind fun r0 =>
  spigottop_limit16.F.bind fun r1 =>
  (table_Use.F r0.1 77 r1.1 5).bind fun r2 =>
  (table_Get.F r2.1 77).bind fun r3 =>
  bif (r0.2.1 == 0) then
    bif (r2.2.2.2.1 == 0) then
      bif (r3.2.1 == 0) then
        spigottop_limit16.F.bind fun r4 =>
        some ((Ty.beq t1 r3.1 (r4.1, 9, 0, 5, ())), ())
      else
        some (false, ())
    else
      some (false, ())
  else
    some (false, ()) := by kernel_rfl
/-! ### spigot/table.Drop (10) -/
noncomputable def table_Drop.sg : Sig := ⟨[.val t5, .val (.int .u32)], [(t5, true), ((.int .i64), true)]⟩
noncomputable def table_Drop.E : Env := ⟨tl, fun i => look i [(24, table_Check.Fn), (25, table_place.Fn), (26, table_twin.Fn), (27, table_drop.Fn)], [], eqs, globs, prims⟩
noncomputable def table_Drop.c := cxOf table_Drop.E table_Drop.sg Try.f10
noncomputable def table_Drop.b := body Try.f10
noncomputable def table_Drop.Fn : Fun := fnOf table_Drop.E table_Drop.sg Try.f10
noncomputable def table_Drop.F (t : t5.den) (key : Int) : Option (t5.den × Int × Unit) := table_Drop.Fn.F (t, key, ())
noncomputable def table_Drop.S1 (key : Int) (b0 : Int) (b02 : (List Int)) (b03 : (List t1.den)) (b04 : (List Int)) (b05 : (List Bool)) (b06 : Int) (b07 : (List t3.den)) (b08 : (List Int)) (b09 : (List Int)) (b010 : Int) (b011 : Int) (l2 : (List Int)) (l3 : (List t1.den)) (l4 : (List Int)) (l5 : (List Bool)) (l6 : (List t3.den)) : St := ⟨[(1, (.v (.int .u32) key)), (2, (.ptr 0 [])), (4, (.ptr 1 []))], [(0, some (.box (.agg [(.v (.int .i64) b0), (.v (.slice (.int .u32)) b02), (.v (.slice t1) b03), (.agg [(.v (.slice (.int .i64)) b04), (.v (.slice .bool) b05), (.v (.int .i64) b06)]), (.v (.slice t3) b07), (.agg [(.v (.slice (.int .i64)) b08), (.v (.slice (.int .i64)) b09), (.v (.int .i64) b010), (.v (.int .i64) b011)])]))), (1, some (.box (.agg [(.v (.int .i64) 0), (.sl 2), (.sl 3), (.agg [(.sl 4), (.sl 5), (.v (.int .i64) 0)]), (.sl 6), (.agg [(.sl 7), (.sl 8), (.v (.int .i64) 0), (.v (.int .i64) 0)])]))), (2, some (.row (.int .u32) l2 false)), (3, some (.row t1 l3 false)), (4, some (.row (.int .i64) l4 false)), (5, some (.row .bool l5 false)), (6, some (.row t3 l6 false)), (7, some (.row (.int .i64) l4 false)), (8, some (.row (.int .i64) l4 false))], 9, []⟩
noncomputable def table_Drop.L1 (key : Int) (b0 : Int) (b02 : (List Int)) (b03 : (List t1.den)) (b04 : (List Int)) (b05 : (List Bool)) (b06 : Int) (b07 : (List t3.den)) (b08 : (List Int)) (b09 : (List Int)) (b010 : Int) (b011 : Int) (l2 : (List Int)) (l3 : (List t1.den)) (l4 : (List Int)) (l5 : (List Bool)) (l6 : (List t3.den)) : Option (t5.den × Int × Unit) := res table_Drop.c (atJoin table_Drop.b [1, 0, 1, 1]) (table_Drop.S1 key b0 b02 b03 b04 b05 b06 b07 b08 b09 b010 b011 l2 l3 l4 l5 l6)
noncomputable def table_Drop.S2 (key : Int) (b0 : Int) (b02 : (List Int)) (b03 : (List t1.den)) (b04 : (List Int)) (b05 : (List Bool)) (b06 : Int) (b07 : (List t3.den)) (b08 : (List Int)) (b09 : (List Int)) (b010 : Int) (b011 : Int) (l2 : (List Int)) (l3 : (List t1.den)) (l4 : (List Int)) (l5 : (List Bool)) (l6 : (List t3.den)) : St := ⟨[(1, (.v (.int .u32) key)), (2, (.ptr 0 [])), (4, (.ptr 1 []))], [(0, some (.box (.agg [(.v (.int .i64) b0), (.v (.slice (.int .u32)) b02), (.v (.slice t1) b03), (.agg [(.v (.slice (.int .i64)) b04), (.v (.slice .bool) b05), (.v (.int .i64) b06)]), (.v (.slice t3) b07), (.agg [(.v (.slice (.int .i64)) b08), (.v (.slice (.int .i64)) b09), (.v (.int .i64) b010), (.v (.int .i64) b011)])]))), (1, some (.box (.agg [(.v (.int .i64) 0), (.sl 2), (.sl 3), (.agg [(.sl 4), (.sl 5), (.v (.int .i64) 0)]), (.sl 6), (.agg [(.sl 7), (.sl 8), (.v (.int .i64) 0), (.v (.int .i64) 0)])]))), (2, some (.row (.int .u32) l2 false)), (3, some (.row t1 l3 false)), (4, some (.row (.int .i64) l4 false)), (5, some (.row .bool l5 false)), (6, some (.row t3 l6 false)), (7, some (.row (.int .i64) l4 false)), (8, some (.row (.int .i64) l4 false))], 9, []⟩
noncomputable def table_Drop.L2 (key : Int) (b0 : Int) (b02 : (List Int)) (b03 : (List t1.den)) (b04 : (List Int)) (b05 : (List Bool)) (b06 : Int) (b07 : (List t3.den)) (b08 : (List Int)) (b09 : (List Int)) (b010 : Int) (b011 : Int) (l2 : (List Int)) (l3 : (List t1.den)) (l4 : (List Int)) (l5 : (List Bool)) (l6 : (List t3.den)) : Option (t5.den × Int × Unit) := res table_Drop.c (atJoin table_Drop.b [1, 1, 0, 1]) (table_Drop.S2 key b0 b02 b03 b04 b05 b06 b07 b08 b09 b010 b011 l2 l3 l4 l5 l6)
theorem table_Drop.spec : FnSpec Try.prog globs 10 table_Drop.Fn := spec_of (E := table_Drop.E) (envOk_at tabOk eqOk primsOk (.cons table_Check.spec <| .cons table_place.spec <| .cons table_twin.spec <| .cons table_drop.spec <| .nil)) mixOk Try.func10 (by kernel_rfl)
theorem table_Drop.L1_eq (key : Int) (b0 : Int) (b02 : (List Int)) (b03 : (List t1.den)) (b04 : (List Int)) (b05 : (List Bool)) (b06 : Int) (b07 : (List t3.den)) (b08 : (List Int)) (b09 : (List Int)) (b010 : Int) (b011 : Int) (l2 : (List Int)) (l3 : (List t1.den)) (l4 : (List Int)) (l5 : (List Bool)) (l6 : (List t3.den)) : table_Drop.L1 key b0 b02 b03 b04 b05 b06 b07 b08 b09 b010 b011 l2 l3 l4 l5 l6 =
  (table_place.F (b0, b02, b03, (b04, b05, b06, ()), b07, (b08, b09, b010, b011, ()), ()) key).bind fun r0 =>
  bif (decide ((r0.1 : Int) < 0)) then
    some ((0, ([] : List Int), ([] : List t1.den), (([] : List Int), ([] : List Bool), 0, ()), ([] : List t3.den), (([] : List Int), ([] : List Int), 0, 0, ()), ()), 6, ())
  else
    table_Drop.L2 key b0 b02 b03 b04 b05 b06 b07 b08 b09 b010 b011 l2 l3 l4 l5 l6 := res_eq (by kernel_rfl)
theorem table_Drop.L2_eq (key : Int) (b0 : Int) (b02 : (List Int)) (b03 : (List t1.den)) (b04 : (List Int)) (b05 : (List Bool)) (b06 : Int) (b07 : (List t3.den)) (b08 : (List Int)) (b09 : (List Int)) (b010 : Int) (b011 : Int) (l2 : (List Int)) (l3 : (List t1.den)) (l4 : (List Int)) (l5 : (List Bool)) (l6 : (List t3.den)) : table_Drop.L2 key b0 b02 b03 b04 b05 b06 b07 b08 b09 b010 b011 l2 l3 l4 l5 l6 =
  (table_twin.F (b0, b02, b03, (b04, b05, b06, ()), b07, (b08, b09, b010, b011, ()), ())).bind fun r0 =>
  (table_drop.F r0.1 key).bind fun r1 =>
  some (r1.1, 0, ()) := res_eq (by kernel_rfl)
theorem table_Drop.F_eq (t : t5.den) (key : Int) : table_Drop.F t key =
  (table_Check.F t).bind fun r0 =>
  bif (r0.1 != 0) then
    some ((0, ([] : List Int), ([] : List t1.den), (([] : List Int), ([] : List Bool), 0, ()), ([] : List t3.den), (([] : List Int), ([] : List Int), 0, 0, ()), ()), r0.1, ())
  else
    table_Drop.L1 key t.1 t.2.1 t.2.2.1 t.2.2.2.1.1 t.2.2.2.1.2.1 t.2.2.2.1.2.2.1 t.2.2.2.2.1 t.2.2.2.2.2.1.1 t.2.2.2.2.2.1.2.1 t.2.2.2.2.2.1.2.2.1 t.2.2.2.2.2.1.2.2.2.1 ([] : List Int) ([] : List t1.den) ([] : List Int) ([] : List Bool) ([] : List t3.den) := by kernel_rfl
/-! ### spigot/spigottop.out16 (11) -/
noncomputable def spigottop_out16.sg : Sig := ⟨[.val t2, .val t4, .val (.slice t3), .val (.int .u32), .val (.int .i64)], [(t2, true), (t4, true), ((.slice t3), true), (.bool, true)]⟩
noncomputable def spigottop_out16.E : Env := ⟨tl, fun i => look i [(28, arena_Give.Fn), (29, lru_Remove.Fn), (30, probe_Drop.Fn)], [], eqs, globs, prims⟩
noncomputable def spigottop_out16.c := cxOf spigottop_out16.E spigottop_out16.sg Try.f11
noncomputable def spigottop_out16.b := body Try.f11
noncomputable def spigottop_out16.Fn : Fun := fnOf spigottop_out16.E spigottop_out16.sg Try.f11
noncomputable def spigottop_out16.F (a : t2.den) (o : t4.den) (x : (List t3.den)) (key : Int) (place : Int) : Option (t2.den × t4.den × (List t3.den) × Bool × Unit) := spigottop_out16.Fn.F (a, o, x, key, place, ())
theorem spigottop_out16.spec : FnSpec Try.prog globs 11 spigottop_out16.Fn := spec_of (E := spigottop_out16.E) (envOk_at tabOk eqOk primsOk (.cons arena_Give.spec <| .cons lru_Remove.spec <| .cons probe_Drop.spec <| .nil)) mixOk Try.func11 (by kernel_rfl)
theorem spigottop_out16.F_eq (a : t2.den) (o : t4.den) (x : (List t3.den)) (key : Int) (place : Int) : spigottop_out16.F a o x key place =
  (arena_Give.F a place).bind fun r0 =>
  (lru_Remove.F o place).bind fun r1 =>
  (probe_Drop.F x key).bind fun r2 =>
  bif (r0.2.1 == 0) then
    bif (r1.2.1 == 0) then
      some (r0.1, r1.1, r2.1, (r2.2.1 == 0), ())
    else
      some (r0.1, r1.1, r2.1, false, ())
  else
    some (r0.1, r1.1, r2.1, false, ()) := by kernel_rfl
/-! ### spigot/arena.Count (14) -/
noncomputable def arena_Count.sg : Sig := ⟨[.val t2], [((.int .i64), true), ((.int .i64), true), ((.int .i64), true)]⟩
noncomputable def arena_Count.E : Env := ⟨tl, fun i => look i [(34, arena_Check.Fn)], [], eqs, globs, prims⟩
noncomputable def arena_Count.c := cxOf arena_Count.E arena_Count.sg Try.f14
noncomputable def arena_Count.b := body Try.f14
noncomputable def arena_Count.Fn : Fun := fnOf arena_Count.E arena_Count.sg Try.f14
noncomputable def arena_Count.F (a : t2.den) : Option (Int × Int × Int × Unit) := arena_Count.Fn.F (a, ())
noncomputable def arena_Count.S1 (b0 : (List Int)) (b02 : (List Bool)) (b03 : Int) : St := ⟨[(1, (.ptr 0 [])), (2, (.v (.int .i64) 0))], [(0, some (.box (.agg [(.v (.slice (.int .i64)) b0), (.v (.slice .bool) b02), (.v (.int .i64) b03)])))], 1, []⟩
noncomputable def arena_Count.L1 (b0 : (List Int)) (b02 : (List Bool)) (b03 : Int) : Option (Int × Int × Int × Unit) := res arena_Count.c (atJoin arena_Count.b [1, 0, 1, 1]) (arena_Count.S1 b0 b02 b03)
noncomputable def arena_Count.S2 (used : Int) (t14_ : (List Bool)) (t15_ : Int) (t16_ : Int) (b0 : (List Int)) (b02 : Int) : St := ⟨[(1, (.ptr 0 [])), (2, (.v (.int .i64) used)), (14, (.v (.slice .bool) t14_)), (15, (.v (.int .i64) t15_)), (16, (.v (.int .i64) t16_))], [(0, some (.box (.agg [(.v (.slice (.int .i64)) b0), (.v (.slice .bool) t14_), (.v (.int .i64) b02)])))], 1, []⟩
noncomputable def arena_Count.L2 (used : Int) (t14_ : (List Bool)) (t15_ : Int) (t16_ : Int) (b0 : (List Int)) (b02 : Int) : Option (Int × Int × Int × Unit) := res arena_Count.c (atLoop arena_Count.b [1, 1, 0, 1, 0]) (arena_Count.S2 used t14_ t15_ t16_ b0 b02)
noncomputable def arena_Count.S3 (used : Int) (t14_ : (List Bool)) (t15_ : Int) (t16_ : Int) (b0 : (List Int)) (b02 : Int) : St := ⟨[(1, (.ptr 0 [])), (2, (.v (.int .i64) used)), (14, (.v (.slice .bool) t14_)), (15, (.v (.int .i64) t15_)), (16, (.v (.int .i64) t16_))], [(0, some (.box (.agg [(.v (.slice (.int .i64)) b0), (.v (.slice .bool) t14_), (.v (.int .i64) b02)])))], 1, []⟩
noncomputable def arena_Count.L3 (used : Int) (t14_ : (List Bool)) (t15_ : Int) (t16_ : Int) (b0 : (List Int)) (b02 : Int) : Option (Int × Int × Int × Unit) := res arena_Count.c (atJoin arena_Count.b [1, 1, 0, 1, 0, 0, 1, 0]) (arena_Count.S3 used t14_ t15_ t16_ b0 b02)
noncomputable def arena_Count.S4 (used : Int) (t14_ : (List Bool)) (t15_ : Int) (t16_ : Int) (b0 : (List Int)) (b02 : Int) : St := ⟨[(1, (.ptr 0 [])), (2, (.v (.int .i64) used)), (14, (.v (.slice .bool) t14_)), (15, (.v (.int .i64) t15_)), (16, (.v (.int .i64) t16_))], [(0, some (.box (.agg [(.v (.slice (.int .i64)) b0), (.v (.slice .bool) t14_), (.v (.int .i64) b02)])))], 1, []⟩
noncomputable def arena_Count.L4 (used : Int) (t14_ : (List Bool)) (t15_ : Int) (t16_ : Int) (b0 : (List Int)) (b02 : Int) : Option (Int × Int × Int × Unit) := res arena_Count.c (atJoin arena_Count.b [1, 1, 0, 1, 0, 0, 1, 1, 0, 0, 1, 1]) (arena_Count.S4 used t14_ t15_ t16_ b0 b02)
theorem arena_Count.spec : FnSpec Try.prog globs 14 arena_Count.Fn := spec_of (E := arena_Count.E) (envOk_at tabOk eqOk primsOk (.cons arena_Check.spec <| .nil)) mixOk Try.func14 (by kernel_rfl)
theorem arena_Count.L1_eq (b0 : (List Int)) (b02 : (List Bool)) (b03 : Int) : arena_Count.L1 b0 b02 b03 =
  arena_Count.L2 0 b02 ((List.length b02 : Int)) 0 b0 b03 := res_eq (by kernel_rfl)
theorem arena_Count.L2_eq (used : Int) (t14_ : (List Bool)) (t15_ : Int) (t16_ : Int) (b0 : (List Int)) (b02 : Int) : arena_Count.L2 used t14_ t15_ t16_ b0 b02 =
  bif (decide ((t16_ : Int) < t15_)) then
    arena_Count.L3 used t14_ t15_ t16_ b0 b02
  else
    some (used, (IntKind.wrap .i64 (((List.length t14_ : Int)) - used)), 0, ()) := res_eq (by kernel_rfl)
theorem arena_Count.L3_eq (used : Int) (t14_ : (List Bool)) (t15_ : Int) (t16_ : Int) (b0 : (List Int)) (b02 : Int) : arena_Count.L3 used t14_ t15_ t16_ b0 b02 =
  bif (decide ((0 : Int) ≤ t16_ ∧ (t16_ : Int) < ((List.length t14_ : Int)))) then
    bif (List.getD t14_ (Int.toNat t16_) false) then
      arena_Count.L4 (IntKind.wrap .i64 (used + 1)) t14_ t15_ t16_ b0 b02
    else
      arena_Count.L4 used t14_ t15_ t16_ b0 b02
  else none := res_eq (by kernel_rfl)
theorem arena_Count.L4_eq (used : Int) (t14_ : (List Bool)) (t15_ : Int) (t16_ : Int) (b0 : (List Int)) (b02 : Int) : arena_Count.L4 used t14_ t15_ t16_ b0 b02 =
  arena_Count.L2 used t14_ t15_ (IntKind.wrap .i64 (t16_ + 1)) b0 b02 := res_eq (by kernel_rfl)
theorem arena_Count.F_eq (a : t2.den) : arena_Count.F a =
  (arena_Check.F a).bind fun r0 =>
  bif (r0.1 != 0) then
    some (0, 0, r0.1, ())
  else
    arena_Count.L1 a.1 a.2.1 a.2.2.1 := by kernel_rfl
/-! ### spigot/spigottop.in16 (16) -/
noncomputable def spigottop_in16.sg : Sig := ⟨[.val t2, .val (.slice t3), .val (.int .u32)], [(t2, true), ((.slice t3), true), ((.int .i64), true), (.bool, true)]⟩
noncomputable def spigottop_in16.E : Env := ⟨tl, fun i => look i [(32, arena_Take.Fn), (33, probe_Put.Fn)], [], eqs, globs, prims⟩
noncomputable def spigottop_in16.c := cxOf spigottop_in16.E spigottop_in16.sg Try.f16
noncomputable def spigottop_in16.b := body Try.f16
noncomputable def spigottop_in16.Fn : Fun := fnOf spigottop_in16.E spigottop_in16.sg Try.f16
noncomputable def spigottop_in16.F (a : t2.den) (x : (List t3.den)) (key : Int) : Option (t2.den × (List t3.den) × Int × Bool × Unit) := spigottop_in16.Fn.F (a, x, key, ())
theorem spigottop_in16.spec : FnSpec Try.prog globs 16 spigottop_in16.Fn := spec_of (E := spigottop_in16.E) (envOk_at tabOk eqOk primsOk (.cons arena_Take.spec <| .cons probe_Put.spec <| .nil)) mixOk Try.func16 (by kernel_rfl)
theorem spigottop_in16.F_eq (a : t2.den) (x : (List t3.den)) (key : Int) : spigottop_in16.F a x key =
  (arena_Take.F a).bind fun r0 =>
  (probe_Put.F x key r0.2.1).bind fun r1 =>
  bif (r0.2.2.1 == 0) then
    some (r0.1, r1.1, r0.2.1, (r1.2.1 == 0), ())
  else
    some (r0.1, r1.1, r0.2.1, false, ()) := by kernel_rfl
/-! ### spigot/spigotref13.In (62) -/
noncomputable def spigotref13_In.sg : Sig := ⟨[.val (.slice (.int .i64)), .val (.int .i64)], [(.bool, true)]⟩
noncomputable def spigotref13_In.E : Env := ⟨tl, fun i => look i [], [], eqs, globs, prims⟩
noncomputable def spigotref13_In.c := cxOf spigotref13_In.E spigotref13_In.sg Try.f62
noncomputable def spigotref13_In.b := body Try.f62
noncomputable def spigotref13_In.Fn : Fun := fnOf spigotref13_In.E spigotref13_In.sg Try.f62
noncomputable def spigotref13_In.F (l : (List Int)) (n : Int) : Option (Bool × Unit) := spigotref13_In.Fn.F (l, n, ())
noncomputable def spigotref13_In.S1 (l : (List Int)) (n : Int) (i : Int) : St := ⟨[(0, (.v (.slice (.int .i64)) l)), (1, (.v (.int .i64) n)), (5, (.v (.int .i64) i))], [], 0, []⟩
noncomputable def spigotref13_In.L1 (l : (List Int)) (n : Int) (i : Int) : Option (Bool × Unit) := res spigotref13_In.c (atLoop spigotref13_In.b [1, 0, 1, 0]) (spigotref13_In.S1 l n i)
noncomputable def spigotref13_In.S2 (l : (List Int)) (n : Int) (i : Int) : St := ⟨[(0, (.v (.slice (.int .i64)) l)), (1, (.v (.int .i64) n)), (5, (.v (.int .i64) i))], [], 0, []⟩
noncomputable def spigotref13_In.L2 (l : (List Int)) (n : Int) (i : Int) : Option (Bool × Unit) := res spigotref13_In.c (atJoin spigotref13_In.b [1, 0, 1, 0, 0, 0, 1]) (spigotref13_In.S2 l n i)
noncomputable def spigotref13_In.S3 (l : (List Int)) (n : Int) (i : Int) : St := ⟨[(0, (.v (.slice (.int .i64)) l)), (1, (.v (.int .i64) n)), (5, (.v (.int .i64) i))], [], 0, []⟩
noncomputable def spigotref13_In.L3 (l : (List Int)) (n : Int) (i : Int) : Option (Bool × Unit) := res spigotref13_In.c (atJoin spigotref13_In.b [1, 0, 1, 0, 0, 1, 0, 0, 1]) (spigotref13_In.S3 l n i)
theorem spigotref13_In.spec : FnSpec Try.prog globs 62 spigotref13_In.Fn := spec_of (E := spigotref13_In.E) (envOk_at tabOk eqOk primsOk (.nil)) mixOk Try.func62 (by kernel_rfl)
theorem spigotref13_In.L1_eq (l : (List Int)) (n : Int) (i : Int) : spigotref13_In.L1 l n i =
  bif (decide ((i : Int) < ((List.length l : Int)))) then
    spigotref13_In.L2 l n i
  else
    some (false, ()) := res_eq (by kernel_rfl)
theorem spigotref13_In.L2_eq (l : (List Int)) (n : Int) (i : Int) : spigotref13_In.L2 l n i =
  bif (decide ((0 : Int) ≤ i ∧ (i : Int) < ((List.length l : Int)))) then
    bif ((List.getD l (Int.toNat i) 0) == n) then
      some (true, ())
    else
      spigotref13_In.L3 l n i
  else none := res_eq (by kernel_rfl)
theorem spigotref13_In.L3_eq (l : (List Int)) (n : Int) (i : Int) : spigotref13_In.L3 l n i =
  spigotref13_In.L1 l n (IntKind.wrap .i64 (i + 1)) := res_eq (by kernel_rfl)
theorem spigotref13_In.F_eq (l : (List Int)) (n : Int) : spigotref13_In.F l n =
  spigotref13_In.L1 l n 0 := by kernel_rfl
/-! ### spigot/spigotref13.Free (68) -/
noncomputable def spigotref13_Free.sg : Sig := ⟨[.val t2], [((.slice (.int .i64)), true), (.bool, true)]⟩
noncomputable def spigotref13_Free.E : Env := ⟨tl, fun i => look i [(62, spigotref13_In.Fn)], [], eqs, globs, prims⟩
noncomputable def spigotref13_Free.c := cxOf spigotref13_Free.E spigotref13_Free.sg Try.f68
noncomputable def spigotref13_Free.b := body Try.f68
noncomputable def spigotref13_Free.Fn : Fun := fnOf spigotref13_Free.E spigotref13_Free.sg Try.f68
noncomputable def spigotref13_Free.F (a : t2.den) : Option ((List Int) × Bool × Unit) := spigotref13_Free.Fn.F (a, ())
noncomputable def spigotref13_Free.S1 (i : Int) (b0 : (List Int)) (b02 : (List Bool)) (b03 : Int) (l1 : (List Int)) : St := ⟨[(1, (.ptr 0 [])), (4, (.sl 1)), (5, (.v (.int .i64) i))], [(0, some (.box (.agg [(.v (.slice (.int .i64)) b0), (.v (.slice .bool) b02), (.v (.int .i64) b03)]))), (1, some (.row (.int .i64) l1 false))], 2, []⟩
noncomputable def spigotref13_Free.L1 (i : Int) (b0 : (List Int)) (b02 : (List Bool)) (b03 : Int) (l1 : (List Int)) : Option ((List Int) × Bool × Unit) := res spigotref13_Free.c (atLoop spigotref13_Free.b [1, 1, 0, 1, 0]) (spigotref13_Free.S1 i b0 b02 b03 l1)
noncomputable def spigotref13_Free.S2 (i : Int) (b0 : (List Int)) (b02 : (List Bool)) (b03 : Int) (l1 : (List Int)) : St := ⟨[(1, (.ptr 0 [])), (4, (.sl 1)), (5, (.v (.int .i64) i))], [(0, some (.box (.agg [(.v (.slice (.int .i64)) b0), (.v (.slice .bool) b02), (.v (.int .i64) b03)]))), (1, some (.row (.int .i64) l1 false))], 2, []⟩
noncomputable def spigotref13_Free.L2 (i : Int) (b0 : (List Int)) (b02 : (List Bool)) (b03 : Int) (l1 : (List Int)) : Option ((List Int) × Bool × Unit) := res spigotref13_Free.c (atJoin spigotref13_Free.b [1, 1, 0, 1, 0, 0, 0, 1]) (spigotref13_Free.S2 i b0 b02 b03 l1)
noncomputable def spigotref13_Free.S3 (i : Int) (b0 : (List Int)) (b02 : (List Bool)) (b03 : Int) (l1 : (List Int)) : St := ⟨[(1, (.ptr 0 [])), (4, (.sl 1)), (5, (.v (.int .i64) i))], [(0, some (.box (.agg [(.v (.slice (.int .i64)) b0), (.v (.slice .bool) b02), (.v (.int .i64) b03)]))), (1, some (.row (.int .i64) l1 false))], 2, []⟩
noncomputable def spigotref13_Free.L3 (i : Int) (b0 : (List Int)) (b02 : (List Bool)) (b03 : Int) (l1 : (List Int)) : Option ((List Int) × Bool × Unit) := res spigotref13_Free.c (atJoin spigotref13_Free.b [1, 1, 0, 1, 0, 0, 1, 0, 0, 0, 1]) (spigotref13_Free.S3 i b0 b02 b03 l1)
theorem spigotref13_Free.spec : FnSpec Try.prog globs 68 spigotref13_Free.Fn := spec_of (E := spigotref13_Free.E) (envOk_at tabOk eqOk primsOk (.cons spigotref13_In.spec <| .nil)) mixOk Try.func68 (by kernel_rfl)
theorem spigotref13_Free.L1_eq (i : Int) (b0 : (List Int)) (b02 : (List Bool)) (b03 : Int) (l1 : (List Int)) : spigotref13_Free.L1 i b0 b02 b03 l1 =
  bif (i != (-1)) then
    spigotref13_Free.L2 i b0 b02 b03 l1
  else
    some (l1, true, ()) := res_eq (by kernel_rfl)
theorem spigotref13_Free.L2_eq (i : Int) (b0 : (List Int)) (b02 : (List Bool)) (b03 : Int) (l1 : (List Int)) : spigotref13_Free.L2 i b0 b02 b03 l1 =
  bif (decide ((i : Int) < 0)) then
    some (([] : List Int), false, ())
  else
    bif (decide ((i : Int) ≥ ((List.length b0 : Int)))) then
      some (([] : List Int), false, ())
    else
      (spigotref13_In.F l1 i).bind fun r0 =>
      bif r0.1 then
        some (([] : List Int), false, ())
      else
        spigotref13_Free.L3 i b0 b02 b03 l1 := res_eq (by kernel_rfl)
theorem spigotref13_Free.L3_eq (i : Int) (b0 : (List Int)) (b02 : (List Bool)) (b03 : Int) (l1 : (List Int)) : spigotref13_Free.L3 i b0 b02 b03 l1 =
  bif (lim ((List.length l1) + (List.length ([i] : List Int))) (.int .i64)) then
    bif (decide ((0 : Int) ≤ i ∧ (i : Int) < ((List.length b0 : Int)))) then
      spigotref13_Free.L1 (List.getD b0 (Int.toNat i) 0) b0 b02 b03 (l1 ++ ([i] : List Int))
    else none
  else none := res_eq (by kernel_rfl)
theorem spigotref13_Free.F_eq (a : t2.den) : spigotref13_Free.F a =
  spigotref13_Free.L1 a.2.2.1 a.1 a.2.1 a.2.2.1 ([] : List Int) := by kernel_rfl
/-! ### spigot/spigotref13.Check (56) -/
noncomputable def spigotref13_Check.sg : Sig := ⟨[.val t2], [((.int .i64), true)]⟩
noncomputable def spigotref13_Check.E : Env := ⟨tl, fun i => look i [(62, spigotref13_In.Fn), (68, spigotref13_Free.Fn)], [], eqs, globs, prims⟩
noncomputable def spigotref13_Check.c := cxOf spigotref13_Check.E spigotref13_Check.sg Try.f56
noncomputable def spigotref13_Check.b := body Try.f56
noncomputable def spigotref13_Check.Fn : Fun := fnOf spigotref13_Check.E spigotref13_Check.sg Try.f56
noncomputable def spigotref13_Check.F (a : t2.den) : Option (Int × Unit) := spigotref13_Check.Fn.F (a, ())
noncomputable def spigotref13_Check.S1 (b0 : (List Int)) (b02 : (List Bool)) (b03 : Int) : St := ⟨[(1, (.ptr 0 []))], [(0, some (.box (.agg [(.v (.slice (.int .i64)) b0), (.v (.slice .bool) b02), (.v (.int .i64) b03)])))], 1, []⟩
noncomputable def spigotref13_Check.L1 (b0 : (List Int)) (b02 : (List Bool)) (b03 : Int) : Option (Int × Unit) := res spigotref13_Check.c (atJoin spigotref13_Check.b [1, 0, 1]) (spigotref13_Check.S1 b0 b02 b03)
noncomputable def spigotref13_Check.S2 (b0 : (List Int)) (b02 : (List Bool)) (b03 : Int) (l1 : (List Int)) : St := ⟨[(1, (.ptr 0 [])), (3, (.sl 1))], [(0, some (.box (.agg [(.v (.slice (.int .i64)) b0), (.v (.slice .bool) b02), (.v (.int .i64) b03)]))), (1, some (.row (.int .i64) l1 false))], 2, []⟩
noncomputable def spigotref13_Check.L2 (b0 : (List Int)) (b02 : (List Bool)) (b03 : Int) (l1 : (List Int)) : Option (Int × Unit) := res spigotref13_Check.c (atJoin spigotref13_Check.b [1, 1, 1, 0, 1]) (spigotref13_Check.S2 b0 b02 b03 l1)
noncomputable def spigotref13_Check.S3 (i : Int) (b0 : (List Int)) (b02 : (List Bool)) (b03 : Int) (l1 : (List Int)) : St := ⟨[(1, (.ptr 0 [])), (3, (.sl 1)), (5, (.v (.int .i64) i))], [(0, some (.box (.agg [(.v (.slice (.int .i64)) b0), (.v (.slice .bool) b02), (.v (.int .i64) b03)]))), (1, some (.row (.int .i64) l1 false))], 2, []⟩
noncomputable def spigotref13_Check.L3 (i : Int) (b0 : (List Int)) (b02 : (List Bool)) (b03 : Int) (l1 : (List Int)) : Option (Int × Unit) := res spigotref13_Check.c (atLoop spigotref13_Check.b [1, 1, 1, 1, 0, 1, 0]) (spigotref13_Check.S3 i b0 b02 b03 l1)
noncomputable def spigotref13_Check.S4 (i : Int) (b0 : (List Int)) (b02 : (List Bool)) (b03 : Int) (l1 : (List Int)) : St := ⟨[(1, (.ptr 0 [])), (3, (.sl 1)), (5, (.v (.int .i64) i))], [(0, some (.box (.agg [(.v (.slice (.int .i64)) b0), (.v (.slice .bool) b02), (.v (.int .i64) b03)]))), (1, some (.row (.int .i64) l1 false))], 2, []⟩
noncomputable def spigotref13_Check.L4 (i : Int) (b0 : (List Int)) (b02 : (List Bool)) (b03 : Int) (l1 : (List Int)) : Option (Int × Unit) := res spigotref13_Check.c (atJoin spigotref13_Check.b [1, 1, 1, 1, 0, 1, 0, 0, 0, 1]) (spigotref13_Check.S4 i b0 b02 b03 l1)
noncomputable def spigotref13_Check.S5 (i : Int) (b0 : (List Int)) (b02 : (List Bool)) (b03 : Int) (l1 : (List Int)) : St := ⟨[(1, (.ptr 0 [])), (3, (.sl 1)), (5, (.v (.int .i64) i))], [(0, some (.box (.agg [(.v (.slice (.int .i64)) b0), (.v (.slice .bool) b02), (.v (.int .i64) b03)]))), (1, some (.row (.int .i64) l1 false))], 2, []⟩
noncomputable def spigotref13_Check.L5 (i : Int) (b0 : (List Int)) (b02 : (List Bool)) (b03 : Int) (l1 : (List Int)) : Option (Int × Unit) := res spigotref13_Check.c (atJoin spigotref13_Check.b [1, 1, 1, 1, 0, 1, 0, 0, 1, 0, 0, 1]) (spigotref13_Check.S5 i b0 b02 b03 l1)
theorem spigotref13_Check.spec : FnSpec Try.prog globs 56 spigotref13_Check.Fn := spec_of (E := spigotref13_Check.E) (envOk_at tabOk eqOk primsOk (.cons spigotref13_In.spec <| .cons spigotref13_Free.spec <| .nil)) mixOk Try.func56 (by kernel_rfl)
theorem spigotref13_Check.L1_eq (b0 : (List Int)) (b02 : (List Bool)) (b03 : Int) : spigotref13_Check.L1 b0 b02 b03 =
  (spigotref13_Free.F (b0, b02, b03, ())).bind fun r0 =>
  bif (!r0.2.1) then
    some (8, ())
  else
    spigotref13_Check.L2 b0 b02 b03 r0.1 := res_eq (by kernel_rfl)
theorem spigotref13_Check.L2_eq (b0 : (List Int)) (b02 : (List Bool)) (b03 : Int) (l1 : (List Int)) : spigotref13_Check.L2 b0 b02 b03 l1 =
  spigotref13_Check.L3 0 b0 b02 b03 l1 := res_eq (by kernel_rfl)
theorem spigotref13_Check.L3_eq (i : Int) (b0 : (List Int)) (b02 : (List Bool)) (b03 : Int) (l1 : (List Int)) : spigotref13_Check.L3 i b0 b02 b03 l1 =
  bif (decide ((i : Int) < ((List.length b02 : Int)))) then
    spigotref13_Check.L4 i b0 b02 b03 l1
  else
    some (0, ()) := res_eq (by kernel_rfl)
theorem spigotref13_Check.L4_eq (i : Int) (b0 : (List Int)) (b02 : (List Bool)) (b03 : Int) (l1 : (List Int)) : spigotref13_Check.L4 i b0 b02 b03 l1 =
  bif (decide ((0 : Int) ≤ i ∧ (i : Int) < ((List.length b02 : Int)))) then
    (spigotref13_In.F l1 i).bind fun r0 =>
    bif ((List.getD b02 (Int.toNat i) false) == r0.1) then
      some (8, ())
    else
      bif (decide ((0 : Int) ≤ i ∧ (i : Int) < ((List.length b02 : Int)))) then
        bif (List.getD b02 (Int.toNat i) false) then
          bif (decide ((0 : Int) ≤ i ∧ (i : Int) < ((List.length b0 : Int)))) then
            bif ((List.getD b0 (Int.toNat i) 0) != (-1)) then
              some (8, ())
            else
              spigotref13_Check.L5 i b0 b02 b03 l1
          else none
        else
          spigotref13_Check.L5 i b0 b02 b03 l1
      else none
  else none := res_eq (by kernel_rfl)
theorem spigotref13_Check.L5_eq (i : Int) (b0 : (List Int)) (b02 : (List Bool)) (b03 : Int) (l1 : (List Int)) : spigotref13_Check.L5 i b0 b02 b03 l1 =
  spigotref13_Check.L3 (IntKind.wrap .i64 (i + 1)) b0 b02 b03 l1 := res_eq (by kernel_rfl)
theorem spigotref13_Check.F_eq (a : t2.den) : spigotref13_Check.F a =
  bif (decide ((((List.length a.1 : Int)) : Int) < 1)) then
    some (8, ())
  else
    bif (decide ((((List.length a.1 : Int)) : Int) > 16)) then
      some (8, ())
    else
      bif (((List.length a.2.1 : Int)) != ((List.length a.1 : Int))) then
        some (8, ())
      else
        spigotref13_Check.L1 a.1 a.2.1 a.2.2.1 := by kernel_rfl
/-! ### spigot/spigotref14.Count (60) -/
noncomputable def spigotref14_Count.sg : Sig := ⟨[.val (.slice t3)], [((.int .i64), true)]⟩
noncomputable def spigotref14_Count.E : Env := ⟨tl, fun i => look i [], [], eqs, globs, prims⟩
noncomputable def spigotref14_Count.c := cxOf spigotref14_Count.E spigotref14_Count.sg Try.f60
noncomputable def spigotref14_Count.b := body Try.f60
noncomputable def spigotref14_Count.Fn : Fun := fnOf spigotref14_Count.E spigotref14_Count.sg Try.f60
noncomputable def spigotref14_Count.F (x : (List t3.den)) : Option (Int × Unit) := spigotref14_Count.Fn.F (x, ())
noncomputable def spigotref14_Count.S1 (x : (List t3.den)) (n : Int) (i : Int) : St := ⟨[(0, (.v (.slice t3) x)), (3, (.v (.int .i64) n)), (4, (.v (.int .i64) i))], [], 0, []⟩
noncomputable def spigotref14_Count.L1 (x : (List t3.den)) (n : Int) (i : Int) : Option (Int × Unit) := res spigotref14_Count.c (atLoop spigotref14_Count.b [1, 1, 0, 1, 0]) (spigotref14_Count.S1 x n i)
noncomputable def spigotref14_Count.S2 (x : (List t3.den)) (n : Int) (i : Int) : St := ⟨[(0, (.v (.slice t3) x)), (3, (.v (.int .i64) n)), (4, (.v (.int .i64) i))], [], 0, []⟩
noncomputable def spigotref14_Count.L2 (x : (List t3.den)) (n : Int) (i : Int) : Option (Int × Unit) := res spigotref14_Count.c (atJoin spigotref14_Count.b [1, 1, 0, 1, 0, 0, 0, 1]) (spigotref14_Count.S2 x n i)
noncomputable def spigotref14_Count.S3 (x : (List t3.den)) (n : Int) (i : Int) : St := ⟨[(0, (.v (.slice t3) x)), (3, (.v (.int .i64) n)), (4, (.v (.int .i64) i))], [], 0, []⟩
noncomputable def spigotref14_Count.L3 (x : (List t3.den)) (n : Int) (i : Int) : Option (Int × Unit) := res spigotref14_Count.c (atJoin spigotref14_Count.b [1, 1, 0, 1, 0, 0, 1, 0, 0, 1]) (spigotref14_Count.S3 x n i)
theorem spigotref14_Count.spec : FnSpec Try.prog globs 60 spigotref14_Count.Fn := spec_of (E := spigotref14_Count.E) (envOk_at tabOk eqOk primsOk (.nil)) mixOk Try.func60 (by kernel_rfl)
theorem spigotref14_Count.L1_eq (x : (List t3.den)) (n : Int) (i : Int) : spigotref14_Count.L1 x n i =
  bif (decide ((i : Int) < ((List.length x : Int)))) then
    spigotref14_Count.L2 x n i
  else
    some (n, ()) := res_eq (by kernel_rfl)
theorem spigotref14_Count.L2_eq (x : (List t3.den)) (n : Int) (i : Int) : spigotref14_Count.L2 x n i =
  bif (decide ((0 : Int) ≤ i ∧ (i : Int) < ((List.length x : Int)))) then
    bif (((List.getD x (Int.toNat i) (0, 0, false, ())).2).2).1 then
      spigotref14_Count.L3 x (IntKind.wrap .i64 (n + 1)) i
    else
      spigotref14_Count.L3 x n i
  else none := res_eq (by kernel_rfl)
theorem spigotref14_Count.L3_eq (x : (List t3.den)) (n : Int) (i : Int) : spigotref14_Count.L3 x n i =
  spigotref14_Count.L1 x n (IntKind.wrap .i64 (i + 1)) := res_eq (by kernel_rfl)
theorem spigotref14_Count.F_eq (x : (List t3.den)) : spigotref14_Count.F x =
  spigotref14_Count.L1 x 0 0 := by kernel_rfl
/-! ### spigot/spigotref14.At (69) -/
noncomputable def spigotref14_At.sg : Sig := ⟨[.val (.slice t3), .val (.int .u32)], [((.int .i64), true)]⟩
noncomputable def spigotref14_At.E : Env := ⟨tl, fun i => look i [], [], eqs, globs, prims⟩
noncomputable def spigotref14_At.c := cxOf spigotref14_At.E spigotref14_At.sg Try.f69
noncomputable def spigotref14_At.b := body Try.f69
noncomputable def spigotref14_At.Fn : Fun := fnOf spigotref14_At.E spigotref14_At.sg Try.f69
noncomputable def spigotref14_At.F (x : (List t3.den)) (key : Int) : Option (Int × Unit) := spigotref14_At.Fn.F (x, key, ())
noncomputable def spigotref14_At.S1 (x : (List t3.den)) (key : Int) (i : Int) : St := ⟨[(0, (.v (.slice t3) x)), (1, (.v (.int .u32) key)), (5, (.v (.int .i64) i))], [], 0, []⟩
noncomputable def spigotref14_At.L1 (x : (List t3.den)) (key : Int) (i : Int) : Option (Int × Unit) := res spigotref14_At.c (atLoop spigotref14_At.b [1, 0, 1, 0]) (spigotref14_At.S1 x key i)
noncomputable def spigotref14_At.S2 (x : (List t3.den)) (key : Int) (i : Int) : St := ⟨[(0, (.v (.slice t3) x)), (1, (.v (.int .u32) key)), (5, (.v (.int .i64) i))], [], 0, []⟩
noncomputable def spigotref14_At.L2 (x : (List t3.den)) (key : Int) (i : Int) : Option (Int × Unit) := res spigotref14_At.c (atJoin spigotref14_At.b [1, 0, 1, 0, 0, 0, 1]) (spigotref14_At.S2 x key i)
noncomputable def spigotref14_At.S3 (x : (List t3.den)) (key : Int) (i : Int) : St := ⟨[(0, (.v (.slice t3) x)), (1, (.v (.int .u32) key)), (5, (.v (.int .i64) i))], [], 0, []⟩
noncomputable def spigotref14_At.L3 (x : (List t3.den)) (key : Int) (i : Int) : Option (Int × Unit) := res spigotref14_At.c (atJoin spigotref14_At.b [1, 0, 1, 0, 0, 1, 0, 0, 1]) (spigotref14_At.S3 x key i)
theorem spigotref14_At.spec : FnSpec Try.prog globs 69 spigotref14_At.Fn := spec_of (E := spigotref14_At.E) (envOk_at tabOk eqOk primsOk (.nil)) mixOk Try.func69 (by kernel_rfl)
theorem spigotref14_At.L1_eq (x : (List t3.den)) (key : Int) (i : Int) : spigotref14_At.L1 x key i =
  bif (decide ((i : Int) < ((List.length x : Int)))) then
    spigotref14_At.L2 x key i
  else
    some ((-1), ()) := res_eq (by kernel_rfl)
theorem spigotref14_At.L2_eq (x : (List t3.den)) (key : Int) (i : Int) : spigotref14_At.L2 x key i =
  bif (decide ((0 : Int) ≤ i ∧ (i : Int) < ((List.length x : Int)))) then
    bif (((List.getD x (Int.toNat i) (0, 0, false, ())).2).2).1 then
      bif (decide ((0 : Int) ≤ i ∧ (i : Int) < ((List.length x : Int)))) then
        bif ((List.getD x (Int.toNat i) (0, 0, false, ())).1 == key) then
          some (i, ())
        else
          spigotref14_At.L3 x key i
      else none
    else
      spigotref14_At.L3 x key i
  else none := res_eq (by kernel_rfl)
theorem spigotref14_At.L3_eq (x : (List t3.den)) (key : Int) (i : Int) : spigotref14_At.L3 x key i =
  spigotref14_At.L1 x key (IntKind.wrap .i64 (i + 1)) := res_eq (by kernel_rfl)
theorem spigotref14_At.F_eq (x : (List t3.den)) (key : Int) : spigotref14_At.F x key =
  spigotref14_At.L1 x key 0 := by kernel_rfl
/-! ### spigot/spigotref14.Home (70) -/
noncomputable def spigotref14_Home.sg : Sig := ⟨[.val (.int .u32)], [((.int .i64), true)]⟩
noncomputable def spigotref14_Home.E : Env := ⟨tl, fun i => look i [], [], eqs, globs, prims⟩
noncomputable def spigotref14_Home.c := cxOf spigotref14_Home.E spigotref14_Home.sg Try.f70
noncomputable def spigotref14_Home.b := body Try.f70
noncomputable def spigotref14_Home.Fn : Fun := fnOf spigotref14_Home.E spigotref14_Home.sg Try.f70
noncomputable def spigotref14_Home.F (key : Int) : Option (Int × Unit) := spigotref14_Home.Fn.F (key, ())
theorem spigotref14_Home.spec : FnSpec Try.prog globs 70 spigotref14_Home.Fn := spec_of (E := spigotref14_Home.E) (envOk_at tabOk eqOk primsOk (.nil)) mixOk Try.func70 (by kernel_rfl)
theorem spigotref14_Home.F_eq (key : Int) : spigotref14_Home.F key =
  bif (decide ((4294967296 : Int) ≠ 0)) then
    bif (decide ((268435456 : Int) ≠ 0)) then
      some ((IntKind.wrap .i64 (IntKind.wrap .u64 (Int.tdiv (Int.tmod (IntKind.wrap .u64 ((IntKind.wrap .u64 key) * 2654435769)) 4294967296) 268435456))), ())
    else none
  else none := by kernel_rfl
/-! ### spigot/spigotref14.Check (57) -/
noncomputable def spigotref14_Check.sg : Sig := ⟨[.val (.slice t3)], [((.int .i64), true)]⟩
noncomputable def spigotref14_Check.E : Env := ⟨tl, fun i => look i [(60, spigotref14_Count.Fn), (69, spigotref14_At.Fn), (70, spigotref14_Home.Fn)], [], eqs, globs, prims⟩
noncomputable def spigotref14_Check.c := cxOf spigotref14_Check.E spigotref14_Check.sg Try.f57
noncomputable def spigotref14_Check.b := body Try.f57
noncomputable def spigotref14_Check.Fn : Fun := fnOf spigotref14_Check.E spigotref14_Check.sg Try.f57
noncomputable def spigotref14_Check.F (x : (List t3.den)) : Option (Int × Unit) := spigotref14_Check.Fn.F (x, ())
noncomputable def spigotref14_Check.S1 (x : (List t3.den)) : St := ⟨[(0, (.v (.slice t3) x))], [], 0, []⟩
noncomputable def spigotref14_Check.L1 (x : (List t3.den)) : Option (Int × Unit) := res spigotref14_Check.c (atJoin spigotref14_Check.b [1, 0, 1]) (spigotref14_Check.S1 x)
noncomputable def spigotref14_Check.S2 (x : (List t3.den)) (i : Int) : St := ⟨[(0, (.v (.slice t3) x)), (3, (.v (.int .i64) i))], [], 0, []⟩
noncomputable def spigotref14_Check.L2 (x : (List t3.den)) (i : Int) : Option (Int × Unit) := res spigotref14_Check.c (atLoop spigotref14_Check.b [1, 1, 0, 1, 0]) (spigotref14_Check.S2 x i)
noncomputable def spigotref14_Check.S3 (x : (List t3.den)) (i : Int) : St := ⟨[(0, (.v (.slice t3) x)), (3, (.v (.int .i64) i))], [], 0, []⟩
noncomputable def spigotref14_Check.L3 (x : (List t3.den)) (i : Int) : Option (Int × Unit) := res spigotref14_Check.c (atJoin spigotref14_Check.b [1, 1, 0, 1, 0, 0, 0, 1]) (spigotref14_Check.S3 x i)
noncomputable def spigotref14_Check.S4 (x : (List t3.den)) (i : Int) : St := ⟨[(0, (.v (.slice t3) x)), (3, (.v (.int .i64) i))], [], 0, []⟩
noncomputable def spigotref14_Check.L4 (x : (List t3.den)) (i : Int) : Option (Int × Unit) := res spigotref14_Check.c (atJoin spigotref14_Check.b [1, 1, 0, 1, 0, 0, 1, 0, 0, 0, 1, 0, 0, 1]) (spigotref14_Check.S4 x i)
noncomputable def spigotref14_Check.S5 (x : (List t3.den)) (i : Int) : St := ⟨[(0, (.v (.slice t3) x)), (3, (.v (.int .i64) i))], [], 0, []⟩
noncomputable def spigotref14_Check.L5 (x : (List t3.den)) (i : Int) : Option (Int × Unit) := res spigotref14_Check.c (atJoin spigotref14_Check.b [1, 1, 0, 1, 0, 0, 1, 0, 0, 0, 1]) (spigotref14_Check.S5 x i)
noncomputable def spigotref14_Check.S6 (x : (List t3.den)) (i : Int) : St := ⟨[(0, (.v (.slice t3) x)), (3, (.v (.int .i64) i))], [], 0, []⟩
noncomputable def spigotref14_Check.L6 (x : (List t3.den)) (i : Int) : Option (Int × Unit) := res spigotref14_Check.c (atJoin spigotref14_Check.b [1, 1, 0, 1, 0, 0, 1, 0, 0, 1, 0, 1]) (spigotref14_Check.S6 x i)
noncomputable def spigotref14_Check.S7 (x : (List t3.den)) (i : Int) (k : Int) : St := ⟨[(0, (.v (.slice t3) x)), (3, (.v (.int .i64) i)), (4, (.v (.int .i64) k))], [], 0, []⟩
noncomputable def spigotref14_Check.L7 (x : (List t3.den)) (i : Int) (k : Int) : Option (Int × Unit) := res spigotref14_Check.c (atLoop spigotref14_Check.b [1, 1, 0, 1, 0, 0, 1, 0, 0, 1, 1, 1, 0]) (spigotref14_Check.S7 x i k)
noncomputable def spigotref14_Check.S8 (x : (List t3.den)) (i : Int) (k : Int) : St := ⟨[(0, (.v (.slice t3) x)), (3, (.v (.int .i64) i)), (4, (.v (.int .i64) k))], [], 0, []⟩
noncomputable def spigotref14_Check.L8 (x : (List t3.den)) (i : Int) (k : Int) : Option (Int × Unit) := res spigotref14_Check.c (atJoin spigotref14_Check.b [1, 1, 0, 1, 0, 0, 1, 0, 0, 1, 1, 1, 0, 0, 0, 1]) (spigotref14_Check.S8 x i k)
noncomputable def spigotref14_Check.S9 (x : (List t3.den)) (i : Int) (k : Int) : St := ⟨[(0, (.v (.slice t3) x)), (3, (.v (.int .i64) i)), (4, (.v (.int .i64) k))], [], 0, []⟩
noncomputable def spigotref14_Check.L9 (x : (List t3.den)) (i : Int) (k : Int) : Option (Int × Unit) := res spigotref14_Check.c (atJoin spigotref14_Check.b [1, 1, 0, 1, 0, 0, 1, 0, 0, 1, 1, 1, 0, 0, 1, 0, 0, 1]) (spigotref14_Check.S9 x i k)
theorem spigotref14_Check.spec : FnSpec Try.prog globs 57 spigotref14_Check.Fn := spec_of (E := spigotref14_Check.E) (envOk_at tabOk eqOk primsOk (.cons spigotref14_Count.spec <| .cons spigotref14_At.spec <| .cons spigotref14_Home.spec <| .nil)) mixOk Try.func57 (by kernel_rfl)
theorem spigotref14_Check.L1_eq (x : (List t3.den)) : spigotref14_Check.L1 x =
  spigotref14_Check.L2 x 0 := res_eq (by kernel_rfl)
theorem spigotref14_Check.L2_eq (x : (List t3.den)) (i : Int) : spigotref14_Check.L2 x i =
  bif (decide ((i : Int) < 16)) then
    spigotref14_Check.L3 x i
  else
    some (0, ()) := res_eq (by kernel_rfl)
theorem spigotref14_Check.L3_eq (x : (List t3.den)) (i : Int) : spigotref14_Check.L3 x i =
  bif (decide ((0 : Int) ≤ i ∧ (i : Int) < ((List.length x : Int)))) then
    bif (!((((List.getD x (Int.toNat i) (0, 0, false, ())).2).2).1)) then
      bif (decide ((0 : Int) ≤ i ∧ (i : Int) < ((List.length x : Int)))) then
        bif (!(Ty.beq t3 (List.getD x (Int.toNat i) (0, 0, false, ())) (0, 0, false, ()))) then
          some (8, ())
        else
          spigotref14_Check.L4 x i
      else none
    else
      spigotref14_Check.L5 x i
  else none := res_eq (by kernel_rfl)
theorem spigotref14_Check.L4_eq (x : (List t3.den)) (i : Int) : spigotref14_Check.L4 x i =
  spigotref14_Check.L2 x (IntKind.wrap .i64 (i + 1)) := res_eq (by kernel_rfl)
theorem spigotref14_Check.L5_eq (x : (List t3.den)) (i : Int) : spigotref14_Check.L5 x i =
  bif (decide ((0 : Int) ≤ i ∧ (i : Int) < ((List.length x : Int)))) then
    bif (decide (((((List.getD x (Int.toNat i) (0, 0, false, ())).2).1) : Int) < 0)) then
      some (8, ())
    else
      bif (decide ((0 : Int) ≤ i ∧ (i : Int) < ((List.length x : Int)))) then
        bif (decide (((((List.getD x (Int.toNat i) (0, 0, false, ())).2).1) : Int) ≥ 16)) then
          some (8, ())
        else
          bif (decide ((0 : Int) ≤ i ∧ (i : Int) < ((List.length x : Int)))) then
            (spigotref14_At.F x ((List.getD x (Int.toNat i) (0, 0, false, ())).1)).bind fun r0 =>
            bif (r0.1 != i) then
              some (8, ())
            else
              spigotref14_Check.L6 x i
          else none
      else none
  else none := res_eq (by kernel_rfl)
theorem spigotref14_Check.L6_eq (x : (List t3.den)) (i : Int) : spigotref14_Check.L6 x i =
  bif (decide ((0 : Int) ≤ i ∧ (i : Int) < ((List.length x : Int)))) then
    (spigotref14_Home.F ((List.getD x (Int.toNat i) (0, 0, false, ())).1)).bind fun r0 =>
    spigotref14_Check.L7 x i r0.1
  else none := res_eq (by kernel_rfl)
theorem spigotref14_Check.L7_eq (x : (List t3.den)) (i : Int) (k : Int) : spigotref14_Check.L7 x i k =
  bif (k != i) then
    spigotref14_Check.L8 x i k
  else
    spigotref14_Check.L2 x (IntKind.wrap .i64 (i + 1)) := res_eq (by kernel_rfl)
theorem spigotref14_Check.L8_eq (x : (List t3.den)) (i : Int) (k : Int) : spigotref14_Check.L8 x i k =
  bif (decide ((0 : Int) ≤ k ∧ (k : Int) < ((List.length x : Int)))) then
    bif (!((((List.getD x (Int.toNat k) (0, 0, false, ())).2).2).1)) then
      some (8, ())
    else
      spigotref14_Check.L9 x i k
  else none := res_eq (by kernel_rfl)
theorem spigotref14_Check.L9_eq (x : (List t3.den)) (i : Int) (k : Int) : spigotref14_Check.L9 x i k =
  bif (decide ((16 : Int) ≠ 0)) then
    spigotref14_Check.L7 x i (Int.tmod (IntKind.wrap .i64 (k + 1)) 16)
  else none := res_eq (by kernel_rfl)
theorem spigotref14_Check.F_eq (x : (List t3.den)) : spigotref14_Check.F x =
  bif (((List.length x : Int)) != 16) then
    some (8, ())
  else
    (spigotref14_Count.F x).bind fun r0 =>
    bif (decide ((r0.1 : Int) > 12)) then
      some (8, ())
    else
      spigotref14_Check.L1 x := by kernel_rfl
/-! ### spigot/spigotref15.SameInts (64) -/
noncomputable def spigotref15_SameInts.sg : Sig := ⟨[.val (.slice (.int .i64)), .val (.slice (.int .i64))], [(.bool, true)]⟩
noncomputable def spigotref15_SameInts.E : Env := ⟨tl, fun i => look i [], [], eqs, globs, prims⟩
noncomputable def spigotref15_SameInts.c := cxOf spigotref15_SameInts.E spigotref15_SameInts.sg Try.f64
noncomputable def spigotref15_SameInts.b := body Try.f64
noncomputable def spigotref15_SameInts.Fn : Fun := fnOf spigotref15_SameInts.E spigotref15_SameInts.sg Try.f64
noncomputable def spigotref15_SameInts.F (a : (List Int)) (b : (List Int)) : Option (Bool × Unit) := spigotref15_SameInts.Fn.F (a, b, ())
noncomputable def spigotref15_SameInts.S1 (a : (List Int)) (b : (List Int)) : St := ⟨[(0, (.v (.slice (.int .i64)) a)), (1, (.v (.slice (.int .i64)) b))], [], 0, []⟩
noncomputable def spigotref15_SameInts.L1 (a : (List Int)) (b : (List Int)) : Option (Bool × Unit) := res spigotref15_SameInts.c (atJoin spigotref15_SameInts.b [1, 0, 1]) (spigotref15_SameInts.S1 a b)
noncomputable def spigotref15_SameInts.S2 (a : (List Int)) (b : (List Int)) (i : Int) : St := ⟨[(0, (.v (.slice (.int .i64)) a)), (1, (.v (.slice (.int .i64)) b)), (5, (.v (.int .i64) i))], [], 0, []⟩
noncomputable def spigotref15_SameInts.L2 (a : (List Int)) (b : (List Int)) (i : Int) : Option (Bool × Unit) := res spigotref15_SameInts.c (atLoop spigotref15_SameInts.b [1, 1, 0, 1, 0]) (spigotref15_SameInts.S2 a b i)
noncomputable def spigotref15_SameInts.S3 (a : (List Int)) (b : (List Int)) (i : Int) : St := ⟨[(0, (.v (.slice (.int .i64)) a)), (1, (.v (.slice (.int .i64)) b)), (5, (.v (.int .i64) i))], [], 0, []⟩
noncomputable def spigotref15_SameInts.L3 (a : (List Int)) (b : (List Int)) (i : Int) : Option (Bool × Unit) := res spigotref15_SameInts.c (atJoin spigotref15_SameInts.b [1, 1, 0, 1, 0, 0, 0, 1]) (spigotref15_SameInts.S3 a b i)
noncomputable def spigotref15_SameInts.S4 (a : (List Int)) (b : (List Int)) (i : Int) : St := ⟨[(0, (.v (.slice (.int .i64)) a)), (1, (.v (.slice (.int .i64)) b)), (5, (.v (.int .i64) i))], [], 0, []⟩
noncomputable def spigotref15_SameInts.L4 (a : (List Int)) (b : (List Int)) (i : Int) : Option (Bool × Unit) := res spigotref15_SameInts.c (atJoin spigotref15_SameInts.b [1, 1, 0, 1, 0, 0, 1, 0, 0, 1]) (spigotref15_SameInts.S4 a b i)
theorem spigotref15_SameInts.spec : FnSpec Try.prog globs 64 spigotref15_SameInts.Fn := spec_of (E := spigotref15_SameInts.E) (envOk_at tabOk eqOk primsOk (.nil)) mixOk Try.func64 (by kernel_rfl)
theorem spigotref15_SameInts.L1_eq (a : (List Int)) (b : (List Int)) : spigotref15_SameInts.L1 a b =
  spigotref15_SameInts.L2 a b 0 := res_eq (by kernel_rfl)
theorem spigotref15_SameInts.L2_eq (a : (List Int)) (b : (List Int)) (i : Int) : spigotref15_SameInts.L2 a b i =
  bif (decide ((i : Int) < ((List.length a : Int)))) then
    spigotref15_SameInts.L3 a b i
  else
    some (true, ()) := res_eq (by kernel_rfl)
theorem spigotref15_SameInts.L3_eq (a : (List Int)) (b : (List Int)) (i : Int) : spigotref15_SameInts.L3 a b i =
  bif (decide ((0 : Int) ≤ i ∧ (i : Int) < ((List.length a : Int)))) then
    bif (decide ((0 : Int) ≤ i ∧ (i : Int) < ((List.length b : Int)))) then
      bif ((List.getD a (Int.toNat i) 0) != (List.getD b (Int.toNat i) 0)) then
        some (false, ())
      else
        spigotref15_SameInts.L4 a b i
    else none
  else none := res_eq (by kernel_rfl)
theorem spigotref15_SameInts.L4_eq (a : (List Int)) (b : (List Int)) (i : Int) : spigotref15_SameInts.L4 a b i =
  spigotref15_SameInts.L2 a b (IntKind.wrap .i64 (i + 1)) := res_eq (by kernel_rfl)
theorem spigotref15_SameInts.F_eq (a : (List Int)) (b : (List Int)) : spigotref15_SameInts.F a b =
  bif (((List.length a : Int)) != ((List.length b : Int))) then
    some (false, ())
  else
    spigotref15_SameInts.L1 a b := by kernel_rfl
/-! ### spigot/spigotref15.Same (42) -/
noncomputable def spigotref15_Same.sg : Sig := ⟨[.val t4, .val t4], [(.bool, true)]⟩
noncomputable def spigotref15_Same.E : Env := ⟨tl, fun i => look i [(64, spigotref15_SameInts.Fn)], [], eqs, globs, prims⟩
noncomputable def spigotref15_Same.c := cxOf spigotref15_Same.E spigotref15_Same.sg Try.f42
noncomputable def spigotref15_Same.b := body Try.f42
noncomputable def spigotref15_Same.Fn : Fun := fnOf spigotref15_Same.E spigotref15_Same.sg Try.f42
noncomputable def spigotref15_Same.F (a : t4.den) (b : t4.den) : Option (Bool × Unit) := spigotref15_Same.Fn.F (a, b, ())
theorem spigotref15_Same.spec : FnSpec Try.prog globs 42 spigotref15_Same.Fn := spec_of (E := spigotref15_Same.E) (envOk_at tabOk eqOk primsOk (.cons spigotref15_SameInts.spec <| .nil)) mixOk Try.func42 (by kernel_rfl)
theorem spigotref15_Same.F_eq (a : t4.den) (b : t4.den) : spigotref15_Same.F a b =
  (spigotref15_SameInts.F a.1 b.1).bind fun r0 =>
  bif r0.1 then
    (spigotref15_SameInts.F a.2.1 b.2.1).bind fun r1 =>
    bif r1.1 then
      bif (a.2.2.1 == b.2.2.1) then
        some ((a.2.2.2.1 == b.2.2.2.1), ())
      else
        some (false, ())
    else
      some (false, ())
  else
    some (false, ()) := by kernel_rfl
/-! ### spigot/spigotref15.All (59) -/
noncomputable def spigotref15_All.sg : Sig := ⟨[.val t4], [((.slice (.int .i64)), true), (.bool, true)]⟩
noncomputable def spigotref15_All.E : Env := ⟨tl, fun i => look i [(62, spigotref13_In.Fn)], [], eqs, globs, prims⟩
noncomputable def spigotref15_All.c := cxOf spigotref15_All.E spigotref15_All.sg Try.f59
noncomputable def spigotref15_All.b := body Try.f59
noncomputable def spigotref15_All.Fn : Fun := fnOf spigotref15_All.E spigotref15_All.sg Try.f59
noncomputable def spigotref15_All.F (o : t4.den) : Option ((List Int) × Bool × Unit) := spigotref15_All.Fn.F (o, ())
noncomputable def spigotref15_All.S1 (i : Int) (b0 : (List Int)) (b02 : (List Int)) (b03 : Int) (b04 : Int) (l1 : (List Int)) : St := ⟨[(1, (.ptr 0 [])), (4, (.sl 1)), (5, (.v (.int .i64) i))], [(0, some (.box (.agg [(.v (.slice (.int .i64)) b0), (.v (.slice (.int .i64)) b02), (.v (.int .i64) b03), (.v (.int .i64) b04)]))), (1, some (.row (.int .i64) l1 false))], 2, []⟩
noncomputable def spigotref15_All.L1 (i : Int) (b0 : (List Int)) (b02 : (List Int)) (b03 : Int) (b04 : Int) (l1 : (List Int)) : Option ((List Int) × Bool × Unit) := res spigotref15_All.c (atLoop spigotref15_All.b [1, 1, 0, 1, 0]) (spigotref15_All.S1 i b0 b02 b03 b04 l1)
noncomputable def spigotref15_All.S2 (i : Int) (b0 : (List Int)) (b02 : (List Int)) (b03 : Int) (b04 : Int) (l1 : (List Int)) : St := ⟨[(1, (.ptr 0 [])), (4, (.sl 1)), (5, (.v (.int .i64) i))], [(0, some (.box (.agg [(.v (.slice (.int .i64)) b0), (.v (.slice (.int .i64)) b02), (.v (.int .i64) b03), (.v (.int .i64) b04)]))), (1, some (.row (.int .i64) l1 false))], 2, []⟩
noncomputable def spigotref15_All.L2 (i : Int) (b0 : (List Int)) (b02 : (List Int)) (b03 : Int) (b04 : Int) (l1 : (List Int)) : Option ((List Int) × Bool × Unit) := res spigotref15_All.c (atJoin spigotref15_All.b [1, 1, 0, 1, 0, 0, 0, 1]) (spigotref15_All.S2 i b0 b02 b03 b04 l1)
noncomputable def spigotref15_All.S3 (i : Int) (b0 : (List Int)) (b02 : (List Int)) (b03 : Int) (b04 : Int) (l1 : (List Int)) : St := ⟨[(1, (.ptr 0 [])), (4, (.sl 1)), (5, (.v (.int .i64) i))], [(0, some (.box (.agg [(.v (.slice (.int .i64)) b0), (.v (.slice (.int .i64)) b02), (.v (.int .i64) b03), (.v (.int .i64) b04)]))), (1, some (.row (.int .i64) l1 false))], 2, []⟩
noncomputable def spigotref15_All.L3 (i : Int) (b0 : (List Int)) (b02 : (List Int)) (b03 : Int) (b04 : Int) (l1 : (List Int)) : Option ((List Int) × Bool × Unit) := res spigotref15_All.c (atJoin spigotref15_All.b [1, 1, 0, 1, 0, 0, 1, 0, 0, 0, 1]) (spigotref15_All.S3 i b0 b02 b03 b04 l1)
theorem spigotref15_All.spec : FnSpec Try.prog globs 59 spigotref15_All.Fn := spec_of (E := spigotref15_All.E) (envOk_at tabOk eqOk primsOk (.cons spigotref13_In.spec <| .nil)) mixOk Try.func59 (by kernel_rfl)
theorem spigotref15_All.L1_eq (i : Int) (b0 : (List Int)) (b02 : (List Int)) (b03 : Int) (b04 : Int) (l1 : (List Int)) : spigotref15_All.L1 i b0 b02 b03 b04 l1 =
  bif (i != (-1)) then
    spigotref15_All.L2 i b0 b02 b03 b04 l1
  else
    some (l1, true, ()) := res_eq (by kernel_rfl)
theorem spigotref15_All.L2_eq (i : Int) (b0 : (List Int)) (b02 : (List Int)) (b03 : Int) (b04 : Int) (l1 : (List Int)) : spigotref15_All.L2 i b0 b02 b03 b04 l1 =
  bif (decide ((i : Int) < 0)) then
    some (([] : List Int), false, ())
  else
    bif (decide ((i : Int) ≥ ((List.length b02 : Int)))) then
      some (([] : List Int), false, ())
    else
      (spigotref13_In.F l1 i).bind fun r0 =>
      bif r0.1 then
        some (([] : List Int), false, ())
      else
        spigotref15_All.L3 i b0 b02 b03 b04 l1 := res_eq (by kernel_rfl)
theorem spigotref15_All.L3_eq (i : Int) (b0 : (List Int)) (b02 : (List Int)) (b03 : Int) (b04 : Int) (l1 : (List Int)) : spigotref15_All.L3 i b0 b02 b03 b04 l1 =
  bif (lim ((List.length l1) + (List.length ([i] : List Int))) (.int .i64)) then
    bif (decide ((0 : Int) ≤ i ∧ (i : Int) < ((List.length b02 : Int)))) then
      spigotref15_All.L1 (List.getD b02 (Int.toNat i) 0) b0 b02 b03 b04 (l1 ++ ([i] : List Int))
    else none
  else none := res_eq (by kernel_rfl)
theorem spigotref15_All.F_eq (o : t4.den) : spigotref15_All.F o =
  spigotref15_All.L1 o.2.2.1 o.1 o.2.1 o.2.2.1 o.2.2.2.1 ([] : List Int) := by kernel_rfl
end Go.Proofs.Ytecbgbfegpnilaa.PM
