/- Contracts and equations of the functions, printed by a program of this session. -/
import Derived.Test.YtkihjakbbcajbaaGreatPM30
import Derived.Test.YtkihjakbbcajbaaGreatPrim
import Derived.KernelRfl
namespace Go.Proofs.YtkihjakbbcajbaaGreat.PM
open Go Go.Proofs
noncomputable section
set_option linter.unusedVariables false
def tl : List (Nat × TI) := [(1, .other), (2, .data (.int .i64)), (3, .data (.int .i64)), (4, .data .bool), (5, .data (.int .u8)), (6, .data (.int .u8)), (7, .data t14), (8, .data t14), (9, .data .str), (10, .data .str), (11, .data .str), (12, .data (.int .u64)), (13, .data t15), (14, .data t15), (15, .other), (16, .other), (17, .other), (21, .data (.int .i32)), (22, .data (.slice (.int .u8))), (23, .data (.int .u64)), (24, .data (.arr 32 (.int .u8))), (25, .data (.arr 32 (.int .u8))), (26, .data (.int .u32)), (27, .data (.arr 16 (.int .u32))), (28, .data (.slice t7)), (29, .data t8), (30, .data t8), (31, .data (.int .i64)), (33, .other), (35, .other), (37, .other), (39, .other), (40, .other), (41, .other), (42, .other), (43, .other), (45, .other), (46, .other), (47, .other), (48, .other), (49, .data t0), (50, .data t0), (51, .data t1), (52, .data t1), (53, .data (.arr 3 t0)), (54, .data (.slice (.int .u32))), (55, .data (.slice t1)), (56, .data (.slice (.int .i64))), (57, .data (.slice .bool)), (58, .data t2), (59, .data t2), (60, .data (.slice t3)), (61, .data t4), (62, .data t4), (63, .data t5), (64, .data t5), (65, .data t6), (66, .data t6), (67, .data t7), (68, .data t7), (70, .other), (71, .other), (72, .other), (73, .other), (74, .other), (75, .other), (76, .data t12), (77, .data t12), (78, .other), (79, .data (.slice t10)), (80, .data t11), (81, .data t11), (82, .data (.arr 2 (.int .i64))), (83, .data (.slice t9)), (84, .data t10), (85, .data t10), (86, .other), (87, .other), (88, .other), (89, .data t12), (90, .data t12), (91, .other), (92, .other), (93, .other), (94, .other), (95, .other), (96, .other), (97, .other), (99, .other), (100, .data t13), (101, .data t13), (102, .other), (103, .other), (105, .other), (106, .other), (107, .other), (108, .other), (109, .other), (110, .data (.int .u64)), (111, .other), (112, .other), (113, .other), (114, .other), (115, .other), (116, .other), (117, .other), (118, .other), (119, .other), (120, .other), (121, .other), (122, .other), (123, .other), (124, .other), (126, .other), (127, .other), (129, .other), (130, .other), (131, .other), (132, .other), (133, .other), (134, .other), (135, .data t9), (136, .data t9), (137, .other), (138, .other), (139, .other), (140, .other), (142, .other), (143, .other), (144, .other), (145, .other), (147, .other), (148, .other), (149, .other), (150, .other), (151, .other), (152, .other), (153, .other), (154, .other), (155, .other), (156, .other), (157, .other), (158, .other), (159, .other), (160, .other), (162, .other), (164, .other), (166, .other), (168, .other), (169, .other), (170, .other), (171, .other), (172, .other), (173, .other), (174, .other), (176, .other), (178, .other), (179, .other), (180, .other), (181, .other), (182, .other), (183, .other), (185, .other), (186, .other), (187, .other), (188, .other), (190, .other), (191, .other), (192, .other), (194, .other), (195, .other), (196, .other), (197, .other), (198, .other), (199, .other), (200, .other), (201, .other), (203, .other), (205, .other), (206, .other), (207, .other), (208, .other), (209, .other), (210, .other), (211, .other), (212, .other), (214, .other), (215, .other), (216, .other), (217, .other), (218, .other), (219, .data (.arr 4 (.int .i64))), (220, .other), (221, .other), (222, .other), (223, .data t3), (224, .data t3), (225, .other), (226, .other), (227, .other), (228, .other), (229, .other), (230, .other), (232, .other), (233, .other), (234, .other), (235, .other), (236, .other), (237, .other), (239, .other), (240, .other), (241, .other), (243, .other), (245, .other), (246, .other), (247, .other), (248, .other), (249, .other), (250, .other), (251, .other), (252, .other), (253, .other), (254, .other), (256, .other), (257, .other), (258, .other), (259, .other), (260, .other), (261, .other), (262, .other), (264, .other), (266, .other), (267, .other), (268, .other), (274, .other), (275, .data (.int .u8)), (276, .data (.int .u8)), (277, .other), (278, .other), (279, .data (.int .i32)), (280, .data (.int .i32))]
def eqs : List Nat := [25, 27, 50, 52, 53, 66, 82, 136, 219, 224]
def globs : List (Nat × PV) := []
def prims : List (Nat × Prim) := [(48, .clone (.int .u32)), (139, .clone (.int .i64)), (144, .clone t1), (145, .clone .bool), (146, .clone t3)]
theorem primsOk : PrimsOk Tryz.prog prims := .cons clone48 <| .cons clone139 <| .cons clone144 <| .cons clone145 <| .cons clone146 <| .nil
theorem tabOk : tabB Tryz.prog tl = true := by kernel_rfl
theorem eqOk : EqOk Tryz.prog ⟨tl, fun _ => none, [], eqs, [], []⟩ := eqOk_of tabOk (by kernel_rfl)
theorem mixOk : Tryz.prog.follows .mixedOrders = true := by kernel_rfl
/-! ### spigot/arena.New (102) -/
def arena_New.sg : Sig := ⟨[.val (.int .i64)], [(t2, true), ((.int .i64), true)]⟩
def arena_New.E : Env := ⟨tl, fun i => look i [], [], eqs, globs, prims⟩
def arena_New.c := cxOf arena_New.E arena_New.sg Tryz.f102
def arena_New.b := body Tryz.f102
def arena_New.Fn : Fun := fnOf arena_New.E arena_New.sg Tryz.f102
def arena_New.F (n : Int) : Option (t2.den × Int × Unit) := arena_New.Fn.F (n, ())
def arena_New.S1 (n : Int) (l1 : List Int) (l2 : List Bool) : St := ⟨[(0, (.v (.int .i64) n)), (2, (.ptr 0 []))], [(0, some (.box (.agg [(.sl 1), (.sl 2), (.v (.int .i64) 0)]))), (1, some (.row (.int .i64) l1 false)), (2, some (.row .bool l2 false))], 3, []⟩
def arena_New.L1 (n : Int) (l1 : List Int) (l2 : List Bool) : Option (t2.den × Int × Unit) := res arena_New.c (atJoin arena_New.b [1, 0, 1]) (arena_New.S1 n l1 l2)
def arena_New.S2 (n t17_ : Int) (l2 : List Int) (l3 : List Bool) (l4 : List Int) (l5 : List Bool) : St := ⟨[(0, (.v (.int .i64) n)), (2, (.ptr 0 [])), (4, (.ptr 1 [])), (16, (.v (.int .i64) n)), (17, (.v (.int .i64) t17_))], [(0, some (.box (.agg [(.sl 2), (.sl 3), (.v (.int .i64) 0)]))), (1, some (.box (.agg [(.sl 4), (.sl 5), (.v (.int .i64) 0)]))), (2, some (.row (.int .i64) l2 false)), (3, some (.row .bool l3 false)), (4, some (.row (.int .i64) l4 false)), (5, some (.row .bool l5 false))], 6, []⟩
def arena_New.L2 (n t17_ : Int) (l2 : List Int) (l3 : List Bool) (l4 : List Int) (l5 : List Bool) : Option (t2.den × Int × Unit) := res arena_New.c (atLoop arena_New.b [1, 1, 1, 0, 1, 0]) (arena_New.S2 n t17_ l2 l3 l4 l5)
def arena_New.S3 (n t17_ : Int) (l2 : List Int) (l3 : List Bool) (l4 : List Int) (l5 : List Bool) : St := ⟨[(0, (.v (.int .i64) n)), (2, (.ptr 0 [])), (4, (.ptr 1 [])), (16, (.v (.int .i64) n)), (17, (.v (.int .i64) t17_))], [(0, some (.box (.agg [(.sl 2), (.sl 3), (.v (.int .i64) 0)]))), (1, some (.box (.agg [(.sl 4), (.sl 5), (.v (.int .i64) 0)]))), (2, some (.row (.int .i64) l2 false)), (3, some (.row .bool l3 false)), (4, some (.row (.int .i64) l4 false)), (5, some (.row .bool l5 false))], 6, []⟩
def arena_New.L3 (n t17_ : Int) (l2 : List Int) (l3 : List Bool) (l4 : List Int) (l5 : List Bool) : Option (t2.den × Int × Unit) := res arena_New.c (atJoin arena_New.b [1, 1, 1, 0, 1, 0, 0, 1, 0]) (arena_New.S3 n t17_ l2 l3 l4 l5)
theorem arena_New.spec : FnSpec Tryz.prog globs 102 arena_New.Fn := spec_of (E := arena_New.E) (envOk_at tabOk eqOk primsOk (.nil)) mixOk Tryz.func102 (by kernel_rfl)
theorem arena_New.L1_eq (n : Int) (l1 : List Int) (l2 : List Bool) : arena_New.L1 n l1 l2 =
 bif (decide ((0 : Int) ≤ n ∧ (n : Int) ≤ n) && (lim (Int.toNat n) .bool)) then
  arena_New.L2 n 0 l1 l2 ([] : List Int) (List.replicate (Int.toNat n) false)
 else none := res_eq (by kernel_rfl)
theorem arena_New.L2_eq (n t17_ : Int) (l2 : List Int) (l3 : List Bool) (l4 : List Int) (l5 : List Bool) : arena_New.L2 n t17_ l2 l3 l4 l5 =
 bif (decide ((t17_ : Int) < n)) then
  arena_New.L3 n t17_ l2 l3 l4 l5
 else
  bif (decide ((0 : Int) ≤ (IntKind.wrap .i64 (n - 1)) ∧ ((IntKind.wrap .i64 (n - 1)) : Int) < ((List.length l4 : Int)))) then
   some (((List.set l4 (Int.toNat (IntKind.wrap .i64 (n - 1))) (-1)), l5, 0, ()), 0, ())
  else none := res_eq (by kernel_rfl)
theorem arena_New.L3_eq (n t17_ : Int) (l2 : List Int) (l3 : List Bool) (l4 : List Int) (l5 : List Bool) : arena_New.L3 n t17_ l2 l3 l4 l5 =
 bif (lim ((List.length l4) + (List.length ([(IntKind.wrap .i64 (t17_ + 1))] : List Int))) (.int .i64)) then
  arena_New.L2 n (IntKind.wrap .i64 (t17_ + 1)) l2 l3 (l4 ++ ([(IntKind.wrap .i64 (t17_ + 1))] : List Int)) l5
 else none := res_eq (by kernel_rfl)
theorem arena_New.F_eq (n : Int) : arena_New.F n =
 bif (decide ((n : Int) < 1)) then
  some ((([] : List Int), ([] : List Bool), 0, ()), 2, ())
 else
  bif (decide ((n : Int) > 16)) then
   some ((([] : List Int), ([] : List Bool), 0, ()), 2, ())
  else
   arena_New.L1 n ([] : List Int) ([] : List Bool) := by kernel_rfl
/-! ### math/bits.Mul32 (184) -/
def bits_Mul32.sg : Sig := ⟨[.val (.int .u32), .val (.int .u32)], [((.int .u32), true), ((.int .u32), true)]⟩
def bits_Mul32.E : Env := ⟨tl, fun i => look i [], [], eqs, globs, prims⟩
def bits_Mul32.c := cxOf bits_Mul32.E bits_Mul32.sg Tryz.f184
def bits_Mul32.b := body Tryz.f184
def bits_Mul32.Fn : Fun := fnOf bits_Mul32.E bits_Mul32.sg Tryz.f184
def bits_Mul32.F (x y : Int) : Option (Int × Int × Unit) := bits_Mul32.Fn.F (x, y, ())
theorem bits_Mul32.spec : FnSpec Tryz.prog globs 184 bits_Mul32.Fn := spec_of (E := bits_Mul32.E) (envOk_at tabOk eqOk primsOk (.nil)) mixOk Tryz.func184 (by kernel_rfl)
theorem bits_Mul32.F_eq (x y : Int) : bits_Mul32.F x y =
 bif (decide ((0 : Int) ≤ 32)) then
  some ((IntKind.wrap .u32 (Int.fdiv (IntKind.wrap .u64 ((IntKind.wrap .u64 x) * (IntKind.wrap .u64 y))) (2 ^ min (Int.toNat 32) (IntKind.bits .u64)))), (IntKind.wrap .u32 (IntKind.wrap .u64 ((IntKind.wrap .u64 x) * (IntKind.wrap .u64 y)))), ())
 else none := by kernel_rfl
/-! ### math/bits.Mul64 (185) -/
def bits_Mul64.sg : Sig := ⟨[.val (.int .u64), .val (.int .u64)], [((.int .u64), true), ((.int .u64), true)]⟩
def bits_Mul64.E : Env := ⟨tl, fun i => look i [], [], eqs, globs, prims⟩
def bits_Mul64.c := cxOf bits_Mul64.E bits_Mul64.sg Tryz.f185
def bits_Mul64.b := body Tryz.f185
def bits_Mul64.Fn : Fun := fnOf bits_Mul64.E bits_Mul64.sg Tryz.f185
def bits_Mul64.F (x y : Int) : Option (Int × Int × Unit) := bits_Mul64.Fn.F (x, y, ())
theorem bits_Mul64.spec : FnSpec Tryz.prog globs 185 bits_Mul64.Fn := spec_of (E := bits_Mul64.E) (envOk_at tabOk eqOk primsOk (.nil)) mixOk Tryz.func185 (by kernel_rfl)
theorem bits_Mul64.F_eq (x y : Int) : bits_Mul64.F x y =
 bif (decide ((0 : Int) ≤ 32)) then
  bif (decide ((0 : Int) ≤ 32)) then
   bif (decide ((0 : Int) ≤ 32)) then
    bif (decide ((0 : Int) ≤ 32)) then
     bif (decide ((0 : Int) ≤ 32)) then
      some ((IntKind.wrap .u64 ((IntKind.wrap .u64 ((IntKind.wrap .u64 ((Int.fdiv x (2 ^ min (Int.toNat 32) (IntKind.bits .u64))) * (Int.fdiv y (2 ^ min (Int.toNat 32) (IntKind.bits .u64))))) + (Int.fdiv (IntKind.wrap .u64 ((IntKind.wrap .u64 ((Int.fdiv x (2 ^ min (Int.toNat 32) (IntKind.bits .u64))) * (bits .and .u64 y 4294967295))) + (Int.fdiv (IntKind.wrap .u64 ((bits .and .u64 x 4294967295) * (bits .and .u64 y 4294967295))) (2 ^ min (Int.toNat 32) (IntKind.bits .u64))))) (2 ^ min (Int.toNat 32) (IntKind.bits .u64))))) + (Int.fdiv (IntKind.wrap .u64 ((bits .and .u64 (IntKind.wrap .u64 ((IntKind.wrap .u64 ((Int.fdiv x (2 ^ min (Int.toNat 32) (IntKind.bits .u64))) * (bits .and .u64 y 4294967295))) + (Int.fdiv (IntKind.wrap .u64 ((bits .and .u64 x 4294967295) * (bits .and .u64 y 4294967295))) (2 ^ min (Int.toNat 32) (IntKind.bits .u64))))) 4294967295) + (IntKind.wrap .u64 ((bits .and .u64 x 4294967295) * (Int.fdiv y (2 ^ min (Int.toNat 32) (IntKind.bits .u64))))))) (2 ^ min (Int.toNat 32) (IntKind.bits .u64))))), (IntKind.wrap .u64 (x * y)), ())
     else none
    else none
   else none
  else none
 else none := by kernel_rfl
/-! ### math/bits.Mul (174) -/
def bits_Mul.sg : Sig := ⟨[.val (.int .u64), .val (.int .u64)], [((.int .u64), true), ((.int .u64), true)]⟩
def bits_Mul.E : Env := ⟨tl, fun i => look i [(184, bits_Mul32.Fn), (185, bits_Mul64.Fn)], [], eqs, globs, prims⟩
def bits_Mul.c := cxOf bits_Mul.E bits_Mul.sg Tryz.f174
def bits_Mul.b := body Tryz.f174
def bits_Mul.Fn : Fun := fnOf bits_Mul.E bits_Mul.sg Tryz.f174
def bits_Mul.F (x y : Int) : Option (Int × Int × Unit) := bits_Mul.Fn.F (x, y, ())
def bits_Mul.S1 (x y : Int) : St := ⟨[(0, (.v (.int .u64) x)), (1, (.v (.int .u64) y))], [], 0, []⟩
def bits_Mul.L1 (x y : Int) : Option (Int × Int × Unit) := res bits_Mul.c (atJoin bits_Mul.b [1, 0]) (bits_Mul.S1 x y)
theorem bits_Mul.spec : FnSpec Tryz.prog globs 174 bits_Mul.Fn := spec_of (E := bits_Mul.E) (envOk_at tabOk eqOk primsOk (.cons bits_Mul32.spec <| .cons bits_Mul64.spec <| .nil)) mixOk Tryz.func174 (by kernel_rfl)
theorem bits_Mul.L1_eq (x y : Int) : bits_Mul.L1 x y =
 (bits_Mul64.F x y).bind fun r0 =>
 some (r0.1, r0.2.1, ()) := res_eq (by kernel_rfl)
theorem bits_Mul.F_eq (x y : Int) : bits_Mul.F x y =
 bits_Mul.L1 x y := by kernel_rfl
/-! ### slices.Repeat[[]int,int] (138) -/
def slices_Repeat.sg : Sig := ⟨[.val (.slice (.int .i64)), .val (.int .i64)], [((.slice (.int .i64)), true)]⟩
def slices_Repeat.E : Env := ⟨tl, fun i => look i [(174, bits_Mul.Fn)], [], eqs, globs, prims⟩
def slices_Repeat.c := cxOf slices_Repeat.E slices_Repeat.sg Tryz.f138
def slices_Repeat.b := body Tryz.f138
def slices_Repeat.Fn : Fun := fnOf slices_Repeat.E slices_Repeat.sg Tryz.f138
def slices_Repeat.F (x : List Int) (count : Int) : Option ((List Int) × Unit) := slices_Repeat.Fn.F (x, count, ())
def slices_Repeat.S1 (x : List Int) (count : Int) : St := ⟨[(0, (.v (.slice (.int .i64)) x)), (1, (.v (.int .i64) count))], [], 0, []⟩
def slices_Repeat.L1 (x : List Int) (count : Int) : Option ((List Int) × Unit) := res slices_Repeat.c (atJoin slices_Repeat.b [1, 0, 1]) (slices_Repeat.S1 x count)
def slices_Repeat.S2 (x : List Int) (lo : Int) : St := ⟨[(0, (.v (.slice (.int .i64)) x)), (6, (.v (.int .u64) lo))], [], 0, []⟩
def slices_Repeat.L2 (x : List Int) (lo : Int) : Option ((List Int) × Unit) := res slices_Repeat.c (atJoin slices_Repeat.b [1, 1, 1, 0, 1]) (slices_Repeat.S2 x lo)
def slices_Repeat.S3 (n : Int) (l0 : List Int) : St := ⟨[(7, (.sl 0)), (8, (.v (.int .i64) n))], [(0, some (.row (.int .i64) l0 false))], 1, []⟩
def slices_Repeat.L3 (n : Int) (l0 : List Int) : Option ((List Int) × Unit) := res slices_Repeat.c (atLoop slices_Repeat.b [1, 1, 1, 1, 1, 1, 0, 0]) (slices_Repeat.S3 n l0)
def slices_Repeat.S4 (n : Int) (l0 : List Int) : St := ⟨[(7, (.sl 0)), (8, (.v (.int .i64) n))], [(0, some (.row (.int .i64) l0 false))], 1, []⟩
def slices_Repeat.L4 (n : Int) (l0 : List Int) : Option ((List Int) × Unit) := res slices_Repeat.c (atJoin slices_Repeat.b [1, 1, 1, 1, 1, 1, 0, 0, 0, 0, 1]) (slices_Repeat.S4 n l0)
theorem slices_Repeat.spec : FnSpec Tryz.prog globs 138 slices_Repeat.Fn := spec_of (E := slices_Repeat.E) (envOk_at tabOk eqOk primsOk (.cons bits_Mul.spec <| .nil)) mixOk Tryz.func138 (by kernel_rfl)
theorem slices_Repeat.L1_eq (x : List Int) (count : Int) : slices_Repeat.L1 x count =
 (bits_Mul.F (IntKind.wrap .u64 ((List.length x : Int))) (IntKind.wrap .u64 count)).bind fun r0 =>
 bif (decide ((r0.1 : Int) > 0)) then
  none
 else
  bif (decide ((r0.2.1 : Int) > 9223372036854775807)) then
   none
  else
   slices_Repeat.L2 x r0.2.1 := res_eq (by kernel_rfl)
theorem slices_Repeat.L2_eq (x : List Int) (lo : Int) : slices_Repeat.L2 x lo =
 bif (decide ((0 : Int) ≤ (IntKind.wrap .i64 lo) ∧ ((IntKind.wrap .i64 lo) : Int) ≤ (IntKind.wrap .i64 lo)) && (lim (Int.toNat (IntKind.wrap .i64 lo)) (.int .i64))) then
  slices_Repeat.L3 (((min (List.length x) (List.length (List.replicate (Int.toNat (IntKind.wrap .i64 lo)) (0 : Int))) : Nat) : Int)) (splice (List.replicate (Int.toNat (IntKind.wrap .i64 lo)) (0 : Int)) 0 (List.take (List.length (List.replicate (Int.toNat (IntKind.wrap .i64 lo)) (0 : Int))) x))
 else none := res_eq (by kernel_rfl)
theorem slices_Repeat.L3_eq (n : Int) (l0 : List Int) : slices_Repeat.L3 n l0 =
 bif (decide ((n : Int) < ((List.length l0 : Int)))) then
  slices_Repeat.L4 n l0
 else
  some (l0, ()) := res_eq (by kernel_rfl)
theorem slices_Repeat.L4_eq (n : Int) (l0 : List Int) : slices_Repeat.L4 n l0 =
 bif (decide ((0 : Int) ≤ n ∧ (n : Int) ≤ ((List.length l0 : Int)) ∧ (((List.length l0 : Int)) : Int) ≤ ((List.length l0 : Int)))) then
  bif (decide ((0 : Int) ≤ 0 ∧ (0 : Int) ≤ n ∧ (n : Int) ≤ ((List.length l0 : Int)))) then
   slices_Repeat.L3 (IntKind.wrap .i64 (n + (((min (List.length (List.take ((Int.toNat n) - (Int.toNat 0)) (List.drop (Int.toNat 0) l0))) ((Int.toNat ((List.length l0 : Int))) - (Int.toNat n)) : Nat) : Int)))) (splice l0 (Int.toNat n) (List.take ((Int.toNat ((List.length l0 : Int))) - (Int.toNat n)) (List.take ((Int.toNat n) - (Int.toNat 0)) (List.drop (Int.toNat 0) l0))))
  else none
 else none := res_eq (by kernel_rfl)
theorem slices_Repeat.F_eq (x : List Int) (count : Int) : slices_Repeat.F x count =
 bif (decide ((count : Int) < 0)) then
  none
 else
  slices_Repeat.L1 x count := by kernel_rfl
/-! ### spigot/lru.New (103) -/
def lru_New.sg : Sig := ⟨[.val (.int .i64)], [(t4, true), ((.int .i64), true)]⟩
def lru_New.E : Env := ⟨tl, fun i => look i [(138, slices_Repeat.Fn)], [], eqs, globs, prims⟩
def lru_New.c := cxOf lru_New.E lru_New.sg Tryz.f103
def lru_New.b := body Tryz.f103
def lru_New.Fn : Fun := fnOf lru_New.E lru_New.sg Tryz.f103
def lru_New.F (n : Int) : Option (t4.den × Int × Unit) := lru_New.Fn.F (n, ())
def lru_New.S1 (n : Int) (l1 : List Int) : St := ⟨[(0, (.v (.int .i64) n)), (2, (.ptr 0 []))], [(0, some (.box (.agg [(.sl 1), (.sl 2), (.v (.int .i64) 0), (.v (.int .i64) 0)]))), (1, some (.row (.int .i64) l1 false)), (2, some (.row (.int .i64) l1 false))], 3, []⟩
def lru_New.L1 (n : Int) (l1 : List Int) : Option (t4.den × Int × Unit) := res lru_New.c (atJoin lru_New.b [1, 0, 1]) (lru_New.S1 n l1)
theorem lru_New.spec : FnSpec Tryz.prog globs 103 lru_New.Fn := spec_of (E := lru_New.E) (envOk_at tabOk eqOk primsOk (.cons slices_Repeat.spec <| .nil)) mixOk Tryz.func103 (by kernel_rfl)
theorem lru_New.L1_eq (n : Int) (l1 : List Int) : lru_New.L1 n l1 =
 (slices_Repeat.F ([(-1)] : List Int) n).bind fun r0 =>
 bif (lim (List.length r0.1) (.int .i64)) then
  some ((r0.1, r0.1, (-1), (-1), ()), 0, ())
 else none := res_eq (by kernel_rfl)
theorem lru_New.F_eq (n : Int) : lru_New.F n =
 bif (decide ((n : Int) < 1)) then
  some ((([] : List Int), ([] : List Int), 0, 0, ()), 2, ())
 else
  bif (decide ((n : Int) > 16)) then
   some ((([] : List Int), ([] : List Int), 0, 0, ()), 2, ())
  else
   lru_New.L1 n ([] : List Int) := by kernel_rfl
/-! ### spigot/probe.New (104) -/
def probe_New.sg : Sig := ⟨[], [((.slice t3), true)]⟩
def probe_New.E : Env := ⟨tl, fun i => look i [], [], eqs, globs, prims⟩
def probe_New.c := cxOf probe_New.E probe_New.sg Tryz.f104
def probe_New.b := body Tryz.f104
def probe_New.Fn : Fun := fnOf probe_New.E probe_New.sg Tryz.f104
def probe_New.F : Option ((List t3.den) × Unit) := probe_New.Fn.F ()
theorem probe_New.spec : FnSpec Tryz.prog globs 104 probe_New.Fn := spec_of (E := probe_New.E) (envOk_at tabOk eqOk primsOk (.nil)) mixOk Tryz.func104 (by kernel_rfl)
theorem probe_New.F_eq : probe_New.F =
 bif (decide ((0 : Int) ≤ 16 ∧ (16 : Int) ≤ 16) && (lim (Int.toNat 16) t3)) then
  some ((List.replicate (Int.toNat 16) (0, 0, false, ())), ())
 else none := by kernel_rfl
/-! ### spigot/table.New (72) -/
def table_New.sg : Sig := ⟨[.val (.int .i64)], [(t5, true), ((.int .i64), true)]⟩
def table_New.E : Env := ⟨tl, fun i => look i [(102, arena_New.Fn), (103, lru_New.Fn), (104, probe_New.Fn)], [], eqs, globs, prims⟩
def table_New.c := cxOf table_New.E table_New.sg Tryz.f72
def table_New.b := body Tryz.f72
def table_New.Fn : Fun := fnOf table_New.E table_New.sg Tryz.f72
def table_New.F (capacity : Int) : Option (t5.den × Int × Unit) := table_New.Fn.F (capacity, ())
def table_New.S1 (capacity : Int) (l1 : List Int) (l2 : List t1.den) (l3 : List Int) (l4 : List Bool) (l5 : List t3.den) : St := ⟨[(0, (.v (.int .i64) capacity)), (2, (.ptr 0 []))], [(0, some (.box (.agg [(.v (.int .i64) 0), (.sl 1), (.sl 2), (.agg [(.sl 3), (.sl 4), (.v (.int .i64) 0)]), (.sl 5), (.agg [(.sl 6), (.sl 7), (.v (.int .i64) 0), (.v (.int .i64) 0)])]))), (1, some (.row (.int .u32) l1 false)), (2, some (.row t1 l2 false)), (3, some (.row (.int .i64) l3 false)), (4, some (.row .bool l4 false)), (5, some (.row t3 l5 false)), (6, some (.row (.int .i64) l3 false)), (7, some (.row (.int .i64) l3 false))], 8, []⟩
def table_New.L1 (capacity : Int) (l1 : List Int) (l2 : List t1.den) (l3 : List Int) (l4 : List Bool) (l5 : List t3.den) : Option (t5.den × Int × Unit) := res table_New.c (atJoin table_New.b [1, 0, 1]) (table_New.S1 capacity l1 l2 l3 l4 l5)
theorem table_New.spec : FnSpec Tryz.prog globs 72 table_New.Fn := spec_of (E := table_New.E) (envOk_at tabOk eqOk primsOk (.cons arena_New.spec <| .cons lru_New.spec <| .cons probe_New.spec <| .nil)) mixOk Tryz.func72 (by kernel_rfl)
theorem table_New.L1_eq (capacity : Int) (l1 : List Int) (l2 : List t1.den) (l3 : List Int) (l4 : List Bool) (l5 : List t3.den) : table_New.L1 capacity l1 l2 l3 l4 l5 =
 (arena_New.F capacity).bind fun r0 =>
 (lru_New.F capacity).bind fun r1 =>
 bif (decide ((0 : Int) ≤ capacity ∧ (capacity : Int) ≤ capacity) && (lim (Int.toNat capacity) (.int .u32))) then
  bif (decide ((0 : Int) ≤ capacity ∧ (capacity : Int) ≤ capacity) && (lim (Int.toNat capacity) t1)) then
   probe_New.F.bind fun r2 =>
   some ((capacity, (List.replicate (Int.toNat capacity) (0 : Int)), (List.replicate (Int.toNat capacity) ((0, 0, 0, ()), 0, 0, 0, ())), r0.1, r2.1, r1.1, ()), 0, ())
  else none
 else none := res_eq (by kernel_rfl)
theorem table_New.F_eq (capacity : Int) : table_New.F capacity =
 bif (decide ((capacity : Int) < 1)) then
  some ((0, ([] : List Int), ([] : List t1.den), (([] : List Int), ([] : List Bool), 0, ()), ([] : List t3.den), (([] : List Int), ([] : List Int), 0, 0, ()), ()), 2, ())
 else
  bif (decide ((capacity : Int) > 8)) then
   some ((0, ([] : List Int), ([] : List t1.den), (([] : List Int), ([] : List Bool), 0, ()), ([] : List t3.den), (([] : List Int), ([] : List Int), 0, 0, ()), ()), 2, ())
  else
   table_New.L1 capacity ([] : List Int) ([] : List t1.den) ([] : List Int) ([] : List Bool) ([] : List t3.den) := by kernel_rfl
/-! ### spigot/bucket.CheckLimit (98) -/
def bucket_CheckLimit.sg : Sig := ⟨[.val t0], [((.int .i64), true)]⟩
def bucket_CheckLimit.E : Env := ⟨tl, fun i => look i [], [], eqs, globs, prims⟩
def bucket_CheckLimit.c := cxOf bucket_CheckLimit.E bucket_CheckLimit.sg Tryz.f98
def bucket_CheckLimit.b := body Tryz.f98
def bucket_CheckLimit.Fn : Fun := fnOf bucket_CheckLimit.E bucket_CheckLimit.sg Tryz.f98
def bucket_CheckLimit.F (l : t0.den) : Option (Int × Unit) := bucket_CheckLimit.Fn.F (l, ())
def bucket_CheckLimit.S1 : St := ⟨[], [], 0, []⟩
def bucket_CheckLimit.L1 : Option (Int × Unit) := res bucket_CheckLimit.c (atJoin bucket_CheckLimit.b [1, 0, 1]) (bucket_CheckLimit.S1)
theorem bucket_CheckLimit.spec : FnSpec Tryz.prog globs 98 bucket_CheckLimit.Fn := spec_of (E := bucket_CheckLimit.E) (envOk_at tabOk eqOk primsOk (.nil)) mixOk Tryz.func98 (by kernel_rfl)
theorem bucket_CheckLimit.L1_eq : bucket_CheckLimit.L1 =
 some (0, ()) := res_eq (by kernel_rfl)
theorem bucket_CheckLimit.F_eq (l : t0.den) : bucket_CheckLimit.F l =
 bif (decide ((l.1 : Int) < 1)) then
  some (8, ())
 else
  bif (decide ((l.1 : Int) > 1000000000)) then
   some (8, ())
  else
   bif (decide ((l.2.1 : Int) < 0)) then
    some (8, ())
   else
    bif (decide ((l.2.1 : Int) > 1000000000)) then
     some (8, ())
    else
     bif (decide ((l.2.2.1 : Int) < 1)) then
      some (8, ())
     else
      bif (decide ((l.2.2.1 : Int) > 1000000000)) then
       some (8, ())
      else
       bucket_CheckLimit.L1 := by kernel_rfl
/-! ### spigot/bucket.Check (99) -/
def bucket_Check.sg : Sig := ⟨[.val t1], [((.int .i64), true)]⟩
def bucket_Check.E : Env := ⟨tl, fun i => look i [(98, bucket_CheckLimit.Fn)], [], eqs, globs, prims⟩
def bucket_Check.c := cxOf bucket_Check.E bucket_Check.sg Tryz.f99
def bucket_Check.b := body Tryz.f99
def bucket_Check.Fn : Fun := fnOf bucket_Check.E bucket_Check.sg Tryz.f99
def bucket_Check.F (b : t1.den) : Option (Int × Unit) := bucket_Check.Fn.F (b, ())
def bucket_Check.S1 (b0 b02 : Int) (b03 b04 : Int) (b05 b06 : Int) : St := ⟨[(1, (.ptr 0 []))], [(0, some (.box (.agg [(.agg [(.v (.int .i64) b0), (.v (.int .i64) b02), (.v (.int .i64) b03)]), (.v (.int .i64) b04), (.v (.int .i64) b05), (.v (.int .u64) b06)])))], 1, []⟩
def bucket_Check.L1 (b0 b02 : Int) (b03 b04 : Int) (b05 b06 : Int) : Option (Int × Unit) := res bucket_Check.c (atJoin bucket_Check.b [1, 0, 1, 1]) (bucket_Check.S1 b0 b02 b03 b04 b05 b06)
def bucket_Check.S2 : St := ⟨[], [], 0, []⟩
def bucket_Check.L2 : Option (Int × Unit) := res bucket_Check.c (atJoin bucket_Check.b [1, 1, 1, 0, 1]) (bucket_Check.S2)
theorem bucket_Check.spec : FnSpec Tryz.prog globs 99 bucket_Check.Fn := spec_of (E := bucket_Check.E) (envOk_at tabOk eqOk primsOk (.cons bucket_CheckLimit.spec <| .nil)) mixOk Tryz.func99 (by kernel_rfl)
theorem bucket_Check.L1_eq (b0 b02 : Int) (b03 b04 : Int) (b05 b06 : Int) : bucket_Check.L1 b0 b02 b03 b04 b05 b06 =
 bif (decide ((b04 : Int) < 0)) then
  some (8, ())
 else
  bif (decide (((IntKind.wrap .i64 (b0 - b04)) : Int) < 0)) then
   some (8, ())
  else
   bif (decide ((b05 : Int) < 0)) then
    some (8, ())
   else
    bif (decide ((b05 : Int) ≥ b03)) then
     some (8, ())
    else
     bif ((IntKind.wrap .i64 (b0 - b04)) == 0) then
      bif (decide ((b05 : Int) > 0)) then
       some (8, ())
      else
       bucket_Check.L2
     else
      bucket_Check.L2 := res_eq (by kernel_rfl)
theorem bucket_Check.L2_eq : bucket_Check.L2 =
 some (0, ()) := res_eq (by kernel_rfl)
theorem bucket_Check.F_eq (b : t1.den) : bucket_Check.F b =
 (bucket_CheckLimit.F b.1).bind fun r0 =>
 bif (r0.1 != 0) then
  some (r0.1, ())
 else
  bucket_Check.L1 b.1.1 b.1.2.1 b.1.2.2.1 b.2.1 b.2.2.1 b.2.2.2.1 := by kernel_rfl
/-! ### spigot/lru.Check (148) -/
def lru_Check.sg : Sig := ⟨[.val t4], [((.int .i64), true)]⟩
def lru_Check.E : Env := ⟨tl, fun i => look i [], [], eqs, globs, prims⟩
def lru_Check.c := cxOf lru_Check.E lru_Check.sg Tryz.f148
def lru_Check.b := body Tryz.f148
def lru_Check.Fn : Fun := fnOf lru_Check.E lru_Check.sg Tryz.f148
def lru_Check.F (o : t4.den) : Option (Int × Unit) := lru_Check.Fn.F (o, ())
def lru_Check.S1 (n : Int) (b0 b02 : List Int) (b03 b04 : Int) : St := ⟨[(1, (.ptr 0 [])), (3, (.v (.int .i64) n))], [(0, some (.box (.agg [(.v (.slice (.int .i64)) b0), (.v (.slice (.int .i64)) b02), (.v (.int .i64) b03), (.v (.int .i64) b04)])))], 1, []⟩
def lru_Check.L1 (n : Int) (b0 b02 : List Int) (b03 b04 : Int) : Option (Int × Unit) := res lru_Check.c (atJoin lru_Check.b [1, 1, 0, 1]) (lru_Check.S1 n b0 b02 b03 b04)
def lru_Check.S2 (n last i : Int) (b0 b02 : List Int) (b03 b04 : Int) (l1 : List Bool) : St := ⟨[(1, (.ptr 0 [])), (3, (.v (.int .i64) n)), (4, (.sl 1)), (5, (.v (.int .i64) last)), (6, (.v (.int .i64) i))], [(0, some (.box (.agg [(.v (.slice (.int .i64)) b0), (.v (.slice (.int .i64)) b02), (.v (.int .i64) b03), (.v (.int .i64) b04)]))), (1, some (.row .bool l1 false))], 2, []⟩
def lru_Check.L2 (n last i : Int) (b0 b02 : List Int) (b03 b04 : Int) (l1 : List Bool) : Option (Int × Unit) := res lru_Check.c (atLoop lru_Check.b [1, 1, 1, 1, 1, 0, 1, 0]) (lru_Check.S2 n last i b0 b02 b03 b04 l1)
def lru_Check.S3 (n last i : Int) (b0 b02 : List Int) (b03 b04 : Int) (l1 : List Bool) : St := ⟨[(1, (.ptr 0 [])), (3, (.v (.int .i64) n)), (4, (.sl 1)), (5, (.v (.int .i64) last)), (6, (.v (.int .i64) i))], [(0, some (.box (.agg [(.v (.slice (.int .i64)) b0), (.v (.slice (.int .i64)) b02), (.v (.int .i64) b03), (.v (.int .i64) b04)]))), (1, some (.row .bool l1 false))], 2, []⟩
def lru_Check.L3 (n last i : Int) (b0 b02 : List Int) (b03 b04 : Int) (l1 : List Bool) : Option (Int × Unit) := res lru_Check.c (atJoin lru_Check.b [1, 1, 1, 1, 1, 0, 1, 0, 0, 0, 1]) (lru_Check.S3 n last i b0 b02 b03 b04 l1)
def lru_Check.S4 (last t63_ t64_ : Int) (b0 b02 : List Int) (b03 b04 : Int) (l1 : List Bool) : St := ⟨[(1, (.ptr 0 [])), (5, (.v (.int .i64) last)), (62, (.sl 1)), (63, (.v (.int .i64) t63_)), (64, (.v (.int .i64) t64_))], [(0, some (.box (.agg [(.v (.slice (.int .i64)) b0), (.v (.slice (.int .i64)) b02), (.v (.int .i64) b03), (.v (.int .i64) b04)]))), (1, some (.row .bool l1 false))], 2, []⟩
def lru_Check.L4 (last t63_ t64_ : Int) (b0 b02 : List Int) (b03 b04 : Int) (l1 : List Bool) : Option (Int × Unit) := res lru_Check.c (atLoop lru_Check.b [1, 1, 1, 1, 1, 1, 0, 1, 0]) (lru_Check.S4 last t63_ t64_ b0 b02 b03 b04 l1)
def lru_Check.S5 (last t63_ t64_ : Int) (b0 b02 : List Int) (b03 b04 : Int) (l1 : List Bool) : St := ⟨[(1, (.ptr 0 [])), (5, (.v (.int .i64) last)), (62, (.sl 1)), (63, (.v (.int .i64) t63_)), (64, (.v (.int .i64) t64_))], [(0, some (.box (.agg [(.v (.slice (.int .i64)) b0), (.v (.slice (.int .i64)) b02), (.v (.int .i64) b03), (.v (.int .i64) b04)]))), (1, some (.row .bool l1 false))], 2, []⟩
def lru_Check.L5 (last t63_ t64_ : Int) (b0 b02 : List Int) (b03 b04 : Int) (l1 : List Bool) : Option (Int × Unit) := res lru_Check.c (atJoin lru_Check.b [1, 1, 1, 1, 1, 1, 0, 1, 0, 0, 1, 0]) (lru_Check.S5 last t63_ t64_ b0 b02 b03 b04 l1)
def lru_Check.S6 : St := ⟨[], [], 0, []⟩
def lru_Check.L6 : Option (Int × Unit) := res lru_Check.c (atJoin lru_Check.b [1, 1, 1, 1, 1, 1, 1, 0, 1]) (lru_Check.S6)
def lru_Check.S7 (last t63_ t64_ : Int) (b0 b02 : List Int) (b03 b04 : Int) (l1 : List Bool) : St := ⟨[(1, (.ptr 0 [])), (5, (.v (.int .i64) last)), (62, (.sl 1)), (63, (.v (.int .i64) t63_)), (64, (.v (.int .i64) t64_))], [(0, some (.box (.agg [(.v (.slice (.int .i64)) b0), (.v (.slice (.int .i64)) b02), (.v (.int .i64) b03), (.v (.int .i64) b04)]))), (1, some (.row .bool l1 false))], 2, []⟩
def lru_Check.L7 (last t63_ t64_ : Int) (b0 b02 : List Int) (b03 b04 : Int) (l1 : List Bool) : Option (Int × Unit) := res lru_Check.c (atJoin lru_Check.b [1, 1, 1, 1, 1, 1, 0, 1, 0, 0, 1, 1, 0, 0, 1, 1]) (lru_Check.S7 last t63_ t64_ b0 b02 b03 b04 l1)
def lru_Check.S8 (n i : Int) (b0 b02 : List Int) (b03 b04 : Int) (l1 : List Bool) : St := ⟨[(1, (.ptr 0 [])), (3, (.v (.int .i64) n)), (4, (.sl 1)), (6, (.v (.int .i64) i))], [(0, some (.box (.agg [(.v (.slice (.int .i64)) b0), (.v (.slice (.int .i64)) b02), (.v (.int .i64) b03), (.v (.int .i64) b04)]))), (1, some (.row .bool l1 false))], 2, []⟩
def lru_Check.L8 (n i : Int) (b0 b02 : List Int) (b03 b04 : Int) (l1 : List Bool) : Option (Int × Unit) := res lru_Check.c (atJoin lru_Check.b [1, 1, 1, 1, 1, 0, 1, 0, 0, 1, 0, 0, 0, 1]) (lru_Check.S8 n i b0 b02 b03 b04 l1)
theorem lru_Check.spec : FnSpec Tryz.prog globs 148 lru_Check.Fn := spec_of (E := lru_Check.E) (envOk_at tabOk eqOk primsOk (.nil)) mixOk Tryz.func148 (by kernel_rfl)
theorem lru_Check.L1_eq (n : Int) (b0 b02 : List Int) (b03 b04 : Int) : lru_Check.L1 n b0 b02 b03 b04 =
 bif (decide ((0 : Int) ≤ n ∧ (n : Int) ≤ n) && (lim (Int.toNat n) .bool)) then
  lru_Check.L2 n (-1) b03 b0 b02 b03 b04 (List.replicate (Int.toNat n) false)
 else none := res_eq (by kernel_rfl)
theorem lru_Check.L2_eq (n last i : Int) (b0 b02 : List Int) (b03 b04 : Int) (l1 : List Bool) : lru_Check.L2 n last i b0 b02 b03 b04 l1 =
 bif (i != (-1)) then
  lru_Check.L3 n last i b0 b02 b03 b04 l1
 else
  lru_Check.L4 last ((List.length l1 : Int)) 0 b0 b02 b03 b04 l1 := res_eq (by kernel_rfl)
theorem lru_Check.L3_eq (n last i : Int) (b0 b02 : List Int) (b03 b04 : Int) (l1 : List Bool) : lru_Check.L3 n last i b0 b02 b03 b04 l1 =
 bif (decide ((i : Int) < 0)) then
  some (8, ())
 else
  bif (decide ((i : Int) ≥ n)) then
   some (8, ())
  else
   bif (decide ((0 : Int) ≤ i ∧ (i : Int) < ((List.length l1 : Int)))) then
    bif (List.getD l1 (Int.toNat i) false) then
     some (8, ())
    else
     bif (decide ((0 : Int) ≤ i ∧ (i : Int) < ((List.length b0 : Int)))) then
      bif ((List.getD b0 (Int.toNat i) 0) != last) then
       some (8, ())
      else
       lru_Check.L8 n i b0 b02 b03 b04 l1
     else none
   else none := res_eq (by kernel_rfl)
theorem lru_Check.L4_eq (last t63_ t64_ : Int) (b0 b02 : List Int) (b03 b04 : Int) (l1 : List Bool) : lru_Check.L4 last t63_ t64_ b0 b02 b03 b04 l1 =
 bif (decide ((t64_ : Int) < t63_)) then
  lru_Check.L5 last t63_ t64_ b0 b02 b03 b04 l1
 else
  bif (b04 != last) then
   some (8, ())
  else
   lru_Check.L6 := res_eq (by kernel_rfl)
theorem lru_Check.L5_eq (last t63_ t64_ : Int) (b0 b02 : List Int) (b03 b04 : Int) (l1 : List Bool) : lru_Check.L5 last t63_ t64_ b0 b02 b03 b04 l1 =
 bif (decide ((0 : Int) ≤ t64_ ∧ (t64_ : Int) < ((List.length l1 : Int)))) then
  bif (!(List.getD l1 (Int.toNat t64_) false)) then
   bif (decide ((0 : Int) ≤ t64_ ∧ (t64_ : Int) < ((List.length b0 : Int)))) then
    bif ((List.getD b0 (Int.toNat t64_) 0) != (-1)) then
     some (8, ())
    else
     bif (decide ((0 : Int) ≤ t64_ ∧ (t64_ : Int) < ((List.length b02 : Int)))) then
      bif ((List.getD b02 (Int.toNat t64_) 0) != (-1)) then
       some (8, ())
      else
       lru_Check.L7 last t63_ t64_ b0 b02 b03 b04 l1
     else none
   else none
  else
   lru_Check.L7 last t63_ t64_ b0 b02 b03 b04 l1
 else none := res_eq (by kernel_rfl)
theorem lru_Check.L6_eq : lru_Check.L6 =
 some (0, ()) := res_eq (by kernel_rfl)
theorem lru_Check.L7_eq (last t63_ t64_ : Int) (b0 b02 : List Int) (b03 b04 : Int) (l1 : List Bool) : lru_Check.L7 last t63_ t64_ b0 b02 b03 b04 l1 =
 lru_Check.L4 last t63_ (IntKind.wrap .i64 (t64_ + 1)) b0 b02 b03 b04 l1 := res_eq (by kernel_rfl)
theorem lru_Check.L8_eq (n i : Int) (b0 b02 : List Int) (b03 b04 : Int) (l1 : List Bool) : lru_Check.L8 n i b0 b02 b03 b04 l1 =
 bif (decide ((0 : Int) ≤ i ∧ (i : Int) < ((List.length l1 : Int)))) then
  bif (decide ((0 : Int) ≤ i ∧ (i : Int) < ((List.length b02 : Int)))) then
   lru_Check.L2 n i (List.getD b02 (Int.toNat i) 0) b0 b02 b03 b04 (List.set l1 (Int.toNat i) true)
  else none
 else none := res_eq (by kernel_rfl)
theorem lru_Check.F_eq (o : t4.den) : lru_Check.F o =
 bif (decide ((((List.length o.1 : Int)) : Int) < 1)) then
  some (8, ())
 else
  bif (decide ((((List.length o.1 : Int)) : Int) > 16)) then
   some (8, ())
  else
   bif (((List.length o.2.1 : Int)) != ((List.length o.1 : Int))) then
    some (8, ())
   else
    lru_Check.L1 ((List.length o.1 : Int)) o.1 o.2.1 o.2.2.1 o.2.2.2.1 := by kernel_rfl
/-! ### spigot/lru.List (134) -/
def lru_List.sg : Sig := ⟨[.val t4], [((.slice (.int .i64)), true), ((.int .i64), true)]⟩
def lru_List.E : Env := ⟨tl, fun i => look i [(148, lru_Check.Fn)], [], eqs, globs, prims⟩
def lru_List.c := cxOf lru_List.E lru_List.sg Tryz.f134
def lru_List.b := body Tryz.f134
def lru_List.Fn : Fun := fnOf lru_List.E lru_List.sg Tryz.f134
def lru_List.F (o : t4.den) : Option ((List Int) × Int × Unit) := lru_List.Fn.F (o, ())
def lru_List.S1 (b0 b02 : List Int) (b03 b04 : Int) : St := ⟨[(1, (.ptr 0 []))], [(0, some (.box (.agg [(.v (.slice (.int .i64)) b0), (.v (.slice (.int .i64)) b02), (.v (.int .i64) b03), (.v (.int .i64) b04)])))], 1, []⟩
def lru_List.L1 (b0 b02 : List Int) (b03 b04 : Int) : Option ((List Int) × Int × Unit) := res lru_List.c (atJoin lru_List.b [1, 0, 1, 1]) (lru_List.S1 b0 b02 b03 b04)
def lru_List.S2 (i : Int) (b0 b02 : List Int) (b03 b04 : Int) (l1 : List Int) : St := ⟨[(1, (.ptr 0 [])), (5, (.sl 1)), (6, (.v (.int .i64) i))], [(0, some (.box (.agg [(.v (.slice (.int .i64)) b0), (.v (.slice (.int .i64)) b02), (.v (.int .i64) b03), (.v (.int .i64) b04)]))), (1, some (.row (.int .i64) l1 false))], 2, []⟩
def lru_List.L2 (i : Int) (b0 b02 : List Int) (b03 b04 : Int) (l1 : List Int) : Option ((List Int) × Int × Unit) := res lru_List.c (atLoop lru_List.b [1, 1, 1, 0, 1, 0]) (lru_List.S2 i b0 b02 b03 b04 l1)
def lru_List.S3 (i : Int) (b0 b02 : List Int) (b03 b04 : Int) (l1 : List Int) : St := ⟨[(1, (.ptr 0 [])), (5, (.sl 1)), (6, (.v (.int .i64) i))], [(0, some (.box (.agg [(.v (.slice (.int .i64)) b0), (.v (.slice (.int .i64)) b02), (.v (.int .i64) b03), (.v (.int .i64) b04)]))), (1, some (.row (.int .i64) l1 false))], 2, []⟩
def lru_List.L3 (i : Int) (b0 b02 : List Int) (b03 b04 : Int) (l1 : List Int) : Option ((List Int) × Int × Unit) := res lru_List.c (atJoin lru_List.b [1, 1, 1, 0, 1, 0, 0, 0, 1]) (lru_List.S3 i b0 b02 b03 b04 l1)
theorem lru_List.spec : FnSpec Tryz.prog globs 134 lru_List.Fn := spec_of (E := lru_List.E) (envOk_at tabOk eqOk primsOk (.cons lru_Check.spec <| .nil)) mixOk Tryz.func134 (by kernel_rfl)
theorem lru_List.L1_eq (b0 b02 : List Int) (b03 b04 : Int) : lru_List.L1 b0 b02 b03 b04 =
 lru_List.L2 b03 b0 b02 b03 b04 ([] : List Int) := res_eq (by kernel_rfl)
theorem lru_List.L2_eq (i : Int) (b0 b02 : List Int) (b03 b04 : Int) (l1 : List Int) : lru_List.L2 i b0 b02 b03 b04 l1 =
 bif (i != (-1)) then
  lru_List.L3 i b0 b02 b03 b04 l1
 else
  some (l1, 0, ()) := res_eq (by kernel_rfl)
theorem lru_List.L3_eq (i : Int) (b0 b02 : List Int) (b03 b04 : Int) (l1 : List Int) : lru_List.L3 i b0 b02 b03 b04 l1 =
 bif (lim ((List.length l1) + (List.length ([i] : List Int))) (.int .i64)) then
  bif (decide ((0 : Int) ≤ i ∧ (i : Int) < ((List.length b02 : Int)))) then
   lru_List.L2 (List.getD b02 (Int.toNat i) 0) b0 b02 b03 b04 (l1 ++ ([i] : List Int))
  else none
 else none := res_eq (by kernel_rfl)
theorem lru_List.F_eq (o : t4.den) : lru_List.F o =
 (lru_Check.F o).bind fun r0 =>
 bif (r0.1 != 0) then
  some (([] : List Int), r0.1, ())
 else
  lru_List.L1 o.1 o.2.1 o.2.2.1 o.2.2.2.1 := by kernel_rfl
/-! ### spigot/arena.Check (140) -/
def arena_Check.sg : Sig := ⟨[.val t2], [((.int .i64), true)]⟩
def arena_Check.E : Env := ⟨tl, fun i => look i [], [], eqs, globs, prims⟩
def arena_Check.c := cxOf arena_Check.E arena_Check.sg Tryz.f140
def arena_Check.b := body Tryz.f140
def arena_Check.Fn : Fun := fnOf arena_Check.E arena_Check.sg Tryz.f140
def arena_Check.F (a : t2.den) : Option (Int × Unit) := arena_Check.Fn.F (a, ())
def arena_Check.S1 (n : Int) (b0 : List Int) (b02 : List Bool) (b03 : Int) : St := ⟨[(1, (.ptr 0 [])), (3, (.v (.int .i64) n))], [(0, some (.box (.agg [(.v (.slice (.int .i64)) b0), (.v (.slice .bool) b02), (.v (.int .i64) b03)])))], 1, []⟩
def arena_Check.L1 (n : Int) (b0 : List Int) (b02 : List Bool) (b03 : Int) : Option (Int × Unit) := res arena_Check.c (atJoin arena_Check.b [1, 1, 0, 1]) (arena_Check.S1 n b0 b02 b03)
def arena_Check.S2 (n i : Int) (b0 : List Int) (b02 : List Bool) (b03 : Int) (l1 : List Bool) : St := ⟨[(1, (.ptr 0 [])), (3, (.v (.int .i64) n)), (4, (.sl 1)), (5, (.v (.int .i64) i))], [(0, some (.box (.agg [(.v (.slice (.int .i64)) b0), (.v (.slice .bool) b02), (.v (.int .i64) b03)]))), (1, some (.row .bool l1 false))], 2, []⟩
def arena_Check.L2 (n i : Int) (b0 : List Int) (b02 : List Bool) (b03 : Int) (l1 : List Bool) : Option (Int × Unit) := res arena_Check.c (atLoop arena_Check.b [1, 1, 1, 1, 0, 1, 0]) (arena_Check.S2 n i b0 b02 b03 l1)
def arena_Check.S3 (n i : Int) (b0 : List Int) (b02 : List Bool) (b03 : Int) (l1 : List Bool) : St := ⟨[(1, (.ptr 0 [])), (3, (.v (.int .i64) n)), (4, (.sl 1)), (5, (.v (.int .i64) i))], [(0, some (.box (.agg [(.v (.slice (.int .i64)) b0), (.v (.slice .bool) b02), (.v (.int .i64) b03)]))), (1, some (.row .bool l1 false))], 2, []⟩
def arena_Check.L3 (n i : Int) (b0 : List Int) (b02 : List Bool) (b03 : Int) (l1 : List Bool) : Option (Int × Unit) := res arena_Check.c (atJoin arena_Check.b [1, 1, 1, 1, 0, 1, 0, 0, 0, 1]) (arena_Check.S3 n i b0 b02 b03 l1)
def arena_Check.S4 (t53_ : List Bool) (t54_ t55_ : Int) (b0 : List Int) (b02 : Int) (l1 : List Bool) : St := ⟨[(1, (.ptr 0 [])), (4, (.sl 1)), (53, (.v (.slice .bool) t53_)), (54, (.v (.int .i64) t54_)), (55, (.v (.int .i64) t55_))], [(0, some (.box (.agg [(.v (.slice (.int .i64)) b0), (.v (.slice .bool) t53_), (.v (.int .i64) b02)]))), (1, some (.row .bool l1 false))], 2, []⟩
def arena_Check.L4 (t53_ : List Bool) (t54_ t55_ : Int) (b0 : List Int) (b02 : Int) (l1 : List Bool) : Option (Int × Unit) := res arena_Check.c (atLoop arena_Check.b [1, 1, 1, 1, 1, 0, 1, 0]) (arena_Check.S4 t53_ t54_ t55_ b0 b02 l1)
def arena_Check.S5 (t53_ : List Bool) (t54_ t55_ : Int) (b0 : List Int) (b02 : Int) (l1 : List Bool) : St := ⟨[(1, (.ptr 0 [])), (4, (.sl 1)), (53, (.v (.slice .bool) t53_)), (54, (.v (.int .i64) t54_)), (55, (.v (.int .i64) t55_))], [(0, some (.box (.agg [(.v (.slice (.int .i64)) b0), (.v (.slice .bool) t53_), (.v (.int .i64) b02)]))), (1, some (.row .bool l1 false))], 2, []⟩
def arena_Check.L5 (t53_ : List Bool) (t54_ t55_ : Int) (b0 : List Int) (b02 : Int) (l1 : List Bool) : Option (Int × Unit) := res arena_Check.c (atJoin arena_Check.b [1, 1, 1, 1, 1, 0, 1, 0, 0, 1, 0]) (arena_Check.S5 t53_ t54_ t55_ b0 b02 l1)
def arena_Check.S6 (t53_ : List Bool) (t54_ t55_ : Int) (b0 : List Int) (b02 : Int) (l1 : List Bool) : St := ⟨[(1, (.ptr 0 [])), (4, (.sl 1)), (53, (.v (.slice .bool) t53_)), (54, (.v (.int .i64) t54_)), (55, (.v (.int .i64) t55_))], [(0, some (.box (.agg [(.v (.slice (.int .i64)) b0), (.v (.slice .bool) t53_), (.v (.int .i64) b02)]))), (1, some (.row .bool l1 false))], 2, []⟩
def arena_Check.L6 (t53_ : List Bool) (t54_ t55_ : Int) (b0 : List Int) (b02 : Int) (l1 : List Bool) : Option (Int × Unit) := res arena_Check.c (atJoin arena_Check.b [1, 1, 1, 1, 1, 0, 1, 0, 0, 1, 1, 0, 0, 1, 1]) (arena_Check.S6 t53_ t54_ t55_ b0 b02 l1)
def arena_Check.S7 (n i : Int) (b0 : List Int) (b02 : List Bool) (b03 : Int) (l1 : List Bool) : St := ⟨[(1, (.ptr 0 [])), (3, (.v (.int .i64) n)), (4, (.sl 1)), (5, (.v (.int .i64) i))], [(0, some (.box (.agg [(.v (.slice (.int .i64)) b0), (.v (.slice .bool) b02), (.v (.int .i64) b03)]))), (1, some (.row .bool l1 false))], 2, []⟩
def arena_Check.L7 (n i : Int) (b0 : List Int) (b02 : List Bool) (b03 : Int) (l1 : List Bool) : Option (Int × Unit) := res arena_Check.c (atJoin arena_Check.b [1, 1, 1, 1, 0, 1, 0, 0, 1, 0, 0, 0, 1]) (arena_Check.S7 n i b0 b02 b03 l1)
theorem arena_Check.spec : FnSpec Tryz.prog globs 140 arena_Check.Fn := spec_of (E := arena_Check.E) (envOk_at tabOk eqOk primsOk (.nil)) mixOk Tryz.func140 (by kernel_rfl)
theorem arena_Check.L1_eq (n : Int) (b0 : List Int) (b02 : List Bool) (b03 : Int) : arena_Check.L1 n b0 b02 b03 =
 bif (lim (List.length b02) .bool) then
  arena_Check.L2 n b03 b0 b02 b03 b02
 else none := res_eq (by kernel_rfl)
theorem arena_Check.L2_eq (n i : Int) (b0 : List Int) (b02 : List Bool) (b03 : Int) (l1 : List Bool) : arena_Check.L2 n i b0 b02 b03 l1 =
 bif (i != (-1)) then
  arena_Check.L3 n i b0 b02 b03 l1
 else
  arena_Check.L4 b02 ((List.length b02 : Int)) 0 b0 b03 l1 := res_eq (by kernel_rfl)
theorem arena_Check.L3_eq (n i : Int) (b0 : List Int) (b02 : List Bool) (b03 : Int) (l1 : List Bool) : arena_Check.L3 n i b0 b02 b03 l1 =
 bif (decide ((i : Int) < 0)) then
  some (8, ())
 else
  bif (decide ((i : Int) ≥ n)) then
   some (8, ())
  else
   bif (decide ((0 : Int) ≤ i ∧ (i : Int) < ((List.length l1 : Int)))) then
    bif (List.getD l1 (Int.toNat i) false) then
     some (8, ())
    else
     arena_Check.L7 n i b0 b02 b03 l1
   else none := res_eq (by kernel_rfl)
theorem arena_Check.L4_eq (t53_ : List Bool) (t54_ t55_ : Int) (b0 : List Int) (b02 : Int) (l1 : List Bool) : arena_Check.L4 t53_ t54_ t55_ b0 b02 l1 =
 bif (decide ((t55_ : Int) < t54_)) then
  arena_Check.L5 t53_ t54_ t55_ b0 b02 l1
 else
  some (0, ()) := res_eq (by kernel_rfl)
theorem arena_Check.L5_eq (t53_ : List Bool) (t54_ t55_ : Int) (b0 : List Int) (b02 : Int) (l1 : List Bool) : arena_Check.L5 t53_ t54_ t55_ b0 b02 l1 =
 bif (decide ((0 : Int) ≤ t55_ ∧ (t55_ : Int) < ((List.length t53_ : Int)))) then
  bif (decide ((0 : Int) ≤ t55_ ∧ (t55_ : Int) < ((List.length l1 : Int)))) then
   bif (!(List.getD l1 (Int.toNat t55_) false)) then
    some (8, ())
   else
    bif (List.getD t53_ (Int.toNat t55_) false) then
     bif (decide ((0 : Int) ≤ t55_ ∧ (t55_ : Int) < ((List.length b0 : Int)))) then
      bif ((List.getD b0 (Int.toNat t55_) 0) != (-1)) then
       some (8, ())
      else
       arena_Check.L6 t53_ t54_ t55_ b0 b02 l1
     else none
    else
     arena_Check.L6 t53_ t54_ t55_ b0 b02 l1
  else none
 else none := res_eq (by kernel_rfl)
theorem arena_Check.L6_eq (t53_ : List Bool) (t54_ t55_ : Int) (b0 : List Int) (b02 : Int) (l1 : List Bool) : arena_Check.L6 t53_ t54_ t55_ b0 b02 l1 =
 arena_Check.L4 t53_ t54_ (IntKind.wrap .i64 (t55_ + 1)) b0 b02 l1 := res_eq (by kernel_rfl)
theorem arena_Check.L7_eq (n i : Int) (b0 : List Int) (b02 : List Bool) (b03 : Int) (l1 : List Bool) : arena_Check.L7 n i b0 b02 b03 l1 =
 bif (decide ((0 : Int) ≤ i ∧ (i : Int) < ((List.length l1 : Int)))) then
  bif (decide ((0 : Int) ≤ i ∧ (i : Int) < ((List.length b0 : Int)))) then
   arena_Check.L2 n (List.getD b0 (Int.toNat i) 0) b0 b02 b03 (List.set l1 (Int.toNat i) true)
  else none
 else none := res_eq (by kernel_rfl)
theorem arena_Check.F_eq (a : t2.den) : arena_Check.F a =
 bif (decide ((((List.length a.1 : Int)) : Int) < 1)) then
  some (8, ())
 else
  bif (decide ((((List.length a.1 : Int)) : Int) > 16)) then
   some (8, ())
  else
   bif (((List.length a.2.1 : Int)) != ((List.length a.1 : Int))) then
    some (8, ())
   else
    arena_Check.L1 ((List.length a.1 : Int)) a.1 a.2.1 a.2.2.1 := by kernel_rfl
/-! ### spigot/probe.wrap (176) -/
def probe_wrap.sg : Sig := ⟨[.val (.int .i64)], [((.int .i64), true)]⟩
def probe_wrap.E : Env := ⟨tl, fun i => look i [], [], eqs, globs, prims⟩
def probe_wrap.c := cxOf probe_wrap.E probe_wrap.sg Tryz.f176
def probe_wrap.b := body Tryz.f176
def probe_wrap.Fn : Fun := fnOf probe_wrap.E probe_wrap.sg Tryz.f176
def probe_wrap.F (i : Int) : Option (Int × Unit) := probe_wrap.Fn.F (i, ())
theorem probe_wrap.spec : FnSpec Tryz.prog globs 176 probe_wrap.Fn := spec_of (E := probe_wrap.E) (envOk_at tabOk eqOk primsOk (.nil)) mixOk Tryz.func176 (by kernel_rfl)
theorem probe_wrap.F_eq (i : Int) : probe_wrap.F i =
 some ((bits .and .i64 i 15), ()) := by kernel_rfl
/-! ### spigot/probe.Home (177) -/
def probe_Home.sg : Sig := ⟨[.val (.int .u32)], [((.int .i64), true)]⟩
def probe_Home.E : Env := ⟨tl, fun i => look i [], [], eqs, globs, prims⟩
def probe_Home.c := cxOf probe_Home.E probe_Home.sg Tryz.f177
def probe_Home.b := body Tryz.f177
def probe_Home.Fn : Fun := fnOf probe_Home.E probe_Home.sg Tryz.f177
def probe_Home.F (key : Int) : Option (Int × Unit) := probe_Home.Fn.F (key, ())
theorem probe_Home.spec : FnSpec Tryz.prog globs 177 probe_Home.Fn := spec_of (E := probe_Home.E) (envOk_at tabOk eqOk primsOk (.nil)) mixOk Tryz.func177 (by kernel_rfl)
theorem probe_Home.F_eq (key : Int) : probe_Home.F key =
 bif (decide ((0 : Int) ≤ 28)) then
  some ((IntKind.wrap .i64 (Int.fdiv (IntKind.wrap .u32 (key * 2654435769)) (2 ^ min (Int.toNat 28) (IntKind.bits .u32)))), ())
 else none := by kernel_rfl
/-! ### spigot/probe.look (152) -/
def probe_look.sg : Sig := ⟨[.val (.slice t3), .val (.int .u32)], [((.int .i64), true), ((.int .i64), true)]⟩
def probe_look.E : Env := ⟨tl, fun i => look i [(176, probe_wrap.Fn), (177, probe_Home.Fn)], [], eqs, globs, prims⟩
def probe_look.c := cxOf probe_look.E probe_look.sg Tryz.f152
def probe_look.b := body Tryz.f152
def probe_look.Fn : Fun := fnOf probe_look.E probe_look.sg Tryz.f152
def probe_look.F (x : List t3.den) (key : Int) : Option (Int × Int × Unit) := probe_look.Fn.F (x, key, ())
def probe_look.S1 (x : List t3.den) (key i steps : Int) : St := ⟨[(0, (.v (.slice t3) x)), (1, (.v (.int .u32) key)), (4, (.v (.int .i64) i)), (5, (.v (.int .i64) steps))], [], 0, []⟩
def probe_look.L1 (x : List t3.den) (key i steps : Int) : Option (Int × Int × Unit) := res probe_look.c (atLoop probe_look.b [1, 0, 1, 0]) (probe_look.S1 x key i steps)
def probe_look.S2 (x : List t3.den) (key i steps : Int) : St := ⟨[(0, (.v (.slice t3) x)), (1, (.v (.int .u32) key)), (4, (.v (.int .i64) i)), (5, (.v (.int .i64) steps))], [], 0, []⟩
def probe_look.L2 (x : List t3.den) (key i steps : Int) : Option (Int × Int × Unit) := res probe_look.c (atJoin probe_look.b [1, 0, 1, 0, 0, 0, 1]) (probe_look.S2 x key i steps)
theorem probe_look.spec : FnSpec Tryz.prog globs 152 probe_look.Fn := spec_of (E := probe_look.E) (envOk_at tabOk eqOk primsOk (.cons probe_wrap.spec <| .cons probe_Home.spec <| .nil)) mixOk Tryz.func152 (by kernel_rfl)
theorem probe_look.L1_eq (x : List t3.den) (key i steps : Int) : probe_look.L1 x key i steps =
 bif (decide ((0 : Int) ≤ i ∧ (i : Int) < ((List.length x : Int)))) then
  bif (((List.getD x (Int.toNat i) (0, 0, false, ())).2).2).1 then
   bif (decide ((0 : Int) ≤ i ∧ (i : Int) < ((List.length x : Int)))) then
    bif ((List.getD x (Int.toNat i) (0, 0, false, ())).1 != key) then
     probe_look.L2 x key i steps
    else
     some (i, (IntKind.wrap .i64 (steps + 1)), ())
   else none
  else
   some (i, (IntKind.wrap .i64 (steps + 1)), ())
 else none := res_eq (by kernel_rfl)
theorem probe_look.L2_eq (x : List t3.den) (key i steps : Int) : probe_look.L2 x key i steps =
 (probe_wrap.F (IntKind.wrap .i64 (i + 1))).bind fun r0 =>
 probe_look.L1 x key r0.1 (IntKind.wrap .i64 (steps + 1)) := res_eq (by kernel_rfl)
theorem probe_look.F_eq (x : List t3.den) (key : Int) : probe_look.F x key =
 (probe_Home.F key).bind fun r0 =>
 probe_look.L1 x key r0.1 0 := by kernel_rfl
/-! ### spigot/probe.Check (141) -/
def probe_Check.sg : Sig := ⟨[.val (.slice t3)], [((.int .i64), true)]⟩
def probe_Check.E : Env := ⟨tl, fun i => look i [(152, probe_look.Fn)], [], eqs, globs, prims⟩
def probe_Check.c := cxOf probe_Check.E probe_Check.sg Tryz.f141
def probe_Check.b := body Tryz.f141
def probe_Check.Fn : Fun := fnOf probe_Check.E probe_Check.sg Tryz.f141
def probe_Check.F (x : List t3.den) : Option (Int × Unit) := probe_Check.Fn.F (x, ())
def probe_Check.S1 (x : List t3.den) : St := ⟨[(0, (.v (.slice t3) x))], [], 0, []⟩
def probe_Check.L1 (x : List t3.den) : Option (Int × Unit) := res probe_Check.c (atJoin probe_Check.b [1, 0, 1]) (probe_Check.S1 x)
def probe_Check.S2 (x : List t3.den) (n t14_ t15_ : Int) : St := ⟨[(0, (.v (.slice t3) x)), (3, (.v (.int .i64) n)), (13, (.v (.slice t3) x)), (14, (.v (.int .i64) t14_)), (15, (.v (.int .i64) t15_))], [], 0, []⟩
def probe_Check.L2 (x : List t3.den) (n t14_ t15_ : Int) : Option (Int × Unit) := res probe_Check.c (atLoop probe_Check.b [1, 1, 1, 0, 1, 0]) (probe_Check.S2 x n t14_ t15_)
def probe_Check.S3 (x : List t3.den) (n t14_ t15_ : Int) : St := ⟨[(0, (.v (.slice t3) x)), (3, (.v (.int .i64) n)), (13, (.v (.slice t3) x)), (14, (.v (.int .i64) t14_)), (15, (.v (.int .i64) t15_))], [], 0, []⟩
def probe_Check.L3 (x : List t3.den) (n t14_ t15_ : Int) : Option (Int × Unit) := res probe_Check.c (atJoin probe_Check.b [1, 1, 1, 0, 1, 0, 0, 1, 0]) (probe_Check.S3 x n t14_ t15_)
def probe_Check.S4 (x : List t3.den) : St := ⟨[(0, (.v (.slice t3) x))], [], 0, []⟩
def probe_Check.L4 (x : List t3.den) : Option (Int × Unit) := res probe_Check.c (atJoin probe_Check.b [1, 1, 1, 1, 0, 1]) (probe_Check.S4 x)
def probe_Check.S5 (x : List t3.den) (t26_ : Int) : St := ⟨[(0, (.v (.slice t3) x)), (26, (.v (.int .i64) t26_))], [], 0, []⟩
def probe_Check.L5 (x : List t3.den) (t26_ : Int) : Option (Int × Unit) := res probe_Check.c (atLoop probe_Check.b [1, 1, 1, 1, 1, 0, 1, 0]) (probe_Check.S5 x t26_)
def probe_Check.S6 (x : List t3.den) (t26_ : Int) : St := ⟨[(0, (.v (.slice t3) x)), (26, (.v (.int .i64) t26_))], [], 0, []⟩
def probe_Check.L6 (x : List t3.den) (t26_ : Int) : Option (Int × Unit) := res probe_Check.c (atJoin probe_Check.b [1, 1, 1, 1, 1, 0, 1, 0, 0, 1, 0]) (probe_Check.S6 x t26_)
def probe_Check.S7 (x : List t3.den) (i b0 b02 : Int) (b03 : Bool) : St := ⟨[(0, (.v (.slice t3) x)), (6, (.v (.int .i64) i)), (7, (.ptr 0 [])), (26, (.v (.int .i64) i))], [(0, some (.box (.agg [(.v (.int .u32) b0), (.v (.int .i64) b02), (.v .bool b03)])))], 1, []⟩
def probe_Check.L7 (x : List t3.den) (i b0 b02 : Int) (b03 : Bool) : Option (Int × Unit) := res probe_Check.c (atJoin probe_Check.b [1, 1, 1, 1, 1, 0, 1, 0, 0, 1, 1, 0, 0, 1, 1, 0, 1]) (probe_Check.S7 x i b0 b02 b03)
def probe_Check.S8 (x : List t3.den) (t26_ : Int) : St := ⟨[(0, (.v (.slice t3) x)), (26, (.v (.int .i64) t26_))], [], 0, []⟩
def probe_Check.L8 (x : List t3.den) (t26_ : Int) : Option (Int × Unit) := res probe_Check.c (atJoin probe_Check.b [1, 1, 1, 1, 1, 0, 1, 0, 0, 1, 1, 0, 0, 1, 1, 1, 1, 1]) (probe_Check.S8 x t26_)
def probe_Check.S9 (x : List t3.den) (n t14_ t15_ : Int) : St := ⟨[(0, (.v (.slice t3) x)), (3, (.v (.int .i64) n)), (13, (.v (.slice t3) x)), (14, (.v (.int .i64) t14_)), (15, (.v (.int .i64) t15_))], [], 0, []⟩
def probe_Check.L9 (x : List t3.den) (n t14_ t15_ : Int) : Option (Int × Unit) := res probe_Check.c (atJoin probe_Check.b [1, 1, 1, 0, 1, 0, 0, 1, 1, 0, 0, 1, 1]) (probe_Check.S9 x n t14_ t15_)
theorem probe_Check.spec : FnSpec Tryz.prog globs 141 probe_Check.Fn := spec_of (E := probe_Check.E) (envOk_at tabOk eqOk primsOk (.cons probe_look.spec <| .nil)) mixOk Tryz.func141 (by kernel_rfl)
theorem probe_Check.L1_eq (x : List t3.den) : probe_Check.L1 x =
 probe_Check.L2 x 0 ((List.length x : Int)) 0 := res_eq (by kernel_rfl)
theorem probe_Check.L2_eq (x : List t3.den) (n t14_ t15_ : Int) : probe_Check.L2 x n t14_ t15_ =
 bif (decide ((t15_ : Int) < t14_)) then
  probe_Check.L3 x n t14_ t15_
 else
  bif (decide ((n : Int) > 12)) then
   some (8, ())
  else
   probe_Check.L4 x := res_eq (by kernel_rfl)
theorem probe_Check.L3_eq (x : List t3.den) (n t14_ t15_ : Int) : probe_Check.L3 x n t14_ t15_ =
 bif (decide ((0 : Int) ≤ t15_ ∧ (t15_ : Int) < ((List.length x : Int)))) then
  bif (((List.getD x (Int.toNat t15_) (0, 0, false, ())).2).2).1 then
   probe_Check.L9 x (IntKind.wrap .i64 (n + 1)) t14_ t15_
  else
   probe_Check.L9 x n t14_ t15_
 else none := res_eq (by kernel_rfl)
theorem probe_Check.L4_eq (x : List t3.den) : probe_Check.L4 x =
 probe_Check.L5 x 0 := res_eq (by kernel_rfl)
theorem probe_Check.L5_eq (x : List t3.den) (t26_ : Int) : probe_Check.L5 x t26_ =
 bif (decide ((t26_ : Int) < 16)) then
  probe_Check.L6 x t26_
 else
  some (0, ()) := res_eq (by kernel_rfl)
theorem probe_Check.L6_eq (x : List t3.den) (t26_ : Int) : probe_Check.L6 x t26_ =
 bif (decide ((0 : Int) ≤ t26_ ∧ (t26_ : Int) < ((List.length x : Int)))) then
  bif (!((((List.getD x (Int.toNat t26_) (0, 0, false, ())).2).2).1)) then
   bif (!(Ty.beq t3 (List.getD x (Int.toNat t26_) (0, 0, false, ())) (0, 0, false, ()))) then
    some (8, ())
   else
    bif (((List.getD x (Int.toNat t26_) (0, 0, false, ())).2).2).1 then
     bif (decide (((((List.getD x (Int.toNat t26_) (0, 0, false, ())).2).1) : Int) < 0)) then
      some (8, ())
     else
      bif (decide (((((List.getD x (Int.toNat t26_) (0, 0, false, ())).2).1) : Int) ≥ 16)) then
       some (8, ())
      else
       probe_Check.L7 x t26_ ((List.getD x (Int.toNat t26_) (0, 0, false, ())).1) (((List.getD x (Int.toNat t26_) (0, 0, false, ())).2).1) ((((List.getD x (Int.toNat t26_) (0, 0, false, ())).2).2).1)
    else
     probe_Check.L7 x t26_ ((List.getD x (Int.toNat t26_) (0, 0, false, ())).1) (((List.getD x (Int.toNat t26_) (0, 0, false, ())).2).1) ((((List.getD x (Int.toNat t26_) (0, 0, false, ())).2).2).1)
  else
   bif (((List.getD x (Int.toNat t26_) (0, 0, false, ())).2).2).1 then
    bif (decide (((((List.getD x (Int.toNat t26_) (0, 0, false, ())).2).1) : Int) < 0)) then
     some (8, ())
    else
     bif (decide (((((List.getD x (Int.toNat t26_) (0, 0, false, ())).2).1) : Int) ≥ 16)) then
      some (8, ())
     else
      probe_Check.L7 x t26_ ((List.getD x (Int.toNat t26_) (0, 0, false, ())).1) (((List.getD x (Int.toNat t26_) (0, 0, false, ())).2).1) ((((List.getD x (Int.toNat t26_) (0, 0, false, ())).2).2).1)
   else
    probe_Check.L7 x t26_ ((List.getD x (Int.toNat t26_) (0, 0, false, ())).1) (((List.getD x (Int.toNat t26_) (0, 0, false, ())).2).1) ((((List.getD x (Int.toNat t26_) (0, 0, false, ())).2).2).1)
 else none := res_eq (by kernel_rfl)
theorem probe_Check.L7_eq (x : List t3.den) (i b0 b02 : Int) (b03 : Bool) : probe_Check.L7 x i b0 b02 b03 =
 (probe_look.F x b0).bind fun r0 =>
 bif b03 then
  bif (r0.1 != i) then
   some (8, ())
  else
   probe_Check.L8 x i
 else
  probe_Check.L8 x i := res_eq (by kernel_rfl)
theorem probe_Check.L8_eq (x : List t3.den) (t26_ : Int) : probe_Check.L8 x t26_ =
 probe_Check.L5 x (IntKind.wrap .i64 (t26_ + 1)) := res_eq (by kernel_rfl)
theorem probe_Check.L9_eq (x : List t3.den) (n t14_ t15_ : Int) : probe_Check.L9 x n t14_ t15_ =
 probe_Check.L2 x n t14_ (IntKind.wrap .i64 (t15_ + 1)) := res_eq (by kernel_rfl)
theorem probe_Check.F_eq (x : List t3.den) : probe_Check.F x =
 bif (((List.length x : Int)) != 16) then
  some (8, ())
 else
  probe_Check.L1 x := by kernel_rfl
/-! ### slices.Index[[]int,int] (175) -/
def slices_Index.sg : Sig := ⟨[.val (.slice (.int .i64)), .val (.int .i64)], [((.int .i64), true)]⟩
def slices_Index.E : Env := ⟨tl, fun i => look i [], [], eqs, globs, prims⟩
def slices_Index.c := cxOf slices_Index.E slices_Index.sg Tryz.f175
def slices_Index.b := body Tryz.f175
def slices_Index.Fn : Fun := fnOf slices_Index.E slices_Index.sg Tryz.f175
def slices_Index.F (s : List Int) (v : Int) : Option (Int × Unit) := slices_Index.Fn.F (s, v, ())
def slices_Index.S1 (s : List Int) (v t7_ t8_ : Int) : St := ⟨[(0, (.v (.slice (.int .i64)) s)), (1, (.v (.int .i64) v)), (7, (.v (.int .i64) t7_)), (8, (.v (.int .i64) t8_))], [], 0, []⟩
def slices_Index.L1 (s : List Int) (v t7_ t8_ : Int) : Option (Int × Unit) := res slices_Index.c (atLoop slices_Index.b [1, 0, 1, 0]) (slices_Index.S1 s v t7_ t8_)
def slices_Index.S2 (s : List Int) (v t7_ t8_ : Int) : St := ⟨[(0, (.v (.slice (.int .i64)) s)), (1, (.v (.int .i64) v)), (7, (.v (.int .i64) t7_)), (8, (.v (.int .i64) t8_))], [], 0, []⟩
def slices_Index.L2 (s : List Int) (v t7_ t8_ : Int) : Option (Int × Unit) := res slices_Index.c (atJoin slices_Index.b [1, 0, 1, 0, 0, 1, 0]) (slices_Index.S2 s v t7_ t8_)
def slices_Index.S3 (s : List Int) (v t7_ t8_ : Int) : St := ⟨[(0, (.v (.slice (.int .i64)) s)), (1, (.v (.int .i64) v)), (7, (.v (.int .i64) t7_)), (8, (.v (.int .i64) t8_))], [], 0, []⟩
def slices_Index.L3 (s : List Int) (v t7_ t8_ : Int) : Option (Int × Unit) := res slices_Index.c (atJoin slices_Index.b [1, 0, 1, 0, 0, 1, 1, 0, 0, 1, 1]) (slices_Index.S3 s v t7_ t8_)
theorem slices_Index.spec : FnSpec Tryz.prog globs 175 slices_Index.Fn := spec_of (E := slices_Index.E) (envOk_at tabOk eqOk primsOk (.nil)) mixOk Tryz.func175 (by kernel_rfl)
theorem slices_Index.L1_eq (s : List Int) (v t7_ t8_ : Int) : slices_Index.L1 s v t7_ t8_ =
 bif (decide ((t8_ : Int) < t7_)) then
  slices_Index.L2 s v t7_ t8_
 else
  some ((-1), ()) := res_eq (by kernel_rfl)
theorem slices_Index.L2_eq (s : List Int) (v t7_ t8_ : Int) : slices_Index.L2 s v t7_ t8_ =
 bif (decide ((0 : Int) ≤ t8_ ∧ (t8_ : Int) < ((List.length s : Int)))) then
  bif (v == (List.getD s (Int.toNat t8_) 0)) then
   some (t8_, ())
  else
   slices_Index.L3 s v t7_ t8_
 else none := res_eq (by kernel_rfl)
theorem slices_Index.L3_eq (s : List Int) (v t7_ t8_ : Int) : slices_Index.L3 s v t7_ t8_ =
 slices_Index.L1 s v t7_ (IntKind.wrap .i64 (t8_ + 1)) := res_eq (by kernel_rfl)
theorem slices_Index.F_eq (s : List Int) (v : Int) : slices_Index.F s v =
 slices_Index.L1 s v ((List.length s : Int)) 0 := by kernel_rfl
/-! ### slices.Contains[[]int,int] (142) -/
def slices_Contains.sg : Sig := ⟨[.val (.slice (.int .i64)), .val (.int .i64)], [(.bool, true)]⟩
def slices_Contains.E : Env := ⟨tl, fun i => look i [(175, slices_Index.Fn)], [], eqs, globs, prims⟩
def slices_Contains.c := cxOf slices_Contains.E slices_Contains.sg Tryz.f142
def slices_Contains.b := body Tryz.f142
def slices_Contains.Fn : Fun := fnOf slices_Contains.E slices_Contains.sg Tryz.f142
def slices_Contains.F (s : List Int) (v : Int) : Option (Bool × Unit) := slices_Contains.Fn.F (s, v, ())
theorem slices_Contains.spec : FnSpec Tryz.prog globs 142 slices_Contains.Fn := spec_of (E := slices_Contains.E) (envOk_at tabOk eqOk primsOk (.cons slices_Index.spec <| .nil)) mixOk Tryz.func142 (by kernel_rfl)
theorem slices_Contains.F_eq (s : List Int) (v : Int) : slices_Contains.F s v =
 (slices_Index.F s v).bind fun r0 =>
 some ((decide ((r0.1 : Int) ≥ 0)), ()) := by kernel_rfl
/-! ### spigot/probe.Find (143) -/
def probe_Find.sg : Sig := ⟨[.val (.slice t3), .val (.int .u32)], [((.int .i64), true), ((.int .i64), true)]⟩
def probe_Find.E : Env := ⟨tl, fun i => look i [(141, probe_Check.Fn), (152, probe_look.Fn)], [], eqs, globs, prims⟩
def probe_Find.c := cxOf probe_Find.E probe_Find.sg Tryz.f143
def probe_Find.b := body Tryz.f143
def probe_Find.Fn : Fun := fnOf probe_Find.E probe_Find.sg Tryz.f143
def probe_Find.F (x : List t3.den) (key : Int) : Option (Int × Int × Unit) := probe_Find.Fn.F (x, key, ())
def probe_Find.S1 (x : List t3.den) (key : Int) : St := ⟨[(0, (.v (.slice t3) x)), (1, (.v (.int .u32) key))], [], 0, []⟩
def probe_Find.L1 (x : List t3.den) (key : Int) : Option (Int × Int × Unit) := res probe_Find.c (atJoin probe_Find.b [1, 0, 1, 1]) (probe_Find.S1 x key)
def probe_Find.S2 (x : List t3.den) (i : Int) : St := ⟨[(0, (.v (.slice t3) x)), (7, (.v (.int .i64) i))], [], 0, []⟩
def probe_Find.L2 (x : List t3.den) (i : Int) : Option (Int × Int × Unit) := res probe_Find.c (atJoin probe_Find.b [1, 1, 1, 0, 1]) (probe_Find.S2 x i)
theorem probe_Find.spec : FnSpec Tryz.prog globs 143 probe_Find.Fn := spec_of (E := probe_Find.E) (envOk_at tabOk eqOk primsOk (.cons probe_Check.spec <| .cons probe_look.spec <| .nil)) mixOk Tryz.func143 (by kernel_rfl)
theorem probe_Find.L1_eq (x : List t3.den) (key : Int) : probe_Find.L1 x key =
 (probe_look.F x key).bind fun r0 =>
 bif (decide ((0 : Int) ≤ r0.1 ∧ (r0.1 : Int) < ((List.length x : Int)))) then
  bif (!((((List.getD x (Int.toNat r0.1) (0, 0, false, ())).2).2).1)) then
   some (0, 6, ())
  else
   probe_Find.L2 x r0.1
 else none := res_eq (by kernel_rfl)
theorem probe_Find.L2_eq (x : List t3.den) (i : Int) : probe_Find.L2 x i =
 bif (decide ((0 : Int) ≤ i ∧ (i : Int) < ((List.length x : Int)))) then
  some (((List.getD x (Int.toNat i) (0, 0, false, ())).2).1, 0, ())
 else none := res_eq (by kernel_rfl)
theorem probe_Find.F_eq (x : List t3.den) (key : Int) : probe_Find.F x key =
 (probe_Check.F x).bind fun r0 =>
 bif (r0.1 != 0) then
  some (0, r0.1, ())
 else
  probe_Find.L1 x key := by kernel_rfl
/-! ### spigot/table.Check (106) -/
def table_Check.sg : Sig := ⟨[.val t5], [((.int .i64), true)]⟩
def table_Check.E : Env := ⟨tl, fun i => look i [(99, bucket_Check.Fn), (134, lru_List.Fn), (140, arena_Check.Fn), (141, probe_Check.Fn), (142, slices_Contains.Fn), (143, probe_Find.Fn)], [], eqs, globs, prims⟩
def table_Check.c := cxOf table_Check.E table_Check.sg Tryz.f106
def table_Check.b := body Tryz.f106
def table_Check.Fn : Fun := fnOf table_Check.E table_Check.sg Tryz.f106
def table_Check.F (t : t5.den) : Option (Int × Unit) := table_Check.Fn.F (t, ())
def table_Check.S1 (b0 : Int) (b02 : List Int) (b03 : List t1.den) (b04 : List Int) (b05 : List Bool) (b06 : Int) (b07 : List t3.den) (b08 b09 : List Int) (b010 b011 : Int) : St := ⟨[(1, (.ptr 0 []))], [(0, some (.box (.agg [(.v (.int .i64) b0), (.v (.slice (.int .u32)) b02), (.v (.slice t1) b03), (.agg [(.v (.slice (.int .i64)) b04), (.v (.slice .bool) b05), (.v (.int .i64) b06)]), (.v (.slice t3) b07), (.agg [(.v (.slice (.int .i64)) b08), (.v (.slice (.int .i64)) b09), (.v (.int .i64) b010), (.v (.int .i64) b011)])])))], 1, []⟩
def table_Check.L1 (b0 : Int) (b02 : List Int) (b03 : List t1.den) (b04 : List Int) (b05 : List Bool) (b06 : Int) (b07 : List t3.den) (b08 b09 : List Int) (b010 b011 : Int) : Option (Int × Unit) := res table_Check.c (atJoin table_Check.b [1, 1, 1, 0, 1]) (table_Check.S1 b0 b02 b03 b04 b05 b06 b07 b08 b09 b010 b011)
def table_Check.S2 (b0 : Int) (b02 : List Int) (b03 : List t1.den) (b04 : List Int) (b05 : List Bool) (b06 : Int) (b07 : List t3.den) (b08 b09 : List Int) (b010 b011 : Int) (l1 : List Int) : St := ⟨[(1, (.ptr 0 [])), (5, (.sl 1))], [(0, some (.box (.agg [(.v (.int .i64) b0), (.v (.slice (.int .u32)) b02), (.v (.slice t1) b03), (.agg [(.v (.slice (.int .i64)) b04), (.v (.slice .bool) b05), (.v (.int .i64) b06)]), (.v (.slice t3) b07), (.agg [(.v (.slice (.int .i64)) b08), (.v (.slice (.int .i64)) b09), (.v (.int .i64) b010), (.v (.int .i64) b011)])]))), (1, some (.row (.int .i64) l1 false))], 2, []⟩
def table_Check.L2 (b0 : Int) (b02 : List Int) (b03 : List t1.den) (b04 : List Int) (b05 : List Bool) (b06 : Int) (b07 : List t3.den) (b08 b09 : List Int) (b010 b011 : Int) (l1 : List Int) : Option (Int × Unit) := res table_Check.c (atJoin table_Check.b [1, 1, 1, 1, 1, 0, 1]) (table_Check.S2 b0 b02 b03 b04 b05 b06 b07 b08 b09 b010 b011 l1)
def table_Check.S3 (used : Int) (t68_ : List Bool) (t69_ t70_ b0 : Int) (b02 : List Int) (b03 : List t1.den) (b04 : List Int) (b05 : Int) (b06 : List t3.den) (b07 b08 : List Int) (b09 b010 : Int) (l1 : List Int) : St := ⟨[(1, (.ptr 0 [])), (5, (.sl 1)), (7, (.v (.int .i64) used)), (68, (.v (.slice .bool) t68_)), (69, (.v (.int .i64) t69_)), (70, (.v (.int .i64) t70_))], [(0, some (.box (.agg [(.v (.int .i64) b0), (.v (.slice (.int .u32)) b02), (.v (.slice t1) b03), (.agg [(.v (.slice (.int .i64)) b04), (.v (.slice .bool) t68_), (.v (.int .i64) b05)]), (.v (.slice t3) b06), (.agg [(.v (.slice (.int .i64)) b07), (.v (.slice (.int .i64)) b08), (.v (.int .i64) b09), (.v (.int .i64) b010)])]))), (1, some (.row (.int .i64) l1 false))], 2, []⟩
def table_Check.L3 (used : Int) (t68_ : List Bool) (t69_ t70_ b0 : Int) (b02 : List Int) (b03 : List t1.den) (b04 : List Int) (b05 : Int) (b06 : List t3.den) (b07 b08 : List Int) (b09 b010 : Int) (l1 : List Int) : Option (Int × Unit) := res table_Check.c (atLoop table_Check.b [1, 1, 1, 1, 1, 1, 1, 0, 1, 0]) (table_Check.S3 used t68_ t69_ t70_ b0 b02 b03 b04 b05 b06 b07 b08 b09 b010 l1)
def table_Check.S4 (used : Int) (t68_ : List Bool) (t69_ t70_ b0 : Int) (b02 : List Int) (b03 : List t1.den) (b04 : List Int) (b05 : Int) (b06 : List t3.den) (b07 b08 : List Int) (b09 b010 : Int) (l1 : List Int) : St := ⟨[(1, (.ptr 0 [])), (5, (.sl 1)), (7, (.v (.int .i64) used)), (68, (.v (.slice .bool) t68_)), (69, (.v (.int .i64) t69_)), (70, (.v (.int .i64) t70_))], [(0, some (.box (.agg [(.v (.int .i64) b0), (.v (.slice (.int .u32)) b02), (.v (.slice t1) b03), (.agg [(.v (.slice (.int .i64)) b04), (.v (.slice .bool) t68_), (.v (.int .i64) b05)]), (.v (.slice t3) b06), (.agg [(.v (.slice (.int .i64)) b07), (.v (.slice (.int .i64)) b08), (.v (.int .i64) b09), (.v (.int .i64) b010)])]))), (1, some (.row (.int .i64) l1 false))], 2, []⟩
def table_Check.L4 (used : Int) (t68_ : List Bool) (t69_ t70_ b0 : Int) (b02 : List Int) (b03 : List t1.den) (b04 : List Int) (b05 : Int) (b06 : List t3.den) (b07 b08 : List Int) (b09 b010 : Int) (l1 : List Int) : Option (Int × Unit) := res table_Check.c (atJoin table_Check.b [1, 1, 1, 1, 1, 1, 1, 0, 1, 0, 0, 1, 0]) (table_Check.S4 used t68_ t69_ t70_ b0 b02 b03 b04 b05 b06 b07 b08 b09 b010 l1)
def table_Check.S5 (used : Int) (t134_ : List t3.den) (t135_ t136_ : Int) : St := ⟨[(7, (.v (.int .i64) used)), (134, (.v (.slice t3) t134_)), (135, (.v (.int .i64) t135_)), (136, (.v (.int .i64) t136_))], [], 0, []⟩
def table_Check.L5 (used : Int) (t134_ : List t3.den) (t135_ t136_ : Int) : Option (Int × Unit) := res table_Check.c (atLoop table_Check.b [1, 1, 1, 1, 1, 1, 1, 1, 0, 1, 0]) (table_Check.S5 used t134_ t135_ t136_)
def table_Check.S6 (used : Int) (t134_ : List t3.den) (t135_ t136_ : Int) : St := ⟨[(7, (.v (.int .i64) used)), (134, (.v (.slice t3) t134_)), (135, (.v (.int .i64) t135_)), (136, (.v (.int .i64) t136_))], [], 0, []⟩
def table_Check.L6 (used : Int) (t134_ : List t3.den) (t135_ t136_ : Int) : Option (Int × Unit) := res table_Check.c (atJoin table_Check.b [1, 1, 1, 1, 1, 1, 1, 1, 0, 1, 0, 0, 1, 0]) (table_Check.S6 used t134_ t135_ t136_)
def table_Check.S7 : St := ⟨[], [], 0, []⟩
def table_Check.L7 : Option (Int × Unit) := res table_Check.c (atJoin table_Check.b [1, 1, 1, 1, 1, 1, 1, 1, 1, 0, 1]) (table_Check.S7)
def table_Check.S8 (used : Int) (t134_ : List t3.den) (t135_ t136_ : Int) : St := ⟨[(7, (.v (.int .i64) used)), (134, (.v (.slice t3) t134_)), (135, (.v (.int .i64) t135_)), (136, (.v (.int .i64) t136_))], [], 0, []⟩
def table_Check.L8 (used : Int) (t134_ : List t3.den) (t135_ t136_ : Int) : Option (Int × Unit) := res table_Check.c (atJoin table_Check.b [1, 1, 1, 1, 1, 1, 1, 1, 0, 1, 0, 0, 1, 1, 0, 0, 1, 1]) (table_Check.S8 used t134_ t135_ t136_)
def table_Check.S9 (used i : Int) (is_ : Bool) (t68_ : List Bool) (t69_ b0 : Int) (b02 : List Int) (b03 : List t1.den) (b04 : List Int) (b05 : Int) (b06 : List t3.den) (b07 b08 : List Int) (b09 b010 : Int) (l1 : List Int) : St := ⟨[(1, (.ptr 0 [])), (5, (.sl 1)), (7, (.v (.int .i64) used)), (8, (.v (.int .i64) i)), (9, (.v .bool is_)), (68, (.v (.slice .bool) t68_)), (69, (.v (.int .i64) t69_)), (70, (.v (.int .i64) i))], [(0, some (.box (.agg [(.v (.int .i64) b0), (.v (.slice (.int .u32)) b02), (.v (.slice t1) b03), (.agg [(.v (.slice (.int .i64)) b04), (.v (.slice .bool) t68_), (.v (.int .i64) b05)]), (.v (.slice t3) b06), (.agg [(.v (.slice (.int .i64)) b07), (.v (.slice (.int .i64)) b08), (.v (.int .i64) b09), (.v (.int .i64) b010)])]))), (1, some (.row (.int .i64) l1 false))], 2, []⟩
def table_Check.L9 (used i : Int) (is_ : Bool) (t68_ : List Bool) (t69_ b0 : Int) (b02 : List Int) (b03 : List t1.den) (b04 : List Int) (b05 : Int) (b06 : List t3.den) (b07 b08 : List Int) (b09 b010 : Int) (l1 : List Int) : Option (Int × Unit) := res table_Check.c (atJoin table_Check.b [1, 1, 1, 1, 1, 1, 1, 0, 1, 0, 0, 1, 1, 0, 0, 1, 0, 1]) (table_Check.S9 used i is_ t68_ t69_ b0 b02 b03 b04 b05 b06 b07 b08 b09 b010 l1)
def table_Check.S10 (used i : Int) (t68_ : List Bool) (t69_ b0 : Int) (b02 : List Int) (b03 : List t1.den) (b04 : List Int) (b05 : Int) (b06 : List t3.den) (b07 b08 : List Int) (b09 b010 : Int) (l1 : List Int) : St := ⟨[(1, (.ptr 0 [])), (5, (.sl 1)), (7, (.v (.int .i64) used)), (8, (.v (.int .i64) i)), (68, (.v (.slice .bool) t68_)), (69, (.v (.int .i64) t69_)), (70, (.v (.int .i64) i))], [(0, some (.box (.agg [(.v (.int .i64) b0), (.v (.slice (.int .u32)) b02), (.v (.slice t1) b03), (.agg [(.v (.slice (.int .i64)) b04), (.v (.slice .bool) t68_), (.v (.int .i64) b05)]), (.v (.slice t3) b06), (.agg [(.v (.slice (.int .i64)) b07), (.v (.slice (.int .i64)) b08), (.v (.int .i64) b09), (.v (.int .i64) b010)])]))), (1, some (.row (.int .i64) l1 false))], 2, []⟩
def table_Check.L10 (used i : Int) (t68_ : List Bool) (t69_ b0 : Int) (b02 : List Int) (b03 : List t1.den) (b04 : List Int) (b05 : Int) (b06 : List t3.den) (b07 b08 : List Int) (b09 b010 : Int) (l1 : List Int) : Option (Int × Unit) := res table_Check.c (atJoin table_Check.b [1, 1, 1, 1, 1, 1, 1, 0, 1, 0, 0, 1, 1, 0, 0, 1, 1, 0, 1]) (table_Check.S10 used i t68_ t69_ b0 b02 b03 b04 b05 b06 b07 b08 b09 b010 l1)
def table_Check.S11 (used : Int) (t68_ : List Bool) (t69_ t70_ b0 : Int) (b02 : List Int) (b03 : List t1.den) (b04 : List Int) (b05 : Int) (b06 : List t3.den) (b07 b08 : List Int) (b09 b010 : Int) (l1 : List Int) : St := ⟨[(1, (.ptr 0 [])), (5, (.sl 1)), (7, (.v (.int .i64) used)), (68, (.v (.slice .bool) t68_)), (69, (.v (.int .i64) t69_)), (70, (.v (.int .i64) t70_))], [(0, some (.box (.agg [(.v (.int .i64) b0), (.v (.slice (.int .u32)) b02), (.v (.slice t1) b03), (.agg [(.v (.slice (.int .i64)) b04), (.v (.slice .bool) t68_), (.v (.int .i64) b05)]), (.v (.slice t3) b06), (.agg [(.v (.slice (.int .i64)) b07), (.v (.slice (.int .i64)) b08), (.v (.int .i64) b09), (.v (.int .i64) b010)])]))), (1, some (.row (.int .i64) l1 false))], 2, []⟩
def table_Check.L11 (used : Int) (t68_ : List Bool) (t69_ t70_ b0 : Int) (b02 : List Int) (b03 : List t1.den) (b04 : List Int) (b05 : Int) (b06 : List t3.den) (b07 b08 : List Int) (b09 b010 : Int) (l1 : List Int) : Option (Int × Unit) := res table_Check.c (atJoin table_Check.b [1, 1, 1, 1, 1, 1, 1, 0, 1, 0, 0, 1, 1, 0, 0, 1, 1, 1, 1, 1, 1]) (table_Check.S11 used t68_ t69_ t70_ b0 b02 b03 b04 b05 b06 b07 b08 b09 b010 l1)
theorem table_Check.spec : FnSpec Tryz.prog globs 106 table_Check.Fn := spec_of (E := table_Check.E) (envOk_at tabOk eqOk primsOk (.cons bucket_Check.spec <| .cons lru_List.spec <| .cons arena_Check.spec <| .cons probe_Check.spec <| .cons slices_Contains.spec <| .cons probe_Find.spec <| .nil)) mixOk Tryz.func106 (by kernel_rfl)
theorem table_Check.L1_eq (b0 : Int) (b02 : List Int) (b03 : List t1.den) (b04 : List Int) (b05 : List Bool) (b06 : Int) (b07 : List t3.den) (b08 b09 : List Int) (b010 b011 : Int) : table_Check.L1 b0 b02 b03 b04 b05 b06 b07 b08 b09 b010 b011 =
 (lru_List.F (b08, b09, b010, b011, ())).bind fun r0 =>
 bif (r0.2.1 != 0) then
  some (8, ())
 else
  table_Check.L2 b0 b02 b03 b04 b05 b06 b07 b08 b09 b010 b011 r0.1 := res_eq (by kernel_rfl)
theorem table_Check.L2_eq (b0 : Int) (b02 : List Int) (b03 : List t1.den) (b04 : List Int) (b05 : List Bool) (b06 : Int) (b07 : List t3.den) (b08 b09 : List Int) (b010 b011 : Int) (l1 : List Int) : table_Check.L2 b0 b02 b03 b04 b05 b06 b07 b08 b09 b010 b011 l1 =
 table_Check.L3 0 b05 ((List.length b05 : Int)) 0 b0 b02 b03 b04 b06 b07 b08 b09 b010 b011 l1 := res_eq (by kernel_rfl)
theorem table_Check.L3_eq (used : Int) (t68_ : List Bool) (t69_ t70_ b0 : Int) (b02 : List Int) (b03 : List t1.den) (b04 : List Int) (b05 : Int) (b06 : List t3.den) (b07 b08 : List Int) (b09 b010 : Int) (l1 : List Int) : table_Check.L3 used t68_ t69_ t70_ b0 b02 b03 b04 b05 b06 b07 b08 b09 b010 l1 =
 bif (decide ((t70_ : Int) < t69_)) then
  table_Check.L4 used t68_ t69_ t70_ b0 b02 b03 b04 b05 b06 b07 b08 b09 b010 l1
 else
  table_Check.L5 used b06 ((List.length b06 : Int)) 0 := res_eq (by kernel_rfl)
theorem table_Check.L4_eq (used : Int) (t68_ : List Bool) (t69_ t70_ b0 : Int) (b02 : List Int) (b03 : List t1.den) (b04 : List Int) (b05 : Int) (b06 : List t3.den) (b07 b08 : List Int) (b09 b010 : Int) (l1 : List Int) : table_Check.L4 used t68_ t69_ t70_ b0 b02 b03 b04 b05 b06 b07 b08 b09 b010 l1 =
 bif (decide ((0 : Int) ≤ t70_ ∧ (t70_ : Int) < ((List.length t68_ : Int)))) then
  (slices_Contains.F l1 t70_).bind fun r0 =>
  bif (!((List.getD t68_ (Int.toNat t70_) false) == r0.1)) then
   some (8, ())
  else
   bif (!(List.getD t68_ (Int.toNat t70_) false)) then
    bif (decide ((0 : Int) ≤ t70_ ∧ (t70_ : Int) < ((List.length b02 : Int)))) then
     bif ((List.getD b02 (Int.toNat t70_) 0) != 0) then
      some (8, ())
     else
      bif (decide ((0 : Int) ≤ t70_ ∧ (t70_ : Int) < ((List.length b03 : Int)))) then
       bif (!(Ty.beq t1 (List.getD b03 (Int.toNat t70_) ((0, 0, 0, ()), 0, 0, 0, ())) ((0, 0, 0, ()), 0, 0, 0, ()))) then
        some (8, ())
       else
        table_Check.L9 used t70_ (List.getD t68_ (Int.toNat t70_) false) t68_ t69_ b0 b02 b03 b04 b05 b06 b07 b08 b09 b010 l1
      else none
    else none
   else
    table_Check.L9 used t70_ (List.getD t68_ (Int.toNat t70_) false) t68_ t69_ b0 b02 b03 b04 b05 b06 b07 b08 b09 b010 l1
 else none := res_eq (by kernel_rfl)
theorem table_Check.L5_eq (used : Int) (t134_ : List t3.den) (t135_ t136_ : Int) : table_Check.L5 used t134_ t135_ t136_ =
 bif (decide ((t136_ : Int) < t135_)) then
  table_Check.L6 used t134_ t135_ t136_
 else
  bif (used != 0) then
   some (8, ())
  else
   table_Check.L7 := res_eq (by kernel_rfl)
theorem table_Check.L6_eq (used : Int) (t134_ : List t3.den) (t135_ t136_ : Int) : table_Check.L6 used t134_ t135_ t136_ =
 bif (decide ((0 : Int) ≤ t136_ ∧ (t136_ : Int) < ((List.length t134_ : Int)))) then
  bif (((List.getD t134_ (Int.toNat t136_) (0, 0, false, ())).2).2).1 then
   table_Check.L8 (IntKind.wrap .i64 (used - 1)) t134_ t135_ t136_
  else
   table_Check.L8 used t134_ t135_ t136_
 else none := res_eq (by kernel_rfl)
theorem table_Check.L7_eq : table_Check.L7 =
 some (0, ()) := res_eq (by kernel_rfl)
theorem table_Check.L8_eq (used : Int) (t134_ : List t3.den) (t135_ t136_ : Int) : table_Check.L8 used t134_ t135_ t136_ =
 table_Check.L5 used t134_ t135_ (IntKind.wrap .i64 (t136_ + 1)) := res_eq (by kernel_rfl)
theorem table_Check.L9_eq (used i : Int) (is_ : Bool) (t68_ : List Bool) (t69_ b0 : Int) (b02 : List Int) (b03 : List t1.den) (b04 : List Int) (b05 : Int) (b06 : List t3.den) (b07 b08 : List Int) (b09 b010 : Int) (l1 : List Int) : table_Check.L9 used i is_ t68_ t69_ b0 b02 b03 b04 b05 b06 b07 b08 b09 b010 l1 =
 bif (!is_) then
  table_Check.L3 used t68_ t69_ (IntKind.wrap .i64 (i + 1)) b0 b02 b03 b04 b05 b06 b07 b08 b09 b010 l1
 else
  table_Check.L10 used i t68_ t69_ b0 b02 b03 b04 b05 b06 b07 b08 b09 b010 l1 := res_eq (by kernel_rfl)
theorem table_Check.L10_eq (used i : Int) (t68_ : List Bool) (t69_ b0 : Int) (b02 : List Int) (b03 : List t1.den) (b04 : List Int) (b05 : Int) (b06 : List t3.den) (b07 b08 : List Int) (b09 b010 : Int) (l1 : List Int) : table_Check.L10 used i t68_ t69_ b0 b02 b03 b04 b05 b06 b07 b08 b09 b010 l1 =
 bif (decide ((0 : Int) ≤ i ∧ (i : Int) < ((List.length b02 : Int)))) then
  (probe_Find.F b06 (List.getD b02 (Int.toNat i) 0)).bind fun r0 =>
  bif (r0.2.1 != 0) then
   some (8, ())
  else
   bif (r0.1 != i) then
    some (8, ())
   else
    bif (decide ((0 : Int) ≤ i ∧ (i : Int) < ((List.length b03 : Int)))) then
     (bucket_Check.F (List.getD b03 (Int.toNat i) ((0, 0, 0, ()), 0, 0, 0, ()))).bind fun r1 =>
     bif (r1.1 != 0) then
      some (8, ())
     else
      table_Check.L11 (IntKind.wrap .i64 (used + 1)) t68_ t69_ i b0 b02 b03 b04 b05 b06 b07 b08 b09 b010 l1
    else none
 else none := res_eq (by kernel_rfl)
theorem table_Check.L11_eq (used : Int) (t68_ : List Bool) (t69_ t70_ b0 : Int) (b02 : List Int) (b03 : List t1.den) (b04 : List Int) (b05 : Int) (b06 : List t3.den) (b07 b08 : List Int) (b09 b010 : Int) (l1 : List Int) : table_Check.L11 used t68_ t69_ t70_ b0 b02 b03 b04 b05 b06 b07 b08 b09 b010 l1 =
 table_Check.L3 used t68_ t69_ (IntKind.wrap .i64 (t70_ + 1)) b0 b02 b03 b04 b05 b06 b07 b08 b09 b010 l1 := res_eq (by kernel_rfl)
theorem table_Check.F_eq (t : t5.den) : table_Check.F t =
 bif (decide ((t.1 : Int) < 1)) then
  some (8, ())
 else
  bif (decide ((t.1 : Int) > 8)) then
   some (8, ())
  else
   bif (!(Ty.beq (.arr 4 (.int .i64)) ([((List.length t.2.1 : Int)), ((List.length t.2.2.1 : Int)), ((List.length t.2.2.2.1.1 : Int)), ((List.length t.2.2.2.2.2.1.1 : Int))] : List Int) ([t.1, t.1, t.1, t.1] : List Int))) then
    some (8, ())
   else
    (arena_Check.F t.2.2.2.1).bind fun r0 =>
    bif (r0.1 != 0) then
     some (8, ())
    else
     (probe_Check.F t.2.2.2.2.1).bind fun r1 =>
     bif (r1.1 != 0) then
      some (8, ())
     else
      table_Check.L1 t.1 t.2.1 t.2.2.1 t.2.2.2.1.1 t.2.2.2.1.2.1 t.2.2.2.1.2.2.1 t.2.2.2.2.1 t.2.2.2.2.2.1.1 t.2.2.2.2.2.1.2.1 t.2.2.2.2.2.1.2.2.1 t.2.2.2.2.2.1.2.2.2.1 := by kernel_rfl
/-! ### spigot/bucket.Full (107) -/
def bucket_Full.sg : Sig := ⟨[.val t0, .val (.int .u64)], [(t1, true), ((.int .i64), true)]⟩
def bucket_Full.E : Env := ⟨tl, fun i => look i [(98, bucket_CheckLimit.Fn)], [], eqs, globs, prims⟩
def bucket_Full.Fn : Fun := fnOf bucket_Full.E bucket_Full.sg Tryz.f107
def bucket_Full.F (l : t0.den) (at_ : Int) : Option (t1.den × Int × Unit) := bucket_Full.Fn.F (l, at_, ())
theorem bucket_Full.spec : FnSpec Tryz.prog globs 107 bucket_Full.Fn := spec_of (E := bucket_Full.E) (envOk_at tabOk eqOk primsOk (.cons bucket_CheckLimit.spec <| .nil)) mixOk Tryz.func107 (by kernel_rfl)
/-! ### spigot/table.twin (108) -/
def table_twin.sg : Sig := ⟨[.val t5], [(t5, true)]⟩
def table_twin.E : Env := ⟨tl, fun i => look i [], [], eqs, globs, prims⟩
def table_twin.Fn : Fun := fnOf table_twin.E table_twin.sg Tryz.f108
def table_twin.F (t : t5.den) : Option (t5.den × Unit) := table_twin.Fn.F (t, ())
theorem table_twin.spec : FnSpec Tryz.prog globs 108 table_twin.Fn := spec_of (E := table_twin.E) (envOk_at tabOk eqOk primsOk (.nil)) mixOk Tryz.func108 (by kernel_rfl)
/-! ### spigot/table.place (109) -/
def table_place.sg : Sig := ⟨[.val t5, .val (.int .u32)], [((.int .i64), true)]⟩
def table_place.E : Env := ⟨tl, fun i => look i [(143, probe_Find.Fn)], [], eqs, globs, prims⟩
def table_place.c := cxOf table_place.E table_place.sg Tryz.f109
def table_place.b := body Tryz.f109
def table_place.Fn : Fun := fnOf table_place.E table_place.sg Tryz.f109
def table_place.F (t : t5.den) (key : Int) : Option (Int × Unit) := table_place.Fn.F (t, key, ())
def table_place.S1 (i : Int) : St := ⟨[(5, (.v (.int .i64) i))], [], 0, []⟩
def table_place.L1 (i : Int) : Option (Int × Unit) := res table_place.c (atJoin table_place.b [1, 1, 0, 1]) (table_place.S1 i)
theorem table_place.spec : FnSpec Tryz.prog globs 109 table_place.Fn := spec_of (E := table_place.E) (envOk_at tabOk eqOk primsOk (.cons probe_Find.spec <| .nil)) mixOk Tryz.func109 (by kernel_rfl)
theorem table_place.L1_eq (i : Int) : table_place.L1 i =
 some (i, ()) := res_eq (by kernel_rfl)
theorem table_place.F_eq (t : t5.den) (key : Int) : table_place.F t key =
 (probe_Find.F t.2.2.2.2.1 key).bind fun r0 =>
 bif (r0.2.1 != 0) then
  some ((-1), ())
 else
  table_place.L1 r0.1 := by kernel_rfl
/-! ### spigot/arena.twin (147) -/
def arena_twin.sg : Sig := ⟨[.val t2], [(t2, true)]⟩
def arena_twin.E : Env := ⟨tl, fun i => look i [], [], eqs, globs, prims⟩
def arena_twin.Fn : Fun := fnOf arena_twin.E arena_twin.sg Tryz.f147
def arena_twin.F (a : t2.den) : Option (t2.den × Unit) := arena_twin.Fn.F (a, ())
theorem arena_twin.spec : FnSpec Tryz.prog globs 147 arena_twin.Fn := spec_of (E := arena_twin.E) (envOk_at tabOk eqOk primsOk (.nil)) mixOk Tryz.func147 (by kernel_rfl)
/-! ### spigot/arena.Take (110) -/
def arena_Take.sg : Sig := ⟨[.val t2], [(t2, true), ((.int .i64), true), ((.int .i64), true)]⟩
def arena_Take.E : Env := ⟨tl, fun i => look i [(140, arena_Check.Fn), (147, arena_twin.Fn)], [], eqs, globs, prims⟩
def arena_Take.Fn : Fun := fnOf arena_Take.E arena_Take.sg Tryz.f110
def arena_Take.F (a : t2.den) : Option (t2.den × Int × Int × Unit) := arena_Take.Fn.F (a, ())
theorem arena_Take.spec : FnSpec Tryz.prog globs 110 arena_Take.Fn := spec_of (E := arena_Take.E) (envOk_at tabOk eqOk primsOk (.cons arena_Check.spec <| .cons arena_twin.spec <| .nil)) mixOk Tryz.func110 (by kernel_rfl)
/-! ### spigot/lru.Last (111) -/
def lru_Last.sg : Sig := ⟨[.val t4], [((.int .i64), true), ((.int .i64), true)]⟩
def lru_Last.E : Env := ⟨tl, fun i => look i [(148, lru_Check.Fn)], [], eqs, globs, prims⟩
def lru_Last.Fn : Fun := fnOf lru_Last.E lru_Last.sg Tryz.f111
def lru_Last.F (o : t4.den) : Option (Int × Int × Unit) := lru_Last.Fn.F (o, ())
theorem lru_Last.spec : FnSpec Tryz.prog globs 111 lru_Last.Fn := spec_of (E := lru_Last.E) (envOk_at tabOk eqOk primsOk (.cons lru_Check.spec <| .nil)) mixOk Tryz.func111 (by kernel_rfl)
/-! ### spigot/lru.check (153) -/
def lru_check.sg : Sig := ⟨[.val t4, .val (.int .i64)], [((.int .i64), true)]⟩
def lru_check.E : Env := ⟨tl, fun i => look i [(148, lru_Check.Fn)], [], eqs, globs, prims⟩
def lru_check.Fn : Fun := fnOf lru_check.E lru_check.sg Tryz.f153
def lru_check.F (o : t4.den) (place : Int) : Option (Int × Unit) := lru_check.Fn.F (o, place, ())
theorem lru_check.spec : FnSpec Tryz.prog globs 153 lru_check.Fn := spec_of (E := lru_check.E) (envOk_at tabOk eqOk primsOk (.cons lru_Check.spec <| .nil)) mixOk Tryz.func153 (by kernel_rfl)
/-! ### spigot/lru.twin (154) -/
def lru_twin.sg : Sig := ⟨[.val t4], [(t4, true)]⟩
def lru_twin.E : Env := ⟨tl, fun i => look i [], [], eqs, globs, prims⟩
def lru_twin.Fn : Fun := fnOf lru_twin.E lru_twin.sg Tryz.f154
def lru_twin.F (o : t4.den) : Option (t4.den × Unit) := lru_twin.Fn.F (o, ())
theorem lru_twin.spec : FnSpec Tryz.prog globs 154 lru_twin.Fn := spec_of (E := lru_twin.E) (envOk_at tabOk eqOk primsOk (.nil)) mixOk Tryz.func154 (by kernel_rfl)
/-! ### spigot/lru.in (155) -/
def lru_in.sg : Sig := ⟨[.val t4, .val (.int .i64)], [(.bool, true)]⟩
def lru_in.E : Env := ⟨tl, fun i => look i [], [], eqs, globs, prims⟩
def lru_in.Fn : Fun := fnOf lru_in.E lru_in.sg Tryz.f155
def lru_in.F (o : t4.den) (place : Int) : Option (Bool × Unit) := lru_in.Fn.F (o, place, ())
theorem lru_in.spec : FnSpec Tryz.prog globs 155 lru_in.Fn := spec_of (E := lru_in.E) (envOk_at tabOk eqOk primsOk (.nil)) mixOk Tryz.func155 (by kernel_rfl)
/-! ### spigot/lru.out (156) -/
def lru_out.sg : Sig := ⟨[.io t4 true, .val (.int .i64)], []⟩
def lru_out.E : Env := ⟨tl, fun i => look i [], [], eqs, globs, prims⟩
def lru_out.Fn : Fun := fnOf lru_out.E lru_out.sg Tryz.f156
def lru_out.F (o : t4.den) (place : Int) : Option (t4.den × Unit) := lru_out.Fn.F (o, place, ())
theorem lru_out.spec : FnSpec Tryz.prog globs 156 lru_out.Fn := spec_of (E := lru_out.E) (envOk_at tabOk eqOk primsOk (.nil)) mixOk Tryz.func156 (by kernel_rfl)
/-! ### spigot/lru.Remove (149) -/
def lru_Remove.sg : Sig := ⟨[.val t4, .val (.int .i64)], [(t4, true), ((.int .i64), true)]⟩
def lru_Remove.E : Env := ⟨tl, fun i => look i [(153, lru_check.Fn), (154, lru_twin.Fn), (155, lru_in.Fn), (156, lru_out.Fn)], [], eqs, globs, prims⟩
def lru_Remove.Fn : Fun := fnOf lru_Remove.E lru_Remove.sg Tryz.f149
def lru_Remove.F (o : t4.den) (place : Int) : Option (t4.den × Int × Unit) := lru_Remove.Fn.F (o, place, ())
theorem lru_Remove.spec : FnSpec Tryz.prog globs 149 lru_Remove.Fn := spec_of (E := lru_Remove.E) (envOk_at tabOk eqOk primsOk (.cons lru_check.spec <| .cons lru_twin.spec <| .cons lru_in.spec <| .cons lru_out.spec <| .nil)) mixOk Tryz.func149 (by kernel_rfl)
/-! ### spigot/probe.Drop (150) -/
def probe_Drop.sg : Sig := ⟨[.val (.slice t3), .val (.int .u32)], [((.slice t3), true), ((.int .i64), true)]⟩
def probe_Drop.E : Env := ⟨tl, fun i => look i [(141, probe_Check.Fn), (152, probe_look.Fn), (176, probe_wrap.Fn), (177, probe_Home.Fn)], [], eqs, globs, prims⟩
def probe_Drop.Fn : Fun := fnOf probe_Drop.E probe_Drop.sg Tryz.f150
def probe_Drop.F (x : List t3.den) (key : Int) : Option ((List t3.den) × Int × Unit) := probe_Drop.Fn.F (x, key, ())
theorem probe_Drop.spec : FnSpec Tryz.prog globs 150 probe_Drop.Fn := spec_of (E := probe_Drop.E) (envOk_at tabOk eqOk primsOk (.cons probe_Check.spec <| .cons probe_look.spec <| .cons probe_wrap.spec <| .cons probe_Home.spec <| .nil)) mixOk Tryz.func150 (by kernel_rfl)
/-! ### spigot/arena.Give (151) -/
def arena_Give.sg : Sig := ⟨[.val t2, .val (.int .i64)], [(t2, true), ((.int .i64), true)]⟩
def arena_Give.E : Env := ⟨tl, fun i => look i [(140, arena_Check.Fn), (147, arena_twin.Fn)], [], eqs, globs, prims⟩
def arena_Give.Fn : Fun := fnOf arena_Give.E arena_Give.sg Tryz.f151
def arena_Give.F (a : t2.den) (place : Int) : Option (t2.den × Int × Unit) := arena_Give.Fn.F (a, place, ())
theorem arena_Give.spec : FnSpec Tryz.prog globs 151 arena_Give.Fn := spec_of (E := arena_Give.E) (envOk_at tabOk eqOk primsOk (.cons arena_Check.spec <| .cons arena_twin.spec <| .nil)) mixOk Tryz.func151 (by kernel_rfl)
/-! ### spigot/table.drop (112) -/
def table_drop.sg : Sig := ⟨[.io t5 true, .val (.int .u32)], []⟩
def table_drop.E : Env := ⟨tl, fun i => look i [(109, table_place.Fn), (149, lru_Remove.Fn), (150, probe_Drop.Fn), (151, arena_Give.Fn)], [], eqs, globs, prims⟩
def table_drop.Fn : Fun := fnOf table_drop.E table_drop.sg Tryz.f112
def table_drop.F (t : t5.den) (key : Int) : Option (t5.den × Unit) := table_drop.Fn.F (t, key, ())
theorem table_drop.spec : FnSpec Tryz.prog globs 112 table_drop.Fn := spec_of (E := table_drop.E) (envOk_at tabOk eqOk primsOk (.cons table_place.spec <| .cons lru_Remove.spec <| .cons probe_Drop.spec <| .cons arena_Give.spec <| .nil)) mixOk Tryz.func112 (by kernel_rfl)
/-! ### spigot/probe.Put (113) -/
def probe_Put.sg : Sig := ⟨[.val (.slice t3), .val (.int .u32), .val (.int .i64)], [((.slice t3), true), ((.int .i64), true)]⟩
def probe_Put.E : Env := ⟨tl, fun i => look i [(141, probe_Check.Fn), (152, probe_look.Fn)], [], eqs, globs, prims⟩
def probe_Put.Fn : Fun := fnOf probe_Put.E probe_Put.sg Tryz.f113
def probe_Put.F (x : List t3.den) (key place : Int) : Option ((List t3.den) × Int × Unit) := probe_Put.Fn.F (x, key, place, ())
theorem probe_Put.spec : FnSpec Tryz.prog globs 113 probe_Put.Fn := spec_of (E := probe_Put.E) (envOk_at tabOk eqOk primsOk (.cons probe_Check.spec <| .cons probe_look.spec <| .nil)) mixOk Tryz.func113 (by kernel_rfl)
/-! ### spigot/lru.Touch (114) -/
def lru_Touch.sg : Sig := ⟨[.val t4, .val (.int .i64)], [(t4, true), ((.int .i64), true)]⟩
def lru_Touch.E : Env := ⟨tl, fun i => look i [(153, lru_check.Fn), (154, lru_twin.Fn), (155, lru_in.Fn), (156, lru_out.Fn)], [], eqs, globs, prims⟩
def lru_Touch.Fn : Fun := fnOf lru_Touch.E lru_Touch.sg Tryz.f114
def lru_Touch.F (o : t4.den) (place : Int) : Option (t4.den × Int × Unit) := lru_Touch.Fn.F (o, place, ())
theorem lru_Touch.spec : FnSpec Tryz.prog globs 114 lru_Touch.Fn := spec_of (E := lru_Touch.E) (envOk_at tabOk eqOk primsOk (.cons lru_check.spec <| .cons lru_twin.spec <| .cons lru_in.spec <| .cons lru_out.spec <| .nil)) mixOk Tryz.func114 (by kernel_rfl)
/-! ### spigot/table.Use (74) -/
def table_Use.sg : Sig := ⟨[.val t5, .val (.int .u32), .val t0, .val (.int .u64)], [(t5, true), ((.int .u32), true), (.bool, true), ((.int .i64), true)]⟩
def table_Use.E : Env := ⟨tl, fun i => look i [(106, table_Check.Fn), (107, bucket_Full.Fn), (108, table_twin.Fn), (109, table_place.Fn), (110, arena_Take.Fn), (111, lru_Last.Fn), (112, table_drop.Fn), (113, probe_Put.Fn), (114, lru_Touch.Fn)], [], eqs, globs, prims⟩
def table_Use.Fn : Fun := fnOf table_Use.E table_Use.sg Tryz.f74
def table_Use.F (t : t5.den) (key : Int) (l : t0.den) (tick : Int) : Option (t5.den × Int × Bool × Int × Unit) := table_Use.Fn.F (t, key, l, tick, ())
theorem table_Use.spec : FnSpec Tryz.prog globs 74 table_Use.Fn := spec_of (E := table_Use.E) (envOk_at tabOk eqOk primsOk (.cons table_Check.spec <| .cons bucket_Full.spec <| .cons table_twin.spec <| .cons table_place.spec <| .cons arena_Take.spec <| .cons lru_Last.spec <| .cons table_drop.spec <| .cons probe_Put.spec <| .cons lru_Touch.spec <| .nil)) mixOk Tryz.func74 (by kernel_rfl)
/-! ### spigot/table.Set (75) -/
def table_Set.sg : Sig := ⟨[.val t5, .val (.int .u32), .val t1], [(t5, true), ((.int .i64), true)]⟩
def table_Set.E : Env := ⟨tl, fun i => look i [(99, bucket_Check.Fn), (106, table_Check.Fn), (108, table_twin.Fn), (109, table_place.Fn)], [], eqs, globs, prims⟩
def table_Set.Fn : Fun := fnOf table_Set.E table_Set.sg Tryz.f75
def table_Set.F (t : t5.den) (key : Int) (b : t1.den) : Option (t5.den × Int × Unit) := table_Set.Fn.F (t, key, b, ())
theorem table_Set.spec : FnSpec Tryz.prog globs 75 table_Set.Fn := spec_of (E := table_Set.E) (envOk_at tabOk eqOk primsOk (.cons bucket_Check.spec <| .cons table_Check.spec <| .cons table_twin.spec <| .cons table_place.spec <| .nil)) mixOk Tryz.func75 (by kernel_rfl)
/-! ### spigot/part.valid (168) -/
def part_valid.sg : Sig := ⟨[.val (.arr 3 t0)], [(.bool, true)]⟩
def part_valid.E : Env := ⟨tl, fun i => look i [(98, bucket_CheckLimit.Fn)], [], eqs, globs, prims⟩
def part_valid.c := cxOf part_valid.E part_valid.sg Tryz.f168
def part_valid.b := body Tryz.f168
def part_valid.Fn : Fun := fnOf part_valid.E part_valid.sg Tryz.f168
def part_valid.F (l : List t0.den) : Option (Bool × Unit) := part_valid.Fn.F (l, ())
def part_valid.S1 (t5_ : List t0.den) (t6_ : Int) : St := ⟨[(5, (.v (.arr 3 t0) t5_)), (6, (.v (.int .i64) t6_))], [], 0, []⟩
def part_valid.L1 (t5_ : List t0.den) (t6_ : Int) : Option (Bool × Unit) := res part_valid.c (atLoop part_valid.b [1, 0, 1, 0]) (part_valid.S1 t5_ t6_)
def part_valid.S2 (t5_ : List t0.den) (t6_ : Int) : St := ⟨[(5, (.v (.arr 3 t0) t5_)), (6, (.v (.int .i64) t6_))], [], 0, []⟩
def part_valid.L2 (t5_ : List t0.den) (t6_ : Int) : Option (Bool × Unit) := res part_valid.c (atJoin part_valid.b [1, 0, 1, 0, 0, 1, 0]) (part_valid.S2 t5_ t6_)
def part_valid.S3 (t5_ : List t0.den) (t6_ : Int) : St := ⟨[(5, (.v (.arr 3 t0) t5_)), (6, (.v (.int .i64) t6_))], [], 0, []⟩
def part_valid.L3 (t5_ : List t0.den) (t6_ : Int) : Option (Bool × Unit) := res part_valid.c (atJoin part_valid.b [1, 0, 1, 0, 0, 1, 1, 0, 0, 1, 1]) (part_valid.S3 t5_ t6_)
theorem part_valid.spec : FnSpec Tryz.prog globs 168 part_valid.Fn := spec_of (E := part_valid.E) (envOk_at tabOk eqOk primsOk (.cons bucket_CheckLimit.spec <| .nil)) mixOk Tryz.func168 (by kernel_rfl)
theorem part_valid.L1_eq (t5_ : List t0.den) (t6_ : Int) : part_valid.L1 t5_ t6_ =
 bif (decide ((t6_ : Int) < 3)) then
  part_valid.L2 t5_ t6_
 else
  some (true, ()) := res_eq (by kernel_rfl)
theorem part_valid.L2_eq (t5_ : List t0.den) (t6_ : Int) : part_valid.L2 t5_ t6_ =
 bif (decide ((0 : Int) ≤ t6_ ∧ (t6_ : Int) < 3)) then
  (bucket_CheckLimit.F (List.getD t5_ (Int.toNat t6_) (0, 0, 0, ()))).bind fun r0 =>
  bif (r0.1 != 0) then
   some (false, ())
  else
   part_valid.L3 t5_ t6_
 else none := res_eq (by kernel_rfl)
theorem part_valid.L3_eq (t5_ : List t0.den) (t6_ : Int) : part_valid.L3 t5_ t6_ =
 part_valid.L1 t5_ (IntKind.wrap .i64 (t6_ + 1)) := res_eq (by kernel_rfl)
theorem part_valid.F_eq (l : List t0.den) : part_valid.F l =
 part_valid.L1 l 0 := by kernel_rfl
end
end Go.Proofs.YtkihjakbbcajbaaGreat.PM
