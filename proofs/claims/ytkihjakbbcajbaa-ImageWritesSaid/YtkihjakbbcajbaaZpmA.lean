/- Contracts and equations of the functions, printed by a program of this session. -/
import Derived.Test.YtkihjakbbcajbaaPM30
import Derived.Test.YtkihjakbbcajbaaPrim
import Derived.KernelRfl
namespace Go.Proofs.Ytkihjakbbcajbaa.PM
open Go Go.Proofs
set_option linter.unusedVariables false
noncomputable def tl : List (Nat × TI) := [(1, .other), (2, .data (.int .i64)), (3, .data (.int .i64)), (4, .data .bool), (5, .data (.int .u8)), (6, .data (.int .u8)), (7, .data t13), (8, .data t13), (9, .data .str), (10, .data .str), (11, .data .str), (12, .data (.int .u64)), (13, .data t14), (14, .data t14), (15, .other), (16, .other), (17, .other), (21, .data (.int .i32)), (22, .data (.int .u64)), (23, .data (.arr 32 (.int .u8))), (24, .data (.arr 32 (.int .u8))), (25, .data (.int .u32)), (26, .data (.arr 16 (.int .u32))), (27, .data (.slice t7)), (28, .data t8), (29, .data t8), (30, .other), (31, .other), (32, .data (.slice (.int .u8))), (33, .data (.int .i64)), (35, .other), (37, .other), (39, .other), (41, .other), (42, .other), (43, .other), (44, .other), (45, .data (.slice t10)), (46, .data t11), (47, .data t11), (49, .other), (50, .data t12), (51, .data t12), (52, .other), (53, .data t0), (54, .data t0), (55, .data (.arr 3 t0)), (56, .data (.arr 2 (.int .i64))), (57, .data t1), (58, .data t1), (59, .data (.slice t9)), (60, .data (.slice (.int .u32))), (61, .data t6), (62, .data t6), (63, .data t10), (64, .data t10), (65, .other), (66, .other), (67, .other), (68, .other), (69, .other), (70, .other), (71, .data (.slice t1)), (72, .data (.slice (.int .i64))), (73, .data (.slice .bool)), (74, .data t2), (75, .data t2), (76, .data (.slice t3)), (77, .data t4), (78, .data t4), (79, .data t5), (80, .data t5), (81, .data t7), (82, .data t7), (83, .other), (84, .other), (85, .other), (86, .other), (87, .other), (88, .other), (89, .other), (90, .other), (91, .other), (92, .other), (93, .other), (94, .other), (95, .other), (96, .other), (97, .other), (98, .other), (99, .other), (100, .other), (101, .data t9), (102, .data t9), (103, .other), (104, .other), (105, .other), (106, .other), (107, .other), (108, .other), (109, .other), (110, .other), (111, .other), (112, .other), (113, .other), (114, .other), (116, .other), (118, .other), (119, .other), (120, .other), (121, .other), (122, .other), (123, .other), (124, .other), (125, .other), (126, .other), (127, .other), (128, .other), (129, .other), (130, .other), (131, .other), (132, .other), (133, .other), (134, .other), (136, .other), (137, .other), (138, .other), (139, .other), (140, .other), (142, .other), (144, .other), (145, .other), (146, .data t3), (147, .data t3), (148, .other), (149, .other), (150, .data (.arr 4 (.int .i64))), (151, .other), (152, .other), (153, .other), (154, .other), (155, .other), (156, .other), (157, .other), (158, .other), (159, .other), (160, .other), (161, .other), (162, .other), (163, .other), (164, .data (.int .u64)), (165, .other), (171, .other), (172, .data (.int .u8)), (173, .data (.int .u8)), (174, .other), (175, .other), (176, .data (.int .i32)), (177, .data (.int .i32))]
noncomputable def eqs : List Nat := [24, 26, 54, 55, 58, 62, 147, 150]
noncomputable def globs : List (Nat × PV) := []
noncomputable def prims : List (Nat × Prim) := [(41, .clone (.int .u32)), (95, .clone .bool)]
theorem primsOk : PrimsOk Try.prog prims := .cons clone41 <| .cons clone95 <| .nil
theorem tabOk : tabB Try.prog tl = true := by kernel_rfl
theorem eqOk : EqOk Try.prog ⟨tl, fun _ => none, [], eqs, [], []⟩ := eqOk_of tabOk (by kernel_rfl)
theorem mixOk : Try.prog.follows .mixedOrders = true := by kernel_rfl
/-! ### spigot/spigotref13.Great (66) -/
noncomputable def spigotref13_Great.sg : Sig := ⟨[.val t2], [(.bool, true)]⟩
noncomputable def spigotref13_Great.E : Env := ⟨tl, fun i => look i [], [], eqs, globs, prims⟩
noncomputable def spigotref13_Great.c := cxOf spigotref13_Great.E spigotref13_Great.sg Try.f66
noncomputable def spigotref13_Great.b := body Try.f66
noncomputable def spigotref13_Great.Fn : Fun := fnOf spigotref13_Great.E spigotref13_Great.sg Try.f66
noncomputable def spigotref13_Great.F (a : t2.den) : Option (Bool × Unit) := spigotref13_Great.Fn.F (a, ())
theorem spigotref13_Great.spec : FnSpec Try.prog globs 66 spigotref13_Great.Fn := spec_of (E := spigotref13_Great.E) (envOk_at tabOk eqOk primsOk (.nil)) mixOk Try.func66 (by kernel_rfl)
theorem spigotref13_Great.F_eq (a : t2.den) : spigotref13_Great.F a =
  bif (decide ((((List.length a.1 : Int)) : Int) > 100)) then
    some (true, ())
  else
    some ((decide ((((List.length a.2.1 : Int)) : Int) > 100)), ()) := by kernel_rfl
/-! ### spigot/spigotref15.Great (67) -/
noncomputable def spigotref15_Great.sg : Sig := ⟨[.val t4], [(.bool, true)]⟩
noncomputable def spigotref15_Great.E : Env := ⟨tl, fun i => look i [], [], eqs, globs, prims⟩
noncomputable def spigotref15_Great.c := cxOf spigotref15_Great.E spigotref15_Great.sg Try.f67
noncomputable def spigotref15_Great.b := body Try.f67
noncomputable def spigotref15_Great.Fn : Fun := fnOf spigotref15_Great.E spigotref15_Great.sg Try.f67
noncomputable def spigotref15_Great.F (o : t4.den) : Option (Bool × Unit) := spigotref15_Great.Fn.F (o, ())
theorem spigotref15_Great.spec : FnSpec Try.prog globs 67 spigotref15_Great.Fn := spec_of (E := spigotref15_Great.E) (envOk_at tabOk eqOk primsOk (.nil)) mixOk Try.func67 (by kernel_rfl)
theorem spigotref15_Great.F_eq (o : t4.den) : spigotref15_Great.F o =
  bif (decide ((((List.length o.1 : Int)) : Int) > 100)) then
    some (true, ())
  else
    some ((decide ((((List.length o.2.1 : Int)) : Int) > 100)), ()) := by kernel_rfl
/-! ### spigot/spigotref16.Great (48) -/
noncomputable def spigotref16_Great.sg : Sig := ⟨[.val t5], [(.bool, true)]⟩
noncomputable def spigotref16_Great.E : Env := ⟨tl, fun i => look i [(66, spigotref13_Great.Fn), (67, spigotref15_Great.Fn)], [], eqs, globs, prims⟩
noncomputable def spigotref16_Great.c := cxOf spigotref16_Great.E spigotref16_Great.sg Try.f48
noncomputable def spigotref16_Great.b := body Try.f48
noncomputable def spigotref16_Great.Fn : Fun := fnOf spigotref16_Great.E spigotref16_Great.sg Try.f48
noncomputable def spigotref16_Great.F (t : t5.den) : Option (Bool × Unit) := spigotref16_Great.Fn.F (t, ())
theorem spigotref16_Great.spec : FnSpec Try.prog globs 48 spigotref16_Great.Fn := spec_of (E := spigotref16_Great.E) (envOk_at tabOk eqOk primsOk (.cons spigotref13_Great.spec <| .cons spigotref15_Great.spec <| .nil)) mixOk Try.func48 (by kernel_rfl)
theorem spigotref16_Great.F_eq (t : t5.den) : spigotref16_Great.F t =
  bif (decide ((((List.length t.2.1 : Int)) : Int) > 100)) then
    some (true, ())
  else
    bif (decide ((((List.length t.2.2.1 : Int)) : Int) > 100)) then
      some (true, ())
    else
      bif (decide ((((List.length t.2.2.2.2.1 : Int)) : Int) > 100)) then
        some (true, ())
      else
        (spigotref13_Great.F t.2.2.2.1).bind fun r0 =>
        bif r0.1 then
          some (true, ())
        else
          (spigotref15_Great.F t.2.2.2.2.2.1).bind fun r1 =>
          some (r1.1, ()) := by kernel_rfl
/-! ### spigot/spigotref18.Great (33) -/
noncomputable def spigotref18_Great.sg : Sig := ⟨[.val t7], [(.bool, true)]⟩
noncomputable def spigotref18_Great.E : Env := ⟨tl, fun i => look i [(48, spigotref16_Great.Fn)], [], eqs, globs, prims⟩
noncomputable def spigotref18_Great.c := cxOf spigotref18_Great.E spigotref18_Great.sg Try.f33
noncomputable def spigotref18_Great.b := body Try.f33
noncomputable def spigotref18_Great.Fn : Fun := fnOf spigotref18_Great.E spigotref18_Great.sg Try.f33
noncomputable def spigotref18_Great.F (p : t7.den) : Option (Bool × Unit) := spigotref18_Great.Fn.F (p, ())
theorem spigotref18_Great.spec : FnSpec Try.prog globs 33 spigotref18_Great.Fn := spec_of (E := spigotref18_Great.E) (envOk_at tabOk eqOk primsOk (.cons spigotref16_Great.spec <| .nil)) mixOk Try.func33 (by kernel_rfl)
theorem spigotref18_Great.F_eq (p : t7.den) : spigotref18_Great.F p =
  (spigotref16_Great.F p.2.2.2.1).bind fun r0 =>
  bif r0.1 then
    some (true, ())
  else
    (spigotref16_Great.F p.2.2.2.2.1).bind fun r1 =>
    bif r1.1 then
      some (true, ())
    else
      some ((decide ((((List.length p.2.2.2.2.2.1 : Int)) : Int) > 100)), ()) := by kernel_rfl
/-! ### spigot/spigotref19.Great (21) -/
noncomputable def spigotref19_Great.sg : Sig := ⟨[.val (.slice t7)], [(.bool, true)]⟩
noncomputable def spigotref19_Great.E : Env := ⟨tl, fun i => look i [(33, spigotref18_Great.Fn)], [], eqs, globs, prims⟩
noncomputable def spigotref19_Great.c := cxOf spigotref19_Great.E spigotref19_Great.sg Try.f21
noncomputable def spigotref19_Great.b := body Try.f21
noncomputable def spigotref19_Great.Fn : Fun := fnOf spigotref19_Great.E spigotref19_Great.sg Try.f21
noncomputable def spigotref19_Great.F (l : (List t7.den)) : Option (Bool × Unit) := spigotref19_Great.Fn.F (l, ())
noncomputable def spigotref19_Great.S1 (l : (List t7.den)) (i : Int) : St := ⟨[(0, (.v (.slice t7) l)), (3, (.v (.int .i64) i))], [], 0, []⟩
noncomputable def spigotref19_Great.L1 (l : (List t7.den)) (i : Int) : Option (Bool × Unit) := res spigotref19_Great.c (atLoop spigotref19_Great.b [1, 0, 1, 0]) (spigotref19_Great.S1 l i)
noncomputable def spigotref19_Great.S2 (l : (List t7.den)) (i : Int) : St := ⟨[(0, (.v (.slice t7) l)), (3, (.v (.int .i64) i))], [], 0, []⟩
noncomputable def spigotref19_Great.L2 (l : (List t7.den)) (i : Int) : Option (Bool × Unit) := res spigotref19_Great.c (atJoin spigotref19_Great.b [1, 0, 1, 0, 0, 0, 1]) (spigotref19_Great.S2 l i)
noncomputable def spigotref19_Great.S3 (l : (List t7.den)) (i : Int) : St := ⟨[(0, (.v (.slice t7) l)), (3, (.v (.int .i64) i))], [], 0, []⟩
noncomputable def spigotref19_Great.L3 (l : (List t7.den)) (i : Int) : Option (Bool × Unit) := res spigotref19_Great.c (atJoin spigotref19_Great.b [1, 0, 1, 0, 0, 1, 0, 0, 1]) (spigotref19_Great.S3 l i)
theorem spigotref19_Great.spec : FnSpec Try.prog globs 21 spigotref19_Great.Fn := spec_of (E := spigotref19_Great.E) (envOk_at tabOk eqOk primsOk (.cons spigotref18_Great.spec <| .nil)) mixOk Try.func21 (by kernel_rfl)
theorem spigotref19_Great.L1_eq (l : (List t7.den)) (i : Int) : spigotref19_Great.L1 l i =
  bif (decide ((i : Int) < ((List.length l : Int)))) then
    bif (decide ((i : Int) ≤ 20)) then
      spigotref19_Great.L2 l i
    else
      some ((decide ((((List.length l : Int)) : Int) > 20)), ())
  else
    some ((decide ((((List.length l : Int)) : Int) > 20)), ()) := res_eq (by kernel_rfl)
theorem spigotref19_Great.L2_eq (l : (List t7.den)) (i : Int) : spigotref19_Great.L2 l i =
  bif (decide ((0 : Int) ≤ i ∧ (i : Int) < ((List.length l : Int)))) then
    (spigotref18_Great.F (List.getD l (Int.toNat i) (0, (List.replicate 3 (0, 0, 0, ())), ((0, 0, 0, ()), 0, 0, 0, ()), (0, ([] : List Int), ([] : List t1.den), (([] : List Int), ([] : List Bool), 0, ()), ([] : List t3.den), (([] : List Int), ([] : List Int), 0, 0, ()), ()), (0, ([] : List Int), ([] : List t1.den), (([] : List Int), ([] : List Bool), 0, ()), ([] : List t3.den), (([] : List Int), ([] : List Int), 0, 0, ()), ()), ([] : List Int), (0, 0, 0, ()), ()))).bind fun r0 =>
    bif r0.1 then
      some (true, ())
    else
      spigotref19_Great.L3 l i
  else none := res_eq (by kernel_rfl)
theorem spigotref19_Great.L3_eq (l : (List t7.den)) (i : Int) : spigotref19_Great.L3 l i =
  spigotref19_Great.L1 l (IntKind.wrap .i64 (i + 1)) := res_eq (by kernel_rfl)
theorem spigotref19_Great.F_eq (l : (List t7.den)) : spigotref19_Great.F l =
  spigotref19_Great.L1 l 0 := by kernel_rfl
/-! ### spigot/spigotref20.Great (11) -/
noncomputable def spigotref20_Great.sg : Sig := ⟨[.val t8], [(.bool, true)]⟩
noncomputable def spigotref20_Great.E : Env := ⟨tl, fun i => look i [(21, spigotref19_Great.Fn)], [], eqs, globs, prims⟩
noncomputable def spigotref20_Great.c := cxOf spigotref20_Great.E spigotref20_Great.sg Try.f11
noncomputable def spigotref20_Great.b := body Try.f11
noncomputable def spigotref20_Great.Fn : Fun := fnOf spigotref20_Great.E spigotref20_Great.sg Try.f11
noncomputable def spigotref20_Great.F (s : t8.den) : Option (Bool × Unit) := spigotref20_Great.Fn.F (s, ())
theorem spigotref20_Great.spec : FnSpec Try.prog globs 11 spigotref20_Great.Fn := spec_of (E := spigotref20_Great.E) (envOk_at tabOk eqOk primsOk (.cons spigotref19_Great.spec <| .nil)) mixOk Try.func11 (by kernel_rfl)
theorem spigotref20_Great.F_eq (s : t8.den) : spigotref20_Great.F s =
  (spigotref19_Great.F s.2.2.2.1).bind fun r0 =>
  some (r0.1, ()) := by kernel_rfl
/-! ### spigot/spigotref26.Great (4) -/
noncomputable def spigotref26_Great.sg : Sig := ⟨[.val t8], [(.bool, true)]⟩
noncomputable def spigotref26_Great.E : Env := ⟨tl, fun i => look i [(11, spigotref20_Great.Fn)], [], eqs, globs, prims⟩
noncomputable def spigotref26_Great.c := cxOf spigotref26_Great.E spigotref26_Great.sg Try.f4
noncomputable def spigotref26_Great.b := body Try.f4
noncomputable def spigotref26_Great.Fn : Fun := fnOf spigotref26_Great.E spigotref26_Great.sg Try.f4
noncomputable def spigotref26_Great.F (s : t8.den) : Option (Bool × Unit) := spigotref26_Great.Fn.F (s, ())
theorem spigotref26_Great.spec : FnSpec Try.prog globs 4 spigotref26_Great.Fn := spec_of (E := spigotref26_Great.E) (envOk_at tabOk eqOk primsOk (.cons spigotref20_Great.spec <| .nil)) mixOk Try.func4 (by kernel_rfl)
theorem spigotref26_Great.F_eq (s : t8.den) : spigotref26_Great.F s =
  (spigotref20_Great.F s).bind fun r0 =>
  some (r0.1, ()) := by kernel_rfl
/-! ### spigot/spigotref13.Twin (49) -/
noncomputable def spigotref13_Twin.sg : Sig := ⟨[.val t2], [(t2, true)]⟩
noncomputable def spigotref13_Twin.E : Env := ⟨tl, fun i => look i [], [], eqs, globs, prims⟩
noncomputable def spigotref13_Twin.c := cxOf spigotref13_Twin.E spigotref13_Twin.sg Try.f49
noncomputable def spigotref13_Twin.b := body Try.f49
noncomputable def spigotref13_Twin.Fn : Fun := fnOf spigotref13_Twin.E spigotref13_Twin.sg Try.f49
noncomputable def spigotref13_Twin.F (a : t2.den) : Option (t2.den × Unit) := spigotref13_Twin.Fn.F (a, ())
theorem spigotref13_Twin.spec : FnSpec Try.prog globs 49 spigotref13_Twin.Fn := spec_of (E := spigotref13_Twin.E) (envOk_at tabOk eqOk primsOk (.nil)) mixOk Try.func49 (by kernel_rfl)
theorem spigotref13_Twin.F_eq (a : t2.den) : spigotref13_Twin.F a =
  bif (lim ((List.length ([] : List Int)) + (List.length a.1)) (.int .i64)) then
    bif (lim ((List.length ([] : List Bool)) + (List.length a.2.1)) .bool) then
      some (((([] : List Int) ++ a.1), (([] : List Bool) ++ a.2.1), a.2.2.1, ()), ())
    else none
  else none := by kernel_rfl
/-! ### spigot/spigotref15.Twin (50) -/
noncomputable def spigotref15_Twin.sg : Sig := ⟨[.val t4], [(t4, true)]⟩
noncomputable def spigotref15_Twin.E : Env := ⟨tl, fun i => look i [], [], eqs, globs, prims⟩
noncomputable def spigotref15_Twin.c := cxOf spigotref15_Twin.E spigotref15_Twin.sg Try.f50
noncomputable def spigotref15_Twin.b := body Try.f50
noncomputable def spigotref15_Twin.Fn : Fun := fnOf spigotref15_Twin.E spigotref15_Twin.sg Try.f50
noncomputable def spigotref15_Twin.F (o : t4.den) : Option (t4.den × Unit) := spigotref15_Twin.Fn.F (o, ())
theorem spigotref15_Twin.spec : FnSpec Try.prog globs 50 spigotref15_Twin.Fn := spec_of (E := spigotref15_Twin.E) (envOk_at tabOk eqOk primsOk (.nil)) mixOk Try.func50 (by kernel_rfl)
theorem spigotref15_Twin.F_eq (o : t4.den) : spigotref15_Twin.F o =
  bif (lim ((List.length ([] : List Int)) + (List.length o.1)) (.int .i64)) then
    bif (lim ((List.length ([] : List Int)) + (List.length o.2.1)) (.int .i64)) then
      some (((([] : List Int) ++ o.1), (([] : List Int) ++ o.2.1), o.2.2.1, o.2.2.2.1, ()), ())
    else none
  else none := by kernel_rfl
/-! ### spigot/spigotref16.Twin (34) -/
noncomputable def spigotref16_Twin.sg : Sig := ⟨[.val t5], [(t5, true)]⟩
noncomputable def spigotref16_Twin.E : Env := ⟨tl, fun i => look i [(49, spigotref13_Twin.Fn), (50, spigotref15_Twin.Fn)], [], eqs, globs, prims⟩
noncomputable def spigotref16_Twin.c := cxOf spigotref16_Twin.E spigotref16_Twin.sg Try.f34
noncomputable def spigotref16_Twin.b := body Try.f34
noncomputable def spigotref16_Twin.Fn : Fun := fnOf spigotref16_Twin.E spigotref16_Twin.sg Try.f34
noncomputable def spigotref16_Twin.F (t : t5.den) : Option (t5.den × Unit) := spigotref16_Twin.Fn.F (t, ())
theorem spigotref16_Twin.spec : FnSpec Try.prog globs 34 spigotref16_Twin.Fn := spec_of (E := spigotref16_Twin.E) (envOk_at tabOk eqOk primsOk (.cons spigotref13_Twin.spec <| .cons spigotref15_Twin.spec <| .nil)) mixOk Try.func34 (by kernel_rfl)
theorem spigotref16_Twin.F_eq (t : t5.den) : spigotref16_Twin.F t =
  bif (lim ((List.length ([] : List Int)) + (List.length t.2.1)) (.int .u32)) then
    bif (lim ((List.length ([] : List t1.den)) + (List.length t.2.2.1)) t1) then
      (spigotref13_Twin.F t.2.2.2.1).bind fun r0 =>
      bif (lim ((List.length ([] : List t3.den)) + (List.length t.2.2.2.2.1)) t3) then
        (spigotref15_Twin.F t.2.2.2.2.2.1).bind fun r1 =>
        some ((t.1, (([] : List Int) ++ t.2.1), (([] : List t1.den) ++ t.2.2.1), r0.1, (([] : List t3.den) ++ t.2.2.2.2.1), r1.1, ()), ())
      else none
    else none
  else none := by kernel_rfl
/-! ### spigot/spigotref18.Twin (22) -/
noncomputable def spigotref18_Twin.sg : Sig := ⟨[.val t7], [(t7, true)]⟩
noncomputable def spigotref18_Twin.E : Env := ⟨tl, fun i => look i [(34, spigotref16_Twin.Fn)], [], eqs, globs, prims⟩
noncomputable def spigotref18_Twin.c := cxOf spigotref18_Twin.E spigotref18_Twin.sg Try.f22
noncomputable def spigotref18_Twin.b := body Try.f22
noncomputable def spigotref18_Twin.Fn : Fun := fnOf spigotref18_Twin.E spigotref18_Twin.sg Try.f22
noncomputable def spigotref18_Twin.F (p : t7.den) : Option (t7.den × Unit) := spigotref18_Twin.Fn.F (p, ())
theorem spigotref18_Twin.spec : FnSpec Try.prog globs 22 spigotref18_Twin.Fn := spec_of (E := spigotref18_Twin.E) (envOk_at tabOk eqOk primsOk (.cons spigotref16_Twin.spec <| .nil)) mixOk Try.func22 (by kernel_rfl)
theorem spigotref18_Twin.F_eq (p : t7.den) : spigotref18_Twin.F p =
  (spigotref16_Twin.F p.2.2.2.1).bind fun r0 =>
  (spigotref16_Twin.F p.2.2.2.2.1).bind fun r1 =>
  bif (lim ((List.length ([] : List Int)) + (List.length p.2.2.2.2.2.1)) (.int .u32)) then
    some ((p.1, p.2.1, p.2.2.1, r0.1, r1.1, (([] : List Int) ++ p.2.2.2.2.2.1), p.2.2.2.2.2.2.1, ()), ())
  else none := by kernel_rfl
/-! ### spigot/spigotref19.Twin (12) -/
noncomputable def spigotref19_Twin.sg : Sig := ⟨[.val (.slice t7)], [((.slice t7), true)]⟩
noncomputable def spigotref19_Twin.E : Env := ⟨tl, fun i => look i [(22, spigotref18_Twin.Fn)], [], eqs, globs, prims⟩
noncomputable def spigotref19_Twin.c := cxOf spigotref19_Twin.E spigotref19_Twin.sg Try.f12
noncomputable def spigotref19_Twin.b := body Try.f12
noncomputable def spigotref19_Twin.Fn : Fun := fnOf spigotref19_Twin.E spigotref19_Twin.sg Try.f12
noncomputable def spigotref19_Twin.F (l : (List t7.den)) : Option ((List t7.den) × Unit) := spigotref19_Twin.Fn.F (l, ())
noncomputable def spigotref19_Twin.S1 (l : (List t7.den)) (i : Int) (l0 : (List t7.den)) : St := ⟨[(0, (.v (.slice t7) l)), (3, (.sl 0)), (4, (.v (.int .i64) i))], [(0, some (.row t7 l0 false))], 1, []⟩
noncomputable def spigotref19_Twin.L1 (l : (List t7.den)) (i : Int) (l0 : (List t7.den)) : Option ((List t7.den) × Unit) := res spigotref19_Twin.c (atLoop spigotref19_Twin.b [1, 1, 0, 1, 0]) (spigotref19_Twin.S1 l i l0)
noncomputable def spigotref19_Twin.S2 (l : (List t7.den)) (i : Int) (l0 : (List t7.den)) : St := ⟨[(0, (.v (.slice t7) l)), (3, (.sl 0)), (4, (.v (.int .i64) i))], [(0, some (.row t7 l0 false))], 1, []⟩
noncomputable def spigotref19_Twin.L2 (l : (List t7.den)) (i : Int) (l0 : (List t7.den)) : Option ((List t7.den) × Unit) := res spigotref19_Twin.c (atJoin spigotref19_Twin.b [1, 1, 0, 1, 0, 0, 0, 1]) (spigotref19_Twin.S2 l i l0)
theorem spigotref19_Twin.spec : FnSpec Try.prog globs 12 spigotref19_Twin.Fn := spec_of (E := spigotref19_Twin.E) (envOk_at tabOk eqOk primsOk (.cons spigotref18_Twin.spec <| .nil)) mixOk Try.func12 (by kernel_rfl)
theorem spigotref19_Twin.L1_eq (l : (List t7.den)) (i : Int) (l0 : (List t7.den)) : spigotref19_Twin.L1 l i l0 =
  bif (decide ((i : Int) < ((List.length l : Int)))) then
    spigotref19_Twin.L2 l i l0
  else
    some (l0, ()) := res_eq (by kernel_rfl)
theorem spigotref19_Twin.L2_eq (l : (List t7.den)) (i : Int) (l0 : (List t7.den)) : spigotref19_Twin.L2 l i l0 =
  bif (decide ((0 : Int) ≤ i ∧ (i : Int) < ((List.length l : Int)))) then
    (spigotref18_Twin.F (List.getD l (Int.toNat i) (0, (List.replicate 3 (0, 0, 0, ())), ((0, 0, 0, ()), 0, 0, 0, ()), (0, ([] : List Int), ([] : List t1.den), (([] : List Int), ([] : List Bool), 0, ()), ([] : List t3.den), (([] : List Int), ([] : List Int), 0, 0, ()), ()), (0, ([] : List Int), ([] : List t1.den), (([] : List Int), ([] : List Bool), 0, ()), ([] : List t3.den), (([] : List Int), ([] : List Int), 0, 0, ()), ()), ([] : List Int), (0, 0, 0, ()), ()))).bind fun r0 =>
    bif (lim ((List.length l0) + (List.length ([r0.1] : List t7.den))) t7) then
      spigotref19_Twin.L1 l (IntKind.wrap .i64 (i + 1)) (l0 ++ ([r0.1] : List t7.den))
    else none
  else none := res_eq (by kernel_rfl)
theorem spigotref19_Twin.F_eq (l : (List t7.den)) : spigotref19_Twin.F l =
  spigotref19_Twin.L1 l 0 ([] : List t7.den) := by kernel_rfl
/-! ### spigot/spigotref20.Twin (5) -/
noncomputable def spigotref20_Twin.sg : Sig := ⟨[.val t8], [(t8, true)]⟩
noncomputable def spigotref20_Twin.E : Env := ⟨tl, fun i => look i [(12, spigotref19_Twin.Fn)], [], eqs, globs, prims⟩
noncomputable def spigotref20_Twin.c := cxOf spigotref20_Twin.E spigotref20_Twin.sg Try.f5
noncomputable def spigotref20_Twin.b := body Try.f5
noncomputable def spigotref20_Twin.Fn : Fun := fnOf spigotref20_Twin.E spigotref20_Twin.sg Try.f5
noncomputable def spigotref20_Twin.F (s : t8.den) : Option (t8.den × Unit) := spigotref20_Twin.Fn.F (s, ())
theorem spigotref20_Twin.spec : FnSpec Try.prog globs 5 spigotref20_Twin.Fn := spec_of (E := spigotref20_Twin.E) (envOk_at tabOk eqOk primsOk (.cons spigotref19_Twin.spec <| .nil)) mixOk Try.func5 (by kernel_rfl)
theorem spigotref20_Twin.F_eq (s : t8.den) : spigotref20_Twin.F s =
  (spigotref19_Twin.F s.2.2.2.1).bind fun r0 =>
  some ((s.1, s.2.1, s.2.2.1, r0.1, ()), ()) := by kernel_rfl
/-! ### spigot/bucket.CheckLimit (84) -/
noncomputable def bucket_CheckLimit.sg : Sig := ⟨[.val t0], [((.int .i64), true)]⟩
noncomputable def bucket_CheckLimit.E : Env := ⟨tl, fun i => look i [], [], eqs, globs, prims⟩
noncomputable def bucket_CheckLimit.c := cxOf bucket_CheckLimit.E bucket_CheckLimit.sg Try.f84
noncomputable def bucket_CheckLimit.b := body Try.f84
noncomputable def bucket_CheckLimit.Fn : Fun := fnOf bucket_CheckLimit.E bucket_CheckLimit.sg Try.f84
noncomputable def bucket_CheckLimit.F (l : t0.den) : Option (Int × Unit) := bucket_CheckLimit.Fn.F (l, ())
noncomputable def bucket_CheckLimit.S1 : St := ⟨[], [], 0, []⟩
noncomputable def bucket_CheckLimit.L1 : Option (Int × Unit) := res bucket_CheckLimit.c (atJoin bucket_CheckLimit.b [1, 0, 1]) (bucket_CheckLimit.S1)
theorem bucket_CheckLimit.spec : FnSpec Try.prog globs 84 bucket_CheckLimit.Fn := spec_of (E := bucket_CheckLimit.E) (envOk_at tabOk eqOk primsOk (.nil)) mixOk Try.func84 (by kernel_rfl)
theorem bucket_CheckLimit.L1_eq : bucket_CheckLimit.L1 =
  some (0, ()) := res_eq (by kernel_rfl)
theorem bucket_CheckLimit.F_eq (l : t0.den) : bucket_CheckLimit.F l =
  bif (decide ((l.1 : Int) < 1)) then
    some (8, ())
  else
    bif (decide ((l.1 : Int) > 1000000000)) then
      some (8, ())
    else
      bif (decide ((l.2.1 : Int) < 0)) then
        some (8, ())
      else
        bif (decide ((l.2.1 : Int) > 1000000000)) then
          some (8, ())
        else
          bif (decide ((l.2.2.1 : Int) < 1)) then
            some (8, ())
          else
            bif (decide ((l.2.2.1 : Int) > 1000000000)) then
              some (8, ())
            else
              bucket_CheckLimit.L1 := by kernel_rfl
/-! ### spigot/part.valid (68) -/
noncomputable def part_valid.sg : Sig := ⟨[.val (.arr 3 t0)], [(.bool, true)]⟩
noncomputable def part_valid.E : Env := ⟨tl, fun i => look i [(84, bucket_CheckLimit.Fn)], [], eqs, globs, prims⟩
noncomputable def part_valid.c := cxOf part_valid.E part_valid.sg Try.f68
noncomputable def part_valid.b := body Try.f68
noncomputable def part_valid.Fn : Fun := fnOf part_valid.E part_valid.sg Try.f68
noncomputable def part_valid.F (l : (List t0.den)) : Option (Bool × Unit) := part_valid.Fn.F (l, ())
noncomputable def part_valid.S1 (t5_ : (List t0.den)) (t6_ : Int) : St := ⟨[(5, (.v (.arr 3 t0) t5_)), (6, (.v (.int .i64) t6_))], [], 0, []⟩
noncomputable def part_valid.L1 (t5_ : (List t0.den)) (t6_ : Int) : Option (Bool × Unit) := res part_valid.c (atLoop part_valid.b [1, 0, 1, 0]) (part_valid.S1 t5_ t6_)
noncomputable def part_valid.S2 (t5_ : (List t0.den)) (t6_ : Int) : St := ⟨[(5, (.v (.arr 3 t0) t5_)), (6, (.v (.int .i64) t6_))], [], 0, []⟩
noncomputable def part_valid.L2 (t5_ : (List t0.den)) (t6_ : Int) : Option (Bool × Unit) := res part_valid.c (atJoin part_valid.b [1, 0, 1, 0, 0, 1, 0]) (part_valid.S2 t5_ t6_)
noncomputable def part_valid.S3 (t5_ : (List t0.den)) (t6_ : Int) : St := ⟨[(5, (.v (.arr 3 t0) t5_)), (6, (.v (.int .i64) t6_))], [], 0, []⟩
noncomputable def part_valid.L3 (t5_ : (List t0.den)) (t6_ : Int) : Option (Bool × Unit) := res part_valid.c (atJoin part_valid.b [1, 0, 1, 0, 0, 1, 1, 0, 0, 1, 1]) (part_valid.S3 t5_ t6_)
theorem part_valid.spec : FnSpec Try.prog globs 68 part_valid.Fn := spec_of (E := part_valid.E) (envOk_at tabOk eqOk primsOk (.cons bucket_CheckLimit.spec <| .nil)) mixOk Try.func68 (by kernel_rfl)
theorem part_valid.L1_eq (t5_ : (List t0.den)) (t6_ : Int) : part_valid.L1 t5_ t6_ =
  bif (decide ((t6_ : Int) < 3)) then
    part_valid.L2 t5_ t6_
  else
    some (true, ()) := res_eq (by kernel_rfl)
theorem part_valid.L2_eq (t5_ : (List t0.den)) (t6_ : Int) : part_valid.L2 t5_ t6_ =
  bif (decide ((0 : Int) ≤ t6_ ∧ (t6_ : Int) < 3)) then
    (bucket_CheckLimit.F (List.getD t5_ (Int.toNat t6_) (0, 0, 0, ()))).bind fun r0 =>
    bif (r0.1 != 0) then
      some (false, ())
    else
      part_valid.L3 t5_ t6_
  else none := res_eq (by kernel_rfl)
theorem part_valid.L3_eq (t5_ : (List t0.den)) (t6_ : Int) : part_valid.L3 t5_ t6_ =
  part_valid.L1 t5_ (IntKind.wrap .i64 (t6_ + 1)) := res_eq (by kernel_rfl)
theorem part_valid.F_eq (l : (List t0.den)) : part_valid.F l =
  part_valid.L1 l 0 := by kernel_rfl
/-! ### spigot/bucket.Check (69) -/
noncomputable def bucket_Check.sg : Sig := ⟨[.val t1], [((.int .i64), true)]⟩
noncomputable def bucket_Check.E : Env := ⟨tl, fun i => look i [(84, bucket_CheckLimit.Fn)], [], eqs, globs, prims⟩
noncomputable def bucket_Check.c := cxOf bucket_Check.E bucket_Check.sg Try.f69
noncomputable def bucket_Check.b := body Try.f69
noncomputable def bucket_Check.Fn : Fun := fnOf bucket_Check.E bucket_Check.sg Try.f69
noncomputable def bucket_Check.F (b : t1.den) : Option (Int × Unit) := bucket_Check.Fn.F (b, ())
noncomputable def bucket_Check.S1 (b0 : Int) (b02 : Int) (b03 : Int) (b04 : Int) (b05 : Int) (b06 : Int) : St := ⟨[(1, (.ptr 0 []))], [(0, some (.box (.agg [(.agg [(.v (.int .i64) b0), (.v (.int .i64) b02), (.v (.int .i64) b03)]), (.v (.int .i64) b04), (.v (.int .i64) b05), (.v (.int .u64) b06)])))], 1, []⟩
noncomputable def bucket_Check.L1 (b0 : Int) (b02 : Int) (b03 : Int) (b04 : Int) (b05 : Int) (b06 : Int) : Option (Int × Unit) := res bucket_Check.c (atJoin bucket_Check.b [1, 0, 1, 1]) (bucket_Check.S1 b0 b02 b03 b04 b05 b06)
noncomputable def bucket_Check.S2 : St := ⟨[], [], 0, []⟩
noncomputable def bucket_Check.L2 : Option (Int × Unit) := res bucket_Check.c (atJoin bucket_Check.b [1, 1, 1, 0, 1]) (bucket_Check.S2)
theorem bucket_Check.spec : FnSpec Try.prog globs 69 bucket_Check.Fn := spec_of (E := bucket_Check.E) (envOk_at tabOk eqOk primsOk (.cons bucket_CheckLimit.spec <| .nil)) mixOk Try.func69 (by kernel_rfl)
theorem bucket_Check.L1_eq (b0 : Int) (b02 : Int) (b03 : Int) (b04 : Int) (b05 : Int) (b06 : Int) : bucket_Check.L1 b0 b02 b03 b04 b05 b06 =
  bif (decide ((b04 : Int) < 0)) then
    some (8, ())
  else
    bif (decide (((IntKind.wrap .i64 (b0 - b04)) : Int) < 0)) then
      some (8, ())
    else
      bif (decide ((b05 : Int) < 0)) then
        some (8, ())
      else
        bif (decide ((b05 : Int) ≥ b03)) then
          some (8, ())
        else
          bif ((IntKind.wrap .i64 (b0 - b04)) == 0) then
            bif (decide ((b05 : Int) > 0)) then
              some (8, ())
            else
              bucket_Check.L2
          else
            bucket_Check.L2 := res_eq (by kernel_rfl)
theorem bucket_Check.L2_eq : bucket_Check.L2 =
  some (0, ()) := res_eq (by kernel_rfl)
theorem bucket_Check.F_eq (b : t1.den) : bucket_Check.F b =
  (bucket_CheckLimit.F b.1).bind fun r0 =>
  bif (r0.1 != 0) then
    some (r0.1, ())
  else
    bucket_Check.L1 b.1.1 b.1.2.1 b.1.2.2.1 b.2.1 b.2.2.1 b.2.2.2.1 := by kernel_rfl
/-! ### spigot/lru.Check (90) -/
noncomputable def lru_Check.sg : Sig := ⟨[.val t4], [((.int .i64), true)]⟩
noncomputable def lru_Check.E : Env := ⟨tl, fun i => look i [], [], eqs, globs, prims⟩
noncomputable def lru_Check.c := cxOf lru_Check.E lru_Check.sg Try.f90
noncomputable def lru_Check.b := body Try.f90
noncomputable def lru_Check.Fn : Fun := fnOf lru_Check.E lru_Check.sg Try.f90
noncomputable def lru_Check.F (o : t4.den) : Option (Int × Unit) := lru_Check.Fn.F (o, ())
noncomputable def lru_Check.S1 (n : Int) (b0 : (List Int)) (b02 : (List Int)) (b03 : Int) (b04 : Int) : St := ⟨[(1, (.ptr 0 [])), (3, (.v (.int .i64) n))], [(0, some (.box (.agg [(.v (.slice (.int .i64)) b0), (.v (.slice (.int .i64)) b02), (.v (.int .i64) b03), (.v (.int .i64) b04)])))], 1, []⟩
noncomputable def lru_Check.L1 (n : Int) (b0 : (List Int)) (b02 : (List Int)) (b03 : Int) (b04 : Int) : Option (Int × Unit) := res lru_Check.c (atJoin lru_Check.b [1, 1, 0, 1]) (lru_Check.S1 n b0 b02 b03 b04)
noncomputable def lru_Check.S2 (n : Int) (last : Int) (i : Int) (b0 : (List Int)) (b02 : (List Int)) (b03 : Int) (b04 : Int) (l1 : (List Bool)) : St := ⟨[(1, (.ptr 0 [])), (3, (.v (.int .i64) n)), (4, (.sl 1)), (5, (.v (.int .i64) last)), (6, (.v (.int .i64) i))], [(0, some (.box (.agg [(.v (.slice (.int .i64)) b0), (.v (.slice (.int .i64)) b02), (.v (.int .i64) b03), (.v (.int .i64) b04)]))), (1, some (.row .bool l1 false))], 2, []⟩
noncomputable def lru_Check.L2 (n : Int) (last : Int) (i : Int) (b0 : (List Int)) (b02 : (List Int)) (b03 : Int) (b04 : Int) (l1 : (List Bool)) : Option (Int × Unit) := res lru_Check.c (atLoop lru_Check.b [1, 1, 1, 1, 1, 0, 1, 0]) (lru_Check.S2 n last i b0 b02 b03 b04 l1)
noncomputable def lru_Check.S3 (n : Int) (last : Int) (i : Int) (b0 : (List Int)) (b02 : (List Int)) (b03 : Int) (b04 : Int) (l1 : (List Bool)) : St := ⟨[(1, (.ptr 0 [])), (3, (.v (.int .i64) n)), (4, (.sl 1)), (5, (.v (.int .i64) last)), (6, (.v (.int .i64) i))], [(0, some (.box (.agg [(.v (.slice (.int .i64)) b0), (.v (.slice (.int .i64)) b02), (.v (.int .i64) b03), (.v (.int .i64) b04)]))), (1, some (.row .bool l1 false))], 2, []⟩
noncomputable def lru_Check.L3 (n : Int) (last : Int) (i : Int) (b0 : (List Int)) (b02 : (List Int)) (b03 : Int) (b04 : Int) (l1 : (List Bool)) : Option (Int × Unit) := res lru_Check.c (atJoin lru_Check.b [1, 1, 1, 1, 1, 0, 1, 0, 0, 0, 1]) (lru_Check.S3 n last i b0 b02 b03 b04 l1)
noncomputable def lru_Check.S4 (last : Int) (t63_ : Int) (t64_ : Int) (b0 : (List Int)) (b02 : (List Int)) (b03 : Int) (b04 : Int) (l1 : (List Bool)) : St := ⟨[(1, (.ptr 0 [])), (5, (.v (.int .i64) last)), (62, (.sl 1)), (63, (.v (.int .i64) t63_)), (64, (.v (.int .i64) t64_))], [(0, some (.box (.agg [(.v (.slice (.int .i64)) b0), (.v (.slice (.int .i64)) b02), (.v (.int .i64) b03), (.v (.int .i64) b04)]))), (1, some (.row .bool l1 false))], 2, []⟩
noncomputable def lru_Check.L4 (last : Int) (t63_ : Int) (t64_ : Int) (b0 : (List Int)) (b02 : (List Int)) (b03 : Int) (b04 : Int) (l1 : (List Bool)) : Option (Int × Unit) := res lru_Check.c (atLoop lru_Check.b [1, 1, 1, 1, 1, 1, 0, 1, 0]) (lru_Check.S4 last t63_ t64_ b0 b02 b03 b04 l1)
noncomputable def lru_Check.S5 (last : Int) (t63_ : Int) (t64_ : Int) (b0 : (List Int)) (b02 : (List Int)) (b03 : Int) (b04 : Int) (l1 : (List Bool)) : St := ⟨[(1, (.ptr 0 [])), (5, (.v (.int .i64) last)), (62, (.sl 1)), (63, (.v (.int .i64) t63_)), (64, (.v (.int .i64) t64_))], [(0, some (.box (.agg [(.v (.slice (.int .i64)) b0), (.v (.slice (.int .i64)) b02), (.v (.int .i64) b03), (.v (.int .i64) b04)]))), (1, some (.row .bool l1 false))], 2, []⟩
noncomputable def lru_Check.L5 (last : Int) (t63_ : Int) (t64_ : Int) (b0 : (List Int)) (b02 : (List Int)) (b03 : Int) (b04 : Int) (l1 : (List Bool)) : Option (Int × Unit) := res lru_Check.c (atJoin lru_Check.b [1, 1, 1, 1, 1, 1, 0, 1, 0, 0, 1, 0]) (lru_Check.S5 last t63_ t64_ b0 b02 b03 b04 l1)
noncomputable def lru_Check.S6 : St := ⟨[], [], 0, []⟩
noncomputable def lru_Check.L6 : Option (Int × Unit) := res lru_Check.c (atJoin lru_Check.b [1, 1, 1, 1, 1, 1, 1, 0, 1]) (lru_Check.S6)
noncomputable def lru_Check.S7 (last : Int) (t63_ : Int) (t64_ : Int) (b0 : (List Int)) (b02 : (List Int)) (b03 : Int) (b04 : Int) (l1 : (List Bool)) : St := ⟨[(1, (.ptr 0 [])), (5, (.v (.int .i64) last)), (62, (.sl 1)), (63, (.v (.int .i64) t63_)), (64, (.v (.int .i64) t64_))], [(0, some (.box (.agg [(.v (.slice (.int .i64)) b0), (.v (.slice (.int .i64)) b02), (.v (.int .i64) b03), (.v (.int .i64) b04)]))), (1, some (.row .bool l1 false))], 2, []⟩
noncomputable def lru_Check.L7 (last : Int) (t63_ : Int) (t64_ : Int) (b0 : (List Int)) (b02 : (List Int)) (b03 : Int) (b04 : Int) (l1 : (List Bool)) : Option (Int × Unit) := res lru_Check.c (atJoin lru_Check.b [1, 1, 1, 1, 1, 1, 0, 1, 0, 0, 1, 1, 0, 0, 1, 1]) (lru_Check.S7 last t63_ t64_ b0 b02 b03 b04 l1)
noncomputable def lru_Check.S8 (n : Int) (i : Int) (b0 : (List Int)) (b02 : (List Int)) (b03 : Int) (b04 : Int) (l1 : (List Bool)) : St := ⟨[(1, (.ptr 0 [])), (3, (.v (.int .i64) n)), (4, (.sl 1)), (6, (.v (.int .i64) i))], [(0, some (.box (.agg [(.v (.slice (.int .i64)) b0), (.v (.slice (.int .i64)) b02), (.v (.int .i64) b03), (.v (.int .i64) b04)]))), (1, some (.row .bool l1 false))], 2, []⟩
noncomputable def lru_Check.L8 (n : Int) (i : Int) (b0 : (List Int)) (b02 : (List Int)) (b03 : Int) (b04 : Int) (l1 : (List Bool)) : Option (Int × Unit) := res lru_Check.c (atJoin lru_Check.b [1, 1, 1, 1, 1, 0, 1, 0, 0, 1, 0, 0, 0, 1]) (lru_Check.S8 n i b0 b02 b03 b04 l1)
theorem lru_Check.spec : FnSpec Try.prog globs 90 lru_Check.Fn := spec_of (E := lru_Check.E) (envOk_at tabOk eqOk primsOk (.nil)) mixOk Try.func90 (by kernel_rfl)
theorem lru_Check.L1_eq (n : Int) (b0 : (List Int)) (b02 : (List Int)) (b03 : Int) (b04 : Int) : lru_Check.L1 n b0 b02 b03 b04 =
  bif (decide ((0 : Int) ≤ n ∧ (n : Int) ≤ n) && (lim (Int.toNat n) .bool)) then
    lru_Check.L2 n (-1) b03 b0 b02 b03 b04 (List.replicate (Int.toNat n) false)
  else none := res_eq (by kernel_rfl)
theorem lru_Check.L2_eq (n : Int) (last : Int) (i : Int) (b0 : (List Int)) (b02 : (List Int)) (b03 : Int) (b04 : Int) (l1 : (List Bool)) : lru_Check.L2 n last i b0 b02 b03 b04 l1 =
  bif (i != (-1)) then
    lru_Check.L3 n last i b0 b02 b03 b04 l1
  else
    lru_Check.L4 last ((List.length l1 : Int)) 0 b0 b02 b03 b04 l1 := res_eq (by kernel_rfl)
theorem lru_Check.L3_eq (n : Int) (last : Int) (i : Int) (b0 : (List Int)) (b02 : (List Int)) (b03 : Int) (b04 : Int) (l1 : (List Bool)) : lru_Check.L3 n last i b0 b02 b03 b04 l1 =
  bif (decide ((i : Int) < 0)) then
    some (8, ())
  else
    bif (decide ((i : Int) ≥ n)) then
      some (8, ())
    else
      bif (decide ((0 : Int) ≤ i ∧ (i : Int) < ((List.length l1 : Int)))) then
        bif (List.getD l1 (Int.toNat i) false) then
          some (8, ())
        else
          bif (decide ((0 : Int) ≤ i ∧ (i : Int) < ((List.length b0 : Int)))) then
            bif ((List.getD b0 (Int.toNat i) 0) != last) then
              some (8, ())
            else
              lru_Check.L8 n i b0 b02 b03 b04 l1
          else none
      else none := res_eq (by kernel_rfl)
theorem lru_Check.L4_eq (last : Int) (t63_ : Int) (t64_ : Int) (b0 : (List Int)) (b02 : (List Int)) (b03 : Int) (b04 : Int) (l1 : (List Bool)) : lru_Check.L4 last t63_ t64_ b0 b02 b03 b04 l1 =
  bif (decide ((t64_ : Int) < t63_)) then
    lru_Check.L5 last t63_ t64_ b0 b02 b03 b04 l1
  else
    bif (b04 != last) then
      some (8, ())
    else
      lru_Check.L6 := res_eq (by kernel_rfl)
theorem lru_Check.L5_eq (last : Int) (t63_ : Int) (t64_ : Int) (b0 : (List Int)) (b02 : (List Int)) (b03 : Int) (b04 : Int) (l1 : (List Bool)) : lru_Check.L5 last t63_ t64_ b0 b02 b03 b04 l1 =
  bif (decide ((0 : Int) ≤ t64_ ∧ (t64_ : Int) < ((List.length l1 : Int)))) then
    bif (!(List.getD l1 (Int.toNat t64_) false)) then
      bif (decide ((0 : Int) ≤ t64_ ∧ (t64_ : Int) < ((List.length b0 : Int)))) then
        bif ((List.getD b0 (Int.toNat t64_) 0) != (-1)) then
          some (8, ())
        else
          bif (decide ((0 : Int) ≤ t64_ ∧ (t64_ : Int) < ((List.length b02 : Int)))) then
            bif ((List.getD b02 (Int.toNat t64_) 0) != (-1)) then
              some (8, ())
            else
              lru_Check.L7 last t63_ t64_ b0 b02 b03 b04 l1
          else none
      else none
    else
      lru_Check.L7 last t63_ t64_ b0 b02 b03 b04 l1
  else none := res_eq (by kernel_rfl)
theorem lru_Check.L6_eq : lru_Check.L6 =
  some (0, ()) := res_eq (by kernel_rfl)
theorem lru_Check.L7_eq (last : Int) (t63_ : Int) (t64_ : Int) (b0 : (List Int)) (b02 : (List Int)) (b03 : Int) (b04 : Int) (l1 : (List Bool)) : lru_Check.L7 last t63_ t64_ b0 b02 b03 b04 l1 =
  lru_Check.L4 last t63_ (IntKind.wrap .i64 (t64_ + 1)) b0 b02 b03 b04 l1 := res_eq (by kernel_rfl)
theorem lru_Check.L8_eq (n : Int) (i : Int) (b0 : (List Int)) (b02 : (List Int)) (b03 : Int) (b04 : Int) (l1 : (List Bool)) : lru_Check.L8 n i b0 b02 b03 b04 l1 =
  bif (decide ((0 : Int) ≤ i ∧ (i : Int) < ((List.length l1 : Int)))) then
    bif (decide ((0 : Int) ≤ i ∧ (i : Int) < ((List.length b02 : Int)))) then
      lru_Check.L2 n i (List.getD b02 (Int.toNat i) 0) b0 b02 b03 b04 (List.set l1 (Int.toNat i) true)
    else none
  else none := res_eq (by kernel_rfl)
theorem lru_Check.F_eq (o : t4.den) : lru_Check.F o =
  bif (decide ((((List.length o.1 : Int)) : Int) < 1)) then
    some (8, ())
  else
    bif (decide ((((List.length o.1 : Int)) : Int) > 16)) then
      some (8, ())
    else
      bif (((List.length o.2.1 : Int)) != ((List.length o.1 : Int))) then
        some (8, ())
      else
        lru_Check.L1 ((List.length o.1 : Int)) o.1 o.2.1 o.2.2.1 o.2.2.2.1 := by kernel_rfl
/-! ### spigot/lru.List (73) -/
noncomputable def lru_List.sg : Sig := ⟨[.val t4], [((.slice (.int .i64)), true), ((.int .i64), true)]⟩
noncomputable def lru_List.E : Env := ⟨tl, fun i => look i [(90, lru_Check.Fn)], [], eqs, globs, prims⟩
noncomputable def lru_List.c := cxOf lru_List.E lru_List.sg Try.f73
noncomputable def lru_List.b := body Try.f73
noncomputable def lru_List.Fn : Fun := fnOf lru_List.E lru_List.sg Try.f73
noncomputable def lru_List.F (o : t4.den) : Option ((List Int) × Int × Unit) := lru_List.Fn.F (o, ())
noncomputable def lru_List.S1 (b0 : (List Int)) (b02 : (List Int)) (b03 : Int) (b04 : Int) : St := ⟨[(1, (.ptr 0 []))], [(0, some (.box (.agg [(.v (.slice (.int .i64)) b0), (.v (.slice (.int .i64)) b02), (.v (.int .i64) b03), (.v (.int .i64) b04)])))], 1, []⟩
noncomputable def lru_List.L1 (b0 : (List Int)) (b02 : (List Int)) (b03 : Int) (b04 : Int) : Option ((List Int) × Int × Unit) := res lru_List.c (atJoin lru_List.b [1, 0, 1, 1]) (lru_List.S1 b0 b02 b03 b04)
noncomputable def lru_List.S2 (i : Int) (b0 : (List Int)) (b02 : (List Int)) (b03 : Int) (b04 : Int) (l1 : (List Int)) : St := ⟨[(1, (.ptr 0 [])), (5, (.sl 1)), (6, (.v (.int .i64) i))], [(0, some (.box (.agg [(.v (.slice (.int .i64)) b0), (.v (.slice (.int .i64)) b02), (.v (.int .i64) b03), (.v (.int .i64) b04)]))), (1, some (.row (.int .i64) l1 false))], 2, []⟩
noncomputable def lru_List.L2 (i : Int) (b0 : (List Int)) (b02 : (List Int)) (b03 : Int) (b04 : Int) (l1 : (List Int)) : Option ((List Int) × Int × Unit) := res lru_List.c (atLoop lru_List.b [1, 1, 1, 0, 1, 0]) (lru_List.S2 i b0 b02 b03 b04 l1)
noncomputable def lru_List.S3 (i : Int) (b0 : (List Int)) (b02 : (List Int)) (b03 : Int) (b04 : Int) (l1 : (List Int)) : St := ⟨[(1, (.ptr 0 [])), (5, (.sl 1)), (6, (.v (.int .i64) i))], [(0, some (.box (.agg [(.v (.slice (.int .i64)) b0), (.v (.slice (.int .i64)) b02), (.v (.int .i64) b03), (.v (.int .i64) b04)]))), (1, some (.row (.int .i64) l1 false))], 2, []⟩
noncomputable def lru_List.L3 (i : Int) (b0 : (List Int)) (b02 : (List Int)) (b03 : Int) (b04 : Int) (l1 : (List Int)) : Option ((List Int) × Int × Unit) := res lru_List.c (atJoin lru_List.b [1, 1, 1, 0, 1, 0, 0, 0, 1]) (lru_List.S3 i b0 b02 b03 b04 l1)
theorem lru_List.spec : FnSpec Try.prog globs 73 lru_List.Fn := spec_of (E := lru_List.E) (envOk_at tabOk eqOk primsOk (.cons lru_Check.spec <| .nil)) mixOk Try.func73 (by kernel_rfl)
theorem lru_List.L1_eq (b0 : (List Int)) (b02 : (List Int)) (b03 : Int) (b04 : Int) : lru_List.L1 b0 b02 b03 b04 =
  lru_List.L2 b03 b0 b02 b03 b04 ([] : List Int) := res_eq (by kernel_rfl)
theorem lru_List.L2_eq (i : Int) (b0 : (List Int)) (b02 : (List Int)) (b03 : Int) (b04 : Int) (l1 : (List Int)) : lru_List.L2 i b0 b02 b03 b04 l1 =
  bif (i != (-1)) then
    lru_List.L3 i b0 b02 b03 b04 l1
  else
    some (l1, 0, ()) := res_eq (by kernel_rfl)
theorem lru_List.L3_eq (i : Int) (b0 : (List Int)) (b02 : (List Int)) (b03 : Int) (b04 : Int) (l1 : (List Int)) : lru_List.L3 i b0 b02 b03 b04 l1 =
  bif (lim ((List.length l1) + (List.length ([i] : List Int))) (.int .i64)) then
    bif (decide ((0 : Int) ≤ i ∧ (i : Int) < ((List.length b02 : Int)))) then
      lru_List.L2 (List.getD b02 (Int.toNat i) 0) b0 b02 b03 b04 (l1 ++ ([i] : List Int))
    else none
  else none := res_eq (by kernel_rfl)
theorem lru_List.F_eq (o : t4.den) : lru_List.F o =
  (lru_Check.F o).bind fun r0 =>
  bif (r0.1 != 0) then
    some (([] : List Int), r0.1, ())
  else
    lru_List.L1 o.1 o.2.1 o.2.2.1 o.2.2.2.1 := by kernel_rfl
/-! ### spigot/arena.Check (85) -/
noncomputable def arena_Check.sg : Sig := ⟨[.val t2], [((.int .i64), true)]⟩
noncomputable def arena_Check.E : Env := ⟨tl, fun i => look i [], [], eqs, globs, prims⟩
noncomputable def arena_Check.c := cxOf arena_Check.E arena_Check.sg Try.f85
noncomputable def arena_Check.b := body Try.f85
noncomputable def arena_Check.Fn : Fun := fnOf arena_Check.E arena_Check.sg Try.f85
noncomputable def arena_Check.F (a : t2.den) : Option (Int × Unit) := arena_Check.Fn.F (a, ())
noncomputable def arena_Check.S1 (n : Int) (b0 : (List Int)) (b02 : (List Bool)) (b03 : Int) : St := ⟨[(1, (.ptr 0 [])), (3, (.v (.int .i64) n))], [(0, some (.box (.agg [(.v (.slice (.int .i64)) b0), (.v (.slice .bool) b02), (.v (.int .i64) b03)])))], 1, []⟩
noncomputable def arena_Check.L1 (n : Int) (b0 : (List Int)) (b02 : (List Bool)) (b03 : Int) : Option (Int × Unit) := res arena_Check.c (atJoin arena_Check.b [1, 1, 0, 1]) (arena_Check.S1 n b0 b02 b03)
noncomputable def arena_Check.S2 (n : Int) (i : Int) (b0 : (List Int)) (b02 : (List Bool)) (b03 : Int) (l1 : (List Bool)) : St := ⟨[(1, (.ptr 0 [])), (3, (.v (.int .i64) n)), (4, (.sl 1)), (5, (.v (.int .i64) i))], [(0, some (.box (.agg [(.v (.slice (.int .i64)) b0), (.v (.slice .bool) b02), (.v (.int .i64) b03)]))), (1, some (.row .bool l1 false))], 2, []⟩
noncomputable def arena_Check.L2 (n : Int) (i : Int) (b0 : (List Int)) (b02 : (List Bool)) (b03 : Int) (l1 : (List Bool)) : Option (Int × Unit) := res arena_Check.c (atLoop arena_Check.b [1, 1, 1, 1, 0, 1, 0]) (arena_Check.S2 n i b0 b02 b03 l1)
noncomputable def arena_Check.S3 (n : Int) (i : Int) (b0 : (List Int)) (b02 : (List Bool)) (b03 : Int) (l1 : (List Bool)) : St := ⟨[(1, (.ptr 0 [])), (3, (.v (.int .i64) n)), (4, (.sl 1)), (5, (.v (.int .i64) i))], [(0, some (.box (.agg [(.v (.slice (.int .i64)) b0), (.v (.slice .bool) b02), (.v (.int .i64) b03)]))), (1, some (.row .bool l1 false))], 2, []⟩
noncomputable def arena_Check.L3 (n : Int) (i : Int) (b0 : (List Int)) (b02 : (List Bool)) (b03 : Int) (l1 : (List Bool)) : Option (Int × Unit) := res arena_Check.c (atJoin arena_Check.b [1, 1, 1, 1, 0, 1, 0, 0, 0, 1]) (arena_Check.S3 n i b0 b02 b03 l1)
noncomputable def arena_Check.S4 (t53_ : (List Bool)) (t54_ : Int) (t55_ : Int) (b0 : (List Int)) (b02 : Int) (l1 : (List Bool)) : St := ⟨[(1, (.ptr 0 [])), (4, (.sl 1)), (53, (.v (.slice .bool) t53_)), (54, (.v (.int .i64) t54_)), (55, (.v (.int .i64) t55_))], [(0, some (.box (.agg [(.v (.slice (.int .i64)) b0), (.v (.slice .bool) t53_), (.v (.int .i64) b02)]))), (1, some (.row .bool l1 false))], 2, []⟩
noncomputable def arena_Check.L4 (t53_ : (List Bool)) (t54_ : Int) (t55_ : Int) (b0 : (List Int)) (b02 : Int) (l1 : (List Bool)) : Option (Int × Unit) := res arena_Check.c (atLoop arena_Check.b [1, 1, 1, 1, 1, 0, 1, 0]) (arena_Check.S4 t53_ t54_ t55_ b0 b02 l1)
noncomputable def arena_Check.S5 (t53_ : (List Bool)) (t54_ : Int) (t55_ : Int) (b0 : (List Int)) (b02 : Int) (l1 : (List Bool)) : St := ⟨[(1, (.ptr 0 [])), (4, (.sl 1)), (53, (.v (.slice .bool) t53_)), (54, (.v (.int .i64) t54_)), (55, (.v (.int .i64) t55_))], [(0, some (.box (.agg [(.v (.slice (.int .i64)) b0), (.v (.slice .bool) t53_), (.v (.int .i64) b02)]))), (1, some (.row .bool l1 false))], 2, []⟩
noncomputable def arena_Check.L5 (t53_ : (List Bool)) (t54_ : Int) (t55_ : Int) (b0 : (List Int)) (b02 : Int) (l1 : (List Bool)) : Option (Int × Unit) := res arena_Check.c (atJoin arena_Check.b [1, 1, 1, 1, 1, 0, 1, 0, 0, 1, 0]) (arena_Check.S5 t53_ t54_ t55_ b0 b02 l1)
noncomputable def arena_Check.S6 (t53_ : (List Bool)) (t54_ : Int) (t55_ : Int) (b0 : (List Int)) (b02 : Int) (l1 : (List Bool)) : St := ⟨[(1, (.ptr 0 [])), (4, (.sl 1)), (53, (.v (.slice .bool) t53_)), (54, (.v (.int .i64) t54_)), (55, (.v (.int .i64) t55_))], [(0, some (.box (.agg [(.v (.slice (.int .i64)) b0), (.v (.slice .bool) t53_), (.v (.int .i64) b02)]))), (1, some (.row .bool l1 false))], 2, []⟩
noncomputable def arena_Check.L6 (t53_ : (List Bool)) (t54_ : Int) (t55_ : Int) (b0 : (List Int)) (b02 : Int) (l1 : (List Bool)) : Option (Int × Unit) := res arena_Check.c (atJoin arena_Check.b [1, 1, 1, 1, 1, 0, 1, 0, 0, 1, 1, 0, 0, 1, 1]) (arena_Check.S6 t53_ t54_ t55_ b0 b02 l1)
noncomputable def arena_Check.S7 (n : Int) (i : Int) (b0 : (List Int)) (b02 : (List Bool)) (b03 : Int) (l1 : (List Bool)) : St := ⟨[(1, (.ptr 0 [])), (3, (.v (.int .i64) n)), (4, (.sl 1)), (5, (.v (.int .i64) i))], [(0, some (.box (.agg [(.v (.slice (.int .i64)) b0), (.v (.slice .bool) b02), (.v (.int .i64) b03)]))), (1, some (.row .bool l1 false))], 2, []⟩
noncomputable def arena_Check.L7 (n : Int) (i : Int) (b0 : (List Int)) (b02 : (List Bool)) (b03 : Int) (l1 : (List Bool)) : Option (Int × Unit) := res arena_Check.c (atJoin arena_Check.b [1, 1, 1, 1, 0, 1, 0, 0, 1, 0, 0, 0, 1]) (arena_Check.S7 n i b0 b02 b03 l1)
theorem arena_Check.spec : FnSpec Try.prog globs 85 arena_Check.Fn := spec_of (E := arena_Check.E) (envOk_at tabOk eqOk primsOk (.nil)) mixOk Try.func85 (by kernel_rfl)
theorem arena_Check.L1_eq (n : Int) (b0 : (List Int)) (b02 : (List Bool)) (b03 : Int) : arena_Check.L1 n b0 b02 b03 =
  bif (lim (List.length b02) .bool) then
    arena_Check.L2 n b03 b0 b02 b03 b02
  else none := res_eq (by kernel_rfl)
theorem arena_Check.L2_eq (n : Int) (i : Int) (b0 : (List Int)) (b02 : (List Bool)) (b03 : Int) (l1 : (List Bool)) : arena_Check.L2 n i b0 b02 b03 l1 =
  bif (i != (-1)) then
    arena_Check.L3 n i b0 b02 b03 l1
  else
    arena_Check.L4 b02 ((List.length b02 : Int)) 0 b0 b03 l1 := res_eq (by kernel_rfl)
theorem arena_Check.L3_eq (n : Int) (i : Int) (b0 : (List Int)) (b02 : (List Bool)) (b03 : Int) (l1 : (List Bool)) : arena_Check.L3 n i b0 b02 b03 l1 =
  bif (decide ((i : Int) < 0)) then
    some (8, ())
  else
    bif (decide ((i : Int) ≥ n)) then
      some (8, ())
    else
      bif (decide ((0 : Int) ≤ i ∧ (i : Int) < ((List.length l1 : Int)))) then
        bif (List.getD l1 (Int.toNat i) false) then
          some (8, ())
        else
          arena_Check.L7 n i b0 b02 b03 l1
      else none := res_eq (by kernel_rfl)
theorem arena_Check.L4_eq (t53_ : (List Bool)) (t54_ : Int) (t55_ : Int) (b0 : (List Int)) (b02 : Int) (l1 : (List Bool)) : arena_Check.L4 t53_ t54_ t55_ b0 b02 l1 =
  bif (decide ((t55_ : Int) < t54_)) then
    arena_Check.L5 t53_ t54_ t55_ b0 b02 l1
  else
    some (0, ()) := res_eq (by kernel_rfl)
theorem arena_Check.L5_eq (t53_ : (List Bool)) (t54_ : Int) (t55_ : Int) (b0 : (List Int)) (b02 : Int) (l1 : (List Bool)) : arena_Check.L5 t53_ t54_ t55_ b0 b02 l1 =
  bif (decide ((0 : Int) ≤ t55_ ∧ (t55_ : Int) < ((List.length t53_ : Int)))) then
    bif (decide ((0 : Int) ≤ t55_ ∧ (t55_ : Int) < ((List.length l1 : Int)))) then
      bif (!(List.getD l1 (Int.toNat t55_) false)) then
        some (8, ())
      else
        bif (List.getD t53_ (Int.toNat t55_) false) then
          bif (decide ((0 : Int) ≤ t55_ ∧ (t55_ : Int) < ((List.length b0 : Int)))) then
            bif ((List.getD b0 (Int.toNat t55_) 0) != (-1)) then
              some (8, ())
            else
              arena_Check.L6 t53_ t54_ t55_ b0 b02 l1
          else none
        else
          arena_Check.L6 t53_ t54_ t55_ b0 b02 l1
    else none
  else none := res_eq (by kernel_rfl)
theorem arena_Check.L6_eq (t53_ : (List Bool)) (t54_ : Int) (t55_ : Int) (b0 : (List Int)) (b02 : Int) (l1 : (List Bool)) : arena_Check.L6 t53_ t54_ t55_ b0 b02 l1 =
  arena_Check.L4 t53_ t54_ (IntKind.wrap .i64 (t55_ + 1)) b0 b02 l1 := res_eq (by kernel_rfl)
theorem arena_Check.L7_eq (n : Int) (i : Int) (b0 : (List Int)) (b02 : (List Bool)) (b03 : Int) (l1 : (List Bool)) : arena_Check.L7 n i b0 b02 b03 l1 =
  bif (decide ((0 : Int) ≤ i ∧ (i : Int) < ((List.length l1 : Int)))) then
    bif (decide ((0 : Int) ≤ i ∧ (i : Int) < ((List.length b0 : Int)))) then
      arena_Check.L2 n (List.getD b0 (Int.toNat i) 0) b0 b02 b03 (List.set l1 (Int.toNat i) true)
    else none
  else none := res_eq (by kernel_rfl)
theorem arena_Check.F_eq (a : t2.den) : arena_Check.F a =
  bif (decide ((((List.length a.1 : Int)) : Int) < 1)) then
    some (8, ())
  else
    bif (decide ((((List.length a.1 : Int)) : Int) > 16)) then
      some (8, ())
    else
      bif (((List.length a.2.1 : Int)) != ((List.length a.1 : Int))) then
        some (8, ())
      else
        arena_Check.L1 ((List.length a.1 : Int)) a.1 a.2.1 a.2.2.1 := by kernel_rfl
/-! ### spigot/probe.Home (98) -/
noncomputable def probe_Home.sg : Sig := ⟨[.val (.int .u32)], [((.int .i64), true)]⟩
noncomputable def probe_Home.E : Env := ⟨tl, fun i => look i [], [], eqs, globs, prims⟩
noncomputable def probe_Home.c := cxOf probe_Home.E probe_Home.sg Try.f98
noncomputable def probe_Home.b := body Try.f98
noncomputable def probe_Home.Fn : Fun := fnOf probe_Home.E probe_Home.sg Try.f98
noncomputable def probe_Home.F (key : Int) : Option (Int × Unit) := probe_Home.Fn.F (key, ())
theorem probe_Home.spec : FnSpec Try.prog globs 98 probe_Home.Fn := spec_of (E := probe_Home.E) (envOk_at tabOk eqOk primsOk (.nil)) mixOk Try.func98 (by kernel_rfl)
theorem probe_Home.F_eq (key : Int) : probe_Home.F key =
  bif (decide ((0 : Int) ≤ 28)) then
    some ((IntKind.wrap .i64 (Int.fdiv (IntKind.wrap .u32 (key * 2654435769)) (2 ^ min (Int.toNat 28) (IntKind.bits .u32)))), ())
  else none := by kernel_rfl
/-! ### spigot/probe.wrap (99) -/
noncomputable def probe_wrap.sg : Sig := ⟨[.val (.int .i64)], [((.int .i64), true)]⟩
noncomputable def probe_wrap.E : Env := ⟨tl, fun i => look i [], [], eqs, globs, prims⟩
noncomputable def probe_wrap.c := cxOf probe_wrap.E probe_wrap.sg Try.f99
noncomputable def probe_wrap.b := body Try.f99
noncomputable def probe_wrap.Fn : Fun := fnOf probe_wrap.E probe_wrap.sg Try.f99
noncomputable def probe_wrap.F (i : Int) : Option (Int × Unit) := probe_wrap.Fn.F (i, ())
theorem probe_wrap.spec : FnSpec Try.prog globs 99 probe_wrap.Fn := spec_of (E := probe_wrap.E) (envOk_at tabOk eqOk primsOk (.nil)) mixOk Try.func99 (by kernel_rfl)
theorem probe_wrap.F_eq (i : Int) : probe_wrap.F i =
  some ((bits .and .i64 i 15), ()) := by kernel_rfl
/-! ### spigot/probe.look (96) -/
noncomputable def probe_look.sg : Sig := ⟨[.val (.slice t3), .val (.int .u32)], [((.int .i64), true), ((.int .i64), true)]⟩
noncomputable def probe_look.E : Env := ⟨tl, fun i => look i [(98, probe_Home.Fn), (99, probe_wrap.Fn)], [], eqs, globs, prims⟩
noncomputable def probe_look.c := cxOf probe_look.E probe_look.sg Try.f96
noncomputable def probe_look.b := body Try.f96
noncomputable def probe_look.Fn : Fun := fnOf probe_look.E probe_look.sg Try.f96
noncomputable def probe_look.F (x : (List t3.den)) (key : Int) : Option (Int × Int × Unit) := probe_look.Fn.F (x, key, ())
noncomputable def probe_look.S1 (x : (List t3.den)) (key : Int) (i : Int) (steps : Int) : St := ⟨[(0, (.v (.slice t3) x)), (1, (.v (.int .u32) key)), (4, (.v (.int .i64) i)), (5, (.v (.int .i64) steps))], [], 0, []⟩
noncomputable def probe_look.L1 (x : (List t3.den)) (key : Int) (i : Int) (steps : Int) : Option (Int × Int × Unit) := res probe_look.c (atLoop probe_look.b [1, 0, 1, 0]) (probe_look.S1 x key i steps)
noncomputable def probe_look.S2 (x : (List t3.den)) (key : Int) (i : Int) (steps : Int) : St := ⟨[(0, (.v (.slice t3) x)), (1, (.v (.int .u32) key)), (4, (.v (.int .i64) i)), (5, (.v (.int .i64) steps))], [], 0, []⟩
noncomputable def probe_look.L2 (x : (List t3.den)) (key : Int) (i : Int) (steps : Int) : Option (Int × Int × Unit) := res probe_look.c (atJoin probe_look.b [1, 0, 1, 0, 0, 0, 1]) (probe_look.S2 x key i steps)
theorem probe_look.spec : FnSpec Try.prog globs 96 probe_look.Fn := spec_of (E := probe_look.E) (envOk_at tabOk eqOk primsOk (.cons probe_Home.spec <| .cons probe_wrap.spec <| .nil)) mixOk Try.func96 (by kernel_rfl)
theorem probe_look.L1_eq (x : (List t3.den)) (key : Int) (i : Int) (steps : Int) : probe_look.L1 x key i steps =
  bif (decide ((0 : Int) ≤ i ∧ (i : Int) < ((List.length x : Int)))) then
    bif (((List.getD x (Int.toNat i) (0, 0, false, ())).2).2).1 then
      bif (decide ((0 : Int) ≤ i ∧ (i : Int) < ((List.length x : Int)))) then
        bif ((List.getD x (Int.toNat i) (0, 0, false, ())).1 != key) then
          probe_look.L2 x key i steps
        else
          some (i, (IntKind.wrap .i64 (steps + 1)), ())
      else none
    else
      some (i, (IntKind.wrap .i64 (steps + 1)), ())
  else none := res_eq (by kernel_rfl)
theorem probe_look.L2_eq (x : (List t3.den)) (key : Int) (i : Int) (steps : Int) : probe_look.L2 x key i steps =
  (probe_wrap.F (IntKind.wrap .i64 (i + 1))).bind fun r0 =>
  probe_look.L1 x key r0.1 (IntKind.wrap .i64 (steps + 1)) := res_eq (by kernel_rfl)
theorem probe_look.F_eq (x : (List t3.den)) (key : Int) : probe_look.F x key =
  (probe_Home.F key).bind fun r0 =>
  probe_look.L1 x key r0.1 0 := by kernel_rfl
/-! ### spigot/probe.Check (86) -/
noncomputable def probe_Check.sg : Sig := ⟨[.val (.slice t3)], [((.int .i64), true)]⟩
noncomputable def probe_Check.E : Env := ⟨tl, fun i => look i [(96, probe_look.Fn)], [], eqs, globs, prims⟩
noncomputable def probe_Check.c := cxOf probe_Check.E probe_Check.sg Try.f86
noncomputable def probe_Check.b := body Try.f86
noncomputable def probe_Check.Fn : Fun := fnOf probe_Check.E probe_Check.sg Try.f86
noncomputable def probe_Check.F (x : (List t3.den)) : Option (Int × Unit) := probe_Check.Fn.F (x, ())
noncomputable def probe_Check.S1 (x : (List t3.den)) : St := ⟨[(0, (.v (.slice t3) x))], [], 0, []⟩
noncomputable def probe_Check.L1 (x : (List t3.den)) : Option (Int × Unit) := res probe_Check.c (atJoin probe_Check.b [1, 0, 1]) (probe_Check.S1 x)
noncomputable def probe_Check.S2 (x : (List t3.den)) (n : Int) (t14_ : Int) (t15_ : Int) : St := ⟨[(0, (.v (.slice t3) x)), (3, (.v (.int .i64) n)), (13, (.v (.slice t3) x)), (14, (.v (.int .i64) t14_)), (15, (.v (.int .i64) t15_))], [], 0, []⟩
noncomputable def probe_Check.L2 (x : (List t3.den)) (n : Int) (t14_ : Int) (t15_ : Int) : Option (Int × Unit) := res probe_Check.c (atLoop probe_Check.b [1, 1, 1, 0, 1, 0]) (probe_Check.S2 x n t14_ t15_)
noncomputable def probe_Check.S3 (x : (List t3.den)) (n : Int) (t14_ : Int) (t15_ : Int) : St := ⟨[(0, (.v (.slice t3) x)), (3, (.v (.int .i64) n)), (13, (.v (.slice t3) x)), (14, (.v (.int .i64) t14_)), (15, (.v (.int .i64) t15_))], [], 0, []⟩
noncomputable def probe_Check.L3 (x : (List t3.den)) (n : Int) (t14_ : Int) (t15_ : Int) : Option (Int × Unit) := res probe_Check.c (atJoin probe_Check.b [1, 1, 1, 0, 1, 0, 0, 1, 0]) (probe_Check.S3 x n t14_ t15_)
noncomputable def probe_Check.S4 (x : (List t3.den)) : St := ⟨[(0, (.v (.slice t3) x))], [], 0, []⟩
noncomputable def probe_Check.L4 (x : (List t3.den)) : Option (Int × Unit) := res probe_Check.c (atJoin probe_Check.b [1, 1, 1, 1, 0, 1]) (probe_Check.S4 x)
noncomputable def probe_Check.S5 (x : (List t3.den)) (t26_ : Int) : St := ⟨[(0, (.v (.slice t3) x)), (26, (.v (.int .i64) t26_))], [], 0, []⟩
noncomputable def probe_Check.L5 (x : (List t3.den)) (t26_ : Int) : Option (Int × Unit) := res probe_Check.c (atLoop probe_Check.b [1, 1, 1, 1, 1, 0, 1, 0]) (probe_Check.S5 x t26_)
noncomputable def probe_Check.S6 (x : (List t3.den)) (t26_ : Int) : St := ⟨[(0, (.v (.slice t3) x)), (26, (.v (.int .i64) t26_))], [], 0, []⟩
noncomputable def probe_Check.L6 (x : (List t3.den)) (t26_ : Int) : Option (Int × Unit) := res probe_Check.c (atJoin probe_Check.b [1, 1, 1, 1, 1, 0, 1, 0, 0, 1, 0]) (probe_Check.S6 x t26_)
noncomputable def probe_Check.S7 (x : (List t3.den)) (i : Int) (b0 : Int) (b02 : Int) (b03 : Bool) : St := ⟨[(0, (.v (.slice t3) x)), (6, (.v (.int .i64) i)), (7, (.ptr 0 [])), (26, (.v (.int .i64) i))], [(0, some (.box (.agg [(.v (.int .u32) b0), (.v (.int .i64) b02), (.v .bool b03)])))], 1, []⟩
noncomputable def probe_Check.L7 (x : (List t3.den)) (i : Int) (b0 : Int) (b02 : Int) (b03 : Bool) : Option (Int × Unit) := res probe_Check.c (atJoin probe_Check.b [1, 1, 1, 1, 1, 0, 1, 0, 0, 1, 1, 0, 0, 1, 1, 0, 1]) (probe_Check.S7 x i b0 b02 b03)
noncomputable def probe_Check.S8 (x : (List t3.den)) (t26_ : Int) : St := ⟨[(0, (.v (.slice t3) x)), (26, (.v (.int .i64) t26_))], [], 0, []⟩
noncomputable def probe_Check.L8 (x : (List t3.den)) (t26_ : Int) : Option (Int × Unit) := res probe_Check.c (atJoin probe_Check.b [1, 1, 1, 1, 1, 0, 1, 0, 0, 1, 1, 0, 0, 1, 1, 1, 1, 1]) (probe_Check.S8 x t26_)
noncomputable def probe_Check.S9 (x : (List t3.den)) (n : Int) (t14_ : Int) (t15_ : Int) : St := ⟨[(0, (.v (.slice t3) x)), (3, (.v (.int .i64) n)), (13, (.v (.slice t3) x)), (14, (.v (.int .i64) t14_)), (15, (.v (.int .i64) t15_))], [], 0, []⟩
noncomputable def probe_Check.L9 (x : (List t3.den)) (n : Int) (t14_ : Int) (t15_ : Int) : Option (Int × Unit) := res probe_Check.c (atJoin probe_Check.b [1, 1, 1, 0, 1, 0, 0, 1, 1, 0, 0, 1, 1]) (probe_Check.S9 x n t14_ t15_)
theorem probe_Check.spec : FnSpec Try.prog globs 86 probe_Check.Fn := spec_of (E := probe_Check.E) (envOk_at tabOk eqOk primsOk (.cons probe_look.spec <| .nil)) mixOk Try.func86 (by kernel_rfl)
theorem probe_Check.L1_eq (x : (List t3.den)) : probe_Check.L1 x =
  probe_Check.L2 x 0 ((List.length x : Int)) 0 := res_eq (by kernel_rfl)
theorem probe_Check.L2_eq (x : (List t3.den)) (n : Int) (t14_ : Int) (t15_ : Int) : probe_Check.L2 x n t14_ t15_ =
  bif (decide ((t15_ : Int) < t14_)) then
    probe_Check.L3 x n t14_ t15_
  else
    bif (decide ((n : Int) > 12)) then
      some (8, ())
    else
      probe_Check.L4 x := res_eq (by kernel_rfl)
theorem probe_Check.L3_eq (x : (List t3.den)) (n : Int) (t14_ : Int) (t15_ : Int) : probe_Check.L3 x n t14_ t15_ =
  bif (decide ((0 : Int) ≤ t15_ ∧ (t15_ : Int) < ((List.length x : Int)))) then
    bif (((List.getD x (Int.toNat t15_) (0, 0, false, ())).2).2).1 then
      probe_Check.L9 x (IntKind.wrap .i64 (n + 1)) t14_ t15_
    else
      probe_Check.L9 x n t14_ t15_
  else none := res_eq (by kernel_rfl)
theorem probe_Check.L4_eq (x : (List t3.den)) : probe_Check.L4 x =
  probe_Check.L5 x 0 := res_eq (by kernel_rfl)
theorem probe_Check.L5_eq (x : (List t3.den)) (t26_ : Int) : probe_Check.L5 x t26_ =
  bif (decide ((t26_ : Int) < 16)) then
    probe_Check.L6 x t26_
  else
    some (0, ()) := res_eq (by kernel_rfl)
theorem probe_Check.L6_eq (x : (List t3.den)) (t26_ : Int) : probe_Check.L6 x t26_ =
  bif (decide ((0 : Int) ≤ t26_ ∧ (t26_ : Int) < ((List.length x : Int)))) then
    bif (!((((List.getD x (Int.toNat t26_) (0, 0, false, ())).2).2).1)) then
      bif (!(Ty.beq t3 (List.getD x (Int.toNat t26_) (0, 0, false, ())) (0, 0, false, ()))) then
        some (8, ())
      else
        bif (((List.getD x (Int.toNat t26_) (0, 0, false, ())).2).2).1 then
          bif (decide (((((List.getD x (Int.toNat t26_) (0, 0, false, ())).2).1) : Int) < 0)) then
            some (8, ())
          else
            bif (decide (((((List.getD x (Int.toNat t26_) (0, 0, false, ())).2).1) : Int) ≥ 16)) then
              some (8, ())
            else
              probe_Check.L7 x t26_ ((List.getD x (Int.toNat t26_) (0, 0, false, ())).1) (((List.getD x (Int.toNat t26_) (0, 0, false, ())).2).1) ((((List.getD x (Int.toNat t26_) (0, 0, false, ())).2).2).1)
        else
          probe_Check.L7 x t26_ ((List.getD x (Int.toNat t26_) (0, 0, false, ())).1) (((List.getD x (Int.toNat t26_) (0, 0, false, ())).2).1) ((((List.getD x (Int.toNat t26_) (0, 0, false, ())).2).2).1)
    else
      bif (((List.getD x (Int.toNat t26_) (0, 0, false, ())).2).2).1 then
        bif (decide (((((List.getD x (Int.toNat t26_) (0, 0, false, ())).2).1) : Int) < 0)) then
          some (8, ())
        else
          bif (decide (((((List.getD x (Int.toNat t26_) (0, 0, false, ())).2).1) : Int) ≥ 16)) then
            some (8, ())
          else
            probe_Check.L7 x t26_ ((List.getD x (Int.toNat t26_) (0, 0, false, ())).1) (((List.getD x (Int.toNat t26_) (0, 0, false, ())).2).1) ((((List.getD x (Int.toNat t26_) (0, 0, false, ())).2).2).1)
      else
        probe_Check.L7 x t26_ ((List.getD x (Int.toNat t26_) (0, 0, false, ())).1) (((List.getD x (Int.toNat t26_) (0, 0, false, ())).2).1) ((((List.getD x (Int.toNat t26_) (0, 0, false, ())).2).2).1)
  else none := res_eq (by kernel_rfl)
theorem probe_Check.L7_eq (x : (List t3.den)) (i : Int) (b0 : Int) (b02 : Int) (b03 : Bool) : probe_Check.L7 x i b0 b02 b03 =
  (probe_look.F x b0).bind fun r0 =>
  bif b03 then
    bif (r0.1 != i) then
      some (8, ())
    else
      probe_Check.L8 x i
  else
    probe_Check.L8 x i := res_eq (by kernel_rfl)
theorem probe_Check.L8_eq (x : (List t3.den)) (t26_ : Int) : probe_Check.L8 x t26_ =
  probe_Check.L5 x (IntKind.wrap .i64 (t26_ + 1)) := res_eq (by kernel_rfl)
theorem probe_Check.L9_eq (x : (List t3.den)) (n : Int) (t14_ : Int) (t15_ : Int) : probe_Check.L9 x n t14_ t15_ =
  probe_Check.L2 x n t14_ (IntKind.wrap .i64 (t15_ + 1)) := res_eq (by kernel_rfl)
theorem probe_Check.F_eq (x : (List t3.den)) : probe_Check.F x =
  bif (((List.length x : Int)) != 16) then
    some (8, ())
  else
    probe_Check.L1 x := by kernel_rfl
/-! ### slices.Index[[]int,int] (97) -/
noncomputable def slices_Index.sg : Sig := ⟨[.val (.slice (.int .i64)), .val (.int .i64)], [((.int .i64), true)]⟩
noncomputable def slices_Index.E : Env := ⟨tl, fun i => look i [], [], eqs, globs, prims⟩
noncomputable def slices_Index.c := cxOf slices_Index.E slices_Index.sg Try.f97
noncomputable def slices_Index.b := body Try.f97
noncomputable def slices_Index.Fn : Fun := fnOf slices_Index.E slices_Index.sg Try.f97
noncomputable def slices_Index.F (s : (List Int)) (v : Int) : Option (Int × Unit) := slices_Index.Fn.F (s, v, ())
noncomputable def slices_Index.S1 (s : (List Int)) (v : Int) (t7_ : Int) (t8_ : Int) : St := ⟨[(0, (.v (.slice (.int .i64)) s)), (1, (.v (.int .i64) v)), (7, (.v (.int .i64) t7_)), (8, (.v (.int .i64) t8_))], [], 0, []⟩
noncomputable def slices_Index.L1 (s : (List Int)) (v : Int) (t7_ : Int) (t8_ : Int) : Option (Int × Unit) := res slices_Index.c (atLoop slices_Index.b [1, 0, 1, 0]) (slices_Index.S1 s v t7_ t8_)
noncomputable def slices_Index.S2 (s : (List Int)) (v : Int) (t7_ : Int) (t8_ : Int) : St := ⟨[(0, (.v (.slice (.int .i64)) s)), (1, (.v (.int .i64) v)), (7, (.v (.int .i64) t7_)), (8, (.v (.int .i64) t8_))], [], 0, []⟩
noncomputable def slices_Index.L2 (s : (List Int)) (v : Int) (t7_ : Int) (t8_ : Int) : Option (Int × Unit) := res slices_Index.c (atJoin slices_Index.b [1, 0, 1, 0, 0, 1, 0]) (slices_Index.S2 s v t7_ t8_)
noncomputable def slices_Index.S3 (s : (List Int)) (v : Int) (t7_ : Int) (t8_ : Int) : St := ⟨[(0, (.v (.slice (.int .i64)) s)), (1, (.v (.int .i64) v)), (7, (.v (.int .i64) t7_)), (8, (.v (.int .i64) t8_))], [], 0, []⟩
noncomputable def slices_Index.L3 (s : (List Int)) (v : Int) (t7_ : Int) (t8_ : Int) : Option (Int × Unit) := res slices_Index.c (atJoin slices_Index.b [1, 0, 1, 0, 0, 1, 1, 0, 0, 1, 1]) (slices_Index.S3 s v t7_ t8_)
theorem slices_Index.spec : FnSpec Try.prog globs 97 slices_Index.Fn := spec_of (E := slices_Index.E) (envOk_at tabOk eqOk primsOk (.nil)) mixOk Try.func97 (by kernel_rfl)
theorem slices_Index.L1_eq (s : (List Int)) (v : Int) (t7_ : Int) (t8_ : Int) : slices_Index.L1 s v t7_ t8_ =
  bif (decide ((t8_ : Int) < t7_)) then
    slices_Index.L2 s v t7_ t8_
  else
    some ((-1), ()) := res_eq (by kernel_rfl)
theorem slices_Index.L2_eq (s : (List Int)) (v : Int) (t7_ : Int) (t8_ : Int) : slices_Index.L2 s v t7_ t8_ =
  bif (decide ((0 : Int) ≤ t8_ ∧ (t8_ : Int) < ((List.length s : Int)))) then
    bif (v == (List.getD s (Int.toNat t8_) 0)) then
      some (t8_, ())
    else
      slices_Index.L3 s v t7_ t8_
  else none := res_eq (by kernel_rfl)
theorem slices_Index.L3_eq (s : (List Int)) (v : Int) (t7_ : Int) (t8_ : Int) : slices_Index.L3 s v t7_ t8_ =
  slices_Index.L1 s v t7_ (IntKind.wrap .i64 (t8_ + 1)) := res_eq (by kernel_rfl)
theorem slices_Index.F_eq (s : (List Int)) (v : Int) : slices_Index.F s v =
  slices_Index.L1 s v ((List.length s : Int)) 0 := by kernel_rfl
/-! ### slices.Contains[[]int,int] (87) -/
noncomputable def slices_Contains.sg : Sig := ⟨[.val (.slice (.int .i64)), .val (.int .i64)], [(.bool, true)]⟩
noncomputable def slices_Contains.E : Env := ⟨tl, fun i => look i [(97, slices_Index.Fn)], [], eqs, globs, prims⟩
noncomputable def slices_Contains.c := cxOf slices_Contains.E slices_Contains.sg Try.f87
noncomputable def slices_Contains.b := body Try.f87
noncomputable def slices_Contains.Fn : Fun := fnOf slices_Contains.E slices_Contains.sg Try.f87
noncomputable def slices_Contains.F (s : (List Int)) (v : Int) : Option (Bool × Unit) := slices_Contains.Fn.F (s, v, ())
theorem slices_Contains.spec : FnSpec Try.prog globs 87 slices_Contains.Fn := spec_of (E := slices_Contains.E) (envOk_at tabOk eqOk primsOk (.cons slices_Index.spec <| .nil)) mixOk Try.func87 (by kernel_rfl)
theorem slices_Contains.F_eq (s : (List Int)) (v : Int) : slices_Contains.F s v =
  (slices_Index.F s v).bind fun r0 =>
  some ((decide ((r0.1 : Int) ≥ 0)), ()) := by kernel_rfl
/-! ### spigot/probe.Find (88) -/
noncomputable def probe_Find.sg : Sig := ⟨[.val (.slice t3), .val (.int .u32)], [((.int .i64), true), ((.int .i64), true)]⟩
noncomputable def probe_Find.E : Env := ⟨tl, fun i => look i [(86, probe_Check.Fn), (96, probe_look.Fn)], [], eqs, globs, prims⟩
noncomputable def probe_Find.c := cxOf probe_Find.E probe_Find.sg Try.f88
noncomputable def probe_Find.b := body Try.f88
noncomputable def probe_Find.Fn : Fun := fnOf probe_Find.E probe_Find.sg Try.f88
noncomputable def probe_Find.F (x : (List t3.den)) (key : Int) : Option (Int × Int × Unit) := probe_Find.Fn.F (x, key, ())
noncomputable def probe_Find.S1 (x : (List t3.den)) (key : Int) : St := ⟨[(0, (.v (.slice t3) x)), (1, (.v (.int .u32) key))], [], 0, []⟩
noncomputable def probe_Find.L1 (x : (List t3.den)) (key : Int) : Option (Int × Int × Unit) := res probe_Find.c (atJoin probe_Find.b [1, 0, 1, 1]) (probe_Find.S1 x key)
noncomputable def probe_Find.S2 (x : (List t3.den)) (i : Int) : St := ⟨[(0, (.v (.slice t3) x)), (7, (.v (.int .i64) i))], [], 0, []⟩
noncomputable def probe_Find.L2 (x : (List t3.den)) (i : Int) : Option (Int × Int × Unit) := res probe_Find.c (atJoin probe_Find.b [1, 1, 1, 0, 1]) (probe_Find.S2 x i)
theorem probe_Find.spec : FnSpec Try.prog globs 88 probe_Find.Fn := spec_of (E := probe_Find.E) (envOk_at tabOk eqOk primsOk (.cons probe_Check.spec <| .cons probe_look.spec <| .nil)) mixOk Try.func88 (by kernel_rfl)
theorem probe_Find.L1_eq (x : (List t3.den)) (key : Int) : probe_Find.L1 x key =
  (probe_look.F x key).bind fun r0 =>
  bif (decide ((0 : Int) ≤ r0.1 ∧ (r0.1 : Int) < ((List.length x : Int)))) then
    bif (!((((List.getD x (Int.toNat r0.1) (0, 0, false, ())).2).2).1)) then
      some (0, 6, ())
    else
      probe_Find.L2 x r0.1
  else none := res_eq (by kernel_rfl)
theorem probe_Find.L2_eq (x : (List t3.den)) (i : Int) : probe_Find.L2 x i =
  bif (decide ((0 : Int) ≤ i ∧ (i : Int) < ((List.length x : Int)))) then
    some (((List.getD x (Int.toNat i) (0, 0, false, ())).2).1, 0, ())
  else none := res_eq (by kernel_rfl)
theorem probe_Find.F_eq (x : (List t3.den)) (key : Int) : probe_Find.F x key =
  (probe_Check.F x).bind fun r0 =>
  bif (r0.1 != 0) then
    some (0, r0.1, ())
  else
    probe_Find.L1 x key := by kernel_rfl
/-! ### spigot/table.Check (70) -/
noncomputable def table_Check.sg : Sig := ⟨[.val t5], [((.int .i64), true)]⟩
noncomputable def table_Check.E : Env := ⟨tl, fun i => look i [(69, bucket_Check.Fn), (73, lru_List.Fn), (85, arena_Check.Fn), (86, probe_Check.Fn), (87, slices_Contains.Fn), (88, probe_Find.Fn)], [], eqs, globs, prims⟩
noncomputable def table_Check.c := cxOf table_Check.E table_Check.sg Try.f70
noncomputable def table_Check.b := body Try.f70
noncomputable def table_Check.Fn : Fun := fnOf table_Check.E table_Check.sg Try.f70
noncomputable def table_Check.F (t : t5.den) : Option (Int × Unit) := table_Check.Fn.F (t, ())
noncomputable def table_Check.S1 (b0 : Int) (b02 : (List Int)) (b03 : (List t1.den)) (b04 : (List Int)) (b05 : (List Bool)) (b06 : Int) (b07 : (List t3.den)) (b08 : (List Int)) (b09 : (List Int)) (b010 : Int) (b011 : Int) : St := ⟨[(1, (.ptr 0 []))], [(0, some (.box (.agg [(.v (.int .i64) b0), (.v (.slice (.int .u32)) b02), (.v (.slice t1) b03), (.agg [(.v (.slice (.int .i64)) b04), (.v (.slice .bool) b05), (.v (.int .i64) b06)]), (.v (.slice t3) b07), (.agg [(.v (.slice (.int .i64)) b08), (.v (.slice (.int .i64)) b09), (.v (.int .i64) b010), (.v (.int .i64) b011)])])))], 1, []⟩
noncomputable def table_Check.L1 (b0 : Int) (b02 : (List Int)) (b03 : (List t1.den)) (b04 : (List Int)) (b05 : (List Bool)) (b06 : Int) (b07 : (List t3.den)) (b08 : (List Int)) (b09 : (List Int)) (b010 : Int) (b011 : Int) : Option (Int × Unit) := res table_Check.c (atJoin table_Check.b [1, 1, 1, 0, 1]) (table_Check.S1 b0 b02 b03 b04 b05 b06 b07 b08 b09 b010 b011)
noncomputable def table_Check.S2 (b0 : Int) (b02 : (List Int)) (b03 : (List t1.den)) (b04 : (List Int)) (b05 : (List Bool)) (b06 : Int) (b07 : (List t3.den)) (b08 : (List Int)) (b09 : (List Int)) (b010 : Int) (b011 : Int) (l1 : (List Int)) : St := ⟨[(1, (.ptr 0 [])), (5, (.sl 1))], [(0, some (.box (.agg [(.v (.int .i64) b0), (.v (.slice (.int .u32)) b02), (.v (.slice t1) b03), (.agg [(.v (.slice (.int .i64)) b04), (.v (.slice .bool) b05), (.v (.int .i64) b06)]), (.v (.slice t3) b07), (.agg [(.v (.slice (.int .i64)) b08), (.v (.slice (.int .i64)) b09), (.v (.int .i64) b010), (.v (.int .i64) b011)])]))), (1, some (.row (.int .i64) l1 false))], 2, []⟩
noncomputable def table_Check.L2 (b0 : Int) (b02 : (List Int)) (b03 : (List t1.den)) (b04 : (List Int)) (b05 : (List Bool)) (b06 : Int) (b07 : (List t3.den)) (b08 : (List Int)) (b09 : (List Int)) (b010 : Int) (b011 : Int) (l1 : (List Int)) : Option (Int × Unit) := res table_Check.c (atJoin table_Check.b [1, 1, 1, 1, 1, 0, 1]) (table_Check.S2 b0 b02 b03 b04 b05 b06 b07 b08 b09 b010 b011 l1)
noncomputable def table_Check.S3 (used : Int) (t68_ : (List Bool)) (t69_ : Int) (t70_ : Int) (b0 : Int) (b02 : (List Int)) (b03 : (List t1.den)) (b04 : (List Int)) (b05 : Int) (b06 : (List t3.den)) (b07 : (List Int)) (b08 : (List Int)) (b09 : Int) (b010 : Int) (l1 : (List Int)) : St := ⟨[(1, (.ptr 0 [])), (5, (.sl 1)), (7, (.v (.int .i64) used)), (68, (.v (.slice .bool) t68_)), (69, (.v (.int .i64) t69_)), (70, (.v (.int .i64) t70_))], [(0, some (.box (.agg [(.v (.int .i64) b0), (.v (.slice (.int .u32)) b02), (.v (.slice t1) b03), (.agg [(.v (.slice (.int .i64)) b04), (.v (.slice .bool) t68_), (.v (.int .i64) b05)]), (.v (.slice t3) b06), (.agg [(.v (.slice (.int .i64)) b07), (.v (.slice (.int .i64)) b08), (.v (.int .i64) b09), (.v (.int .i64) b010)])]))), (1, some (.row (.int .i64) l1 false))], 2, []⟩
noncomputable def table_Check.L3 (used : Int) (t68_ : (List Bool)) (t69_ : Int) (t70_ : Int) (b0 : Int) (b02 : (List Int)) (b03 : (List t1.den)) (b04 : (List Int)) (b05 : Int) (b06 : (List t3.den)) (b07 : (List Int)) (b08 : (List Int)) (b09 : Int) (b010 : Int) (l1 : (List Int)) : Option (Int × Unit) := res table_Check.c (atLoop table_Check.b [1, 1, 1, 1, 1, 1, 1, 0, 1, 0]) (table_Check.S3 used t68_ t69_ t70_ b0 b02 b03 b04 b05 b06 b07 b08 b09 b010 l1)
noncomputable def table_Check.S4 (used : Int) (t68_ : (List Bool)) (t69_ : Int) (t70_ : Int) (b0 : Int) (b02 : (List Int)) (b03 : (List t1.den)) (b04 : (List Int)) (b05 : Int) (b06 : (List t3.den)) (b07 : (List Int)) (b08 : (List Int)) (b09 : Int) (b010 : Int) (l1 : (List Int)) : St := ⟨[(1, (.ptr 0 [])), (5, (.sl 1)), (7, (.v (.int .i64) used)), (68, (.v (.slice .bool) t68_)), (69, (.v (.int .i64) t69_)), (70, (.v (.int .i64) t70_))], [(0, some (.box (.agg [(.v (.int .i64) b0), (.v (.slice (.int .u32)) b02), (.v (.slice t1) b03), (.agg [(.v (.slice (.int .i64)) b04), (.v (.slice .bool) t68_), (.v (.int .i64) b05)]), (.v (.slice t3) b06), (.agg [(.v (.slice (.int .i64)) b07), (.v (.slice (.int .i64)) b08), (.v (.int .i64) b09), (.v (.int .i64) b010)])]))), (1, some (.row (.int .i64) l1 false))], 2, []⟩
noncomputable def table_Check.L4 (used : Int) (t68_ : (List Bool)) (t69_ : Int) (t70_ : Int) (b0 : Int) (b02 : (List Int)) (b03 : (List t1.den)) (b04 : (List Int)) (b05 : Int) (b06 : (List t3.den)) (b07 : (List Int)) (b08 : (List Int)) (b09 : Int) (b010 : Int) (l1 : (List Int)) : Option (Int × Unit) := res table_Check.c (atJoin table_Check.b [1, 1, 1, 1, 1, 1, 1, 0, 1, 0, 0, 1, 0]) (table_Check.S4 used t68_ t69_ t70_ b0 b02 b03 b04 b05 b06 b07 b08 b09 b010 l1)
noncomputable def table_Check.S5 (used : Int) (t134_ : (List t3.den)) (t135_ : Int) (t136_ : Int) : St := ⟨[(7, (.v (.int .i64) used)), (134, (.v (.slice t3) t134_)), (135, (.v (.int .i64) t135_)), (136, (.v (.int .i64) t136_))], [], 0, []⟩
noncomputable def table_Check.L5 (used : Int) (t134_ : (List t3.den)) (t135_ : Int) (t136_ : Int) : Option (Int × Unit) := res table_Check.c (atLoop table_Check.b [1, 1, 1, 1, 1, 1, 1, 1, 0, 1, 0]) (table_Check.S5 used t134_ t135_ t136_)
noncomputable def table_Check.S6 (used : Int) (t134_ : (List t3.den)) (t135_ : Int) (t136_ : Int) : St := ⟨[(7, (.v (.int .i64) used)), (134, (.v (.slice t3) t134_)), (135, (.v (.int .i64) t135_)), (136, (.v (.int .i64) t136_))], [], 0, []⟩
noncomputable def table_Check.L6 (used : Int) (t134_ : (List t3.den)) (t135_ : Int) (t136_ : Int) : Option (Int × Unit) := res table_Check.c (atJoin table_Check.b [1, 1, 1, 1, 1, 1, 1, 1, 0, 1, 0, 0, 1, 0]) (table_Check.S6 used t134_ t135_ t136_)
noncomputable def table_Check.S7 : St := ⟨[], [], 0, []⟩
noncomputable def table_Check.L7 : Option (Int × Unit) := res table_Check.c (atJoin table_Check.b [1, 1, 1, 1, 1, 1, 1, 1, 1, 0, 1]) (table_Check.S7)
noncomputable def table_Check.S8 (used : Int) (t134_ : (List t3.den)) (t135_ : Int) (t136_ : Int) : St := ⟨[(7, (.v (.int .i64) used)), (134, (.v (.slice t3) t134_)), (135, (.v (.int .i64) t135_)), (136, (.v (.int .i64) t136_))], [], 0, []⟩
noncomputable def table_Check.L8 (used : Int) (t134_ : (List t3.den)) (t135_ : Int) (t136_ : Int) : Option (Int × Unit) := res table_Check.c (atJoin table_Check.b [1, 1, 1, 1, 1, 1, 1, 1, 0, 1, 0, 0, 1, 1, 0, 0, 1, 1]) (table_Check.S8 used t134_ t135_ t136_)
noncomputable def table_Check.S9 (used : Int) (i : Int) (is_ : Bool) (t68_ : (List Bool)) (t69_ : Int) (b0 : Int) (b02 : (List Int)) (b03 : (List t1.den)) (b04 : (List Int)) (b05 : Int) (b06 : (List t3.den)) (b07 : (List Int)) (b08 : (List Int)) (b09 : Int) (b010 : Int) (l1 : (List Int)) : St := ⟨[(1, (.ptr 0 [])), (5, (.sl 1)), (7, (.v (.int .i64) used)), (8, (.v (.int .i64) i)), (9, (.v .bool is_)), (68, (.v (.slice .bool) t68_)), (69, (.v (.int .i64) t69_)), (70, (.v (.int .i64) i))], [(0, some (.box (.agg [(.v (.int .i64) b0), (.v (.slice (.int .u32)) b02), (.v (.slice t1) b03), (.agg [(.v (.slice (.int .i64)) b04), (.v (.slice .bool) t68_), (.v (.int .i64) b05)]), (.v (.slice t3) b06), (.agg [(.v (.slice (.int .i64)) b07), (.v (.slice (.int .i64)) b08), (.v (.int .i64) b09), (.v (.int .i64) b010)])]))), (1, some (.row (.int .i64) l1 false))], 2, []⟩
noncomputable def table_Check.L9 (used : Int) (i : Int) (is_ : Bool) (t68_ : (List Bool)) (t69_ : Int) (b0 : Int) (b02 : (List Int)) (b03 : (List t1.den)) (b04 : (List Int)) (b05 : Int) (b06 : (List t3.den)) (b07 : (List Int)) (b08 : (List Int)) (b09 : Int) (b010 : Int) (l1 : (List Int)) : Option (Int × Unit) := res table_Check.c (atJoin table_Check.b [1, 1, 1, 1, 1, 1, 1, 0, 1, 0, 0, 1, 1, 0, 0, 1, 0, 1]) (table_Check.S9 used i is_ t68_ t69_ b0 b02 b03 b04 b05 b06 b07 b08 b09 b010 l1)
noncomputable def table_Check.S10 (used : Int) (i : Int) (t68_ : (List Bool)) (t69_ : Int) (b0 : Int) (b02 : (List Int)) (b03 : (List t1.den)) (b04 : (List Int)) (b05 : Int) (b06 : (List t3.den)) (b07 : (List Int)) (b08 : (List Int)) (b09 : Int) (b010 : Int) (l1 : (List Int)) : St := ⟨[(1, (.ptr 0 [])), (5, (.sl 1)), (7, (.v (.int .i64) used)), (8, (.v (.int .i64) i)), (68, (.v (.slice .bool) t68_)), (69, (.v (.int .i64) t69_)), (70, (.v (.int .i64) i))], [(0, some (.box (.agg [(.v (.int .i64) b0), (.v (.slice (.int .u32)) b02), (.v (.slice t1) b03), (.agg [(.v (.slice (.int .i64)) b04), (.v (.slice .bool) t68_), (.v (.int .i64) b05)]), (.v (.slice t3) b06), (.agg [(.v (.slice (.int .i64)) b07), (.v (.slice (.int .i64)) b08), (.v (.int .i64) b09), (.v (.int .i64) b010)])]))), (1, some (.row (.int .i64) l1 false))], 2, []⟩
noncomputable def table_Check.L10 (used : Int) (i : Int) (t68_ : (List Bool)) (t69_ : Int) (b0 : Int) (b02 : (List Int)) (b03 : (List t1.den)) (b04 : (List Int)) (b05 : Int) (b06 : (List t3.den)) (b07 : (List Int)) (b08 : (List Int)) (b09 : Int) (b010 : Int) (l1 : (List Int)) : Option (Int × Unit) := res table_Check.c (atJoin table_Check.b [1, 1, 1, 1, 1, 1, 1, 0, 1, 0, 0, 1, 1, 0, 0, 1, 1, 0, 1]) (table_Check.S10 used i t68_ t69_ b0 b02 b03 b04 b05 b06 b07 b08 b09 b010 l1)
noncomputable def table_Check.S11 (used : Int) (t68_ : (List Bool)) (t69_ : Int) (t70_ : Int) (b0 : Int) (b02 : (List Int)) (b03 : (List t1.den)) (b04 : (List Int)) (b05 : Int) (b06 : (List t3.den)) (b07 : (List Int)) (b08 : (List Int)) (b09 : Int) (b010 : Int) (l1 : (List Int)) : St := ⟨[(1, (.ptr 0 [])), (5, (.sl 1)), (7, (.v (.int .i64) used)), (68, (.v (.slice .bool) t68_)), (69, (.v (.int .i64) t69_)), (70, (.v (.int .i64) t70_))], [(0, some (.box (.agg [(.v (.int .i64) b0), (.v (.slice (.int .u32)) b02), (.v (.slice t1) b03), (.agg [(.v (.slice (.int .i64)) b04), (.v (.slice .bool) t68_), (.v (.int .i64) b05)]), (.v (.slice t3) b06), (.agg [(.v (.slice (.int .i64)) b07), (.v (.slice (.int .i64)) b08), (.v (.int .i64) b09), (.v (.int .i64) b010)])]))), (1, some (.row (.int .i64) l1 false))], 2, []⟩
noncomputable def table_Check.L11 (used : Int) (t68_ : (List Bool)) (t69_ : Int) (t70_ : Int) (b0 : Int) (b02 : (List Int)) (b03 : (List t1.den)) (b04 : (List Int)) (b05 : Int) (b06 : (List t3.den)) (b07 : (List Int)) (b08 : (List Int)) (b09 : Int) (b010 : Int) (l1 : (List Int)) : Option (Int × Unit) := res table_Check.c (atJoin table_Check.b [1, 1, 1, 1, 1, 1, 1, 0, 1, 0, 0, 1, 1, 0, 0, 1, 1, 1, 1, 1, 1]) (table_Check.S11 used t68_ t69_ t70_ b0 b02 b03 b04 b05 b06 b07 b08 b09 b010 l1)
theorem table_Check.spec : FnSpec Try.prog globs 70 table_Check.Fn := spec_of (E := table_Check.E) (envOk_at tabOk eqOk primsOk (.cons bucket_Check.spec <| .cons lru_List.spec <| .cons arena_Check.spec <| .cons probe_Check.spec <| .cons slices_Contains.spec <| .cons probe_Find.spec <| .nil)) mixOk Try.func70 (by kernel_rfl)
theorem table_Check.L1_eq (b0 : Int) (b02 : (List Int)) (b03 : (List t1.den)) (b04 : (List Int)) (b05 : (List Bool)) (b06 : Int) (b07 : (List t3.den)) (b08 : (List Int)) (b09 : (List Int)) (b010 : Int) (b011 : Int) : table_Check.L1 b0 b02 b03 b04 b05 b06 b07 b08 b09 b010 b011 =
  (lru_List.F (b08, b09, b010, b011, ())).bind fun r0 =>
  bif (r0.2.1 != 0) then
    some (8, ())
  else
    table_Check.L2 b0 b02 b03 b04 b05 b06 b07 b08 b09 b010 b011 r0.1 := res_eq (by kernel_rfl)
theorem table_Check.L2_eq (b0 : Int) (b02 : (List Int)) (b03 : (List t1.den)) (b04 : (List Int)) (b05 : (List Bool)) (b06 : Int) (b07 : (List t3.den)) (b08 : (List Int)) (b09 : (List Int)) (b010 : Int) (b011 : Int) (l1 : (List Int)) : table_Check.L2 b0 b02 b03 b04 b05 b06 b07 b08 b09 b010 b011 l1 =
  table_Check.L3 0 b05 ((List.length b05 : Int)) 0 b0 b02 b03 b04 b06 b07 b08 b09 b010 b011 l1 := res_eq (by kernel_rfl)
theorem table_Check.L3_eq (used : Int) (t68_ : (List Bool)) (t69_ : Int) (t70_ : Int) (b0 : Int) (b02 : (List Int)) (b03 : (List t1.den)) (b04 : (List Int)) (b05 : Int) (b06 : (List t3.den)) (b07 : (List Int)) (b08 : (List Int)) (b09 : Int) (b010 : Int) (l1 : (List Int)) : table_Check.L3 used t68_ t69_ t70_ b0 b02 b03 b04 b05 b06 b07 b08 b09 b010 l1 =
  bif (decide ((t70_ : Int) < t69_)) then
    table_Check.L4 used t68_ t69_ t70_ b0 b02 b03 b04 b05 b06 b07 b08 b09 b010 l1
  else
    table_Check.L5 used b06 ((List.length b06 : Int)) 0 := res_eq (by kernel_rfl)
theorem table_Check.L4_eq (used : Int) (t68_ : (List Bool)) (t69_ : Int) (t70_ : Int) (b0 : Int) (b02 : (List Int)) (b03 : (List t1.den)) (b04 : (List Int)) (b05 : Int) (b06 : (List t3.den)) (b07 : (List Int)) (b08 : (List Int)) (b09 : Int) (b010 : Int) (l1 : (List Int)) : table_Check.L4 used t68_ t69_ t70_ b0 b02 b03 b04 b05 b06 b07 b08 b09 b010 l1 =
  bif (decide ((0 : Int) ≤ t70_ ∧ (t70_ : Int) < ((List.length t68_ : Int)))) then
    (slices_Contains.F l1 t70_).bind fun r0 =>
    bif (!((List.getD t68_ (Int.toNat t70_) false) == r0.1)) then
      some (8, ())
    else
      bif (!(List.getD t68_ (Int.toNat t70_) false)) then
        bif (decide ((0 : Int) ≤ t70_ ∧ (t70_ : Int) < ((List.length b02 : Int)))) then
          bif ((List.getD b02 (Int.toNat t70_) 0) != 0) then
            some (8, ())
          else
            bif (decide ((0 : Int) ≤ t70_ ∧ (t70_ : Int) < ((List.length b03 : Int)))) then
              bif (!(Ty.beq t1 (List.getD b03 (Int.toNat t70_) ((0, 0, 0, ()), 0, 0, 0, ())) ((0, 0, 0, ()), 0, 0, 0, ()))) then
                some (8, ())
              else
                table_Check.L9 used t70_ (List.getD t68_ (Int.toNat t70_) false) t68_ t69_ b0 b02 b03 b04 b05 b06 b07 b08 b09 b010 l1
            else none
        else none
      else
        table_Check.L9 used t70_ (List.getD t68_ (Int.toNat t70_) false) t68_ t69_ b0 b02 b03 b04 b05 b06 b07 b08 b09 b010 l1
  else none := res_eq (by kernel_rfl)
theorem table_Check.L5_eq (used : Int) (t134_ : (List t3.den)) (t135_ : Int) (t136_ : Int) : table_Check.L5 used t134_ t135_ t136_ =
  bif (decide ((t136_ : Int) < t135_)) then
    table_Check.L6 used t134_ t135_ t136_
  else
    bif (used != 0) then
      some (8, ())
    else
      table_Check.L7 := res_eq (by kernel_rfl)
theorem table_Check.L6_eq (used : Int) (t134_ : (List t3.den)) (t135_ : Int) (t136_ : Int) : table_Check.L6 used t134_ t135_ t136_ =
  bif (decide ((0 : Int) ≤ t136_ ∧ (t136_ : Int) < ((List.length t134_ : Int)))) then
    bif (((List.getD t134_ (Int.toNat t136_) (0, 0, false, ())).2).2).1 then
      table_Check.L8 (IntKind.wrap .i64 (used - 1)) t134_ t135_ t136_
    else
      table_Check.L8 used t134_ t135_ t136_
  else none := res_eq (by kernel_rfl)
theorem table_Check.L7_eq : table_Check.L7 =
  some (0, ()) := res_eq (by kernel_rfl)
theorem table_Check.L8_eq (used : Int) (t134_ : (List t3.den)) (t135_ : Int) (t136_ : Int) : table_Check.L8 used t134_ t135_ t136_ =
  table_Check.L5 used t134_ t135_ (IntKind.wrap .i64 (t136_ + 1)) := res_eq (by kernel_rfl)
theorem table_Check.L9_eq (used : Int) (i : Int) (is_ : Bool) (t68_ : (List Bool)) (t69_ : Int) (b0 : Int) (b02 : (List Int)) (b03 : (List t1.den)) (b04 : (List Int)) (b05 : Int) (b06 : (List t3.den)) (b07 : (List Int)) (b08 : (List Int)) (b09 : Int) (b010 : Int) (l1 : (List Int)) : table_Check.L9 used i is_ t68_ t69_ b0 b02 b03 b04 b05 b06 b07 b08 b09 b010 l1 =
  bif (!is_) then
    table_Check.L3 used t68_ t69_ (IntKind.wrap .i64 (i + 1)) b0 b02 b03 b04 b05 b06 b07 b08 b09 b010 l1
  else
    table_Check.L10 used i t68_ t69_ b0 b02 b03 b04 b05 b06 b07 b08 b09 b010 l1 := res_eq (by kernel_rfl)
theorem table_Check.L10_eq (used : Int) (i : Int) (t68_ : (List Bool)) (t69_ : Int) (b0 : Int) (b02 : (List Int)) (b03 : (List t1.den)) (b04 : (List Int)) (b05 : Int) (b06 : (List t3.den)) (b07 : (List Int)) (b08 : (List Int)) (b09 : Int) (b010 : Int) (l1 : (List Int)) : table_Check.L10 used i t68_ t69_ b0 b02 b03 b04 b05 b06 b07 b08 b09 b010 l1 =
  bif (decide ((0 : Int) ≤ i ∧ (i : Int) < ((List.length b02 : Int)))) then
    (probe_Find.F b06 (List.getD b02 (Int.toNat i) 0)).bind fun r0 =>
    bif (r0.2.1 != 0) then
      some (8, ())
    else
      bif (r0.1 != i) then
        some (8, ())
      else
        bif (decide ((0 : Int) ≤ i ∧ (i : Int) < ((List.length b03 : Int)))) then
          (bucket_Check.F (List.getD b03 (Int.toNat i) ((0, 0, 0, ()), 0, 0, 0, ()))).bind fun r1 =>
          bif (r1.1 != 0) then
            some (8, ())
          else
            table_Check.L11 (IntKind.wrap .i64 (used + 1)) t68_ t69_ i b0 b02 b03 b04 b05 b06 b07 b08 b09 b010 l1
        else none
  else none := res_eq (by kernel_rfl)
theorem table_Check.L11_eq (used : Int) (t68_ : (List Bool)) (t69_ : Int) (t70_ : Int) (b0 : Int) (b02 : (List Int)) (b03 : (List t1.den)) (b04 : (List Int)) (b05 : Int) (b06 : (List t3.den)) (b07 : (List Int)) (b08 : (List Int)) (b09 : Int) (b010 : Int) (l1 : (List Int)) : table_Check.L11 used t68_ t69_ t70_ b0 b02 b03 b04 b05 b06 b07 b08 b09 b010 l1 =
  table_Check.L3 used t68_ t69_ (IntKind.wrap .i64 (t70_ + 1)) b0 b02 b03 b04 b05 b06 b07 b08 b09 b010 l1 := res_eq (by kernel_rfl)
theorem table_Check.F_eq (t : t5.den) : table_Check.F t =
  bif (decide ((t.1 : Int) < 1)) then
    some (8, ())
  else
    bif (decide ((t.1 : Int) > 8)) then
      some (8, ())
    else
      bif (!(Ty.beq (.arr 4 (.int .i64)) ([((List.length t.2.1 : Int)), ((List.length t.2.2.1 : Int)), ((List.length t.2.2.2.1.1 : Int)), ((List.length t.2.2.2.2.2.1.1 : Int))] : List Int) ([t.1, t.1, t.1, t.1] : List Int))) then
        some (8, ())
      else
        (arena_Check.F t.2.2.2.1).bind fun r0 =>
        bif (r0.1 != 0) then
          some (8, ())
        else
          (probe_Check.F t.2.2.2.2.1).bind fun r1 =>
          bif (r1.1 != 0) then
            some (8, ())
          else
            table_Check.L1 t.1 t.2.1 t.2.2.1 t.2.2.2.1.1 t.2.2.2.1.2.1 t.2.2.2.1.2.2.1 t.2.2.2.2.1 t.2.2.2.2.2.1.1 t.2.2.2.2.2.1.2.1 t.2.2.2.2.2.1.2.2.1 t.2.2.2.2.2.1.2.2.2.1 := by kernel_rfl
end Go.Proofs.Ytkihjakbbcajbaa.PM
