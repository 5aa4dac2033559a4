/- Contracts and equations of the functions, printed by a program of this session. -/
import Derived.Test.YtjmgelpeonodgaaChk
namespace Go.Proofs.Ytjmgelpeonodgaa.PM
open Go Go.Proofs
set_option linter.unusedVariables false
/-! ### spigot/registry.Check (26) -/
noncomputable def registry_Check.sg : Sig := ⟨[.val (.slice t7)], [((.int .i64), true)]⟩
noncomputable def registry_Check.E : Env := ⟨tl, fun i => look i [(32, part_Check.Fn)], [], eqs, globs, prims⟩
noncomputable def registry_Check.c := cxOf registry_Check.E registry_Check.sg Try.f26
noncomputable def registry_Check.b := body Try.f26
noncomputable def registry_Check.Fn : Fun := fnOf registry_Check.E registry_Check.sg Try.f26
noncomputable def registry_Check.F (l : (List t7.den)) : Option (Int × Unit) := registry_Check.Fn.F (l, ())
noncomputable def registry_Check.S1 (l : (List t7.den)) : St := ⟨[(0, (.v (.slice t7) l))], [], 0, []⟩
noncomputable def registry_Check.L1 (l : (List t7.den)) : Option (Int × Unit) := res registry_Check.c (atJoin registry_Check.b [1, 0, 1]) (registry_Check.S1 l)
noncomputable def registry_Check.S2 (l : (List t7.den)) (t9_ : Int) (t10_ : Int) : St := ⟨[(0, (.v (.slice t7) l)), (8, (.v (.slice t7) l)), (9, (.v (.int .i64) t9_)), (10, (.v (.int .i64) t10_))], [], 0, []⟩
noncomputable def registry_Check.L2 (l : (List t7.den)) (t9_ : Int) (t10_ : Int) : Option (Int × Unit) := res registry_Check.c (atLoop registry_Check.b [1, 1, 0, 1, 0]) (registry_Check.S2 l t9_ t10_)
noncomputable def registry_Check.S3 (l : (List t7.den)) (t9_ : Int) (t10_ : Int) : St := ⟨[(0, (.v (.slice t7) l)), (8, (.v (.slice t7) l)), (9, (.v (.int .i64) t9_)), (10, (.v (.int .i64) t10_))], [], 0, []⟩
noncomputable def registry_Check.L3 (l : (List t7.den)) (t9_ : Int) (t10_ : Int) : Option (Int × Unit) := res registry_Check.c (atJoin registry_Check.b [1, 1, 0, 1, 0, 0, 1, 0]) (registry_Check.S3 l t9_ t10_)
noncomputable def registry_Check.S4 (l : (List t7.den)) (t9_ : Int) (t10_ : Int) : St := ⟨[(0, (.v (.slice t7) l)), (8, (.v (.slice t7) l)), (9, (.v (.int .i64) t9_)), (10, (.v (.int .i64) t10_))], [], 0, []⟩
noncomputable def registry_Check.L4 (l : (List t7.den)) (t9_ : Int) (t10_ : Int) : Option (Int × Unit) := res registry_Check.c (atJoin registry_Check.b [1, 1, 0, 1, 0, 0, 1, 1, 0, 0, 1, 1]) (registry_Check.S4 l t9_ t10_)
theorem registry_Check.spec : FnSpec Try.prog globs 26 registry_Check.Fn := spec_of (E := registry_Check.E) (envOk_at tabOk eqOk primsOk (.cons part_Check.spec <| .nil)) mixOk Try.func26 (by kernel_rfl)
theorem registry_Check.L1_eq (l : (List t7.den)) : registry_Check.L1 l =
  registry_Check.L2 l ((List.length l : Int)) 0 := res_eq (by kernel_rfl)
theorem registry_Check.L2_eq (l : (List t7.den)) (t9_ : Int) (t10_ : Int) : registry_Check.L2 l t9_ t10_ =
  bif (decide ((t10_ : Int) < t9_)) then
    registry_Check.L3 l t9_ t10_
  else
    some (0, ()) := res_eq (by kernel_rfl)
theorem registry_Check.L3_eq (l : (List t7.den)) (t9_ : Int) (t10_ : Int) : registry_Check.L3 l t9_ t10_ =
  bif (decide ((0 : Int) ≤ t10_ ∧ (t10_ : Int) < ((List.length l : Int)))) then
    (part_Check.F (List.getD l (Int.toNat t10_) (0, (List.replicate 3 (0, 0, 0, ())), ((0, 0, 0, ()), 0, 0, 0, ()), (0, ([] : List Int), ([] : List t1.den), (([] : List Int), ([] : List Bool), 0, ()), ([] : List t3.den), (([] : List Int), ([] : List Int), 0, 0, ()), ()), (0, ([] : List Int), ([] : List t1.den), (([] : List Int), ([] : List Bool), 0, ()), ([] : List t3.den), (([] : List Int), ([] : List Int), 0, 0, ()), ()), ([] : List Int), (0, 0, 0, ()), ()))).bind fun r0 =>
    bif (r0.1 != 0) then
      some (8, ())
    else
      bif (decide ((t10_ : Int) > 0)) then
        bif (decide ((0 : Int) ≤ (IntKind.wrap .i64 (t10_ - 1)) ∧ ((IntKind.wrap .i64 (t10_ - 1)) : Int) < ((List.length l : Int)))) then
          bif (decide ((((List.getD l (Int.toNat (IntKind.wrap .i64 (t10_ - 1))) (0, (List.replicate 3 (0, 0, 0, ())), ((0, 0, 0, ()), 0, 0, 0, ()), (0, ([] : List Int), ([] : List t1.den), (([] : List Int), ([] : List Bool), 0, ()), ([] : List t3.den), (([] : List Int), ([] : List Int), 0, 0, ()), ()), (0, ([] : List Int), ([] : List t1.den), (([] : List Int), ([] : List Bool), 0, ()), ([] : List t3.den), (([] : List Int), ([] : List Int), 0, 0, ()), ()), ([] : List Int), (0, 0, 0, ()), ())).1) : Int) ≥ ((List.getD l (Int.toNat t10_) (0, (List.replicate 3 (0, 0, 0, ())), ((0, 0, 0, ()), 0, 0, 0, ()), (0, ([] : List Int), ([] : List t1.den), (([] : List Int), ([] : List Bool), 0, ()), ([] : List t3.den), (([] : List Int), ([] : List Int), 0, 0, ()), ()), (0, ([] : List Int), ([] : List t1.den), (([] : List Int), ([] : List Bool), 0, ()), ([] : List t3.den), (([] : List Int), ([] : List Int), 0, 0, ()), ()), ([] : List Int), (0, 0, 0, ()), ())).1))) then
            some (8, ())
          else
            registry_Check.L4 l t9_ t10_
        else none
      else
        registry_Check.L4 l t9_ t10_
  else none := res_eq (by kernel_rfl)
theorem registry_Check.L4_eq (l : (List t7.den)) (t9_ : Int) (t10_ : Int) : registry_Check.L4 l t9_ t10_ =
  registry_Check.L2 l t9_ (IntKind.wrap .i64 (t10_ + 1)) := res_eq (by kernel_rfl)
theorem registry_Check.F_eq (l : (List t7.den)) : registry_Check.F l =
  bif (decide ((((List.length l : Int)) : Int) > 8)) then
    some (4, ())
  else
    registry_Check.L1 l := by kernel_rfl
/-! ### cmp.isNaN[uint32] (81) -/
noncomputable def cmp_isNaN.sg : Sig := ⟨[.val (.int .u32)], [(.bool, true)]⟩
noncomputable def cmp_isNaN.E : Env := ⟨tl, fun i => look i [], [], eqs, globs, prims⟩
noncomputable def cmp_isNaN.c := cxOf cmp_isNaN.E cmp_isNaN.sg Try.f81
noncomputable def cmp_isNaN.b := body Try.f81
noncomputable def cmp_isNaN.Fn : Fun := fnOf cmp_isNaN.E cmp_isNaN.sg Try.f81
noncomputable def cmp_isNaN.F (x : Int) : Option (Bool × Unit) := cmp_isNaN.Fn.F (x, ())
theorem cmp_isNaN.spec : FnSpec Try.prog globs 81 cmp_isNaN.Fn := spec_of (E := cmp_isNaN.E) (envOk_at tabOk eqOk primsOk (.nil)) mixOk Try.func81 (by kernel_rfl)
theorem cmp_isNaN.F_eq (x : Int) : cmp_isNaN.F x =
  some ((x != x), ()) := by kernel_rfl
/-! ### cmp.Compare[uint32] (53) -/
noncomputable def cmp_Compare.sg : Sig := ⟨[.val (.int .u32), .val (.int .u32)], [((.int .i64), true)]⟩
noncomputable def cmp_Compare.E : Env := ⟨tl, fun i => look i [(81, cmp_isNaN.Fn)], [], eqs, globs, prims⟩
noncomputable def cmp_Compare.c := cxOf cmp_Compare.E cmp_Compare.sg Try.f53
noncomputable def cmp_Compare.b := body Try.f53
noncomputable def cmp_Compare.Fn : Fun := fnOf cmp_Compare.E cmp_Compare.sg Try.f53
noncomputable def cmp_Compare.F (x : Int) (y : Int) : Option (Int × Unit) := cmp_Compare.Fn.F (x, y, ())
noncomputable def cmp_Compare.S1 : St := ⟨[], [], 0, []⟩
noncomputable def cmp_Compare.L1 : Option (Int × Unit) := res cmp_Compare.c (atJoin cmp_Compare.b [1, 1, 1, 0, 1, 0, 0, 1]) (cmp_Compare.S1)
noncomputable def cmp_Compare.S2 (x : Int) (y : Int) (yNaN : Bool) : St := ⟨[(0, (.v (.int .u32) x)), (1, (.v (.int .u32) y)), (6, (.v .bool yNaN))], [], 0, []⟩
noncomputable def cmp_Compare.L2 (x : Int) (y : Int) (yNaN : Bool) : Option (Int × Unit) := res cmp_Compare.c (atJoin cmp_Compare.b [1, 1, 1, 0, 1]) (cmp_Compare.S2 x y yNaN)
noncomputable def cmp_Compare.S3 (x : Int) (y : Int) : St := ⟨[(0, (.v (.int .u32) x)), (1, (.v (.int .u32) y))], [], 0, []⟩
noncomputable def cmp_Compare.L3 (x : Int) (y : Int) : Option (Int × Unit) := res cmp_Compare.c (atJoin cmp_Compare.b [1, 1, 1, 1, 0, 1]) (cmp_Compare.S3 x y)
noncomputable def cmp_Compare.S4 (x : Int) (y : Int) : St := ⟨[(0, (.v (.int .u32) x)), (1, (.v (.int .u32) y))], [], 0, []⟩
noncomputable def cmp_Compare.L4 (x : Int) (y : Int) : Option (Int × Unit) := res cmp_Compare.c (atJoin cmp_Compare.b [1, 1, 1, 1, 1, 0, 1]) (cmp_Compare.S4 x y)
noncomputable def cmp_Compare.S5 : St := ⟨[], [], 0, []⟩
noncomputable def cmp_Compare.L5 : Option (Int × Unit) := res cmp_Compare.c (atJoin cmp_Compare.b [1, 1, 1, 1, 1, 1, 0, 1]) (cmp_Compare.S5)
theorem cmp_Compare.spec : FnSpec Try.prog globs 53 cmp_Compare.Fn := spec_of (E := cmp_Compare.E) (envOk_at tabOk eqOk primsOk (.cons cmp_isNaN.spec <| .nil)) mixOk Try.func53 (by kernel_rfl)
theorem cmp_Compare.L1_eq : cmp_Compare.L1 =
  some ((-1), ()) := res_eq (by kernel_rfl)
theorem cmp_Compare.L2_eq (x : Int) (y : Int) (yNaN : Bool) : cmp_Compare.L2 x y yNaN =
  bif yNaN then
    some (1, ())
  else
    cmp_Compare.L3 x y := res_eq (by kernel_rfl)
theorem cmp_Compare.L3_eq (x : Int) (y : Int) : cmp_Compare.L3 x y =
  bif (decide ((x : Int) < y)) then
    some ((-1), ())
  else
    cmp_Compare.L4 x y := res_eq (by kernel_rfl)
theorem cmp_Compare.L4_eq (x : Int) (y : Int) : cmp_Compare.L4 x y =
  bif (decide ((x : Int) > y)) then
    some (1, ())
  else
    cmp_Compare.L5 := res_eq (by kernel_rfl)
theorem cmp_Compare.L5_eq : cmp_Compare.L5 =
  some (0, ()) := res_eq (by kernel_rfl)
theorem cmp_Compare.F_eq (x : Int) (y : Int) : cmp_Compare.F x y =
  (cmp_isNaN.F x).bind fun r0 =>
  (cmp_isNaN.F y).bind fun r1 =>
  bif r0.1 then
    bif r1.1 then
      some (0, ())
    else
      cmp_Compare.L1
  else
    cmp_Compare.L2 x y r1.1 := by kernel_rfl
/-! ### spigot/registry.find$1 (52) -/
noncomputable def registry_find_1.sg : Sig := ⟨[.val t7, .val (.int .u32)], [((.int .i64), true)]⟩
noncomputable def registry_find_1.E : Env := ⟨tl, fun i => look i [(53, cmp_Compare.Fn)], [], eqs, globs, prims⟩
noncomputable def registry_find_1.c := cxOf registry_find_1.E registry_find_1.sg Try.f52
noncomputable def registry_find_1.b := body Try.f52
noncomputable def registry_find_1.Fn : Fun := fnOf registry_find_1.E registry_find_1.sg Try.f52
noncomputable def registry_find_1.F (p : t7.den) (t : Int) : Option (Int × Unit) := registry_find_1.Fn.F (p, t, ())
theorem registry_find_1.spec : FnSpec Try.prog globs 52 registry_find_1.Fn := spec_of (E := registry_find_1.E) (envOk_at tabOk eqOk primsOk (.cons cmp_Compare.spec <| .nil)) mixOk Try.func52 (by kernel_rfl)
theorem registry_find_1.F_eq (p : t7.den) (t : Int) : registry_find_1.F p t =
  (cmp_Compare.F p.1 t).bind fun r0 =>
  some (r0.1, ()) := by kernel_rfl
/-! ### slices.BinarySearchFunc[[]spigot/api.Part,spigot/api.Part,uint32] (51) -/
noncomputable def slices_BinarySearchFunc.sg : Sig := ⟨[.val (.slice t7), .val (.int .u32), .fn 52], [((.int .i64), true), (.bool, true)]⟩
noncomputable def slices_BinarySearchFunc.E : Env := ⟨tl, fun i => look i [(52, registry_find_1.Fn)], [], eqs, globs, prims⟩
noncomputable def slices_BinarySearchFunc.c := cxOf slices_BinarySearchFunc.E slices_BinarySearchFunc.sg Try.f51
noncomputable def slices_BinarySearchFunc.b := body Try.f51
noncomputable def slices_BinarySearchFunc.Fn : Fun := fnOf slices_BinarySearchFunc.E slices_BinarySearchFunc.sg Try.f51
noncomputable def slices_BinarySearchFunc.F (x : (List t7.den)) (target : Int) : Option (Int × Bool × Unit) := slices_BinarySearchFunc.Fn.F (x, target, ())
noncomputable def slices_BinarySearchFunc.S1 (x : (List t7.den)) (target : Int) (n : Int) (i : Int) (j : Int) : St := ⟨[(0, (.v (.slice t7) x)), (1, (.v (.int .u32) target)), (2, (.fn 52 [])), (8, (.v (.int .i64) n)), (9, (.v (.int .i64) i)), (10, (.v (.int .i64) j))], [], 0, []⟩
noncomputable def slices_BinarySearchFunc.L1 (x : (List t7.den)) (target : Int) (n : Int) (i : Int) (j : Int) : Option (Int × Bool × Unit) := res slices_BinarySearchFunc.c (atLoop slices_BinarySearchFunc.b [1, 1, 1, 0, 0]) (slices_BinarySearchFunc.S1 x target n i j)
noncomputable def slices_BinarySearchFunc.S2 (x : (List t7.den)) (target : Int) (n : Int) (i : Int) (j : Int) : St := ⟨[(0, (.v (.slice t7) x)), (1, (.v (.int .u32) target)), (2, (.fn 52 [])), (8, (.v (.int .i64) n)), (9, (.v (.int .i64) i)), (10, (.v (.int .i64) j))], [], 0, []⟩
noncomputable def slices_BinarySearchFunc.L2 (x : (List t7.den)) (target : Int) (n : Int) (i : Int) (j : Int) : Option (Int × Bool × Unit) := res slices_BinarySearchFunc.c (atJoin slices_BinarySearchFunc.b [1, 1, 1, 0, 0, 0, 0, 1]) (slices_BinarySearchFunc.S2 x target n i j)
noncomputable def slices_BinarySearchFunc.S3 (x : (List t7.den)) (target : Int) (n : Int) (i : Int) (j : Int) : St := ⟨[(0, (.v (.slice t7) x)), (1, (.v (.int .u32) target)), (2, (.fn 52 [])), (8, (.v (.int .i64) n)), (9, (.v (.int .i64) i)), (10, (.v (.int .i64) j))], [], 0, []⟩
noncomputable def slices_BinarySearchFunc.L3 (x : (List t7.den)) (target : Int) (n : Int) (i : Int) (j : Int) : Option (Int × Bool × Unit) := res slices_BinarySearchFunc.c (atJoin slices_BinarySearchFunc.b [1, 1, 1, 0, 0, 0, 1, 0, 1, 1]) (slices_BinarySearchFunc.S3 x target n i j)
theorem slices_BinarySearchFunc.spec : FnSpec Try.prog globs 51 slices_BinarySearchFunc.Fn := spec_of (E := slices_BinarySearchFunc.E) (envOk_at tabOk eqOk primsOk (.cons registry_find_1.spec <| .nil)) mixOk Try.func51 (by kernel_rfl)
theorem slices_BinarySearchFunc.L1_eq (x : (List t7.den)) (target : Int) (n : Int) (i : Int) (j : Int) : slices_BinarySearchFunc.L1 x target n i j =
  bif (decide ((i : Int) < j)) then
    slices_BinarySearchFunc.L2 x target n i j
  else
    bif (decide ((i : Int) < n)) then
      bif (decide ((0 : Int) ≤ i ∧ (i : Int) < ((List.length x : Int)))) then
        (registry_find_1.F (List.getD x (Int.toNat i) (0, (List.replicate 3 (0, 0, 0, ())), ((0, 0, 0, ()), 0, 0, 0, ()), (0, ([] : List Int), ([] : List t1.den), (([] : List Int), ([] : List Bool), 0, ()), ([] : List t3.den), (([] : List Int), ([] : List Int), 0, 0, ()), ()), (0, ([] : List Int), ([] : List t1.den), (([] : List Int), ([] : List Bool), 0, ()), ([] : List t3.den), (([] : List Int), ([] : List Int), 0, 0, ()), ()), ([] : List Int), (0, 0, 0, ()), ())) target).bind fun r0 =>
        some (i, (r0.1 == 0), ())
      else none
    else
      some (i, false, ()) := res_eq (by kernel_rfl)
theorem slices_BinarySearchFunc.L2_eq (x : (List t7.den)) (target : Int) (n : Int) (i : Int) (j : Int) : slices_BinarySearchFunc.L2 x target n i j =
  bif (decide ((0 : Int) ≤ 1)) then
    bif (decide ((0 : Int) ≤ (IntKind.wrap .i64 (Int.fdiv (IntKind.wrap .u64 (IntKind.wrap .i64 (i + j))) (2 ^ min (Int.toNat 1) (IntKind.bits .u64)))) ∧ ((IntKind.wrap .i64 (Int.fdiv (IntKind.wrap .u64 (IntKind.wrap .i64 (i + j))) (2 ^ min (Int.toNat 1) (IntKind.bits .u64)))) : Int) < ((List.length x : Int)))) then
      (registry_find_1.F (List.getD x (Int.toNat (IntKind.wrap .i64 (Int.fdiv (IntKind.wrap .u64 (IntKind.wrap .i64 (i + j))) (2 ^ min (Int.toNat 1) (IntKind.bits .u64))))) (0, (List.replicate 3 (0, 0, 0, ())), ((0, 0, 0, ()), 0, 0, 0, ()), (0, ([] : List Int), ([] : List t1.den), (([] : List Int), ([] : List Bool), 0, ()), ([] : List t3.den), (([] : List Int), ([] : List Int), 0, 0, ()), ()), (0, ([] : List Int), ([] : List t1.den), (([] : List Int), ([] : List Bool), 0, ()), ([] : List t3.den), (([] : List Int), ([] : List Int), 0, 0, ()), ()), ([] : List Int), (0, 0, 0, ()), ())) target).bind fun r0 =>
      bif (decide ((r0.1 : Int) < 0)) then
        slices_BinarySearchFunc.L3 x target n (IntKind.wrap .i64 ((IntKind.wrap .i64 (Int.fdiv (IntKind.wrap .u64 (IntKind.wrap .i64 (i + j))) (2 ^ min (Int.toNat 1) (IntKind.bits .u64)))) + 1)) j
      else
        slices_BinarySearchFunc.L3 x target n i (IntKind.wrap .i64 (Int.fdiv (IntKind.wrap .u64 (IntKind.wrap .i64 (i + j))) (2 ^ min (Int.toNat 1) (IntKind.bits .u64))))
    else none
  else none := res_eq (by kernel_rfl)
theorem slices_BinarySearchFunc.L3_eq (x : (List t7.den)) (target : Int) (n : Int) (i : Int) (j : Int) : slices_BinarySearchFunc.L3 x target n i j =
  slices_BinarySearchFunc.L1 x target n i j := res_eq (by kernel_rfl)
theorem slices_BinarySearchFunc.F_eq (x : (List t7.den)) (target : Int) : slices_BinarySearchFunc.F x target =
  slices_BinarySearchFunc.L1 x target ((List.length x : Int)) 0 ((List.length x : Int)) := by kernel_rfl
/-! ### spigot/registry.find (33) -/
noncomputable def registry_find.sg : Sig := ⟨[.val (.slice t7), .val (.int .u32)], [((.int .i64), true), (.bool, true)]⟩
noncomputable def registry_find.E : Env := ⟨tl, fun i => look i [(51, slices_BinarySearchFunc.Fn), (52, registry_find_1.Fn)], [], eqs, globs, prims⟩
noncomputable def registry_find.c := cxOf registry_find.E registry_find.sg Try.f33
noncomputable def registry_find.b := body Try.f33
noncomputable def registry_find.Fn : Fun := fnOf registry_find.E registry_find.sg Try.f33
noncomputable def registry_find.F (l : (List t7.den)) (tenant : Int) : Option (Int × Bool × Unit) := registry_find.Fn.F (l, tenant, ())
theorem registry_find.spec : FnSpec Try.prog globs 33 registry_find.Fn := spec_of (E := registry_find.E) (envOk_at tabOk eqOk primsOk (.cons slices_BinarySearchFunc.spec <| .cons registry_find_1.spec <| .nil)) mixOk Try.func33 (by kernel_rfl)
theorem registry_find.F_eq (l : (List t7.den)) (tenant : Int) : registry_find.F l tenant =
  (slices_BinarySearchFunc.F l tenant).bind fun r0 =>
  some (r0.1, r0.2.1, ()) := by kernel_rfl
/-! ### spigot/registry.Find (13) -/
noncomputable def registry_Find.sg : Sig := ⟨[.val (.slice t7), .val (.int .u32)], [((.int .i64), true), ((.int .i64), true)]⟩
noncomputable def registry_Find.E : Env := ⟨tl, fun i => look i [(26, registry_Check.Fn), (33, registry_find.Fn)], [], eqs, globs, prims⟩
noncomputable def registry_Find.c := cxOf registry_Find.E registry_Find.sg Try.f13
noncomputable def registry_Find.b := body Try.f13
noncomputable def registry_Find.Fn : Fun := fnOf registry_Find.E registry_Find.sg Try.f13
noncomputable def registry_Find.F (l : (List t7.den)) (tenant : Int) : Option (Int × Int × Unit) := registry_Find.Fn.F (l, tenant, ())
noncomputable def registry_Find.S1 (l : (List t7.den)) (tenant : Int) : St := ⟨[(0, (.v (.slice t7) l)), (1, (.v (.int .u32) tenant))], [], 0, []⟩
noncomputable def registry_Find.L1 (l : (List t7.den)) (tenant : Int) : Option (Int × Int × Unit) := res registry_Find.c (atJoin registry_Find.b [1, 0, 1, 1]) (registry_Find.S1 l tenant)
noncomputable def registry_Find.S2 (i : Int) : St := ⟨[(7, (.v (.int .i64) i))], [], 0, []⟩
noncomputable def registry_Find.L2 (i : Int) : Option (Int × Int × Unit) := res registry_Find.c (atJoin registry_Find.b [1, 1, 1, 0, 1]) (registry_Find.S2 i)
theorem registry_Find.spec : FnSpec Try.prog globs 13 registry_Find.Fn := spec_of (E := registry_Find.E) (envOk_at tabOk eqOk primsOk (.cons registry_Check.spec <| .cons registry_find.spec <| .nil)) mixOk Try.func13 (by kernel_rfl)
theorem registry_Find.L1_eq (l : (List t7.den)) (tenant : Int) : registry_Find.L1 l tenant =
  (registry_find.F l tenant).bind fun r0 =>
  bif (!r0.2.1) then
    some (0, 6, ())
  else
    registry_Find.L2 r0.1 := res_eq (by kernel_rfl)
theorem registry_Find.L2_eq (i : Int) : registry_Find.L2 i =
  some (i, 0, ()) := res_eq (by kernel_rfl)
theorem registry_Find.F_eq (l : (List t7.den)) (tenant : Int) : registry_Find.F l tenant =
  (registry_Check.F l).bind fun r0 =>
  bif (r0.1 != 0) then
    some (0, r0.1, ())
  else
    registry_Find.L1 l tenant := by kernel_rfl
/-! ### spigot/registry.twin (56) -/
noncomputable def registry_twin.sg : Sig := ⟨[.val t5], [(t5, true)]⟩
noncomputable def registry_twin.E : Env := ⟨tl, fun i => look i [], [], eqs, globs, prims⟩
noncomputable def registry_twin.c := cxOf registry_twin.E registry_twin.sg Try.f56
noncomputable def registry_twin.b := body Try.f56
noncomputable def registry_twin.Fn : Fun := fnOf registry_twin.E registry_twin.sg Try.f56
noncomputable def registry_twin.F (t : t5.den) : Option (t5.den × Unit) := registry_twin.Fn.F (t, ())
theorem registry_twin.spec : FnSpec Try.prog globs 56 registry_twin.Fn := spec_of (E := registry_twin.E) (envOk_at tabOk eqOk primsOk (.nil)) mixOk Try.func56 (by kernel_rfl)
theorem registry_twin.F_eq (t : t5.den) : registry_twin.F t =
  bif (lim (List.length t.2.1) (.int .u32)) then
    bif (lim (List.length t.2.2.1) t1) then
      bif (lim (List.length t.2.2.2.2.1) t3) then
        bif (lim (List.length t.2.2.2.1.1) (.int .i64)) then
          bif (lim (List.length t.2.2.2.1.2.1) .bool) then
            bif (lim (List.length t.2.2.2.2.2.1.1) (.int .i64)) then
              bif (lim (List.length t.2.2.2.2.2.1.2.1) (.int .i64)) then
                some (t, ())
              else none
            else none
          else none
        else none
      else none
    else none
  else none := by kernel_rfl
/-! ### spigot/registry.copied (35) -/
noncomputable def registry_copied.sg : Sig := ⟨[.val t7], [(t7, true)]⟩
noncomputable def registry_copied.E : Env := ⟨tl, fun i => look i [(56, registry_twin.Fn)], [], eqs, globs, prims⟩
noncomputable def registry_copied.c := cxOf registry_copied.E registry_copied.sg Try.f35
noncomputable def registry_copied.b := body Try.f35
noncomputable def registry_copied.Fn : Fun := fnOf registry_copied.E registry_copied.sg Try.f35
noncomputable def registry_copied.F (p : t7.den) : Option (t7.den × Unit) := registry_copied.Fn.F (p, ())
theorem registry_copied.spec : FnSpec Try.prog globs 35 registry_copied.Fn := spec_of (E := registry_copied.E) (envOk_at tabOk eqOk primsOk (.cons registry_twin.spec <| .nil)) mixOk Try.func35 (by kernel_rfl)
theorem registry_copied.F_eq (p : t7.den) : registry_copied.F p =
  (registry_twin.F p.2.2.2.1).bind fun r0 =>
  (registry_twin.F p.2.2.2.2.1).bind fun r1 =>
  bif (lim (List.length p.2.2.2.2.2.1) (.int .u32)) then
    some ((p.1, p.2.1, p.2.2.1, r0.1, r1.1, p.2.2.2.2.2.1, p.2.2.2.2.2.2.1, ()), ())
  else none := by kernel_rfl
/-! ### spigot/registry.all (31) -/
noncomputable def registry_all.sg : Sig := ⟨[.val (.slice t7)], [((.slice t7), true)]⟩
noncomputable def registry_all.E : Env := ⟨tl, fun i => look i [(35, registry_copied.Fn)], [], eqs, globs, prims⟩
noncomputable def registry_all.c := cxOf registry_all.E registry_all.sg Try.f31
noncomputable def registry_all.b := body Try.f31
noncomputable def registry_all.Fn : Fun := fnOf registry_all.E registry_all.sg Try.f31
noncomputable def registry_all.F (l : (List t7.den)) : Option ((List t7.den) × Unit) := registry_all.Fn.F (l, ())
noncomputable def registry_all.S1 (t6_ : (List t7.den)) (t7_ : Int) (t8_ : Int) (l0 : (List t7.den)) : St := ⟨[(3, (.sl 0)), (6, (.v (.slice t7) t6_)), (7, (.v (.int .i64) t7_)), (8, (.v (.int .i64) t8_))], [(0, some (.row t7 l0 false))], 1, []⟩
noncomputable def registry_all.L1 (t6_ : (List t7.den)) (t7_ : Int) (t8_ : Int) (l0 : (List t7.den)) : Option ((List t7.den) × Unit) := res registry_all.c (atLoop registry_all.b [1, 1, 0, 1, 0]) (registry_all.S1 t6_ t7_ t8_ l0)
noncomputable def registry_all.S2 (t6_ : (List t7.den)) (t7_ : Int) (t8_ : Int) (l0 : (List t7.den)) : St := ⟨[(3, (.sl 0)), (6, (.v (.slice t7) t6_)), (7, (.v (.int .i64) t7_)), (8, (.v (.int .i64) t8_))], [(0, some (.row t7 l0 false))], 1, []⟩
noncomputable def registry_all.L2 (t6_ : (List t7.den)) (t7_ : Int) (t8_ : Int) (l0 : (List t7.den)) : Option ((List t7.den) × Unit) := res registry_all.c (atJoin registry_all.b [1, 1, 0, 1, 0, 0, 1, 0]) (registry_all.S2 t6_ t7_ t8_ l0)
theorem registry_all.spec : FnSpec Try.prog globs 31 registry_all.Fn := spec_of (E := registry_all.E) (envOk_at tabOk eqOk primsOk (.cons registry_copied.spec <| .nil)) mixOk Try.func31 (by kernel_rfl)
theorem registry_all.L1_eq (t6_ : (List t7.den)) (t7_ : Int) (t8_ : Int) (l0 : (List t7.den)) : registry_all.L1 t6_ t7_ t8_ l0 =
  bif (decide ((t8_ : Int) < t7_)) then
    registry_all.L2 t6_ t7_ t8_ l0
  else
    some (l0, ()) := res_eq (by kernel_rfl)
theorem registry_all.L2_eq (t6_ : (List t7.den)) (t7_ : Int) (t8_ : Int) (l0 : (List t7.den)) : registry_all.L2 t6_ t7_ t8_ l0 =
  bif (decide ((0 : Int) ≤ t8_ ∧ (t8_ : Int) < ((List.length t6_ : Int)))) then
    (registry_copied.F (List.getD t6_ (Int.toNat t8_) (0, (List.replicate 3 (0, 0, 0, ())), ((0, 0, 0, ()), 0, 0, 0, ()), (0, ([] : List Int), ([] : List t1.den), (([] : List Int), ([] : List Bool), 0, ()), ([] : List t3.den), (([] : List Int), ([] : List Int), 0, 0, ()), ()), (0, ([] : List Int), ([] : List t1.den), (([] : List Int), ([] : List Bool), 0, ()), ([] : List t3.den), (([] : List Int), ([] : List Int), 0, 0, ()), ()), ([] : List Int), (0, 0, 0, ()), ()))).bind fun r0 =>
    bif (lim ((List.length l0) + (List.length ([r0.1] : List t7.den))) t7) then
      registry_all.L1 t6_ t7_ (IntKind.wrap .i64 (t8_ + 1)) (l0 ++ ([r0.1] : List t7.den))
    else none
  else none := res_eq (by kernel_rfl)
theorem registry_all.F_eq (l : (List t7.den)) : registry_all.F l =
  registry_all.L1 l ((List.length l : Int)) 0 ([] : List t7.den) := by kernel_rfl
/-! ### spigot/registry.Drop (9) -/
noncomputable def registry_Drop.sg : Sig := ⟨[.val (.slice t7), .val (.int .u32)], [((.slice t7), true), ((.int .i64), true)]⟩
noncomputable def registry_Drop.E : Env := ⟨tl, fun i => look i [(13, registry_Find.Fn), (31, registry_all.Fn)], [], eqs, globs, prims⟩
noncomputable def registry_Drop.c := cxOf registry_Drop.E registry_Drop.sg Try.f9
noncomputable def registry_Drop.b := body Try.f9
noncomputable def registry_Drop.Fn : Fun := fnOf registry_Drop.E registry_Drop.sg Try.f9
noncomputable def registry_Drop.F (l : (List t7.den)) (tenant : Int) : Option ((List t7.den) × Int × Unit) := registry_Drop.Fn.F (l, tenant, ())
noncomputable def registry_Drop.S1 (l : (List t7.den)) (i : Int) : St := ⟨[(0, (.v (.slice t7) l)), (6, (.v (.int .i64) i))], [], 0, []⟩
noncomputable def registry_Drop.L1 (l : (List t7.den)) (i : Int) : Option ((List t7.den) × Int × Unit) := res registry_Drop.c (atJoin registry_Drop.b [1, 1, 0, 1]) (registry_Drop.S1 l i)
theorem registry_Drop.spec : FnSpec Try.prog globs 9 registry_Drop.Fn := spec_of (E := registry_Drop.E) (envOk_at tabOk eqOk primsOk (.cons registry_Find.spec <| .cons registry_all.spec <| .nil)) mixOk Try.func9 (by kernel_rfl)
theorem registry_Drop.L1_eq (l : (List t7.den)) (i : Int) : registry_Drop.L1 l i =
  (registry_all.F l).bind fun r0 =>
  bif (decide ((0 : Int) ≤ i ∧ (i : Int) ≤ (IntKind.wrap .i64 (i + 1)) ∧ ((IntKind.wrap .i64 (i + 1)) : Int) ≤ (List.length r0.1 : Int))) then
    some (((List.take (Int.toNat i) r0.1) ++ (List.drop (Int.toNat (IntKind.wrap .i64 (i + 1))) r0.1)), 0, ())
  else none := res_eq (by kernel_rfl)
theorem registry_Drop.F_eq (l : (List t7.den)) (tenant : Int) : registry_Drop.F l tenant =
  (registry_Find.F l tenant).bind fun r0 =>
  bif (r0.2.1 != 0) then
    some (([] : List t7.den), r0.2.1, ())
  else
    registry_Drop.L1 l r0.1 := by kernel_rfl
/-! ### spigot/registry.Put (10) -/
noncomputable def registry_Put.sg : Sig := ⟨[.val (.slice t7), .val t7], [((.slice t7), true), ((.int .i64), true)]⟩
noncomputable def registry_Put.E : Env := ⟨tl, fun i => look i [(26, registry_Check.Fn), (31, registry_all.Fn), (32, part_Check.Fn), (33, registry_find.Fn), (35, registry_copied.Fn)], [], eqs, globs, prims⟩
noncomputable def registry_Put.c := cxOf registry_Put.E registry_Put.sg Try.f10
noncomputable def registry_Put.b := body Try.f10
noncomputable def registry_Put.Fn : Fun := fnOf registry_Put.E registry_Put.sg Try.f10
noncomputable def registry_Put.F (l : (List t7.den)) (p : t7.den) : Option ((List t7.den) × Int × Unit) := registry_Put.Fn.F (l, p, ())
noncomputable def registry_Put.S1 (l : (List t7.den)) (b0 : Int) (b02 : (List t0.den)) (b03 : Int) (b04 : Int) (b05 : Int) (b06 : Int) (b07 : Int) (b08 : Int) (b09 : Int) (b010 : (List Int)) (b011 : (List t1.den)) (b012 : (List Int)) (b013 : (List Bool)) (b014 : Int) (b015 : (List t3.den)) (b016 : (List Int)) (b017 : (List Int)) (b018 : Int) (b019 : Int) (b020 : Int) (b021 : (List Int)) (b022 : (List t1.den)) (b023 : (List Int)) (b024 : (List Bool)) (b025 : Int) (b026 : (List t3.den)) (b027 : (List Int)) (b028 : (List Int)) (b029 : Int) (b030 : Int) (b031 : (List Int)) (b032 : Int) (b033 : Int) (b034 : Int) : St := ⟨[(0, (.v (.slice t7) l)), (3, (.ptr 0 []))], [(0, some (.box (.agg [(.v (.int .u32) b0), (.v (.arr 3 t0) b02), (.agg [(.agg [(.v (.int .i64) b03), (.v (.int .i64) b04), (.v (.int .i64) b05)]), (.v (.int .i64) b06), (.v (.int .i64) b07), (.v (.int .u64) b08)]), (.agg [(.v (.int .i64) b09), (.v (.slice (.int .u32)) b010), (.v (.slice t1) b011), (.agg [(.v (.slice (.int .i64)) b012), (.v (.slice .bool) b013), (.v (.int .i64) b014)]), (.v (.slice t3) b015), (.agg [(.v (.slice (.int .i64)) b016), (.v (.slice (.int .i64)) b017), (.v (.int .i64) b018), (.v (.int .i64) b019)])]), (.agg [(.v (.int .i64) b020), (.v (.slice (.int .u32)) b021), (.v (.slice t1) b022), (.agg [(.v (.slice (.int .i64)) b023), (.v (.slice .bool) b024), (.v (.int .i64) b025)]), (.v (.slice t3) b026), (.agg [(.v (.slice (.int .i64)) b027), (.v (.slice (.int .i64)) b028), (.v (.int .i64) b029), (.v (.int .i64) b030)])]), (.v (.slice (.int .u32)) b031), (.agg [(.v (.int .u64) b032), (.v (.int .u64) b033), (.v (.int .u64) b034)])])))], 1, []⟩
noncomputable def registry_Put.L1 (l : (List t7.den)) (b0 : Int) (b02 : (List t0.den)) (b03 : Int) (b04 : Int) (b05 : Int) (b06 : Int) (b07 : Int) (b08 : Int) (b09 : Int) (b010 : (List Int)) (b011 : (List t1.den)) (b012 : (List Int)) (b013 : (List Bool)) (b014 : Int) (b015 : (List t3.den)) (b016 : (List Int)) (b017 : (List Int)) (b018 : Int) (b019 : Int) (b020 : Int) (b021 : (List Int)) (b022 : (List t1.den)) (b023 : (List Int)) (b024 : (List Bool)) (b025 : Int) (b026 : (List t3.den)) (b027 : (List Int)) (b028 : (List Int)) (b029 : Int) (b030 : Int) (b031 : (List Int)) (b032 : Int) (b033 : Int) (b034 : Int) : Option ((List t7.den) × Int × Unit) := res registry_Put.c (atJoin registry_Put.b [1, 0, 1, 1]) (registry_Put.S1 l b0 b02 b03 b04 b05 b06 b07 b08 b09 b010 b011 b012 b013 b014 b015 b016 b017 b018 b019 b020 b021 b022 b023 b024 b025 b026 b027 b028 b029 b030 b031 b032 b033 b034)
noncomputable def registry_Put.S2 (l : (List t7.den)) (b0 : Int) (b02 : (List t0.den)) (b03 : Int) (b04 : Int) (b05 : Int) (b06 : Int) (b07 : Int) (b08 : Int) (b09 : Int) (b010 : (List Int)) (b011 : (List t1.den)) (b012 : (List Int)) (b013 : (List Bool)) (b014 : Int) (b015 : (List t3.den)) (b016 : (List Int)) (b017 : (List Int)) (b018 : Int) (b019 : Int) (b020 : Int) (b021 : (List Int)) (b022 : (List t1.den)) (b023 : (List Int)) (b024 : (List Bool)) (b025 : Int) (b026 : (List t3.den)) (b027 : (List Int)) (b028 : (List Int)) (b029 : Int) (b030 : Int) (b031 : (List Int)) (b032 : Int) (b033 : Int) (b034 : Int) : St := ⟨[(0, (.v (.slice t7) l)), (3, (.ptr 0 []))], [(0, some (.box (.agg [(.v (.int .u32) b0), (.v (.arr 3 t0) b02), (.agg [(.agg [(.v (.int .i64) b03), (.v (.int .i64) b04), (.v (.int .i64) b05)]), (.v (.int .i64) b06), (.v (.int .i64) b07), (.v (.int .u64) b08)]), (.agg [(.v (.int .i64) b09), (.v (.slice (.int .u32)) b010), (.v (.slice t1) b011), (.agg [(.v (.slice (.int .i64)) b012), (.v (.slice .bool) b013), (.v (.int .i64) b014)]), (.v (.slice t3) b015), (.agg [(.v (.slice (.int .i64)) b016), (.v (.slice (.int .i64)) b017), (.v (.int .i64) b018), (.v (.int .i64) b019)])]), (.agg [(.v (.int .i64) b020), (.v (.slice (.int .u32)) b021), (.v (.slice t1) b022), (.agg [(.v (.slice (.int .i64)) b023), (.v (.slice .bool) b024), (.v (.int .i64) b025)]), (.v (.slice t3) b026), (.agg [(.v (.slice (.int .i64)) b027), (.v (.slice (.int .i64)) b028), (.v (.int .i64) b029), (.v (.int .i64) b030)])]), (.v (.slice (.int .u32)) b031), (.agg [(.v (.int .u64) b032), (.v (.int .u64) b033), (.v (.int .u64) b034)])])))], 1, []⟩
noncomputable def registry_Put.L2 (l : (List t7.den)) (b0 : Int) (b02 : (List t0.den)) (b03 : Int) (b04 : Int) (b05 : Int) (b06 : Int) (b07 : Int) (b08 : Int) (b09 : Int) (b010 : (List Int)) (b011 : (List t1.den)) (b012 : (List Int)) (b013 : (List Bool)) (b014 : Int) (b015 : (List t3.den)) (b016 : (List Int)) (b017 : (List Int)) (b018 : Int) (b019 : Int) (b020 : Int) (b021 : (List Int)) (b022 : (List t1.den)) (b023 : (List Int)) (b024 : (List Bool)) (b025 : Int) (b026 : (List t3.den)) (b027 : (List Int)) (b028 : (List Int)) (b029 : Int) (b030 : Int) (b031 : (List Int)) (b032 : Int) (b033 : Int) (b034 : Int) : Option ((List t7.den) × Int × Unit) := res registry_Put.c (atJoin registry_Put.b [1, 1, 0, 1]) (registry_Put.S2 l b0 b02 b03 b04 b05 b06 b07 b08 b09 b010 b011 b012 b013 b014 b015 b016 b017 b018 b019 b020 b021 b022 b023 b024 b025 b026 b027 b028 b029 b030 b031 b032 b033 b034)
noncomputable def registry_Put.S3 (l : (List t7.den)) (i : Int) (b0 : Int) (b02 : (List t0.den)) (b03 : Int) (b04 : Int) (b05 : Int) (b06 : Int) (b07 : Int) (b08 : Int) (b09 : Int) (b010 : (List Int)) (b011 : (List t1.den)) (b012 : (List Int)) (b013 : (List Bool)) (b014 : Int) (b015 : (List t3.den)) (b016 : (List Int)) (b017 : (List Int)) (b018 : Int) (b019 : Int) (b020 : Int) (b021 : (List Int)) (b022 : (List t1.den)) (b023 : (List Int)) (b024 : (List Bool)) (b025 : Int) (b026 : (List t3.den)) (b027 : (List Int)) (b028 : (List Int)) (b029 : Int) (b030 : Int) (b031 : (List Int)) (b032 : Int) (b033 : Int) (b034 : Int) : St := ⟨[(0, (.v (.slice t7) l)), (3, (.ptr 0 [])), (7, (.v (.int .i64) i))], [(0, some (.box (.agg [(.v (.int .u32) b0), (.v (.arr 3 t0) b02), (.agg [(.agg [(.v (.int .i64) b03), (.v (.int .i64) b04), (.v (.int .i64) b05)]), (.v (.int .i64) b06), (.v (.int .i64) b07), (.v (.int .u64) b08)]), (.agg [(.v (.int .i64) b09), (.v (.slice (.int .u32)) b010), (.v (.slice t1) b011), (.agg [(.v (.slice (.int .i64)) b012), (.v (.slice .bool) b013), (.v (.int .i64) b014)]), (.v (.slice t3) b015), (.agg [(.v (.slice (.int .i64)) b016), (.v (.slice (.int .i64)) b017), (.v (.int .i64) b018), (.v (.int .i64) b019)])]), (.agg [(.v (.int .i64) b020), (.v (.slice (.int .u32)) b021), (.v (.slice t1) b022), (.agg [(.v (.slice (.int .i64)) b023), (.v (.slice .bool) b024), (.v (.int .i64) b025)]), (.v (.slice t3) b026), (.agg [(.v (.slice (.int .i64)) b027), (.v (.slice (.int .i64)) b028), (.v (.int .i64) b029), (.v (.int .i64) b030)])]), (.v (.slice (.int .u32)) b031), (.agg [(.v (.int .u64) b032), (.v (.int .u64) b033), (.v (.int .u64) b034)])])))], 1, []⟩
noncomputable def registry_Put.L3 (l : (List t7.den)) (i : Int) (b0 : Int) (b02 : (List t0.den)) (b03 : Int) (b04 : Int) (b05 : Int) (b06 : Int) (b07 : Int) (b08 : Int) (b09 : Int) (b010 : (List Int)) (b011 : (List t1.den)) (b012 : (List Int)) (b013 : (List Bool)) (b014 : Int) (b015 : (List t3.den)) (b016 : (List Int)) (b017 : (List Int)) (b018 : Int) (b019 : Int) (b020 : Int) (b021 : (List Int)) (b022 : (List t1.den)) (b023 : (List Int)) (b024 : (List Bool)) (b025 : Int) (b026 : (List t3.den)) (b027 : (List Int)) (b028 : (List Int)) (b029 : Int) (b030 : Int) (b031 : (List Int)) (b032 : Int) (b033 : Int) (b034 : Int) : Option ((List t7.den) × Int × Unit) := res registry_Put.c (atJoin registry_Put.b [1, 1, 1, 1, 0, 1]) (registry_Put.S3 l i b0 b02 b03 b04 b05 b06 b07 b08 b09 b010 b011 b012 b013 b014 b015 b016 b017 b018 b019 b020 b021 b022 b023 b024 b025 b026 b027 b028 b029 b030 b031 b032 b033 b034)
noncomputable def registry_Put.S4 (l : (List t7.den)) (i : Int) (b0 : Int) (b02 : (List t0.den)) (b03 : Int) (b04 : Int) (b05 : Int) (b06 : Int) (b07 : Int) (b08 : Int) (b09 : Int) (b010 : (List Int)) (b011 : (List t1.den)) (b012 : (List Int)) (b013 : (List Bool)) (b014 : Int) (b015 : (List t3.den)) (b016 : (List Int)) (b017 : (List Int)) (b018 : Int) (b019 : Int) (b020 : Int) (b021 : (List Int)) (b022 : (List t1.den)) (b023 : (List Int)) (b024 : (List Bool)) (b025 : Int) (b026 : (List t3.den)) (b027 : (List Int)) (b028 : (List Int)) (b029 : Int) (b030 : Int) (b031 : (List Int)) (b032 : Int) (b033 : Int) (b034 : Int) : St := ⟨[(0, (.v (.slice t7) l)), (3, (.ptr 0 [])), (7, (.v (.int .i64) i))], [(0, some (.box (.agg [(.v (.int .u32) b0), (.v (.arr 3 t0) b02), (.agg [(.agg [(.v (.int .i64) b03), (.v (.int .i64) b04), (.v (.int .i64) b05)]), (.v (.int .i64) b06), (.v (.int .i64) b07), (.v (.int .u64) b08)]), (.agg [(.v (.int .i64) b09), (.v (.slice (.int .u32)) b010), (.v (.slice t1) b011), (.agg [(.v (.slice (.int .i64)) b012), (.v (.slice .bool) b013), (.v (.int .i64) b014)]), (.v (.slice t3) b015), (.agg [(.v (.slice (.int .i64)) b016), (.v (.slice (.int .i64)) b017), (.v (.int .i64) b018), (.v (.int .i64) b019)])]), (.agg [(.v (.int .i64) b020), (.v (.slice (.int .u32)) b021), (.v (.slice t1) b022), (.agg [(.v (.slice (.int .i64)) b023), (.v (.slice .bool) b024), (.v (.int .i64) b025)]), (.v (.slice t3) b026), (.agg [(.v (.slice (.int .i64)) b027), (.v (.slice (.int .i64)) b028), (.v (.int .i64) b029), (.v (.int .i64) b030)])]), (.v (.slice (.int .u32)) b031), (.agg [(.v (.int .u64) b032), (.v (.int .u64) b033), (.v (.int .u64) b034)])])))], 1, []⟩
noncomputable def registry_Put.L4 (l : (List t7.den)) (i : Int) (b0 : Int) (b02 : (List t0.den)) (b03 : Int) (b04 : Int) (b05 : Int) (b06 : Int) (b07 : Int) (b08 : Int) (b09 : Int) (b010 : (List Int)) (b011 : (List t1.den)) (b012 : (List Int)) (b013 : (List Bool)) (b014 : Int) (b015 : (List t3.den)) (b016 : (List Int)) (b017 : (List Int)) (b018 : Int) (b019 : Int) (b020 : Int) (b021 : (List Int)) (b022 : (List t1.den)) (b023 : (List Int)) (b024 : (List Bool)) (b025 : Int) (b026 : (List t3.den)) (b027 : (List Int)) (b028 : (List Int)) (b029 : Int) (b030 : Int) (b031 : (List Int)) (b032 : Int) (b033 : Int) (b034 : Int) : Option ((List t7.den) × Int × Unit) := res registry_Put.c (atJoin registry_Put.b [1, 1, 1, 1, 1, 0, 1]) (registry_Put.S4 l i b0 b02 b03 b04 b05 b06 b07 b08 b09 b010 b011 b012 b013 b014 b015 b016 b017 b018 b019 b020 b021 b022 b023 b024 b025 b026 b027 b028 b029 b030 b031 b032 b033 b034)
theorem registry_Put.spec : FnSpec Try.prog globs 10 registry_Put.Fn := spec_of (E := registry_Put.E) (envOk_at tabOk eqOk primsOk (.cons registry_Check.spec <| .cons registry_all.spec <| .cons part_Check.spec <| .cons registry_find.spec <| .cons registry_copied.spec <| .nil)) mixOk Try.func10 (by kernel_rfl)
theorem registry_Put.L1_eq (l : (List t7.den)) (b0 : Int) (b02 : (List t0.den)) (b03 : Int) (b04 : Int) (b05 : Int) (b06 : Int) (b07 : Int) (b08 : Int) (b09 : Int) (b010 : (List Int)) (b011 : (List t1.den)) (b012 : (List Int)) (b013 : (List Bool)) (b014 : Int) (b015 : (List t3.den)) (b016 : (List Int)) (b017 : (List Int)) (b018 : Int) (b019 : Int) (b020 : Int) (b021 : (List Int)) (b022 : (List t1.den)) (b023 : (List Int)) (b024 : (List Bool)) (b025 : Int) (b026 : (List t3.den)) (b027 : (List Int)) (b028 : (List Int)) (b029 : Int) (b030 : Int) (b031 : (List Int)) (b032 : Int) (b033 : Int) (b034 : Int) : registry_Put.L1 l b0 b02 b03 b04 b05 b06 b07 b08 b09 b010 b011 b012 b013 b014 b015 b016 b017 b018 b019 b020 b021 b022 b023 b024 b025 b026 b027 b028 b029 b030 b031 b032 b033 b034 =
  (part_Check.F (b0, b02, ((b03, b04, b05, ()), b06, b07, b08, ()), (b09, b010, b011, (b012, b013, b014, ()), b015, (b016, b017, b018, b019, ()), ()), (b020, b021, b022, (b023, b024, b025, ()), b026, (b027, b028, b029, b030, ()), ()), b031, (b032, b033, b034, ()), ())).bind fun r0 =>
  bif (r0.1 != 0) then
    some (([] : List t7.den), 8, ())
  else
    registry_Put.L2 l b0 b02 b03 b04 b05 b06 b07 b08 b09 b010 b011 b012 b013 b014 b015 b016 b017 b018 b019 b020 b021 b022 b023 b024 b025 b026 b027 b028 b029 b030 b031 b032 b033 b034 := res_eq (by kernel_rfl)
theorem registry_Put.L2_eq (l : (List t7.den)) (b0 : Int) (b02 : (List t0.den)) (b03 : Int) (b04 : Int) (b05 : Int) (b06 : Int) (b07 : Int) (b08 : Int) (b09 : Int) (b010 : (List Int)) (b011 : (List t1.den)) (b012 : (List Int)) (b013 : (List Bool)) (b014 : Int) (b015 : (List t3.den)) (b016 : (List Int)) (b017 : (List Int)) (b018 : Int) (b019 : Int) (b020 : Int) (b021 : (List Int)) (b022 : (List t1.den)) (b023 : (List Int)) (b024 : (List Bool)) (b025 : Int) (b026 : (List t3.den)) (b027 : (List Int)) (b028 : (List Int)) (b029 : Int) (b030 : Int) (b031 : (List Int)) (b032 : Int) (b033 : Int) (b034 : Int) : registry_Put.L2 l b0 b02 b03 b04 b05 b06 b07 b08 b09 b010 b011 b012 b013 b014 b015 b016 b017 b018 b019 b020 b021 b022 b023 b024 b025 b026 b027 b028 b029 b030 b031 b032 b033 b034 =
  (registry_find.F l b0).bind fun r0 =>
  bif r0.2.1 then
    some (([] : List t7.den), 14, ())
  else
    registry_Put.L3 l r0.1 b0 b02 b03 b04 b05 b06 b07 b08 b09 b010 b011 b012 b013 b014 b015 b016 b017 b018 b019 b020 b021 b022 b023 b024 b025 b026 b027 b028 b029 b030 b031 b032 b033 b034 := res_eq (by kernel_rfl)
theorem registry_Put.L3_eq (l : (List t7.den)) (i : Int) (b0 : Int) (b02 : (List t0.den)) (b03 : Int) (b04 : Int) (b05 : Int) (b06 : Int) (b07 : Int) (b08 : Int) (b09 : Int) (b010 : (List Int)) (b011 : (List t1.den)) (b012 : (List Int)) (b013 : (List Bool)) (b014 : Int) (b015 : (List t3.den)) (b016 : (List Int)) (b017 : (List Int)) (b018 : Int) (b019 : Int) (b020 : Int) (b021 : (List Int)) (b022 : (List t1.den)) (b023 : (List Int)) (b024 : (List Bool)) (b025 : Int) (b026 : (List t3.den)) (b027 : (List Int)) (b028 : (List Int)) (b029 : Int) (b030 : Int) (b031 : (List Int)) (b032 : Int) (b033 : Int) (b034 : Int) : registry_Put.L3 l i b0 b02 b03 b04 b05 b06 b07 b08 b09 b010 b011 b012 b013 b014 b015 b016 b017 b018 b019 b020 b021 b022 b023 b024 b025 b026 b027 b028 b029 b030 b031 b032 b033 b034 =
  bif (((List.length l : Int)) == 8) then
    some (([] : List t7.den), 18, ())
  else
    registry_Put.L4 l i b0 b02 b03 b04 b05 b06 b07 b08 b09 b010 b011 b012 b013 b014 b015 b016 b017 b018 b019 b020 b021 b022 b023 b024 b025 b026 b027 b028 b029 b030 b031 b032 b033 b034 := res_eq (by kernel_rfl)
theorem registry_Put.L4_eq (l : (List t7.den)) (i : Int) (b0 : Int) (b02 : (List t0.den)) (b03 : Int) (b04 : Int) (b05 : Int) (b06 : Int) (b07 : Int) (b08 : Int) (b09 : Int) (b010 : (List Int)) (b011 : (List t1.den)) (b012 : (List Int)) (b013 : (List Bool)) (b014 : Int) (b015 : (List t3.den)) (b016 : (List Int)) (b017 : (List Int)) (b018 : Int) (b019 : Int) (b020 : Int) (b021 : (List Int)) (b022 : (List t1.den)) (b023 : (List Int)) (b024 : (List Bool)) (b025 : Int) (b026 : (List t3.den)) (b027 : (List Int)) (b028 : (List Int)) (b029 : Int) (b030 : Int) (b031 : (List Int)) (b032 : Int) (b033 : Int) (b034 : Int) : registry_Put.L4 l i b0 b02 b03 b04 b05 b06 b07 b08 b09 b010 b011 b012 b013 b014 b015 b016 b017 b018 b019 b020 b021 b022 b023 b024 b025 b026 b027 b028 b029 b030 b031 b032 b033 b034 =
  (registry_all.F l).bind fun r0 =>
  (registry_copied.F (b0, b02, ((b03, b04, b05, ()), b06, b07, b08, ()), (b09, b010, b011, (b012, b013, b014, ()), b015, (b016, b017, b018, b019, ()), ()), (b020, b021, b022, (b023, b024, b025, ()), b026, (b027, b028, b029, b030, ()), ()), b031, (b032, b033, b034, ()), ())).bind fun r1 =>
  bif (decide ((0 : Int) ≤ i ∧ (i : Int) ≤ (List.length r0.1 : Int)) && lim (List.length r0.1 + List.length ([r1.1] : List t7.den)) t7) then
    some ((((List.take (Int.toNat i) r0.1) ++ ([r1.1] : List t7.den)) ++ (List.drop (Int.toNat i) r0.1)), 0, ())
  else none := res_eq (by kernel_rfl)
theorem registry_Put.F_eq (l : (List t7.den)) (p : t7.den) : registry_Put.F l p =
  (registry_Check.F l).bind fun r0 =>
  bif (r0.1 != 0) then
    some (([] : List t7.den), r0.1, ())
  else
    registry_Put.L1 l p.1 p.2.1 p.2.2.1.1.1 p.2.2.1.1.2.1 p.2.2.1.1.2.2.1 p.2.2.1.2.1 p.2.2.1.2.2.1 p.2.2.1.2.2.2.1 p.2.2.2.1.1 p.2.2.2.1.2.1 p.2.2.2.1.2.2.1 p.2.2.2.1.2.2.2.1.1 p.2.2.2.1.2.2.2.1.2.1 p.2.2.2.1.2.2.2.1.2.2.1 p.2.2.2.1.2.2.2.2.1 p.2.2.2.1.2.2.2.2.2.1.1 p.2.2.2.1.2.2.2.2.2.1.2.1 p.2.2.2.1.2.2.2.2.2.1.2.2.1 p.2.2.2.1.2.2.2.2.2.1.2.2.2.1 p.2.2.2.2.1.1 p.2.2.2.2.1.2.1 p.2.2.2.2.1.2.2.1 p.2.2.2.2.1.2.2.2.1.1 p.2.2.2.2.1.2.2.2.1.2.1 p.2.2.2.2.1.2.2.2.1.2.2.1 p.2.2.2.2.1.2.2.2.2.1 p.2.2.2.2.1.2.2.2.2.2.1.1 p.2.2.2.2.1.2.2.2.2.2.1.2.1 p.2.2.2.2.1.2.2.2.2.2.1.2.2.1 p.2.2.2.2.1.2.2.2.2.2.1.2.2.2.1 p.2.2.2.2.2.1 p.2.2.2.2.2.2.1.1 p.2.2.2.2.2.2.1.2.1 p.2.2.2.2.2.2.1.2.2.1 := by kernel_rfl
/-! ### spigot/spigotref03.CheckLimit (66) -/
noncomputable def spigotref03_CheckLimit.sg : Sig := ⟨[.val t0], [((.int .i64), true)]⟩
noncomputable def spigotref03_CheckLimit.E : Env := ⟨tl, fun i => look i [], [], eqs, globs, prims⟩
noncomputable def spigotref03_CheckLimit.c := cxOf spigotref03_CheckLimit.E spigotref03_CheckLimit.sg Try.f66
noncomputable def spigotref03_CheckLimit.b := body Try.f66
noncomputable def spigotref03_CheckLimit.Fn : Fun := fnOf spigotref03_CheckLimit.E spigotref03_CheckLimit.sg Try.f66
noncomputable def spigotref03_CheckLimit.F (l : t0.den) : Option (Int × Unit) := spigotref03_CheckLimit.Fn.F (l, ())
noncomputable def spigotref03_CheckLimit.S1 : St := ⟨[], [], 0, []⟩
noncomputable def spigotref03_CheckLimit.L1 : Option (Int × Unit) := res spigotref03_CheckLimit.c (atJoin spigotref03_CheckLimit.b [1, 0, 1]) (spigotref03_CheckLimit.S1)
theorem spigotref03_CheckLimit.spec : FnSpec Try.prog globs 66 spigotref03_CheckLimit.Fn := spec_of (E := spigotref03_CheckLimit.E) (envOk_at tabOk eqOk primsOk (.nil)) mixOk Try.func66 (by kernel_rfl)
theorem spigotref03_CheckLimit.L1_eq : spigotref03_CheckLimit.L1 =
  some (0, ()) := res_eq (by kernel_rfl)
theorem spigotref03_CheckLimit.F_eq (l : t0.den) : spigotref03_CheckLimit.F l =
  bif (decide ((l.1 : Int) < 1)) then
    some (8, ())
  else
    bif (decide ((l.1 : Int) > 1000000000)) then
      some (8, ())
    else
      bif (decide ((l.2.1 : Int) < 0)) then
        some (8, ())
      else
        bif (decide ((l.2.1 : Int) > 1000000000)) then
          some (8, ())
        else
          bif (decide ((l.2.2.1 : Int) < 1)) then
            some (8, ())
          else
            bif (decide ((l.2.2.1 : Int) > 1000000000)) then
              some (8, ())
            else
              spigotref03_CheckLimit.L1 := by kernel_rfl
/-! ### spigot/spigotref18.Limited (43) -/
noncomputable def spigotref18_Limited.sg : Sig := ⟨[.val (.arr 3 t0)], [(.bool, true)]⟩
noncomputable def spigotref18_Limited.E : Env := ⟨tl, fun i => look i [(66, spigotref03_CheckLimit.Fn)], [], eqs, globs, prims⟩
noncomputable def spigotref18_Limited.c := cxOf spigotref18_Limited.E spigotref18_Limited.sg Try.f43
noncomputable def spigotref18_Limited.b := body Try.f43
noncomputable def spigotref18_Limited.Fn : Fun := fnOf spigotref18_Limited.E spigotref18_Limited.sg Try.f43
noncomputable def spigotref18_Limited.F (l : (List t0.den)) : Option (Bool × Unit) := spigotref18_Limited.Fn.F (l, ())
noncomputable def spigotref18_Limited.S1 (i : Int) (b0 : (List t0.den)) : St := ⟨[(1, (.ptr 0 [])), (3, (.v (.int .i64) i))], [(0, some (.box (.v (.arr 3 t0) b0)))], 1, []⟩
noncomputable def spigotref18_Limited.L1 (i : Int) (b0 : (List t0.den)) : Option (Bool × Unit) := res spigotref18_Limited.c (atLoop spigotref18_Limited.b [1, 0, 1, 0]) (spigotref18_Limited.S1 i b0)
noncomputable def spigotref18_Limited.S2 (i : Int) (b0 : (List t0.den)) : St := ⟨[(1, (.ptr 0 [])), (3, (.v (.int .i64) i))], [(0, some (.box (.v (.arr 3 t0) b0)))], 1, []⟩
noncomputable def spigotref18_Limited.L2 (i : Int) (b0 : (List t0.den)) : Option (Bool × Unit) := res spigotref18_Limited.c (atJoin spigotref18_Limited.b [1, 0, 1, 0, 0, 0, 1]) (spigotref18_Limited.S2 i b0)
noncomputable def spigotref18_Limited.S3 (i : Int) (b0 : (List t0.den)) : St := ⟨[(1, (.ptr 0 [])), (3, (.v (.int .i64) i))], [(0, some (.box (.v (.arr 3 t0) b0)))], 1, []⟩
noncomputable def spigotref18_Limited.L3 (i : Int) (b0 : (List t0.den)) : Option (Bool × Unit) := res spigotref18_Limited.c (atJoin spigotref18_Limited.b [1, 0, 1, 0, 0, 1, 0, 0, 1]) (spigotref18_Limited.S3 i b0)
theorem spigotref18_Limited.spec : FnSpec Try.prog globs 43 spigotref18_Limited.Fn := spec_of (E := spigotref18_Limited.E) (envOk_at tabOk eqOk primsOk (.cons spigotref03_CheckLimit.spec <| .nil)) mixOk Try.func43 (by kernel_rfl)
theorem spigotref18_Limited.L1_eq (i : Int) (b0 : (List t0.den)) : spigotref18_Limited.L1 i b0 =
  bif (decide ((i : Int) < 3)) then
    spigotref18_Limited.L2 i b0
  else
    some (true, ()) := res_eq (by kernel_rfl)
theorem spigotref18_Limited.L2_eq (i : Int) (b0 : (List t0.den)) : spigotref18_Limited.L2 i b0 =
  bif (decide ((0 : Int) ≤ i ∧ (i : Int) < 3)) then
    (spigotref03_CheckLimit.F (List.getD b0 (Int.toNat i) (0, 0, 0, ()))).bind fun r0 =>
    bif (r0.1 != 0) then
      some (false, ())
    else
      spigotref18_Limited.L3 i b0
  else none := res_eq (by kernel_rfl)
theorem spigotref18_Limited.L3_eq (i : Int) (b0 : (List t0.den)) : spigotref18_Limited.L3 i b0 =
  spigotref18_Limited.L1 (IntKind.wrap .i64 (i + 1)) b0 := res_eq (by kernel_rfl)
theorem spigotref18_Limited.F_eq (l : (List t0.den)) : spigotref18_Limited.F l =
  spigotref18_Limited.L1 0 l := by kernel_rfl
/-! ### spigot/spigotref13.New (87) -/
noncomputable def spigotref13_New.sg : Sig := ⟨[.val (.int .i64)], [(t2, true), ((.int .i64), true)]⟩
noncomputable def spigotref13_New.E : Env := ⟨tl, fun i => look i [], [], eqs, globs, prims⟩
noncomputable def spigotref13_New.c := cxOf spigotref13_New.E spigotref13_New.sg Try.f87
noncomputable def spigotref13_New.b := body Try.f87
noncomputable def spigotref13_New.Fn : Fun := fnOf spigotref13_New.E spigotref13_New.sg Try.f87
noncomputable def spigotref13_New.F (n : Int) : Option (t2.den × Int × Unit) := spigotref13_New.Fn.F (n, ())
noncomputable def spigotref13_New.S1 (n : Int) (l1 : (List Int)) (l2 : (List Bool)) : St := ⟨[(0, (.v (.int .i64) n)), (2, (.ptr 0 []))], [(0, some (.box (.agg [(.sl 1), (.sl 2), (.v (.int .i64) 0)]))), (1, some (.row (.int .i64) l1 false)), (2, some (.row .bool l2 false))], 3, []⟩
noncomputable def spigotref13_New.L1 (n : Int) (l1 : (List Int)) (l2 : (List Bool)) : Option (t2.den × Int × Unit) := res spigotref13_New.c (atJoin spigotref13_New.b [1, 0, 1]) (spigotref13_New.S1 n l1 l2)
noncomputable def spigotref13_New.S2 (n : Int) (i : Int) (l2 : (List Int)) (l3 : (List Bool)) (l4 : (List Int)) (l5 : (List Bool)) : St := ⟨[(0, (.v (.int .i64) n)), (2, (.ptr 0 [])), (4, (.ptr 1 [])), (5, (.v (.int .i64) i))], [(0, some (.box (.agg [(.sl 2), (.sl 3), (.v (.int .i64) 0)]))), (1, some (.box (.agg [(.sl 4), (.sl 5), (.v (.int .i64) 0)]))), (2, some (.row (.int .i64) l2 false)), (3, some (.row .bool l3 false)), (4, some (.row (.int .i64) l4 false)), (5, some (.row .bool l5 false))], 6, []⟩
noncomputable def spigotref13_New.L2 (n : Int) (i : Int) (l2 : (List Int)) (l3 : (List Bool)) (l4 : (List Int)) (l5 : (List Bool)) : Option (t2.den × Int × Unit) := res spigotref13_New.c (atLoop spigotref13_New.b [1, 1, 1, 0, 1, 0]) (spigotref13_New.S2 n i l2 l3 l4 l5)
noncomputable def spigotref13_New.S3 (n : Int) (i : Int) (l2 : (List Int)) (l3 : (List Bool)) (l4 : (List Int)) (l5 : (List Bool)) : St := ⟨[(0, (.v (.int .i64) n)), (2, (.ptr 0 [])), (4, (.ptr 1 [])), (5, (.v (.int .i64) i))], [(0, some (.box (.agg [(.sl 2), (.sl 3), (.v (.int .i64) 0)]))), (1, some (.box (.agg [(.sl 4), (.sl 5), (.v (.int .i64) 0)]))), (2, some (.row (.int .i64) l2 false)), (3, some (.row .bool l3 false)), (4, some (.row (.int .i64) l4 false)), (5, some (.row .bool l5 false))], 6, []⟩
noncomputable def spigotref13_New.L3 (n : Int) (i : Int) (l2 : (List Int)) (l3 : (List Bool)) (l4 : (List Int)) (l5 : (List Bool)) : Option (t2.den × Int × Unit) := res spigotref13_New.c (atJoin spigotref13_New.b [1, 1, 1, 0, 1, 0, 0, 0, 1]) (spigotref13_New.S3 n i l2 l3 l4 l5)
noncomputable def spigotref13_New.S4 (n : Int) (i : Int) (l2 : (List Int)) (l3 : (List Bool)) (l4 : (List Int)) (l5 : (List Bool)) : St := ⟨[(0, (.v (.int .i64) n)), (2, (.ptr 0 [])), (4, (.ptr 1 [])), (5, (.v (.int .i64) i))], [(0, some (.box (.agg [(.sl 2), (.sl 3), (.v (.int .i64) 0)]))), (1, some (.box (.agg [(.sl 4), (.sl 5), (.v (.int .i64) 0)]))), (2, some (.row (.int .i64) l2 false)), (3, some (.row .bool l3 false)), (4, some (.row (.int .i64) l4 false)), (5, some (.row .bool l5 false))], 6, []⟩
noncomputable def spigotref13_New.L4 (n : Int) (i : Int) (l2 : (List Int)) (l3 : (List Bool)) (l4 : (List Int)) (l5 : (List Bool)) : Option (t2.den × Int × Unit) := res spigotref13_New.c (atJoin spigotref13_New.b [1, 1, 1, 0, 1, 0, 0, 1, 0, 0, 0, 1]) (spigotref13_New.S4 n i l2 l3 l4 l5)
theorem spigotref13_New.spec : FnSpec Try.prog globs 87 spigotref13_New.Fn := spec_of (E := spigotref13_New.E) (envOk_at tabOk eqOk primsOk (.nil)) mixOk Try.func87 (by kernel_rfl)
theorem spigotref13_New.L1_eq (n : Int) (l1 : (List Int)) (l2 : (List Bool)) : spigotref13_New.L1 n l1 l2 =
  spigotref13_New.L2 n 0 l1 l2 ([] : List Int) ([] : List Bool) := res_eq (by kernel_rfl)
theorem spigotref13_New.L2_eq (n : Int) (i : Int) (l2 : (List Int)) (l3 : (List Bool)) (l4 : (List Int)) (l5 : (List Bool)) : spigotref13_New.L2 n i l2 l3 l4 l5 =
  bif (decide ((i : Int) < n)) then
    spigotref13_New.L3 n i l2 l3 l4 l5
  else
    some ((l4, l5, 0, ()), 0, ()) := res_eq (by kernel_rfl)
theorem spigotref13_New.L3_eq (n : Int) (i : Int) (l2 : (List Int)) (l3 : (List Bool)) (l4 : (List Int)) (l5 : (List Bool)) : spigotref13_New.L3 n i l2 l3 l4 l5 =
  bif (decide (((IntKind.wrap .i64 (i + 1)) : Int) < n)) then
    bif (lim ((List.length l4) + (List.length ([(IntKind.wrap .i64 (i + 1))] : List Int))) (.int .i64)) then
      spigotref13_New.L4 n i l2 l3 (l4 ++ ([(IntKind.wrap .i64 (i + 1))] : List Int)) l5
    else none
  else
    bif (lim ((List.length l4) + (List.length ([(-1)] : List Int))) (.int .i64)) then
      spigotref13_New.L4 n i l2 l3 (l4 ++ ([(-1)] : List Int)) l5
    else none := res_eq (by kernel_rfl)
theorem spigotref13_New.L4_eq (n : Int) (i : Int) (l2 : (List Int)) (l3 : (List Bool)) (l4 : (List Int)) (l5 : (List Bool)) : spigotref13_New.L4 n i l2 l3 l4 l5 =
  bif (lim ((List.length l5) + (List.length ([false] : List Bool))) .bool) then
    spigotref13_New.L2 n (IntKind.wrap .i64 (i + 1)) l2 l3 l4 (l5 ++ ([false] : List Bool))
  else none := res_eq (by kernel_rfl)
theorem spigotref13_New.F_eq (n : Int) : spigotref13_New.F n =
  bif (decide ((n : Int) < 1)) then
    some ((([] : List Int), ([] : List Bool), 0, ()), 2, ())
  else
    bif (decide ((n : Int) > 16)) then
      some ((([] : List Int), ([] : List Bool), 0, ()), 2, ())
    else
      spigotref13_New.L1 n ([] : List Int) ([] : List Bool) := by kernel_rfl
/-! ### spigot/spigotref15.Made (95) -/
noncomputable def spigotref15_Made.sg : Sig := ⟨[.val (.int .i64), .val (.slice (.int .i64))], [(t4, true)]⟩
noncomputable def spigotref15_Made.E : Env := ⟨tl, fun i => look i [], [], eqs, globs, prims⟩
noncomputable def spigotref15_Made.c := cxOf spigotref15_Made.E spigotref15_Made.sg Try.f95
noncomputable def spigotref15_Made.b := body Try.f95
noncomputable def spigotref15_Made.Fn : Fun := fnOf spigotref15_Made.E spigotref15_Made.sg Try.f95
noncomputable def spigotref15_Made.F (n : Int) (l : (List Int)) : Option (t4.den × Unit) := spigotref15_Made.Fn.F (n, l, ())
noncomputable def spigotref15_Made.S1 (n : Int) (l : (List Int)) (i : Int) (l2 : (List Int)) (l4 : (List Int)) : St := ⟨[(0, (.v (.int .i64) n)), (1, (.v (.slice (.int .i64)) l)), (4, (.ptr 0 [])), (5, (.ptr 1 [])), (6, (.v (.int .i64) i))], [(0, some (.box (.agg [(.sl 2), (.sl 3), (.v (.int .i64) 0), (.v (.int .i64) 0)]))), (1, some (.box (.agg [(.sl 4), (.sl 5), (.v (.int .i64) (-1)), (.v (.int .i64) (-1))]))), (2, some (.row (.int .i64) l2 false)), (3, some (.row (.int .i64) l2 false)), (4, some (.row (.int .i64) l4 false)), (5, some (.row (.int .i64) l4 false))], 6, []⟩
noncomputable def spigotref15_Made.L1 (n : Int) (l : (List Int)) (i : Int) (l2 : (List Int)) (l4 : (List Int)) : Option (t4.den × Unit) := res spigotref15_Made.c (atLoop spigotref15_Made.b [1, 1, 0, 1, 0]) (spigotref15_Made.S1 n l i l2 l4)
noncomputable def spigotref15_Made.S2 (n : Int) (l : (List Int)) (i : Int) (l2 : (List Int)) (l4 : (List Int)) : St := ⟨[(0, (.v (.int .i64) n)), (1, (.v (.slice (.int .i64)) l)), (4, (.ptr 0 [])), (5, (.ptr 1 [])), (6, (.v (.int .i64) i))], [(0, some (.box (.agg [(.sl 2), (.sl 3), (.v (.int .i64) 0), (.v (.int .i64) 0)]))), (1, some (.box (.agg [(.sl 4), (.sl 5), (.v (.int .i64) (-1)), (.v (.int .i64) (-1))]))), (2, some (.row (.int .i64) l2 false)), (3, some (.row (.int .i64) l2 false)), (4, some (.row (.int .i64) l4 false)), (5, some (.row (.int .i64) l4 false))], 6, []⟩
noncomputable def spigotref15_Made.L2 (n : Int) (l : (List Int)) (i : Int) (l2 : (List Int)) (l4 : (List Int)) : Option (t4.den × Unit) := res spigotref15_Made.c (atJoin spigotref15_Made.b [1, 1, 0, 1, 0, 0, 0, 1]) (spigotref15_Made.S2 n l i l2 l4)
noncomputable def spigotref15_Made.S3 (l : (List Int)) (i : Int) (b1 : Int) (b12 : Int) (l2 : (List Int)) (l4 : (List Int)) (l5 : (List Int)) : St := ⟨[(1, (.v (.slice (.int .i64)) l)), (4, (.ptr 0 [])), (5, (.ptr 1 [])), (7, (.v (.int .i64) i))], [(0, some (.box (.agg [(.sl 2), (.sl 3), (.v (.int .i64) 0), (.v (.int .i64) 0)]))), (1, some (.box (.agg [(.sl 4), (.sl 5), (.v (.int .i64) b1), (.v (.int .i64) b12)]))), (2, some (.row (.int .i64) l2 false)), (3, some (.row (.int .i64) l2 false)), (4, some (.row (.int .i64) l4 false)), (5, some (.row (.int .i64) l5 false))], 6, []⟩
noncomputable def spigotref15_Made.L3 (l : (List Int)) (i : Int) (b1 : Int) (b12 : Int) (l2 : (List Int)) (l4 : (List Int)) (l5 : (List Int)) : Option (t4.den × Unit) := res spigotref15_Made.c (atLoop spigotref15_Made.b [1, 1, 1, 0, 1, 0]) (spigotref15_Made.S3 l i b1 b12 l2 l4 l5)
noncomputable def spigotref15_Made.S4 (l : (List Int)) (i : Int) (b1 : Int) (b12 : Int) (l2 : (List Int)) (l4 : (List Int)) (l5 : (List Int)) : St := ⟨[(1, (.v (.slice (.int .i64)) l)), (4, (.ptr 0 [])), (5, (.ptr 1 [])), (7, (.v (.int .i64) i))], [(0, some (.box (.agg [(.sl 2), (.sl 3), (.v (.int .i64) 0), (.v (.int .i64) 0)]))), (1, some (.box (.agg [(.sl 4), (.sl 5), (.v (.int .i64) b1), (.v (.int .i64) b12)]))), (2, some (.row (.int .i64) l2 false)), (3, some (.row (.int .i64) l2 false)), (4, some (.row (.int .i64) l4 false)), (5, some (.row (.int .i64) l5 false))], 6, []⟩
noncomputable def spigotref15_Made.L4 (l : (List Int)) (i : Int) (b1 : Int) (b12 : Int) (l2 : (List Int)) (l4 : (List Int)) (l5 : (List Int)) : Option (t4.den × Unit) := res spigotref15_Made.c (atJoin spigotref15_Made.b [1, 1, 1, 0, 1, 0, 0, 0, 1]) (spigotref15_Made.S4 l i b1 b12 l2 l4 l5)
noncomputable def spigotref15_Made.S5 (l : (List Int)) (i : Int) (b1 : Int) (b12 : Int) (l2 : (List Int)) (l4 : (List Int)) (l5 : (List Int)) : St := ⟨[(1, (.v (.slice (.int .i64)) l)), (4, (.ptr 0 [])), (5, (.ptr 1 [])), (7, (.v (.int .i64) i))], [(0, some (.box (.agg [(.sl 2), (.sl 3), (.v (.int .i64) 0), (.v (.int .i64) 0)]))), (1, some (.box (.agg [(.sl 4), (.sl 5), (.v (.int .i64) b1), (.v (.int .i64) b12)]))), (2, some (.row (.int .i64) l2 false)), (3, some (.row (.int .i64) l2 false)), (4, some (.row (.int .i64) l4 false)), (5, some (.row (.int .i64) l5 false))], 6, []⟩
noncomputable def spigotref15_Made.L5 (l : (List Int)) (i : Int) (b1 : Int) (b12 : Int) (l2 : (List Int)) (l4 : (List Int)) (l5 : (List Int)) : Option (t4.den × Unit) := res spigotref15_Made.c (atJoin spigotref15_Made.b [1, 1, 1, 0, 1, 0, 0, 1, 0, 0, 0, 1]) (spigotref15_Made.S5 l i b1 b12 l2 l4 l5)
theorem spigotref15_Made.spec : FnSpec Try.prog globs 95 spigotref15_Made.Fn := spec_of (E := spigotref15_Made.E) (envOk_at tabOk eqOk primsOk (.nil)) mixOk Try.func95 (by kernel_rfl)
theorem spigotref15_Made.L1_eq (n : Int) (l : (List Int)) (i : Int) (l2 : (List Int)) (l4 : (List Int)) : spigotref15_Made.L1 n l i l2 l4 =
  bif (decide ((i : Int) < n)) then
    spigotref15_Made.L2 n l i l2 l4
  else
    spigotref15_Made.L3 l 0 (-1) (-1) l2 l4 l4 := res_eq (by kernel_rfl)
theorem spigotref15_Made.L2_eq (n : Int) (l : (List Int)) (i : Int) (l2 : (List Int)) (l4 : (List Int)) : spigotref15_Made.L2 n l i l2 l4 =
  bif (lim ((List.length l4) + (List.length ([(-1)] : List Int))) (.int .i64)) then
    bif (lim ((List.length l4) + (List.length ([(-1)] : List Int))) (.int .i64)) then
      spigotref15_Made.L1 n l (IntKind.wrap .i64 (i + 1)) l2 (l4 ++ ([(-1)] : List Int))
    else none
  else none := res_eq (by kernel_rfl)
theorem spigotref15_Made.L3_eq (l : (List Int)) (i : Int) (b1 : Int) (b12 : Int) (l2 : (List Int)) (l4 : (List Int)) (l5 : (List Int)) : spigotref15_Made.L3 l i b1 b12 l2 l4 l5 =
  bif (decide ((i : Int) < ((List.length l : Int)))) then
    spigotref15_Made.L4 l i b1 b12 l2 l4 l5
  else
    some ((l4, l5, b1, b12, ()), ()) := res_eq (by kernel_rfl)
theorem spigotref15_Made.L4_eq (l : (List Int)) (i : Int) (b1 : Int) (b12 : Int) (l2 : (List Int)) (l4 : (List Int)) (l5 : (List Int)) : spigotref15_Made.L4 l i b1 b12 l2 l4 l5 =
  bif (i == 0) then
    bif (decide ((0 : Int) ≤ i ∧ (i : Int) < ((List.length l : Int)))) then
      spigotref15_Made.L5 l i (List.getD l (Int.toNat i) 0) b12 l2 l4 l5
    else none
  else
    bif (decide ((0 : Int) ≤ i ∧ (i : Int) < ((List.length l : Int)))) then
      bif (decide ((0 : Int) ≤ (IntKind.wrap .i64 (i - 1)) ∧ ((IntKind.wrap .i64 (i - 1)) : Int) < ((List.length l : Int)))) then
        bif (decide ((0 : Int) ≤ (List.getD l (Int.toNat i) 0) ∧ ((List.getD l (Int.toNat i) 0) : Int) < ((List.length l4 : Int)))) then
          bif (decide ((0 : Int) ≤ (IntKind.wrap .i64 (i - 1)) ∧ ((IntKind.wrap .i64 (i - 1)) : Int) < ((List.length l : Int)))) then
            bif (decide ((0 : Int) ≤ i ∧ (i : Int) < ((List.length l : Int)))) then
              bif (decide ((0 : Int) ≤ (List.getD l (Int.toNat (IntKind.wrap .i64 (i - 1))) 0) ∧ ((List.getD l (Int.toNat (IntKind.wrap .i64 (i - 1))) 0) : Int) < ((List.length l5 : Int)))) then
                spigotref15_Made.L5 l i b1 b12 l2 (List.set l4 (Int.toNat (List.getD l (Int.toNat i) 0)) (List.getD l (Int.toNat (IntKind.wrap .i64 (i - 1))) 0)) (List.set l5 (Int.toNat (List.getD l (Int.toNat (IntKind.wrap .i64 (i - 1))) 0)) (List.getD l (Int.toNat i) 0))
              else none
            else none
          else none
        else none
      else none
    else none := res_eq (by kernel_rfl)
theorem spigotref15_Made.L5_eq (l : (List Int)) (i : Int) (b1 : Int) (b12 : Int) (l2 : (List Int)) (l4 : (List Int)) (l5 : (List Int)) : spigotref15_Made.L5 l i b1 b12 l2 l4 l5 =
  bif (decide ((0 : Int) ≤ i ∧ (i : Int) < ((List.length l : Int)))) then
    spigotref15_Made.L3 l (IntKind.wrap .i64 (i + 1)) b1 (List.getD l (Int.toNat i) 0) l2 l4 l5
  else none := res_eq (by kernel_rfl)
theorem spigotref15_Made.F_eq (n : Int) (l : (List Int)) : spigotref15_Made.F n l =
  spigotref15_Made.L1 n l 0 ([] : List Int) ([] : List Int) := by kernel_rfl
/-! ### spigot/spigotref15.New (88) -/
noncomputable def spigotref15_New.sg : Sig := ⟨[.val (.int .i64)], [(t4, true), ((.int .i64), true)]⟩
noncomputable def spigotref15_New.E : Env := ⟨tl, fun i => look i [(95, spigotref15_Made.Fn)], [], eqs, globs, prims⟩
noncomputable def spigotref15_New.c := cxOf spigotref15_New.E spigotref15_New.sg Try.f88
noncomputable def spigotref15_New.b := body Try.f88
noncomputable def spigotref15_New.Fn : Fun := fnOf spigotref15_New.E spigotref15_New.sg Try.f88
noncomputable def spigotref15_New.F (n : Int) : Option (t4.den × Int × Unit) := spigotref15_New.Fn.F (n, ())
noncomputable def spigotref15_New.S1 (n : Int) (l1 : (List Int)) : St := ⟨[(0, (.v (.int .i64) n)), (2, (.ptr 0 []))], [(0, some (.box (.agg [(.sl 1), (.sl 2), (.v (.int .i64) 0), (.v (.int .i64) 0)]))), (1, some (.row (.int .i64) l1 false)), (2, some (.row (.int .i64) l1 false))], 3, []⟩
noncomputable def spigotref15_New.L1 (n : Int) (l1 : (List Int)) : Option (t4.den × Int × Unit) := res spigotref15_New.c (atJoin spigotref15_New.b [1, 0, 1]) (spigotref15_New.S1 n l1)
theorem spigotref15_New.spec : FnSpec Try.prog globs 88 spigotref15_New.Fn := spec_of (E := spigotref15_New.E) (envOk_at tabOk eqOk primsOk (.cons spigotref15_Made.spec <| .nil)) mixOk Try.func88 (by kernel_rfl)
theorem spigotref15_New.L1_eq (n : Int) (l1 : (List Int)) : spigotref15_New.L1 n l1 =
  (spigotref15_Made.F n ([] : List Int)).bind fun r0 =>
  some (r0.1, 0, ()) := res_eq (by kernel_rfl)
theorem spigotref15_New.F_eq (n : Int) : spigotref15_New.F n =
  bif (decide ((n : Int) < 1)) then
    some ((([] : List Int), ([] : List Int), 0, 0, ()), 2, ())
  else
    bif (decide ((n : Int) > 16)) then
      some ((([] : List Int), ([] : List Int), 0, 0, ()), 2, ())
    else
      spigotref15_New.L1 n ([] : List Int) := by kernel_rfl
/-! ### spigot/spigotref16.New (58) -/
noncomputable def spigotref16_New.sg : Sig := ⟨[.val (.int .i64)], [(t5, true), ((.int .i64), true)]⟩
noncomputable def spigotref16_New.E : Env := ⟨tl, fun i => look i [(87, spigotref13_New.Fn), (88, spigotref15_New.Fn)], [], eqs, globs, prims⟩
noncomputable def spigotref16_New.c := cxOf spigotref16_New.E spigotref16_New.sg Try.f58
noncomputable def spigotref16_New.b := body Try.f58
noncomputable def spigotref16_New.Fn : Fun := fnOf spigotref16_New.E spigotref16_New.sg Try.f58
noncomputable def spigotref16_New.F (n : Int) : Option (t5.den × Int × Unit) := spigotref16_New.Fn.F (n, ())
noncomputable def spigotref16_New.S1 (n : Int) (l1 : (List Int)) (l2 : (List t1.den)) (l3 : (List Int)) (l4 : (List Bool)) (l5 : (List t3.den)) : St := ⟨[(0, (.v (.int .i64) n)), (2, (.ptr 0 []))], [(0, some (.box (.agg [(.v (.int .i64) 0), (.sl 1), (.sl 2), (.agg [(.sl 3), (.sl 4), (.v (.int .i64) 0)]), (.sl 5), (.agg [(.sl 6), (.sl 7), (.v (.int .i64) 0), (.v (.int .i64) 0)])]))), (1, some (.row (.int .u32) l1 false)), (2, some (.row t1 l2 false)), (3, some (.row (.int .i64) l3 false)), (4, some (.row .bool l4 false)), (5, some (.row t3 l5 false)), (6, some (.row (.int .i64) l3 false)), (7, some (.row (.int .i64) l3 false))], 8, []⟩
noncomputable def spigotref16_New.L1 (n : Int) (l1 : (List Int)) (l2 : (List t1.den)) (l3 : (List Int)) (l4 : (List Bool)) (l5 : (List t3.den)) : Option (t5.den × Int × Unit) := res spigotref16_New.c (atJoin spigotref16_New.b [1, 0, 1]) (spigotref16_New.S1 n l1 l2 l3 l4 l5)
theorem spigotref16_New.spec : FnSpec Try.prog globs 58 spigotref16_New.Fn := spec_of (E := spigotref16_New.E) (envOk_at tabOk eqOk primsOk (.cons spigotref13_New.spec <| .cons spigotref15_New.spec <| .nil)) mixOk Try.func58 (by kernel_rfl)
theorem spigotref16_New.L1_eq (n : Int) (l1 : (List Int)) (l2 : (List t1.den)) (l3 : (List Int)) (l4 : (List Bool)) (l5 : (List t3.den)) : spigotref16_New.L1 n l1 l2 l3 l4 l5 =
  bif (decide ((0 : Int) ≤ n ∧ (n : Int) ≤ n) && (lim (Int.toNat n) (.int .u32))) then
    bif (decide ((0 : Int) ≤ n ∧ (n : Int) ≤ n) && (lim (Int.toNat n) t1)) then
      bif (decide ((0 : Int) ≤ 16 ∧ (16 : Int) ≤ 16) && (lim (Int.toNat 16) t3)) then
        (spigotref13_New.F n).bind fun r0 =>
        (spigotref15_New.F n).bind fun r1 =>
        some ((n, (List.replicate (Int.toNat n) (0 : Int)), (List.replicate (Int.toNat n) ((0, 0, 0, ()), 0, 0, 0, ())), r0.1, (List.replicate (Int.toNat 16) (0, 0, false, ())), r1.1, ()), 0, ())
      else none
    else none
  else none := res_eq (by kernel_rfl)
theorem spigotref16_New.F_eq (n : Int) : spigotref16_New.F n =
  bif (decide ((n : Int) < 1)) then
    some ((0, ([] : List Int), ([] : List t1.den), (([] : List Int), ([] : List Bool), 0, ()), ([] : List t3.den), (([] : List Int), ([] : List Int), 0, 0, ()), ()), 2, ())
  else
    bif (decide ((n : Int) > 8)) then
      some ((0, ([] : List Int), ([] : List t1.den), (([] : List Int), ([] : List Bool), 0, ()), ([] : List t3.den), (([] : List Int), ([] : List Int), 0, 0, ()), ()), 2, ())
    else
      spigotref16_New.L1 n ([] : List Int) ([] : List t1.den) ([] : List Int) ([] : List Bool) ([] : List t3.den) := by kernel_rfl
/-! ### spigot/spigotref03.Full (59) -/
noncomputable def spigotref03_Full.sg : Sig := ⟨[.val t0, .val (.int .u64)], [(t1, true), ((.int .i64), true)]⟩
noncomputable def spigotref03_Full.E : Env := ⟨tl, fun i => look i [(66, spigotref03_CheckLimit.Fn)], [], eqs, globs, prims⟩
noncomputable def spigotref03_Full.c := cxOf spigotref03_Full.E spigotref03_Full.sg Try.f59
noncomputable def spigotref03_Full.b := body Try.f59
noncomputable def spigotref03_Full.Fn : Fun := fnOf spigotref03_Full.E spigotref03_Full.sg Try.f59
noncomputable def spigotref03_Full.F (l : t0.den) (at_ : Int) : Option (t1.den × Int × Unit) := spigotref03_Full.Fn.F (l, at_, ())
noncomputable def spigotref03_Full.S1 (at_ : Int) (b0 : Int) (b02 : Int) (b03 : Int) : St := ⟨[(1, (.v (.int .u64) at_)), (2, (.ptr 0 [])), (4, (.ptr 1 []))], [(0, some (.box (.agg [(.v (.int .i64) b0), (.v (.int .i64) b02), (.v (.int .i64) b03)]))), (1, some (.box (.agg [(.agg [(.v (.int .i64) 0), (.v (.int .i64) 0), (.v (.int .i64) 0)]), (.v (.int .i64) 0), (.v (.int .i64) 0), (.v (.int .u64) 0)])))], 2, []⟩
noncomputable def spigotref03_Full.L1 (at_ : Int) (b0 : Int) (b02 : Int) (b03 : Int) : Option (t1.den × Int × Unit) := res spigotref03_Full.c (atJoin spigotref03_Full.b [1, 0, 1]) (spigotref03_Full.S1 at_ b0 b02 b03)
theorem spigotref03_Full.spec : FnSpec Try.prog globs 59 spigotref03_Full.Fn := spec_of (E := spigotref03_Full.E) (envOk_at tabOk eqOk primsOk (.cons spigotref03_CheckLimit.spec <| .nil)) mixOk Try.func59 (by kernel_rfl)
theorem spigotref03_Full.L1_eq (at_ : Int) (b0 : Int) (b02 : Int) (b03 : Int) : spigotref03_Full.L1 at_ b0 b02 b03 =
  some (((b0, b02, b03, ()), b0, 0, at_, ()), 0, ()) := res_eq (by kernel_rfl)
theorem spigotref03_Full.F_eq (l : t0.den) (at_ : Int) : spigotref03_Full.F l at_ =
  (spigotref03_CheckLimit.F l).bind fun r0 =>
  bif (r0.1 != 0) then
    (spigotref03_CheckLimit.F l).bind fun r1 =>
    some (((0, 0, 0, ()), 0, 0, 0, ()), r1.1, ())
  else
    spigotref03_Full.L1 at_ l.1 l.2.1 l.2.2.1 := by kernel_rfl
/-! ### spigot/spigotref18.New (36) -/
noncomputable def spigotref18_New.sg : Sig := ⟨[.val (.int .u32), .val (.arr 3 t0), .val (.int .i64), .val (.int .i64), .val (.int .u64)], [(t7, true), ((.int .i64), true)]⟩
noncomputable def spigotref18_New.E : Env := ⟨tl, fun i => look i [(43, spigotref18_Limited.Fn), (58, spigotref16_New.Fn), (59, spigotref03_Full.Fn)], [], eqs, globs, prims⟩
noncomputable def spigotref18_New.c := cxOf spigotref18_New.E spigotref18_New.sg Try.f36
noncomputable def spigotref18_New.b := body Try.f36
noncomputable def spigotref18_New.Fn : Fun := fnOf spigotref18_New.E spigotref18_New.sg Try.f36
noncomputable def spigotref18_New.F (tenant : Int) (l : (List t0.den)) (users : Int) (ends : Int) (tick : Int) : Option (t7.den × Int × Unit) := spigotref18_New.Fn.F (tenant, l, users, ends, tick, ())
noncomputable def spigotref18_New.S1 (tenant : Int) (tick : Int) (b0 : (List t0.den)) (b1 : (List t0.den)) (b2 : Int) (b22 : Int) (b23 : Int) (b24 : Int) (b3 : Int) (b32 : Int) (b33 : Int) (b34 : Int) (l4 : (List Int)) (l5 : (List t1.den)) (l6 : (List Int)) (l7 : (List Bool)) (l8 : (List t3.den)) (l19 : (List Int)) (l20 : (List t1.den)) (l21 : (List Int)) (l22 : (List Bool)) (l23 : (List t3.den)) (l24 : (List Int)) (l25 : (List Int)) (l26 : (List Int)) (l27 : (List t1.den)) (l28 : (List Int)) (l29 : (List Bool)) (l30 : (List t3.den)) (l31 : (List Int)) (l32 : (List Int)) : St := ⟨[(0, (.v (.int .u32) tenant)), (4, (.v (.int .u64) tick)), (6, (.ptr 0 [])), (10, (.ptr 1 [])), (12, (.ptr 2 [])), (14, (.ptr 3 []))], [(0, some (.box (.v (.arr 3 t0) b0))), (1, some (.box (.agg [(.v (.int .u32) 0), (.v (.arr 3 t0) b1), (.agg [(.agg [(.v (.int .i64) 0), (.v (.int .i64) 0), (.v (.int .i64) 0)]), (.v (.int .i64) 0), (.v (.int .i64) 0), (.v (.int .u64) 0)]), (.agg [(.v (.int .i64) 0), (.sl 4), (.sl 5), (.agg [(.sl 6), (.sl 7), (.v (.int .i64) 0)]), (.sl 8), (.agg [(.sl 9), (.sl 10), (.v (.int .i64) 0), (.v (.int .i64) 0)])]), (.agg [(.v (.int .i64) 0), (.sl 11), (.sl 12), (.agg [(.sl 13), (.sl 14), (.v (.int .i64) 0)]), (.sl 15), (.agg [(.sl 16), (.sl 17), (.v (.int .i64) 0), (.v (.int .i64) 0)])]), (.sl 18), (.agg [(.v (.int .u64) 0), (.v (.int .u64) 0), (.v (.int .u64) 0)])]))), (2, some (.box (.agg [(.v (.int .i64) b2), (.sl 19), (.sl 20), (.agg [(.sl 21), (.sl 22), (.v (.int .i64) b22)]), (.sl 23), (.agg [(.sl 24), (.sl 25), (.v (.int .i64) b23), (.v (.int .i64) b24)])]))), (3, some (.box (.agg [(.v (.int .i64) b3), (.sl 26), (.sl 27), (.agg [(.sl 28), (.sl 29), (.v (.int .i64) b32)]), (.sl 30), (.agg [(.sl 31), (.sl 32), (.v (.int .i64) b33), (.v (.int .i64) b34)])]))), (4, some (.row (.int .u32) l4 false)), (5, some (.row t1 l5 false)), (6, some (.row (.int .i64) l6 false)), (7, some (.row .bool l7 false)), (8, some (.row t3 l8 false)), (9, some (.row (.int .i64) l6 false)), (10, some (.row (.int .i64) l6 false)), (11, some (.row (.int .u32) l4 false)), (12, some (.row t1 l5 false)), (13, some (.row (.int .i64) l6 false)), (14, some (.row .bool l7 false)), (15, some (.row t3 l8 false)), (16, some (.row (.int .i64) l6 false)), (17, some (.row (.int .i64) l6 false)), (18, some (.row (.int .u32) l4 false)), (19, some (.row (.int .u32) l19 false)), (20, some (.row t1 l20 false)), (21, some (.row (.int .i64) l21 false)), (22, some (.row .bool l22 false)), (23, some (.row t3 l23 false)), (24, some (.row (.int .i64) l24 false)), (25, some (.row (.int .i64) l25 false)), (26, some (.row (.int .u32) l26 false)), (27, some (.row t1 l27 false)), (28, some (.row (.int .i64) l28 false)), (29, some (.row .bool l29 false)), (30, some (.row t3 l30 false)), (31, some (.row (.int .i64) l31 false)), (32, some (.row (.int .i64) l32 false))], 33, []⟩
noncomputable def spigotref18_New.L1 (tenant : Int) (tick : Int) (b0 : (List t0.den)) (b1 : (List t0.den)) (b2 : Int) (b22 : Int) (b23 : Int) (b24 : Int) (b3 : Int) (b32 : Int) (b33 : Int) (b34 : Int) (l4 : (List Int)) (l5 : (List t1.den)) (l6 : (List Int)) (l7 : (List Bool)) (l8 : (List t3.den)) (l19 : (List Int)) (l20 : (List t1.den)) (l21 : (List Int)) (l22 : (List Bool)) (l23 : (List t3.den)) (l24 : (List Int)) (l25 : (List Int)) (l26 : (List Int)) (l27 : (List t1.den)) (l28 : (List Int)) (l29 : (List Bool)) (l30 : (List t3.den)) (l31 : (List Int)) (l32 : (List Int)) : Option (t7.den × Int × Unit) := res spigotref18_New.c (atJoin spigotref18_New.b [1, 1, 1, 0, 1]) (spigotref18_New.S1 tenant tick b0 b1 b2 b22 b23 b24 b3 b32 b33 b34 l4 l5 l6 l7 l8 l19 l20 l21 l22 l23 l24 l25 l26 l27 l28 l29 l30 l31 l32)
noncomputable def spigotref18_New.S2 (tenant : Int) (tick : Int) (b0 : (List t0.den)) (b1 : (List t0.den)) (b2 : Int) (b22 : Int) (b23 : Int) (b24 : Int) (b3 : Int) (b32 : Int) (b33 : Int) (b34 : Int) (l4 : (List Int)) (l5 : (List t1.den)) (l6 : (List Int)) (l7 : (List Bool)) (l8 : (List t3.den)) (l19 : (List Int)) (l20 : (List t1.den)) (l21 : (List Int)) (l22 : (List Bool)) (l23 : (List t3.den)) (l24 : (List Int)) (l25 : (List Int)) (l26 : (List Int)) (l27 : (List t1.den)) (l28 : (List Int)) (l29 : (List Bool)) (l30 : (List t3.den)) (l31 : (List Int)) (l32 : (List Int)) : St := ⟨[(0, (.v (.int .u32) tenant)), (4, (.v (.int .u64) tick)), (6, (.ptr 0 [])), (10, (.ptr 1 [])), (12, (.ptr 2 [])), (14, (.ptr 3 []))], [(0, some (.box (.v (.arr 3 t0) b0))), (1, some (.box (.agg [(.v (.int .u32) 0), (.v (.arr 3 t0) b1), (.agg [(.agg [(.v (.int .i64) 0), (.v (.int .i64) 0), (.v (.int .i64) 0)]), (.v (.int .i64) 0), (.v (.int .i64) 0), (.v (.int .u64) 0)]), (.agg [(.v (.int .i64) 0), (.sl 4), (.sl 5), (.agg [(.sl 6), (.sl 7), (.v (.int .i64) 0)]), (.sl 8), (.agg [(.sl 9), (.sl 10), (.v (.int .i64) 0), (.v (.int .i64) 0)])]), (.agg [(.v (.int .i64) 0), (.sl 11), (.sl 12), (.agg [(.sl 13), (.sl 14), (.v (.int .i64) 0)]), (.sl 15), (.agg [(.sl 16), (.sl 17), (.v (.int .i64) 0), (.v (.int .i64) 0)])]), (.sl 18), (.agg [(.v (.int .u64) 0), (.v (.int .u64) 0), (.v (.int .u64) 0)])]))), (2, some (.box (.agg [(.v (.int .i64) b2), (.sl 19), (.sl 20), (.agg [(.sl 21), (.sl 22), (.v (.int .i64) b22)]), (.sl 23), (.agg [(.sl 24), (.sl 25), (.v (.int .i64) b23), (.v (.int .i64) b24)])]))), (3, some (.box (.agg [(.v (.int .i64) b3), (.sl 26), (.sl 27), (.agg [(.sl 28), (.sl 29), (.v (.int .i64) b32)]), (.sl 30), (.agg [(.sl 31), (.sl 32), (.v (.int .i64) b33), (.v (.int .i64) b34)])]))), (4, some (.row (.int .u32) l4 false)), (5, some (.row t1 l5 false)), (6, some (.row (.int .i64) l6 false)), (7, some (.row .bool l7 false)), (8, some (.row t3 l8 false)), (9, some (.row (.int .i64) l6 false)), (10, some (.row (.int .i64) l6 false)), (11, some (.row (.int .u32) l4 false)), (12, some (.row t1 l5 false)), (13, some (.row (.int .i64) l6 false)), (14, some (.row .bool l7 false)), (15, some (.row t3 l8 false)), (16, some (.row (.int .i64) l6 false)), (17, some (.row (.int .i64) l6 false)), (18, some (.row (.int .u32) l4 false)), (19, some (.row (.int .u32) l19 false)), (20, some (.row t1 l20 false)), (21, some (.row (.int .i64) l21 false)), (22, some (.row .bool l22 false)), (23, some (.row t3 l23 false)), (24, some (.row (.int .i64) l24 false)), (25, some (.row (.int .i64) l25 false)), (26, some (.row (.int .u32) l26 false)), (27, some (.row t1 l27 false)), (28, some (.row (.int .i64) l28 false)), (29, some (.row .bool l29 false)), (30, some (.row t3 l30 false)), (31, some (.row (.int .i64) l31 false)), (32, some (.row (.int .i64) l32 false))], 33, []⟩
noncomputable def spigotref18_New.L2 (tenant : Int) (tick : Int) (b0 : (List t0.den)) (b1 : (List t0.den)) (b2 : Int) (b22 : Int) (b23 : Int) (b24 : Int) (b3 : Int) (b32 : Int) (b33 : Int) (b34 : Int) (l4 : (List Int)) (l5 : (List t1.den)) (l6 : (List Int)) (l7 : (List Bool)) (l8 : (List t3.den)) (l19 : (List Int)) (l20 : (List t1.den)) (l21 : (List Int)) (l22 : (List Bool)) (l23 : (List t3.den)) (l24 : (List Int)) (l25 : (List Int)) (l26 : (List Int)) (l27 : (List t1.den)) (l28 : (List Int)) (l29 : (List Bool)) (l30 : (List t3.den)) (l31 : (List Int)) (l32 : (List Int)) : Option (t7.den × Int × Unit) := res spigotref18_New.c (atJoin spigotref18_New.b [1, 1, 1, 1, 0, 1]) (spigotref18_New.S2 tenant tick b0 b1 b2 b22 b23 b24 b3 b32 b33 b34 l4 l5 l6 l7 l8 l19 l20 l21 l22 l23 l24 l25 l26 l27 l28 l29 l30 l31 l32)
theorem spigotref18_New.spec : FnSpec Try.prog globs 36 spigotref18_New.Fn := spec_of (E := spigotref18_New.E) (envOk_at tabOk eqOk primsOk (.cons spigotref18_Limited.spec <| .cons spigotref16_New.spec <| .cons spigotref03_Full.spec <| .nil)) mixOk Try.func36 (by kernel_rfl)
theorem spigotref18_New.L1_eq (tenant : Int) (tick : Int) (b0 : (List t0.den)) (b1 : (List t0.den)) (b2 : Int) (b22 : Int) (b23 : Int) (b24 : Int) (b3 : Int) (b32 : Int) (b33 : Int) (b34 : Int) (l4 : (List Int)) (l5 : (List t1.den)) (l6 : (List Int)) (l7 : (List Bool)) (l8 : (List t3.den)) (l19 : (List Int)) (l20 : (List t1.den)) (l21 : (List Int)) (l22 : (List Bool)) (l23 : (List t3.den)) (l24 : (List Int)) (l25 : (List Int)) (l26 : (List Int)) (l27 : (List t1.den)) (l28 : (List Int)) (l29 : (List Bool)) (l30 : (List t3.den)) (l31 : (List Int)) (l32 : (List Int)) : spigotref18_New.L1 tenant tick b0 b1 b2 b22 b23 b24 b3 b32 b33 b34 l4 l5 l6 l7 l8 l19 l20 l21 l22 l23 l24 l25 l26 l27 l28 l29 l30 l31 l32 =
  (spigotref18_Limited.F b0).bind fun r0 =>
  bif (!r0.1) then
    some ((0, (List.replicate 3 (0, 0, 0, ())), ((0, 0, 0, ()), 0, 0, 0, ()), (0, ([] : List Int), ([] : List t1.den), (([] : List Int), ([] : List Bool), 0, ()), ([] : List t3.den), (([] : List Int), ([] : List Int), 0, 0, ()), ()), (0, ([] : List Int), ([] : List t1.den), (([] : List Int), ([] : List Bool), 0, ()), ([] : List t3.den), (([] : List Int), ([] : List Int), 0, 0, ()), ()), ([] : List Int), (0, 0, 0, ()), ()), 8, ())
  else
    spigotref18_New.L2 tenant tick b0 b1 b2 b22 b23 b24 b3 b32 b33 b34 l4 l5 l6 l7 l8 l19 l20 l21 l22 l23 l24 l25 l26 l27 l28 l29 l30 l31 l32 := res_eq (by kernel_rfl)
theorem spigotref18_New.L2_eq (tenant : Int) (tick : Int) (b0 : (List t0.den)) (b1 : (List t0.den)) (b2 : Int) (b22 : Int) (b23 : Int) (b24 : Int) (b3 : Int) (b32 : Int) (b33 : Int) (b34 : Int) (l4 : (List Int)) (l5 : (List t1.den)) (l6 : (List Int)) (l7 : (List Bool)) (l8 : (List t3.den)) (l19 : (List Int)) (l20 : (List t1.den)) (l21 : (List Int)) (l22 : (List Bool)) (l23 : (List t3.den)) (l24 : (List Int)) (l25 : (List Int)) (l26 : (List Int)) (l27 : (List t1.den)) (l28 : (List Int)) (l29 : (List Bool)) (l30 : (List t3.den)) (l31 : (List Int)) (l32 : (List Int)) : spigotref18_New.L2 tenant tick b0 b1 b2 b22 b23 b24 b3 b32 b33 b34 l4 l5 l6 l7 l8 l19 l20 l21 l22 l23 l24 l25 l26 l27 l28 l29 l30 l31 l32 =
  bif (decide ((0 : Int) ≤ 0 ∧ (0 : Int) < 3)) then
    (spigotref03_Full.F (List.getD b0 (Int.toNat 0) (0, 0, 0, ())) tick).bind fun r0 =>
    some ((tenant, b0, r0.1, (b2, l19, l20, (l21, l22, b22, ()), l23, (l24, l25, b23, b24, ()), ()), (b3, l26, l27, (l28, l29, b32, ()), l30, (l31, l32, b33, b34, ()), ()), ([] : List Int), (0, 0, 0, ()), ()), 0, ())
  else none := res_eq (by kernel_rfl)
theorem spigotref18_New.F_eq (tenant : Int) (l : (List t0.den)) (users : Int) (ends : Int) (tick : Int) : spigotref18_New.F tenant l users ends tick =
  (spigotref16_New.F users).bind fun r0 =>
  (spigotref16_New.F ends).bind fun r1 =>
  bif (decide ((tenant : Int) ≥ 16)) then
    some ((0, (List.replicate 3 (0, 0, 0, ())), ((0, 0, 0, ()), 0, 0, 0, ()), (0, ([] : List Int), ([] : List t1.den), (([] : List Int), ([] : List Bool), 0, ()), ([] : List t3.den), (([] : List Int), ([] : List Int), 0, 0, ()), ()), (0, ([] : List Int), ([] : List t1.den), (([] : List Int), ([] : List Bool), 0, ()), ([] : List t3.den), (([] : List Int), ([] : List Int), 0, 0, ()), ()), ([] : List Int), (0, 0, 0, ()), ()), 2, ())
  else
    bif (r0.2.1 != 0) then
      some ((0, (List.replicate 3 (0, 0, 0, ())), ((0, 0, 0, ()), 0, 0, 0, ()), (0, ([] : List Int), ([] : List t1.den), (([] : List Int), ([] : List Bool), 0, ()), ([] : List t3.den), (([] : List Int), ([] : List Int), 0, 0, ()), ()), (0, ([] : List Int), ([] : List t1.den), (([] : List Int), ([] : List Bool), 0, ()), ([] : List t3.den), (([] : List Int), ([] : List Int), 0, 0, ()), ()), ([] : List Int), (0, 0, 0, ()), ()), 2, ())
    else
      bif (r1.2.1 != 0) then
        some ((0, (List.replicate 3 (0, 0, 0, ())), ((0, 0, 0, ()), 0, 0, 0, ()), (0, ([] : List Int), ([] : List t1.den), (([] : List Int), ([] : List Bool), 0, ()), ([] : List t3.den), (([] : List Int), ([] : List Int), 0, 0, ()), ()), (0, ([] : List Int), ([] : List t1.den), (([] : List Int), ([] : List Bool), 0, ()), ([] : List t3.den), (([] : List Int), ([] : List Int), 0, 0, ()), ()), ([] : List Int), (0, 0, 0, ()), ()), 2, ())
      else
        spigotref18_New.L1 tenant tick l (List.replicate 3 (0, 0, 0, ())) r0.1.1 r0.1.2.2.2.1.2.2.1 r0.1.2.2.2.2.2.1.2.2.1 r0.1.2.2.2.2.2.1.2.2.2.1 r1.1.1 r1.1.2.2.2.1.2.2.1 r1.1.2.2.2.2.2.1.2.2.1 r1.1.2.2.2.2.2.1.2.2.2.1 ([] : List Int) ([] : List t1.den) ([] : List Int) ([] : List Bool) ([] : List t3.den) r0.1.2.1 r0.1.2.2.1 r0.1.2.2.2.1.1 r0.1.2.2.2.1.2.1 r0.1.2.2.2.2.1 r0.1.2.2.2.2.2.1.1 r0.1.2.2.2.2.2.1.2.1 r1.1.2.1 r1.1.2.2.1 r1.1.2.2.2.1.1 r1.1.2.2.2.1.2.1 r1.1.2.2.2.2.1 r1.1.2.2.2.2.2.1.1 r1.1.2.2.2.2.2.1.2.1 := by kernel_rfl
/-! ### spigot/spigotlaw19.of (11) -/
noncomputable def spigotlaw19_of.sg : Sig := ⟨[.val (.int .u32)], [(t7, true)]⟩
noncomputable def spigotlaw19_of.E : Env := ⟨tl, fun i => look i [(36, spigotref18_New.Fn)], [], eqs, globs, prims⟩
noncomputable def spigotlaw19_of.c := cxOf spigotlaw19_of.E spigotlaw19_of.sg Try.f11
noncomputable def spigotlaw19_of.b := body Try.f11
noncomputable def spigotlaw19_of.Fn : Fun := fnOf spigotlaw19_of.E spigotlaw19_of.sg Try.f11
noncomputable def spigotlaw19_of.F (tenant : Int) : Option (t7.den × Unit) := spigotlaw19_of.Fn.F (tenant, ())
theorem spigotlaw19_of.spec : FnSpec Try.prog globs 11 spigotlaw19_of.Fn := spec_of (E := spigotlaw19_of.E) (envOk_at tabOk eqOk primsOk (.cons spigotref18_New.spec <| .nil)) mixOk Try.func11 (by kernel_rfl)
theorem spigotlaw19_of.F_eq (tenant : Int) : spigotlaw19_of.F tenant =
  (spigotref18_New.F tenant ([(4, 1, 1, ()), (3, 1, 1, ()), (2, 1, 1, ())] : List t0.den) 2 2 0).bind fun r0 =>
  some (r0.1, ()) := by kernel_rfl
/-! ### spigot/registry.Tenants (24) -/
noncomputable def registry_Tenants.sg : Sig := ⟨[.val (.slice t7)], [((.slice (.int .u32)), true), ((.int .i64), true)]⟩
noncomputable def registry_Tenants.E : Env := ⟨tl, fun i => look i [(26, registry_Check.Fn)], [], eqs, globs, prims⟩
noncomputable def registry_Tenants.c := cxOf registry_Tenants.E registry_Tenants.sg Try.f24
noncomputable def registry_Tenants.b := body Try.f24
noncomputable def registry_Tenants.Fn : Fun := fnOf registry_Tenants.E registry_Tenants.sg Try.f24
noncomputable def registry_Tenants.F (l : (List t7.den)) : Option ((List Int) × Int × Unit) := registry_Tenants.Fn.F (l, ())
noncomputable def registry_Tenants.S1 (l : (List t7.den)) : St := ⟨[(0, (.v (.slice t7) l))], [], 0, []⟩
noncomputable def registry_Tenants.L1 (l : (List t7.den)) : Option ((List Int) × Int × Unit) := res registry_Tenants.c (atJoin registry_Tenants.b [1, 0, 1, 1]) (registry_Tenants.S1 l)
noncomputable def registry_Tenants.S2 (t13_ : (List t7.den)) (t14_ : Int) (t15_ : Int) (l0 : (List Int)) : St := ⟨[(5, (.sl 0)), (13, (.v (.slice t7) t13_)), (14, (.v (.int .i64) t14_)), (15, (.v (.int .i64) t15_))], [(0, some (.row (.int .u32) l0 false))], 1, []⟩
noncomputable def registry_Tenants.L2 (t13_ : (List t7.den)) (t14_ : Int) (t15_ : Int) (l0 : (List Int)) : Option ((List Int) × Int × Unit) := res registry_Tenants.c (atLoop registry_Tenants.b [1, 1, 1, 0, 1, 0]) (registry_Tenants.S2 t13_ t14_ t15_ l0)
noncomputable def registry_Tenants.S3 (t13_ : (List t7.den)) (t14_ : Int) (t15_ : Int) (l0 : (List Int)) : St := ⟨[(5, (.sl 0)), (13, (.v (.slice t7) t13_)), (14, (.v (.int .i64) t14_)), (15, (.v (.int .i64) t15_))], [(0, some (.row (.int .u32) l0 false))], 1, []⟩
noncomputable def registry_Tenants.L3 (t13_ : (List t7.den)) (t14_ : Int) (t15_ : Int) (l0 : (List Int)) : Option ((List Int) × Int × Unit) := res registry_Tenants.c (atJoin registry_Tenants.b [1, 1, 1, 0, 1, 0, 0, 1, 0]) (registry_Tenants.S3 t13_ t14_ t15_ l0)
theorem registry_Tenants.spec : FnSpec Try.prog globs 24 registry_Tenants.Fn := spec_of (E := registry_Tenants.E) (envOk_at tabOk eqOk primsOk (.cons registry_Check.spec <| .nil)) mixOk Try.func24 (by kernel_rfl)
theorem registry_Tenants.L1_eq (l : (List t7.den)) : registry_Tenants.L1 l =
  registry_Tenants.L2 l ((List.length l : Int)) 0 ([] : List Int) := res_eq (by kernel_rfl)
theorem registry_Tenants.L2_eq (t13_ : (List t7.den)) (t14_ : Int) (t15_ : Int) (l0 : (List Int)) : registry_Tenants.L2 t13_ t14_ t15_ l0 =
  bif (decide ((t15_ : Int) < t14_)) then
    registry_Tenants.L3 t13_ t14_ t15_ l0
  else
    some (l0, 0, ()) := res_eq (by kernel_rfl)
theorem registry_Tenants.L3_eq (t13_ : (List t7.den)) (t14_ : Int) (t15_ : Int) (l0 : (List Int)) : registry_Tenants.L3 t13_ t14_ t15_ l0 =
  bif (decide ((0 : Int) ≤ t15_ ∧ (t15_ : Int) < ((List.length t13_ : Int)))) then
    bif (lim ((List.length l0) + (List.length ([(List.getD t13_ (Int.toNat t15_) (0, (List.replicate 3 (0, 0, 0, ())), ((0, 0, 0, ()), 0, 0, 0, ()), (0, ([] : List Int), ([] : List t1.den), (([] : List Int), ([] : List Bool), 0, ()), ([] : List t3.den), (([] : List Int), ([] : List Int), 0, 0, ()), ()), (0, ([] : List Int), ([] : List t1.den), (([] : List Int), ([] : List Bool), 0, ()), ([] : List t3.den), (([] : List Int), ([] : List Int), 0, 0, ()), ()), ([] : List Int), (0, 0, 0, ()), ())).1] : List Int))) (.int .u32)) then
      registry_Tenants.L2 t13_ t14_ (IntKind.wrap .i64 (t15_ + 1)) (l0 ++ ([(List.getD t13_ (Int.toNat t15_) (0, (List.replicate 3 (0, 0, 0, ())), ((0, 0, 0, ()), 0, 0, 0, ()), (0, ([] : List Int), ([] : List t1.den), (([] : List Int), ([] : List Bool), 0, ()), ([] : List t3.den), (([] : List Int), ([] : List Int), 0, 0, ()), ()), (0, ([] : List Int), ([] : List t1.den), (([] : List Int), ([] : List Bool), 0, ()), ([] : List t3.den), (([] : List Int), ([] : List Int), 0, 0, ()), ()), ([] : List Int), (0, 0, 0, ()), ())).1] : List Int))
    else none
  else none := res_eq (by kernel_rfl)
theorem registry_Tenants.F_eq (l : (List t7.den)) : registry_Tenants.F l =
  (registry_Check.F l).bind fun r0 =>
  bif (r0.1 != 0) then
    some (([] : List Int), r0.1, ())
  else
    registry_Tenants.L1 l := by kernel_rfl
/-! ### spigot/spigotref16.SameKeys (27) -/
noncomputable def spigotref16_SameKeys.sg : Sig := ⟨[.val (.slice (.int .u32)), .val (.slice (.int .u32))], [(.bool, true)]⟩
noncomputable def spigotref16_SameKeys.E : Env := ⟨tl, fun i => look i [], [], eqs, globs, prims⟩
noncomputable def spigotref16_SameKeys.c := cxOf spigotref16_SameKeys.E spigotref16_SameKeys.sg Try.f27
noncomputable def spigotref16_SameKeys.b := body Try.f27
noncomputable def spigotref16_SameKeys.Fn : Fun := fnOf spigotref16_SameKeys.E spigotref16_SameKeys.sg Try.f27
noncomputable def spigotref16_SameKeys.F (a : (List Int)) (b : (List Int)) : Option (Bool × Unit) := spigotref16_SameKeys.Fn.F (a, b, ())
noncomputable def spigotref16_SameKeys.S1 (a : (List Int)) (b : (List Int)) : St := ⟨[(0, (.v (.slice (.int .u32)) a)), (1, (.v (.slice (.int .u32)) b))], [], 0, []⟩
noncomputable def spigotref16_SameKeys.L1 (a : (List Int)) (b : (List Int)) : Option (Bool × Unit) := res spigotref16_SameKeys.c (atJoin spigotref16_SameKeys.b [1, 0, 1]) (spigotref16_SameKeys.S1 a b)
noncomputable def spigotref16_SameKeys.S2 (a : (List Int)) (b : (List Int)) (i : Int) : St := ⟨[(0, (.v (.slice (.int .u32)) a)), (1, (.v (.slice (.int .u32)) b)), (5, (.v (.int .i64) i))], [], 0, []⟩
noncomputable def spigotref16_SameKeys.L2 (a : (List Int)) (b : (List Int)) (i : Int) : Option (Bool × Unit) := res spigotref16_SameKeys.c (atLoop spigotref16_SameKeys.b [1, 1, 0, 1, 0]) (spigotref16_SameKeys.S2 a b i)
noncomputable def spigotref16_SameKeys.S3 (a : (List Int)) (b : (List Int)) (i : Int) : St := ⟨[(0, (.v (.slice (.int .u32)) a)), (1, (.v (.slice (.int .u32)) b)), (5, (.v (.int .i64) i))], [], 0, []⟩
noncomputable def spigotref16_SameKeys.L3 (a : (List Int)) (b : (List Int)) (i : Int) : Option (Bool × Unit) := res spigotref16_SameKeys.c (atJoin spigotref16_SameKeys.b [1, 1, 0, 1, 0, 0, 0, 1]) (spigotref16_SameKeys.S3 a b i)
noncomputable def spigotref16_SameKeys.S4 (a : (List Int)) (b : (List Int)) (i : Int) : St := ⟨[(0, (.v (.slice (.int .u32)) a)), (1, (.v (.slice (.int .u32)) b)), (5, (.v (.int .i64) i))], [], 0, []⟩
noncomputable def spigotref16_SameKeys.L4 (a : (List Int)) (b : (List Int)) (i : Int) : Option (Bool × Unit) := res spigotref16_SameKeys.c (atJoin spigotref16_SameKeys.b [1, 1, 0, 1, 0, 0, 1, 0, 0, 1]) (spigotref16_SameKeys.S4 a b i)
theorem spigotref16_SameKeys.spec : FnSpec Try.prog globs 27 spigotref16_SameKeys.Fn := spec_of (E := spigotref16_SameKeys.E) (envOk_at tabOk eqOk primsOk (.nil)) mixOk Try.func27 (by kernel_rfl)
theorem spigotref16_SameKeys.L1_eq (a : (List Int)) (b : (List Int)) : spigotref16_SameKeys.L1 a b =
  spigotref16_SameKeys.L2 a b 0 := res_eq (by kernel_rfl)
theorem spigotref16_SameKeys.L2_eq (a : (List Int)) (b : (List Int)) (i : Int) : spigotref16_SameKeys.L2 a b i =
  bif (decide ((i : Int) < ((List.length a : Int)))) then
    spigotref16_SameKeys.L3 a b i
  else
    some (true, ()) := res_eq (by kernel_rfl)
theorem spigotref16_SameKeys.L3_eq (a : (List Int)) (b : (List Int)) (i : Int) : spigotref16_SameKeys.L3 a b i =
  bif (decide ((0 : Int) ≤ i ∧ (i : Int) < ((List.length a : Int)))) then
    bif (decide ((0 : Int) ≤ i ∧ (i : Int) < ((List.length b : Int)))) then
      bif ((List.getD a (Int.toNat i) 0) != (List.getD b (Int.toNat i) 0)) then
        some (false, ())
      else
        spigotref16_SameKeys.L4 a b i
    else none
  else none := res_eq (by kernel_rfl)
theorem spigotref16_SameKeys.L4_eq (a : (List Int)) (b : (List Int)) (i : Int) : spigotref16_SameKeys.L4 a b i =
  spigotref16_SameKeys.L2 a b (IntKind.wrap .i64 (i + 1)) := res_eq (by kernel_rfl)
theorem spigotref16_SameKeys.F_eq (a : (List Int)) (b : (List Int)) : spigotref16_SameKeys.F a b =
  bif (((List.length a : Int)) != ((List.length b : Int))) then
    some (false, ())
  else
    spigotref16_SameKeys.L1 a b := by kernel_rfl
/-! ### spigot/spigotlaw19.alive (8) -/
noncomputable def spigotlaw19_alive.sg : Sig := ⟨[], [(.bool, true)]⟩
noncomputable def spigotlaw19_alive.E : Env := ⟨tl, fun i => look i [(9, registry_Drop.Fn), (10, registry_Put.Fn), (11, spigotlaw19_of.Fn), (13, registry_Find.Fn), (24, registry_Tenants.Fn), (27, spigotref16_SameKeys.Fn)], [], eqs, globs, prims⟩
noncomputable def spigotlaw19_alive.c := cxOf spigotlaw19_alive.E spigotlaw19_alive.sg Try.f8
noncomputable def spigotlaw19_alive.b := body Try.f8
noncomputable def spigotlaw19_alive.Fn : Fun := fnOf spigotlaw19_alive.E spigotlaw19_alive.sg Try.f8
noncomputable def spigotlaw19_alive.F : Option (Bool × Unit) := spigotlaw19_alive.Fn.F ()
theorem spigotlaw19_alive.spec : FnSpec Try.prog globs 8 spigotlaw19_alive.Fn := spec_of (E := spigotlaw19_alive.E) (envOk_at tabOk eqOk primsOk (.cons registry_Drop.spec <| .cons registry_Put.spec <| .cons spigotlaw19_of.spec <| .cons registry_Find.spec <| .cons registry_Tenants.spec <| .cons spigotref16_SameKeys.spec <| .nil)) mixOk Try.func8 (by kernel_rfl)
theorem spigotlaw19_alive.F_eq : spigotlaw19_alive.F =
  (spigotlaw19_of.F 3).bind fun r0 =>
  (registry_Put.F ([] : List t7.den) r0.1).bind fun r1 =>
  (spigotlaw19_of.F 1).bind fun r2 =>
  (registry_Put.F r1.1 r2.1).bind fun r3 =>
  (spigotlaw19_of.F 9).bind fun r4 =>
  (registry_Put.F r3.1 r4.1).bind fun r5 =>
  (registry_Tenants.F r5.1).bind fun r6 =>
  (registry_Drop.F r5.1 3).bind fun r7 =>
  (registry_Find.F r7.1 9).bind fun r8 =>
  bif (r1.2.1 == 0) then
    bif (r3.2.1 == 0) then
      bif (r5.2.1 == 0) then
        bif (r6.2.1 == 0) then
          bif (r7.2.1 == 0) then
            bif (r8.2.1 == 0) then
              (spigotref16_SameKeys.F r6.1 ([1, 3, 9] : List Int)).bind fun r9 =>
              bif r9.1 then
                some ((r8.1 == 1), ())
              else
                some (false, ())
            else
              some (false, ())
          else
            some (false, ())
        else
          some (false, ())
      else
        some (false, ())
    else
      some (false, ())
  else
    some (false, ()) := by kernel_rfl
/-! ### spigot/spigotref03.Check (44) -/
noncomputable def spigotref03_Check.sg : Sig := ⟨[.val t1], [((.int .i64), true)]⟩
noncomputable def spigotref03_Check.E : Env := ⟨tl, fun i => look i [(66, spigotref03_CheckLimit.Fn)], [], eqs, globs, prims⟩
noncomputable def spigotref03_Check.c := cxOf spigotref03_Check.E spigotref03_Check.sg Try.f44
noncomputable def spigotref03_Check.b := body Try.f44
noncomputable def spigotref03_Check.Fn : Fun := fnOf spigotref03_Check.E spigotref03_Check.sg Try.f44
noncomputable def spigotref03_Check.F (b : t1.den) : Option (Int × Unit) := spigotref03_Check.Fn.F (b, ())
noncomputable def spigotref03_Check.S1 : St := ⟨[], [], 0, []⟩
noncomputable def spigotref03_Check.L1 : Option (Int × Unit) := res spigotref03_Check.c (atJoin spigotref03_Check.b [1, 0, 1]) (spigotref03_Check.S1)
theorem spigotref03_Check.spec : FnSpec Try.prog globs 44 spigotref03_Check.Fn := spec_of (E := spigotref03_Check.E) (envOk_at tabOk eqOk primsOk (.cons spigotref03_CheckLimit.spec <| .nil)) mixOk Try.func44 (by kernel_rfl)
theorem spigotref03_Check.L1_eq : spigotref03_Check.L1 =
  some (0, ()) := res_eq (by kernel_rfl)
theorem spigotref03_Check.F_eq (b : t1.den) : spigotref03_Check.F b =
  (spigotref03_CheckLimit.F b.1).bind fun r0 =>
  bif (r0.1 != 0) then
    some (8, ())
  else
    bif (decide ((b.2.1 : Int) < 0)) then
      some (8, ())
    else
      bif (decide ((b.2.1 : Int) > b.1.1)) then
        some (8, ())
      else
        bif (decide ((b.2.2.1 : Int) < 0)) then
          some (8, ())
        else
          bif (decide ((b.2.2.1 : Int) ≥ b.1.2.2.1)) then
            some (8, ())
          else
            bif (b.2.1 == b.1.1) then
              bif (b.2.2.1 != 0) then
                some (8, ())
              else
                spigotref03_Check.L1
            else
              spigotref03_Check.L1 := by kernel_rfl
/-! ### spigot/spigotref13.In (73) -/
noncomputable def spigotref13_In.sg : Sig := ⟨[.val (.slice (.int .i64)), .val (.int .i64)], [(.bool, true)]⟩
noncomputable def spigotref13_In.E : Env := ⟨tl, fun i => look i [], [], eqs, globs, prims⟩
noncomputable def spigotref13_In.c := cxOf spigotref13_In.E spigotref13_In.sg Try.f73
noncomputable def spigotref13_In.b := body Try.f73
noncomputable def spigotref13_In.Fn : Fun := fnOf spigotref13_In.E spigotref13_In.sg Try.f73
noncomputable def spigotref13_In.F (l : (List Int)) (n : Int) : Option (Bool × Unit) := spigotref13_In.Fn.F (l, n, ())
noncomputable def spigotref13_In.S1 (l : (List Int)) (n : Int) (i : Int) : St := ⟨[(0, (.v (.slice (.int .i64)) l)), (1, (.v (.int .i64) n)), (5, (.v (.int .i64) i))], [], 0, []⟩
noncomputable def spigotref13_In.L1 (l : (List Int)) (n : Int) (i : Int) : Option (Bool × Unit) := res spigotref13_In.c (atLoop spigotref13_In.b [1, 0, 1, 0]) (spigotref13_In.S1 l n i)
noncomputable def spigotref13_In.S2 (l : (List Int)) (n : Int) (i : Int) : St := ⟨[(0, (.v (.slice (.int .i64)) l)), (1, (.v (.int .i64) n)), (5, (.v (.int .i64) i))], [], 0, []⟩
noncomputable def spigotref13_In.L2 (l : (List Int)) (n : Int) (i : Int) : Option (Bool × Unit) := res spigotref13_In.c (atJoin spigotref13_In.b [1, 0, 1, 0, 0, 0, 1]) (spigotref13_In.S2 l n i)
noncomputable def spigotref13_In.S3 (l : (List Int)) (n : Int) (i : Int) : St := ⟨[(0, (.v (.slice (.int .i64)) l)), (1, (.v (.int .i64) n)), (5, (.v (.int .i64) i))], [], 0, []⟩
noncomputable def spigotref13_In.L3 (l : (List Int)) (n : Int) (i : Int) : Option (Bool × Unit) := res spigotref13_In.c (atJoin spigotref13_In.b [1, 0, 1, 0, 0, 1, 0, 0, 1]) (spigotref13_In.S3 l n i)
theorem spigotref13_In.spec : FnSpec Try.prog globs 73 spigotref13_In.Fn := spec_of (E := spigotref13_In.E) (envOk_at tabOk eqOk primsOk (.nil)) mixOk Try.func73 (by kernel_rfl)
theorem spigotref13_In.L1_eq (l : (List Int)) (n : Int) (i : Int) : spigotref13_In.L1 l n i =
  bif (decide ((i : Int) < ((List.length l : Int)))) then
    spigotref13_In.L2 l n i
  else
    some (false, ()) := res_eq (by kernel_rfl)
theorem spigotref13_In.L2_eq (l : (List Int)) (n : Int) (i : Int) : spigotref13_In.L2 l n i =
  bif (decide ((0 : Int) ≤ i ∧ (i : Int) < ((List.length l : Int)))) then
    bif ((List.getD l (Int.toNat i) 0) == n) then
      some (true, ())
    else
      spigotref13_In.L3 l n i
  else none := res_eq (by kernel_rfl)
theorem spigotref13_In.L3_eq (l : (List Int)) (n : Int) (i : Int) : spigotref13_In.L3 l n i =
  spigotref13_In.L1 l n (IntKind.wrap .i64 (i + 1)) := res_eq (by kernel_rfl)
theorem spigotref13_In.F_eq (l : (List Int)) (n : Int) : spigotref13_In.F l n =
  spigotref13_In.L1 l n 0 := by kernel_rfl
/-! ### spigot/spigotref13.Free (92) -/
noncomputable def spigotref13_Free.sg : Sig := ⟨[.val t2], [((.slice (.int .i64)), true), (.bool, true)]⟩
noncomputable def spigotref13_Free.E : Env := ⟨tl, fun i => look i [(73, spigotref13_In.Fn)], [], eqs, globs, prims⟩
noncomputable def spigotref13_Free.c := cxOf spigotref13_Free.E spigotref13_Free.sg Try.f92
noncomputable def spigotref13_Free.b := body Try.f92
noncomputable def spigotref13_Free.Fn : Fun := fnOf spigotref13_Free.E spigotref13_Free.sg Try.f92
noncomputable def spigotref13_Free.F (a : t2.den) : Option ((List Int) × Bool × Unit) := spigotref13_Free.Fn.F (a, ())
noncomputable def spigotref13_Free.S1 (i : Int) (b0 : (List Int)) (b02 : (List Bool)) (b03 : Int) (l1 : (List Int)) : St := ⟨[(1, (.ptr 0 [])), (4, (.sl 1)), (5, (.v (.int .i64) i))], [(0, some (.box (.agg [(.v (.slice (.int .i64)) b0), (.v (.slice .bool) b02), (.v (.int .i64) b03)]))), (1, some (.row (.int .i64) l1 false))], 2, []⟩
noncomputable def spigotref13_Free.L1 (i : Int) (b0 : (List Int)) (b02 : (List Bool)) (b03 : Int) (l1 : (List Int)) : Option ((List Int) × Bool × Unit) := res spigotref13_Free.c (atLoop spigotref13_Free.b [1, 1, 0, 1, 0]) (spigotref13_Free.S1 i b0 b02 b03 l1)
noncomputable def spigotref13_Free.S2 (i : Int) (b0 : (List Int)) (b02 : (List Bool)) (b03 : Int) (l1 : (List Int)) : St := ⟨[(1, (.ptr 0 [])), (4, (.sl 1)), (5, (.v (.int .i64) i))], [(0, some (.box (.agg [(.v (.slice (.int .i64)) b0), (.v (.slice .bool) b02), (.v (.int .i64) b03)]))), (1, some (.row (.int .i64) l1 false))], 2, []⟩
noncomputable def spigotref13_Free.L2 (i : Int) (b0 : (List Int)) (b02 : (List Bool)) (b03 : Int) (l1 : (List Int)) : Option ((List Int) × Bool × Unit) := res spigotref13_Free.c (atJoin spigotref13_Free.b [1, 1, 0, 1, 0, 0, 0, 1]) (spigotref13_Free.S2 i b0 b02 b03 l1)
noncomputable def spigotref13_Free.S3 (i : Int) (b0 : (List Int)) (b02 : (List Bool)) (b03 : Int) (l1 : (List Int)) : St := ⟨[(1, (.ptr 0 [])), (4, (.sl 1)), (5, (.v (.int .i64) i))], [(0, some (.box (.agg [(.v (.slice (.int .i64)) b0), (.v (.slice .bool) b02), (.v (.int .i64) b03)]))), (1, some (.row (.int .i64) l1 false))], 2, []⟩
noncomputable def spigotref13_Free.L3 (i : Int) (b0 : (List Int)) (b02 : (List Bool)) (b03 : Int) (l1 : (List Int)) : Option ((List Int) × Bool × Unit) := res spigotref13_Free.c (atJoin spigotref13_Free.b [1, 1, 0, 1, 0, 0, 1, 0, 0, 0, 1]) (spigotref13_Free.S3 i b0 b02 b03 l1)
theorem spigotref13_Free.spec : FnSpec Try.prog globs 92 spigotref13_Free.Fn := spec_of (E := spigotref13_Free.E) (envOk_at tabOk eqOk primsOk (.cons spigotref13_In.spec <| .nil)) mixOk Try.func92 (by kernel_rfl)
theorem spigotref13_Free.L1_eq (i : Int) (b0 : (List Int)) (b02 : (List Bool)) (b03 : Int) (l1 : (List Int)) : spigotref13_Free.L1 i b0 b02 b03 l1 =
  bif (i != (-1)) then
    spigotref13_Free.L2 i b0 b02 b03 l1
  else
    some (l1, true, ()) := res_eq (by kernel_rfl)
theorem spigotref13_Free.L2_eq (i : Int) (b0 : (List Int)) (b02 : (List Bool)) (b03 : Int) (l1 : (List Int)) : spigotref13_Free.L2 i b0 b02 b03 l1 =
  bif (decide ((i : Int) < 0)) then
    some (([] : List Int), false, ())
  else
    bif (decide ((i : Int) ≥ ((List.length b0 : Int)))) then
      some (([] : List Int), false, ())
    else
      (spigotref13_In.F l1 i).bind fun r0 =>
      bif r0.1 then
        some (([] : List Int), false, ())
      else
        spigotref13_Free.L3 i b0 b02 b03 l1 := res_eq (by kernel_rfl)
theorem spigotref13_Free.L3_eq (i : Int) (b0 : (List Int)) (b02 : (List Bool)) (b03 : Int) (l1 : (List Int)) : spigotref13_Free.L3 i b0 b02 b03 l1 =
  bif (lim ((List.length l1) + (List.length ([i] : List Int))) (.int .i64)) then
    bif (decide ((0 : Int) ≤ i ∧ (i : Int) < ((List.length b0 : Int)))) then
      spigotref13_Free.L1 (List.getD b0 (Int.toNat i) 0) b0 b02 b03 (l1 ++ ([i] : List Int))
    else none
  else none := res_eq (by kernel_rfl)
theorem spigotref13_Free.F_eq (a : t2.den) : spigotref13_Free.F a =
  spigotref13_Free.L1 a.2.2.1 a.1 a.2.1 a.2.2.1 ([] : List Int) := by kernel_rfl
/-! ### spigot/spigotref13.Check (67) -/
noncomputable def spigotref13_Check.sg : Sig := ⟨[.val t2], [((.int .i64), true)]⟩
noncomputable def spigotref13_Check.E : Env := ⟨tl, fun i => look i [(73, spigotref13_In.Fn), (92, spigotref13_Free.Fn)], [], eqs, globs, prims⟩
noncomputable def spigotref13_Check.c := cxOf spigotref13_Check.E spigotref13_Check.sg Try.f67
noncomputable def spigotref13_Check.b := body Try.f67
noncomputable def spigotref13_Check.Fn : Fun := fnOf spigotref13_Check.E spigotref13_Check.sg Try.f67
noncomputable def spigotref13_Check.F (a : t2.den) : Option (Int × Unit) := spigotref13_Check.Fn.F (a, ())
noncomputable def spigotref13_Check.S1 (b0 : (List Int)) (b02 : (List Bool)) (b03 : Int) : St := ⟨[(1, (.ptr 0 []))], [(0, some (.box (.agg [(.v (.slice (.int .i64)) b0), (.v (.slice .bool) b02), (.v (.int .i64) b03)])))], 1, []⟩
noncomputable def spigotref13_Check.L1 (b0 : (List Int)) (b02 : (List Bool)) (b03 : Int) : Option (Int × Unit) := res spigotref13_Check.c (atJoin spigotref13_Check.b [1, 0, 1]) (spigotref13_Check.S1 b0 b02 b03)
noncomputable def spigotref13_Check.S2 (b0 : (List Int)) (b02 : (List Bool)) (b03 : Int) (l1 : (List Int)) : St := ⟨[(1, (.ptr 0 [])), (3, (.sl 1))], [(0, some (.box (.agg [(.v (.slice (.int .i64)) b0), (.v (.slice .bool) b02), (.v (.int .i64) b03)]))), (1, some (.row (.int .i64) l1 false))], 2, []⟩
noncomputable def spigotref13_Check.L2 (b0 : (List Int)) (b02 : (List Bool)) (b03 : Int) (l1 : (List Int)) : Option (Int × Unit) := res spigotref13_Check.c (atJoin spigotref13_Check.b [1, 1, 1, 0, 1]) (spigotref13_Check.S2 b0 b02 b03 l1)
noncomputable def spigotref13_Check.S3 (i : Int) (b0 : (List Int)) (b02 : (List Bool)) (b03 : Int) (l1 : (List Int)) : St := ⟨[(1, (.ptr 0 [])), (3, (.sl 1)), (5, (.v (.int .i64) i))], [(0, some (.box (.agg [(.v (.slice (.int .i64)) b0), (.v (.slice .bool) b02), (.v (.int .i64) b03)]))), (1, some (.row (.int .i64) l1 false))], 2, []⟩
noncomputable def spigotref13_Check.L3 (i : Int) (b0 : (List Int)) (b02 : (List Bool)) (b03 : Int) (l1 : (List Int)) : Option (Int × Unit) := res spigotref13_Check.c (atLoop spigotref13_Check.b [1, 1, 1, 1, 0, 1, 0]) (spigotref13_Check.S3 i b0 b02 b03 l1)
noncomputable def spigotref13_Check.S4 (i : Int) (b0 : (List Int)) (b02 : (List Bool)) (b03 : Int) (l1 : (List Int)) : St := ⟨[(1, (.ptr 0 [])), (3, (.sl 1)), (5, (.v (.int .i64) i))], [(0, some (.box (.agg [(.v (.slice (.int .i64)) b0), (.v (.slice .bool) b02), (.v (.int .i64) b03)]))), (1, some (.row (.int .i64) l1 false))], 2, []⟩
noncomputable def spigotref13_Check.L4 (i : Int) (b0 : (List Int)) (b02 : (List Bool)) (b03 : Int) (l1 : (List Int)) : Option (Int × Unit) := res spigotref13_Check.c (atJoin spigotref13_Check.b [1, 1, 1, 1, 0, 1, 0, 0, 0, 1]) (spigotref13_Check.S4 i b0 b02 b03 l1)
noncomputable def spigotref13_Check.S5 (i : Int) (b0 : (List Int)) (b02 : (List Bool)) (b03 : Int) (l1 : (List Int)) : St := ⟨[(1, (.ptr 0 [])), (3, (.sl 1)), (5, (.v (.int .i64) i))], [(0, some (.box (.agg [(.v (.slice (.int .i64)) b0), (.v (.slice .bool) b02), (.v (.int .i64) b03)]))), (1, some (.row (.int .i64) l1 false))], 2, []⟩
noncomputable def spigotref13_Check.L5 (i : Int) (b0 : (List Int)) (b02 : (List Bool)) (b03 : Int) (l1 : (List Int)) : Option (Int × Unit) := res spigotref13_Check.c (atJoin spigotref13_Check.b [1, 1, 1, 1, 0, 1, 0, 0, 1, 0, 0, 1]) (spigotref13_Check.S5 i b0 b02 b03 l1)
theorem spigotref13_Check.spec : FnSpec Try.prog globs 67 spigotref13_Check.Fn := spec_of (E := spigotref13_Check.E) (envOk_at tabOk eqOk primsOk (.cons spigotref13_In.spec <| .cons spigotref13_Free.spec <| .nil)) mixOk Try.func67 (by kernel_rfl)
theorem spigotref13_Check.L1_eq (b0 : (List Int)) (b02 : (List Bool)) (b03 : Int) : spigotref13_Check.L1 b0 b02 b03 =
  (spigotref13_Free.F (b0, b02, b03, ())).bind fun r0 =>
  bif (!r0.2.1) then
    some (8, ())
  else
    spigotref13_Check.L2 b0 b02 b03 r0.1 := res_eq (by kernel_rfl)
theorem spigotref13_Check.L2_eq (b0 : (List Int)) (b02 : (List Bool)) (b03 : Int) (l1 : (List Int)) : spigotref13_Check.L2 b0 b02 b03 l1 =
  spigotref13_Check.L3 0 b0 b02 b03 l1 := res_eq (by kernel_rfl)
theorem spigotref13_Check.L3_eq (i : Int) (b0 : (List Int)) (b02 : (List Bool)) (b03 : Int) (l1 : (List Int)) : spigotref13_Check.L3 i b0 b02 b03 l1 =
  bif (decide ((i : Int) < ((List.length b02 : Int)))) then
    spigotref13_Check.L4 i b0 b02 b03 l1
  else
    some (0, ()) := res_eq (by kernel_rfl)
theorem spigotref13_Check.L4_eq (i : Int) (b0 : (List Int)) (b02 : (List Bool)) (b03 : Int) (l1 : (List Int)) : spigotref13_Check.L4 i b0 b02 b03 l1 =
  bif (decide ((0 : Int) ≤ i ∧ (i : Int) < ((List.length b02 : Int)))) then
    (spigotref13_In.F l1 i).bind fun r0 =>
    bif ((List.getD b02 (Int.toNat i) false) == r0.1) then
      some (8, ())
    else
      bif (decide ((0 : Int) ≤ i ∧ (i : Int) < ((List.length b02 : Int)))) then
        bif (List.getD b02 (Int.toNat i) false) then
          bif (decide ((0 : Int) ≤ i ∧ (i : Int) < ((List.length b0 : Int)))) then
            bif ((List.getD b0 (Int.toNat i) 0) != (-1)) then
              some (8, ())
            else
              spigotref13_Check.L5 i b0 b02 b03 l1
          else none
        else
          spigotref13_Check.L5 i b0 b02 b03 l1
      else none
  else none := res_eq (by kernel_rfl)
theorem spigotref13_Check.L5_eq (i : Int) (b0 : (List Int)) (b02 : (List Bool)) (b03 : Int) (l1 : (List Int)) : spigotref13_Check.L5 i b0 b02 b03 l1 =
  spigotref13_Check.L3 (IntKind.wrap .i64 (i + 1)) b0 b02 b03 l1 := res_eq (by kernel_rfl)
theorem spigotref13_Check.F_eq (a : t2.den) : spigotref13_Check.F a =
  bif (decide ((((List.length a.1 : Int)) : Int) < 1)) then
    some (8, ())
  else
    bif (decide ((((List.length a.1 : Int)) : Int) > 16)) then
      some (8, ())
    else
      bif (((List.length a.2.1 : Int)) != ((List.length a.1 : Int))) then
        some (8, ())
      else
        spigotref13_Check.L1 a.1 a.2.1 a.2.2.1 := by kernel_rfl
/-! ### spigot/spigotref14.Count (71) -/
noncomputable def spigotref14_Count.sg : Sig := ⟨[.val (.slice t3)], [((.int .i64), true)]⟩
noncomputable def spigotref14_Count.E : Env := ⟨tl, fun i => look i [], [], eqs, globs, prims⟩
noncomputable def spigotref14_Count.c := cxOf spigotref14_Count.E spigotref14_Count.sg Try.f71
noncomputable def spigotref14_Count.b := body Try.f71
noncomputable def spigotref14_Count.Fn : Fun := fnOf spigotref14_Count.E spigotref14_Count.sg Try.f71
noncomputable def spigotref14_Count.F (x : (List t3.den)) : Option (Int × Unit) := spigotref14_Count.Fn.F (x, ())
noncomputable def spigotref14_Count.S1 (x : (List t3.den)) (n : Int) (i : Int) : St := ⟨[(0, (.v (.slice t3) x)), (3, (.v (.int .i64) n)), (4, (.v (.int .i64) i))], [], 0, []⟩
noncomputable def spigotref14_Count.L1 (x : (List t3.den)) (n : Int) (i : Int) : Option (Int × Unit) := res spigotref14_Count.c (atLoop spigotref14_Count.b [1, 1, 0, 1, 0]) (spigotref14_Count.S1 x n i)
noncomputable def spigotref14_Count.S2 (x : (List t3.den)) (n : Int) (i : Int) : St := ⟨[(0, (.v (.slice t3) x)), (3, (.v (.int .i64) n)), (4, (.v (.int .i64) i))], [], 0, []⟩
noncomputable def spigotref14_Count.L2 (x : (List t3.den)) (n : Int) (i : Int) : Option (Int × Unit) := res spigotref14_Count.c (atJoin spigotref14_Count.b [1, 1, 0, 1, 0, 0, 0, 1]) (spigotref14_Count.S2 x n i)
noncomputable def spigotref14_Count.S3 (x : (List t3.den)) (n : Int) (i : Int) : St := ⟨[(0, (.v (.slice t3) x)), (3, (.v (.int .i64) n)), (4, (.v (.int .i64) i))], [], 0, []⟩
noncomputable def spigotref14_Count.L3 (x : (List t3.den)) (n : Int) (i : Int) : Option (Int × Unit) := res spigotref14_Count.c (atJoin spigotref14_Count.b [1, 1, 0, 1, 0, 0, 1, 0, 0, 1]) (spigotref14_Count.S3 x n i)
theorem spigotref14_Count.spec : FnSpec Try.prog globs 71 spigotref14_Count.Fn := spec_of (E := spigotref14_Count.E) (envOk_at tabOk eqOk primsOk (.nil)) mixOk Try.func71 (by kernel_rfl)
theorem spigotref14_Count.L1_eq (x : (List t3.den)) (n : Int) (i : Int) : spigotref14_Count.L1 x n i =
  bif (decide ((i : Int) < ((List.length x : Int)))) then
    spigotref14_Count.L2 x n i
  else
    some (n, ()) := res_eq (by kernel_rfl)
theorem spigotref14_Count.L2_eq (x : (List t3.den)) (n : Int) (i : Int) : spigotref14_Count.L2 x n i =
  bif (decide ((0 : Int) ≤ i ∧ (i : Int) < ((List.length x : Int)))) then
    bif (((List.getD x (Int.toNat i) (0, 0, false, ())).2).2).1 then
      spigotref14_Count.L3 x (IntKind.wrap .i64 (n + 1)) i
    else
      spigotref14_Count.L3 x n i
  else none := res_eq (by kernel_rfl)
theorem spigotref14_Count.L3_eq (x : (List t3.den)) (n : Int) (i : Int) : spigotref14_Count.L3 x n i =
  spigotref14_Count.L1 x n (IntKind.wrap .i64 (i + 1)) := res_eq (by kernel_rfl)
theorem spigotref14_Count.F_eq (x : (List t3.den)) : spigotref14_Count.F x =
  spigotref14_Count.L1 x 0 0 := by kernel_rfl
/-! ### spigot/spigotref14.At (93) -/
noncomputable def spigotref14_At.sg : Sig := ⟨[.val (.slice t3), .val (.int .u32)], [((.int .i64), true)]⟩
noncomputable def spigotref14_At.E : Env := ⟨tl, fun i => look i [], [], eqs, globs, prims⟩
noncomputable def spigotref14_At.c := cxOf spigotref14_At.E spigotref14_At.sg Try.f93
noncomputable def spigotref14_At.b := body Try.f93
noncomputable def spigotref14_At.Fn : Fun := fnOf spigotref14_At.E spigotref14_At.sg Try.f93
noncomputable def spigotref14_At.F (x : (List t3.den)) (key : Int) : Option (Int × Unit) := spigotref14_At.Fn.F (x, key, ())
noncomputable def spigotref14_At.S1 (x : (List t3.den)) (key : Int) (i : Int) : St := ⟨[(0, (.v (.slice t3) x)), (1, (.v (.int .u32) key)), (5, (.v (.int .i64) i))], [], 0, []⟩
noncomputable def spigotref14_At.L1 (x : (List t3.den)) (key : Int) (i : Int) : Option (Int × Unit) := res spigotref14_At.c (atLoop spigotref14_At.b [1, 0, 1, 0]) (spigotref14_At.S1 x key i)
noncomputable def spigotref14_At.S2 (x : (List t3.den)) (key : Int) (i : Int) : St := ⟨[(0, (.v (.slice t3) x)), (1, (.v (.int .u32) key)), (5, (.v (.int .i64) i))], [], 0, []⟩
noncomputable def spigotref14_At.L2 (x : (List t3.den)) (key : Int) (i : Int) : Option (Int × Unit) := res spigotref14_At.c (atJoin spigotref14_At.b [1, 0, 1, 0, 0, 0, 1]) (spigotref14_At.S2 x key i)
noncomputable def spigotref14_At.S3 (x : (List t3.den)) (key : Int) (i : Int) : St := ⟨[(0, (.v (.slice t3) x)), (1, (.v (.int .u32) key)), (5, (.v (.int .i64) i))], [], 0, []⟩
noncomputable def spigotref14_At.L3 (x : (List t3.den)) (key : Int) (i : Int) : Option (Int × Unit) := res spigotref14_At.c (atJoin spigotref14_At.b [1, 0, 1, 0, 0, 1, 0, 0, 1]) (spigotref14_At.S3 x key i)
theorem spigotref14_At.spec : FnSpec Try.prog globs 93 spigotref14_At.Fn := spec_of (E := spigotref14_At.E) (envOk_at tabOk eqOk primsOk (.nil)) mixOk Try.func93 (by kernel_rfl)
theorem spigotref14_At.L1_eq (x : (List t3.den)) (key : Int) (i : Int) : spigotref14_At.L1 x key i =
  bif (decide ((i : Int) < ((List.length x : Int)))) then
    spigotref14_At.L2 x key i
  else
    some ((-1), ()) := res_eq (by kernel_rfl)
theorem spigotref14_At.L2_eq (x : (List t3.den)) (key : Int) (i : Int) : spigotref14_At.L2 x key i =
  bif (decide ((0 : Int) ≤ i ∧ (i : Int) < ((List.length x : Int)))) then
    bif (((List.getD x (Int.toNat i) (0, 0, false, ())).2).2).1 then
      bif (decide ((0 : Int) ≤ i ∧ (i : Int) < ((List.length x : Int)))) then
        bif ((List.getD x (Int.toNat i) (0, 0, false, ())).1 == key) then
          some (i, ())
        else
          spigotref14_At.L3 x key i
      else none
    else
      spigotref14_At.L3 x key i
  else none := res_eq (by kernel_rfl)
theorem spigotref14_At.L3_eq (x : (List t3.den)) (key : Int) (i : Int) : spigotref14_At.L3 x key i =
  spigotref14_At.L1 x key (IntKind.wrap .i64 (i + 1)) := res_eq (by kernel_rfl)
theorem spigotref14_At.F_eq (x : (List t3.den)) (key : Int) : spigotref14_At.F x key =
  spigotref14_At.L1 x key 0 := by kernel_rfl
/-! ### spigot/spigotref14.Home (94) -/
noncomputable def spigotref14_Home.sg : Sig := ⟨[.val (.int .u32)], [((.int .i64), true)]⟩
noncomputable def spigotref14_Home.E : Env := ⟨tl, fun i => look i [], [], eqs, globs, prims⟩
noncomputable def spigotref14_Home.c := cxOf spigotref14_Home.E spigotref14_Home.sg Try.f94
noncomputable def spigotref14_Home.b := body Try.f94
noncomputable def spigotref14_Home.Fn : Fun := fnOf spigotref14_Home.E spigotref14_Home.sg Try.f94
noncomputable def spigotref14_Home.F (key : Int) : Option (Int × Unit) := spigotref14_Home.Fn.F (key, ())
theorem spigotref14_Home.spec : FnSpec Try.prog globs 94 spigotref14_Home.Fn := spec_of (E := spigotref14_Home.E) (envOk_at tabOk eqOk primsOk (.nil)) mixOk Try.func94 (by kernel_rfl)
theorem spigotref14_Home.F_eq (key : Int) : spigotref14_Home.F key =
  bif (decide ((4294967296 : Int) ≠ 0)) then
    bif (decide ((268435456 : Int) ≠ 0)) then
      some ((IntKind.wrap .i64 (IntKind.wrap .u64 (Int.tdiv (Int.tmod (IntKind.wrap .u64 ((IntKind.wrap .u64 key) * 2654435769)) 4294967296) 268435456))), ())
    else none
  else none := by kernel_rfl
/-! ### spigot/spigotref14.Check (68) -/
noncomputable def spigotref14_Check.sg : Sig := ⟨[.val (.slice t3)], [((.int .i64), true)]⟩
noncomputable def spigotref14_Check.E : Env := ⟨tl, fun i => look i [(71, spigotref14_Count.Fn), (93, spigotref14_At.Fn), (94, spigotref14_Home.Fn)], [], eqs, globs, prims⟩
noncomputable def spigotref14_Check.c := cxOf spigotref14_Check.E spigotref14_Check.sg Try.f68
noncomputable def spigotref14_Check.b := body Try.f68
noncomputable def spigotref14_Check.Fn : Fun := fnOf spigotref14_Check.E spigotref14_Check.sg Try.f68
noncomputable def spigotref14_Check.F (x : (List t3.den)) : Option (Int × Unit) := spigotref14_Check.Fn.F (x, ())
noncomputable def spigotref14_Check.S1 (x : (List t3.den)) : St := ⟨[(0, (.v (.slice t3) x))], [], 0, []⟩
noncomputable def spigotref14_Check.L1 (x : (List t3.den)) : Option (Int × Unit) := res spigotref14_Check.c (atJoin spigotref14_Check.b [1, 0, 1]) (spigotref14_Check.S1 x)
noncomputable def spigotref14_Check.S2 (x : (List t3.den)) (i : Int) : St := ⟨[(0, (.v (.slice t3) x)), (3, (.v (.int .i64) i))], [], 0, []⟩
noncomputable def spigotref14_Check.L2 (x : (List t3.den)) (i : Int) : Option (Int × Unit) := res spigotref14_Check.c (atLoop spigotref14_Check.b [1, 1, 0, 1, 0]) (spigotref14_Check.S2 x i)
noncomputable def spigotref14_Check.S3 (x : (List t3.den)) (i : Int) : St := ⟨[(0, (.v (.slice t3) x)), (3, (.v (.int .i64) i))], [], 0, []⟩
noncomputable def spigotref14_Check.L3 (x : (List t3.den)) (i : Int) : Option (Int × Unit) := res spigotref14_Check.c (atJoin spigotref14_Check.b [1, 1, 0, 1, 0, 0, 0, 1]) (spigotref14_Check.S3 x i)
noncomputable def spigotref14_Check.S4 (x : (List t3.den)) (i : Int) : St := ⟨[(0, (.v (.slice t3) x)), (3, (.v (.int .i64) i))], [], 0, []⟩
noncomputable def spigotref14_Check.L4 (x : (List t3.den)) (i : Int) : Option (Int × Unit) := res spigotref14_Check.c (atJoin spigotref14_Check.b [1, 1, 0, 1, 0, 0, 1, 0, 0, 0, 1, 0, 0, 1]) (spigotref14_Check.S4 x i)
noncomputable def spigotref14_Check.S5 (x : (List t3.den)) (i : Int) : St := ⟨[(0, (.v (.slice t3) x)), (3, (.v (.int .i64) i))], [], 0, []⟩
noncomputable def spigotref14_Check.L5 (x : (List t3.den)) (i : Int) : Option (Int × Unit) := res spigotref14_Check.c (atJoin spigotref14_Check.b [1, 1, 0, 1, 0, 0, 1, 0, 0, 0, 1]) (spigotref14_Check.S5 x i)
noncomputable def spigotref14_Check.S6 (x : (List t3.den)) (i : Int) : St := ⟨[(0, (.v (.slice t3) x)), (3, (.v (.int .i64) i))], [], 0, []⟩
noncomputable def spigotref14_Check.L6 (x : (List t3.den)) (i : Int) : Option (Int × Unit) := res spigotref14_Check.c (atJoin spigotref14_Check.b [1, 1, 0, 1, 0, 0, 1, 0, 0, 1, 0, 1]) (spigotref14_Check.S6 x i)
noncomputable def spigotref14_Check.S7 (x : (List t3.den)) (i : Int) (k : Int) : St := ⟨[(0, (.v (.slice t3) x)), (3, (.v (.int .i64) i)), (4, (.v (.int .i64) k))], [], 0, []⟩
noncomputable def spigotref14_Check.L7 (x : (List t3.den)) (i : Int) (k : Int) : Option (Int × Unit) := res spigotref14_Check.c (atLoop spigotref14_Check.b [1, 1, 0, 1, 0, 0, 1, 0, 0, 1, 1, 1, 0]) (spigotref14_Check.S7 x i k)
noncomputable def spigotref14_Check.S8 (x : (List t3.den)) (i : Int) (k : Int) : St := ⟨[(0, (.v (.slice t3) x)), (3, (.v (.int .i64) i)), (4, (.v (.int .i64) k))], [], 0, []⟩
noncomputable def spigotref14_Check.L8 (x : (List t3.den)) (i : Int) (k : Int) : Option (Int × Unit) := res spigotref14_Check.c (atJoin spigotref14_Check.b [1, 1, 0, 1, 0, 0, 1, 0, 0, 1, 1, 1, 0, 0, 0, 1]) (spigotref14_Check.S8 x i k)
noncomputable def spigotref14_Check.S9 (x : (List t3.den)) (i : Int) (k : Int) : St := ⟨[(0, (.v (.slice t3) x)), (3, (.v (.int .i64) i)), (4, (.v (.int .i64) k))], [], 0, []⟩
noncomputable def spigotref14_Check.L9 (x : (List t3.den)) (i : Int) (k : Int) : Option (Int × Unit) := res spigotref14_Check.c (atJoin spigotref14_Check.b [1, 1, 0, 1, 0, 0, 1, 0, 0, 1, 1, 1, 0, 0, 1, 0, 0, 1]) (spigotref14_Check.S9 x i k)
theorem spigotref14_Check.spec : FnSpec Try.prog globs 68 spigotref14_Check.Fn := spec_of (E := spigotref14_Check.E) (envOk_at tabOk eqOk primsOk (.cons spigotref14_Count.spec <| .cons spigotref14_At.spec <| .cons spigotref14_Home.spec <| .nil)) mixOk Try.func68 (by kernel_rfl)
theorem spigotref14_Check.L1_eq (x : (List t3.den)) : spigotref14_Check.L1 x =
  spigotref14_Check.L2 x 0 := res_eq (by kernel_rfl)
theorem spigotref14_Check.L2_eq (x : (List t3.den)) (i : Int) : spigotref14_Check.L2 x i =
  bif (decide ((i : Int) < 16)) then
    spigotref14_Check.L3 x i
  else
    some (0, ()) := res_eq (by kernel_rfl)
theorem spigotref14_Check.L3_eq (x : (List t3.den)) (i : Int) : spigotref14_Check.L3 x i =
  bif (decide ((0 : Int) ≤ i ∧ (i : Int) < ((List.length x : Int)))) then
    bif (!((((List.getD x (Int.toNat i) (0, 0, false, ())).2).2).1)) then
      bif (decide ((0 : Int) ≤ i ∧ (i : Int) < ((List.length x : Int)))) then
        bif (!(Ty.beq t3 (List.getD x (Int.toNat i) (0, 0, false, ())) (0, 0, false, ()))) then
          some (8, ())
        else
          spigotref14_Check.L4 x i
      else none
    else
      spigotref14_Check.L5 x i
  else none := res_eq (by kernel_rfl)
theorem spigotref14_Check.L4_eq (x : (List t3.den)) (i : Int) : spigotref14_Check.L4 x i =
  spigotref14_Check.L2 x (IntKind.wrap .i64 (i + 1)) := res_eq (by kernel_rfl)
theorem spigotref14_Check.L5_eq (x : (List t3.den)) (i : Int) : spigotref14_Check.L5 x i =
  bif (decide ((0 : Int) ≤ i ∧ (i : Int) < ((List.length x : Int)))) then
    bif (decide (((((List.getD x (Int.toNat i) (0, 0, false, ())).2).1) : Int) < 0)) then
      some (8, ())
    else
      bif (decide ((0 : Int) ≤ i ∧ (i : Int) < ((List.length x : Int)))) then
        bif (decide (((((List.getD x (Int.toNat i) (0, 0, false, ())).2).1) : Int) ≥ 16)) then
          some (8, ())
        else
          bif (decide ((0 : Int) ≤ i ∧ (i : Int) < ((List.length x : Int)))) then
            (spigotref14_At.F x ((List.getD x (Int.toNat i) (0, 0, false, ())).1)).bind fun r0 =>
            bif (r0.1 != i) then
              some (8, ())
            else
              spigotref14_Check.L6 x i
          else none
      else none
  else none := res_eq (by kernel_rfl)
theorem spigotref14_Check.L6_eq (x : (List t3.den)) (i : Int) : spigotref14_Check.L6 x i =
  bif (decide ((0 : Int) ≤ i ∧ (i : Int) < ((List.length x : Int)))) then
    (spigotref14_Home.F ((List.getD x (Int.toNat i) (0, 0, false, ())).1)).bind fun r0 =>
    spigotref14_Check.L7 x i r0.1
  else none := res_eq (by kernel_rfl)
theorem spigotref14_Check.L7_eq (x : (List t3.den)) (i : Int) (k : Int) : spigotref14_Check.L7 x i k =
  bif (k != i) then
    spigotref14_Check.L8 x i k
  else
    spigotref14_Check.L2 x (IntKind.wrap .i64 (i + 1)) := res_eq (by kernel_rfl)
theorem spigotref14_Check.L8_eq (x : (List t3.den)) (i : Int) (k : Int) : spigotref14_Check.L8 x i k =
  bif (decide ((0 : Int) ≤ k ∧ (k : Int) < ((List.length x : Int)))) then
    bif (!((((List.getD x (Int.toNat k) (0, 0, false, ())).2).2).1)) then
      some (8, ())
    else
      spigotref14_Check.L9 x i k
  else none := res_eq (by kernel_rfl)
theorem spigotref14_Check.L9_eq (x : (List t3.den)) (i : Int) (k : Int) : spigotref14_Check.L9 x i k =
  bif (decide ((16 : Int) ≠ 0)) then
    spigotref14_Check.L7 x i (Int.tmod (IntKind.wrap .i64 (k + 1)) 16)
  else none := res_eq (by kernel_rfl)
theorem spigotref14_Check.F_eq (x : (List t3.den)) : spigotref14_Check.F x =
  bif (((List.length x : Int)) != 16) then
    some (8, ())
  else
    (spigotref14_Count.F x).bind fun r0 =>
    bif (decide ((r0.1 : Int) > 12)) then
      some (8, ())
    else
      spigotref14_Check.L1 x := by kernel_rfl
/-! ### spigot/spigotref15.SameInts (89) -/
noncomputable def spigotref15_SameInts.sg : Sig := ⟨[.val (.slice (.int .i64)), .val (.slice (.int .i64))], [(.bool, true)]⟩
noncomputable def spigotref15_SameInts.E : Env := ⟨tl, fun i => look i [], [], eqs, globs, prims⟩
noncomputable def spigotref15_SameInts.c := cxOf spigotref15_SameInts.E spigotref15_SameInts.sg Try.f89
noncomputable def spigotref15_SameInts.b := body Try.f89
noncomputable def spigotref15_SameInts.Fn : Fun := fnOf spigotref15_SameInts.E spigotref15_SameInts.sg Try.f89
noncomputable def spigotref15_SameInts.F (a : (List Int)) (b : (List Int)) : Option (Bool × Unit) := spigotref15_SameInts.Fn.F (a, b, ())
noncomputable def spigotref15_SameInts.S1 (a : (List Int)) (b : (List Int)) : St := ⟨[(0, (.v (.slice (.int .i64)) a)), (1, (.v (.slice (.int .i64)) b))], [], 0, []⟩
noncomputable def spigotref15_SameInts.L1 (a : (List Int)) (b : (List Int)) : Option (Bool × Unit) := res spigotref15_SameInts.c (atJoin spigotref15_SameInts.b [1, 0, 1]) (spigotref15_SameInts.S1 a b)
noncomputable def spigotref15_SameInts.S2 (a : (List Int)) (b : (List Int)) (i : Int) : St := ⟨[(0, (.v (.slice (.int .i64)) a)), (1, (.v (.slice (.int .i64)) b)), (5, (.v (.int .i64) i))], [], 0, []⟩
noncomputable def spigotref15_SameInts.L2 (a : (List Int)) (b : (List Int)) (i : Int) : Option (Bool × Unit) := res spigotref15_SameInts.c (atLoop spigotref15_SameInts.b [1, 1, 0, 1, 0]) (spigotref15_SameInts.S2 a b i)
noncomputable def spigotref15_SameInts.S3 (a : (List Int)) (b : (List Int)) (i : Int) : St := ⟨[(0, (.v (.slice (.int .i64)) a)), (1, (.v (.slice (.int .i64)) b)), (5, (.v (.int .i64) i))], [], 0, []⟩
noncomputable def spigotref15_SameInts.L3 (a : (List Int)) (b : (List Int)) (i : Int) : Option (Bool × Unit) := res spigotref15_SameInts.c (atJoin spigotref15_SameInts.b [1, 1, 0, 1, 0, 0, 0, 1]) (spigotref15_SameInts.S3 a b i)
noncomputable def spigotref15_SameInts.S4 (a : (List Int)) (b : (List Int)) (i : Int) : St := ⟨[(0, (.v (.slice (.int .i64)) a)), (1, (.v (.slice (.int .i64)) b)), (5, (.v (.int .i64) i))], [], 0, []⟩
noncomputable def spigotref15_SameInts.L4 (a : (List Int)) (b : (List Int)) (i : Int) : Option (Bool × Unit) := res spigotref15_SameInts.c (atJoin spigotref15_SameInts.b [1, 1, 0, 1, 0, 0, 1, 0, 0, 1]) (spigotref15_SameInts.S4 a b i)
theorem spigotref15_SameInts.spec : FnSpec Try.prog globs 89 spigotref15_SameInts.Fn := spec_of (E := spigotref15_SameInts.E) (envOk_at tabOk eqOk primsOk (.nil)) mixOk Try.func89 (by kernel_rfl)
theorem spigotref15_SameInts.L1_eq (a : (List Int)) (b : (List Int)) : spigotref15_SameInts.L1 a b =
  spigotref15_SameInts.L2 a b 0 := res_eq (by kernel_rfl)
theorem spigotref15_SameInts.L2_eq (a : (List Int)) (b : (List Int)) (i : Int) : spigotref15_SameInts.L2 a b i =
  bif (decide ((i : Int) < ((List.length a : Int)))) then
    spigotref15_SameInts.L3 a b i
  else
    some (true, ()) := res_eq (by kernel_rfl)
theorem spigotref15_SameInts.L3_eq (a : (List Int)) (b : (List Int)) (i : Int) : spigotref15_SameInts.L3 a b i =
  bif (decide ((0 : Int) ≤ i ∧ (i : Int) < ((List.length a : Int)))) then
    bif (decide ((0 : Int) ≤ i ∧ (i : Int) < ((List.length b : Int)))) then
      bif ((List.getD a (Int.toNat i) 0) != (List.getD b (Int.toNat i) 0)) then
        some (false, ())
      else
        spigotref15_SameInts.L4 a b i
    else none
  else none := res_eq (by kernel_rfl)
theorem spigotref15_SameInts.L4_eq (a : (List Int)) (b : (List Int)) (i : Int) : spigotref15_SameInts.L4 a b i =
  spigotref15_SameInts.L2 a b (IntKind.wrap .i64 (i + 1)) := res_eq (by kernel_rfl)
theorem spigotref15_SameInts.F_eq (a : (List Int)) (b : (List Int)) : spigotref15_SameInts.F a b =
  bif (((List.length a : Int)) != ((List.length b : Int))) then
    some (false, ())
  else
    spigotref15_SameInts.L1 a b := by kernel_rfl
/-! ### spigot/spigotref15.Same (62) -/
noncomputable def spigotref15_Same.sg : Sig := ⟨[.val t4, .val t4], [(.bool, true)]⟩
noncomputable def spigotref15_Same.E : Env := ⟨tl, fun i => look i [(89, spigotref15_SameInts.Fn)], [], eqs, globs, prims⟩
noncomputable def spigotref15_Same.c := cxOf spigotref15_Same.E spigotref15_Same.sg Try.f62
noncomputable def spigotref15_Same.b := body Try.f62
noncomputable def spigotref15_Same.Fn : Fun := fnOf spigotref15_Same.E spigotref15_Same.sg Try.f62
noncomputable def spigotref15_Same.F (a : t4.den) (b : t4.den) : Option (Bool × Unit) := spigotref15_Same.Fn.F (a, b, ())
theorem spigotref15_Same.spec : FnSpec Try.prog globs 62 spigotref15_Same.Fn := spec_of (E := spigotref15_Same.E) (envOk_at tabOk eqOk primsOk (.cons spigotref15_SameInts.spec <| .nil)) mixOk Try.func62 (by kernel_rfl)
theorem spigotref15_Same.F_eq (a : t4.den) (b : t4.den) : spigotref15_Same.F a b =
  (spigotref15_SameInts.F a.1 b.1).bind fun r0 =>
  bif r0.1 then
    (spigotref15_SameInts.F a.2.1 b.2.1).bind fun r1 =>
    bif r1.1 then
      bif (a.2.2.1 == b.2.2.1) then
        some ((a.2.2.2.1 == b.2.2.2.1), ())
      else
        some (false, ())
    else
      some (false, ())
  else
    some (false, ()) := by kernel_rfl
/-! ### spigot/spigotref15.All (70) -/
noncomputable def spigotref15_All.sg : Sig := ⟨[.val t4], [((.slice (.int .i64)), true), (.bool, true)]⟩
noncomputable def spigotref15_All.E : Env := ⟨tl, fun i => look i [(73, spigotref13_In.Fn)], [], eqs, globs, prims⟩
noncomputable def spigotref15_All.c := cxOf spigotref15_All.E spigotref15_All.sg Try.f70
noncomputable def spigotref15_All.b := body Try.f70
noncomputable def spigotref15_All.Fn : Fun := fnOf spigotref15_All.E spigotref15_All.sg Try.f70
noncomputable def spigotref15_All.F (o : t4.den) : Option ((List Int) × Bool × Unit) := spigotref15_All.Fn.F (o, ())
noncomputable def spigotref15_All.S1 (i : Int) (b0 : (List Int)) (b02 : (List Int)) (b03 : Int) (b04 : Int) (l1 : (List Int)) : St := ⟨[(1, (.ptr 0 [])), (4, (.sl 1)), (5, (.v (.int .i64) i))], [(0, some (.box (.agg [(.v (.slice (.int .i64)) b0), (.v (.slice (.int .i64)) b02), (.v (.int .i64) b03), (.v (.int .i64) b04)]))), (1, some (.row (.int .i64) l1 false))], 2, []⟩
noncomputable def spigotref15_All.L1 (i : Int) (b0 : (List Int)) (b02 : (List Int)) (b03 : Int) (b04 : Int) (l1 : (List Int)) : Option ((List Int) × Bool × Unit) := res spigotref15_All.c (atLoop spigotref15_All.b [1, 1, 0, 1, 0]) (spigotref15_All.S1 i b0 b02 b03 b04 l1)
noncomputable def spigotref15_All.S2 (i : Int) (b0 : (List Int)) (b02 : (List Int)) (b03 : Int) (b04 : Int) (l1 : (List Int)) : St := ⟨[(1, (.ptr 0 [])), (4, (.sl 1)), (5, (.v (.int .i64) i))], [(0, some (.box (.agg [(.v (.slice (.int .i64)) b0), (.v (.slice (.int .i64)) b02), (.v (.int .i64) b03), (.v (.int .i64) b04)]))), (1, some (.row (.int .i64) l1 false))], 2, []⟩
noncomputable def spigotref15_All.L2 (i : Int) (b0 : (List Int)) (b02 : (List Int)) (b03 : Int) (b04 : Int) (l1 : (List Int)) : Option ((List Int) × Bool × Unit) := res spigotref15_All.c (atJoin spigotref15_All.b [1, 1, 0, 1, 0, 0, 0, 1]) (spigotref15_All.S2 i b0 b02 b03 b04 l1)
noncomputable def spigotref15_All.S3 (i : Int) (b0 : (List Int)) (b02 : (List Int)) (b03 : Int) (b04 : Int) (l1 : (List Int)) : St := ⟨[(1, (.ptr 0 [])), (4, (.sl 1)), (5, (.v (.int .i64) i))], [(0, some (.box (.agg [(.v (.slice (.int .i64)) b0), (.v (.slice (.int .i64)) b02), (.v (.int .i64) b03), (.v (.int .i64) b04)]))), (1, some (.row (.int .i64) l1 false))], 2, []⟩
noncomputable def spigotref15_All.L3 (i : Int) (b0 : (List Int)) (b02 : (List Int)) (b03 : Int) (b04 : Int) (l1 : (List Int)) : Option ((List Int) × Bool × Unit) := res spigotref15_All.c (atJoin spigotref15_All.b [1, 1, 0, 1, 0, 0, 1, 0, 0, 0, 1]) (spigotref15_All.S3 i b0 b02 b03 b04 l1)
theorem spigotref15_All.spec : FnSpec Try.prog globs 70 spigotref15_All.Fn := spec_of (E := spigotref15_All.E) (envOk_at tabOk eqOk primsOk (.cons spigotref13_In.spec <| .nil)) mixOk Try.func70 (by kernel_rfl)
theorem spigotref15_All.L1_eq (i : Int) (b0 : (List Int)) (b02 : (List Int)) (b03 : Int) (b04 : Int) (l1 : (List Int)) : spigotref15_All.L1 i b0 b02 b03 b04 l1 =
  bif (i != (-1)) then
    spigotref15_All.L2 i b0 b02 b03 b04 l1
  else
    some (l1, true, ()) := res_eq (by kernel_rfl)
theorem spigotref15_All.L2_eq (i : Int) (b0 : (List Int)) (b02 : (List Int)) (b03 : Int) (b04 : Int) (l1 : (List Int)) : spigotref15_All.L2 i b0 b02 b03 b04 l1 =
  bif (decide ((i : Int) < 0)) then
    some (([] : List Int), false, ())
  else
    bif (decide ((i : Int) ≥ ((List.length b02 : Int)))) then
      some (([] : List Int), false, ())
    else
      (spigotref13_In.F l1 i).bind fun r0 =>
      bif r0.1 then
        some (([] : List Int), false, ())
      else
        spigotref15_All.L3 i b0 b02 b03 b04 l1 := res_eq (by kernel_rfl)
theorem spigotref15_All.L3_eq (i : Int) (b0 : (List Int)) (b02 : (List Int)) (b03 : Int) (b04 : Int) (l1 : (List Int)) : spigotref15_All.L3 i b0 b02 b03 b04 l1 =
  bif (lim ((List.length l1) + (List.length ([i] : List Int))) (.int .i64)) then
    bif (decide ((0 : Int) ≤ i ∧ (i : Int) < ((List.length b02 : Int)))) then
      spigotref15_All.L1 (List.getD b02 (Int.toNat i) 0) b0 b02 b03 b04 (l1 ++ ([i] : List Int))
    else none
  else none := res_eq (by kernel_rfl)
theorem spigotref15_All.F_eq (o : t4.den) : spigotref15_All.F o =
  spigotref15_All.L1 o.2.2.1 o.1 o.2.1 o.2.2.1 o.2.2.2.1 ([] : List Int) := by kernel_rfl
/-! ### spigot/spigotref15.Check (69) -/
noncomputable def spigotref15_Check.sg : Sig := ⟨[.val t4], [((.int .i64), true)]⟩
noncomputable def spigotref15_Check.E : Env := ⟨tl, fun i => look i [(62, spigotref15_Same.Fn), (70, spigotref15_All.Fn), (95, spigotref15_Made.Fn)], [], eqs, globs, prims⟩
noncomputable def spigotref15_Check.c := cxOf spigotref15_Check.E spigotref15_Check.sg Try.f69
noncomputable def spigotref15_Check.b := body Try.f69
noncomputable def spigotref15_Check.Fn : Fun := fnOf spigotref15_Check.E spigotref15_Check.sg Try.f69
noncomputable def spigotref15_Check.F (o : t4.den) : Option (Int × Unit) := spigotref15_Check.Fn.F (o, ())
noncomputable def spigotref15_Check.S1 (b0 : (List Int)) (b02 : (List Int)) (b03 : Int) (b04 : Int) : St := ⟨[(1, (.ptr 0 []))], [(0, some (.box (.agg [(.v (.slice (.int .i64)) b0), (.v (.slice (.int .i64)) b02), (.v (.int .i64) b03), (.v (.int .i64) b04)])))], 1, []⟩
noncomputable def spigotref15_Check.L1 (b0 : (List Int)) (b02 : (List Int)) (b03 : Int) (b04 : Int) : Option (Int × Unit) := res spigotref15_Check.c (atJoin spigotref15_Check.b [1, 0, 1]) (spigotref15_Check.S1 b0 b02 b03 b04)
noncomputable def spigotref15_Check.S2 : St := ⟨[], [], 0, []⟩
noncomputable def spigotref15_Check.L2 : Option (Int × Unit) := res spigotref15_Check.c (atJoin spigotref15_Check.b [1, 1, 1, 0, 1]) (spigotref15_Check.S2)
theorem spigotref15_Check.spec : FnSpec Try.prog globs 69 spigotref15_Check.Fn := spec_of (E := spigotref15_Check.E) (envOk_at tabOk eqOk primsOk (.cons spigotref15_Same.spec <| .cons spigotref15_All.spec <| .cons spigotref15_Made.spec <| .nil)) mixOk Try.func69 (by kernel_rfl)
theorem spigotref15_Check.L1_eq (b0 : (List Int)) (b02 : (List Int)) (b03 : Int) (b04 : Int) : spigotref15_Check.L1 b0 b02 b03 b04 =
  (spigotref15_All.F (b0, b02, b03, b04, ())).bind fun r0 =>
  bif (!r0.2.1) then
    some (8, ())
  else
    (spigotref15_Made.F ((List.length b0 : Int)) r0.1).bind fun r1 =>
    (spigotref15_Same.F (b0, b02, b03, b04, ()) r1.1).bind fun r2 =>
    bif (!r2.1) then
      some (8, ())
    else
      spigotref15_Check.L2 := res_eq (by kernel_rfl)
theorem spigotref15_Check.L2_eq : spigotref15_Check.L2 =
  some (0, ()) := res_eq (by kernel_rfl)
theorem spigotref15_Check.F_eq (o : t4.den) : spigotref15_Check.F o =
  bif (decide ((((List.length o.1 : Int)) : Int) < 1)) then
    some (8, ())
  else
    bif (decide ((((List.length o.1 : Int)) : Int) > 16)) then
      some (8, ())
    else
      bif (((List.length o.2.1 : Int)) != ((List.length o.1 : Int))) then
        some (8, ())
      else
        spigotref15_Check.L1 o.1 o.2.1 o.2.2.1 o.2.2.2.1 := by kernel_rfl
/-! ### spigot/spigotref16.cells (72) -/
noncomputable def spigotref16_cells.sg : Sig := ⟨[.val (.slice t3), .val (.int .i64), .val (.int .u32)], [((.int .i64), true), (.bool, true)]⟩
noncomputable def spigotref16_cells.E : Env := ⟨tl, fun i => look i [], [], eqs, globs, prims⟩
noncomputable def spigotref16_cells.c := cxOf spigotref16_cells.E spigotref16_cells.sg Try.f72
noncomputable def spigotref16_cells.b := body Try.f72
noncomputable def spigotref16_cells.Fn : Fun := fnOf spigotref16_cells.E spigotref16_cells.sg Try.f72
noncomputable def spigotref16_cells.F (x : (List t3.den)) (place : Int) (key : Int) : Option (Int × Bool × Unit) := spigotref16_cells.Fn.F (x, place, key, ())
noncomputable def spigotref16_cells.S1 (x : (List t3.den)) (place : Int) (key : Int) (n : Int) (same : Bool) (i : Int) : St := ⟨[(0, (.v (.slice t3) x)), (1, (.v (.int .i64) place)), (2, (.v (.int .u32) key)), (8, (.v (.int .i64) n)), (9, (.v .bool same)), (10, (.v (.int .i64) i))], [], 0, []⟩
noncomputable def spigotref16_cells.L1 (x : (List t3.den)) (place : Int) (key : Int) (n : Int) (same : Bool) (i : Int) : Option (Int × Bool × Unit) := res spigotref16_cells.c (atLoop spigotref16_cells.b [1, 1, 0, 1, 0]) (spigotref16_cells.S1 x place key n same i)
noncomputable def spigotref16_cells.S2 (x : (List t3.den)) (place : Int) (key : Int) (n : Int) (same : Bool) (i : Int) : St := ⟨[(0, (.v (.slice t3) x)), (1, (.v (.int .i64) place)), (2, (.v (.int .u32) key)), (8, (.v (.int .i64) n)), (9, (.v .bool same)), (10, (.v (.int .i64) i))], [], 0, []⟩
noncomputable def spigotref16_cells.L2 (x : (List t3.den)) (place : Int) (key : Int) (n : Int) (same : Bool) (i : Int) : Option (Int × Bool × Unit) := res spigotref16_cells.c (atJoin spigotref16_cells.b [1, 1, 0, 1, 0, 0, 0, 1]) (spigotref16_cells.S2 x place key n same i)
noncomputable def spigotref16_cells.S3 (x : (List t3.den)) (place : Int) (key : Int) (n : Int) (same : Bool) (i : Int) : St := ⟨[(0, (.v (.slice t3) x)), (1, (.v (.int .i64) place)), (2, (.v (.int .u32) key)), (8, (.v (.int .i64) n)), (9, (.v .bool same)), (10, (.v (.int .i64) i))], [], 0, []⟩
noncomputable def spigotref16_cells.L3 (x : (List t3.den)) (place : Int) (key : Int) (n : Int) (same : Bool) (i : Int) : Option (Int × Bool × Unit) := res spigotref16_cells.c (atJoin spigotref16_cells.b [1, 1, 0, 1, 0, 0, 1, 0, 0, 1]) (spigotref16_cells.S3 x place key n same i)
theorem spigotref16_cells.spec : FnSpec Try.prog globs 72 spigotref16_cells.Fn := spec_of (E := spigotref16_cells.E) (envOk_at tabOk eqOk primsOk (.nil)) mixOk Try.func72 (by kernel_rfl)
theorem spigotref16_cells.L1_eq (x : (List t3.den)) (place : Int) (key : Int) (n : Int) (same : Bool) (i : Int) : spigotref16_cells.L1 x place key n same i =
  bif (decide ((i : Int) < ((List.length x : Int)))) then
    spigotref16_cells.L2 x place key n same i
  else
    some (n, same, ()) := res_eq (by kernel_rfl)
theorem spigotref16_cells.L2_eq (x : (List t3.den)) (place : Int) (key : Int) (n : Int) (same : Bool) (i : Int) : spigotref16_cells.L2 x place key n same i =
  bif (decide ((0 : Int) ≤ i ∧ (i : Int) < ((List.length x : Int)))) then
    bif (((List.getD x (Int.toNat i) (0, 0, false, ())).2).2).1 then
      bif (decide ((0 : Int) ≤ i ∧ (i : Int) < ((List.length x : Int)))) then
        bif (((List.getD x (Int.toNat i) (0, 0, false, ())).2).1 == place) then
          bif same then
            bif (decide ((0 : Int) ≤ i ∧ (i : Int) < ((List.length x : Int)))) then
              spigotref16_cells.L3 x place key (IntKind.wrap .i64 (n + 1)) ((List.getD x (Int.toNat i) (0, 0, false, ())).1 == key) i
            else none
          else
            spigotref16_cells.L3 x place key (IntKind.wrap .i64 (n + 1)) false i
        else
          spigotref16_cells.L3 x place key n same i
      else none
    else
      spigotref16_cells.L3 x place key n same i
  else none := res_eq (by kernel_rfl)
theorem spigotref16_cells.L3_eq (x : (List t3.den)) (place : Int) (key : Int) (n : Int) (same : Bool) (i : Int) : spigotref16_cells.L3 x place key n same i =
  spigotref16_cells.L1 x place key n same (IntKind.wrap .i64 (i + 1)) := res_eq (by kernel_rfl)
theorem spigotref16_cells.F_eq (x : (List t3.den)) (place : Int) (key : Int) : spigotref16_cells.F x place key =
  spigotref16_cells.L1 x place key 0 true 0 := by kernel_rfl
/-! ### spigot/spigotref16.Check (45) -/
noncomputable def spigotref16_Check.sg : Sig := ⟨[.val t5], [((.int .i64), true)]⟩
noncomputable def spigotref16_Check.E : Env := ⟨tl, fun i => look i [(44, spigotref03_Check.Fn), (67, spigotref13_Check.Fn), (68, spigotref14_Check.Fn), (69, spigotref15_Check.Fn), (70, spigotref15_All.Fn), (71, spigotref14_Count.Fn), (72, spigotref16_cells.Fn), (73, spigotref13_In.Fn)], [], eqs, globs, prims⟩
noncomputable def spigotref16_Check.c := cxOf spigotref16_Check.E spigotref16_Check.sg Try.f45
noncomputable def spigotref16_Check.b := body Try.f45
noncomputable def spigotref16_Check.Fn : Fun := fnOf spigotref16_Check.E spigotref16_Check.sg Try.f45
noncomputable def spigotref16_Check.F (t : t5.den) : Option (Int × Unit) := spigotref16_Check.Fn.F (t, ())
noncomputable def spigotref16_Check.S1 (b0 : Int) (b02 : (List Int)) (b03 : (List t1.den)) (b04 : (List Int)) (b05 : (List Bool)) (b06 : Int) (b07 : (List t3.den)) (b08 : (List Int)) (b09 : (List Int)) (b010 : Int) (b011 : Int) : St := ⟨[(1, (.ptr 0 []))], [(0, some (.box (.agg [(.v (.int .i64) b0), (.v (.slice (.int .u32)) b02), (.v (.slice t1) b03), (.agg [(.v (.slice (.int .i64)) b04), (.v (.slice .bool) b05), (.v (.int .i64) b06)]), (.v (.slice t3) b07), (.agg [(.v (.slice (.int .i64)) b08), (.v (.slice (.int .i64)) b09), (.v (.int .i64) b010), (.v (.int .i64) b011)])])))], 1, []⟩
noncomputable def spigotref16_Check.L1 (b0 : Int) (b02 : (List Int)) (b03 : (List t1.den)) (b04 : (List Int)) (b05 : (List Bool)) (b06 : Int) (b07 : (List t3.den)) (b08 : (List Int)) (b09 : (List Int)) (b010 : Int) (b011 : Int) : Option (Int × Unit) := res spigotref16_Check.c (atJoin spigotref16_Check.b [1, 0, 1]) (spigotref16_Check.S1 b0 b02 b03 b04 b05 b06 b07 b08 b09 b010 b011)
noncomputable def spigotref16_Check.S2 (b0 : Int) (b02 : (List Int)) (b03 : (List t1.den)) (b04 : (List Int)) (b05 : (List Bool)) (b06 : Int) (b07 : (List t3.den)) (b08 : (List Int)) (b09 : (List Int)) (b010 : Int) (b011 : Int) : St := ⟨[(1, (.ptr 0 []))], [(0, some (.box (.agg [(.v (.int .i64) b0), (.v (.slice (.int .u32)) b02), (.v (.slice t1) b03), (.agg [(.v (.slice (.int .i64)) b04), (.v (.slice .bool) b05), (.v (.int .i64) b06)]), (.v (.slice t3) b07), (.agg [(.v (.slice (.int .i64)) b08), (.v (.slice (.int .i64)) b09), (.v (.int .i64) b010), (.v (.int .i64) b011)])])))], 1, []⟩
noncomputable def spigotref16_Check.L2 (b0 : Int) (b02 : (List Int)) (b03 : (List t1.den)) (b04 : (List Int)) (b05 : (List Bool)) (b06 : Int) (b07 : (List t3.den)) (b08 : (List Int)) (b09 : (List Int)) (b010 : Int) (b011 : Int) : Option (Int × Unit) := res spigotref16_Check.c (atJoin spigotref16_Check.b [1, 1, 0, 1]) (spigotref16_Check.S2 b0 b02 b03 b04 b05 b06 b07 b08 b09 b010 b011)
noncomputable def spigotref16_Check.S3 (b0 : Int) (b02 : (List Int)) (b03 : (List t1.den)) (b04 : (List Int)) (b05 : (List Bool)) (b06 : Int) (b07 : (List t3.den)) (b08 : (List Int)) (b09 : (List Int)) (b010 : Int) (b011 : Int) (l1 : (List Int)) : St := ⟨[(1, (.ptr 0 [])), (3, (.sl 1))], [(0, some (.box (.agg [(.v (.int .i64) b0), (.v (.slice (.int .u32)) b02), (.v (.slice t1) b03), (.agg [(.v (.slice (.int .i64)) b04), (.v (.slice .bool) b05), (.v (.int .i64) b06)]), (.v (.slice t3) b07), (.agg [(.v (.slice (.int .i64)) b08), (.v (.slice (.int .i64)) b09), (.v (.int .i64) b010), (.v (.int .i64) b011)])]))), (1, some (.row (.int .i64) l1 false))], 2, []⟩
noncomputable def spigotref16_Check.L3 (b0 : Int) (b02 : (List Int)) (b03 : (List t1.den)) (b04 : (List Int)) (b05 : (List Bool)) (b06 : Int) (b07 : (List t3.den)) (b08 : (List Int)) (b09 : (List Int)) (b010 : Int) (b011 : Int) (l1 : (List Int)) : Option (Int × Unit) := res spigotref16_Check.c (atJoin spigotref16_Check.b [1, 1, 1, 1, 0, 1]) (spigotref16_Check.S3 b0 b02 b03 b04 b05 b06 b07 b08 b09 b010 b011 l1)
noncomputable def spigotref16_Check.S4 (i : Int) (b0 : Int) (b02 : (List Int)) (b03 : (List t1.den)) (b04 : (List Int)) (b05 : (List Bool)) (b06 : Int) (b07 : (List t3.den)) (b08 : (List Int)) (b09 : (List Int)) (b010 : Int) (b011 : Int) (l1 : (List Int)) : St := ⟨[(1, (.ptr 0 [])), (3, (.sl 1)), (5, (.v (.int .i64) i))], [(0, some (.box (.agg [(.v (.int .i64) b0), (.v (.slice (.int .u32)) b02), (.v (.slice t1) b03), (.agg [(.v (.slice (.int .i64)) b04), (.v (.slice .bool) b05), (.v (.int .i64) b06)]), (.v (.slice t3) b07), (.agg [(.v (.slice (.int .i64)) b08), (.v (.slice (.int .i64)) b09), (.v (.int .i64) b010), (.v (.int .i64) b011)])]))), (1, some (.row (.int .i64) l1 false))], 2, []⟩
noncomputable def spigotref16_Check.L4 (i : Int) (b0 : Int) (b02 : (List Int)) (b03 : (List t1.den)) (b04 : (List Int)) (b05 : (List Bool)) (b06 : Int) (b07 : (List t3.den)) (b08 : (List Int)) (b09 : (List Int)) (b010 : Int) (b011 : Int) (l1 : (List Int)) : Option (Int × Unit) := res spigotref16_Check.c (atLoop spigotref16_Check.b [1, 1, 1, 1, 1, 0, 1, 0]) (spigotref16_Check.S4 i b0 b02 b03 b04 b05 b06 b07 b08 b09 b010 b011 l1)
noncomputable def spigotref16_Check.S5 (i : Int) (b0 : Int) (b02 : (List Int)) (b03 : (List t1.den)) (b04 : (List Int)) (b05 : (List Bool)) (b06 : Int) (b07 : (List t3.den)) (b08 : (List Int)) (b09 : (List Int)) (b010 : Int) (b011 : Int) (l1 : (List Int)) : St := ⟨[(1, (.ptr 0 [])), (3, (.sl 1)), (5, (.v (.int .i64) i))], [(0, some (.box (.agg [(.v (.int .i64) b0), (.v (.slice (.int .u32)) b02), (.v (.slice t1) b03), (.agg [(.v (.slice (.int .i64)) b04), (.v (.slice .bool) b05), (.v (.int .i64) b06)]), (.v (.slice t3) b07), (.agg [(.v (.slice (.int .i64)) b08), (.v (.slice (.int .i64)) b09), (.v (.int .i64) b010), (.v (.int .i64) b011)])]))), (1, some (.row (.int .i64) l1 false))], 2, []⟩
noncomputable def spigotref16_Check.L5 (i : Int) (b0 : Int) (b02 : (List Int)) (b03 : (List t1.den)) (b04 : (List Int)) (b05 : (List Bool)) (b06 : Int) (b07 : (List t3.den)) (b08 : (List Int)) (b09 : (List Int)) (b010 : Int) (b011 : Int) (l1 : (List Int)) : Option (Int × Unit) := res spigotref16_Check.c (atJoin spigotref16_Check.b [1, 1, 1, 1, 1, 0, 1, 0, 0, 0, 1]) (spigotref16_Check.S5 i b0 b02 b03 b04 b05 b06 b07 b08 b09 b010 b011 l1)
noncomputable def spigotref16_Check.S6 (i : Int) (b0 : Int) (b02 : (List Int)) (b03 : (List t1.den)) (b04 : (List Int)) (b05 : (List Bool)) (b06 : Int) (b07 : (List t3.den)) (b08 : (List Int)) (b09 : (List Int)) (b010 : Int) (b011 : Int) (l1 : (List Int)) : St := ⟨[(1, (.ptr 0 [])), (3, (.sl 1)), (5, (.v (.int .i64) i))], [(0, some (.box (.agg [(.v (.int .i64) b0), (.v (.slice (.int .u32)) b02), (.v (.slice t1) b03), (.agg [(.v (.slice (.int .i64)) b04), (.v (.slice .bool) b05), (.v (.int .i64) b06)]), (.v (.slice t3) b07), (.agg [(.v (.slice (.int .i64)) b08), (.v (.slice (.int .i64)) b09), (.v (.int .i64) b010), (.v (.int .i64) b011)])]))), (1, some (.row (.int .i64) l1 false))], 2, []⟩
noncomputable def spigotref16_Check.L6 (i : Int) (b0 : Int) (b02 : (List Int)) (b03 : (List t1.den)) (b04 : (List Int)) (b05 : (List Bool)) (b06 : Int) (b07 : (List t3.den)) (b08 : (List Int)) (b09 : (List Int)) (b010 : Int) (b011 : Int) (l1 : (List Int)) : Option (Int × Unit) := res spigotref16_Check.c (atJoin spigotref16_Check.b [1, 1, 1, 1, 1, 0, 1, 0, 0, 1, 0, 0, 1, 0, 1]) (spigotref16_Check.S6 i b0 b02 b03 b04 b05 b06 b07 b08 b09 b010 b011 l1)
noncomputable def spigotref16_Check.S7 (i : Int) (b0 : Int) (b02 : (List Int)) (b03 : (List t1.den)) (b04 : (List Int)) (b05 : (List Bool)) (b06 : Int) (b07 : (List t3.den)) (b08 : (List Int)) (b09 : (List Int)) (b010 : Int) (b011 : Int) (l1 : (List Int)) : St := ⟨[(1, (.ptr 0 [])), (3, (.sl 1)), (5, (.v (.int .i64) i))], [(0, some (.box (.agg [(.v (.int .i64) b0), (.v (.slice (.int .u32)) b02), (.v (.slice t1) b03), (.agg [(.v (.slice (.int .i64)) b04), (.v (.slice .bool) b05), (.v (.int .i64) b06)]), (.v (.slice t3) b07), (.agg [(.v (.slice (.int .i64)) b08), (.v (.slice (.int .i64)) b09), (.v (.int .i64) b010), (.v (.int .i64) b011)])]))), (1, some (.row (.int .i64) l1 false))], 2, []⟩
noncomputable def spigotref16_Check.L7 (i : Int) (b0 : Int) (b02 : (List Int)) (b03 : (List t1.den)) (b04 : (List Int)) (b05 : (List Bool)) (b06 : Int) (b07 : (List t3.den)) (b08 : (List Int)) (b09 : (List Int)) (b010 : Int) (b011 : Int) (l1 : (List Int)) : Option (Int × Unit) := res spigotref16_Check.c (atJoin spigotref16_Check.b [1, 1, 1, 1, 1, 0, 1, 0, 0, 1, 0, 0, 1, 1, 0, 1]) (spigotref16_Check.S7 i b0 b02 b03 b04 b05 b06 b07 b08 b09 b010 b011 l1)
noncomputable def spigotref16_Check.S8 (i : Int) (b0 : Int) (b02 : (List Int)) (b03 : (List t1.den)) (b04 : (List Int)) (b05 : (List Bool)) (b06 : Int) (b07 : (List t3.den)) (b08 : (List Int)) (b09 : (List Int)) (b010 : Int) (b011 : Int) (l1 : (List Int)) : St := ⟨[(1, (.ptr 0 [])), (3, (.sl 1)), (5, (.v (.int .i64) i))], [(0, some (.box (.agg [(.v (.int .i64) b0), (.v (.slice (.int .u32)) b02), (.v (.slice t1) b03), (.agg [(.v (.slice (.int .i64)) b04), (.v (.slice .bool) b05), (.v (.int .i64) b06)]), (.v (.slice t3) b07), (.agg [(.v (.slice (.int .i64)) b08), (.v (.slice (.int .i64)) b09), (.v (.int .i64) b010), (.v (.int .i64) b011)])]))), (1, some (.row (.int .i64) l1 false))], 2, []⟩
noncomputable def spigotref16_Check.L8 (i : Int) (b0 : Int) (b02 : (List Int)) (b03 : (List t1.den)) (b04 : (List Int)) (b05 : (List Bool)) (b06 : Int) (b07 : (List t3.den)) (b08 : (List Int)) (b09 : (List Int)) (b010 : Int) (b011 : Int) (l1 : (List Int)) : Option (Int × Unit) := res spigotref16_Check.c (atJoin spigotref16_Check.b [1, 1, 1, 1, 1, 0, 1, 0, 0, 1, 0, 0, 1, 1, 1, 1]) (spigotref16_Check.S8 i b0 b02 b03 b04 b05 b06 b07 b08 b09 b010 b011 l1)
theorem spigotref16_Check.spec : FnSpec Try.prog globs 45 spigotref16_Check.Fn := spec_of (E := spigotref16_Check.E) (envOk_at tabOk eqOk primsOk (.cons spigotref03_Check.spec <| .cons spigotref13_Check.spec <| .cons spigotref14_Check.spec <| .cons spigotref15_Check.spec <| .cons spigotref15_All.spec <| .cons spigotref14_Count.spec <| .cons spigotref16_cells.spec <| .cons spigotref13_In.spec <| .nil)) mixOk Try.func45 (by kernel_rfl)
theorem spigotref16_Check.L1_eq (b0 : Int) (b02 : (List Int)) (b03 : (List t1.den)) (b04 : (List Int)) (b05 : (List Bool)) (b06 : Int) (b07 : (List t3.den)) (b08 : (List Int)) (b09 : (List Int)) (b010 : Int) (b011 : Int) : spigotref16_Check.L1 b0 b02 b03 b04 b05 b06 b07 b08 b09 b010 b011 =
  (spigotref13_Check.F (b04, b05, b06, ())).bind fun r0 =>
  bif (r0.1 != 0) then
    some (8, ())
  else
    (spigotref14_Check.F b07).bind fun r1 =>
    bif (r1.1 != 0) then
      some (8, ())
    else
      (spigotref15_Check.F (b08, b09, b010, b011, ())).bind fun r2 =>
      bif (r2.1 != 0) then
        some (8, ())
      else
        spigotref16_Check.L2 b0 b02 b03 b04 b05 b06 b07 b08 b09 b010 b011 := res_eq (by kernel_rfl)
theorem spigotref16_Check.L2_eq (b0 : Int) (b02 : (List Int)) (b03 : (List t1.den)) (b04 : (List Int)) (b05 : (List Bool)) (b06 : Int) (b07 : (List t3.den)) (b08 : (List Int)) (b09 : (List Int)) (b010 : Int) (b011 : Int) : spigotref16_Check.L2 b0 b02 b03 b04 b05 b06 b07 b08 b09 b010 b011 =
  (spigotref15_All.F (b08, b09, b010, b011, ())).bind fun r0 =>
  (spigotref14_Count.F b07).bind fun r1 =>
  bif (r1.1 != ((List.length r0.1 : Int))) then
    some (8, ())
  else
    spigotref16_Check.L3 b0 b02 b03 b04 b05 b06 b07 b08 b09 b010 b011 r0.1 := res_eq (by kernel_rfl)
theorem spigotref16_Check.L3_eq (b0 : Int) (b02 : (List Int)) (b03 : (List t1.den)) (b04 : (List Int)) (b05 : (List Bool)) (b06 : Int) (b07 : (List t3.den)) (b08 : (List Int)) (b09 : (List Int)) (b010 : Int) (b011 : Int) (l1 : (List Int)) : spigotref16_Check.L3 b0 b02 b03 b04 b05 b06 b07 b08 b09 b010 b011 l1 =
  spigotref16_Check.L4 0 b0 b02 b03 b04 b05 b06 b07 b08 b09 b010 b011 l1 := res_eq (by kernel_rfl)
theorem spigotref16_Check.L4_eq (i : Int) (b0 : Int) (b02 : (List Int)) (b03 : (List t1.den)) (b04 : (List Int)) (b05 : (List Bool)) (b06 : Int) (b07 : (List t3.den)) (b08 : (List Int)) (b09 : (List Int)) (b010 : Int) (b011 : Int) (l1 : (List Int)) : spigotref16_Check.L4 i b0 b02 b03 b04 b05 b06 b07 b08 b09 b010 b011 l1 =
  bif (decide ((i : Int) < b0)) then
    spigotref16_Check.L5 i b0 b02 b03 b04 b05 b06 b07 b08 b09 b010 b011 l1
  else
    some (0, ()) := res_eq (by kernel_rfl)
theorem spigotref16_Check.L5_eq (i : Int) (b0 : Int) (b02 : (List Int)) (b03 : (List t1.den)) (b04 : (List Int)) (b05 : (List Bool)) (b06 : Int) (b07 : (List t3.den)) (b08 : (List Int)) (b09 : (List Int)) (b010 : Int) (b011 : Int) (l1 : (List Int)) : spigotref16_Check.L5 i b0 b02 b03 b04 b05 b06 b07 b08 b09 b010 b011 l1 =
  bif (decide ((0 : Int) ≤ i ∧ (i : Int) < ((List.length b02 : Int)))) then
    (spigotref16_cells.F b07 i (List.getD b02 (Int.toNat i) 0)).bind fun r0 =>
    bif (decide ((0 : Int) ≤ i ∧ (i : Int) < ((List.length b05 : Int)))) then
      (spigotref13_In.F l1 i).bind fun r1 =>
      bif (!((List.getD b05 (Int.toNat i) false) == r1.1)) then
        some (8, ())
      else
        bif (decide ((0 : Int) ≤ i ∧ (i : Int) < ((List.length b05 : Int)))) then
          bif (!((List.getD b05 (Int.toNat i) false) == (r0.1 == 1))) then
            some (8, ())
          else
            bif (!r0.2.1) then
              some (8, ())
            else
              spigotref16_Check.L6 i b0 b02 b03 b04 b05 b06 b07 b08 b09 b010 b011 l1
        else none
    else none
  else none := res_eq (by kernel_rfl)
theorem spigotref16_Check.L6_eq (i : Int) (b0 : Int) (b02 : (List Int)) (b03 : (List t1.den)) (b04 : (List Int)) (b05 : (List Bool)) (b06 : Int) (b07 : (List t3.den)) (b08 : (List Int)) (b09 : (List Int)) (b010 : Int) (b011 : Int) (l1 : (List Int)) : spigotref16_Check.L6 i b0 b02 b03 b04 b05 b06 b07 b08 b09 b010 b011 l1 =
  bif (decide ((0 : Int) ≤ i ∧ (i : Int) < ((List.length b05 : Int)))) then
    bif (List.getD b05 (Int.toNat i) false) then
      bif (decide ((0 : Int) ≤ i ∧ (i : Int) < ((List.length b03 : Int)))) then
        (spigotref03_Check.F (List.getD b03 (Int.toNat i) ((0, 0, 0, ()), 0, 0, 0, ()))).bind fun r0 =>
        bif (r0.1 != 0) then
          some (8, ())
        else
          spigotref16_Check.L7 i b0 b02 b03 b04 b05 b06 b07 b08 b09 b010 b011 l1
      else none
    else
      spigotref16_Check.L7 i b0 b02 b03 b04 b05 b06 b07 b08 b09 b010 b011 l1
  else none := res_eq (by kernel_rfl)
theorem spigotref16_Check.L7_eq (i : Int) (b0 : Int) (b02 : (List Int)) (b03 : (List t1.den)) (b04 : (List Int)) (b05 : (List Bool)) (b06 : Int) (b07 : (List t3.den)) (b08 : (List Int)) (b09 : (List Int)) (b010 : Int) (b011 : Int) (l1 : (List Int)) : spigotref16_Check.L7 i b0 b02 b03 b04 b05 b06 b07 b08 b09 b010 b011 l1 =
  bif (decide ((0 : Int) ≤ i ∧ (i : Int) < ((List.length b05 : Int)))) then
    bif (!(List.getD b05 (Int.toNat i) false)) then
      bif (decide ((0 : Int) ≤ i ∧ (i : Int) < ((List.length b02 : Int)))) then
        bif ((List.getD b02 (Int.toNat i) 0) != 0) then
          some (8, ())
        else
          bif (decide ((0 : Int) ≤ i ∧ (i : Int) < ((List.length b03 : Int)))) then
            bif (!(Ty.beq t1 (List.getD b03 (Int.toNat i) ((0, 0, 0, ()), 0, 0, 0, ())) ((0, 0, 0, ()), 0, 0, 0, ()))) then
              some (8, ())
            else
              spigotref16_Check.L8 i b0 b02 b03 b04 b05 b06 b07 b08 b09 b010 b011 l1
          else none
      else none
    else
      spigotref16_Check.L8 i b0 b02 b03 b04 b05 b06 b07 b08 b09 b010 b011 l1
  else none := res_eq (by kernel_rfl)
theorem spigotref16_Check.L8_eq (i : Int) (b0 : Int) (b02 : (List Int)) (b03 : (List t1.den)) (b04 : (List Int)) (b05 : (List Bool)) (b06 : Int) (b07 : (List t3.den)) (b08 : (List Int)) (b09 : (List Int)) (b010 : Int) (b011 : Int) (l1 : (List Int)) : spigotref16_Check.L8 i b0 b02 b03 b04 b05 b06 b07 b08 b09 b010 b011 l1 =
  spigotref16_Check.L4 (IntKind.wrap .i64 (i + 1)) b0 b02 b03 b04 b05 b06 b07 b08 b09 b010 b011 l1 := res_eq (by kernel_rfl)
theorem spigotref16_Check.F_eq (t : t5.den) : spigotref16_Check.F t =
  bif (decide ((t.1 : Int) < 1)) then
    some (8, ())
  else
    bif (decide ((t.1 : Int) > 8)) then
      some (8, ())
    else
      bif (((List.length t.2.1 : Int)) != t.1) then
        some (8, ())
      else
        bif (((List.length t.2.2.1 : Int)) != t.1) then
          some (8, ())
        else
          bif (((List.length t.2.2.2.1.1 : Int)) != t.1) then
            some (8, ())
          else
            bif (((List.length t.2.2.2.2.2.1.1 : Int)) != t.1) then
              some (8, ())
            else
              spigotref16_Check.L1 t.1 t.2.1 t.2.2.1 t.2.2.2.1.1 t.2.2.2.1.2.1 t.2.2.2.1.2.2.1 t.2.2.2.2.1 t.2.2.2.2.2.1.1 t.2.2.2.2.2.1.2.1 t.2.2.2.2.2.1.2.2.1 t.2.2.2.2.2.1.2.2.2.1 := by kernel_rfl
/-! ### spigot/spigotref18.alike (46) -/
noncomputable def spigotref18_alike.sg : Sig := ⟨[.val t5, .val t0, .val (.int .u32)], [(.bool, true)]⟩
noncomputable def spigotref18_alike.E : Env := ⟨tl, fun i => look i [], [], eqs, globs, prims⟩
noncomputable def spigotref18_alike.c := cxOf spigotref18_alike.E spigotref18_alike.sg Try.f46
noncomputable def spigotref18_alike.b := body Try.f46
noncomputable def spigotref18_alike.Fn : Fun := fnOf spigotref18_alike.E spigotref18_alike.sg Try.f46
noncomputable def spigotref18_alike.F (t : t5.den) (l : t0.den) (most : Int) : Option (Bool × Unit) := spigotref18_alike.Fn.F (t, l, most, ())
noncomputable def spigotref18_alike.S1 (most : Int) (i : Int) (b0 : Int) (b02 : (List Int)) (b03 : (List t1.den)) (b04 : (List Int)) (b05 : (List Bool)) (b06 : Int) (b07 : (List t3.den)) (b08 : (List Int)) (b09 : (List Int)) (b010 : Int) (b011 : Int) (b1 : Int) (b12 : Int) (b13 : Int) : St := ⟨[(2, (.v (.int .u32) most)), (3, (.ptr 0 [])), (4, (.ptr 1 [])), (7, (.v (.int .i64) i))], [(0, some (.box (.agg [(.v (.int .i64) b0), (.v (.slice (.int .u32)) b02), (.v (.slice t1) b03), (.agg [(.v (.slice (.int .i64)) b04), (.v (.slice .bool) b05), (.v (.int .i64) b06)]), (.v (.slice t3) b07), (.agg [(.v (.slice (.int .i64)) b08), (.v (.slice (.int .i64)) b09), (.v (.int .i64) b010), (.v (.int .i64) b011)])]))), (1, some (.box (.agg [(.v (.int .i64) b1), (.v (.int .i64) b12), (.v (.int .i64) b13)])))], 2, []⟩
noncomputable def spigotref18_alike.L1 (most : Int) (i : Int) (b0 : Int) (b02 : (List Int)) (b03 : (List t1.den)) (b04 : (List Int)) (b05 : (List Bool)) (b06 : Int) (b07 : (List t3.den)) (b08 : (List Int)) (b09 : (List Int)) (b010 : Int) (b011 : Int) (b1 : Int) (b12 : Int) (b13 : Int) : Option (Bool × Unit) := res spigotref18_alike.c (atLoop spigotref18_alike.b [1, 0, 1, 0]) (spigotref18_alike.S1 most i b0 b02 b03 b04 b05 b06 b07 b08 b09 b010 b011 b1 b12 b13)
noncomputable def spigotref18_alike.S2 (most : Int) (i : Int) (b0 : Int) (b02 : (List Int)) (b03 : (List t1.den)) (b04 : (List Int)) (b05 : (List Bool)) (b06 : Int) (b07 : (List t3.den)) (b08 : (List Int)) (b09 : (List Int)) (b010 : Int) (b011 : Int) (b1 : Int) (b12 : Int) (b13 : Int) : St := ⟨[(2, (.v (.int .u32) most)), (3, (.ptr 0 [])), (4, (.ptr 1 [])), (7, (.v (.int .i64) i))], [(0, some (.box (.agg [(.v (.int .i64) b0), (.v (.slice (.int .u32)) b02), (.v (.slice t1) b03), (.agg [(.v (.slice (.int .i64)) b04), (.v (.slice .bool) b05), (.v (.int .i64) b06)]), (.v (.slice t3) b07), (.agg [(.v (.slice (.int .i64)) b08), (.v (.slice (.int .i64)) b09), (.v (.int .i64) b010), (.v (.int .i64) b011)])]))), (1, some (.box (.agg [(.v (.int .i64) b1), (.v (.int .i64) b12), (.v (.int .i64) b13)])))], 2, []⟩
noncomputable def spigotref18_alike.L2 (most : Int) (i : Int) (b0 : Int) (b02 : (List Int)) (b03 : (List t1.den)) (b04 : (List Int)) (b05 : (List Bool)) (b06 : Int) (b07 : (List t3.den)) (b08 : (List Int)) (b09 : (List Int)) (b010 : Int) (b011 : Int) (b1 : Int) (b12 : Int) (b13 : Int) : Option (Bool × Unit) := res spigotref18_alike.c (atJoin spigotref18_alike.b [1, 0, 1, 0, 0, 0, 1]) (spigotref18_alike.S2 most i b0 b02 b03 b04 b05 b06 b07 b08 b09 b010 b011 b1 b12 b13)
noncomputable def spigotref18_alike.S3 (most : Int) (i : Int) (b0 : Int) (b02 : (List Int)) (b03 : (List t1.den)) (b04 : (List Int)) (b05 : (List Bool)) (b06 : Int) (b07 : (List t3.den)) (b08 : (List Int)) (b09 : (List Int)) (b010 : Int) (b011 : Int) (b1 : Int) (b12 : Int) (b13 : Int) : St := ⟨[(2, (.v (.int .u32) most)), (3, (.ptr 0 [])), (4, (.ptr 1 [])), (7, (.v (.int .i64) i))], [(0, some (.box (.agg [(.v (.int .i64) b0), (.v (.slice (.int .u32)) b02), (.v (.slice t1) b03), (.agg [(.v (.slice (.int .i64)) b04), (.v (.slice .bool) b05), (.v (.int .i64) b06)]), (.v (.slice t3) b07), (.agg [(.v (.slice (.int .i64)) b08), (.v (.slice (.int .i64)) b09), (.v (.int .i64) b010), (.v (.int .i64) b011)])]))), (1, some (.box (.agg [(.v (.int .i64) b1), (.v (.int .i64) b12), (.v (.int .i64) b13)])))], 2, []⟩
noncomputable def spigotref18_alike.L3 (most : Int) (i : Int) (b0 : Int) (b02 : (List Int)) (b03 : (List t1.den)) (b04 : (List Int)) (b05 : (List Bool)) (b06 : Int) (b07 : (List t3.den)) (b08 : (List Int)) (b09 : (List Int)) (b010 : Int) (b011 : Int) (b1 : Int) (b12 : Int) (b13 : Int) : Option (Bool × Unit) := res spigotref18_alike.c (atJoin spigotref18_alike.b [1, 0, 1, 0, 0, 1, 0, 0, 1]) (spigotref18_alike.S3 most i b0 b02 b03 b04 b05 b06 b07 b08 b09 b010 b011 b1 b12 b13)
theorem spigotref18_alike.spec : FnSpec Try.prog globs 46 spigotref18_alike.Fn := spec_of (E := spigotref18_alike.E) (envOk_at tabOk eqOk primsOk (.nil)) mixOk Try.func46 (by kernel_rfl)
theorem spigotref18_alike.L1_eq (most : Int) (i : Int) (b0 : Int) (b02 : (List Int)) (b03 : (List t1.den)) (b04 : (List Int)) (b05 : (List Bool)) (b06 : Int) (b07 : (List t3.den)) (b08 : (List Int)) (b09 : (List Int)) (b010 : Int) (b011 : Int) (b1 : Int) (b12 : Int) (b13 : Int) : spigotref18_alike.L1 most i b0 b02 b03 b04 b05 b06 b07 b08 b09 b010 b011 b1 b12 b13 =
  bif (decide ((i : Int) < b0)) then
    spigotref18_alike.L2 most i b0 b02 b03 b04 b05 b06 b07 b08 b09 b010 b011 b1 b12 b13
  else
    some (true, ()) := res_eq (by kernel_rfl)
theorem spigotref18_alike.L2_eq (most : Int) (i : Int) (b0 : Int) (b02 : (List Int)) (b03 : (List t1.den)) (b04 : (List Int)) (b05 : (List Bool)) (b06 : Int) (b07 : (List t3.den)) (b08 : (List Int)) (b09 : (List Int)) (b010 : Int) (b011 : Int) (b1 : Int) (b12 : Int) (b13 : Int) : spigotref18_alike.L2 most i b0 b02 b03 b04 b05 b06 b07 b08 b09 b010 b011 b1 b12 b13 =
  bif (decide ((0 : Int) ≤ i ∧ (i : Int) < ((List.length b05 : Int)))) then
    bif (List.getD b05 (Int.toNat i) false) then
      bif (decide ((0 : Int) ≤ i ∧ (i : Int) < ((List.length b03 : Int)))) then
        bif (!(Ty.beq t0 ((List.getD b03 (Int.toNat i) ((0, 0, 0, ()), 0, 0, 0, ())).1) (b1, b12, b13, ()))) then
          some (false, ())
        else
          bif (decide ((0 : Int) ≤ i ∧ (i : Int) < ((List.length b02 : Int)))) then
            bif (decide (((List.getD b02 (Int.toNat i) 0) : Int) > most)) then
              some (false, ())
            else
              spigotref18_alike.L3 most i b0 b02 b03 b04 b05 b06 b07 b08 b09 b010 b011 b1 b12 b13
          else none
      else none
    else
      spigotref18_alike.L3 most i b0 b02 b03 b04 b05 b06 b07 b08 b09 b010 b011 b1 b12 b13
  else none := res_eq (by kernel_rfl)
theorem spigotref18_alike.L3_eq (most : Int) (i : Int) (b0 : Int) (b02 : (List Int)) (b03 : (List t1.den)) (b04 : (List Int)) (b05 : (List Bool)) (b06 : Int) (b07 : (List t3.den)) (b08 : (List Int)) (b09 : (List Int)) (b010 : Int) (b011 : Int) (b1 : Int) (b12 : Int) (b13 : Int) : spigotref18_alike.L3 most i b0 b02 b03 b04 b05 b06 b07 b08 b09 b010 b011 b1 b12 b13 =
  spigotref18_alike.L1 most (IntKind.wrap .i64 (i + 1)) b0 b02 b03 b04 b05 b06 b07 b08 b09 b010 b011 b1 b12 b13 := res_eq (by kernel_rfl)
theorem spigotref18_alike.F_eq (t : t5.den) (l : t0.den) (most : Int) : spigotref18_alike.F t l most =
  spigotref18_alike.L1 most 0 t.1 t.2.1 t.2.2.1 t.2.2.2.1.1 t.2.2.2.1.2.1 t.2.2.2.1.2.2.1 t.2.2.2.2.1 t.2.2.2.2.2.1.1 t.2.2.2.2.2.1.2.1 t.2.2.2.2.2.1.2.2.1 t.2.2.2.2.2.1.2.2.2.1 l.1 l.2.1 l.2.2.1 := by kernel_rfl
/-! ### spigot/spigotref18.Check (29) -/
noncomputable def spigotref18_Check.sg : Sig := ⟨[.val t7], [((.int .i64), true)]⟩
noncomputable def spigotref18_Check.E : Env := ⟨tl, fun i => look i [(43, spigotref18_Limited.Fn), (44, spigotref03_Check.Fn), (45, spigotref16_Check.Fn), (46, spigotref18_alike.Fn)], [], eqs, globs, prims⟩
noncomputable def spigotref18_Check.c := cxOf spigotref18_Check.E spigotref18_Check.sg Try.f29
noncomputable def spigotref18_Check.b := body Try.f29
noncomputable def spigotref18_Check.Fn : Fun := fnOf spigotref18_Check.E spigotref18_Check.sg Try.f29
noncomputable def spigotref18_Check.F (p : t7.den) : Option (Int × Unit) := spigotref18_Check.Fn.F (p, ())
noncomputable def spigotref18_Check.S1 (b0 : Int) (b02 : (List t0.den)) (b03 : Int) (b04 : Int) (b05 : Int) (b06 : Int) (b07 : Int) (b08 : Int) (b09 : Int) (b010 : (List Int)) (b011 : (List t1.den)) (b012 : (List Int)) (b013 : (List Bool)) (b014 : Int) (b015 : (List t3.den)) (b016 : (List Int)) (b017 : (List Int)) (b018 : Int) (b019 : Int) (b020 : Int) (b021 : (List Int)) (b022 : (List t1.den)) (b023 : (List Int)) (b024 : (List Bool)) (b025 : Int) (b026 : (List t3.den)) (b027 : (List Int)) (b028 : (List Int)) (b029 : Int) (b030 : Int) (b031 : (List Int)) (b032 : Int) (b033 : Int) (b034 : Int) : St := ⟨[(1, (.ptr 0 []))], [(0, some (.box (.agg [(.v (.int .u32) b0), (.v (.arr 3 t0) b02), (.agg [(.agg [(.v (.int .i64) b03), (.v (.int .i64) b04), (.v (.int .i64) b05)]), (.v (.int .i64) b06), (.v (.int .i64) b07), (.v (.int .u64) b08)]), (.agg [(.v (.int .i64) b09), (.v (.slice (.int .u32)) b010), (.v (.slice t1) b011), (.agg [(.v (.slice (.int .i64)) b012), (.v (.slice .bool) b013), (.v (.int .i64) b014)]), (.v (.slice t3) b015), (.agg [(.v (.slice (.int .i64)) b016), (.v (.slice (.int .i64)) b017), (.v (.int .i64) b018), (.v (.int .i64) b019)])]), (.agg [(.v (.int .i64) b020), (.v (.slice (.int .u32)) b021), (.v (.slice t1) b022), (.agg [(.v (.slice (.int .i64)) b023), (.v (.slice .bool) b024), (.v (.int .i64) b025)]), (.v (.slice t3) b026), (.agg [(.v (.slice (.int .i64)) b027), (.v (.slice (.int .i64)) b028), (.v (.int .i64) b029), (.v (.int .i64) b030)])]), (.v (.slice (.int .u32)) b031), (.agg [(.v (.int .u64) b032), (.v (.int .u64) b033), (.v (.int .u64) b034)])])))], 1, []⟩
noncomputable def spigotref18_Check.L1 (b0 : Int) (b02 : (List t0.den)) (b03 : Int) (b04 : Int) (b05 : Int) (b06 : Int) (b07 : Int) (b08 : Int) (b09 : Int) (b010 : (List Int)) (b011 : (List t1.den)) (b012 : (List Int)) (b013 : (List Bool)) (b014 : Int) (b015 : (List t3.den)) (b016 : (List Int)) (b017 : (List Int)) (b018 : Int) (b019 : Int) (b020 : Int) (b021 : (List Int)) (b022 : (List t1.den)) (b023 : (List Int)) (b024 : (List Bool)) (b025 : Int) (b026 : (List t3.den)) (b027 : (List Int)) (b028 : (List Int)) (b029 : Int) (b030 : Int) (b031 : (List Int)) (b032 : Int) (b033 : Int) (b034 : Int) : Option (Int × Unit) := res spigotref18_Check.c (atJoin spigotref18_Check.b [1, 0, 1]) (spigotref18_Check.S1 b0 b02 b03 b04 b05 b06 b07 b08 b09 b010 b011 b012 b013 b014 b015 b016 b017 b018 b019 b020 b021 b022 b023 b024 b025 b026 b027 b028 b029 b030 b031 b032 b033 b034)
noncomputable def spigotref18_Check.S2 (b0 : Int) (b02 : (List t0.den)) (b03 : Int) (b04 : Int) (b05 : Int) (b06 : Int) (b07 : Int) (b08 : Int) (b09 : Int) (b010 : (List Int)) (b011 : (List t1.den)) (b012 : (List Int)) (b013 : (List Bool)) (b014 : Int) (b015 : (List t3.den)) (b016 : (List Int)) (b017 : (List Int)) (b018 : Int) (b019 : Int) (b020 : Int) (b021 : (List Int)) (b022 : (List t1.den)) (b023 : (List Int)) (b024 : (List Bool)) (b025 : Int) (b026 : (List t3.den)) (b027 : (List Int)) (b028 : (List Int)) (b029 : Int) (b030 : Int) (b031 : (List Int)) (b032 : Int) (b033 : Int) (b034 : Int) : St := ⟨[(1, (.ptr 0 []))], [(0, some (.box (.agg [(.v (.int .u32) b0), (.v (.arr 3 t0) b02), (.agg [(.agg [(.v (.int .i64) b03), (.v (.int .i64) b04), (.v (.int .i64) b05)]), (.v (.int .i64) b06), (.v (.int .i64) b07), (.v (.int .u64) b08)]), (.agg [(.v (.int .i64) b09), (.v (.slice (.int .u32)) b010), (.v (.slice t1) b011), (.agg [(.v (.slice (.int .i64)) b012), (.v (.slice .bool) b013), (.v (.int .i64) b014)]), (.v (.slice t3) b015), (.agg [(.v (.slice (.int .i64)) b016), (.v (.slice (.int .i64)) b017), (.v (.int .i64) b018), (.v (.int .i64) b019)])]), (.agg [(.v (.int .i64) b020), (.v (.slice (.int .u32)) b021), (.v (.slice t1) b022), (.agg [(.v (.slice (.int .i64)) b023), (.v (.slice .bool) b024), (.v (.int .i64) b025)]), (.v (.slice t3) b026), (.agg [(.v (.slice (.int .i64)) b027), (.v (.slice (.int .i64)) b028), (.v (.int .i64) b029), (.v (.int .i64) b030)])]), (.v (.slice (.int .u32)) b031), (.agg [(.v (.int .u64) b032), (.v (.int .u64) b033), (.v (.int .u64) b034)])])))], 1, []⟩
noncomputable def spigotref18_Check.L2 (b0 : Int) (b02 : (List t0.den)) (b03 : Int) (b04 : Int) (b05 : Int) (b06 : Int) (b07 : Int) (b08 : Int) (b09 : Int) (b010 : (List Int)) (b011 : (List t1.den)) (b012 : (List Int)) (b013 : (List Bool)) (b014 : Int) (b015 : (List t3.den)) (b016 : (List Int)) (b017 : (List Int)) (b018 : Int) (b019 : Int) (b020 : Int) (b021 : (List Int)) (b022 : (List t1.den)) (b023 : (List Int)) (b024 : (List Bool)) (b025 : Int) (b026 : (List t3.den)) (b027 : (List Int)) (b028 : (List Int)) (b029 : Int) (b030 : Int) (b031 : (List Int)) (b032 : Int) (b033 : Int) (b034 : Int) : Option (Int × Unit) := res spigotref18_Check.c (atJoin spigotref18_Check.b [1, 1, 0, 1]) (spigotref18_Check.S2 b0 b02 b03 b04 b05 b06 b07 b08 b09 b010 b011 b012 b013 b014 b015 b016 b017 b018 b019 b020 b021 b022 b023 b024 b025 b026 b027 b028 b029 b030 b031 b032 b033 b034)
noncomputable def spigotref18_Check.S3 (b0 : Int) (b02 : (List t0.den)) (b03 : Int) (b04 : Int) (b05 : Int) (b06 : Int) (b07 : Int) (b08 : Int) (b09 : Int) (b010 : (List Int)) (b011 : (List t1.den)) (b012 : (List Int)) (b013 : (List Bool)) (b014 : Int) (b015 : (List t3.den)) (b016 : (List Int)) (b017 : (List Int)) (b018 : Int) (b019 : Int) (b020 : Int) (b021 : (List Int)) (b022 : (List t1.den)) (b023 : (List Int)) (b024 : (List Bool)) (b025 : Int) (b026 : (List t3.den)) (b027 : (List Int)) (b028 : (List Int)) (b029 : Int) (b030 : Int) (b031 : (List Int)) (b032 : Int) (b033 : Int) (b034 : Int) : St := ⟨[(1, (.ptr 0 []))], [(0, some (.box (.agg [(.v (.int .u32) b0), (.v (.arr 3 t0) b02), (.agg [(.agg [(.v (.int .i64) b03), (.v (.int .i64) b04), (.v (.int .i64) b05)]), (.v (.int .i64) b06), (.v (.int .i64) b07), (.v (.int .u64) b08)]), (.agg [(.v (.int .i64) b09), (.v (.slice (.int .u32)) b010), (.v (.slice t1) b011), (.agg [(.v (.slice (.int .i64)) b012), (.v (.slice .bool) b013), (.v (.int .i64) b014)]), (.v (.slice t3) b015), (.agg [(.v (.slice (.int .i64)) b016), (.v (.slice (.int .i64)) b017), (.v (.int .i64) b018), (.v (.int .i64) b019)])]), (.agg [(.v (.int .i64) b020), (.v (.slice (.int .u32)) b021), (.v (.slice t1) b022), (.agg [(.v (.slice (.int .i64)) b023), (.v (.slice .bool) b024), (.v (.int .i64) b025)]), (.v (.slice t3) b026), (.agg [(.v (.slice (.int .i64)) b027), (.v (.slice (.int .i64)) b028), (.v (.int .i64) b029), (.v (.int .i64) b030)])]), (.v (.slice (.int .u32)) b031), (.agg [(.v (.int .u64) b032), (.v (.int .u64) b033), (.v (.int .u64) b034)])])))], 1, []⟩
noncomputable def spigotref18_Check.L3 (b0 : Int) (b02 : (List t0.den)) (b03 : Int) (b04 : Int) (b05 : Int) (b06 : Int) (b07 : Int) (b08 : Int) (b09 : Int) (b010 : (List Int)) (b011 : (List t1.den)) (b012 : (List Int)) (b013 : (List Bool)) (b014 : Int) (b015 : (List t3.den)) (b016 : (List Int)) (b017 : (List Int)) (b018 : Int) (b019 : Int) (b020 : Int) (b021 : (List Int)) (b022 : (List t1.den)) (b023 : (List Int)) (b024 : (List Bool)) (b025 : Int) (b026 : (List t3.den)) (b027 : (List Int)) (b028 : (List Int)) (b029 : Int) (b030 : Int) (b031 : (List Int)) (b032 : Int) (b033 : Int) (b034 : Int) : Option (Int × Unit) := res spigotref18_Check.c (atJoin spigotref18_Check.b [1, 1, 1, 0, 1]) (spigotref18_Check.S3 b0 b02 b03 b04 b05 b06 b07 b08 b09 b010 b011 b012 b013 b014 b015 b016 b017 b018 b019 b020 b021 b022 b023 b024 b025 b026 b027 b028 b029 b030 b031 b032 b033 b034)
noncomputable def spigotref18_Check.S4 (i : Int) (b0 : Int) (b02 : (List t0.den)) (b03 : Int) (b04 : Int) (b05 : Int) (b06 : Int) (b07 : Int) (b08 : Int) (b09 : Int) (b010 : (List Int)) (b011 : (List t1.den)) (b012 : (List Int)) (b013 : (List Bool)) (b014 : Int) (b015 : (List t3.den)) (b016 : (List Int)) (b017 : (List Int)) (b018 : Int) (b019 : Int) (b020 : Int) (b021 : (List Int)) (b022 : (List t1.den)) (b023 : (List Int)) (b024 : (List Bool)) (b025 : Int) (b026 : (List t3.den)) (b027 : (List Int)) (b028 : (List Int)) (b029 : Int) (b030 : Int) (b031 : (List Int)) (b032 : Int) (b033 : Int) (b034 : Int) : St := ⟨[(1, (.ptr 0 [])), (3, (.v (.int .i64) i))], [(0, some (.box (.agg [(.v (.int .u32) b0), (.v (.arr 3 t0) b02), (.agg [(.agg [(.v (.int .i64) b03), (.v (.int .i64) b04), (.v (.int .i64) b05)]), (.v (.int .i64) b06), (.v (.int .i64) b07), (.v (.int .u64) b08)]), (.agg [(.v (.int .i64) b09), (.v (.slice (.int .u32)) b010), (.v (.slice t1) b011), (.agg [(.v (.slice (.int .i64)) b012), (.v (.slice .bool) b013), (.v (.int .i64) b014)]), (.v (.slice t3) b015), (.agg [(.v (.slice (.int .i64)) b016), (.v (.slice (.int .i64)) b017), (.v (.int .i64) b018), (.v (.int .i64) b019)])]), (.agg [(.v (.int .i64) b020), (.v (.slice (.int .u32)) b021), (.v (.slice t1) b022), (.agg [(.v (.slice (.int .i64)) b023), (.v (.slice .bool) b024), (.v (.int .i64) b025)]), (.v (.slice t3) b026), (.agg [(.v (.slice (.int .i64)) b027), (.v (.slice (.int .i64)) b028), (.v (.int .i64) b029), (.v (.int .i64) b030)])]), (.v (.slice (.int .u32)) b031), (.agg [(.v (.int .u64) b032), (.v (.int .u64) b033), (.v (.int .u64) b034)])])))], 1, []⟩
noncomputable def spigotref18_Check.L4 (i : Int) (b0 : Int) (b02 : (List t0.den)) (b03 : Int) (b04 : Int) (b05 : Int) (b06 : Int) (b07 : Int) (b08 : Int) (b09 : Int) (b010 : (List Int)) (b011 : (List t1.den)) (b012 : (List Int)) (b013 : (List Bool)) (b014 : Int) (b015 : (List t3.den)) (b016 : (List Int)) (b017 : (List Int)) (b018 : Int) (b019 : Int) (b020 : Int) (b021 : (List Int)) (b022 : (List t1.den)) (b023 : (List Int)) (b024 : (List Bool)) (b025 : Int) (b026 : (List t3.den)) (b027 : (List Int)) (b028 : (List Int)) (b029 : Int) (b030 : Int) (b031 : (List Int)) (b032 : Int) (b033 : Int) (b034 : Int) : Option (Int × Unit) := res spigotref18_Check.c (atLoop spigotref18_Check.b [1, 1, 1, 1, 0, 1, 0]) (spigotref18_Check.S4 i b0 b02 b03 b04 b05 b06 b07 b08 b09 b010 b011 b012 b013 b014 b015 b016 b017 b018 b019 b020 b021 b022 b023 b024 b025 b026 b027 b028 b029 b030 b031 b032 b033 b034)
noncomputable def spigotref18_Check.S5 (i : Int) (b0 : Int) (b02 : (List t0.den)) (b03 : Int) (b04 : Int) (b05 : Int) (b06 : Int) (b07 : Int) (b08 : Int) (b09 : Int) (b010 : (List Int)) (b011 : (List t1.den)) (b012 : (List Int)) (b013 : (List Bool)) (b014 : Int) (b015 : (List t3.den)) (b016 : (List Int)) (b017 : (List Int)) (b018 : Int) (b019 : Int) (b020 : Int) (b021 : (List Int)) (b022 : (List t1.den)) (b023 : (List Int)) (b024 : (List Bool)) (b025 : Int) (b026 : (List t3.den)) (b027 : (List Int)) (b028 : (List Int)) (b029 : Int) (b030 : Int) (b031 : (List Int)) (b032 : Int) (b033 : Int) (b034 : Int) : St := ⟨[(1, (.ptr 0 [])), (3, (.v (.int .i64) i))], [(0, some (.box (.agg [(.v (.int .u32) b0), (.v (.arr 3 t0) b02), (.agg [(.agg [(.v (.int .i64) b03), (.v (.int .i64) b04), (.v (.int .i64) b05)]), (.v (.int .i64) b06), (.v (.int .i64) b07), (.v (.int .u64) b08)]), (.agg [(.v (.int .i64) b09), (.v (.slice (.int .u32)) b010), (.v (.slice t1) b011), (.agg [(.v (.slice (.int .i64)) b012), (.v (.slice .bool) b013), (.v (.int .i64) b014)]), (.v (.slice t3) b015), (.agg [(.v (.slice (.int .i64)) b016), (.v (.slice (.int .i64)) b017), (.v (.int .i64) b018), (.v (.int .i64) b019)])]), (.agg [(.v (.int .i64) b020), (.v (.slice (.int .u32)) b021), (.v (.slice t1) b022), (.agg [(.v (.slice (.int .i64)) b023), (.v (.slice .bool) b024), (.v (.int .i64) b025)]), (.v (.slice t3) b026), (.agg [(.v (.slice (.int .i64)) b027), (.v (.slice (.int .i64)) b028), (.v (.int .i64) b029), (.v (.int .i64) b030)])]), (.v (.slice (.int .u32)) b031), (.agg [(.v (.int .u64) b032), (.v (.int .u64) b033), (.v (.int .u64) b034)])])))], 1, []⟩
noncomputable def spigotref18_Check.L5 (i : Int) (b0 : Int) (b02 : (List t0.den)) (b03 : Int) (b04 : Int) (b05 : Int) (b06 : Int) (b07 : Int) (b08 : Int) (b09 : Int) (b010 : (List Int)) (b011 : (List t1.den)) (b012 : (List Int)) (b013 : (List Bool)) (b014 : Int) (b015 : (List t3.den)) (b016 : (List Int)) (b017 : (List Int)) (b018 : Int) (b019 : Int) (b020 : Int) (b021 : (List Int)) (b022 : (List t1.den)) (b023 : (List Int)) (b024 : (List Bool)) (b025 : Int) (b026 : (List t3.den)) (b027 : (List Int)) (b028 : (List Int)) (b029 : Int) (b030 : Int) (b031 : (List Int)) (b032 : Int) (b033 : Int) (b034 : Int) : Option (Int × Unit) := res spigotref18_Check.c (atJoin spigotref18_Check.b [1, 1, 1, 1, 0, 1, 0, 0, 0, 1]) (spigotref18_Check.S5 i b0 b02 b03 b04 b05 b06 b07 b08 b09 b010 b011 b012 b013 b014 b015 b016 b017 b018 b019 b020 b021 b022 b023 b024 b025 b026 b027 b028 b029 b030 b031 b032 b033 b034)
noncomputable def spigotref18_Check.S6 (i : Int) (b0 : Int) (b02 : (List t0.den)) (b03 : Int) (b04 : Int) (b05 : Int) (b06 : Int) (b07 : Int) (b08 : Int) (b09 : Int) (b010 : (List Int)) (b011 : (List t1.den)) (b012 : (List Int)) (b013 : (List Bool)) (b014 : Int) (b015 : (List t3.den)) (b016 : (List Int)) (b017 : (List Int)) (b018 : Int) (b019 : Int) (b020 : Int) (b021 : (List Int)) (b022 : (List t1.den)) (b023 : (List Int)) (b024 : (List Bool)) (b025 : Int) (b026 : (List t3.den)) (b027 : (List Int)) (b028 : (List Int)) (b029 : Int) (b030 : Int) (b031 : (List Int)) (b032 : Int) (b033 : Int) (b034 : Int) : St := ⟨[(1, (.ptr 0 [])), (3, (.v (.int .i64) i))], [(0, some (.box (.agg [(.v (.int .u32) b0), (.v (.arr 3 t0) b02), (.agg [(.agg [(.v (.int .i64) b03), (.v (.int .i64) b04), (.v (.int .i64) b05)]), (.v (.int .i64) b06), (.v (.int .i64) b07), (.v (.int .u64) b08)]), (.agg [(.v (.int .i64) b09), (.v (.slice (.int .u32)) b010), (.v (.slice t1) b011), (.agg [(.v (.slice (.int .i64)) b012), (.v (.slice .bool) b013), (.v (.int .i64) b014)]), (.v (.slice t3) b015), (.agg [(.v (.slice (.int .i64)) b016), (.v (.slice (.int .i64)) b017), (.v (.int .i64) b018), (.v (.int .i64) b019)])]), (.agg [(.v (.int .i64) b020), (.v (.slice (.int .u32)) b021), (.v (.slice t1) b022), (.agg [(.v (.slice (.int .i64)) b023), (.v (.slice .bool) b024), (.v (.int .i64) b025)]), (.v (.slice t3) b026), (.agg [(.v (.slice (.int .i64)) b027), (.v (.slice (.int .i64)) b028), (.v (.int .i64) b029), (.v (.int .i64) b030)])]), (.v (.slice (.int .u32)) b031), (.agg [(.v (.int .u64) b032), (.v (.int .u64) b033), (.v (.int .u64) b034)])])))], 1, []⟩
noncomputable def spigotref18_Check.L6 (i : Int) (b0 : Int) (b02 : (List t0.den)) (b03 : Int) (b04 : Int) (b05 : Int) (b06 : Int) (b07 : Int) (b08 : Int) (b09 : Int) (b010 : (List Int)) (b011 : (List t1.den)) (b012 : (List Int)) (b013 : (List Bool)) (b014 : Int) (b015 : (List t3.den)) (b016 : (List Int)) (b017 : (List Int)) (b018 : Int) (b019 : Int) (b020 : Int) (b021 : (List Int)) (b022 : (List t1.den)) (b023 : (List Int)) (b024 : (List Bool)) (b025 : Int) (b026 : (List t3.den)) (b027 : (List Int)) (b028 : (List Int)) (b029 : Int) (b030 : Int) (b031 : (List Int)) (b032 : Int) (b033 : Int) (b034 : Int) : Option (Int × Unit) := res spigotref18_Check.c (atJoin spigotref18_Check.b [1, 1, 1, 1, 0, 1, 0, 0, 1, 0, 0, 1]) (spigotref18_Check.S6 i b0 b02 b03 b04 b05 b06 b07 b08 b09 b010 b011 b012 b013 b014 b015 b016 b017 b018 b019 b020 b021 b022 b023 b024 b025 b026 b027 b028 b029 b030 b031 b032 b033 b034)
theorem spigotref18_Check.spec : FnSpec Try.prog globs 29 spigotref18_Check.Fn := spec_of (E := spigotref18_Check.E) (envOk_at tabOk eqOk primsOk (.cons spigotref18_Limited.spec <| .cons spigotref03_Check.spec <| .cons spigotref16_Check.spec <| .cons spigotref18_alike.spec <| .nil)) mixOk Try.func29 (by kernel_rfl)
theorem spigotref18_Check.L1_eq (b0 : Int) (b02 : (List t0.den)) (b03 : Int) (b04 : Int) (b05 : Int) (b06 : Int) (b07 : Int) (b08 : Int) (b09 : Int) (b010 : (List Int)) (b011 : (List t1.den)) (b012 : (List Int)) (b013 : (List Bool)) (b014 : Int) (b015 : (List t3.den)) (b016 : (List Int)) (b017 : (List Int)) (b018 : Int) (b019 : Int) (b020 : Int) (b021 : (List Int)) (b022 : (List t1.den)) (b023 : (List Int)) (b024 : (List Bool)) (b025 : Int) (b026 : (List t3.den)) (b027 : (List Int)) (b028 : (List Int)) (b029 : Int) (b030 : Int) (b031 : (List Int)) (b032 : Int) (b033 : Int) (b034 : Int) : spigotref18_Check.L1 b0 b02 b03 b04 b05 b06 b07 b08 b09 b010 b011 b012 b013 b014 b015 b016 b017 b018 b019 b020 b021 b022 b023 b024 b025 b026 b027 b028 b029 b030 b031 b032 b033 b034 =
  (spigotref16_Check.F (b09, b010, b011, (b012, b013, b014, ()), b015, (b016, b017, b018, b019, ()), ())).bind fun r0 =>
  bif (r0.1 != 0) then
    some (8, ())
  else
    (spigotref16_Check.F (b020, b021, b022, (b023, b024, b025, ()), b026, (b027, b028, b029, b030, ()), ())).bind fun r1 =>
    bif (r1.1 != 0) then
      some (8, ())
    else
      bif (decide ((0 : Int) ≤ 1 ∧ (1 : Int) < 3)) then
        (spigotref18_alike.F (b09, b010, b011, (b012, b013, b014, ()), b015, (b016, b017, b018, b019, ()), ()) (List.getD b02 (Int.toNat 1) (0, 0, 0, ())) 4294967295).bind fun r2 =>
        bif (!r2.1) then
          some (8, ())
        else
          bif (decide ((0 : Int) ≤ 2 ∧ (2 : Int) < 3)) then
            (spigotref18_alike.F (b020, b021, b022, (b023, b024, b025, ()), b026, (b027, b028, b029, b030, ()), ()) (List.getD b02 (Int.toNat 2) (0, 0, 0, ())) 65535).bind fun r3 =>
            bif (!r3.1) then
              some (8, ())
            else
              spigotref18_Check.L2 b0 b02 b03 b04 b05 b06 b07 b08 b09 b010 b011 b012 b013 b014 b015 b016 b017 b018 b019 b020 b021 b022 b023 b024 b025 b026 b027 b028 b029 b030 b031 b032 b033 b034
          else none
      else none := res_eq (by kernel_rfl)
theorem spigotref18_Check.L2_eq (b0 : Int) (b02 : (List t0.den)) (b03 : Int) (b04 : Int) (b05 : Int) (b06 : Int) (b07 : Int) (b08 : Int) (b09 : Int) (b010 : (List Int)) (b011 : (List t1.den)) (b012 : (List Int)) (b013 : (List Bool)) (b014 : Int) (b015 : (List t3.den)) (b016 : (List Int)) (b017 : (List Int)) (b018 : Int) (b019 : Int) (b020 : Int) (b021 : (List Int)) (b022 : (List t1.den)) (b023 : (List Int)) (b024 : (List Bool)) (b025 : Int) (b026 : (List t3.den)) (b027 : (List Int)) (b028 : (List Int)) (b029 : Int) (b030 : Int) (b031 : (List Int)) (b032 : Int) (b033 : Int) (b034 : Int) : spigotref18_Check.L2 b0 b02 b03 b04 b05 b06 b07 b08 b09 b010 b011 b012 b013 b014 b015 b016 b017 b018 b019 b020 b021 b022 b023 b024 b025 b026 b027 b028 b029 b030 b031 b032 b033 b034 =
  bif (decide ((((List.length b031 : Int)) : Int) > 8)) then
    some (8, ())
  else
    spigotref18_Check.L3 b0 b02 b03 b04 b05 b06 b07 b08 b09 b010 b011 b012 b013 b014 b015 b016 b017 b018 b019 b020 b021 b022 b023 b024 b025 b026 b027 b028 b029 b030 b031 b032 b033 b034 := res_eq (by kernel_rfl)
theorem spigotref18_Check.L3_eq (b0 : Int) (b02 : (List t0.den)) (b03 : Int) (b04 : Int) (b05 : Int) (b06 : Int) (b07 : Int) (b08 : Int) (b09 : Int) (b010 : (List Int)) (b011 : (List t1.den)) (b012 : (List Int)) (b013 : (List Bool)) (b014 : Int) (b015 : (List t3.den)) (b016 : (List Int)) (b017 : (List Int)) (b018 : Int) (b019 : Int) (b020 : Int) (b021 : (List Int)) (b022 : (List t1.den)) (b023 : (List Int)) (b024 : (List Bool)) (b025 : Int) (b026 : (List t3.den)) (b027 : (List Int)) (b028 : (List Int)) (b029 : Int) (b030 : Int) (b031 : (List Int)) (b032 : Int) (b033 : Int) (b034 : Int) : spigotref18_Check.L3 b0 b02 b03 b04 b05 b06 b07 b08 b09 b010 b011 b012 b013 b014 b015 b016 b017 b018 b019 b020 b021 b022 b023 b024 b025 b026 b027 b028 b029 b030 b031 b032 b033 b034 =
  spigotref18_Check.L4 1 b0 b02 b03 b04 b05 b06 b07 b08 b09 b010 b011 b012 b013 b014 b015 b016 b017 b018 b019 b020 b021 b022 b023 b024 b025 b026 b027 b028 b029 b030 b031 b032 b033 b034 := res_eq (by kernel_rfl)
theorem spigotref18_Check.L4_eq (i : Int) (b0 : Int) (b02 : (List t0.den)) (b03 : Int) (b04 : Int) (b05 : Int) (b06 : Int) (b07 : Int) (b08 : Int) (b09 : Int) (b010 : (List Int)) (b011 : (List t1.den)) (b012 : (List Int)) (b013 : (List Bool)) (b014 : Int) (b015 : (List t3.den)) (b016 : (List Int)) (b017 : (List Int)) (b018 : Int) (b019 : Int) (b020 : Int) (b021 : (List Int)) (b022 : (List t1.den)) (b023 : (List Int)) (b024 : (List Bool)) (b025 : Int) (b026 : (List t3.den)) (b027 : (List Int)) (b028 : (List Int)) (b029 : Int) (b030 : Int) (b031 : (List Int)) (b032 : Int) (b033 : Int) (b034 : Int) : spigotref18_Check.L4 i b0 b02 b03 b04 b05 b06 b07 b08 b09 b010 b011 b012 b013 b014 b015 b016 b017 b018 b019 b020 b021 b022 b023 b024 b025 b026 b027 b028 b029 b030 b031 b032 b033 b034 =
  bif (decide ((i : Int) < ((List.length b031 : Int)))) then
    spigotref18_Check.L5 i b0 b02 b03 b04 b05 b06 b07 b08 b09 b010 b011 b012 b013 b014 b015 b016 b017 b018 b019 b020 b021 b022 b023 b024 b025 b026 b027 b028 b029 b030 b031 b032 b033 b034
  else
    some (0, ()) := res_eq (by kernel_rfl)
theorem spigotref18_Check.L5_eq (i : Int) (b0 : Int) (b02 : (List t0.den)) (b03 : Int) (b04 : Int) (b05 : Int) (b06 : Int) (b07 : Int) (b08 : Int) (b09 : Int) (b010 : (List Int)) (b011 : (List t1.den)) (b012 : (List Int)) (b013 : (List Bool)) (b014 : Int) (b015 : (List t3.den)) (b016 : (List Int)) (b017 : (List Int)) (b018 : Int) (b019 : Int) (b020 : Int) (b021 : (List Int)) (b022 : (List t1.den)) (b023 : (List Int)) (b024 : (List Bool)) (b025 : Int) (b026 : (List t3.den)) (b027 : (List Int)) (b028 : (List Int)) (b029 : Int) (b030 : Int) (b031 : (List Int)) (b032 : Int) (b033 : Int) (b034 : Int) : spigotref18_Check.L5 i b0 b02 b03 b04 b05 b06 b07 b08 b09 b010 b011 b012 b013 b014 b015 b016 b017 b018 b019 b020 b021 b022 b023 b024 b025 b026 b027 b028 b029 b030 b031 b032 b033 b034 =
  bif (decide ((0 : Int) ≤ (IntKind.wrap .i64 (i - 1)) ∧ ((IntKind.wrap .i64 (i - 1)) : Int) < ((List.length b031 : Int)))) then
    bif (decide ((0 : Int) ≤ i ∧ (i : Int) < ((List.length b031 : Int)))) then
      bif (decide (((List.getD b031 (Int.toNat (IntKind.wrap .i64 (i - 1))) 0) : Int) ≥ (List.getD b031 (Int.toNat i) 0))) then
        some (8, ())
      else
        spigotref18_Check.L6 i b0 b02 b03 b04 b05 b06 b07 b08 b09 b010 b011 b012 b013 b014 b015 b016 b017 b018 b019 b020 b021 b022 b023 b024 b025 b026 b027 b028 b029 b030 b031 b032 b033 b034
    else none
  else none := res_eq (by kernel_rfl)
theorem spigotref18_Check.L6_eq (i : Int) (b0 : Int) (b02 : (List t0.den)) (b03 : Int) (b04 : Int) (b05 : Int) (b06 : Int) (b07 : Int) (b08 : Int) (b09 : Int) (b010 : (List Int)) (b011 : (List t1.den)) (b012 : (List Int)) (b013 : (List Bool)) (b014 : Int) (b015 : (List t3.den)) (b016 : (List Int)) (b017 : (List Int)) (b018 : Int) (b019 : Int) (b020 : Int) (b021 : (List Int)) (b022 : (List t1.den)) (b023 : (List Int)) (b024 : (List Bool)) (b025 : Int) (b026 : (List t3.den)) (b027 : (List Int)) (b028 : (List Int)) (b029 : Int) (b030 : Int) (b031 : (List Int)) (b032 : Int) (b033 : Int) (b034 : Int) : spigotref18_Check.L6 i b0 b02 b03 b04 b05 b06 b07 b08 b09 b010 b011 b012 b013 b014 b015 b016 b017 b018 b019 b020 b021 b022 b023 b024 b025 b026 b027 b028 b029 b030 b031 b032 b033 b034 =
  spigotref18_Check.L4 (IntKind.wrap .i64 (i + 1)) b0 b02 b03 b04 b05 b06 b07 b08 b09 b010 b011 b012 b013 b014 b015 b016 b017 b018 b019 b020 b021 b022 b023 b024 b025 b026 b027 b028 b029 b030 b031 b032 b033 b034 := res_eq (by kernel_rfl)
theorem spigotref18_Check.F_eq (p : t7.den) : spigotref18_Check.F p =
  bif (decide ((p.1 : Int) ≥ 16)) then
    some (8, ())
  else
    (spigotref18_Limited.F p.2.1).bind fun r0 =>
    bif (!r0.1) then
      some (8, ())
    else
      (spigotref03_Check.F p.2.2.1).bind fun r1 =>
      bif (r1.1 != 0) then
        some (8, ())
      else
        bif (decide ((0 : Int) ≤ 0 ∧ (0 : Int) < 3)) then
          bif (!(Ty.beq t0 p.2.2.1.1 (List.getD p.2.1 (Int.toNat 0) (0, 0, 0, ())))) then
            some (8, ())
          else
            spigotref18_Check.L1 p.1 p.2.1 p.2.2.1.1.1 p.2.2.1.1.2.1 p.2.2.1.1.2.2.1 p.2.2.1.2.1 p.2.2.1.2.2.1 p.2.2.1.2.2.2.1 p.2.2.2.1.1 p.2.2.2.1.2.1 p.2.2.2.1.2.2.1 p.2.2.2.1.2.2.2.1.1 p.2.2.2.1.2.2.2.1.2.1 p.2.2.2.1.2.2.2.1.2.2.1 p.2.2.2.1.2.2.2.2.1 p.2.2.2.1.2.2.2.2.2.1.1 p.2.2.2.1.2.2.2.2.2.1.2.1 p.2.2.2.1.2.2.2.2.2.1.2.2.1 p.2.2.2.1.2.2.2.2.2.1.2.2.2.1 p.2.2.2.2.1.1 p.2.2.2.2.1.2.1 p.2.2.2.2.1.2.2.1 p.2.2.2.2.1.2.2.2.1.1 p.2.2.2.2.1.2.2.2.1.2.1 p.2.2.2.2.1.2.2.2.1.2.2.1 p.2.2.2.2.1.2.2.2.2.1 p.2.2.2.2.1.2.2.2.2.2.1.1 p.2.2.2.2.1.2.2.2.2.2.1.2.1 p.2.2.2.2.1.2.2.2.2.2.1.2.2.1 p.2.2.2.2.1.2.2.2.2.2.1.2.2.2.1 p.2.2.2.2.2.1 p.2.2.2.2.2.2.1.1 p.2.2.2.2.2.2.1.2.1 p.2.2.2.2.2.2.1.2.2.1
        else none := by kernel_rfl
/-! ### spigot/spigotref19.Check (12) -/
noncomputable def spigotref19_Check.sg : Sig := ⟨[.val (.slice t7)], [((.int .i64), true)]⟩
noncomputable def spigotref19_Check.E : Env := ⟨tl, fun i => look i [(29, spigotref18_Check.Fn)], [], eqs, globs, prims⟩
noncomputable def spigotref19_Check.c := cxOf spigotref19_Check.E spigotref19_Check.sg Try.f12
noncomputable def spigotref19_Check.b := body Try.f12
noncomputable def spigotref19_Check.Fn : Fun := fnOf spigotref19_Check.E spigotref19_Check.sg Try.f12
noncomputable def spigotref19_Check.F (l : (List t7.den)) : Option (Int × Unit) := spigotref19_Check.Fn.F (l, ())
noncomputable def spigotref19_Check.S1 (l : (List t7.den)) : St := ⟨[(0, (.v (.slice t7) l))], [], 0, []⟩
noncomputable def spigotref19_Check.L1 (l : (List t7.den)) : Option (Int × Unit) := res spigotref19_Check.c (atJoin spigotref19_Check.b [1, 0, 1]) (spigotref19_Check.S1 l)
noncomputable def spigotref19_Check.S2 (l : (List t7.den)) (i : Int) : St := ⟨[(0, (.v (.slice t7) l)), (3, (.v (.int .i64) i))], [], 0, []⟩
noncomputable def spigotref19_Check.L2 (l : (List t7.den)) (i : Int) : Option (Int × Unit) := res spigotref19_Check.c (atLoop spigotref19_Check.b [1, 1, 0, 1, 0]) (spigotref19_Check.S2 l i)
noncomputable def spigotref19_Check.S3 (l : (List t7.den)) (i : Int) : St := ⟨[(0, (.v (.slice t7) l)), (3, (.v (.int .i64) i))], [], 0, []⟩
noncomputable def spigotref19_Check.L3 (l : (List t7.den)) (i : Int) : Option (Int × Unit) := res spigotref19_Check.c (atJoin spigotref19_Check.b [1, 1, 0, 1, 0, 0, 0, 1]) (spigotref19_Check.S3 l i)
noncomputable def spigotref19_Check.S4 (l : (List t7.den)) (i : Int) : St := ⟨[(0, (.v (.slice t7) l)), (3, (.v (.int .i64) i))], [], 0, []⟩
noncomputable def spigotref19_Check.L4 (l : (List t7.den)) (i : Int) : Option (Int × Unit) := res spigotref19_Check.c (atJoin spigotref19_Check.b [1, 1, 0, 1, 0, 0, 1, 0, 0, 1]) (spigotref19_Check.S4 l i)
theorem spigotref19_Check.spec : FnSpec Try.prog globs 12 spigotref19_Check.Fn := spec_of (E := spigotref19_Check.E) (envOk_at tabOk eqOk primsOk (.cons spigotref18_Check.spec <| .nil)) mixOk Try.func12 (by kernel_rfl)
theorem spigotref19_Check.L1_eq (l : (List t7.den)) : spigotref19_Check.L1 l =
  spigotref19_Check.L2 l 0 := res_eq (by kernel_rfl)
theorem spigotref19_Check.L2_eq (l : (List t7.den)) (i : Int) : spigotref19_Check.L2 l i =
  bif (decide ((i : Int) < ((List.length l : Int)))) then
    spigotref19_Check.L3 l i
  else
    some (0, ()) := res_eq (by kernel_rfl)
theorem spigotref19_Check.L3_eq (l : (List t7.den)) (i : Int) : spigotref19_Check.L3 l i =
  bif (decide ((0 : Int) ≤ i ∧ (i : Int) < ((List.length l : Int)))) then
    (spigotref18_Check.F (List.getD l (Int.toNat i) (0, (List.replicate 3 (0, 0, 0, ())), ((0, 0, 0, ()), 0, 0, 0, ()), (0, ([] : List Int), ([] : List t1.den), (([] : List Int), ([] : List Bool), 0, ()), ([] : List t3.den), (([] : List Int), ([] : List Int), 0, 0, ()), ()), (0, ([] : List Int), ([] : List t1.den), (([] : List Int), ([] : List Bool), 0, ()), ([] : List t3.den), (([] : List Int), ([] : List Int), 0, 0, ()), ()), ([] : List Int), (0, 0, 0, ()), ()))).bind fun r0 =>
    bif (r0.1 != 0) then
      some (8, ())
    else
      bif (decide ((i : Int) > 0)) then
        bif (decide ((0 : Int) ≤ i ∧ (i : Int) < ((List.length l : Int)))) then
          bif (decide ((0 : Int) ≤ (IntKind.wrap .i64 (i - 1)) ∧ ((IntKind.wrap .i64 (i - 1)) : Int) < ((List.length l : Int)))) then
            bif (decide ((((List.getD l (Int.toNat i) (0, (List.replicate 3 (0, 0, 0, ())), ((0, 0, 0, ()), 0, 0, 0, ()), (0, ([] : List Int), ([] : List t1.den), (([] : List Int), ([] : List Bool), 0, ()), ([] : List t3.den), (([] : List Int), ([] : List Int), 0, 0, ()), ()), (0, ([] : List Int), ([] : List t1.den), (([] : List Int), ([] : List Bool), 0, ()), ([] : List t3.den), (([] : List Int), ([] : List Int), 0, 0, ()), ()), ([] : List Int), (0, 0, 0, ()), ())).1) : Int) ≤ ((List.getD l (Int.toNat (IntKind.wrap .i64 (i - 1))) (0, (List.replicate 3 (0, 0, 0, ())), ((0, 0, 0, ()), 0, 0, 0, ()), (0, ([] : List Int), ([] : List t1.den), (([] : List Int), ([] : List Bool), 0, ()), ([] : List t3.den), (([] : List Int), ([] : List Int), 0, 0, ()), ()), (0, ([] : List Int), ([] : List t1.den), (([] : List Int), ([] : List Bool), 0, ()), ([] : List t3.den), (([] : List Int), ([] : List Int), 0, 0, ()), ()), ([] : List Int), (0, 0, 0, ()), ())).1))) then
              some (8, ())
            else
              spigotref19_Check.L4 l i
          else none
        else none
      else
        spigotref19_Check.L4 l i
  else none := res_eq (by kernel_rfl)
theorem spigotref19_Check.L4_eq (l : (List t7.den)) (i : Int) : spigotref19_Check.L4 l i =
  spigotref19_Check.L2 l (IntKind.wrap .i64 (i + 1)) := res_eq (by kernel_rfl)
theorem spigotref19_Check.F_eq (l : (List t7.den)) : spigotref19_Check.F l =
  bif (decide ((((List.length l : Int)) : Int) > 8)) then
    some (4, ())
  else
    spigotref19_Check.L1 l := by kernel_rfl
/-! ### spigot/spigotref13.Same (60) -/
noncomputable def spigotref13_Same.sg : Sig := ⟨[.val t2, .val t2], [(.bool, true)]⟩
noncomputable def spigotref13_Same.E : Env := ⟨tl, fun i => look i [], [], eqs, globs, prims⟩
noncomputable def spigotref13_Same.c := cxOf spigotref13_Same.E spigotref13_Same.sg Try.f60
noncomputable def spigotref13_Same.b := body Try.f60
noncomputable def spigotref13_Same.Fn : Fun := fnOf spigotref13_Same.E spigotref13_Same.sg Try.f60
noncomputable def spigotref13_Same.F (a : t2.den) (b : t2.den) : Option (Bool × Unit) := spigotref13_Same.Fn.F (a, b, ())
noncomputable def spigotref13_Same.S1 (b0 : (List Int)) (b02 : (List Bool)) (b03 : Int) (b1 : (List Int)) (b12 : (List Bool)) (b13 : Int) : St := ⟨[(2, (.ptr 0 [])), (3, (.ptr 1 []))], [(0, some (.box (.agg [(.v (.slice (.int .i64)) b0), (.v (.slice .bool) b02), (.v (.int .i64) b03)]))), (1, some (.box (.agg [(.v (.slice (.int .i64)) b1), (.v (.slice .bool) b12), (.v (.int .i64) b13)])))], 2, []⟩
noncomputable def spigotref13_Same.L1 (b0 : (List Int)) (b02 : (List Bool)) (b03 : Int) (b1 : (List Int)) (b12 : (List Bool)) (b13 : Int) : Option (Bool × Unit) := res spigotref13_Same.c (atJoin spigotref13_Same.b [1, 0, 1]) (spigotref13_Same.S1 b0 b02 b03 b1 b12 b13)
noncomputable def spigotref13_Same.S2 (i : Int) (b0 : (List Int)) (b02 : (List Bool)) (b03 : Int) (b1 : (List Int)) (b12 : (List Bool)) (b13 : Int) : St := ⟨[(2, (.ptr 0 [])), (3, (.ptr 1 [])), (5, (.v (.int .i64) i))], [(0, some (.box (.agg [(.v (.slice (.int .i64)) b0), (.v (.slice .bool) b02), (.v (.int .i64) b03)]))), (1, some (.box (.agg [(.v (.slice (.int .i64)) b1), (.v (.slice .bool) b12), (.v (.int .i64) b13)])))], 2, []⟩
noncomputable def spigotref13_Same.L2 (i : Int) (b0 : (List Int)) (b02 : (List Bool)) (b03 : Int) (b1 : (List Int)) (b12 : (List Bool)) (b13 : Int) : Option (Bool × Unit) := res spigotref13_Same.c (atLoop spigotref13_Same.b [1, 1, 0, 1, 0]) (spigotref13_Same.S2 i b0 b02 b03 b1 b12 b13)
noncomputable def spigotref13_Same.S3 (i : Int) (b0 : (List Int)) (b02 : (List Bool)) (b03 : Int) (b1 : (List Int)) (b12 : (List Bool)) (b13 : Int) : St := ⟨[(2, (.ptr 0 [])), (3, (.ptr 1 [])), (5, (.v (.int .i64) i))], [(0, some (.box (.agg [(.v (.slice (.int .i64)) b0), (.v (.slice .bool) b02), (.v (.int .i64) b03)]))), (1, some (.box (.agg [(.v (.slice (.int .i64)) b1), (.v (.slice .bool) b12), (.v (.int .i64) b13)])))], 2, []⟩
noncomputable def spigotref13_Same.L3 (i : Int) (b0 : (List Int)) (b02 : (List Bool)) (b03 : Int) (b1 : (List Int)) (b12 : (List Bool)) (b13 : Int) : Option (Bool × Unit) := res spigotref13_Same.c (atJoin spigotref13_Same.b [1, 1, 0, 1, 0, 0, 0, 1]) (spigotref13_Same.S3 i b0 b02 b03 b1 b12 b13)
noncomputable def spigotref13_Same.S4 (i : Int) (b0 : (List Int)) (b02 : (List Bool)) (b03 : Int) (b1 : (List Int)) (b12 : (List Bool)) (b13 : Int) : St := ⟨[(2, (.ptr 0 [])), (3, (.ptr 1 [])), (6, (.v (.int .i64) i))], [(0, some (.box (.agg [(.v (.slice (.int .i64)) b0), (.v (.slice .bool) b02), (.v (.int .i64) b03)]))), (1, some (.box (.agg [(.v (.slice (.int .i64)) b1), (.v (.slice .bool) b12), (.v (.int .i64) b13)])))], 2, []⟩
noncomputable def spigotref13_Same.L4 (i : Int) (b0 : (List Int)) (b02 : (List Bool)) (b03 : Int) (b1 : (List Int)) (b12 : (List Bool)) (b13 : Int) : Option (Bool × Unit) := res spigotref13_Same.c (atLoop spigotref13_Same.b [1, 1, 1, 0, 1, 0]) (spigotref13_Same.S4 i b0 b02 b03 b1 b12 b13)
noncomputable def spigotref13_Same.S5 (i : Int) (b0 : (List Int)) (b02 : (List Bool)) (b03 : Int) (b1 : (List Int)) (b12 : (List Bool)) (b13 : Int) : St := ⟨[(2, (.ptr 0 [])), (3, (.ptr 1 [])), (6, (.v (.int .i64) i))], [(0, some (.box (.agg [(.v (.slice (.int .i64)) b0), (.v (.slice .bool) b02), (.v (.int .i64) b03)]))), (1, some (.box (.agg [(.v (.slice (.int .i64)) b1), (.v (.slice .bool) b12), (.v (.int .i64) b13)])))], 2, []⟩
noncomputable def spigotref13_Same.L5 (i : Int) (b0 : (List Int)) (b02 : (List Bool)) (b03 : Int) (b1 : (List Int)) (b12 : (List Bool)) (b13 : Int) : Option (Bool × Unit) := res spigotref13_Same.c (atJoin spigotref13_Same.b [1, 1, 1, 0, 1, 0, 0, 0, 1]) (spigotref13_Same.S5 i b0 b02 b03 b1 b12 b13)
noncomputable def spigotref13_Same.S6 (i : Int) (b0 : (List Int)) (b02 : (List Bool)) (b03 : Int) (b1 : (List Int)) (b12 : (List Bool)) (b13 : Int) : St := ⟨[(2, (.ptr 0 [])), (3, (.ptr 1 [])), (6, (.v (.int .i64) i))], [(0, some (.box (.agg [(.v (.slice (.int .i64)) b0), (.v (.slice .bool) b02), (.v (.int .i64) b03)]))), (1, some (.box (.agg [(.v (.slice (.int .i64)) b1), (.v (.slice .bool) b12), (.v (.int .i64) b13)])))], 2, []⟩
noncomputable def spigotref13_Same.L6 (i : Int) (b0 : (List Int)) (b02 : (List Bool)) (b03 : Int) (b1 : (List Int)) (b12 : (List Bool)) (b13 : Int) : Option (Bool × Unit) := res spigotref13_Same.c (atJoin spigotref13_Same.b [1, 1, 1, 0, 1, 0, 0, 1, 0, 0, 1]) (spigotref13_Same.S6 i b0 b02 b03 b1 b12 b13)
noncomputable def spigotref13_Same.S7 (i : Int) (b0 : (List Int)) (b02 : (List Bool)) (b03 : Int) (b1 : (List Int)) (b12 : (List Bool)) (b13 : Int) : St := ⟨[(2, (.ptr 0 [])), (3, (.ptr 1 [])), (5, (.v (.int .i64) i))], [(0, some (.box (.agg [(.v (.slice (.int .i64)) b0), (.v (.slice .bool) b02), (.v (.int .i64) b03)]))), (1, some (.box (.agg [(.v (.slice (.int .i64)) b1), (.v (.slice .bool) b12), (.v (.int .i64) b13)])))], 2, []⟩
noncomputable def spigotref13_Same.L7 (i : Int) (b0 : (List Int)) (b02 : (List Bool)) (b03 : Int) (b1 : (List Int)) (b12 : (List Bool)) (b13 : Int) : Option (Bool × Unit) := res spigotref13_Same.c (atJoin spigotref13_Same.b [1, 1, 0, 1, 0, 0, 1, 0, 0, 1]) (spigotref13_Same.S7 i b0 b02 b03 b1 b12 b13)
theorem spigotref13_Same.spec : FnSpec Try.prog globs 60 spigotref13_Same.Fn := spec_of (E := spigotref13_Same.E) (envOk_at tabOk eqOk primsOk (.nil)) mixOk Try.func60 (by kernel_rfl)
theorem spigotref13_Same.L1_eq (b0 : (List Int)) (b02 : (List Bool)) (b03 : Int) (b1 : (List Int)) (b12 : (List Bool)) (b13 : Int) : spigotref13_Same.L1 b0 b02 b03 b1 b12 b13 =
  spigotref13_Same.L2 0 b0 b02 b03 b1 b12 b13 := res_eq (by kernel_rfl)
theorem spigotref13_Same.L2_eq (i : Int) (b0 : (List Int)) (b02 : (List Bool)) (b03 : Int) (b1 : (List Int)) (b12 : (List Bool)) (b13 : Int) : spigotref13_Same.L2 i b0 b02 b03 b1 b12 b13 =
  bif (decide ((i : Int) < ((List.length b0 : Int)))) then
    spigotref13_Same.L3 i b0 b02 b03 b1 b12 b13
  else
    spigotref13_Same.L4 0 b0 b02 b03 b1 b12 b13 := res_eq (by kernel_rfl)
theorem spigotref13_Same.L3_eq (i : Int) (b0 : (List Int)) (b02 : (List Bool)) (b03 : Int) (b1 : (List Int)) (b12 : (List Bool)) (b13 : Int) : spigotref13_Same.L3 i b0 b02 b03 b1 b12 b13 =
  bif (decide ((0 : Int) ≤ i ∧ (i : Int) < ((List.length b0 : Int)))) then
    bif (decide ((0 : Int) ≤ i ∧ (i : Int) < ((List.length b1 : Int)))) then
      bif ((List.getD b0 (Int.toNat i) 0) != (List.getD b1 (Int.toNat i) 0)) then
        some (false, ())
      else
        spigotref13_Same.L7 i b0 b02 b03 b1 b12 b13
    else none
  else none := res_eq (by kernel_rfl)
theorem spigotref13_Same.L4_eq (i : Int) (b0 : (List Int)) (b02 : (List Bool)) (b03 : Int) (b1 : (List Int)) (b12 : (List Bool)) (b13 : Int) : spigotref13_Same.L4 i b0 b02 b03 b1 b12 b13 =
  bif (decide ((i : Int) < ((List.length b02 : Int)))) then
    spigotref13_Same.L5 i b0 b02 b03 b1 b12 b13
  else
    some (true, ()) := res_eq (by kernel_rfl)
theorem spigotref13_Same.L5_eq (i : Int) (b0 : (List Int)) (b02 : (List Bool)) (b03 : Int) (b1 : (List Int)) (b12 : (List Bool)) (b13 : Int) : spigotref13_Same.L5 i b0 b02 b03 b1 b12 b13 =
  bif (decide ((0 : Int) ≤ i ∧ (i : Int) < ((List.length b02 : Int)))) then
    bif (decide ((0 : Int) ≤ i ∧ (i : Int) < ((List.length b12 : Int)))) then
      bif (!((List.getD b02 (Int.toNat i) false) == (List.getD b12 (Int.toNat i) false))) then
        some (false, ())
      else
        spigotref13_Same.L6 i b0 b02 b03 b1 b12 b13
    else none
  else none := res_eq (by kernel_rfl)
theorem spigotref13_Same.L6_eq (i : Int) (b0 : (List Int)) (b02 : (List Bool)) (b03 : Int) (b1 : (List Int)) (b12 : (List Bool)) (b13 : Int) : spigotref13_Same.L6 i b0 b02 b03 b1 b12 b13 =
  spigotref13_Same.L4 (IntKind.wrap .i64 (i + 1)) b0 b02 b03 b1 b12 b13 := res_eq (by kernel_rfl)
theorem spigotref13_Same.L7_eq (i : Int) (b0 : (List Int)) (b02 : (List Bool)) (b03 : Int) (b1 : (List Int)) (b12 : (List Bool)) (b13 : Int) : spigotref13_Same.L7 i b0 b02 b03 b1 b12 b13 =
  spigotref13_Same.L2 (IntKind.wrap .i64 (i + 1)) b0 b02 b03 b1 b12 b13 := res_eq (by kernel_rfl)
theorem spigotref13_Same.F_eq (a : t2.den) (b : t2.den) : spigotref13_Same.F a b =
  bif (a.2.2.1 != b.2.2.1) then
    some (false, ())
  else
    bif (((List.length a.1 : Int)) != ((List.length b.1 : Int))) then
      some (false, ())
    else
      bif (((List.length a.2.1 : Int)) != ((List.length b.2.1 : Int))) then
        some (false, ())
      else
        spigotref13_Same.L1 a.1 a.2.1 a.2.2.1 b.1 b.2.1 b.2.2.1 := by kernel_rfl
/-! ### spigot/spigotref14.Same (61) -/
noncomputable def spigotref14_Same.sg : Sig := ⟨[.val (.slice t3), .val (.slice t3)], [(.bool, true)]⟩
noncomputable def spigotref14_Same.E : Env := ⟨tl, fun i => look i [], [], eqs, globs, prims⟩
noncomputable def spigotref14_Same.c := cxOf spigotref14_Same.E spigotref14_Same.sg Try.f61
noncomputable def spigotref14_Same.b := body Try.f61
noncomputable def spigotref14_Same.Fn : Fun := fnOf spigotref14_Same.E spigotref14_Same.sg Try.f61
noncomputable def spigotref14_Same.F (a : (List t3.den)) (b : (List t3.den)) : Option (Bool × Unit) := spigotref14_Same.Fn.F (a, b, ())
noncomputable def spigotref14_Same.S1 (a : (List t3.den)) (b : (List t3.den)) : St := ⟨[(0, (.v (.slice t3) a)), (1, (.v (.slice t3) b))], [], 0, []⟩
noncomputable def spigotref14_Same.L1 (a : (List t3.den)) (b : (List t3.den)) : Option (Bool × Unit) := res spigotref14_Same.c (atJoin spigotref14_Same.b [1, 0, 1]) (spigotref14_Same.S1 a b)
noncomputable def spigotref14_Same.S2 (a : (List t3.den)) (b : (List t3.den)) (i : Int) : St := ⟨[(0, (.v (.slice t3) a)), (1, (.v (.slice t3) b)), (5, (.v (.int .i64) i))], [], 0, []⟩
noncomputable def spigotref14_Same.L2 (a : (List t3.den)) (b : (List t3.den)) (i : Int) : Option (Bool × Unit) := res spigotref14_Same.c (atLoop spigotref14_Same.b [1, 1, 0, 1, 0]) (spigotref14_Same.S2 a b i)
noncomputable def spigotref14_Same.S3 (a : (List t3.den)) (b : (List t3.den)) (i : Int) : St := ⟨[(0, (.v (.slice t3) a)), (1, (.v (.slice t3) b)), (5, (.v (.int .i64) i))], [], 0, []⟩
noncomputable def spigotref14_Same.L3 (a : (List t3.den)) (b : (List t3.den)) (i : Int) : Option (Bool × Unit) := res spigotref14_Same.c (atJoin spigotref14_Same.b [1, 1, 0, 1, 0, 0, 0, 1]) (spigotref14_Same.S3 a b i)
noncomputable def spigotref14_Same.S4 (a : (List t3.den)) (b : (List t3.den)) (i : Int) : St := ⟨[(0, (.v (.slice t3) a)), (1, (.v (.slice t3) b)), (5, (.v (.int .i64) i))], [], 0, []⟩
noncomputable def spigotref14_Same.L4 (a : (List t3.den)) (b : (List t3.den)) (i : Int) : Option (Bool × Unit) := res spigotref14_Same.c (atJoin spigotref14_Same.b [1, 1, 0, 1, 0, 0, 1, 0, 0, 1]) (spigotref14_Same.S4 a b i)
theorem spigotref14_Same.spec : FnSpec Try.prog globs 61 spigotref14_Same.Fn := spec_of (E := spigotref14_Same.E) (envOk_at tabOk eqOk primsOk (.nil)) mixOk Try.func61 (by kernel_rfl)
theorem spigotref14_Same.L1_eq (a : (List t3.den)) (b : (List t3.den)) : spigotref14_Same.L1 a b =
  spigotref14_Same.L2 a b 0 := res_eq (by kernel_rfl)
theorem spigotref14_Same.L2_eq (a : (List t3.den)) (b : (List t3.den)) (i : Int) : spigotref14_Same.L2 a b i =
  bif (decide ((i : Int) < ((List.length a : Int)))) then
    spigotref14_Same.L3 a b i
  else
    some (true, ()) := res_eq (by kernel_rfl)
theorem spigotref14_Same.L3_eq (a : (List t3.den)) (b : (List t3.den)) (i : Int) : spigotref14_Same.L3 a b i =
  bif (decide ((0 : Int) ≤ i ∧ (i : Int) < ((List.length a : Int)))) then
    bif (decide ((0 : Int) ≤ i ∧ (i : Int) < ((List.length b : Int)))) then
      bif (!(Ty.beq t3 (List.getD a (Int.toNat i) (0, 0, false, ())) (List.getD b (Int.toNat i) (0, 0, false, ())))) then
        some (false, ())
      else
        spigotref14_Same.L4 a b i
    else none
  else none := res_eq (by kernel_rfl)
theorem spigotref14_Same.L4_eq (a : (List t3.den)) (b : (List t3.den)) (i : Int) : spigotref14_Same.L4 a b i =
  spigotref14_Same.L2 a b (IntKind.wrap .i64 (i + 1)) := res_eq (by kernel_rfl)
theorem spigotref14_Same.F_eq (a : (List t3.den)) (b : (List t3.den)) : spigotref14_Same.F a b =
  bif (((List.length a : Int)) != ((List.length b : Int))) then
    some (false, ())
  else
    spigotref14_Same.L1 a b := by kernel_rfl
/-! ### spigot/spigotref16.Same (37) -/
noncomputable def spigotref16_Same.sg : Sig := ⟨[.val t5, .val t5], [(.bool, true)]⟩
noncomputable def spigotref16_Same.E : Env := ⟨tl, fun i => look i [(27, spigotref16_SameKeys.Fn), (60, spigotref13_Same.Fn), (61, spigotref14_Same.Fn), (62, spigotref15_Same.Fn)], [], eqs, globs, prims⟩
noncomputable def spigotref16_Same.c := cxOf spigotref16_Same.E spigotref16_Same.sg Try.f37
noncomputable def spigotref16_Same.b := body Try.f37
noncomputable def spigotref16_Same.Fn : Fun := fnOf spigotref16_Same.E spigotref16_Same.sg Try.f37
noncomputable def spigotref16_Same.F (a : t5.den) (b : t5.den) : Option (Bool × Unit) := spigotref16_Same.Fn.F (a, b, ())
noncomputable def spigotref16_Same.S1 (b0 : Int) (b02 : (List Int)) (b03 : (List t1.den)) (b04 : (List Int)) (b05 : (List Bool)) (b06 : Int) (b07 : (List t3.den)) (b08 : (List Int)) (b09 : (List Int)) (b010 : Int) (b011 : Int) (b1 : Int) (b12 : (List Int)) (b13 : (List t1.den)) (b14 : (List Int)) (b15 : (List Bool)) (b16 : Int) (b17 : (List t3.den)) (b18 : (List Int)) (b19 : (List Int)) (b110 : Int) (b111 : Int) : St := ⟨[(2, (.ptr 0 [])), (3, (.ptr 1 []))], [(0, some (.box (.agg [(.v (.int .i64) b0), (.v (.slice (.int .u32)) b02), (.v (.slice t1) b03), (.agg [(.v (.slice (.int .i64)) b04), (.v (.slice .bool) b05), (.v (.int .i64) b06)]), (.v (.slice t3) b07), (.agg [(.v (.slice (.int .i64)) b08), (.v (.slice (.int .i64)) b09), (.v (.int .i64) b010), (.v (.int .i64) b011)])]))), (1, some (.box (.agg [(.v (.int .i64) b1), (.v (.slice (.int .u32)) b12), (.v (.slice t1) b13), (.agg [(.v (.slice (.int .i64)) b14), (.v (.slice .bool) b15), (.v (.int .i64) b16)]), (.v (.slice t3) b17), (.agg [(.v (.slice (.int .i64)) b18), (.v (.slice (.int .i64)) b19), (.v (.int .i64) b110), (.v (.int .i64) b111)])])))], 2, []⟩
noncomputable def spigotref16_Same.L1 (b0 : Int) (b02 : (List Int)) (b03 : (List t1.den)) (b04 : (List Int)) (b05 : (List Bool)) (b06 : Int) (b07 : (List t3.den)) (b08 : (List Int)) (b09 : (List Int)) (b010 : Int) (b011 : Int) (b1 : Int) (b12 : (List Int)) (b13 : (List t1.den)) (b14 : (List Int)) (b15 : (List Bool)) (b16 : Int) (b17 : (List t3.den)) (b18 : (List Int)) (b19 : (List Int)) (b110 : Int) (b111 : Int) : Option (Bool × Unit) := res spigotref16_Same.c (atJoin spigotref16_Same.b [1, 0, 1]) (spigotref16_Same.S1 b0 b02 b03 b04 b05 b06 b07 b08 b09 b010 b011 b1 b12 b13 b14 b15 b16 b17 b18 b19 b110 b111)
noncomputable def spigotref16_Same.S2 (i : Int) (b0 : Int) (b02 : (List Int)) (b03 : (List t1.den)) (b04 : (List Int)) (b05 : (List Bool)) (b06 : Int) (b07 : (List t3.den)) (b08 : (List Int)) (b09 : (List Int)) (b010 : Int) (b011 : Int) (b1 : Int) (b12 : (List Int)) (b13 : (List t1.den)) (b14 : (List Int)) (b15 : (List Bool)) (b16 : Int) (b17 : (List t3.den)) (b18 : (List Int)) (b19 : (List Int)) (b110 : Int) (b111 : Int) : St := ⟨[(2, (.ptr 0 [])), (3, (.ptr 1 [])), (5, (.v (.int .i64) i))], [(0, some (.box (.agg [(.v (.int .i64) b0), (.v (.slice (.int .u32)) b02), (.v (.slice t1) b03), (.agg [(.v (.slice (.int .i64)) b04), (.v (.slice .bool) b05), (.v (.int .i64) b06)]), (.v (.slice t3) b07), (.agg [(.v (.slice (.int .i64)) b08), (.v (.slice (.int .i64)) b09), (.v (.int .i64) b010), (.v (.int .i64) b011)])]))), (1, some (.box (.agg [(.v (.int .i64) b1), (.v (.slice (.int .u32)) b12), (.v (.slice t1) b13), (.agg [(.v (.slice (.int .i64)) b14), (.v (.slice .bool) b15), (.v (.int .i64) b16)]), (.v (.slice t3) b17), (.agg [(.v (.slice (.int .i64)) b18), (.v (.slice (.int .i64)) b19), (.v (.int .i64) b110), (.v (.int .i64) b111)])])))], 2, []⟩
noncomputable def spigotref16_Same.L2 (i : Int) (b0 : Int) (b02 : (List Int)) (b03 : (List t1.den)) (b04 : (List Int)) (b05 : (List Bool)) (b06 : Int) (b07 : (List t3.den)) (b08 : (List Int)) (b09 : (List Int)) (b010 : Int) (b011 : Int) (b1 : Int) (b12 : (List Int)) (b13 : (List t1.den)) (b14 : (List Int)) (b15 : (List Bool)) (b16 : Int) (b17 : (List t3.den)) (b18 : (List Int)) (b19 : (List Int)) (b110 : Int) (b111 : Int) : Option (Bool × Unit) := res spigotref16_Same.c (atLoop spigotref16_Same.b [1, 1, 0, 1, 0]) (spigotref16_Same.S2 i b0 b02 b03 b04 b05 b06 b07 b08 b09 b010 b011 b1 b12 b13 b14 b15 b16 b17 b18 b19 b110 b111)
noncomputable def spigotref16_Same.S3 (i : Int) (b0 : Int) (b02 : (List Int)) (b03 : (List t1.den)) (b04 : (List Int)) (b05 : (List Bool)) (b06 : Int) (b07 : (List t3.den)) (b08 : (List Int)) (b09 : (List Int)) (b010 : Int) (b011 : Int) (b1 : Int) (b12 : (List Int)) (b13 : (List t1.den)) (b14 : (List Int)) (b15 : (List Bool)) (b16 : Int) (b17 : (List t3.den)) (b18 : (List Int)) (b19 : (List Int)) (b110 : Int) (b111 : Int) : St := ⟨[(2, (.ptr 0 [])), (3, (.ptr 1 [])), (5, (.v (.int .i64) i))], [(0, some (.box (.agg [(.v (.int .i64) b0), (.v (.slice (.int .u32)) b02), (.v (.slice t1) b03), (.agg [(.v (.slice (.int .i64)) b04), (.v (.slice .bool) b05), (.v (.int .i64) b06)]), (.v (.slice t3) b07), (.agg [(.v (.slice (.int .i64)) b08), (.v (.slice (.int .i64)) b09), (.v (.int .i64) b010), (.v (.int .i64) b011)])]))), (1, some (.box (.agg [(.v (.int .i64) b1), (.v (.slice (.int .u32)) b12), (.v (.slice t1) b13), (.agg [(.v (.slice (.int .i64)) b14), (.v (.slice .bool) b15), (.v (.int .i64) b16)]), (.v (.slice t3) b17), (.agg [(.v (.slice (.int .i64)) b18), (.v (.slice (.int .i64)) b19), (.v (.int .i64) b110), (.v (.int .i64) b111)])])))], 2, []⟩
noncomputable def spigotref16_Same.L3 (i : Int) (b0 : Int) (b02 : (List Int)) (b03 : (List t1.den)) (b04 : (List Int)) (b05 : (List Bool)) (b06 : Int) (b07 : (List t3.den)) (b08 : (List Int)) (b09 : (List Int)) (b010 : Int) (b011 : Int) (b1 : Int) (b12 : (List Int)) (b13 : (List t1.den)) (b14 : (List Int)) (b15 : (List Bool)) (b16 : Int) (b17 : (List t3.den)) (b18 : (List Int)) (b19 : (List Int)) (b110 : Int) (b111 : Int) : Option (Bool × Unit) := res spigotref16_Same.c (atJoin spigotref16_Same.b [1, 1, 0, 1, 0, 0, 0, 1]) (spigotref16_Same.S3 i b0 b02 b03 b04 b05 b06 b07 b08 b09 b010 b011 b1 b12 b13 b14 b15 b16 b17 b18 b19 b110 b111)
noncomputable def spigotref16_Same.S4 (i : Int) (b0 : Int) (b02 : (List Int)) (b03 : (List t1.den)) (b04 : (List Int)) (b05 : (List Bool)) (b06 : Int) (b07 : (List t3.den)) (b08 : (List Int)) (b09 : (List Int)) (b010 : Int) (b011 : Int) (b1 : Int) (b12 : (List Int)) (b13 : (List t1.den)) (b14 : (List Int)) (b15 : (List Bool)) (b16 : Int) (b17 : (List t3.den)) (b18 : (List Int)) (b19 : (List Int)) (b110 : Int) (b111 : Int) : St := ⟨[(2, (.ptr 0 [])), (3, (.ptr 1 [])), (5, (.v (.int .i64) i))], [(0, some (.box (.agg [(.v (.int .i64) b0), (.v (.slice (.int .u32)) b02), (.v (.slice t1) b03), (.agg [(.v (.slice (.int .i64)) b04), (.v (.slice .bool) b05), (.v (.int .i64) b06)]), (.v (.slice t3) b07), (.agg [(.v (.slice (.int .i64)) b08), (.v (.slice (.int .i64)) b09), (.v (.int .i64) b010), (.v (.int .i64) b011)])]))), (1, some (.box (.agg [(.v (.int .i64) b1), (.v (.slice (.int .u32)) b12), (.v (.slice t1) b13), (.agg [(.v (.slice (.int .i64)) b14), (.v (.slice .bool) b15), (.v (.int .i64) b16)]), (.v (.slice t3) b17), (.agg [(.v (.slice (.int .i64)) b18), (.v (.slice (.int .i64)) b19), (.v (.int .i64) b110), (.v (.int .i64) b111)])])))], 2, []⟩
noncomputable def spigotref16_Same.L4 (i : Int) (b0 : Int) (b02 : (List Int)) (b03 : (List t1.den)) (b04 : (List Int)) (b05 : (List Bool)) (b06 : Int) (b07 : (List t3.den)) (b08 : (List Int)) (b09 : (List Int)) (b010 : Int) (b011 : Int) (b1 : Int) (b12 : (List Int)) (b13 : (List t1.den)) (b14 : (List Int)) (b15 : (List Bool)) (b16 : Int) (b17 : (List t3.den)) (b18 : (List Int)) (b19 : (List Int)) (b110 : Int) (b111 : Int) : Option (Bool × Unit) := res spigotref16_Same.c (atJoin spigotref16_Same.b [1, 1, 0, 1, 0, 0, 1, 0, 0, 1]) (spigotref16_Same.S4 i b0 b02 b03 b04 b05 b06 b07 b08 b09 b010 b011 b1 b12 b13 b14 b15 b16 b17 b18 b19 b110 b111)
theorem spigotref16_Same.spec : FnSpec Try.prog globs 37 spigotref16_Same.Fn := spec_of (E := spigotref16_Same.E) (envOk_at tabOk eqOk primsOk (.cons spigotref16_SameKeys.spec <| .cons spigotref13_Same.spec <| .cons spigotref14_Same.spec <| .cons spigotref15_Same.spec <| .nil)) mixOk Try.func37 (by kernel_rfl)
theorem spigotref16_Same.L1_eq (b0 : Int) (b02 : (List Int)) (b03 : (List t1.den)) (b04 : (List Int)) (b05 : (List Bool)) (b06 : Int) (b07 : (List t3.den)) (b08 : (List Int)) (b09 : (List Int)) (b010 : Int) (b011 : Int) (b1 : Int) (b12 : (List Int)) (b13 : (List t1.den)) (b14 : (List Int)) (b15 : (List Bool)) (b16 : Int) (b17 : (List t3.den)) (b18 : (List Int)) (b19 : (List Int)) (b110 : Int) (b111 : Int) : spigotref16_Same.L1 b0 b02 b03 b04 b05 b06 b07 b08 b09 b010 b011 b1 b12 b13 b14 b15 b16 b17 b18 b19 b110 b111 =
  spigotref16_Same.L2 0 b0 b02 b03 b04 b05 b06 b07 b08 b09 b010 b011 b1 b12 b13 b14 b15 b16 b17 b18 b19 b110 b111 := res_eq (by kernel_rfl)
theorem spigotref16_Same.L2_eq (i : Int) (b0 : Int) (b02 : (List Int)) (b03 : (List t1.den)) (b04 : (List Int)) (b05 : (List Bool)) (b06 : Int) (b07 : (List t3.den)) (b08 : (List Int)) (b09 : (List Int)) (b010 : Int) (b011 : Int) (b1 : Int) (b12 : (List Int)) (b13 : (List t1.den)) (b14 : (List Int)) (b15 : (List Bool)) (b16 : Int) (b17 : (List t3.den)) (b18 : (List Int)) (b19 : (List Int)) (b110 : Int) (b111 : Int) : spigotref16_Same.L2 i b0 b02 b03 b04 b05 b06 b07 b08 b09 b010 b011 b1 b12 b13 b14 b15 b16 b17 b18 b19 b110 b111 =
  bif (decide ((i : Int) < ((List.length b03 : Int)))) then
    spigotref16_Same.L3 i b0 b02 b03 b04 b05 b06 b07 b08 b09 b010 b011 b1 b12 b13 b14 b15 b16 b17 b18 b19 b110 b111
  else
    some (true, ()) := res_eq (by kernel_rfl)
theorem spigotref16_Same.L3_eq (i : Int) (b0 : Int) (b02 : (List Int)) (b03 : (List t1.den)) (b04 : (List Int)) (b05 : (List Bool)) (b06 : Int) (b07 : (List t3.den)) (b08 : (List Int)) (b09 : (List Int)) (b010 : Int) (b011 : Int) (b1 : Int) (b12 : (List Int)) (b13 : (List t1.den)) (b14 : (List Int)) (b15 : (List Bool)) (b16 : Int) (b17 : (List t3.den)) (b18 : (List Int)) (b19 : (List Int)) (b110 : Int) (b111 : Int) : spigotref16_Same.L3 i b0 b02 b03 b04 b05 b06 b07 b08 b09 b010 b011 b1 b12 b13 b14 b15 b16 b17 b18 b19 b110 b111 =
  bif (decide ((0 : Int) ≤ i ∧ (i : Int) < ((List.length b03 : Int)))) then
    bif (decide ((0 : Int) ≤ i ∧ (i : Int) < ((List.length b13 : Int)))) then
      bif (!(Ty.beq t1 (List.getD b03 (Int.toNat i) ((0, 0, 0, ()), 0, 0, 0, ())) (List.getD b13 (Int.toNat i) ((0, 0, 0, ()), 0, 0, 0, ())))) then
        some (false, ())
      else
        spigotref16_Same.L4 i b0 b02 b03 b04 b05 b06 b07 b08 b09 b010 b011 b1 b12 b13 b14 b15 b16 b17 b18 b19 b110 b111
    else none
  else none := res_eq (by kernel_rfl)
theorem spigotref16_Same.L4_eq (i : Int) (b0 : Int) (b02 : (List Int)) (b03 : (List t1.den)) (b04 : (List Int)) (b05 : (List Bool)) (b06 : Int) (b07 : (List t3.den)) (b08 : (List Int)) (b09 : (List Int)) (b010 : Int) (b011 : Int) (b1 : Int) (b12 : (List Int)) (b13 : (List t1.den)) (b14 : (List Int)) (b15 : (List Bool)) (b16 : Int) (b17 : (List t3.den)) (b18 : (List Int)) (b19 : (List Int)) (b110 : Int) (b111 : Int) : spigotref16_Same.L4 i b0 b02 b03 b04 b05 b06 b07 b08 b09 b010 b011 b1 b12 b13 b14 b15 b16 b17 b18 b19 b110 b111 =
  spigotref16_Same.L2 (IntKind.wrap .i64 (i + 1)) b0 b02 b03 b04 b05 b06 b07 b08 b09 b010 b011 b1 b12 b13 b14 b15 b16 b17 b18 b19 b110 b111 := res_eq (by kernel_rfl)
theorem spigotref16_Same.F_eq (a : t5.den) (b : t5.den) : spigotref16_Same.F a b =
  bif (a.1 != b.1) then
    some (false, ())
  else
    (spigotref16_SameKeys.F a.2.1 b.2.1).bind fun r0 =>
    bif (!r0.1) then
      some (false, ())
    else
      bif (((List.length a.2.2.1 : Int)) != ((List.length b.2.2.1 : Int))) then
        some (false, ())
      else
        (spigotref13_Same.F a.2.2.2.1 b.2.2.2.1).bind fun r1 =>
        bif (!r1.1) then
          some (false, ())
        else
          (spigotref14_Same.F a.2.2.2.2.1 b.2.2.2.2.1).bind fun r2 =>
          bif (!r2.1) then
            some (false, ())
          else
            (spigotref15_Same.F a.2.2.2.2.2.1 b.2.2.2.2.2.1).bind fun r3 =>
            bif (!r3.1) then
              some (false, ())
            else
              spigotref16_Same.L1 a.1 a.2.1 a.2.2.1 a.2.2.2.1.1 a.2.2.2.1.2.1 a.2.2.2.1.2.2.1 a.2.2.2.2.1 a.2.2.2.2.2.1.1 a.2.2.2.2.2.1.2.1 a.2.2.2.2.2.1.2.2.1 a.2.2.2.2.2.1.2.2.2.1 b.1 b.2.1 b.2.2.1 b.2.2.2.1.1 b.2.2.2.1.2.1 b.2.2.2.1.2.2.1 b.2.2.2.2.1 b.2.2.2.2.2.1.1 b.2.2.2.2.2.1.2.1 b.2.2.2.2.2.1.2.2.1 b.2.2.2.2.2.1.2.2.2.1 := by kernel_rfl
/-! ### spigot/spigotref18.Same (14) -/
noncomputable def spigotref18_Same.sg : Sig := ⟨[.val t7, .val t7], [(.bool, true)]⟩
noncomputable def spigotref18_Same.E : Env := ⟨tl, fun i => look i [(27, spigotref16_SameKeys.Fn), (37, spigotref16_Same.Fn)], [], eqs, globs, prims⟩
noncomputable def spigotref18_Same.c := cxOf spigotref18_Same.E spigotref18_Same.sg Try.f14
noncomputable def spigotref18_Same.b := body Try.f14
noncomputable def spigotref18_Same.Fn : Fun := fnOf spigotref18_Same.E spigotref18_Same.sg Try.f14
noncomputable def spigotref18_Same.F (a : t7.den) (b : t7.den) : Option (Bool × Unit) := spigotref18_Same.Fn.F (a, b, ())
theorem spigotref18_Same.spec : FnSpec Try.prog globs 14 spigotref18_Same.Fn := spec_of (E := spigotref18_Same.E) (envOk_at tabOk eqOk primsOk (.cons spigotref16_SameKeys.spec <| .cons spigotref16_Same.spec <| .nil)) mixOk Try.func14 (by kernel_rfl)
theorem spigotref18_Same.F_eq (a : t7.den) (b : t7.den) : spigotref18_Same.F a b =
  bif (a.1 == b.1) then
    bif (Ty.beq (.arr 3 t0) a.2.1 b.2.1) then
      bif (Ty.beq t1 a.2.2.1 b.2.2.1) then
        (spigotref16_Same.F a.2.2.2.1 b.2.2.2.1).bind fun r0 =>
        bif r0.1 then
          (spigotref16_Same.F a.2.2.2.2.1 b.2.2.2.2.1).bind fun r1 =>
          bif r1.1 then
            (spigotref16_SameKeys.F a.2.2.2.2.2.1 b.2.2.2.2.2.1).bind fun r2 =>
            bif r2.1 then
              some ((Ty.beq t6 a.2.2.2.2.2.2.1 b.2.2.2.2.2.2.1), ())
            else
              some (false, ())
          else
            some (false, ())
        else
          some (false, ())
      else
        some (false, ())
    else
      some (false, ())
  else
    some (false, ()) := by kernel_rfl
/-! ### spigot/spigotlaw19.RegistryKeeps (3) -/
noncomputable def spigotlaw19_RegistryKeeps.sg : Sig := ⟨[.val (.slice (.int .u32))], [(.bool, true)]⟩
noncomputable def spigotlaw19_RegistryKeeps.E : Env := ⟨tl, fun i => look i [(8, spigotlaw19_alive.Fn), (9, registry_Drop.Fn), (10, registry_Put.Fn), (11, spigotlaw19_of.Fn), (12, spigotref19_Check.Fn), (13, registry_Find.Fn), (14, spigotref18_Same.Fn)], [], eqs, globs, prims⟩
noncomputable def spigotlaw19_RegistryKeeps.c := cxOf spigotlaw19_RegistryKeeps.E spigotlaw19_RegistryKeeps.sg Try.f3
noncomputable def spigotlaw19_RegistryKeeps.b := body Try.f3
noncomputable def spigotlaw19_RegistryKeeps.Fn : Fun := fnOf spigotlaw19_RegistryKeeps.E spigotlaw19_RegistryKeeps.sg Try.f3
noncomputable def spigotlaw19_RegistryKeeps.F (l : (List Int)) : Option (Bool × Unit) := spigotlaw19_RegistryKeeps.Fn.F (l, ())
noncomputable def spigotlaw19_RegistryKeeps.S1 (l : (List Int)) (ok : Bool) : St := ⟨[(0, (.v (.slice (.int .u32)) l)), (3, (.v .bool ok))], [], 0, []⟩
noncomputable def spigotlaw19_RegistryKeeps.L1 (l : (List Int)) (ok : Bool) : Option (Bool × Unit) := res spigotlaw19_RegistryKeeps.c (atJoin spigotlaw19_RegistryKeeps.b [1, 1, 0, 1]) (spigotlaw19_RegistryKeeps.S1 l ok)
noncomputable def spigotlaw19_RegistryKeeps.S2 (l : (List Int)) (ok : Bool) (count : Int) (i : Int) (l0 : (List t7.den)) (b1 : (List Bool)) : St := ⟨[(0, (.v (.slice (.int .u32)) l)), (3, (.v .bool ok)), (4, (.sl 0)), (5, (.ptr 1 [])), (6, (.v (.int .i64) count)), (7, (.v (.int .i64) i))], [(0, some (.row t7 l0 false)), (1, some (.box (.v (.arr 16 .bool) b1)))], 2, []⟩
noncomputable def spigotlaw19_RegistryKeeps.L2 (l : (List Int)) (ok : Bool) (count : Int) (i : Int) (l0 : (List t7.den)) (b1 : (List Bool)) : Option (Bool × Unit) := res spigotlaw19_RegistryKeeps.c (atLoop spigotlaw19_RegistryKeeps.b [1, 1, 1, 1, 1, 1, 0, 1, 0]) (spigotlaw19_RegistryKeeps.S2 l ok count i l0 b1)
noncomputable def spigotlaw19_RegistryKeeps.S3 (l : (List Int)) (ok : Bool) (count : Int) (i : Int) (l0 : (List t7.den)) (b1 : (List Bool)) : St := ⟨[(0, (.v (.slice (.int .u32)) l)), (3, (.v .bool ok)), (4, (.sl 0)), (5, (.ptr 1 [])), (6, (.v (.int .i64) count)), (7, (.v (.int .i64) i))], [(0, some (.row t7 l0 false)), (1, some (.box (.v (.arr 16 .bool) b1)))], 2, []⟩
noncomputable def spigotlaw19_RegistryKeeps.L3 (l : (List Int)) (ok : Bool) (count : Int) (i : Int) (l0 : (List t7.den)) (b1 : (List Bool)) : Option (Bool × Unit) := res spigotlaw19_RegistryKeeps.c (atJoin spigotlaw19_RegistryKeeps.b [1, 1, 1, 1, 1, 1, 0, 1, 0, 0, 0, 1]) (spigotlaw19_RegistryKeeps.S3 l ok count i l0 b1)
noncomputable def spigotlaw19_RegistryKeeps.S4 (l : (List Int)) (ok : Bool) (count : Int) (i : Int) (t : Int) (e : Int) (l0 : (List t7.den)) (b1 : (List Bool)) (l2 : (List t7.den)) : St := ⟨[(0, (.v (.slice (.int .u32)) l)), (3, (.v .bool ok)), (4, (.sl 0)), (5, (.ptr 1 [])), (6, (.v (.int .i64) count)), (7, (.v (.int .i64) i)), (8, (.v (.int .u32) t)), (9, (.sl 2)), (10, (.v (.int .i64) e))], [(0, some (.row t7 l0 true)), (1, some (.box (.v (.arr 16 .bool) b1))), (2, some (.row t7 l2 false))], 3, []⟩
noncomputable def spigotlaw19_RegistryKeeps.L4 (l : (List Int)) (ok : Bool) (count : Int) (i : Int) (t : Int) (e : Int) (l0 : (List t7.den)) (b1 : (List Bool)) (l2 : (List t7.den)) : Option (Bool × Unit) := res spigotlaw19_RegistryKeeps.c (atJoin spigotlaw19_RegistryKeeps.b [1, 1, 1, 1, 1, 1, 0, 1, 0, 0, 1, 0, 0, 1, 1, 1, 0, 1]) (spigotlaw19_RegistryKeeps.S4 l ok count i t e l0 b1 l2)
noncomputable def spigotlaw19_RegistryKeeps.S5 (l : (List Int)) (ok : Bool) (count : Int) (i : Int) (l0 : (List t7.den)) (b1 : (List Bool)) : St := ⟨[(0, (.v (.slice (.int .u32)) l)), (3, (.v .bool ok)), (4, (.sl 0)), (5, (.ptr 1 [])), (6, (.v (.int .i64) count)), (7, (.v (.int .i64) i))], [(0, some (.row t7 l0 true)), (1, some (.box (.v (.arr 16 .bool) b1)))], 2, []⟩
noncomputable def spigotlaw19_RegistryKeeps.L5 (l : (List Int)) (ok : Bool) (count : Int) (i : Int) (l0 : (List t7.den)) (b1 : (List Bool)) : Option (Bool × Unit) := res spigotlaw19_RegistryKeeps.c (atJoin spigotlaw19_RegistryKeeps.b [1, 1, 1, 1, 1, 1, 0, 1, 0, 0, 1, 0, 0, 1, 1, 1, 1, 0, 1, 0, 0, 1]) (spigotlaw19_RegistryKeeps.S5 l ok count i l0 b1)
noncomputable def spigotlaw19_RegistryKeeps.S6 (l : (List Int)) (ok : Bool) (count : Int) (i : Int) (t : Int) (e : Int) (b0 : (List Bool)) (l1 : (List t7.den)) : St := ⟨[(0, (.v (.slice (.int .u32)) l)), (3, (.v .bool ok)), (5, (.ptr 0 [])), (6, (.v (.int .i64) count)), (7, (.v (.int .i64) i)), (8, (.v (.int .u32) t)), (9, (.sl 1)), (10, (.v (.int .i64) e))], [(0, some (.box (.v (.arr 16 .bool) b0))), (1, some (.row t7 l1 false))], 2, []⟩
noncomputable def spigotlaw19_RegistryKeeps.L6 (l : (List Int)) (ok : Bool) (count : Int) (i : Int) (t : Int) (e : Int) (b0 : (List Bool)) (l1 : (List t7.den)) : Option (Bool × Unit) := res spigotlaw19_RegistryKeeps.c (atJoin spigotlaw19_RegistryKeeps.b [1, 1, 1, 1, 1, 1, 0, 1, 0, 0, 1, 0, 0, 1, 1, 1, 1, 0, 1]) (spigotlaw19_RegistryKeeps.S6 l ok count i t e b0 l1)
noncomputable def spigotlaw19_RegistryKeeps.S7 (l : (List Int)) (ok : Bool) (count : Int) (i : Int) (t : Int) (b0 : (List Bool)) (l1 : (List t7.den)) : St := ⟨[(0, (.v (.slice (.int .u32)) l)), (3, (.v .bool ok)), (5, (.ptr 0 [])), (6, (.v (.int .i64) count)), (7, (.v (.int .i64) i)), (8, (.v (.int .u32) t)), (9, (.sl 1))], [(0, some (.box (.v (.arr 16 .bool) b0))), (1, some (.row t7 l1 false))], 2, []⟩
noncomputable def spigotlaw19_RegistryKeeps.L7 (l : (List Int)) (ok : Bool) (count : Int) (i : Int) (t : Int) (b0 : (List Bool)) (l1 : (List t7.den)) : Option (Bool × Unit) := res spigotlaw19_RegistryKeeps.c (atJoin spigotlaw19_RegistryKeeps.b [1, 1, 1, 1, 1, 1, 0, 1, 0, 0, 1, 0, 0, 1, 1, 1, 1, 1, 0, 1]) (spigotlaw19_RegistryKeeps.S7 l ok count i t b0 l1)
noncomputable def spigotlaw19_RegistryKeeps.S8 (l : (List Int)) (ok : Bool) (count : Int) (i : Int) (b0 : (List Bool)) (l1 : (List t7.den)) : St := ⟨[(0, (.v (.slice (.int .u32)) l)), (3, (.v .bool ok)), (5, (.ptr 0 [])), (6, (.v (.int .i64) count)), (7, (.v (.int .i64) i)), (9, (.sl 1))], [(0, some (.box (.v (.arr 16 .bool) b0))), (1, some (.row t7 l1 false))], 2, []⟩
noncomputable def spigotlaw19_RegistryKeeps.L8 (l : (List Int)) (ok : Bool) (count : Int) (i : Int) (b0 : (List Bool)) (l1 : (List t7.den)) : Option (Bool × Unit) := res spigotlaw19_RegistryKeeps.c (atJoin spigotlaw19_RegistryKeeps.b [1, 1, 1, 1, 1, 1, 0, 1, 0, 0, 1, 0, 0, 1, 1, 1, 1, 1, 1, 0, 1, 1]) (spigotlaw19_RegistryKeeps.S8 l ok count i b0 l1)
noncomputable def spigotlaw19_RegistryKeeps.S9 (l : (List Int)) (ok : Bool) (count : Int) (i : Int) (k : Int) (l0 : (List t7.den)) (b1 : (List Bool)) : St := ⟨[(0, (.v (.slice (.int .u32)) l)), (3, (.v .bool ok)), (4, (.sl 0)), (5, (.ptr 1 [])), (6, (.v (.int .i64) count)), (7, (.v (.int .i64) i)), (11, (.v (.int .u32) k))], [(0, some (.row t7 l0 false)), (1, some (.box (.v (.arr 16 .bool) b1)))], 2, []⟩
noncomputable def spigotlaw19_RegistryKeeps.L9 (l : (List Int)) (ok : Bool) (count : Int) (i : Int) (k : Int) (l0 : (List t7.den)) (b1 : (List Bool)) : Option (Bool × Unit) := res spigotlaw19_RegistryKeeps.c (atLoop spigotlaw19_RegistryKeeps.b [1, 1, 1, 1, 1, 1, 0, 1, 0, 0, 1, 0, 0, 1, 1, 1, 1, 1, 1, 1, 1, 1, 0]) (spigotlaw19_RegistryKeeps.S9 l ok count i k l0 b1)
noncomputable def spigotlaw19_RegistryKeeps.S10 (l : (List Int)) (ok : Bool) (count : Int) (i : Int) (k : Int) (l0 : (List t7.den)) (b1 : (List Bool)) : St := ⟨[(0, (.v (.slice (.int .u32)) l)), (3, (.v .bool ok)), (4, (.sl 0)), (5, (.ptr 1 [])), (6, (.v (.int .i64) count)), (7, (.v (.int .i64) i)), (11, (.v (.int .u32) k))], [(0, some (.row t7 l0 false)), (1, some (.box (.v (.arr 16 .bool) b1)))], 2, []⟩
noncomputable def spigotlaw19_RegistryKeeps.L10 (l : (List Int)) (ok : Bool) (count : Int) (i : Int) (k : Int) (l0 : (List t7.den)) (b1 : (List Bool)) : Option (Bool × Unit) := res spigotlaw19_RegistryKeeps.c (atJoin spigotlaw19_RegistryKeeps.b [1, 1, 1, 1, 1, 1, 0, 1, 0, 0, 1, 0, 0, 1, 1, 1, 1, 1, 1, 1, 1, 1, 0, 0, 0, 1]) (spigotlaw19_RegistryKeeps.S10 l ok count i k l0 b1)
noncomputable def spigotlaw19_RegistryKeeps.S11 (l : (List Int)) (ok : Bool) (count : Int) (i : Int) (k : Int) (l0 : (List t7.den)) (b1 : (List Bool)) : St := ⟨[(0, (.v (.slice (.int .u32)) l)), (3, (.v .bool ok)), (4, (.sl 0)), (5, (.ptr 1 [])), (6, (.v (.int .i64) count)), (7, (.v (.int .i64) i)), (11, (.v (.int .u32) k))], [(0, some (.row t7 l0 false)), (1, some (.box (.v (.arr 16 .bool) b1)))], 2, []⟩
noncomputable def spigotlaw19_RegistryKeeps.L11 (l : (List Int)) (ok : Bool) (count : Int) (i : Int) (k : Int) (l0 : (List t7.den)) (b1 : (List Bool)) : Option (Bool × Unit) := res spigotlaw19_RegistryKeeps.c (atJoin spigotlaw19_RegistryKeeps.b [1, 1, 1, 1, 1, 1, 0, 1, 0, 0, 1, 0, 0, 1, 1, 1, 1, 1, 1, 1, 1, 1, 0, 0, 1, 0, 0, 1, 1]) (spigotlaw19_RegistryKeeps.S11 l ok count i k l0 b1)
noncomputable def spigotlaw19_RegistryKeeps.S12 (l : (List Int)) (ok : Bool) (count : Int) (i : Int) (l0 : (List t7.den)) (b1 : (List Bool)) : St := ⟨[(0, (.v (.slice (.int .u32)) l)), (3, (.v .bool ok)), (4, (.sl 0)), (5, (.ptr 1 [])), (6, (.v (.int .i64) count)), (7, (.v (.int .i64) i))], [(0, some (.row t7 l0 true)), (1, some (.box (.v (.arr 16 .bool) b1)))], 2, []⟩
noncomputable def spigotlaw19_RegistryKeeps.L12 (l : (List Int)) (ok : Bool) (count : Int) (i : Int) (l0 : (List t7.den)) (b1 : (List Bool)) : Option (Bool × Unit) := res spigotlaw19_RegistryKeeps.c (atLoop spigotlaw19_RegistryKeeps.b [1, 1, 1, 1, 1, 1, 0, 1, 0]) (spigotlaw19_RegistryKeeps.S12 l ok count i l0 b1)
noncomputable def spigotlaw19_RegistryKeeps.S13 (l : (List Int)) (ok : Bool) (count : Int) (i : Int) (l0 : (List t7.den)) (b1 : (List Bool)) : St := ⟨[(0, (.v (.slice (.int .u32)) l)), (3, (.v .bool ok)), (4, (.sl 0)), (5, (.ptr 1 [])), (6, (.v (.int .i64) count)), (7, (.v (.int .i64) i))], [(0, some (.row t7 l0 true)), (1, some (.box (.v (.arr 16 .bool) b1)))], 2, []⟩
noncomputable def spigotlaw19_RegistryKeeps.L13 (l : (List Int)) (ok : Bool) (count : Int) (i : Int) (l0 : (List t7.den)) (b1 : (List Bool)) : Option (Bool × Unit) := res spigotlaw19_RegistryKeeps.c (atJoin spigotlaw19_RegistryKeeps.b [1, 1, 1, 1, 1, 1, 0, 1, 0, 0, 0, 1]) (spigotlaw19_RegistryKeeps.S13 l ok count i l0 b1)
theorem spigotlaw19_RegistryKeeps.spec : FnSpec Try.prog globs 3 spigotlaw19_RegistryKeeps.Fn := spec_of (E := spigotlaw19_RegistryKeeps.E) (envOk_at tabOk eqOk primsOk (.cons spigotlaw19_alive.spec <| .cons registry_Drop.spec <| .cons registry_Put.spec <| .cons spigotlaw19_of.spec <| .cons spigotref19_Check.spec <| .cons registry_Find.spec <| .cons spigotref18_Same.spec <| .nil)) mixOk Try.func3 (by kernel_rfl)
theorem spigotlaw19_RegistryKeeps.L1_eq (l : (List Int)) (ok : Bool) : spigotlaw19_RegistryKeeps.L1 l ok =
  spigotlaw19_RegistryKeeps.L2 l ok 0 0 ([] : List t7.den) (List.replicate 16 false) := res_eq (by kernel_rfl)
theorem spigotlaw19_RegistryKeeps.L2_eq (l : (List Int)) (ok : Bool) (count : Int) (i : Int) (l0 : (List t7.den)) (b1 : (List Bool)) : spigotlaw19_RegistryKeeps.L2 l ok count i l0 b1 =
  bif (decide ((i : Int) < ((List.length l : Int)))) then
    spigotlaw19_RegistryKeeps.L3 l ok count i l0 b1
  else
    bif ok then
      some ((((List.length l0 : Int)) == count), ())
    else
      some (false, ()) := res_eq (by kernel_rfl)
theorem spigotlaw19_RegistryKeeps.L3_eq (l : (List Int)) (ok : Bool) (count : Int) (i : Int) (l0 : (List t7.den)) (b1 : (List Bool)) : spigotlaw19_RegistryKeeps.L3 l ok count i l0 b1 =
  bif (decide ((0 : Int) ≤ i ∧ (i : Int) < ((List.length l : Int)))) then
    bif (decide ((16 : Int) ≠ 0)) then
      bif (decide ((0 : Int) ≤ (Int.tmod (List.getD l (Int.toNat i) 0) 16) ∧ ((Int.tmod (List.getD l (Int.toNat i) 0) 16) : Int) < 16)) then
        bif (List.getD b1 (Int.toNat (Int.tmod (List.getD l (Int.toNat i) 0) 16)) false) then
          (registry_Drop.F l0 (Int.tmod (List.getD l (Int.toNat i) 0) 16)).bind fun r0 =>
          spigotlaw19_RegistryKeeps.L4 l ok count i (Int.tmod (List.getD l (Int.toNat i) 0) 16) r0.2.1 l0 b1 r0.1
        else
          (spigotlaw19_of.F (Int.tmod (List.getD l (Int.toNat i) 0) 16)).bind fun r0 =>
          (registry_Put.F l0 r0.1).bind fun r1 =>
          spigotlaw19_RegistryKeeps.L4 l ok count i (Int.tmod (List.getD l (Int.toNat i) 0) 16) r1.2.1 l0 b1 r1.1
      else none
    else none
  else none := res_eq (by kernel_rfl)
theorem spigotlaw19_RegistryKeeps.L4_eq (l : (List Int)) (ok : Bool) (count : Int) (i : Int) (t : Int) (e : Int) (l0 : (List t7.den)) (b1 : (List Bool)) (l2 : (List t7.den)) : spigotlaw19_RegistryKeeps.L4 l ok count i t e l0 b1 l2 =
  bif (decide ((0 : Int) ≤ t ∧ (t : Int) < 16)) then
    bif (!(List.getD b1 (Int.toNat t) false)) then
      bif (count == 8) then
        bif (e != 18) then
          some (false, ())
        else
          spigotlaw19_RegistryKeeps.L5 l ok count i l0 b1
      else
        spigotlaw19_RegistryKeeps.L6 l ok count i t e b1 l2
    else
      spigotlaw19_RegistryKeeps.L6 l ok count i t e b1 l2
  else none := res_eq (by kernel_rfl)
theorem spigotlaw19_RegistryKeeps.L5_eq (l : (List Int)) (ok : Bool) (count : Int) (i : Int) (l0 : (List t7.den)) (b1 : (List Bool)) : spigotlaw19_RegistryKeeps.L5 l ok count i l0 b1 =
  spigotlaw19_RegistryKeeps.L12 l ok count (IntKind.wrap .i64 (i + 1)) l0 b1 := res_eq (by kernel_rfl)
theorem spigotlaw19_RegistryKeeps.L6_eq (l : (List Int)) (ok : Bool) (count : Int) (i : Int) (t : Int) (e : Int) (b0 : (List Bool)) (l1 : (List t7.den)) : spigotlaw19_RegistryKeeps.L6 l ok count i t e b0 l1 =
  bif (e != 0) then
    some (false, ())
  else
    (spigotref19_Check.F l1).bind fun r0 =>
    bif (r0.1 != 0) then
      some (false, ())
    else
      spigotlaw19_RegistryKeeps.L7 l ok count i t b0 l1 := res_eq (by kernel_rfl)
theorem spigotlaw19_RegistryKeeps.L7_eq (l : (List Int)) (ok : Bool) (count : Int) (i : Int) (t : Int) (b0 : (List Bool)) (l1 : (List t7.den)) : spigotlaw19_RegistryKeeps.L7 l ok count i t b0 l1 =
  bif (decide ((0 : Int) ≤ t ∧ (t : Int) < 16)) then
    bif (decide ((0 : Int) ≤ t ∧ (t : Int) < 16)) then
      bif (decide ((0 : Int) ≤ t ∧ (t : Int) < 16)) then
        bif (List.getD (List.set b0 (Int.toNat t) (!(List.getD b0 (Int.toNat t) false))) (Int.toNat t) false) then
          spigotlaw19_RegistryKeeps.L8 l ok (IntKind.wrap .i64 (count + 1)) i (List.set b0 (Int.toNat t) (!(List.getD b0 (Int.toNat t) false))) l1
        else
          spigotlaw19_RegistryKeeps.L8 l ok (IntKind.wrap .i64 (count - 1)) i (List.set b0 (Int.toNat t) (!(List.getD b0 (Int.toNat t) false))) l1
      else none
    else none
  else none := res_eq (by kernel_rfl)
theorem spigotlaw19_RegistryKeeps.L8_eq (l : (List Int)) (ok : Bool) (count : Int) (i : Int) (b0 : (List Bool)) (l1 : (List t7.den)) : spigotlaw19_RegistryKeeps.L8 l ok count i b0 l1 =
  spigotlaw19_RegistryKeeps.L9 l ok count i 0 l1 b0 := res_eq (by kernel_rfl)
theorem spigotlaw19_RegistryKeeps.L9_eq (l : (List Int)) (ok : Bool) (count : Int) (i : Int) (k : Int) (l0 : (List t7.den)) (b1 : (List Bool)) : spigotlaw19_RegistryKeeps.L9 l ok count i k l0 b1 =
  bif (decide ((k : Int) < 16)) then
    spigotlaw19_RegistryKeeps.L10 l ok count i k l0 b1
  else
    spigotlaw19_RegistryKeeps.L2 l ok count (IntKind.wrap .i64 (i + 1)) l0 b1 := res_eq (by kernel_rfl)
theorem spigotlaw19_RegistryKeeps.L10_eq (l : (List Int)) (ok : Bool) (count : Int) (i : Int) (k : Int) (l0 : (List t7.den)) (b1 : (List Bool)) : spigotlaw19_RegistryKeeps.L10 l ok count i k l0 b1 =
  (registry_Find.F l0 k).bind fun r0 =>
  bif (decide ((0 : Int) ≤ k ∧ (k : Int) < 16)) then
    bif (!((r0.2.1 == 0) == (List.getD b1 (Int.toNat k) false))) then
      some (false, ())
    else
      bif (r0.2.1 == 0) then
        bif (decide ((r0.1 : Int) < 0)) then
          some (false, ())
        else
          bif (decide ((r0.1 : Int) ≥ ((List.length l0 : Int)))) then
            some (false, ())
          else
            bif (decide ((0 : Int) ≤ r0.1 ∧ (r0.1 : Int) < ((List.length l0 : Int)))) then
              (spigotlaw19_of.F k).bind fun r1 =>
              (spigotref18_Same.F (List.getD l0 (Int.toNat r0.1) (0, (List.replicate 3 (0, 0, 0, ())), ((0, 0, 0, ()), 0, 0, 0, ()), (0, ([] : List Int), ([] : List t1.den), (([] : List Int), ([] : List Bool), 0, ()), ([] : List t3.den), (([] : List Int), ([] : List Int), 0, 0, ()), ()), (0, ([] : List Int), ([] : List t1.den), (([] : List Int), ([] : List Bool), 0, ()), ([] : List t3.den), (([] : List Int), ([] : List Int), 0, 0, ()), ()), ([] : List Int), (0, 0, 0, ()), ())) r1.1).bind fun r2 =>
              bif (!r2.1) then
                some (false, ())
              else
                spigotlaw19_RegistryKeeps.L11 l ok count i k l0 b1
            else none
      else
        spigotlaw19_RegistryKeeps.L11 l ok count i k l0 b1
  else none := res_eq (by kernel_rfl)
theorem spigotlaw19_RegistryKeeps.L11_eq (l : (List Int)) (ok : Bool) (count : Int) (i : Int) (k : Int) (l0 : (List t7.den)) (b1 : (List Bool)) : spigotlaw19_RegistryKeeps.L11 l ok count i k l0 b1 =
  spigotlaw19_RegistryKeeps.L9 l ok count i (IntKind.wrap .u32 (k + 1)) l0 b1 := res_eq (by kernel_rfl)
theorem spigotlaw19_RegistryKeeps.L12_eq (l : (List Int)) (ok : Bool) (count : Int) (i : Int) (l0 : (List t7.den)) (b1 : (List Bool)) : spigotlaw19_RegistryKeeps.L12 l ok count i l0 b1 =
  bif (decide ((i : Int) < ((List.length l : Int)))) then
    spigotlaw19_RegistryKeeps.L13 l ok count i l0 b1
  else
    bif ok then
      some ((((List.length l0 : Int)) == count), ())
    else
      some (false, ()) := res_eq (by kernel_rfl)
theorem spigotlaw19_RegistryKeeps.L13_eq (l : (List Int)) (ok : Bool) (count : Int) (i : Int) (l0 : (List t7.den)) (b1 : (List Bool)) : spigotlaw19_RegistryKeeps.L13 l ok count i l0 b1 =
  bif (decide ((0 : Int) ≤ i ∧ (i : Int) < ((List.length l : Int)))) then
    bif (decide ((16 : Int) ≠ 0)) then
      bif (decide ((0 : Int) ≤ (Int.tmod (List.getD l (Int.toNat i) 0) 16) ∧ ((Int.tmod (List.getD l (Int.toNat i) 0) 16) : Int) < 16)) then
        bif (List.getD b1 (Int.toNat (Int.tmod (List.getD l (Int.toNat i) 0) 16)) false) then
          (registry_Drop.F l0 (Int.tmod (List.getD l (Int.toNat i) 0) 16)).bind fun r0 =>
          spigotlaw19_RegistryKeeps.L4 l ok count i (Int.tmod (List.getD l (Int.toNat i) 0) 16) r0.2.1 l0 b1 r0.1
        else
          (spigotlaw19_of.F (Int.tmod (List.getD l (Int.toNat i) 0) 16)).bind fun r0 =>
          (registry_Put.F l0 r0.1).bind fun r1 =>
          spigotlaw19_RegistryKeeps.L4 l ok count i (Int.tmod (List.getD l (Int.toNat i) 0) 16) r1.2.1 l0 b1 r1.1
      else none
    else none
  else none := res_eq (by kernel_rfl)
theorem spigotlaw19_RegistryKeeps.F_eq (l : (List Int)) : spigotlaw19_RegistryKeeps.F l =
  spigotlaw19_alive.F.bind fun r0 =>
  bif (decide ((((List.length l : Int)) : Int) > 40)) then
    some (r0.1, ())
  else
    bif (!r0.1) then
      some (r0.1, ())
    else
      spigotlaw19_RegistryKeeps.L1 l r0.1 := by kernel_rfl
/-! ### spigot/spigotref13.Great (63) -/
noncomputable def spigotref13_Great.sg : Sig := ⟨[.val t2], [(.bool, true)]⟩
noncomputable def spigotref13_Great.E : Env := ⟨tl, fun i => look i [], [], eqs, globs, prims⟩
noncomputable def spigotref13_Great.c := cxOf spigotref13_Great.E spigotref13_Great.sg Try.f63
noncomputable def spigotref13_Great.b := body Try.f63
noncomputable def spigotref13_Great.Fn : Fun := fnOf spigotref13_Great.E spigotref13_Great.sg Try.f63
noncomputable def spigotref13_Great.F (a : t2.den) : Option (Bool × Unit) := spigotref13_Great.Fn.F (a, ())
theorem spigotref13_Great.spec : FnSpec Try.prog globs 63 spigotref13_Great.Fn := spec_of (E := spigotref13_Great.E) (envOk_at tabOk eqOk primsOk (.nil)) mixOk Try.func63 (by kernel_rfl)
theorem spigotref13_Great.F_eq (a : t2.den) : spigotref13_Great.F a =
  bif (decide ((((List.length a.1 : Int)) : Int) > 100)) then
    some (true, ())
  else
    some ((decide ((((List.length a.2.1 : Int)) : Int) > 100)), ()) := by kernel_rfl
/-! ### spigot/spigotref15.Great (64) -/
noncomputable def spigotref15_Great.sg : Sig := ⟨[.val t4], [(.bool, true)]⟩
noncomputable def spigotref15_Great.E : Env := ⟨tl, fun i => look i [], [], eqs, globs, prims⟩
noncomputable def spigotref15_Great.c := cxOf spigotref15_Great.E spigotref15_Great.sg Try.f64
noncomputable def spigotref15_Great.b := body Try.f64
noncomputable def spigotref15_Great.Fn : Fun := fnOf spigotref15_Great.E spigotref15_Great.sg Try.f64
noncomputable def spigotref15_Great.F (o : t4.den) : Option (Bool × Unit) := spigotref15_Great.Fn.F (o, ())
theorem spigotref15_Great.spec : FnSpec Try.prog globs 64 spigotref15_Great.Fn := spec_of (E := spigotref15_Great.E) (envOk_at tabOk eqOk primsOk (.nil)) mixOk Try.func64 (by kernel_rfl)
theorem spigotref15_Great.F_eq (o : t4.den) : spigotref15_Great.F o =
  bif (decide ((((List.length o.1 : Int)) : Int) > 100)) then
    some (true, ())
  else
    some ((decide ((((List.length o.2.1 : Int)) : Int) > 100)), ()) := by kernel_rfl
/-! ### spigot/spigotref16.Great (38) -/
noncomputable def spigotref16_Great.sg : Sig := ⟨[.val t5], [(.bool, true)]⟩
noncomputable def spigotref16_Great.E : Env := ⟨tl, fun i => look i [(63, spigotref13_Great.Fn), (64, spigotref15_Great.Fn)], [], eqs, globs, prims⟩
noncomputable def spigotref16_Great.c := cxOf spigotref16_Great.E spigotref16_Great.sg Try.f38
noncomputable def spigotref16_Great.b := body Try.f38
noncomputable def spigotref16_Great.Fn : Fun := fnOf spigotref16_Great.E spigotref16_Great.sg Try.f38
noncomputable def spigotref16_Great.F (t : t5.den) : Option (Bool × Unit) := spigotref16_Great.Fn.F (t, ())
theorem spigotref16_Great.spec : FnSpec Try.prog globs 38 spigotref16_Great.Fn := spec_of (E := spigotref16_Great.E) (envOk_at tabOk eqOk primsOk (.cons spigotref13_Great.spec <| .cons spigotref15_Great.spec <| .nil)) mixOk Try.func38 (by kernel_rfl)
theorem spigotref16_Great.F_eq (t : t5.den) : spigotref16_Great.F t =
  bif (decide ((((List.length t.2.1 : Int)) : Int) > 100)) then
    some (true, ())
  else
    bif (decide ((((List.length t.2.2.1 : Int)) : Int) > 100)) then
      some (true, ())
    else
      bif (decide ((((List.length t.2.2.2.2.1 : Int)) : Int) > 100)) then
        some (true, ())
      else
        (spigotref13_Great.F t.2.2.2.1).bind fun r0 =>
        bif r0.1 then
          some (true, ())
        else
          (spigotref15_Great.F t.2.2.2.2.2.1).bind fun r1 =>
          some (r1.1, ()) := by kernel_rfl
/-! ### spigot/spigotref18.Great (16) -/
noncomputable def spigotref18_Great.sg : Sig := ⟨[.val t7], [(.bool, true)]⟩
noncomputable def spigotref18_Great.E : Env := ⟨tl, fun i => look i [(38, spigotref16_Great.Fn)], [], eqs, globs, prims⟩
noncomputable def spigotref18_Great.c := cxOf spigotref18_Great.E spigotref18_Great.sg Try.f16
noncomputable def spigotref18_Great.b := body Try.f16
noncomputable def spigotref18_Great.Fn : Fun := fnOf spigotref18_Great.E spigotref18_Great.sg Try.f16
noncomputable def spigotref18_Great.F (p : t7.den) : Option (Bool × Unit) := spigotref18_Great.Fn.F (p, ())
theorem spigotref18_Great.spec : FnSpec Try.prog globs 16 spigotref18_Great.Fn := spec_of (E := spigotref18_Great.E) (envOk_at tabOk eqOk primsOk (.cons spigotref16_Great.spec <| .nil)) mixOk Try.func16 (by kernel_rfl)
theorem spigotref18_Great.F_eq (p : t7.den) : spigotref18_Great.F p =
  (spigotref16_Great.F p.2.2.2.1).bind fun r0 =>
  bif r0.1 then
    some (true, ())
  else
    (spigotref16_Great.F p.2.2.2.2.1).bind fun r1 =>
    bif r1.1 then
      some (true, ())
    else
      some ((decide ((((List.length p.2.2.2.2.2.1 : Int)) : Int) > 100)), ()) := by kernel_rfl
/-! ### spigot/spigotref19.Great (15) -/
noncomputable def spigotref19_Great.sg : Sig := ⟨[.val (.slice t7)], [(.bool, true)]⟩
noncomputable def spigotref19_Great.E : Env := ⟨tl, fun i => look i [(16, spigotref18_Great.Fn)], [], eqs, globs, prims⟩
noncomputable def spigotref19_Great.c := cxOf spigotref19_Great.E spigotref19_Great.sg Try.f15
noncomputable def spigotref19_Great.b := body Try.f15
noncomputable def spigotref19_Great.Fn : Fun := fnOf spigotref19_Great.E spigotref19_Great.sg Try.f15
noncomputable def spigotref19_Great.F (l : (List t7.den)) : Option (Bool × Unit) := spigotref19_Great.Fn.F (l, ())
noncomputable def spigotref19_Great.S1 (l : (List t7.den)) (i : Int) : St := ⟨[(0, (.v (.slice t7) l)), (3, (.v (.int .i64) i))], [], 0, []⟩
noncomputable def spigotref19_Great.L1 (l : (List t7.den)) (i : Int) : Option (Bool × Unit) := res spigotref19_Great.c (atLoop spigotref19_Great.b [1, 0, 1, 0]) (spigotref19_Great.S1 l i)
noncomputable def spigotref19_Great.S2 (l : (List t7.den)) (i : Int) : St := ⟨[(0, (.v (.slice t7) l)), (3, (.v (.int .i64) i))], [], 0, []⟩
noncomputable def spigotref19_Great.L2 (l : (List t7.den)) (i : Int) : Option (Bool × Unit) := res spigotref19_Great.c (atJoin spigotref19_Great.b [1, 0, 1, 0, 0, 0, 1]) (spigotref19_Great.S2 l i)
noncomputable def spigotref19_Great.S3 (l : (List t7.den)) (i : Int) : St := ⟨[(0, (.v (.slice t7) l)), (3, (.v (.int .i64) i))], [], 0, []⟩
noncomputable def spigotref19_Great.L3 (l : (List t7.den)) (i : Int) : Option (Bool × Unit) := res spigotref19_Great.c (atJoin spigotref19_Great.b [1, 0, 1, 0, 0, 1, 0, 0, 1]) (spigotref19_Great.S3 l i)
theorem spigotref19_Great.spec : FnSpec Try.prog globs 15 spigotref19_Great.Fn := spec_of (E := spigotref19_Great.E) (envOk_at tabOk eqOk primsOk (.cons spigotref18_Great.spec <| .nil)) mixOk Try.func15 (by kernel_rfl)
theorem spigotref19_Great.L1_eq (l : (List t7.den)) (i : Int) : spigotref19_Great.L1 l i =
  bif (decide ((i : Int) < ((List.length l : Int)))) then
    bif (decide ((i : Int) ≤ 20)) then
      spigotref19_Great.L2 l i
    else
      some ((decide ((((List.length l : Int)) : Int) > 20)), ())
  else
    some ((decide ((((List.length l : Int)) : Int) > 20)), ()) := res_eq (by kernel_rfl)
theorem spigotref19_Great.L2_eq (l : (List t7.den)) (i : Int) : spigotref19_Great.L2 l i =
  bif (decide ((0 : Int) ≤ i ∧ (i : Int) < ((List.length l : Int)))) then
    (spigotref18_Great.F (List.getD l (Int.toNat i) (0, (List.replicate 3 (0, 0, 0, ())), ((0, 0, 0, ()), 0, 0, 0, ()), (0, ([] : List Int), ([] : List t1.den), (([] : List Int), ([] : List Bool), 0, ()), ([] : List t3.den), (([] : List Int), ([] : List Int), 0, 0, ()), ()), (0, ([] : List Int), ([] : List t1.den), (([] : List Int), ([] : List Bool), 0, ()), ([] : List t3.den), (([] : List Int), ([] : List Int), 0, 0, ()), ()), ([] : List Int), (0, 0, 0, ()), ()))).bind fun r0 =>
    bif r0.1 then
      some (true, ())
    else
      spigotref19_Great.L3 l i
  else none := res_eq (by kernel_rfl)
theorem spigotref19_Great.L3_eq (l : (List t7.den)) (i : Int) : spigotref19_Great.L3 l i =
  spigotref19_Great.L1 l (IntKind.wrap .i64 (i + 1)) := res_eq (by kernel_rfl)
theorem spigotref19_Great.F_eq (l : (List t7.den)) : spigotref19_Great.F l =
  spigotref19_Great.L1 l 0 := by kernel_rfl
/-! ### spigot/spigotref13.Twin (90) -/
noncomputable def spigotref13_Twin.sg : Sig := ⟨[.val t2], [(t2, true)]⟩
noncomputable def spigotref13_Twin.E : Env := ⟨tl, fun i => look i [], [], eqs, globs, prims⟩
noncomputable def spigotref13_Twin.c := cxOf spigotref13_Twin.E spigotref13_Twin.sg Try.f90
noncomputable def spigotref13_Twin.b := body Try.f90
noncomputable def spigotref13_Twin.Fn : Fun := fnOf spigotref13_Twin.E spigotref13_Twin.sg Try.f90
noncomputable def spigotref13_Twin.F (a : t2.den) : Option (t2.den × Unit) := spigotref13_Twin.Fn.F (a, ())
theorem spigotref13_Twin.spec : FnSpec Try.prog globs 90 spigotref13_Twin.Fn := spec_of (E := spigotref13_Twin.E) (envOk_at tabOk eqOk primsOk (.nil)) mixOk Try.func90 (by kernel_rfl)
theorem spigotref13_Twin.F_eq (a : t2.den) : spigotref13_Twin.F a =
  bif (lim ((List.length ([] : List Int)) + (List.length a.1)) (.int .i64)) then
    bif (lim ((List.length ([] : List Bool)) + (List.length a.2.1)) .bool) then
      some (((([] : List Int) ++ a.1), (([] : List Bool) ++ a.2.1), a.2.2.1, ()), ())
    else none
  else none := by kernel_rfl
/-! ### spigot/spigotref15.Twin (91) -/
noncomputable def spigotref15_Twin.sg : Sig := ⟨[.val t4], [(t4, true)]⟩
noncomputable def spigotref15_Twin.E : Env := ⟨tl, fun i => look i [], [], eqs, globs, prims⟩
noncomputable def spigotref15_Twin.c := cxOf spigotref15_Twin.E spigotref15_Twin.sg Try.f91
noncomputable def spigotref15_Twin.b := body Try.f91
noncomputable def spigotref15_Twin.Fn : Fun := fnOf spigotref15_Twin.E spigotref15_Twin.sg Try.f91
noncomputable def spigotref15_Twin.F (o : t4.den) : Option (t4.den × Unit) := spigotref15_Twin.Fn.F (o, ())
theorem spigotref15_Twin.spec : FnSpec Try.prog globs 91 spigotref15_Twin.Fn := spec_of (E := spigotref15_Twin.E) (envOk_at tabOk eqOk primsOk (.nil)) mixOk Try.func91 (by kernel_rfl)
theorem spigotref15_Twin.F_eq (o : t4.den) : spigotref15_Twin.F o =
  bif (lim ((List.length ([] : List Int)) + (List.length o.1)) (.int .i64)) then
    bif (lim ((List.length ([] : List Int)) + (List.length o.2.1)) (.int .i64)) then
      some (((([] : List Int) ++ o.1), (([] : List Int) ++ o.2.1), o.2.2.1, o.2.2.2.1, ()), ())
    else none
  else none := by kernel_rfl
/-! ### spigot/spigotref16.Twin (65) -/
noncomputable def spigotref16_Twin.sg : Sig := ⟨[.val t5], [(t5, true)]⟩
noncomputable def spigotref16_Twin.E : Env := ⟨tl, fun i => look i [(90, spigotref13_Twin.Fn), (91, spigotref15_Twin.Fn)], [], eqs, globs, prims⟩
noncomputable def spigotref16_Twin.c := cxOf spigotref16_Twin.E spigotref16_Twin.sg Try.f65
noncomputable def spigotref16_Twin.b := body Try.f65
noncomputable def spigotref16_Twin.Fn : Fun := fnOf spigotref16_Twin.E spigotref16_Twin.sg Try.f65
noncomputable def spigotref16_Twin.F (t : t5.den) : Option (t5.den × Unit) := spigotref16_Twin.Fn.F (t, ())
theorem spigotref16_Twin.spec : FnSpec Try.prog globs 65 spigotref16_Twin.Fn := spec_of (E := spigotref16_Twin.E) (envOk_at tabOk eqOk primsOk (.cons spigotref13_Twin.spec <| .cons spigotref15_Twin.spec <| .nil)) mixOk Try.func65 (by kernel_rfl)
theorem spigotref16_Twin.F_eq (t : t5.den) : spigotref16_Twin.F t =
  bif (lim ((List.length ([] : List Int)) + (List.length t.2.1)) (.int .u32)) then
    bif (lim ((List.length ([] : List t1.den)) + (List.length t.2.2.1)) t1) then
      (spigotref13_Twin.F t.2.2.2.1).bind fun r0 =>
      bif (lim ((List.length ([] : List t3.den)) + (List.length t.2.2.2.2.1)) t3) then
        (spigotref15_Twin.F t.2.2.2.2.2.1).bind fun r1 =>
        some ((t.1, (([] : List Int) ++ t.2.1), (([] : List t1.den) ++ t.2.2.1), r0.1, (([] : List t3.den) ++ t.2.2.2.2.1), r1.1, ()), ())
      else none
    else none
  else none := by kernel_rfl
/-! ### spigot/spigotref18.Twin (39) -/
noncomputable def spigotref18_Twin.sg : Sig := ⟨[.val t7], [(t7, true)]⟩
noncomputable def spigotref18_Twin.E : Env := ⟨tl, fun i => look i [(65, spigotref16_Twin.Fn)], [], eqs, globs, prims⟩
noncomputable def spigotref18_Twin.c := cxOf spigotref18_Twin.E spigotref18_Twin.sg Try.f39
noncomputable def spigotref18_Twin.b := body Try.f39
noncomputable def spigotref18_Twin.Fn : Fun := fnOf spigotref18_Twin.E spigotref18_Twin.sg Try.f39
noncomputable def spigotref18_Twin.F (p : t7.den) : Option (t7.den × Unit) := spigotref18_Twin.Fn.F (p, ())
theorem spigotref18_Twin.spec : FnSpec Try.prog globs 39 spigotref18_Twin.Fn := spec_of (E := spigotref18_Twin.E) (envOk_at tabOk eqOk primsOk (.cons spigotref16_Twin.spec <| .nil)) mixOk Try.func39 (by kernel_rfl)
theorem spigotref18_Twin.F_eq (p : t7.den) : spigotref18_Twin.F p =
  (spigotref16_Twin.F p.2.2.2.1).bind fun r0 =>
  (spigotref16_Twin.F p.2.2.2.2.1).bind fun r1 =>
  bif (lim ((List.length ([] : List Int)) + (List.length p.2.2.2.2.2.1)) (.int .u32)) then
    some ((p.1, p.2.1, p.2.2.1, r0.1, r1.1, (([] : List Int) ++ p.2.2.2.2.2.1), p.2.2.2.2.2.2.1, ()), ())
  else none := by kernel_rfl
/-! ### spigot/spigotref19.Twin (17) -/
noncomputable def spigotref19_Twin.sg : Sig := ⟨[.val (.slice t7)], [((.slice t7), true)]⟩
noncomputable def spigotref19_Twin.E : Env := ⟨tl, fun i => look i [(39, spigotref18_Twin.Fn)], [], eqs, globs, prims⟩
noncomputable def spigotref19_Twin.c := cxOf spigotref19_Twin.E spigotref19_Twin.sg Try.f17
noncomputable def spigotref19_Twin.b := body Try.f17
noncomputable def spigotref19_Twin.Fn : Fun := fnOf spigotref19_Twin.E spigotref19_Twin.sg Try.f17
noncomputable def spigotref19_Twin.F (l : (List t7.den)) : Option ((List t7.den) × Unit) := spigotref19_Twin.Fn.F (l, ())
noncomputable def spigotref19_Twin.S1 (l : (List t7.den)) (i : Int) (l0 : (List t7.den)) : St := ⟨[(0, (.v (.slice t7) l)), (3, (.sl 0)), (4, (.v (.int .i64) i))], [(0, some (.row t7 l0 false))], 1, []⟩
noncomputable def spigotref19_Twin.L1 (l : (List t7.den)) (i : Int) (l0 : (List t7.den)) : Option ((List t7.den) × Unit) := res spigotref19_Twin.c (atLoop spigotref19_Twin.b [1, 1, 0, 1, 0]) (spigotref19_Twin.S1 l i l0)
noncomputable def spigotref19_Twin.S2 (l : (List t7.den)) (i : Int) (l0 : (List t7.den)) : St := ⟨[(0, (.v (.slice t7) l)), (3, (.sl 0)), (4, (.v (.int .i64) i))], [(0, some (.row t7 l0 false))], 1, []⟩
noncomputable def spigotref19_Twin.L2 (l : (List t7.den)) (i : Int) (l0 : (List t7.den)) : Option ((List t7.den) × Unit) := res spigotref19_Twin.c (atJoin spigotref19_Twin.b [1, 1, 0, 1, 0, 0, 0, 1]) (spigotref19_Twin.S2 l i l0)
theorem spigotref19_Twin.spec : FnSpec Try.prog globs 17 spigotref19_Twin.Fn := spec_of (E := spigotref19_Twin.E) (envOk_at tabOk eqOk primsOk (.cons spigotref18_Twin.spec <| .nil)) mixOk Try.func17 (by kernel_rfl)
theorem spigotref19_Twin.L1_eq (l : (List t7.den)) (i : Int) (l0 : (List t7.den)) : spigotref19_Twin.L1 l i l0 =
  bif (decide ((i : Int) < ((List.length l : Int)))) then
    spigotref19_Twin.L2 l i l0
  else
    some (l0, ()) := res_eq (by kernel_rfl)
theorem spigotref19_Twin.L2_eq (l : (List t7.den)) (i : Int) (l0 : (List t7.den)) : spigotref19_Twin.L2 l i l0 =
  bif (decide ((0 : Int) ≤ i ∧ (i : Int) < ((List.length l : Int)))) then
    (spigotref18_Twin.F (List.getD l (Int.toNat i) (0, (List.replicate 3 (0, 0, 0, ())), ((0, 0, 0, ()), 0, 0, 0, ()), (0, ([] : List Int), ([] : List t1.den), (([] : List Int), ([] : List Bool), 0, ()), ([] : List t3.den), (([] : List Int), ([] : List Int), 0, 0, ()), ()), (0, ([] : List Int), ([] : List t1.den), (([] : List Int), ([] : List Bool), 0, ()), ([] : List t3.den), (([] : List Int), ([] : List Int), 0, 0, ()), ()), ([] : List Int), (0, 0, 0, ()), ()))).bind fun r0 =>
    bif (lim ((List.length l0) + (List.length ([r0.1] : List t7.den))) t7) then
      spigotref19_Twin.L1 l (IntKind.wrap .i64 (i + 1)) (l0 ++ ([r0.1] : List t7.den))
    else none
  else none := res_eq (by kernel_rfl)
theorem spigotref19_Twin.F_eq (l : (List t7.den)) : spigotref19_Twin.F l =
  spigotref19_Twin.L1 l 0 ([] : List t7.den) := by kernel_rfl
/-! ### spigot/spigotref19.At (40) -/
noncomputable def spigotref19_At.sg : Sig := ⟨[.val (.slice t7), .val (.int .u32)], [((.int .i64), true)]⟩
noncomputable def spigotref19_At.E : Env := ⟨tl, fun i => look i [], [], eqs, globs, prims⟩
noncomputable def spigotref19_At.c := cxOf spigotref19_At.E spigotref19_At.sg Try.f40
noncomputable def spigotref19_At.b := body Try.f40
noncomputable def spigotref19_At.Fn : Fun := fnOf spigotref19_At.E spigotref19_At.sg Try.f40
noncomputable def spigotref19_At.F (l : (List t7.den)) (tenant : Int) : Option (Int × Unit) := spigotref19_At.Fn.F (l, tenant, ())
noncomputable def spigotref19_At.S1 (l : (List t7.den)) (tenant : Int) (i : Int) : St := ⟨[(0, (.v (.slice t7) l)), (1, (.v (.int .u32) tenant)), (5, (.v (.int .i64) i))], [], 0, []⟩
noncomputable def spigotref19_At.L1 (l : (List t7.den)) (tenant : Int) (i : Int) : Option (Int × Unit) := res spigotref19_At.c (atLoop spigotref19_At.b [1, 0, 1, 0]) (spigotref19_At.S1 l tenant i)
noncomputable def spigotref19_At.S2 (l : (List t7.den)) (tenant : Int) (i : Int) : St := ⟨[(0, (.v (.slice t7) l)), (1, (.v (.int .u32) tenant)), (5, (.v (.int .i64) i))], [], 0, []⟩
noncomputable def spigotref19_At.L2 (l : (List t7.den)) (tenant : Int) (i : Int) : Option (Int × Unit) := res spigotref19_At.c (atJoin spigotref19_At.b [1, 0, 1, 0, 0, 0, 1]) (spigotref19_At.S2 l tenant i)
noncomputable def spigotref19_At.S3 (l : (List t7.den)) (tenant : Int) (i : Int) : St := ⟨[(0, (.v (.slice t7) l)), (1, (.v (.int .u32) tenant)), (5, (.v (.int .i64) i))], [], 0, []⟩
noncomputable def spigotref19_At.L3 (l : (List t7.den)) (tenant : Int) (i : Int) : Option (Int × Unit) := res spigotref19_At.c (atJoin spigotref19_At.b [1, 0, 1, 0, 0, 1, 0, 0, 1]) (spigotref19_At.S3 l tenant i)
theorem spigotref19_At.spec : FnSpec Try.prog globs 40 spigotref19_At.Fn := spec_of (E := spigotref19_At.E) (envOk_at tabOk eqOk primsOk (.nil)) mixOk Try.func40 (by kernel_rfl)
theorem spigotref19_At.L1_eq (l : (List t7.den)) (tenant : Int) (i : Int) : spigotref19_At.L1 l tenant i =
  bif (decide ((i : Int) < ((List.length l : Int)))) then
    spigotref19_At.L2 l tenant i
  else
    some ((-1), ()) := res_eq (by kernel_rfl)
theorem spigotref19_At.L2_eq (l : (List t7.den)) (tenant : Int) (i : Int) : spigotref19_At.L2 l tenant i =
  bif (decide ((0 : Int) ≤ i ∧ (i : Int) < ((List.length l : Int)))) then
    bif ((List.getD l (Int.toNat i) (0, (List.replicate 3 (0, 0, 0, ())), ((0, 0, 0, ()), 0, 0, 0, ()), (0, ([] : List Int), ([] : List t1.den), (([] : List Int), ([] : List Bool), 0, ()), ([] : List t3.den), (([] : List Int), ([] : List Int), 0, 0, ()), ()), (0, ([] : List Int), ([] : List t1.den), (([] : List Int), ([] : List Bool), 0, ()), ([] : List t3.den), (([] : List Int), ([] : List Int), 0, 0, ()), ()), ([] : List Int), (0, 0, 0, ()), ())).1 == tenant) then
      some (i, ())
    else
      spigotref19_At.L3 l tenant i
  else none := res_eq (by kernel_rfl)
theorem spigotref19_At.L3_eq (l : (List t7.den)) (tenant : Int) (i : Int) : spigotref19_At.L3 l tenant i =
  spigotref19_At.L1 l tenant (IntKind.wrap .i64 (i + 1)) := res_eq (by kernel_rfl)
theorem spigotref19_At.F_eq (l : (List t7.den)) (tenant : Int) : spigotref19_At.F l tenant =
  spigotref19_At.L1 l tenant 0 := by kernel_rfl
/-! ### spigot/spigotref19.Without (42) -/
noncomputable def spigotref19_Without.sg : Sig := ⟨[.val (.slice t7), .val (.int .u32)], [((.slice t7), true)]⟩
noncomputable def spigotref19_Without.E : Env := ⟨tl, fun i => look i [(39, spigotref18_Twin.Fn)], [], eqs, globs, prims⟩
noncomputable def spigotref19_Without.c := cxOf spigotref19_Without.E spigotref19_Without.sg Try.f42
noncomputable def spigotref19_Without.b := body Try.f42
noncomputable def spigotref19_Without.Fn : Fun := fnOf spigotref19_Without.E spigotref19_Without.sg Try.f42
noncomputable def spigotref19_Without.F (l : (List t7.den)) (tenant : Int) : Option ((List t7.den) × Unit) := spigotref19_Without.Fn.F (l, tenant, ())
noncomputable def spigotref19_Without.S1 (l : (List t7.den)) (tenant : Int) (i : Int) (l0 : (List t7.den)) : St := ⟨[(0, (.v (.slice t7) l)), (1, (.v (.int .u32) tenant)), (5, (.sl 0)), (6, (.v (.int .i64) i))], [(0, some (.row t7 l0 false))], 1, []⟩
noncomputable def spigotref19_Without.L1 (l : (List t7.den)) (tenant : Int) (i : Int) (l0 : (List t7.den)) : Option ((List t7.den) × Unit) := res spigotref19_Without.c (atLoop spigotref19_Without.b [1, 1, 0, 1, 0]) (spigotref19_Without.S1 l tenant i l0)
noncomputable def spigotref19_Without.S2 (l : (List t7.den)) (tenant : Int) (i : Int) (l0 : (List t7.den)) : St := ⟨[(0, (.v (.slice t7) l)), (1, (.v (.int .u32) tenant)), (5, (.sl 0)), (6, (.v (.int .i64) i))], [(0, some (.row t7 l0 false))], 1, []⟩
noncomputable def spigotref19_Without.L2 (l : (List t7.den)) (tenant : Int) (i : Int) (l0 : (List t7.den)) : Option ((List t7.den) × Unit) := res spigotref19_Without.c (atJoin spigotref19_Without.b [1, 1, 0, 1, 0, 0, 0, 1]) (spigotref19_Without.S2 l tenant i l0)
noncomputable def spigotref19_Without.S3 (l : (List t7.den)) (tenant : Int) (i : Int) (l0 : (List t7.den)) : St := ⟨[(0, (.v (.slice t7) l)), (1, (.v (.int .u32) tenant)), (5, (.sl 0)), (6, (.v (.int .i64) i))], [(0, some (.row t7 l0 false))], 1, []⟩
noncomputable def spigotref19_Without.L3 (l : (List t7.den)) (tenant : Int) (i : Int) (l0 : (List t7.den)) : Option ((List t7.den) × Unit) := res spigotref19_Without.c (atJoin spigotref19_Without.b [1, 1, 0, 1, 0, 0, 1, 0, 0, 1]) (spigotref19_Without.S3 l tenant i l0)
theorem spigotref19_Without.spec : FnSpec Try.prog globs 42 spigotref19_Without.Fn := spec_of (E := spigotref19_Without.E) (envOk_at tabOk eqOk primsOk (.cons spigotref18_Twin.spec <| .nil)) mixOk Try.func42 (by kernel_rfl)
theorem spigotref19_Without.L1_eq (l : (List t7.den)) (tenant : Int) (i : Int) (l0 : (List t7.den)) : spigotref19_Without.L1 l tenant i l0 =
  bif (decide ((i : Int) < ((List.length l : Int)))) then
    spigotref19_Without.L2 l tenant i l0
  else
    some (l0, ()) := res_eq (by kernel_rfl)
theorem spigotref19_Without.L2_eq (l : (List t7.den)) (tenant : Int) (i : Int) (l0 : (List t7.den)) : spigotref19_Without.L2 l tenant i l0 =
  bif (decide ((0 : Int) ≤ i ∧ (i : Int) < ((List.length l : Int)))) then
    bif ((List.getD l (Int.toNat i) (0, (List.replicate 3 (0, 0, 0, ())), ((0, 0, 0, ()), 0, 0, 0, ()), (0, ([] : List Int), ([] : List t1.den), (([] : List Int), ([] : List Bool), 0, ()), ([] : List t3.den), (([] : List Int), ([] : List Int), 0, 0, ()), ()), (0, ([] : List Int), ([] : List t1.den), (([] : List Int), ([] : List Bool), 0, ()), ([] : List t3.den), (([] : List Int), ([] : List Int), 0, 0, ()), ()), ([] : List Int), (0, 0, 0, ()), ())).1 != tenant) then
      bif (decide ((0 : Int) ≤ i ∧ (i : Int) < ((List.length l : Int)))) then
        (spigotref18_Twin.F (List.getD l (Int.toNat i) (0, (List.replicate 3 (0, 0, 0, ())), ((0, 0, 0, ()), 0, 0, 0, ()), (0, ([] : List Int), ([] : List t1.den), (([] : List Int), ([] : List Bool), 0, ()), ([] : List t3.den), (([] : List Int), ([] : List Int), 0, 0, ()), ()), (0, ([] : List Int), ([] : List t1.den), (([] : List Int), ([] : List Bool), 0, ()), ([] : List t3.den), (([] : List Int), ([] : List Int), 0, 0, ()), ()), ([] : List Int), (0, 0, 0, ()), ()))).bind fun r0 =>
        bif (lim ((List.length l0) + (List.length ([r0.1] : List t7.den))) t7) then
          spigotref19_Without.L3 l tenant i (l0 ++ ([r0.1] : List t7.den))
        else none
      else none
    else
      spigotref19_Without.L3 l tenant i l0
  else none := res_eq (by kernel_rfl)
theorem spigotref19_Without.L3_eq (l : (List t7.den)) (tenant : Int) (i : Int) (l0 : (List t7.den)) : spigotref19_Without.L3 l tenant i l0 =
  spigotref19_Without.L1 l tenant (IntKind.wrap .i64 (i + 1)) l0 := res_eq (by kernel_rfl)
theorem spigotref19_Without.F_eq (l : (List t7.den)) (tenant : Int) : spigotref19_Without.F l tenant =
  spigotref19_Without.L1 l tenant 0 ([] : List t7.den) := by kernel_rfl
end Go.Proofs.Ytjmgelpeonodgaa.PM
