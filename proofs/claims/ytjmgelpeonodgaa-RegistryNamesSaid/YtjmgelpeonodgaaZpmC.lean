/- Contracts and equations of the functions, printed by a program of this session. -/
import Derived.Test.YtjmgelpeonodgaaChk
namespace Go.Proofs.Ytjmgelpeonodgaa.PM
open Go Go.Proofs
set_option linter.unusedVariables false
/-! ### spigot/registry.Check (26) -/
noncomputable def registry_Check.sg : Sig := ⟨[.val (.slice t7)], [((.int .i64), true)]⟩
noncomputable def registry_Check.E : Env := ⟨tl, fun i => look i [(32, part_Check.Fn)], [], eqs, globs, prims⟩
noncomputable def registry_Check.c := cxOf registry_Check.E registry_Check.sg Try.f26
noncomputable def registry_Check.b := body Try.f26
noncomputable def registry_Check.Fn : Fun := fnOf registry_Check.E registry_Check.sg Try.f26
noncomputable def registry_Check.F (l : (List t7.den)) : Option (Int × Unit) := registry_Check.Fn.F (l, ())
noncomputable def registry_Check.S1 (l : (List t7.den)) : St := ⟨[(0, (.v (.slice t7) l))], [], 0, []⟩
noncomputable def registry_Check.L1 (l : (List t7.den)) : Option (Int × Unit) := res registry_Check.c (atJoin registry_Check.b [1, 0, 1]) (registry_Check.S1 l)
noncomputable def registry_Check.S2 (l : (List t7.den)) (t9_ : Int) (t10_ : Int) : St := ⟨[(0, (.v (.slice t7) l)), (8, (.v (.slice t7) l)), (9, (.v (.int .i64) t9_)), (10, (.v (.int .i64) t10_))], [], 0, []⟩
noncomputable def registry_Check.L2 (l : (List t7.den)) (t9_ : Int) (t10_ : Int) : Option (Int × Unit) := res registry_Check.c (atLoop registry_Check.b [1, 1, 0, 1, 0]) (registry_Check.S2 l t9_ t10_)
noncomputable def registry_Check.S3 (l : (List t7.den)) (t9_ : Int) (t10_ : Int) : St := ⟨[(0, (.v (.slice t7) l)), (8, (.v (.slice t7) l)), (9, (.v (.int .i64) t9_)), (10, (.v (.int .i64) t10_))], [], 0, []⟩
noncomputable def registry_Check.L3 (l : (List t7.den)) (t9_ : Int) (t10_ : Int) : Option (Int × Unit) := res registry_Check.c (atJoin registry_Check.b [1, 1, 0, 1, 0, 0, 1, 0]) (registry_Check.S3 l t9_ t10_)
noncomputable def registry_Check.S4 (l : (List t7.den)) (t9_ : Int) (t10_ : Int) : St := ⟨[(0, (.v (.slice t7) l)), (8, (.v (.slice t7) l)), (9, (.v (.int .i64) t9_)), (10, (.v (.int .i64) t10_))], [], 0, []⟩
noncomputable def registry_Check.L4 (l : (List t7.den)) (t9_ : Int) (t10_ : Int) : Option (Int × Unit) := res registry_Check.c (atJoin registry_Check.b [1, 1, 0, 1, 0, 0, 1, 1, 0, 0, 1, 1]) (registry_Check.S4 l t9_ t10_)
theorem registry_Check.spec : FnSpec Try.prog globs 26 registry_Check.Fn := spec_of (E := registry_Check.E) (envOk_at tabOk eqOk primsOk (.cons part_Check.spec <| .nil)) mixOk Try.func26 (by kernel_rfl)
theorem registry_Check.L1_eq (l : (List t7.den)) : registry_Check.L1 l =
  registry_Check.L2 l ((List.length l : Int)) 0 := res_eq (by kernel_rfl)
theorem registry_Check.L2_eq (l : (List t7.den)) (t9_ : Int) (t10_ : Int) : registry_Check.L2 l t9_ t10_ =
  bif (decide ((t10_ : Int) < t9_)) then
    registry_Check.L3 l t9_ t10_
  else
    some (0, ()) := res_eq (by kernel_rfl)
theorem registry_Check.L3_eq (l : (List t7.den)) (t9_ : Int) (t10_ : Int) : registry_Check.L3 l t9_ t10_ =
  bif (decide ((0 : Int) ≤ t10_ ∧ (t10_ : Int) < ((List.length l : Int)))) then
    (part_Check.F (List.getD l (Int.toNat t10_) (0, (List.replicate 3 (0, 0, 0, ())), ((0, 0, 0, ()), 0, 0, 0, ()), (0, ([] : List Int), ([] : List t1.den), (([] : List Int), ([] : List Bool), 0, ()), ([] : List t3.den), (([] : List Int), ([] : List Int), 0, 0, ()), ()), (0, ([] : List Int), ([] : List t1.den), (([] : List Int), ([] : List Bool), 0, ()), ([] : List t3.den), (([] : List Int), ([] : List Int), 0, 0, ()), ()), ([] : List Int), (0, 0, 0, ()), ()))).bind fun r0 =>
    bif (r0.1 != 0) then
      some (8, ())
    else
      bif (decide ((t10_ : Int) > 0)) then
        bif (decide ((0 : Int) ≤ (IntKind.wrap .i64 (t10_ - 1)) ∧ ((IntKind.wrap .i64 (t10_ - 1)) : Int) < ((List.length l : Int)))) then
          bif (decide ((((List.getD l (Int.toNat (IntKind.wrap .i64 (t10_ - 1))) (0, (List.replicate 3 (0, 0, 0, ())), ((0, 0, 0, ()), 0, 0, 0, ()), (0, ([] : List Int), ([] : List t1.den), (([] : List Int), ([] : List Bool), 0, ()), ([] : List t3.den), (([] : List Int), ([] : List Int), 0, 0, ()), ()), (0, ([] : List Int), ([] : List t1.den), (([] : List Int), ([] : List Bool), 0, ()), ([] : List t3.den), (([] : List Int), ([] : List Int), 0, 0, ()), ()), ([] : List Int), (0, 0, 0, ()), ())).1) : Int) ≥ ((List.getD l (Int.toNat t10_) (0, (List.replicate 3 (0, 0, 0, ())), ((0, 0, 0, ()), 0, 0, 0, ()), (0, ([] : List Int), ([] : List t1.den), (([] : List Int), ([] : List Bool), 0, ()), ([] : List t3.den), (([] : List Int), ([] : List Int), 0, 0, ()), ()), (0, ([] : List Int), ([] : List t1.den), (([] : List Int), ([] : List Bool), 0, ()), ([] : List t3.den), (([] : List Int), ([] : List Int), 0, 0, ()), ()), ([] : List Int), (0, 0, 0, ()), ())).1))) then
            some (8, ())
          else
            registry_Check.L4 l t9_ t10_
        else none
      else
        registry_Check.L4 l t9_ t10_
  else none := res_eq (by kernel_rfl)
theorem registry_Check.L4_eq (l : (List t7.den)) (t9_ : Int) (t10_ : Int) : registry_Check.L4 l t9_ t10_ =
  registry_Check.L2 l t9_ (IntKind.wrap .i64 (t10_ + 1)) := res_eq (by kernel_rfl)
theorem registry_Check.F_eq (l : (List t7.den)) : registry_Check.F l =
  bif (decide ((((List.length l : Int)) : Int) > 8)) then
    some (4, ())
  else
    registry_Check.L1 l := by kernel_rfl
/-! ### cmp.isNaN[uint32] (81) -/
noncomputable def cmp_isNaN.sg : Sig := ⟨[.val (.int .u32)], [(.bool, true)]⟩
noncomputable def cmp_isNaN.E : Env := ⟨tl, fun i => look i [], [], eqs, globs, prims⟩
noncomputable def cmp_isNaN.c := cxOf cmp_isNaN.E cmp_isNaN.sg Try.f81
noncomputable def cmp_isNaN.b := body Try.f81
noncomputable def cmp_isNaN.Fn : Fun := fnOf cmp_isNaN.E cmp_isNaN.sg Try.f81
noncomputable def cmp_isNaN.F (x : Int) : Option (Bool × Unit) := cmp_isNaN.Fn.F (x, ())
theorem cmp_isNaN.spec : FnSpec Try.prog globs 81 cmp_isNaN.Fn := spec_of (E := cmp_isNaN.E) (envOk_at tabOk eqOk primsOk (.nil)) mixOk Try.func81 (by kernel_rfl)
theorem cmp_isNaN.F_eq (x : Int) : cmp_isNaN.F x =
  some ((x != x), ()) := by kernel_rfl
/-! ### cmp.Compare[uint32] (53) -/
noncomputable def cmp_Compare.sg : Sig := ⟨[.val (.int .u32), .val (.int .u32)], [((.int .i64), true)]⟩
noncomputable def cmp_Compare.E : Env := ⟨tl, fun i => look i [(81, cmp_isNaN.Fn)], [], eqs, globs, prims⟩
noncomputable def cmp_Compare.c := cxOf cmp_Compare.E cmp_Compare.sg Try.f53
noncomputable def cmp_Compare.b := body Try.f53
noncomputable def cmp_Compare.Fn : Fun := fnOf cmp_Compare.E cmp_Compare.sg Try.f53
noncomputable def cmp_Compare.F (x : Int) (y : Int) : Option (Int × Unit) := cmp_Compare.Fn.F (x, y, ())
noncomputable def cmp_Compare.S1 : St := ⟨[], [], 0, []⟩
noncomputable def cmp_Compare.L1 : Option (Int × Unit) := res cmp_Compare.c (atJoin cmp_Compare.b [1, 1, 1, 0, 1, 0, 0, 1]) (cmp_Compare.S1)
noncomputable def cmp_Compare.S2 (x : Int) (y : Int) (yNaN : Bool) : St := ⟨[(0, (.v (.int .u32) x)), (1, (.v (.int .u32) y)), (6, (.v .bool yNaN))], [], 0, []⟩
noncomputable def cmp_Compare.L2 (x : Int) (y : Int) (yNaN : Bool) : Option (Int × Unit) := res cmp_Compare.c (atJoin cmp_Compare.b [1, 1, 1, 0, 1]) (cmp_Compare.S2 x y yNaN)
noncomputable def cmp_Compare.S3 (x : Int) (y : Int) : St := ⟨[(0, (.v (.int .u32) x)), (1, (.v (.int .u32) y))], [], 0, []⟩
noncomputable def cmp_Compare.L3 (x : Int) (y : Int) : Option (Int × Unit) := res cmp_Compare.c (atJoin cmp_Compare.b [1, 1, 1, 1, 0, 1]) (cmp_Compare.S3 x y)
noncomputable def cmp_Compare.S4 (x : Int) (y : Int) : St := ⟨[(0, (.v (.int .u32) x)), (1, (.v (.int .u32) y))], [], 0, []⟩
noncomputable def cmp_Compare.L4 (x : Int) (y : Int) : Option (Int × Unit) := res cmp_Compare.c (atJoin cmp_Compare.b [1, 1, 1, 1, 1, 0, 1]) (cmp_Compare.S4 x y)
noncomputable def cmp_Compare.S5 : St := ⟨[], [], 0, []⟩
noncomputable def cmp_Compare.L5 : Option (Int × Unit) := res cmp_Compare.c (atJoin cmp_Compare.b [1, 1, 1, 1, 1, 1, 0, 1]) (cmp_Compare.S5)
theorem cmp_Compare.spec : FnSpec Try.prog globs 53 cmp_Compare.Fn := spec_of (E := cmp_Compare.E) (envOk_at tabOk eqOk primsOk (.cons cmp_isNaN.spec <| .nil)) mixOk Try.func53 (by kernel_rfl)
theorem cmp_Compare.L1_eq : cmp_Compare.L1 =
  some ((-1), ()) := res_eq (by kernel_rfl)
theorem cmp_Compare.L2_eq (x : Int) (y : Int) (yNaN : Bool) : cmp_Compare.L2 x y yNaN =
  bif yNaN then
    some (1, ())
  else
    cmp_Compare.L3 x y := res_eq (by kernel_rfl)
theorem cmp_Compare.L3_eq (x : Int) (y : Int) : cmp_Compare.L3 x y =
  bif (decide ((x : Int) < y)) then
    some ((-1), ())
  else
    cmp_Compare.L4 x y := res_eq (by kernel_rfl)
theorem cmp_Compare.L4_eq (x : Int) (y : Int) : cmp_Compare.L4 x y =
  bif (decide ((x : Int) > y)) then
    some (1, ())
  else
    cmp_Compare.L5 := res_eq (by kernel_rfl)
theorem cmp_Compare.L5_eq : cmp_Compare.L5 =
  some (0, ()) := res_eq (by kernel_rfl)
theorem cmp_Compare.F_eq (x : Int) (y : Int) : cmp_Compare.F x y =
  (cmp_isNaN.F x).bind fun r0 =>
  (cmp_isNaN.F y).bind fun r1 =>
  bif r0.1 then
    bif r1.1 then
      some (0, ())
    else
      cmp_Compare.L1
  else
    cmp_Compare.L2 x y r1.1 := by kernel_rfl
/-! ### spigot/registry.find$1 (52) -/
noncomputable def registry_find_1.sg : Sig := ⟨[.val t7, .val (.int .u32)], [((.int .i64), true)]⟩
noncomputable def registry_find_1.E : Env := ⟨tl, fun i => look i [(53, cmp_Compare.Fn)], [], eqs, globs, prims⟩
noncomputable def registry_find_1.c := cxOf registry_find_1.E registry_find_1.sg Try.f52
noncomputable def registry_find_1.b := body Try.f52
noncomputable def registry_find_1.Fn : Fun := fnOf registry_find_1.E registry_find_1.sg Try.f52
noncomputable def registry_find_1.F (p : t7.den) (t : Int) : Option (Int × Unit) := registry_find_1.Fn.F (p, t, ())
theorem registry_find_1.spec : FnSpec Try.prog globs 52 registry_find_1.Fn := spec_of (E := registry_find_1.E) (envOk_at tabOk eqOk primsOk (.cons cmp_Compare.spec <| .nil)) mixOk Try.func52 (by kernel_rfl)
theorem registry_find_1.F_eq (p : t7.den) (t : Int) : registry_find_1.F p t =
  (cmp_Compare.F p.1 t).bind fun r0 =>
  some (r0.1, ()) := by kernel_rfl
/-! ### slices.BinarySearchFunc[[]spigot/api.Part,spigot/api.Part,uint32] (51) -/
noncomputable def slices_BinarySearchFunc.sg : Sig := ⟨[.val (.slice t7), .val (.int .u32), .fn 52], [((.int .i64), true), (.bool, true)]⟩
noncomputable def slices_BinarySearchFunc.E : Env := ⟨tl, fun i => look i [(52, registry_find_1.Fn)], [], eqs, globs, prims⟩
noncomputable def slices_BinarySearchFunc.c := cxOf slices_BinarySearchFunc.E slices_BinarySearchFunc.sg Try.f51
noncomputable def slices_BinarySearchFunc.b := body Try.f51
noncomputable def slices_BinarySearchFunc.Fn : Fun := fnOf slices_BinarySearchFunc.E slices_BinarySearchFunc.sg Try.f51
noncomputable def slices_BinarySearchFunc.F (x : (List t7.den)) (target : Int) : Option (Int × Bool × Unit) := slices_BinarySearchFunc.Fn.F (x, target, ())
noncomputable def slices_BinarySearchFunc.S1 (x : (List t7.den)) (target : Int) (n : Int) (i : Int) (j : Int) : St := ⟨[(0, (.v (.slice t7) x)), (1, (.v (.int .u32) target)), (2, (.fn 52 [])), (8, (.v (.int .i64) n)), (9, (.v (.int .i64) i)), (10, (.v (.int .i64) j))], [], 0, []⟩
noncomputable def slices_BinarySearchFunc.L1 (x : (List t7.den)) (target : Int) (n : Int) (i : Int) (j : Int) : Option (Int × Bool × Unit) := res slices_BinarySearchFunc.c (atLoop slices_BinarySearchFunc.b [1, 1, 1, 0, 0]) (slices_BinarySearchFunc.S1 x target n i j)
noncomputable def slices_BinarySearchFunc.S2 (x : (List t7.den)) (target : Int) (n : Int) (i : Int) (j : Int) : St := ⟨[(0, (.v (.slice t7) x)), (1, (.v (.int .u32) target)), (2, (.fn 52 [])), (8, (.v (.int .i64) n)), (9, (.v (.int .i64) i)), (10, (.v (.int .i64) j))], [], 0, []⟩
noncomputable def slices_BinarySearchFunc.L2 (x : (List t7.den)) (target : Int) (n : Int) (i : Int) (j : Int) : Option (Int × Bool × Unit) := res slices_BinarySearchFunc.c (atJoin slices_BinarySearchFunc.b [1, 1, 1, 0, 0, 0, 0, 1]) (slices_BinarySearchFunc.S2 x target n i j)
noncomputable def slices_BinarySearchFunc.S3 (x : (List t7.den)) (target : Int) (n : Int) (i : Int) (j : Int) : St := ⟨[(0, (.v (.slice t7) x)), (1, (.v (.int .u32) target)), (2, (.fn 52 [])), (8, (.v (.int .i64) n)), (9, (.v (.int .i64) i)), (10, (.v (.int .i64) j))], [], 0, []⟩
noncomputable def slices_BinarySearchFunc.L3 (x : (List t7.den)) (target : Int) (n : Int) (i : Int) (j : Int) : Option (Int × Bool × Unit) := res slices_BinarySearchFunc.c (atJoin slices_BinarySearchFunc.b [1, 1, 1, 0, 0, 0, 1, 0, 1, 1]) (slices_BinarySearchFunc.S3 x target n i j)
theorem slices_BinarySearchFunc.spec : FnSpec Try.prog globs 51 slices_BinarySearchFunc.Fn := spec_of (E := slices_BinarySearchFunc.E) (envOk_at tabOk eqOk primsOk (.cons registry_find_1.spec <| .nil)) mixOk Try.func51 (by kernel_rfl)
theorem slices_BinarySearchFunc.L1_eq (x : (List t7.den)) (target : Int) (n : Int) (i : Int) (j : Int) : slices_BinarySearchFunc.L1 x target n i j =
  bif (decide ((i : Int) < j)) then
    slices_BinarySearchFunc.L2 x target n i j
  else
    bif (decide ((i : Int) < n)) then
      bif (decide ((0 : Int) ≤ i ∧ (i : Int) < ((List.length x : Int)))) then
        (registry_find_1.F (List.getD x (Int.toNat i) (0, (List.replicate 3 (0, 0, 0, ())), ((0, 0, 0, ()), 0, 0, 0, ()), (0, ([] : List Int), ([] : List t1.den), (([] : List Int), ([] : List Bool), 0, ()), ([] : List t3.den), (([] : List Int), ([] : List Int), 0, 0, ()), ()), (0, ([] : List Int), ([] : List t1.den), (([] : List Int), ([] : List Bool), 0, ()), ([] : List t3.den), (([] : List Int), ([] : List Int), 0, 0, ()), ()), ([] : List Int), (0, 0, 0, ()), ())) target).bind fun r0 =>
        some (i, (r0.1 == 0), ())
      else none
    else
      some (i, false, ()) := res_eq (by kernel_rfl)
theorem slices_BinarySearchFunc.L2_eq (x : (List t7.den)) (target : Int) (n : Int) (i : Int) (j : Int) : slices_BinarySearchFunc.L2 x target n i j =
  bif (decide ((0 : Int) ≤ 1)) then
    bif (decide ((0 : Int) ≤ (IntKind.wrap .i64 (Int.fdiv (IntKind.wrap .u64 (IntKind.wrap .i64 (i + j))) (2 ^ min (Int.toNat 1) (IntKind.bits .u64)))) ∧ ((IntKind.wrap .i64 (Int.fdiv (IntKind.wrap .u64 (IntKind.wrap .i64 (i + j))) (2 ^ min (Int.toNat 1) (IntKind.bits .u64)))) : Int) < ((List.length x : Int)))) then
      (registry_find_1.F (List.getD x (Int.toNat (IntKind.wrap .i64 (Int.fdiv (IntKind.wrap .u64 (IntKind.wrap .i64 (i + j))) (2 ^ min (Int.toNat 1) (IntKind.bits .u64))))) (0, (List.replicate 3 (0, 0, 0, ())), ((0, 0, 0, ()), 0, 0, 0, ()), (0, ([] : List Int), ([] : List t1.den), (([] : List Int), ([] : List Bool), 0, ()), ([] : List t3.den), (([] : List Int), ([] : List Int), 0, 0, ()), ()), (0, ([] : List Int), ([] : List t1.den), (([] : List Int), ([] : List Bool), 0, ()), ([] : List t3.den), (([] : List Int), ([] : List Int), 0, 0, ()), ()), ([] : List Int), (0, 0, 0, ()), ())) target).bind fun r0 =>
      bif (decide ((r0.1 : Int) < 0)) then
        slices_BinarySearchFunc.L3 x target n (IntKind.wrap .i64 ((IntKind.wrap .i64 (Int.fdiv (IntKind.wrap .u64 (IntKind.wrap .i64 (i + j))) (2 ^ min (Int.toNat 1) (IntKind.bits .u64)))) + 1)) j
      else
        slices_BinarySearchFunc.L3 x target n i (IntKind.wrap .i64 (Int.fdiv (IntKind.wrap .u64 (IntKind.wrap .i64 (i + j))) (2 ^ min (Int.toNat 1) (IntKind.bits .u64))))
    else none
  else none := res_eq (by kernel_rfl)
theorem slices_BinarySearchFunc.L3_eq (x : (List t7.den)) (target : Int) (n : Int) (i : Int) (j : Int) : slices_BinarySearchFunc.L3 x target n i j =
  slices_BinarySearchFunc.L1 x target n i j := res_eq (by kernel_rfl)
theorem slices_BinarySearchFunc.F_eq (x : (List t7.den)) (target : Int) : slices_BinarySearchFunc.F x target =
  slices_BinarySearchFunc.L1 x target ((List.length x : Int)) 0 ((List.length x : Int)) := by kernel_rfl
/-! ### spigot/registry.find (33) -/
noncomputable def registry_find.sg : Sig := ⟨[.val (.slice t7), .val (.int .u32)], [((.int .i64), true), (.bool, true)]⟩
noncomputable def registry_find.E : Env := ⟨tl, fun i => look i [(51, slices_BinarySearchFunc.Fn), (52, registry_find_1.Fn)], [], eqs, globs, prims⟩
noncomputable def registry_find.c := cxOf registry_find.E registry_find.sg Try.f33
noncomputable def registry_find.b := body Try.f33
noncomputable def registry_find.Fn : Fun := fnOf registry_find.E registry_find.sg Try.f33
noncomputable def registry_find.F (l : (List t7.den)) (tenant : Int) : Option (Int × Bool × Unit) := registry_find.Fn.F (l, tenant, ())
theorem registry_find.spec : FnSpec Try.prog globs 33 registry_find.Fn := spec_of (E := registry_find.E) (envOk_at tabOk eqOk primsOk (.cons slices_BinarySearchFunc.spec <| .cons registry_find_1.spec <| .nil)) mixOk Try.func33 (by kernel_rfl)
theorem registry_find.F_eq (l : (List t7.den)) (tenant : Int) : registry_find.F l tenant =
  (slices_BinarySearchFunc.F l tenant).bind fun r0 =>
  some (r0.1, r0.2.1, ()) := by kernel_rfl
/-! ### spigot/registry.Find (13) -/
noncomputable def registry_Find.sg : Sig := ⟨[.val (.slice t7), .val (.int .u32)], [((.int .i64), true), ((.int .i64), true)]⟩
noncomputable def registry_Find.E : Env := ⟨tl, fun i => look i [(26, registry_Check.Fn), (33, registry_find.Fn)], [], eqs, globs, prims⟩
noncomputable def registry_Find.c := cxOf registry_Find.E registry_Find.sg Try.f13
noncomputable def registry_Find.b := body Try.f13
noncomputable def registry_Find.Fn : Fun := fnOf registry_Find.E registry_Find.sg Try.f13
noncomputable def registry_Find.F (l : (List t7.den)) (tenant : Int) : Option (Int × Int × Unit) := registry_Find.Fn.F (l, tenant, ())
noncomputable def registry_Find.S1 (l : (List t7.den)) (tenant : Int) : St := ⟨[(0, (.v (.slice t7) l)), (1, (.v (.int .u32) tenant))], [], 0, []⟩
noncomputable def registry_Find.L1 (l : (List t7.den)) (tenant : Int) : Option (Int × Int × Unit) := res registry_Find.c (atJoin registry_Find.b [1, 0, 1, 1]) (registry_Find.S1 l tenant)
noncomputable def registry_Find.S2 (i : Int) : St := ⟨[(7, (.v (.int .i64) i))], [], 0, []⟩
noncomputable def registry_Find.L2 (i : Int) : Option (Int × Int × Unit) := res registry_Find.c (atJoin registry_Find.b [1, 1, 1, 0, 1]) (registry_Find.S2 i)
theorem registry_Find.spec : FnSpec Try.prog globs 13 registry_Find.Fn := spec_of (E := registry_Find.E) (envOk_at tabOk eqOk primsOk (.cons registry_Check.spec <| .cons registry_find.spec <| .nil)) mixOk Try.func13 (by kernel_rfl)
theorem registry_Find.L1_eq (l : (List t7.den)) (tenant : Int) : registry_Find.L1 l tenant =
  (registry_find.F l tenant).bind fun r0 =>
  bif (!r0.2.1) then
    some (0, 6, ())
  else
    registry_Find.L2 r0.1 := res_eq (by kernel_rfl)
theorem registry_Find.L2_eq (i : Int) : registry_Find.L2 i =
  some (i, 0, ()) := res_eq (by kernel_rfl)
theorem registry_Find.F_eq (l : (List t7.den)) (tenant : Int) : registry_Find.F l tenant =
  (registry_Check.F l).bind fun r0 =>
  bif (r0.1 != 0) then
    some (0, r0.1, ())
  else
    registry_Find.L1 l tenant := by kernel_rfl
/-! ### spigot/registry.twin (56) -/
noncomputable def registry_twin.sg : Sig := ⟨[.val t5], [(t5, true)]⟩
noncomputable def registry_twin.E : Env := ⟨tl, fun i => look i [], [], eqs, globs, prims⟩
noncomputable def registry_twin.c := cxOf registry_twin.E registry_twin.sg Try.f56
noncomputable def registry_twin.b := body Try.f56
noncomputable def registry_twin.Fn : Fun := fnOf registry_twin.E registry_twin.sg Try.f56
noncomputable def registry_twin.F (t : t5.den) : Option (t5.den × Unit) := registry_twin.Fn.F (t, ())
theorem registry_twin.spec : FnSpec Try.prog globs 56 registry_twin.Fn := spec_of (E := registry_twin.E) (envOk_at tabOk eqOk primsOk (.nil)) mixOk Try.func56 (by kernel_rfl)
theorem registry_twin.F_eq (t : t5.den) : registry_twin.F t =
  bif (lim (List.length t.2.1) (.int .u32)) then
    bif (lim (List.length t.2.2.1) t1) then
      bif (lim (List.length t.2.2.2.2.1) t3) then
        bif (lim (List.length t.2.2.2.1.1) (.int .i64)) then
          bif (lim (List.length t.2.2.2.1.2.1) .bool) then
            bif (lim (List.length t.2.2.2.2.2.1.1) (.int .i64)) then
              bif (lim (List.length t.2.2.2.2.2.1.2.1) (.int .i64)) then
                some (t, ())
              else none
            else none
          else none
        else none
      else none
    else none
  else none := by kernel_rfl
/-! ### spigot/registry.copied (35) -/
noncomputable def registry_copied.sg : Sig := ⟨[.val t7], [(t7, true)]⟩
noncomputable def registry_copied.E : Env := ⟨tl, fun i => look i [(56, registry_twin.Fn)], [], eqs, globs, prims⟩
noncomputable def registry_copied.c := cxOf registry_copied.E registry_copied.sg Try.f35
noncomputable def registry_copied.b := body Try.f35
noncomputable def registry_copied.Fn : Fun := fnOf registry_copied.E registry_copied.sg Try.f35
noncomputable def registry_copied.F (p : t7.den) : Option (t7.den × Unit) := registry_copied.Fn.F (p, ())
theorem registry_copied.spec : FnSpec Try.prog globs 35 registry_copied.Fn := spec_of (E := registry_copied.E) (envOk_at tabOk eqOk primsOk (.cons registry_twin.spec <| .nil)) mixOk Try.func35 (by kernel_rfl)
theorem registry_copied.F_eq (p : t7.den) : registry_copied.F p =
  (registry_twin.F p.2.2.2.1).bind fun r0 =>
  (registry_twin.F p.2.2.2.2.1).bind fun r1 =>
  bif (lim (List.length p.2.2.2.2.2.1) (.int .u32)) then
    some ((p.1, p.2.1, p.2.2.1, r0.1, r1.1, p.2.2.2.2.2.1, p.2.2.2.2.2.2.1, ()), ())
  else none := by kernel_rfl
/-! ### spigot/registry.all (31) -/
noncomputable def registry_all.sg : Sig := ⟨[.val (.slice t7)], [((.slice t7), true)]⟩
noncomputable def registry_all.E : Env := ⟨tl, fun i => look i [(35, registry_copied.Fn)], [], eqs, globs, prims⟩
noncomputable def registry_all.c := cxOf registry_all.E registry_all.sg Try.f31
noncomputable def registry_all.b := body Try.f31
noncomputable def registry_all.Fn : Fun := fnOf registry_all.E registry_all.sg Try.f31
noncomputable def registry_all.F (l : (List t7.den)) : Option ((List t7.den) × Unit) := registry_all.Fn.F (l, ())
noncomputable def registry_all.S1 (t6_ : (List t7.den)) (t7_ : Int) (t8_ : Int) (l0 : (List t7.den)) : St := ⟨[(3, (.sl 0)), (6, (.v (.slice t7) t6_)), (7, (.v (.int .i64) t7_)), (8, (.v (.int .i64) t8_))], [(0, some (.row t7 l0 false))], 1, []⟩
noncomputable def registry_all.L1 (t6_ : (List t7.den)) (t7_ : Int) (t8_ : Int) (l0 : (List t7.den)) : Option ((List t7.den) × Unit) := res registry_all.c (atLoop registry_all.b [1, 1, 0, 1, 0]) (registry_all.S1 t6_ t7_ t8_ l0)
noncomputable def registry_all.S2 (t6_ : (List t7.den)) (t7_ : Int) (t8_ : Int) (l0 : (List t7.den)) : St := ⟨[(3, (.sl 0)), (6, (.v (.slice t7) t6_)), (7, (.v (.int .i64) t7_)), (8, (.v (.int .i64) t8_))], [(0, some (.row t7 l0 false))], 1, []⟩
noncomputable def registry_all.L2 (t6_ : (List t7.den)) (t7_ : Int) (t8_ : Int) (l0 : (List t7.den)) : Option ((List t7.den) × Unit) := res registry_all.c (atJoin registry_all.b [1, 1, 0, 1, 0, 0, 1, 0]) (registry_all.S2 t6_ t7_ t8_ l0)
theorem registry_all.spec : FnSpec Try.prog globs 31 registry_all.Fn := spec_of (E := registry_all.E) (envOk_at tabOk eqOk primsOk (.cons registry_copied.spec <| .nil)) mixOk Try.func31 (by kernel_rfl)
theorem registry_all.L1_eq (t6_ : (List t7.den)) (t7_ : Int) (t8_ : Int) (l0 : (List t7.den)) : registry_all.L1 t6_ t7_ t8_ l0 =
  bif (decide ((t8_ : Int) < t7_)) then
    registry_all.L2 t6_ t7_ t8_ l0
  else
    some (l0, ()) := res_eq (by kernel_rfl)
theorem registry_all.L2_eq (t6_ : (List t7.den)) (t7_ : Int) (t8_ : Int) (l0 : (List t7.den)) : registry_all.L2 t6_ t7_ t8_ l0 =
  bif (decide ((0 : Int) ≤ t8_ ∧ (t8_ : Int) < ((List.length t6_ : Int)))) then
    (registry_copied.F (List.getD t6_ (Int.toNat t8_) (0, (List.replicate 3 (0, 0, 0, ())), ((0, 0, 0, ()), 0, 0, 0, ()), (0, ([] : List Int), ([] : List t1.den), (([] : List Int), ([] : List Bool), 0, ()), ([] : List t3.den), (([] : List Int), ([] : List Int), 0, 0, ()), ()), (0, ([] : List Int), ([] : List t1.den), (([] : List Int), ([] : List Bool), 0, ()), ([] : List t3.den), (([] : List Int), ([] : List Int), 0, 0, ()), ()), ([] : List Int), (0, 0, 0, ()), ()))).bind fun r0 =>
    bif (lim ((List.length l0) + (List.length ([r0.1] : List t7.den))) t7) then
      registry_all.L1 t6_ t7_ (IntKind.wrap .i64 (t8_ + 1)) (l0 ++ ([r0.1] : List t7.den))
    else none
  else none := res_eq (by kernel_rfl)
theorem registry_all.F_eq (l : (List t7.den)) : registry_all.F l =
  registry_all.L1 l ((List.length l : Int)) 0 ([] : List t7.den) := by kernel_rfl
/-! ### spigot/registry.Drop (9) -/
noncomputable def registry_Drop.sg : Sig := ⟨[.val (.slice t7), .val (.int .u32)], [((.slice t7), true), ((.int .i64), true)]⟩
noncomputable def registry_Drop.E : Env := ⟨tl, fun i => look i [(13, registry_Find.Fn), (31, registry_all.Fn)], [], eqs, globs, prims⟩
noncomputable def registry_Drop.c := cxOf registry_Drop.E registry_Drop.sg Try.f9
noncomputable def registry_Drop.b := body Try.f9
noncomputable def registry_Drop.Fn : Fun := fnOf registry_Drop.E registry_Drop.sg Try.f9
noncomputable def registry_Drop.F (l : (List t7.den)) (tenant : Int) : Option ((List t7.den) × Int × Unit) := registry_Drop.Fn.F (l, tenant, ())
noncomputable def registry_Drop.S1 (l : (List t7.den)) (i : Int) : St := ⟨[(0, (.v (.slice t7) l)), (6, (.v (.int .i64) i))], [], 0, []⟩
noncomputable def registry_Drop.L1 (l : (List t7.den)) (i : Int) : Option ((List t7.den) × Int × Unit) := res registry_Drop.c (atJoin registry_Drop.b [1, 1, 0, 1]) (registry_Drop.S1 l i)
theorem registry_Drop.spec : FnSpec Try.prog globs 9 registry_Drop.Fn := spec_of (E := registry_Drop.E) (envOk_at tabOk eqOk primsOk (.cons registry_Find.spec <| .cons registry_all.spec <| .nil)) mixOk Try.func9 (by kernel_rfl)
theorem registry_Drop.L1_eq (l : (List t7.den)) (i : Int) : registry_Drop.L1 l i =
  (registry_all.F l).bind fun r0 =>
  bif (decide ((0 : Int) ≤ i ∧ (i : Int) ≤ (IntKind.wrap .i64 (i + 1)) ∧ ((IntKind.wrap .i64 (i + 1)) : Int) ≤ (List.length r0.1 : Int))) then
    some (((List.take (Int.toNat i) r0.1) ++ (List.drop (Int.toNat (IntKind.wrap .i64 (i + 1))) r0.1)), 0, ())
  else none := res_eq (by kernel_rfl)
theorem registry_Drop.F_eq (l : (List t7.den)) (tenant : Int) : registry_Drop.F l tenant =
  (registry_Find.F l tenant).bind fun r0 =>
  bif (r0.2.1 != 0) then
    some (([] : List t7.den), r0.2.1, ())
  else
    registry_Drop.L1 l r0.1 := by kernel_rfl
/-! ### spigot/registry.Put (10) -/
noncomputable def registry_Put.sg : Sig := ⟨[.val (.slice t7), .val t7], [((.slice t7), true), ((.int .i64), true)]⟩
noncomputable def registry_Put.E : Env := ⟨tl, fun i => look i [(26, registry_Check.Fn), (31, registry_all.Fn), (32, part_Check.Fn), (33, registry_find.Fn), (35, registry_copied.Fn)], [], eqs, globs, prims⟩
noncomputable def registry_Put.c := cxOf registry_Put.E registry_Put.sg Try.f10
noncomputable def registry_Put.b := body Try.f10
noncomputable def registry_Put.Fn : Fun := fnOf registry_Put.E registry_Put.sg Try.f10
noncomputable def registry_Put.F (l : (List t7.den)) (p : t7.den) : Option ((List t7.den) × Int × Unit) := registry_Put.Fn.F (l, p, ())
noncomputable def registry_Put.S1 (l : (List t7.den)) (b0 : Int) (b02 : (List t0.den)) (b03 : Int) (b04 : Int) (b05 : Int) (b06 : Int) (b07 : Int) (b08 : Int) (b09 : Int) (b010 : (List Int)) (b011 : (List t1.den)) (b012 : (List Int)) (b013 : (List Bool)) (b014 : Int) (b015 : (List t3.den)) (b016 : (List Int)) (b017 : (List Int)) (b018 : Int) (b019 : Int) (b020 : Int) (b021 : (List Int)) (b022 : (List t1.den)) (b023 : (List Int)) (b024 : (List Bool)) (b025 : Int) (b026 : (List t3.den)) (b027 : (List Int)) (b028 : (List Int)) (b029 : Int) (b030 : Int) (b031 : (List Int)) (b032 : Int) (b033 : Int) (b034 : Int) : St := ⟨[(0, (.v (.slice t7) l)), (3, (.ptr 0 []))], [(0, some (.box (.agg [(.v (.int .u32) b0), (.v (.arr 3 t0) b02), (.agg [(.agg [(.v (.int .i64) b03), (.v (.int .i64) b04), (.v (.int .i64) b05)]), (.v (.int .i64) b06), (.v (.int .i64) b07), (.v (.int .u64) b08)]), (.agg [(.v (.int .i64) b09), (.v (.slice (.int .u32)) b010), (.v (.slice t1) b011), (.agg [(.v (.slice (.int .i64)) b012), (.v (.slice .bool) b013), (.v (.int .i64) b014)]), (.v (.slice t3) b015), (.agg [(.v (.slice (.int .i64)) b016), (.v (.slice (.int .i64)) b017), (.v (.int .i64) b018), (.v (.int .i64) b019)])]), (.agg [(.v (.int .i64) b020), (.v (.slice (.int .u32)) b021), (.v (.slice t1) b022), (.agg [(.v (.slice (.int .i64)) b023), (.v (.slice .bool) b024), (.v (.int .i64) b025)]), (.v (.slice t3) b026), (.agg [(.v (.slice (.int .i64)) b027), (.v (.slice (.int .i64)) b028), (.v (.int .i64) b029), (.v (.int .i64) b030)])]), (.v (.slice (.int .u32)) b031), (.agg [(.v (.int .u64) b032), (.v (.int .u64) b033), (.v (.int .u64) b034)])])))], 1, []⟩
noncomputable def registry_Put.L1 (l : (List t7.den)) (b0 : Int) (b02 : (List t0.den)) (b03 : Int) (b04 : Int) (b05 : Int) (b06 : Int) (b07 : Int) (b08 : Int) (b09 : Int) (b010 : (List Int)) (b011 : (List t1.den)) (b012 : (List Int)) (b013 : (List Bool)) (b014 : Int) (b015 : (List t3.den)) (b016 : (List Int)) (b017 : (List Int)) (b018 : Int) (b019 : Int) (b020 : Int) (b021 : (List Int)) (b022 : (List t1.den)) (b023 : (List Int)) (b024 : (List Bool)) (b025 : Int) (b026 : (List t3.den)) (b027 : (List Int)) (b028 : (List Int)) (b029 : Int) (b030 : Int) (b031 : (List Int)) (b032 : Int) (b033 : Int) (b034 : Int) : Option ((List t7.den) × Int × Unit) := res registry_Put.c (atJoin registry_Put.b [1, 0, 1, 1]) (registry_Put.S1 l b0 b02 b03 b04 b05 b06 b07 b08 b09 b010 b011 b012 b013 b014 b015 b016 b017 b018 b019 b020 b021 b022 b023 b024 b025 b026 b027 b028 b029 b030 b031 b032 b033 b034)
noncomputable def registry_Put.S2 (l : (List t7.den)) (b0 : Int) (b02 : (List t0.den)) (b03 : Int) (b04 : Int) (b05 : Int) (b06 : Int) (b07 : Int) (b08 : Int) (b09 : Int) (b010 : (List Int)) (b011 : (List t1.den)) (b012 : (List Int)) (b013 : (List Bool)) (b014 : Int) (b015 : (List t3.den)) (b016 : (List Int)) (b017 : (List Int)) (b018 : Int) (b019 : Int) (b020 : Int) (b021 : (List Int)) (b022 : (List t1.den)) (b023 : (List Int)) (b024 : (List Bool)) (b025 : Int) (b026 : (List t3.den)) (b027 : (List Int)) (b028 : (List Int)) (b029 : Int) (b030 : Int) (b031 : (List Int)) (b032 : Int) (b033 : Int) (b034 : Int) : St := ⟨[(0, (.v (.slice t7) l)), (3, (.ptr 0 []))], [(0, some (.box (.agg [(.v (.int .u32) b0), (.v (.arr 3 t0) b02), (.agg [(.agg [(.v (.int .i64) b03), (.v (.int .i64) b04), (.v (.int .i64) b05)]), (.v (.int .i64) b06), (.v (.int .i64) b07), (.v (.int .u64) b08)]), (.agg [(.v (.int .i64) b09), (.v (.slice (.int .u32)) b010), (.v (.slice t1) b011), (.agg [(.v (.slice (.int .i64)) b012), (.v (.slice .bool) b013), (.v (.int .i64) b014)]), (.v (.slice t3) b015), (.agg [(.v (.slice (.int .i64)) b016), (.v (.slice (.int .i64)) b017), (.v (.int .i64) b018), (.v (.int .i64) b019)])]), (.agg [(.v (.int .i64) b020), (.v (.slice (.int .u32)) b021), (.v (.slice t1) b022), (.agg [(.v (.slice (.int .i64)) b023), (.v (.slice .bool) b024), (.v (.int .i64) b025)]), (.v (.slice t3) b026), (.agg [(.v (.slice (.int .i64)) b027), (.v (.slice (.int .i64)) b028), (.v (.int .i64) b029), (.v (.int .i64) b030)])]), (.v (.slice (.int .u32)) b031), (.agg [(.v (.int .u64) b032), (.v (.int .u64) b033), (.v (.int .u64) b034)])])))], 1, []⟩
noncomputable def registry_Put.L2 (l : (List t7.den)) (b0 : Int) (b02 : (List t0.den)) (b03 : Int) (b04 : Int) (b05 : Int) (b06 : Int) (b07 : Int) (b08 : Int) (b09 : Int) (b010 : (List Int)) (b011 : (List t1.den)) (b012 : (List Int)) (b013 : (List Bool)) (b014 : Int) (b015 : (List t3.den)) (b016 : (List Int)) (b017 : (List Int)) (b018 : Int) (b019 : Int) (b020 : Int) (b021 : (List Int)) (b022 : (List t1.den)) (b023 : (List Int)) (b024 : (List Bool)) (b025 : Int) (b026 : (List t3.den)) (b027 : (List Int)) (b028 : (List Int)) (b029 : Int) (b030 : Int) (b031 : (List Int)) (b032 : Int) (b033 : Int) (b034 : Int) : Option ((List t7.den) × Int × Unit) := res registry_Put.c (atJoin registry_Put.b [1, 1, 0, 1]) (registry_Put.S2 l b0 b02 b03 b04 b05 b06 b07 b08 b09 b010 b011 b012 b013 b014 b015 b016 b017 b018 b019 b020 b021 b022 b023 b024 b025 b026 b027 b028 b029 b030 b031 b032 b033 b034)
noncomputable def registry_Put.S3 (l : (List t7.den)) (i : Int) (b0 : Int) (b02 : (List t0.den)) (b03 : Int) (b04 : Int) (b05 : Int) (b06 : Int) (b07 : Int) (b08 : Int) (b09 : Int) (b010 : (List Int)) (b011 : (List t1.den)) (b012 : (List Int)) (b013 : (List Bool)) (b014 : Int) (b015 : (List t3.den)) (b016 : (List Int)) (b017 : (List Int)) (b018 : Int) (b019 : Int) (b020 : Int) (b021 : (List Int)) (b022 : (List t1.den)) (b023 : (List Int)) (b024 : (List Bool)) (b025 : Int) (b026 : (List t3.den)) (b027 : (List Int)) (b028 : (List Int)) (b029 : Int) (b030 : Int) (b031 : (List Int)) (b032 : Int) (b033 : Int) (b034 : Int) : St := ⟨[(0, (.v (.slice t7) l)), (3, (.ptr 0 [])), (7, (.v (.int .i64) i))], [(0, some (.box (.agg [(.v (.int .u32) b0), (.v (.arr 3 t0) b02), (.agg [(.agg [(.v (.int .i64) b03), (.v (.int .i64) b04), (.v (.int .i64) b05)]), (.v (.int .i64) b06), (.v (.int .i64) b07), (.v (.int .u64) b08)]), (.agg [(.v (.int .i64) b09), (.v (.slice (.int .u32)) b010), (.v (.slice t1) b011), (.agg [(.v (.slice (.int .i64)) b012), (.v (.slice .bool) b013), (.v (.int .i64) b014)]), (.v (.slice t3) b015), (.agg [(.v (.slice (.int .i64)) b016), (.v (.slice (.int .i64)) b017), (.v (.int .i64) b018), (.v (.int .i64) b019)])]), (.agg [(.v (.int .i64) b020), (.v (.slice (.int .u32)) b021), (.v (.slice t1) b022), (.agg [(.v (.slice (.int .i64)) b023), (.v (.slice .bool) b024), (.v (.int .i64) b025)]), (.v (.slice t3) b026), (.agg [(.v (.slice (.int .i64)) b027), (.v (.slice (.int .i64)) b028), (.v (.int .i64) b029), (.v (.int .i64) b030)])]), (.v (.slice (.int .u32)) b031), (.agg [(.v (.int .u64) b032), (.v (.int .u64) b033), (.v (.int .u64) b034)])])))], 1, []⟩
noncomputable def registry_Put.L3 (l : (List t7.den)) (i : Int) (b0 : Int) (b02 : (List t0.den)) (b03 : Int) (b04 : Int) (b05 : Int) (b06 : Int) (b07 : Int) (b08 : Int) (b09 : Int) (b010 : (List Int)) (b011 : (List t1.den)) (b012 : (List Int)) (b013 : (List Bool)) (b014 : Int) (b015 : (List t3.den)) (b016 : (List Int)) (b017 : (List Int)) (b018 : Int) (b019 : Int) (b020 : Int) (b021 : (List Int)) (b022 : (List t1.den)) (b023 : (List Int)) (b024 : (List Bool)) (b025 : Int) (b026 : (List t3.den)) (b027 : (List Int)) (b028 : (List Int)) (b029 : Int) (b030 : Int) (b031 : (List Int)) (b032 : Int) (b033 : Int) (b034 : Int) : Option ((List t7.den) × Int × Unit) := res registry_Put.c (atJoin registry_Put.b [1, 1, 1, 1, 0, 1]) (registry_Put.S3 l i b0 b02 b03 b04 b05 b06 b07 b08 b09 b010 b011 b012 b013 b014 b015 b016 b017 b018 b019 b020 b021 b022 b023 b024 b025 b026 b027 b028 b029 b030 b031 b032 b033 b034)
noncomputable def registry_Put.S4 (l : (List t7.den)) (i : Int) (b0 : Int) (b02 : (List t0.den)) (b03 : Int) (b04 : Int) (b05 : Int) (b06 : Int) (b07 : Int) (b08 : Int) (b09 : Int) (b010 : (List Int)) (b011 : (List t1.den)) (b012 : (List Int)) (b013 : (List Bool)) (b014 : Int) (b015 : (List t3.den)) (b016 : (List Int)) (b017 : (List Int)) (b018 : Int) (b019 : Int) (b020 : Int) (b021 : (List Int)) (b022 : (List t1.den)) (b023 : (List Int)) (b024 : (List Bool)) (b025 : Int) (b026 : (List t3.den)) (b027 : (List Int)) (b028 : (List Int)) (b029 : Int) (b030 : Int) (b031 : (List Int)) (b032 : Int) (b033 : Int) (b034 : Int) : St := ⟨[(0, (.v (.slice t7) l)), (3, (.ptr 0 [])), (7, (.v (.int .i64) i))], [(0, some (.box (.agg [(.v (.int .u32) b0), (.v (.arr 3 t0) b02), (.agg [(.agg [(.v (.int .i64) b03), (.v (.int .i64) b04), (.v (.int .i64) b05)]), (.v (.int .i64) b06), (.v (.int .i64) b07), (.v (.int .u64) b08)]), (.agg [(.v (.int .i64) b09), (.v (.slice (.int .u32)) b010), (.v (.slice t1) b011), (.agg [(.v (.slice (.int .i64)) b012), (.v (.slice .bool) b013), (.v (.int .i64) b014)]), (.v (.slice t3) b015), (.agg [(.v (.slice (.int .i64)) b016), (.v (.slice (.int .i64)) b017), (.v (.int .i64) b018), (.v (.int .i64) b019)])]), (.agg [(.v (.int .i64) b020), (.v (.slice (.int .u32)) b021), (.v (.slice t1) b022), (.agg [(.v (.slice (.int .i64)) b023), (.v (.slice .bool) b024), (.v (.int .i64) b025)]), (.v (.slice t3) b026), (.agg [(.v (.slice (.int .i64)) b027), (.v (.slice (.int .i64)) b028), (.v (.int .i64) b029), (.v (.int .i64) b030)])]), (.v (.slice (.int .u32)) b031), (.agg [(.v (.int .u64) b032), (.v (.int .u64) b033), (.v (.int .u64) b034)])])))], 1, []⟩
noncomputable def registry_Put.L4 (l : (List t7.den)) (i : Int) (b0 : Int) (b02 : (List t0.den)) (b03 : Int) (b04 : Int) (b05 : Int) (b06 : Int) (b07 : Int) (b08 : Int) (b09 : Int) (b010 : (List Int)) (b011 : (List t1.den)) (b012 : (List Int)) (b013 : (List Bool)) (b014 : Int) (b015 : (List t3.den)) (b016 : (List Int)) (b017 : (List Int)) (b018 : Int) (b019 : Int) (b020 : Int) (b021 : (List Int)) (b022 : (List t1.den)) (b023 : (List Int)) (b024 : (List Bool)) (b025 : Int) (b026 : (List t3.den)) (b027 : (List Int)) (b028 : (List Int)) (b029 : Int) (b030 : Int) (b031 : (List Int)) (b032 : Int) (b033 : Int) (b034 : Int) : Option ((List t7.den) × Int × Unit) := res registry_Put.c (atJoin registry_Put.b [1, 1, 1, 1, 1, 0, 1]) (registry_Put.S4 l i b0 b02 b03 b04 b05 b06 b07 b08 b09 b010 b011 b012 b013 b014 b015 b016 b017 b018 b019 b020 b021 b022 b023 b024 b025 b026 b027 b028 b029 b030 b031 b032 b033 b034)
theorem registry_Put.spec : FnSpec Try.prog globs 10 registry_Put.Fn := spec_of (E := registry_Put.E) (envOk_at tabOk eqOk primsOk (.cons registry_Check.spec <| .cons registry_all.spec <| .cons part_Check.spec <| .cons registry_find.spec <| .cons registry_copied.spec <| .nil)) mixOk Try.func10 (by kernel_rfl)
theorem registry_Put.L1_eq (l : (List t7.den)) (b0 : Int) (b02 : (List t0.den)) (b03 : Int) (b04 : Int) (b05 : Int) (b06 : Int) (b07 : Int) (b08 : Int) (b09 : Int) (b010 : (List Int)) (b011 : (List t1.den)) (b012 : (List Int)) (b013 : (List Bool)) (b014 : Int) (b015 : (List t3.den)) (b016 : (List Int)) (b017 : (List Int)) (b018 : Int) (b019 : Int) (b020 : Int) (b021 : (List Int)) (b022 : (List t1.den)) (b023 : (List Int)) (b024 : (List Bool)) (b025 : Int) (b026 : (List t3.den)) (b027 : (List Int)) (b028 : (List Int)) (b029 : Int) (b030 : Int) (b031 : (List Int)) (b032 : Int) (b033 : Int) (b034 : Int) : registry_Put.L1 l b0 b02 b03 b04 b05 b06 b07 b08 b09 b010 b011 b012 b013 b014 b015 b016 b017 b018 b019 b020 b021 b022 b023 b024 b025 b026 b027 b028 b029 b030 b031 b032 b033 b034 =
  (part_Check.F (b0, b02, ((b03, b04, b05, ()), b06, b07, b08, ()), (b09, b010, b011, (b012, b013, b014, ()), b015, (b016, b017, b018, b019, ()), ()), (b020, b021, b022, (b023, b024, b025, ()), b026, (b027, b028, b029, b030, ()), ()), b031, (b032, b033, b034, ()), ())).bind fun r0 =>
  bif (r0.1 != 0) then
    some (([] : List t7.den), 8, ())
  else
    registry_Put.L2 l b0 b02 b03 b04 b05 b06 b07 b08 b09 b010 b011 b012 b013 b014 b015 b016 b017 b018 b019 b020 b021 b022 b023 b024 b025 b026 b027 b028 b029 b030 b031 b032 b033 b034 := res_eq (by kernel_rfl)
theorem registry_Put.L2_eq (l : (List t7.den)) (b0 : Int) (b02 : (List t0.den)) (b03 : Int) (b04 : Int) (b05 : Int) (b06 : Int) (b07 : Int) (b08 : Int) (b09 : Int) (b010 : (List Int)) (b011 : (List t1.den)) (b012 : (List Int)) (b013 : (List Bool)) (b014 : Int) (b015 : (List t3.den)) (b016 : (List Int)) (b017 : (List Int)) (b018 : Int) (b019 : Int) (b020 : Int) (b021 : (List Int)) (b022 : (List t1.den)) (b023 : (List Int)) (b024 : (List Bool)) (b025 : Int) (b026 : (List t3.den)) (b027 : (List Int)) (b028 : (List Int)) (b029 : Int) (b030 : Int) (b031 : (List Int)) (b032 : Int) (b033 : Int) (b034 : Int) : registry_Put.L2 l b0 b02 b03 b04 b05 b06 b07 b08 b09 b010 b011 b012 b013 b014 b015 b016 b017 b018 b019 b020 b021 b022 b023 b024 b025 b026 b027 b028 b029 b030 b031 b032 b033 b034 =
  (registry_find.F l b0).bind fun r0 =>
  bif r0.2.1 then
    some (([] : List t7.den), 14, ())
  else
    registry_Put.L3 l r0.1 b0 b02 b03 b04 b05 b06 b07 b08 b09 b010 b011 b012 b013 b014 b015 b016 b017 b018 b019 b020 b021 b022 b023 b024 b025 b026 b027 b028 b029 b030 b031 b032 b033 b034 := res_eq (by kernel_rfl)
theorem registry_Put.L3_eq (l : (List t7.den)) (i : Int) (b0 : Int) (b02 : (List t0.den)) (b03 : Int) (b04 : Int) (b05 : Int) (b06 : Int) (b07 : Int) (b08 : Int) (b09 : Int) (b010 : (List Int)) (b011 : (List t1.den)) (b012 : (List Int)) (b013 : (List Bool)) (b014 : Int) (b015 : (List t3.den)) (b016 : (List Int)) (b017 : (List Int)) (b018 : Int) (b019 : Int) (b020 : Int) (b021 : (List Int)) (b022 : (List t1.den)) (b023 : (List Int)) (b024 : (List Bool)) (b025 : Int) (b026 : (List t3.den)) (b027 : (List Int)) (b028 : (List Int)) (b029 : Int) (b030 : Int) (b031 : (List Int)) (b032 : Int) (b033 : Int) (b034 : Int) : registry_Put.L3 l i b0 b02 b03 b04 b05 b06 b07 b08 b09 b010 b011 b012 b013 b014 b015 b016 b017 b018 b019 b020 b021 b022 b023 b024 b025 b026 b027 b028 b029 b030 b031 b032 b033 b034 =
  bif (((List.length l : Int)) == 8) then
    some (([] : List t7.den), 18, ())
  else
    registry_Put.L4 l i b0 b02 b03 b04 b05 b06 b07 b08 b09 b010 b011 b012 b013 b014 b015 b016 b017 b018 b019 b020 b021 b022 b023 b024 b025 b026 b027 b028 b029 b030 b031 b032 b033 b034 := res_eq (by kernel_rfl)
theorem registry_Put.L4_eq (l : (List t7.den)) (i : Int) (b0 : Int) (b02 : (List t0.den)) (b03 : Int) (b04 : Int) (b05 : Int) (b06 : Int) (b07 : Int) (b08 : Int) (b09 : Int) (b010 : (List Int)) (b011 : (List t1.den)) (b012 : (List Int)) (b013 : (List Bool)) (b014 : Int) (b015 : (List t3.den)) (b016 : (List Int)) (b017 : (List Int)) (b018 : Int) (b019 : Int) (b020 : Int) (b021 : (List Int)) (b022 : (List t1.den)) (b023 : (List Int)) (b024 : (List Bool)) (b025 : Int) (b026 : (List t3.den)) (b027 : (List Int)) (b028 : (List Int)) (b029 : Int) (b030 : Int) (b031 : (List Int)) (b032 : Int) (b033 : Int) (b034 : Int) : registry_Put.L4 l i b0 b02 b03 b04 b05 b06 b07 b08 b09 b010 b011 b012 b013 b014 b015 b016 b017 b018 b019 b020 b021 b022 b023 b024 b025 b026 b027 b028 b029 b030 b031 b032 b033 b034 =
  (registry_all.F l).bind fun r0 =>
  (registry_copied.F (b0, b02, ((b03, b04, b05, ()), b06, b07, b08, ()), (b09, b010, b011, (b012, b013, b014, ()), b015, (b016, b017, b018, b019, ()), ()), (b020, b021, b022, (b023, b024, b025, ()), b026, (b027, b028, b029, b030, ()), ()), b031, (b032, b033, b034, ()), ())).bind fun r1 =>
  bif (decide ((0 : Int) ≤ i ∧ (i : Int) ≤ (List.length r0.1 : Int)) && lim (List.length r0.1 + List.length ([r1.1] : List t7.den)) t7) then
    some ((((List.take (Int.toNat i) r0.1) ++ ([r1.1] : List t7.den)) ++ (List.drop (Int.toNat i) r0.1)), 0, ())
  else none := res_eq (by kernel_rfl)
theorem registry_Put.F_eq (l : (List t7.den)) (p : t7.den) : registry_Put.F l p =
  (registry_Check.F l).bind fun r0 =>
  bif (r0.1 != 0) then
    some (([] : List t7.den), r0.1, ())
  else
    registry_Put.L1 l p.1 p.2.1 p.2.2.1.1.1 p.2.2.1.1.2.1 p.2.2.1.1.2.2.1 p.2.2.1.2.1 p.2.2.1.2.2.1 p.2.2.1.2.2.2.1 p.2.2.2.1.1 p.2.2.2.1.2.1 p.2.2.2.1.2.2.1 p.2.2.2.1.2.2.2.1.1 p.2.2.2.1.2.2.2.1.2.1 p.2.2.2.1.2.2.2.1.2.2.1 p.2.2.2.1.2.2.2.2.1 p.2.2.2.1.2.2.2.2.2.1.1 p.2.2.2.1.2.2.2.2.2.1.2.1 p.2.2.2.1.2.2.2.2.2.1.2.2.1 p.2.2.2.1.2.2.2.2.2.1.2.2.2.1 p.2.2.2.2.1.1 p.2.2.2.2.1.2.1 p.2.2.2.2.1.2.2.1 p.2.2.2.2.1.2.2.2.1.1 p.2.2.2.2.1.2.2.2.1.2.1 p.2.2.2.2.1.2.2.2.1.2.2.1 p.2.2.2.2.1.2.2.2.2.1 p.2.2.2.2.1.2.2.2.2.2.1.1 p.2.2.2.2.1.2.2.2.2.2.1.2.1 p.2.2.2.2.1.2.2.2.2.2.1.2.2.1 p.2.2.2.2.1.2.2.2.2.2.1.2.2.2.1 p.2.2.2.2.2.1 p.2.2.2.2.2.2.1.1 p.2.2.2.2.2.2.1.2.1 p.2.2.2.2.2.2.1.2.2.1 := by kernel_rfl
/-! ### spigot/spigotref03.CheckLimit (66) -/
noncomputable def spigotref03_CheckLimit.sg : Sig := ⟨[.val t0], [((.int .i64), true)]⟩
noncomputable def spigotref03_CheckLimit.E : Env := ⟨tl, fun i => look i [], [], eqs, globs, prims⟩
noncomputable def spigotref03_CheckLimit.c := cxOf spigotref03_CheckLimit.E spigotref03_CheckLimit.sg Try.f66
noncomputable def spigotref03_CheckLimit.b := body Try.f66
noncomputable def spigotref03_CheckLimit.Fn : Fun := fnOf spigotref03_CheckLimit.E spigotref03_CheckLimit.sg Try.f66
noncomputable def spigotref03_CheckLimit.F (l : t0.den) : Option (Int × Unit) := spigotref03_CheckLimit.Fn.F (l, ())
noncomputable def spigotref03_CheckLimit.S1 : St := ⟨[], [], 0, []⟩
noncomputable def spigotref03_CheckLimit.L1 : Option (Int × Unit) := res spigotref03_CheckLimit.c (atJoin spigotref03_CheckLimit.b [1, 0, 1]) (spigotref03_CheckLimit.S1)
theorem spigotref03_CheckLimit.spec : FnSpec Try.prog globs 66 spigotref03_CheckLimit.Fn := spec_of (E := spigotref03_CheckLimit.E) (envOk_at tabOk eqOk primsOk (.nil)) mixOk Try.func66 (by kernel_rfl)
theorem spigotref03_CheckLimit.L1_eq : spigotref03_CheckLimit.L1 =
  some (0, ()) := res_eq (by kernel_rfl)
theorem spigotref03_CheckLimit.F_eq (l : t0.den) : spigotref03_CheckLimit.F l =
  bif (decide ((l.1 : Int) < 1)) then
    some (8, ())
  else
    bif (decide ((l.1 : Int) > 1000000000)) then
      some (8, ())
    else
      bif (decide ((l.2.1 : Int) < 0)) then
        some (8, ())
      else
        bif (decide ((l.2.1 : Int) > 1000000000)) then
          some (8, ())
        else
          bif (decide ((l.2.2.1 : Int) < 1)) then
            some (8, ())
          else
            bif (decide ((l.2.2.1 : Int) > 1000000000)) then
              some (8, ())
            else
              spigotref03_CheckLimit.L1 := by kernel_rfl
/-! ### spigot/spigotref18.Limited (43) -/
noncomputable def spigotref18_Limited.sg : Sig := ⟨[.val (.arr 3 t0)], [(.bool, true)]⟩
noncomputable def spigotref18_Limited.E : Env := ⟨tl, fun i => look i [(66, spigotref03_CheckLimit.Fn)], [], eqs, globs, prims⟩
noncomputable def spigotref18_Limited.c := cxOf spigotref18_Limited.E spigotref18_Limited.sg Try.f43
noncomputable def spigotref18_Limited.b := body Try.f43
noncomputable def spigotref18_Limited.Fn : Fun := fnOf spigotref18_Limited.E spigotref18_Limited.sg Try.f43
noncomputable def spigotref18_Limited.F (l : (List t0.den)) : Option (Bool × Unit) := spigotref18_Limited.Fn.F (l, ())
noncomputable def spigotref18_Limited.S1 (i : Int) (b0 : (List t0.den)) : St := ⟨[(1, (.ptr 0 [])), (3, (.v (.int .i64) i))], [(0, some (.box (.v (.arr 3 t0) b0)))], 1, []⟩
noncomputable def spigotref18_Limited.L1 (i : Int) (b0 : (List t0.den)) : Option (Bool × Unit) := res spigotref18_Limited.c (atLoop spigotref18_Limited.b [1, 0, 1, 0]) (spigotref18_Limited.S1 i b0)
noncomputable def spigotref18_Limited.S2 (i : Int) (b0 : (List t0.den)) : St := ⟨[(1, (.ptr 0 [])), (3, (.v (.int .i64) i))], [(0, some (.box (.v (.arr 3 t0) b0)))], 1, []⟩
noncomputable def spigotref18_Limited.L2 (i : Int) (b0 : (List t0.den)) : Option (Bool × Unit) := res spigotref18_Limited.c (atJoin spigotref18_Limited.b [1, 0, 1, 0, 0, 0, 1]) (spigotref18_Limited.S2 i b0)
noncomputable def spigotref18_Limited.S3 (i : Int) (b0 : (List t0.den)) : St := ⟨[(1, (.ptr 0 [])), (3, (.v (.int .i64) i))], [(0, some (.box (.v (.arr 3 t0) b0)))], 1, []⟩
noncomputable def spigotref18_Limited.L3 (i : Int) (b0 : (List t0.den)) : Option (Bool × Unit) := res spigotref18_Limited.c (atJoin spigotref18_Limited.b [1, 0, 1, 0, 0, 1, 0, 0, 1]) (spigotref18_Limited.S3 i b0)
theorem spigotref18_Limited.spec : FnSpec Try.prog globs 43 spigotref18_Limited.Fn := spec_of (E := spigotref18_Limited.E) (envOk_at tabOk eqOk primsOk (.cons spigotref03_CheckLimit.spec <| .nil)) mixOk Try.func43 (by kernel_rfl)
theorem spigotref18_Limited.L1_eq (i : Int) (b0 : (List t0.den)) : spigotref18_Limited.L1 i b0 =
  bif (decide ((i : Int) < 3)) then
    spigotref18_Limited.L2 i b0
  else
    some (true, ()) := res_eq (by kernel_rfl)
theorem spigotref18_Limited.L2_eq (i : Int) (b0 : (List t0.den)) : spigotref18_Limited.L2 i b0 =
  bif (decide ((0 : Int) ≤ i ∧ (i : Int) < 3)) then
    (spigotref03_CheckLimit.F (List.getD b0 (Int.toNat i) (0, 0, 0, ()))).bind fun r0 =>
    bif (r0.1 != 0) then
      some (false, ())
    else
      spigotref18_Limited.L3 i b0
  else none := res_eq (by kernel_rfl)
theorem spigotref18_Limited.L3_eq (i : Int) (b0 : (List t0.den)) : spigotref18_Limited.L3 i b0 =
  spigotref18_Limited.L1 (IntKind.wrap .i64 (i + 1)) b0 := res_eq (by kernel_rfl)
theorem spigotref18_Limited.F_eq (l : (List t0.den)) : spigotref18_Limited.F l =
  spigotref18_Limited.L1 0 l := by kernel_rfl
/-! ### spigot/spigotref13.New (87) -/
noncomputable def spigotref13_New.sg : Sig := ⟨[.val (.int .i64)], [(t2, true), ((.int .i64), true)]⟩
noncomputable def spigotref13_New.E : Env := ⟨tl, fun i => look i [], [], eqs, globs, prims⟩
noncomputable def spigotref13_New.c := cxOf spigotref13_New.E spigotref13_New.sg Try.f87
noncomputable def spigotref13_New.b := body Try.f87
noncomputable def spigotref13_New.Fn : Fun := fnOf spigotref13_New.E spigotref13_New.sg Try.f87
noncomputable def spigotref13_New.F (n : Int) : Option (t2.den × Int × Unit) := spigotref13_New.Fn.F (n, ())
noncomputable def spigotref13_New.S1 (n : Int) (l1 : (List Int)) (l2 : (List Bool)) : St := ⟨[(0, (.v (.int .i64) n)), (2, (.ptr 0 []))], [(0, some (.box (.agg [(.sl 1), (.sl 2), (.v (.int .i64) 0)]))), (1, some (.row (.int .i64) l1 false)), (2, some (.row .bool l2 false))], 3, []⟩
noncomputable def spigotref13_New.L1 (n : Int) (l1 : (List Int)) (l2 : (List Bool)) : Option (t2.den × Int × Unit) := res spigotref13_New.c (atJoin spigotref13_New.b [1, 0, 1]) (spigotref13_New.S1 n l1 l2)
noncomputable def spigotref13_New.S2 (n : Int) (i : Int) (l2 : (List Int)) (l3 : (List Bool)) (l4 : (List Int)) (l5 : (List Bool)) : St := ⟨[(0, (.v (.int .i64) n)), (2, (.ptr 0 [])), (4, (.ptr 1 [])), (5, (.v (.int .i64) i))], [(0, some (.box (.agg [(.sl 2), (.sl 3), (.v (.int .i64) 0)]))), (1, some (.box (.agg [(.sl 4), (.sl 5), (.v (.int .i64) 0)]))), (2, some (.row (.int .i64) l2 false)), (3, some (.row .bool l3 false)), (4, some (.row (.int .i64) l4 false)), (5, some (.row .bool l5 false))], 6, []⟩
noncomputable def spigotref13_New.L2 (n : Int) (i : Int) (l2 : (List Int)) (l3 : (List Bool)) (l4 : (List Int)) (l5 : (List Bool)) : Option (t2.den × Int × Unit) := res spigotref13_New.c (atLoop spigotref13_New.b [1, 1, 1, 0, 1, 0]) (spigotref13_New.S2 n i l2 l3 l4 l5)
noncomputable def spigotref13_New.S3 (n : Int) (i : Int) (l2 : (List Int)) (l3 : (List Bool)) (l4 : (List Int)) (l5 : (List Bool)) : St := ⟨[(0, (.v (.int .i64) n)), (2, (.ptr 0 [])), (4, (.ptr 1 [])), (5, (.v (.int .i64) i))], [(0, some (.box (.agg [(.sl 2), (.sl 3), (.v (.int .i64) 0)]))), (1, some (.box (.agg [(.sl 4), (.sl 5), (.v (.int .i64) 0)]))), (2, some (.row (.int .i64) l2 false)), (3, some (.row .bool l3 false)), (4, some (.row (.int .i64) l4 false)), (5, some (.row .bool l5 false))], 6, []⟩
noncomputable def spigotref13_New.L3 (n : Int) (i : Int) (l2 : (List Int)) (l3 : (List Bool)) (l4 : (List Int)) (l5 : (List Bool)) : Option (t2.den × Int × Unit) := res spigotref13_New.c (atJoin spigotref13_New.b [1, 1, 1, 0, 1, 0, 0, 0, 1]) (spigotref13_New.S3 n i l2 l3 l4 l5)
noncomputable def spigotref13_New.S4 (n : Int) (i : Int) (l2 : (List Int)) (l3 : (List Bool)) (l4 : (List Int)) (l5 : (List Bool)) : St := ⟨[(0, (.v (.int .i64) n)), (2, (.ptr 0 [])), (4, (.ptr 1 [])), (5, (.v (.int .i64) i))], [(0, some (.box (.agg [(.sl 2), (.sl 3), (.v (.int .i64) 0)]))), (1, some (.box (.agg [(.sl 4), (.sl 5), (.v (.int .i64) 0)]))), (2, some (.row (.int .i64) l2 false)), (3, some (.row .bool l3 false)), (4, some (.row (.int .i64) l4 false)), (5, some (.row .bool l5 false))], 6, []⟩
noncomputable def spigotref13_New.L4 (n : Int) (i : Int) (l2 : (List Int)) (l3 : (List Bool)) (l4 : (List Int)) (l5 : (List Bool)) : Option (t2.den × Int × Unit) := res spigotref13_New.c (atJoin spigotref13_New.b [1, 1, 1, 0, 1, 0, 0, 1, 0, 0, 0, 1]) (spigotref13_New.S4 n i l2 l3 l4 l5)
theorem spigotref13_New.spec : FnSpec Try.prog globs 87 spigotref13_New.Fn := spec_of (E := spigotref13_New.E) (envOk_at tabOk eqOk primsOk (.nil)) mixOk Try.func87 (by kernel_rfl)
theorem spigotref13_New.L1_eq (n : Int) (l1 : (List Int)) (l2 : (List Bool)) : spigotref13_New.L1 n l1 l2 =
  spigotref13_New.L2 n 0 l1 l2 ([] : List Int) ([] : List Bool) := res_eq (by kernel_rfl)
theorem spigotref13_New.L2_eq (n : Int) (i : Int) (l2 : (List Int)) (l3 : (List Bool)) (l4 : (List Int)) (l5 : (List Bool)) : spigotref13_New.L2 n i l2 l3 l4 l5 =
  bif (decide ((i : Int) < n)) then
    spigotref13_New.L3 n i l2 l3 l4 l5
  else
    some ((l4, l5, 0, ()), 0, ()) := res_eq (by kernel_rfl)
theorem spigotref13_New.L3_eq (n : Int) (i : Int) (l2 : (List Int)) (l3 : (List Bool)) (l4 : (List Int)) (l5 : (List Bool)) : spigotref13_New.L3 n i l2 l3 l4 l5 =
  bif (decide (((IntKind.wrap .i64 (i + 1)) : Int) < n)) then
    bif (lim ((List.length l4) + (List.length ([(IntKind.wrap .i64 (i + 1))] : List Int))) (.int .i64)) then
      spigotref13_New.L4 n i l2 l3 (l4 ++ ([(IntKind.wrap .i64 (i + 1))] : List Int)) l5
    else none
  else
    bif (lim ((List.length l4) + (List.length ([(-1)] : List Int))) (.int .i64)) then
      spigotref13_New.L4 n i l2 l3 (l4 ++ ([(-1)] : List Int)) l5
    else none := res_eq (by kernel_rfl)
theorem spigotref13_New.L4_eq (n : Int) (i : Int) (l2 : (List Int)) (l3 : (List Bool)) (l4 : (List Int)) (l5 : (List Bool)) : spigotref13_New.L4 n i l2 l3 l4 l5 =
  bif (lim ((List.length l5) + (List.length ([false] : List Bool))) .bool) then
    spigotref13_New.L2 n (IntKind.wrap .i64 (i + 1)) l2 l3 l4 (l5 ++ ([false] : List Bool))
  else none := res_eq (by kernel_rfl)
theorem spigotref13_New.F_eq (n : Int) : spigotref13_New.F n =
  bif (decide ((n : Int) < 1)) then
    some ((([] : List Int), ([] : List Bool), 0, ()), 2, ())
  else
    bif (decide ((n : Int) > 16)) then
      some ((([] : List Int), ([] : List Bool), 0, ()), 2, ())
    else
      spigotref13_New.L1 n ([] : List Int) ([] : List Bool) := by kernel_rfl
/-! ### spigot/spigotref15.Made (95) -/
noncomputable def spigotref15_Made.sg : Sig := ⟨[.val (.int .i64), .val (.slice (.int .i64))], [(t4, true)]⟩
noncomputable def spigotref15_Made.E : Env := ⟨tl, fun i => look i [], [], eqs, globs, prims⟩
noncomputable def spigotref15_Made.c := cxOf spigotref15_Made.E spigotref15_Made.sg Try.f95
noncomputable def spigotref15_Made.b := body Try.f95
noncomputable def spigotref15_Made.Fn : Fun := fnOf spigotref15_Made.E spigotref15_Made.sg Try.f95
noncomputable def spigotref15_Made.F (n : Int) (l : (List Int)) : Option (t4.den × Unit) := spigotref15_Made.Fn.F (n, l, ())
noncomputable def spigotref15_Made.S1 (n : Int) (l : (List Int)) (i : Int) (l2 : (List Int)) (l4 : (List Int)) : St := ⟨[(0, (.v (.int .i64) n)), (1, (.v (.slice (.int .i64)) l)), (4, (.ptr 0 [])), (5, (.ptr 1 [])), (6, (.v (.int .i64) i))], [(0, some (.box (.agg [(.sl 2), (.sl 3), (.v (.int .i64) 0), (.v (.int .i64) 0)]))), (1, some (.box (.agg [(.sl 4), (.sl 5), (.v (.int .i64) (-1)), (.v (.int .i64) (-1))]))), (2, some (.row (.int .i64) l2 false)), (3, some (.row (.int .i64) l2 false)), (4, some (.row (.int .i64) l4 false)), (5, some (.row (.int .i64) l4 false))], 6, []⟩
noncomputable def spigotref15_Made.L1 (n : Int) (l : (List Int)) (i : Int) (l2 : (List Int)) (l4 : (List Int)) : Option (t4.den × Unit) := res spigotref15_Made.c (atLoop spigotref15_Made.b [1, 1, 0, 1, 0]) (spigotref15_Made.S1 n l i l2 l4)
noncomputable def spigotref15_Made.S2 (n : Int) (l : (List Int)) (i : Int) (l2 : (List Int)) (l4 : (List Int)) : St := ⟨[(0, (.v (.int .i64) n)), (1, (.v (.slice (.int .i64)) l)), (4, (.ptr 0 [])), (5, (.ptr 1 [])), (6, (.v (.int .i64) i))], [(0, some (.box (.agg [(.sl 2), (.sl 3), (.v (.int .i64) 0), (.v (.int .i64) 0)]))), (1, some (.box (.agg [(.sl 4), (.sl 5), (.v (.int .i64) (-1)), (.v (.int .i64) (-1))]))), (2, some (.row (.int .i64) l2 false)), (3, some (.row (.int .i64) l2 false)), (4, some (.row (.int .i64) l4 false)), (5, some (.row (.int .i64) l4 false))], 6, []⟩
noncomputable def spigotref15_Made.L2 (n : Int) (l : (List Int)) (i : Int) (l2 : (List Int)) (l4 : (List Int)) : Option (t4.den × Unit) := res spigotref15_Made.c (atJoin spigotref15_Made.b [1, 1, 0, 1, 0, 0, 0, 1]) (spigotref15_Made.S2 n l i l2 l4)
noncomputable def spigotref15_Made.S3 (l : (List Int)) (i : Int) (b1 : Int) (b12 : Int) (l2 : (List Int)) (l4 : (List Int)) (l5 : (List Int)) : St := ⟨[(1, (.v (.slice (.int .i64)) l)), (4, (.ptr 0 [])), (5, (.ptr 1 [])), (7, (.v (.int .i64) i))], [(0, some (.box (.agg [(.sl 2), (.sl 3), (.v (.int .i64) 0), (.v (.int .i64) 0)]))), (1, some (.box (.agg [(.sl 4), (.sl 5), (.v (.int .i64) b1), (.v (.int .i64) b12)]))), (2, some (.row (.int .i64) l2 false)), (3, some (.row (.int .i64) l2 false)), (4, some (.row (.int .i64) l4 false)), (5, some (.row (.int .i64) l5 false))], 6, []⟩
noncomputable def spigotref15_Made.L3 (l : (List Int)) (i : Int) (b1 : Int) (b12 : Int) (l2 : (List Int)) (l4 : (List Int)) (l5 : (List Int)) : Option (t4.den × Unit) := res spigotref15_Made.c (atLoop spigotref15_Made.b [1, 1, 1, 0, 1, 0]) (spigotref15_Made.S3 l i b1 b12 l2 l4 l5)
noncomputable def spigotref15_Made.S4 (l : (List Int)) (i : Int) (b1 : Int) (b12 : Int) (l2 : (List Int)) (l4 : (List Int)) (l5 : (List Int)) : St := ⟨[(1, (.v (.slice (.int .i64)) l)), (4, (.ptr 0 [])), (5, (.ptr 1 [])), (7, (.v (.int .i64) i))], [(0, some (.box (.agg [(.sl 2), (.sl 3), (.v (.int .i64) 0), (.v (.int .i64) 0)]))), (1, some (.box (.agg [(.sl 4), (.sl 5), (.v (.int .i64) b1), (.v (.int .i64) b12)]))), (2, some (.row (.int .i64) l2 false)), (3, some (.row (.int .i64) l2 false)), (4, some (.row (.int .i64) l4 false)), (5, some (.row (.int .i64) l5 false))], 6, []⟩
noncomputable def spigotref15_Made.L4 (l : (List Int)) (i : Int) (b1 : Int) (b12 : Int) (l2 : (List Int)) (l4 : (List Int)) (l5 : (List Int)) : Option (t4.den × Unit) := res spigotref15_Made.c (atJoin spigotref15_Made.b [1, 1, 1, 0, 1, 0, 0, 0, 1]) (spigotref15_Made.S4 l i b1 b12 l2 l4 l5)
noncomputable def spigotref15_Made.S5 (l : (List Int)) (i : Int) (b1 : Int) (b12 : Int) (l2 : (List Int)) (l4 : (List Int)) (l5 : (List Int)) : St := ⟨[(1, (.v (.slice (.int .i64)) l)), (4, (.ptr 0 [])), (5, (.ptr 1 [])), (7, (.v (.int .i64) i))], [(0, some (.box (.agg [(.sl 2), (.sl 3), (.v (.int .i64) 0), (.v (.int .i64) 0)]))), (1, some (.box (.agg [(.sl 4), (.sl 5), (.v (.int .i64) b1), (.v (.int .i64) b12)]))), (2, some (.row (.int .i64) l2 false)), (3, some (.row (.int .i64) l2 false)), (4, some (.row (.int .i64) l4 false)), (5, some (.row (.int .i64) l5 false))], 6, []⟩
noncomputable def spigotref15_Made.L5 (l : (List Int)) (i : Int) (b1 : Int) (b12 : Int) (l2 : (List Int)) (l4 : (List Int)) (l5 : (List Int)) : Option (t4.den × Unit) := res spigotref15_Made.c (atJoin spigotref15_Made.b [1, 1, 1, 0, 1, 0, 0, 1, 0, 0, 0, 1]) (spigotref15_Made.S5 l i b1 b12 l2 l4 l5)
theorem spigotref15_Made.spec : FnSpec Try.prog globs 95 spigotref15_Made.Fn := spec_of (E := spigotref15_Made.E) (envOk_at tabOk eqOk primsOk (.nil)) mixOk Try.func95 (by kernel_rfl)
theorem spigotref15_Made.L1_eq (n : Int) (l : (List Int)) (i : Int) (l2 : (List Int)) (l4 : (List Int)) : spigotref15_Made.L1 n l i l2 l4 =
  bif (decide ((i : Int) < n)) then
    spigotref15_Made.L2 n l i l2 l4
  else
    spigotref15_Made.L3 l 0 (-1) (-1) l2 l4 l4 := res_eq (by kernel_rfl)
theorem spigotref15_Made.L2_eq (n : Int) (l : (List Int)) (i : Int) (l2 : (List Int)) (l4 : (List Int)) : spigotref15_Made.L2 n l i l2 l4 =
  bif (lim ((List.length l4) + (List.length ([(-1)] : List Int))) (.int .i64)) then
    bif (lim ((List.length l4) + (List.length ([(-1)] : List Int))) (.int .i64)) then
      spigotref15_Made.L1 n l (IntKind.wrap .i64 (i + 1)) l2 (l4 ++ ([(-1)] : List Int))
    else none
  else none := res_eq (by kernel_rfl)
theorem spigotref15_Made.L3_eq (l : (List Int)) (i : Int) (b1 : Int) (b12 : Int) (l2 : (List Int)) (l4 : (List Int)) (l5 : (List Int)) : spigotref15_Made.L3 l i b1 b12 l2 l4 l5 =
  bif (decide ((i : Int) < ((List.length l : Int)))) then
    spigotref15_Made.L4 l i b1 b12 l2 l4 l5
  else
    some ((l4, l5, b1, b12, ()), ()) := res_eq (by kernel_rfl)
theorem spigotref15_Made.L4_eq (l : (List Int)) (i : Int) (b1 : Int) (b12 : Int) (l2 : (List Int)) (l4 : (List Int)) (l5 : (List Int)) : spigotref15_Made.L4 l i b1 b12 l2 l4 l5 =
  bif (i == 0) then
    bif (decide ((0 : Int) ≤ i ∧ (i : Int) < ((List.length l : Int)))) then
      spigotref15_Made.L5 l i (List.getD l (Int.toNat i) 0) b12 l2 l4 l5
    else none
  else
    bif (decide ((0 : Int) ≤ i ∧ (i : Int) < ((List.length l : Int)))) then
      bif (decide ((0 : Int) ≤ (IntKind.wrap .i64 (i - 1)) ∧ ((IntKind.wrap .i64 (i - 1)) : Int) < ((List.length l : Int)))) then
        bif (decide ((0 : Int) ≤ (List.getD l (Int.toNat i) 0) ∧ ((List.getD l (Int.toNat i) 0) : Int) < ((List.length l4 : Int)))) then
          bif (decide ((0 : Int) ≤ (IntKind.wrap .i64 (i - 1)) ∧ ((IntKind.wrap .i64 (i - 1)) : Int) < ((List.length l : Int)))) then
            bif (decide ((0 : Int) ≤ i ∧ (i : Int) < ((List.length l : Int)))) then
              bif (decide ((0 : Int) ≤ (List.getD l (Int.toNat (IntKind.wrap .i64 (i - 1))) 0) ∧ ((List.getD l (Int.toNat (IntKind.wrap .i64 (i - 1))) 0) : Int) < ((List.length l5 : Int)))) then
                spigotref15_Made.L5 l i b1 b12 l2 (List.set l4 (Int.toNat (List.getD l (Int.toNat i) 0)) (List.getD l (Int.toNat (IntKind.wrap .i64 (i - 1))) 0)) (List.set l5 (Int.toNat (List.getD l (Int.toNat (IntKind.wrap .i64 (i - 1))) 0)) (List.getD l (Int.toNat i) 0))
              else none
            else none
          else none
        else none
      else none
    else none := res_eq (by kernel_rfl)
theorem spigotref15_Made.L5_eq (l : (List Int)) (i : Int) (b1 : Int) (b12 : Int) (l2 : (List Int)) (l4 : (List Int)) (l5 : (List Int)) : spigotref15_Made.L5 l i b1 b12 l2 l4 l5 =
  bif (decide ((0 : Int) ≤ i ∧ (i : Int) < ((List.length l : Int)))) then
    spigotref15_Made.L3 l (IntKind.wrap .i64 (i + 1)) b1 (List.getD l (Int.toNat i) 0) l2 l4 l5
  else none := res_eq (by kernel_rfl)
theorem spigotref15_Made.F_eq (n : Int) (l : (List Int)) : spigotref15_Made.F n l =
  spigotref15_Made.L1 n l 0 ([] : List Int) ([] : List Int) := by kernel_rfl
/-! ### spigot/spigotref15.New (88) -/
noncomputable def spigotref15_New.sg : Sig := ⟨[.val (.int .i64)], [(t4, true), ((.int .i64), true)]⟩
noncomputable def spigotref15_New.E : Env := ⟨tl, fun i => look i [(95, spigotref15_Made.Fn)], [], eqs, globs, prims⟩
noncomputable def spigotref15_New.c := cxOf spigotref15_New.E spigotref15_New.sg Try.f88
noncomputable def spigotref15_New.b := body Try.f88
noncomputable def spigotref15_New.Fn : Fun := fnOf spigotref15_New.E spigotref15_New.sg Try.f88
noncomputable def spigotref15_New.F (n : Int) : Option (t4.den × Int × Unit) := spigotref15_New.Fn.F (n, ())
noncomputable def spigotref15_New.S1 (n : Int) (l1 : (List Int)) : St := ⟨[(0, (.v (.int .i64) n)), (2, (.ptr 0 []))], [(0, some (.box (.agg [(.sl 1), (.sl 2), (.v (.int .i64) 0), (.v (.int .i64) 0)]))), (1, some (.row (.int .i64) l1 false)), (2, some (.row (.int .i64) l1 false))], 3, []⟩
noncomputable def spigotref15_New.L1 (n : Int) (l1 : (List Int)) : Option (t4.den × Int × Unit) := res spigotref15_New.c (atJoin spigotref15_New.b [1, 0, 1]) (spigotref15_New.S1 n l1)
theorem spigotref15_New.spec : FnSpec Try.prog globs 88 spigotref15_New.Fn := spec_of (E := spigotref15_New.E) (envOk_at tabOk eqOk primsOk (.cons spigotref15_Made.spec <| .nil)) mixOk Try.func88 (by kernel_rfl)
theorem spigotref15_New.L1_eq (n : Int) (l1 : (List Int)) : spigotref15_New.L1 n l1 =
  (spigotref15_Made.F n ([] : List Int)).bind fun r0 =>
  some (r0.1, 0, ()) := res_eq (by kernel_rfl)
theorem spigotref15_New.F_eq (n : Int) : spigotref15_New.F n =
  bif (decide ((n : Int) < 1)) then
    some ((([] : List Int), ([] : List Int), 0, 0, ()), 2, ())
  else
    bif (decide ((n : Int) > 16)) then
      some ((([] : List Int), ([] : List Int), 0, 0, ()), 2, ())
    else
      spigotref15_New.L1 n ([] : List Int) := by kernel_rfl
/-! ### spigot/spigotref16.New (58) -/
noncomputable def spigotref16_New.sg : Sig := ⟨[.val (.int .i64)], [(t5, true), ((.int .i64), true)]⟩
noncomputable def spigotref16_New.E : Env := ⟨tl, fun i => look i [(87, spigotref13_New.Fn), (88, spigotref15_New.Fn)], [], eqs, globs, prims⟩
noncomputable def spigotref16_New.c := cxOf spigotref16_New.E spigotref16_New.sg Try.f58
noncomputable def spigotref16_New.b := body Try.f58
noncomputable def spigotref16_New.Fn : Fun := fnOf spigotref16_New.E spigotref16_New.sg Try.f58
noncomputable def spigotref16_New.F (n : Int) : Option (t5.den × Int × Unit) := spigotref16_New.Fn.F (n, ())
noncomputable def spigotref16_New.S1 (n : Int) (l1 : (List Int)) (l2 : (List t1.den)) (l3 : (List Int)) (l4 : (List Bool)) (l5 : (List t3.den)) : St := ⟨[(0, (.v (.int .i64) n)), (2, (.ptr 0 []))], [(0, some (.box (.agg [(.v (.int .i64) 0), (.sl 1), (.sl 2), (.agg [(.sl 3), (.sl 4), (.v (.int .i64) 0)]), (.sl 5), (.agg [(.sl 6), (.sl 7), (.v (.int .i64) 0), (.v (.int .i64) 0)])]))), (1, some (.row (.int .u32) l1 false)), (2, some (.row t1 l2 false)), (3, some (.row (.int .i64) l3 false)), (4, some (.row .bool l4 false)), (5, some (.row t3 l5 false)), (6, some (.row (.int .i64) l3 false)), (7, some (.row (.int .i64) l3 false))], 8, []⟩
noncomputable def spigotref16_New.L1 (n : Int) (l1 : (List Int)) (l2 : (List t1.den)) (l3 : (List Int)) (l4 : (List Bool)) (l5 : (List t3.den)) : Option (t5.den × Int × Unit) := res spigotref16_New.c (atJoin spigotref16_New.b [1, 0, 1]) (spigotref16_New.S1 n l1 l2 l3 l4 l5)
theorem spigotref16_New.spec : FnSpec Try.prog globs 58 spigotref16_New.Fn := spec_of (E := spigotref16_New.E) (envOk_at tabOk eqOk primsOk (.cons spigotref13_New.spec <| .cons spigotref15_New.spec <| .nil)) mixOk Try.func58 (by kernel_rfl)
theorem spigotref16_New.L1_eq (n : Int) (l1 : (List Int)) (l2 : (List t1.den)) (l3 : (List Int)) (l4 : (List Bool)) (l5 : (List t3.den)) : spigotref16_New.L1 n l1 l2 l3 l4 l5 =
  bif (decide ((0 : Int) ≤ n ∧ (n : Int) ≤ n) && (lim (Int.toNat n) (.int .u32))) then
    bif (decide ((0 : Int) ≤ n ∧ (n : Int) ≤ n) && (lim (Int.toNat n) t1)) then
      bif (decide ((0 : Int) ≤ 16 ∧ (16 : Int) ≤ 16) && (lim (Int.toNat 16) t3)) then
        (spigotref13_New.F n).bind fun r0 =>
        (spigotref15_New.F n).bind fun r1 =>
        some ((n, (List.replicate (Int.toNat n) (0 : Int)), (List.replicate (Int.toNat n) ((0, 0, 0, ()), 0, 0, 0, ())), r0.1, (List.replicate (Int.toNat 16) (0, 0, false, ())), r1.1, ()), 0, ())
      else none
    else none
  else none := res_eq (by kernel_rfl)
theorem spigotref16_New.F_eq (n : Int) : spigotref16_New.F n =
  bif (decide ((n : Int) < 1)) then
    some ((0, ([] : List Int), ([] : List t1.den), (([] : List Int), ([] : List Bool), 0, ()), ([] : List t3.den), (([] : List Int), ([] : List Int), 0, 0, ()), ()), 2, ())
  else
    bif (decide ((n : Int) > 8)) then
      some ((0, ([] : List Int), ([] : List t1.den), (([] : List Int), ([] : List Bool), 0, ()), ([] : List t3.den), (([] : List Int), ([] : List Int), 0, 0, ()), ()), 2, ())
    else
      spigotref16_New.L1 n ([] : List Int) ([] : List t1.den) ([] : List Int) ([] : List Bool) ([] : List t3.den) := by kernel_rfl
/-! ### spigot/spigotref03.Full (59) -/
noncomputable def spigotref03_Full.sg : Sig := ⟨[.val t0, .val (.int .u64)], [(t1, true), ((.int .i64), true)]⟩
noncomputable def spigotref03_Full.E : Env := ⟨tl, fun i => look i [(66, spigotref03_CheckLimit.Fn)], [], eqs, globs, prims⟩
noncomputable def spigotref03_Full.c := cxOf spigotref03_Full.E spigotref03_Full.sg Try.f59
noncomputable def spigotref03_Full.b := body Try.f59
noncomputable def spigotref03_Full.Fn : Fun := fnOf spigotref03_Full.E spigotref03_Full.sg Try.f59
noncomputable def spigotref03_Full.F (l : t0.den) (at_ : Int) : Option (t1.den × Int × Unit) := spigotref03_Full.Fn.F (l, at_, ())
noncomputable def spigotref03_Full.S1 (at_ : Int) (b0 : Int) (b02 : Int) (b03 : Int) : St := ⟨[(1, (.v (.int .u64) at_)), (2, (.ptr 0 [])), (4, (.ptr 1 []))], [(0, some (.box (.agg [(.v (.int .i64) b0), (.v (.int .i64) b02), (.v (.int .i64) b03)]))), (1, some (.box (.agg [(.agg [(.v (.int .i64) 0), (.v (.int .i64) 0), (.v (.int .i64) 0)]), (.v (.int .i64) 0), (.v (.int .i64) 0), (.v (.int .u64) 0)])))], 2, []⟩
noncomputable def spigotref03_Full.L1 (at_ : Int) (b0 : Int) (b02 : Int) (b03 : Int) : Option (t1.den × Int × Unit) := res spigotref03_Full.c (atJoin spigotref03_Full.b [1, 0, 1]) (spigotref03_Full.S1 at_ b0 b02 b03)
theorem spigotref03_Full.spec : FnSpec Try.prog globs 59 spigotref03_Full.Fn := spec_of (E := spigotref03_Full.E) (envOk_at tabOk eqOk primsOk (.cons spigotref03_CheckLimit.spec <| .nil)) mixOk Try.func59 (by kernel_rfl)
theorem spigotref03_Full.L1_eq (at_ : Int) (b0 : Int) (b02 : Int) (b03 : Int) : spigotref03_Full.L1 at_ b0 b02 b03 =
  some (((b0, b02, b03, ()), b0, 0, at_, ()), 0, ()) := res_eq (by kernel_rfl)
theorem spigotref03_Full.F_eq (l : t0.den) (at_ : Int) : spigotref03_Full.F l at_ =
  (spigotref03_CheckLimit.F l).bind fun r0 =>
  bif (r0.1 != 0) then
    (spigotref03_CheckLimit.F l).bind fun r1 =>
    some (((0, 0, 0, ()), 0, 0, 0, ()), r1.1, ())
  else
    spigotref03_Full.L1 at_ l.1 l.2.1 l.2.2.1 := by kernel_rfl
/-! ### spigot/spigotref18.New (36) -/
noncomputable def spigotref18_New.sg : Sig := ⟨[.val (.int .u32), .val (.arr 3 t0), .val (.int .i64), .val (.int .i64), .val (.int .u64)], [(t7, true), ((.int .i64), true)]⟩
noncomputable def spigotref18_New.E : Env := ⟨tl, fun i => look i [(43, spigotref18_Limited.Fn), (58, spigotref16_New.Fn), (59, spigotref03_Full.Fn)], [], eqs, globs, prims⟩
noncomputable def spigotref18_New.c := cxOf spigotref18_New.E spigotref18_New.sg Try.f36
noncomputable def spigotref18_New.b := body Try.f36
noncomputable def spigotref18_New.Fn : Fun := fnOf spigotref18_New.E spigotref18_New.sg Try.f36
noncomputable def spigotref18_New.F (tenant : Int) (l : (List t0.den)) (users : Int) (ends : Int) (tick : Int) : Option (t7.den × Int × Unit) := spigotref18_New.Fn.F (tenant, l, users, ends, tick, ())
noncomputable def spigotref18_New.S1 (tenant : Int) (tick : Int) (b0 : (List t0.den)) (b1 : (List t0.den)) (b2 : Int) (b22 : Int) (b23 : Int) (b24 : Int) (b3 : Int) (b32 : Int) (b33 : Int) (b34 : Int) (l4 : (List Int)) (l5 : (List t1.den)) (l6 : (List Int)) (l7 : (List Bool)) (l8 : (List t3.den)) (l19 : (List Int)) (l20 : (List t1.den)) (l21 : (List Int)) (l22 : (List Bool)) (l23 : (List t3.den)) (l24 : (List Int)) (l25 : (List Int)) (l26 : (List Int)) (l27 : (List t1.den)) (l28 : (List Int)) (l29 : (List Bool)) (l30 : (List t3.den)) (l31 : (List Int)) (l32 : (List Int)) : St := ⟨[(0, (.v (.int .u32) tenant)), (4, (.v (.int .u64) tick)), (6, (.ptr 0 [])), (10, (.ptr 1 [])), (12, (.ptr 2 [])), (14, (.ptr 3 []))], [(0, some (.box (.v (.arr 3 t0) b0))), (1, some (.box (.agg [(.v (.int .u32) 0), (.v (.arr 3 t0) b1), (.agg [(.agg [(.v (.int .i64) 0), (.v (.int .i64) 0), (.v (.int .i64) 0)]), (.v (.int .i64) 0), (.v (.int .i64) 0), (.v (.int .u64) 0)]), (.agg [(.v (.int .i64) 0), (.sl 4), (.sl 5), (.agg [(.sl 6), (.sl 7), (.v (.int .i64) 0)]), (.sl 8), (.agg [(.sl 9), (.sl 10), (.v (.int .i64) 0), (.v (.int .i64) 0)])]), (.agg [(.v (.int .i64) 0), (.sl 11), (.sl 12), (.agg [(.sl 13), (.sl 14), (.v (.int .i64) 0)]), (.sl 15), (.agg [(.sl 16), (.sl 17), (.v (.int .i64) 0), (.v (.int .i64) 0)])]), (.sl 18), (.agg [(.v (.int .u64) 0), (.v (.int .u64) 0), (.v (.int .u64) 0)])]))), (2, some (.box (.agg [(.v (.int .i64) b2), (.sl 19), (.sl 20), (.agg [(.sl 21), (.sl 22), (.v (.int .i64) b22)]), (.sl 23), (.agg [(.sl 24), (.sl 25), (.v (.int .i64) b23), (.v (.int .i64) b24)])]))), (3, some (.box (.agg [(.v (.int .i64) b3), (.sl 26), (.sl 27), (.agg [(.sl 28), (.sl 29), (.v (.int .i64) b32)]), (.sl 30), (.agg [(.sl 31), (.sl 32), (.v (.int .i64) b33), (.v (.int .i64) b34)])]))), (4, some (.row (.int .u32) l4 false)), (5, some (.row t1 l5 false)), (6, some (.row (.int .i64) l6 false)), (7, some (.row .bool l7 false)), (8, some (.row t3 l8 false)), (9, some (.row (.int .i64) l6 false)), (10, some (.row (.int .i64) l6 false)), (11, some (.row (.int .u32) l4 false)), (12, some (.row t1 l5 false)), (13, some (.row (.int .i64) l6 false)), (14, some (.row .bool l7 false)), (15, some (.row t3 l8 false)), (16, some (.row (.int .i64) l6 false)), (17, some (.row (.int .i64) l6 false)), (18, some (.row (.int .u32) l4 false)), (19, some (.row (.int .u32) l19 false)), (20, some (.row t1 l20 false)), (21, some (.row (.int .i64) l21 false)), (22, some (.row .bool l22 false)), (23, some (.row t3 l23 false)), (24, some (.row (.int .i64) l24 false)), (25, some (.row (.int .i64) l25 false)), (26, some (.row (.int .u32) l26 false)), (27, some (.row t1 l27 false)), (28, some (.row (.int .i64) l28 false)), (29, some (.row .bool l29 false)), (30, some (.row t3 l30 false)), (31, some (.row (.int .i64) l31 false)), (32, some (.row (.int .i64) l32 false))], 33, []⟩
noncomputable def spigotref18_New.L1 (tenant : Int) (tick : Int) (b0 : (List t0.den)) (b1 : (List t0.den)) (b2 : Int) (b22 : Int) (b23 : Int) (b24 : Int) (b3 : Int) (b32 : Int) (b33 : Int) (b34 : Int) (l4 : (List Int)) (l5 : (List t1.den)) (l6 : (List Int)) (l7 : (List Bool)) (l8 : (List t3.den)) (l19 : (List Int)) (l20 : (List t1.den)) (l21 : (List Int)) (l22 : (List Bool)) (l23 : (List t3.den)) (l24 : (List Int)) (l25 : (List Int)) (l26 : (List Int)) (l27 : (List t1.den)) (l28 : (List Int)) (l29 : (List Bool)) (l30 : (List t3.den)) (l31 : (List Int)) (l32 : (List Int)) : Option (t7.den × Int × Unit) := res spigotref18_New.c (atJoin spigotref18_New.b [1, 1, 1, 0, 1]) (spigotref18_New.S1 tenant tick b0 b1 b2 b22 b23 b24 b3 b32 b33 b34 l4 l5 l6 l7 l8 l19 l20 l21 l22 l23 l24 l25 l26 l27 l28 l29 l30 l31 l32)
noncomputable def spigotref18_New.S2 (tenant : Int) (tick : Int) (b0 : (List t0.den)) (b1 : (List t0.den)) (b2 : Int) (b22 : Int) (b23 : Int) (b24 : Int) (b3 : Int) (b32 : Int) (b33 : Int) (b34 : Int) (l4 : (List Int)) (l5 : (List t1.den)) (l6 : (List Int)) (l7 : (List Bool)) (l8 : (List t3.den)) (l19 : (List Int)) (l20 : (List t1.den)) (l21 : (List Int)) (l22 : (List Bool)) (l23 : (List t3.den)) (l24 : (List Int)) (l25 : (List Int)) (l26 : (List Int)) (l27 : (List t1.den)) (l28 : (List Int)) (l29 : (List Bool)) (l30 : (List t3.den)) (l31 : (List Int)) (l32 : (List Int)) : St := ⟨[(0, (.v (.int .u32) tenant)), (4, (.v (.int .u64) tick)), (6, (.ptr 0 [])), (10, (.ptr 1 [])), (12, (.ptr 2 [])), (14, (.ptr 3 []))], [(0, some (.box (.v (.arr 3 t0) b0))), (1, some (.box (.agg [(.v (.int .u32) 0), (.v (.arr 3 t0) b1), (.agg [(.agg [(.v (.int .i64) 0), (.v (.int .i64) 0), (.v (.int .i64) 0)]), (.v (.int .i64) 0), (.v (.int .i64) 0), (.v (.int .u64) 0)]), (.agg [(.v (.int .i64) 0), (.sl 4), (.sl 5), (.agg [(.sl 6), (.sl 7), (.v (.int .i64) 0)]), (.sl 8), (.agg [(.sl 9), (.sl 10), (.v (.int .i64) 0), (.v (.int .i64) 0)])]), (.agg [(.v (.int .i64) 0), (.sl 11), (.sl 12), (.agg [(.sl 13), (.sl 14), (.v (.int .i64) 0)]), (.sl 15), (.agg [(.sl 16), (.sl 17), (.v (.int .i64) 0), (.v (.int .i64) 0)])]), (.sl 18), (.agg [(.v (.int .u64) 0), (.v (.int .u64) 0), (.v (.int .u64) 0)])]))), (2, some (.box (.agg [(.v (.int .i64) b2), (.sl 19), (.sl 20), (.agg [(.sl 21), (.sl 22), (.v (.int .i64) b22)]), (.sl 23), (.agg [(.sl 24), (.sl 25), (.v (.int .i64) b23), (.v (.int .i64) b24)])]))), (3, some (.box (.agg [(.v (.int .i64) b3), (.sl 26), (.sl 27), (.agg [(.sl 28), (.sl 29), (.v (.int .i64) b32)]), (.sl 30), (.agg [(.sl 31), (.sl 32), (.v (.int .i64) b33), (.v (.int .i64) b34)])]))), (4, some (.row (.int .u32) l4 false)), (5, some (.row t1 l5 false)), (6, some (.row (.int .i64) l6 false)), (7, some (.row .bool l7 false)), (8, some (.row t3 l8 false)), (9, some (.row (.int .i64) l6 false)), (10, some (.row (.int .i64) l6 false)), (11, some (.row (.int .u32) l4 false)), (12, some (.row t1 l5 false)), (13, some (.row (.int .i64) l6 false)), (14, some (.row .bool l7 false)), (15, some (.row t3 l8 false)), (16, some (.row (.int .i64) l6 false)), (17, some (.row (.int .i64) l6 false)), (18, some (.row (.int .u32) l4 false)), (19, some (.row (.int .u32) l19 false)), (20, some (.row t1 l20 false)), (21, some (.row (.int .i64) l21 false)), (22, some (.row .bool l22 false)), (23, some (.row t3 l23 false)), (24, some (.row (.int .i64) l24 false)), (25, some (.row (.int .i64) l25 false)), (26, some (.row (.int .u32) l26 false)), (27, some (.row t1 l27 false)), (28, some (.row (.int .i64) l28 false)), (29, some (.row .bool l29 false)), (30, some (.row t3 l30 false)), (31, some (.row (.int .i64) l31 false)), (32, some (.row (.int .i64) l32 false))], 33, []⟩
noncomputable def spigotref18_New.L2 (tenant : Int) (tick : Int) (b0 : (List t0.den)) (b1 : (List t0.den)) (b2 : Int) (b22 : Int) (b23 : Int) (b24 : Int) (b3 : Int) (b32 : Int) (b33 : Int) (b34 : Int) (l4 : (List Int)) (l5 : (List t1.den)) (l6 : (List Int)) (l7 : (List Bool)) (l8 : (List t3.den)) (l19 : (List Int)) (l20 : (List t1.den)) (l21 : (List Int)) (l22 : (List Bool)) (l23 : (List t3.den)) (l24 : (List Int)) (l25 : (List Int)) (l26 : (List Int)) (l27 : (List t1.den)) (l28 : (List Int)) (l29 : (List Bool)) (l30 : (List t3.den)) (l31 : (List Int)) (l32 : (List Int)) : Option (t7.den × Int × Unit) := res spigotref18_New.c (atJoin spigotref18_New.b [1, 1, 1, 1, 0, 1]) (spigotref18_New.S2 tenant tick b0 b1 b2 b22 b23 b24 b3 b32 b33 b34 l4 l5 l6 l7 l8 l19 l20 l21 l22 l23 l24 l25 l26 l27 l28 l29 l30 l31 l32)
theorem spigotref18_New.spec : FnSpec Try.prog globs 36 spigotref18_New.Fn := spec_of (E := spigotref18_New.E) (envOk_at tabOk eqOk primsOk (.cons spigotref18_Limited.spec <| .cons spigotref16_New.spec <| .cons spigotref03_Full.spec <| .nil)) mixOk Try.func36 (by kernel_rfl)
theorem spigotref18_New.L1_eq (tenant : Int) (tick : Int) (b0 : (List t0.den)) (b1 : (List t0.den)) (b2 : Int) (b22 : Int) (b23 : Int) (b24 : Int) (b3 : Int) (b32 : Int) (b33 : Int) (b34 : Int) (l4 : (List Int)) (l5 : (List t1.den)) (l6 : (List Int)) (l7 : (List Bool)) (l8 : (List t3.den)) (l19 : (List Int)) (l20 : (List t1.den)) (l21 : (List Int)) (l22 : (List Bool)) (l23 : (List t3.den)) (l24 : (List Int)) (l25 : (List Int)) (l26 : (List Int)) (l27 : (List t1.den)) (l28 : (List Int)) (l29 : (List Bool)) (l30 : (List t3.den)) (l31 : (List Int)) (l32 : (List Int)) : spigotref18_New.L1 tenant tick b0 b1 b2 b22 b23 b24 b3 b32 b33 b34 l4 l5 l6 l7 l8 l19 l20 l21 l22 l23 l24 l25 l26 l27 l28 l29 l30 l31 l32 =
  (spigotref18_Limited.F b0).bind fun r0 =>
  bif (!r0.1) then
    some ((0, (List.replicate 3 (0, 0, 0, ())), ((0, 0, 0, ()), 0, 0, 0, ()), (0, ([] : List Int), ([] : List t1.den), (([] : List Int), ([] : List Bool), 0, ()), ([] : List t3.den), (([] : List Int), ([] : List Int), 0, 0, ()), ()), (0, ([] : List Int), ([] : List t1.den), (([] : List Int), ([] : List Bool), 0, ()), ([] : List t3.den), (([] : List Int), ([] : List Int), 0, 0, ()), ()), ([] : List Int), (0, 0, 0, ()), ()), 8, ())
  else
    spigotref18_New.L2 tenant tick b0 b1 b2 b22 b23 b24 b3 b32 b33 b34 l4 l5 l6 l7 l8 l19 l20 l21 l22 l23 l24 l25 l26 l27 l28 l29 l30 l31 l32 := res_eq (by kernel_rfl)
theorem spigotref18_New.L2_eq (tenant : Int) (tick : Int) (b0 : (List t0.den)) (b1 : (List t0.den)) (b2 : Int) (b22 : Int) (b23 : Int) (b24 : Int) (b3 : Int) (b32 : Int) (b33 : Int) (b34 : Int) (l4 : (List Int)) (l5 : (List t1.den)) (l6 : (List Int)) (l7 : (List Bool)) (l8 : (List t3.den)) (l19 : (List Int)) (l20 : (List t1.den)) (l21 : (List Int)) (l22 : (List Bool)) (l23 : (List t3.den)) (l24 : (List Int)) (l25 : (List Int)) (l26 : (List Int)) (l27 : (List t1.den)) (l28 : (List Int)) (l29 : (List Bool)) (l30 : (List t3.den)) (l31 : (List Int)) (l32 : (List Int)) : spigotref18_New.L2 tenant tick b0 b1 b2 b22 b23 b24 b3 b32 b33 b34 l4 l5 l6 l7 l8 l19 l20 l21 l22 l23 l24 l25 l26 l27 l28 l29 l30 l31 l32 =
  bif (decide ((0 : Int) ≤ 0 ∧ (0 : Int) < 3)) then
    (spigotref03_Full.F (List.getD b0 (Int.toNat 0) (0, 0, 0, ())) tick).bind fun r0 =>
    some ((tenant, b0, r0.1, (b2, l19, l20, (l21, l22, b22, ()), l23, (l24, l25, b23, b24, ()), ()), (b3, l26, l27, (l28, l29, b32, ()), l30, (l31, l32, b33, b34, ()), ()), ([] : List Int), (0, 0, 0, ()), ()), 0, ())
  else none := res_eq (by kernel_rfl)
theorem spigotref18_New.F_eq (tenant : Int) (l : (List t0.den)) (users : Int) (ends : Int) (tick : Int) : spigotref18_New.F tenant l users ends tick =
  (spigotref16_New.F users).bind fun r0 =>
  (spigotref16_New.F ends).bind fun r1 =>
  bif (decide ((tenant : Int) ≥ 16)) then
    some ((0, (List.replicate 3 (0, 0, 0, ())), ((0, 0, 0, ()), 0, 0, 0, ()), (0, ([] : List Int), ([] : List t1.den), (([] : List Int), ([] : List Bool), 0, ()), ([] : List t3.den), (([] : List Int), ([] : List Int), 0, 0, ()), ()), (0, ([] : List Int), ([] : List t1.den), (([] : List Int), ([] : List Bool), 0, ()), ([] : List t3.den), (([] : List Int), ([] : List Int), 0, 0, ()), ()), ([] : List Int), (0, 0, 0, ()), ()), 2, ())
  else
    bif (r0.2.1 != 0) then
      some ((0, (List.replicate 3 (0, 0, 0, ())), ((0, 0, 0, ()), 0, 0, 0, ()), (0, ([] : List Int), ([] : List t1.den), (([] : List Int), ([] : List Bool), 0, ()), ([] : List t3.den), (([] : List Int), ([] : List Int), 0, 0, ()), ()), (0, ([] : List Int), ([] : List t1.den), (([] : List Int), ([] : List Bool), 0, ()), ([] : List t3.den), (([] : List Int), ([] : List Int), 0, 0, ()), ()), ([] : List Int), (0, 0, 0, ()), ()), 2, ())
    else
      bif (r1.2.1 != 0) then
        some ((0, (List.replicate 3 (0, 0, 0, ())), ((0, 0, 0, ()), 0, 0, 0, ()), (0, ([] : List Int), ([] : List t1.den), (([] : List Int), ([] : List Bool), 0, ()), ([] : List t3.den), (([] : List Int), ([] : List Int), 0, 0, ()), ()), (0, ([] : List Int), ([] : List t1.den), (([] : List Int), ([] : List Bool), 0, ()), ([] : List t3.den), (([] : List Int), ([] : List Int), 0, 0, ()), ()), ([] : List Int), (0, 0, 0, ()), ()), 2, ())
      else
        spigotref18_New.L1 tenant tick l (List.replicate 3 (0, 0, 0, ())) r0.1.1 r0.1.2.2.2.1.2.2.1 r0.1.2.2.2.2.2.1.2.2.1 r0.1.2.2.2.2.2.1.2.2.2.1 r1.1.1 r1.1.2.2.2.1.2.2.1 r1.1.2.2.2.2.2.1.2.2.1 r1.1.2.2.2.2.2.1.2.2.2.1 ([] : List Int) ([] : List t1.den) ([] : List Int) ([] : List Bool) ([] : List t3.den) r0.1.2.1 r0.1.2.2.1 r0.1.2.2.2.1.1 r0.1.2.2.2.1.2.1 r0.1.2.2.2.2.1 r0.1.2.2.2.2.2.1.1 r0.1.2.2.2.2.2.1.2.1 r1.1.2.1 r1.1.2.2.1 r1.1.2.2.2.1.1 r1.1.2.2.2.1.2.1 r1.1.2.2.2.2.1 r1.1.2.2.2.2.2.1.1 r1.1.2.2.2.2.2.1.2.1 := by kernel_rfl
/-! ### spigot/spigotlaw19.of (11) -/
noncomputable def spigotlaw19_of.sg : Sig := ⟨[.val (.int .u32)], [(t7, true)]⟩
noncomputable def spigotlaw19_of.E : Env := ⟨tl, fun i => look i [(36, spigotref18_New.Fn)], [], eqs, globs, prims⟩
noncomputable def spigotlaw19_of.c := cxOf spigotlaw19_of.E spigotlaw19_of.sg Try.f11
noncomputable def spigotlaw19_of.b := body Try.f11
noncomputable def spigotlaw19_of.Fn : Fun := fnOf spigotlaw19_of.E spigotlaw19_of.sg Try.f11
noncomputable def spigotlaw19_of.F (tenant : Int) : Option (t7.den × Unit) := spigotlaw19_of.Fn.F (tenant, ())
theorem spigotlaw19_of.spec : FnSpec Try.prog globs 11 spigotlaw19_of.Fn := spec_of (E := spigotlaw19_of.E) (envOk_at tabOk eqOk primsOk (.cons spigotref18_New.spec <| .nil)) mixOk Try.func11 (by kernel_rfl)
theorem spigotlaw19_of.F_eq (tenant : Int) : spigotlaw19_of.F tenant =
  (spigotref18_New.F tenant ([(4, 1, 1, ()), (3, 1, 1, ()), (2, 1, 1, ())] : List t0.den) 2 2 0).bind fun r0 =>
  some (r0.1, ()) := by kernel_rfl
/-! ### spigot/registry.Tenants (24) -/
noncomputable def registry_Tenants.sg : Sig := ⟨[.val (.slice t7)], [((.slice (.int .u32)), true), ((.int .i64), true)]⟩
noncomputable def registry_Tenants.E : Env := ⟨tl, fun i => look i [(26, registry_Check.Fn)], [], eqs, globs, prims⟩
noncomputable def registry_Tenants.c := cxOf registry_Tenants.E registry_Tenants.sg Try.f24
noncomputable def registry_Tenants.b := body Try.f24
noncomputable def registry_Tenants.Fn : Fun := fnOf registry_Tenants.E registry_Tenants.sg Try.f24
noncomputable def registry_Tenants.F (l : (List t7.den)) : Option ((List Int) × Int × Unit) := registry_Tenants.Fn.F (l, ())
noncomputable def registry_Tenants.S1 (l : (List t7.den)) : St := ⟨[(0, (.v (.slice t7) l))], [], 0, []⟩
noncomputable def registry_Tenants.L1 (l : (List t7.den)) : Option ((List Int) × Int × Unit) := res registry_Tenants.c (atJoin registry_Tenants.b [1, 0, 1, 1]) (registry_Tenants.S1 l)
noncomputable def registry_Tenants.S2 (t13_ : (List t7.den)) (t14_ : Int) (t15_ : Int) (l0 : (List Int)) : St := ⟨[(5, (.sl 0)), (13, (.v (.slice t7) t13_)), (14, (.v (.int .i64) t14_)), (15, (.v (.int .i64) t15_))], [(0, some (.row (.int .u32) l0 false))], 1, []⟩
noncomputable def registry_Tenants.L2 (t13_ : (List t7.den)) (t14_ : Int) (t15_ : Int) (l0 : (List Int)) : Option ((List Int) × Int × Unit) := res registry_Tenants.c (atLoop registry_Tenants.b [1, 1, 1, 0, 1, 0]) (registry_Tenants.S2 t13_ t14_ t15_ l0)
noncomputable def registry_Tenants.S3 (t13_ : (List t7.den)) (t14_ : Int) (t15_ : Int) (l0 : (List Int)) : St := ⟨[(5, (.sl 0)), (13, (.v (.slice t7) t13_)), (14, (.v (.int .i64) t14_)), (15, (.v (.int .i64) t15_))], [(0, some (.row (.int .u32) l0 false))], 1, []⟩
noncomputable def registry_Tenants.L3 (t13_ : (List t7.den)) (t14_ : Int) (t15_ : Int) (l0 : (List Int)) : Option ((List Int) × Int × Unit) := res registry_Tenants.c (atJoin registry_Tenants.b [1, 1, 1, 0, 1, 0, 0, 1, 0]) (registry_Tenants.S3 t13_ t14_ t15_ l0)
theorem registry_Tenants.spec : FnSpec Try.prog globs 24 registry_Tenants.Fn := spec_of (E := registry_Tenants.E) (envOk_at tabOk eqOk primsOk (.cons registry_Check.spec <| .nil)) mixOk Try.func24 (by kernel_rfl)
theorem registry_Tenants.L1_eq (l : (List t7.den)) : registry_Tenants.L1 l =
  registry_Tenants.L2 l ((List.length l : Int)) 0 ([] : List Int) := res_eq (by kernel_rfl)
theorem registry_Tenants.L2_eq (t13_ : (List t7.den)) (t14_ : Int) (t15_ : Int) (l0 : (List Int)) : registry_Tenants.L2 t13_ t14_ t15_ l0 =
  bif (decide ((t15_ : Int) < t14_)) then
    registry_Tenants.L3 t13_ t14_ t15_ l0
  else
    some (l0, 0, ()) := res_eq (by kernel_rfl)
theorem registry_Tenants.L3_eq (t13_ : (List t7.den)) (t14_ : Int) (t15_ : Int) (l0 : (List Int)) : registry_Tenants.L3 t13_ t14_ t15_ l0 =
  bif (decide ((0 : Int) ≤ t15_ ∧ (t15_ : Int) < ((List.length t13_ : Int)))) then
    bif (lim ((List.length l0) + (List.length ([(List.getD t13_ (Int.toNat t15_) (0, (List.replicate 3 (0, 0, 0, ())), ((0, 0, 0, ()), 0, 0, 0, ()), (0, ([] : List Int), ([] : List t1.den), (([] : List Int), ([] : List Bool), 0, ()), ([] : List t3.den), (([] : List Int), ([] : List Int), 0, 0, ()), ()), (0, ([] : List Int), ([] : List t1.den), (([] : List Int), ([] : List Bool), 0, ()), ([] : List t3.den), (([] : List Int), ([] : List Int), 0, 0, ()), ()), ([] : List Int), (0, 0, 0, ()), ())).1] : List Int))) (.int .u32)) then
      registry_Tenants.L2 t13_ t14_ (IntKind.wrap .i64 (t15_ + 1)) (l0 ++ ([(List.getD t13_ (Int.toNat t15_) (0, (List.replicate 3 (0, 0, 0, ())), ((0, 0, 0, ()), 0, 0, 0, ()), (0, ([] : List Int), ([] : List t1.den), (([] : List Int), ([] : List Bool), 0, ()), ([] : List t3.den), (([] : List Int), ([] : List Int), 0, 0, ()), ()), (0, ([] : List Int), ([] : List t1.den), (([] : List Int), ([] : List Bool), 0, ()), ([] : List t3.den), (([] : List Int), ([] : List Int), 0, 0, ()), ()), ([] : List Int), (0, 0, 0, ()), ())).1] : List Int))
    else none
  else none := res_eq (by kernel_rfl)
theorem registry_Tenants.F_eq (l : (List t7.den)) : registry_Tenants.F l =
  (registry_Check.F l).bind fun r0 =>
  bif (r0.1 != 0) then
    some (([] : List Int), r0.1, ())
  else
    registry_Tenants.L1 l := by kernel_rfl
/-! ### spigot/spigotref16.SameKeys (27) -/
noncomputable def spigotref16_SameKeys.sg : Sig := ⟨[.val (.slice (.int .u32)), .val (.slice (.int .u32))], [(.bool, true)]⟩
noncomputable def spigotref16_SameKeys.E : Env := ⟨tl, fun i => look i [], [], eqs, globs, prims⟩
noncomputable def spigotref16_SameKeys.c := cxOf spigotref16_SameKeys.E spigotref16_SameKeys.sg Try.f27
noncomputable def spigotref16_SameKeys.b := body Try.f27
noncomputable def spigotref16_SameKeys.Fn : Fun := fnOf spigotref16_SameKeys.E spigotref16_SameKeys.sg Try.f27
noncomputable def spigotref16_SameKeys.F (a : (List Int)) (b : (List Int)) : Option (Bool × Unit) := spigotref16_SameKeys.Fn.F (a, b, ())
noncomputable def spigotref16_SameKeys.S1 (a : (List Int)) (b : (List Int)) : St := ⟨[(0, (.v (.slice (.int .u32)) a)), (1, (.v (.slice (.int .u32)) b))], [], 0, []⟩
noncomputable def spigotref16_SameKeys.L1 (a : (List Int)) (b : (List Int)) : Option (Bool × Unit) := res spigotref16_SameKeys.c (atJoin spigotref16_SameKeys.b [1, 0, 1]) (spigotref16_SameKeys.S1 a b)
noncomputable def spigotref16_SameKeys.S2 (a : (List Int)) (b : (List Int)) (i : Int) : St := ⟨[(0, (.v (.slice (.int .u32)) a)), (1, (.v (.slice (.int .u32)) b)), (5, (.v (.int .i64) i))], [], 0, []⟩
noncomputable def spigotref16_SameKeys.L2 (a : (List Int)) (b : (List Int)) (i : Int) : Option (Bool × Unit) := res spigotref16_SameKeys.c (atLoop spigotref16_SameKeys.b [1, 1, 0, 1, 0]) (spigotref16_SameKeys.S2 a b i)
noncomputable def spigotref16_SameKeys.S3 (a : (List Int)) (b : (List Int)) (i : Int) : St := ⟨[(0, (.v (.slice (.int .u32)) a)), (1, (.v (.slice (.int .u32)) b)), (5, (.v (.int .i64) i))], [], 0, []⟩
noncomputable def spigotref16_SameKeys.L3 (a : (List Int)) (b : (List Int)) (i : Int) : Option (Bool × Unit) := res spigotref16_SameKeys.c (atJoin spigotref16_SameKeys.b [1, 1, 0, 1, 0, 0, 0, 1]) (spigotref16_SameKeys.S3 a b i)
noncomputable def spigotref16_SameKeys.S4 (a : (List Int)) (b : (List Int)) (i : Int) : St := ⟨[(0, (.v (.slice (.int .u32)) a)), (1, (.v (.slice (.int .u32)) b)), (5, (.v (.int .i64) i))], [], 0, []⟩
noncomputable def spigotref16_SameKeys.L4 (a : (List Int)) (b : (List Int)) (i : Int) : Option (Bool × Unit) := res spigotref16_SameKeys.c (atJoin spigotref16_SameKeys.b [1, 1, 0, 1, 0, 0, 1, 0, 0, 1]) (spigotref16_SameKeys.S4 a b i)
theorem spigotref16_SameKeys.spec : FnSpec Try.prog globs 27 spigotref16_SameKeys.Fn := spec_of (E := spigotref16_SameKeys.E) (envOk_at tabOk eqOk primsOk (.nil)) mixOk Try.func27 (by kernel_rfl)
theorem spigotref16_SameKeys.L1_eq (a : (List Int)) (b : (List Int)) : spigotref16_SameKeys.L1 a b =
  spigotref16_SameKeys.L2 a b 0 := res_eq (by kernel_rfl)
theorem spigotref16_SameKeys.L2_eq (a : (List Int)) (b : (List Int)) (i : Int) : spigotref16_SameKeys.L2 a b i =
  bif (decide ((i : Int) < ((List.length a : Int)))) then
    spigotref16_SameKeys.L3 a b i
  else
    some (true, ()) := res_eq (by kernel_rfl)
theorem spigotref16_SameKeys.L3_eq (a : (List Int)) (b : (List Int)) (i : Int) : spigotref16_SameKeys.L3 a b i =
  bif (decide ((0 : Int) ≤ i ∧ (i : Int) < ((List.length a : Int)))) then
    bif (decide ((0 : Int) ≤ i ∧ (i : Int) < ((List.length b : Int)))) then
      bif ((List.getD a (Int.toNat i) 0) != (List.getD b (Int.toNat i) 0)) then
        some (false, ())
      else
        spigotref16_SameKeys.L4 a b i
    else none
  else none := res_eq (by kernel_rfl)
theorem spigotref16_SameKeys.L4_eq (a : (List Int)) (b : (List Int)) (i : Int) : spigotref16_SameKeys.L4 a b i =
  spigotref16_SameKeys.L2 a b (IntKind.wrap .i64 (i + 1)) := res_eq (by kernel_rfl)
theorem spigotref16_SameKeys.F_eq (a : (List Int)) (b : (List Int)) : spigotref16_SameKeys.F a b =
  bif (((List.length a : Int)) != ((List.length b : Int))) then
    some (false, ())
  else
    spigotref16_SameKeys.L1 a b := by kernel_rfl
/-! ### spigot/spigotlaw19.alive (8) -/
noncomputable def spigotlaw19_alive.sg : Sig := ⟨[], [(.bool, true)]⟩
noncomputable def spigotlaw19_alive.E : Env := ⟨tl, fun i => look i [(9, registry_Drop.Fn), (10, registry_Put.Fn), (11, spigotlaw19_of.Fn), (13, registry_Find.Fn), (24, registry_Tenants.Fn), (27, spigotref16_SameKeys.Fn)], [], eqs, globs, prims⟩
noncomputable def spigotlaw19_alive.c := cxOf spigotlaw19_alive.E spigotlaw19_alive.sg Try.f8
noncomputable def spigotlaw19_alive.b := body Try.f8
noncomputable def spigotlaw19_alive.Fn : Fun := fnOf spigotlaw19_alive.E spigotlaw19_alive.sg Try.f8
noncomputable def spigotlaw19_alive.F : Option (Bool × Unit) := spigotlaw19_alive.Fn.F ()
theorem spigotlaw19_alive.spec : FnSpec Try.prog globs 8 spigotlaw19_alive.Fn := spec_of (E := spigotlaw19_alive.E) (envOk_at tabOk eqOk primsOk (.cons registry_Drop.spec <| .cons registry_Put.spec <| .cons spigotlaw19_of.spec <| .cons registry_Find.spec <| .cons registry_Tenants.spec <| .cons spigotref16_SameKeys.spec <| .nil)) mixOk Try.func8 (by kernel_rfl)
theorem spigotlaw19_alive.F_eq : spigotlaw19_alive.F =
  (spigotlaw19_of.F 3).bind fun r0 =>
  (registry_Put.F ([] : List t7.den) r0.1).bind fun r1 =>
  (spigotlaw19_of.F 1).bind fun r2 =>
  (registry_Put.F r1.1 r2.1).bind fun r3 =>
  (spigotlaw19_of.F 9).bind fun r4 =>
  (registry_Put.F r3.1 r4.1).bind fun r5 =>
  (registry_Tenants.F r5.1).bind fun r6 =>
  (registry_Drop.F r5.1 3).bind fun r7 =>
  (registry_Find.F r7.1 9).bind fun r8 =>
  bif (r1.2.1 == 0) then
    bif (r3.2.1 == 0) then
      bif (r5.2.1 == 0) then
        bif (r6.2.1 == 0) then
          bif (r7.2.1 == 0) then
            bif (r8.2.1 == 0) then
              (spigotref16_SameKeys.F r6.1 ([1, 3, 9] : List Int)).bind fun r9 =>
              bif r9.1 then
                some ((r8.1 == 1), ())
              else
                some (false, ())
            else
              some (false, ())
          else
            some (false, ())
        else
          some (false, ())
      else
        some (false, ())
    else
      some (false, ())
  else
    some (false, ()) := by kernel_rfl
end Go.Proofs.Ytjmgelpeonodgaa.PM
