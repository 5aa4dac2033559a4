/- Contracts and equations of the functions, printed by a program of this session. -/
import Derived.Test.YtkihjakbbcajbaaChk
namespace Go.Proofs.Ytkihjakbbcajbaa.PM
open Go Go.Proofs
set_option linter.unusedVariables false
/-! ### spigot/registry.Check (35) -/
noncomputable def registry_Check.sg : Sig := ⟨[.val (.slice t7)], [((.int .i64), true)]⟩
noncomputable def registry_Check.E : Env := ⟨tl, fun i => look i [(51, part_Check.Fn)], [], eqs, globs, prims⟩
noncomputable def registry_Check.c := cxOf registry_Check.E registry_Check.sg Try.f35
noncomputable def registry_Check.b := body Try.f35
noncomputable def registry_Check.Fn : Fun := fnOf registry_Check.E registry_Check.sg Try.f35
noncomputable def registry_Check.F (l : (List t7.den)) : Option (Int × Unit) := registry_Check.Fn.F (l, ())
noncomputable def registry_Check.S1 (l : (List t7.den)) : St := ⟨[(0, (.v (.slice t7) l))], [], 0, []⟩
noncomputable def registry_Check.L1 (l : (List t7.den)) : Option (Int × Unit) := res registry_Check.c (atJoin registry_Check.b [1, 0, 1]) (registry_Check.S1 l)
noncomputable def registry_Check.S2 (l : (List t7.den)) (t9_ : Int) (t10_ : Int) : St := ⟨[(0, (.v (.slice t7) l)), (8, (.v (.slice t7) l)), (9, (.v (.int .i64) t9_)), (10, (.v (.int .i64) t10_))], [], 0, []⟩
noncomputable def registry_Check.L2 (l : (List t7.den)) (t9_ : Int) (t10_ : Int) : Option (Int × Unit) := res registry_Check.c (atLoop registry_Check.b [1, 1, 0, 1, 0]) (registry_Check.S2 l t9_ t10_)
noncomputable def registry_Check.S3 (l : (List t7.den)) (t9_ : Int) (t10_ : Int) : St := ⟨[(0, (.v (.slice t7) l)), (8, (.v (.slice t7) l)), (9, (.v (.int .i64) t9_)), (10, (.v (.int .i64) t10_))], [], 0, []⟩
noncomputable def registry_Check.L3 (l : (List t7.den)) (t9_ : Int) (t10_ : Int) : Option (Int × Unit) := res registry_Check.c (atJoin registry_Check.b [1, 1, 0, 1, 0, 0, 1, 0]) (registry_Check.S3 l t9_ t10_)
noncomputable def registry_Check.S4 (l : (List t7.den)) (t9_ : Int) (t10_ : Int) : St := ⟨[(0, (.v (.slice t7) l)), (8, (.v (.slice t7) l)), (9, (.v (.int .i64) t9_)), (10, (.v (.int .i64) t10_))], [], 0, []⟩
noncomputable def registry_Check.L4 (l : (List t7.den)) (t9_ : Int) (t10_ : Int) : Option (Int × Unit) := res registry_Check.c (atJoin registry_Check.b [1, 1, 0, 1, 0, 0, 1, 1, 0, 0, 1, 1]) (registry_Check.S4 l t9_ t10_)
theorem registry_Check.spec : FnSpec Try.prog globs 35 registry_Check.Fn := spec_of (E := registry_Check.E) (envOk_at tabOk eqOk primsOk (.cons part_Check.spec <| .nil)) mixOk Try.func35 (by kernel_rfl)
theorem registry_Check.L1_eq (l : (List t7.den)) : registry_Check.L1 l =
  registry_Check.L2 l ((List.length l : Int)) 0 := res_eq (by kernel_rfl)
theorem registry_Check.L2_eq (l : (List t7.den)) (t9_ : Int) (t10_ : Int) : registry_Check.L2 l t9_ t10_ =
  bif (decide ((t10_ : Int) < t9_)) then
    registry_Check.L3 l t9_ t10_
  else
    some (0, ()) := res_eq (by kernel_rfl)
theorem registry_Check.L3_eq (l : (List t7.den)) (t9_ : Int) (t10_ : Int) : registry_Check.L3 l t9_ t10_ =
  bif (decide ((0 : Int) ≤ t10_ ∧ (t10_ : Int) < ((List.length l : Int)))) then
    (part_Check.F (List.getD l (Int.toNat t10_) (0, (List.replicate 3 (0, 0, 0, ())), ((0, 0, 0, ()), 0, 0, 0, ()), (0, ([] : List Int), ([] : List t1.den), (([] : List Int), ([] : List Bool), 0, ()), ([] : List t3.den), (([] : List Int), ([] : List Int), 0, 0, ()), ()), (0, ([] : List Int), ([] : List t1.den), (([] : List Int), ([] : List Bool), 0, ()), ([] : List t3.den), (([] : List Int), ([] : List Int), 0, 0, ()), ()), ([] : List Int), (0, 0, 0, ()), ()))).bind fun r0 =>
    bif (r0.1 != 0) then
      some (8, ())
    else
      bif (decide ((t10_ : Int) > 0)) then
        bif (decide ((0 : Int) ≤ (IntKind.wrap .i64 (t10_ - 1)) ∧ ((IntKind.wrap .i64 (t10_ - 1)) : Int) < ((List.length l : Int)))) then
          bif (decide ((((List.getD l (Int.toNat (IntKind.wrap .i64 (t10_ - 1))) (0, (List.replicate 3 (0, 0, 0, ())), ((0, 0, 0, ()), 0, 0, 0, ()), (0, ([] : List Int), ([] : List t1.den), (([] : List Int), ([] : List Bool), 0, ()), ([] : List t3.den), (([] : List Int), ([] : List Int), 0, 0, ()), ()), (0, ([] : List Int), ([] : List t1.den), (([] : List Int), ([] : List Bool), 0, ()), ([] : List t3.den), (([] : List Int), ([] : List Int), 0, 0, ()), ()), ([] : List Int), (0, 0, 0, ()), ())).1) : Int) ≥ ((List.getD l (Int.toNat t10_) (0, (List.replicate 3 (0, 0, 0, ())), ((0, 0, 0, ()), 0, 0, 0, ()), (0, ([] : List Int), ([] : List t1.den), (([] : List Int), ([] : List Bool), 0, ()), ([] : List t3.den), (([] : List Int), ([] : List Int), 0, 0, ()), ()), (0, ([] : List Int), ([] : List t1.den), (([] : List Int), ([] : List Bool), 0, ()), ([] : List t3.den), (([] : List Int), ([] : List Int), 0, 0, ()), ()), ([] : List Int), (0, 0, 0, ()), ())).1))) then
            some (8, ())
          else
            registry_Check.L4 l t9_ t10_
        else none
      else
        registry_Check.L4 l t9_ t10_
  else none := res_eq (by kernel_rfl)
theorem registry_Check.L4_eq (l : (List t7.den)) (t9_ : Int) (t10_ : Int) : registry_Check.L4 l t9_ t10_ =
  registry_Check.L2 l t9_ (IntKind.wrap .i64 (t10_ + 1)) := res_eq (by kernel_rfl)
theorem registry_Check.F_eq (l : (List t7.den)) : registry_Check.F l =
  bif (decide ((((List.length l : Int)) : Int) > 8)) then
    some (4, ())
  else
    registry_Check.L1 l := by kernel_rfl
/-! ### slices.Max[[]uint32,uint32] (36) -/
noncomputable def slices_Max.sg : Sig := ⟨[.val (.slice (.int .u32))], [((.int .u32), true)]⟩
noncomputable def slices_Max.E : Env := ⟨tl, fun i => look i [], [], eqs, globs, prims⟩
noncomputable def slices_Max.c := cxOf slices_Max.E slices_Max.sg Try.f36
noncomputable def slices_Max.b := body Try.f36
noncomputable def slices_Max.Fn : Fun := fnOf slices_Max.E slices_Max.sg Try.f36
noncomputable def slices_Max.F (x : (List Int)) : Option (Int × Unit) := slices_Max.Fn.F (x, ())
noncomputable def slices_Max.S1 (x : (List Int)) : St := ⟨[(0, (.v (.slice (.int .u32)) x))], [], 0, []⟩
noncomputable def slices_Max.L1 (x : (List Int)) : Option (Int × Unit) := res slices_Max.c (atJoin slices_Max.b [1, 0, 1]) (slices_Max.S1 x)
noncomputable def slices_Max.S2 (x : (List Int)) (m : Int) (i : Int) : St := ⟨[(0, (.v (.slice (.int .u32)) x)), (3, (.v (.int .u32) m)), (4, (.v (.int .i64) i))], [], 0, []⟩
noncomputable def slices_Max.L2 (x : (List Int)) (m : Int) (i : Int) : Option (Int × Unit) := res slices_Max.c (atLoop slices_Max.b [1, 1, 1, 0, 1, 0]) (slices_Max.S2 x m i)
noncomputable def slices_Max.S3 (x : (List Int)) (m : Int) (i : Int) : St := ⟨[(0, (.v (.slice (.int .u32)) x)), (3, (.v (.int .u32) m)), (4, (.v (.int .i64) i))], [], 0, []⟩
noncomputable def slices_Max.L3 (x : (List Int)) (m : Int) (i : Int) : Option (Int × Unit) := res slices_Max.c (atJoin slices_Max.b [1, 1, 1, 0, 1, 0, 0, 0, 1]) (slices_Max.S3 x m i)
theorem slices_Max.spec : FnSpec Try.prog globs 36 slices_Max.Fn := spec_of (E := slices_Max.E) (envOk_at tabOk eqOk primsOk (.nil)) mixOk Try.func36 (by kernel_rfl)
theorem slices_Max.L1_eq (x : (List Int)) : slices_Max.L1 x =
  bif (decide ((0 : Int) ≤ 0 ∧ (0 : Int) < ((List.length x : Int)))) then
    slices_Max.L2 x (List.getD x (Int.toNat 0) 0) 1
  else none := res_eq (by kernel_rfl)
theorem slices_Max.L2_eq (x : (List Int)) (m : Int) (i : Int) : slices_Max.L2 x m i =
  bif (decide ((i : Int) < ((List.length x : Int)))) then
    slices_Max.L3 x m i
  else
    some (m, ()) := res_eq (by kernel_rfl)
theorem slices_Max.L3_eq (x : (List Int)) (m : Int) (i : Int) : slices_Max.L3 x m i =
  bif (decide ((0 : Int) ≤ i ∧ (i : Int) < ((List.length x : Int)))) then
    slices_Max.L2 x (max m (List.getD x (Int.toNat i) 0)) (IntKind.wrap .i64 (i + 1))
  else none := res_eq (by kernel_rfl)
theorem slices_Max.F_eq (x : (List Int)) : slices_Max.F x =
  bif (decide ((((List.length x : Int)) : Int) < 1)) then
    none
  else
    slices_Max.L1 x := by kernel_rfl
/-! ### spigot/admin.late$1 (53) -/
noncomputable def admin_late_1.sg : Sig := ⟨[.val t1, .io (.int .u64) false], [(.bool, true)]⟩
noncomputable def admin_late_1.E : Env := ⟨tl, fun i => look i [], [], eqs, globs, prims⟩
noncomputable def admin_late_1.c := cxOf admin_late_1.E admin_late_1.sg Try.f53
noncomputable def admin_late_1.b := body Try.f53
noncomputable def admin_late_1.Fn : Fun := fnOf admin_late_1.E admin_late_1.sg Try.f53
noncomputable def admin_late_1.F (b : t1.den) (x1 : Int) : Option (Int × Bool × Unit) := admin_late_1.Fn.F (b, x1, ())
theorem admin_late_1.spec : FnSpec Try.prog globs 53 admin_late_1.Fn := spec_of (E := admin_late_1.E) (envOk_at tabOk eqOk primsOk (.nil)) mixOk Try.func53 (by kernel_rfl)
theorem admin_late_1.F_eq (b : t1.den) (x1 : Int) : admin_late_1.F b x1 =
  some (x1, (decide ((b.2.2.2.1 : Int) > x1)), ()) := by kernel_rfl
/-! ### slices.IndexFunc[[]spigot/api.Bucket,spigot/api.Bucket] (72) -/
noncomputable def slices_IndexFunc_72.sg : Sig := ⟨[.val (.slice t1), .clo 53 (.int .u64)], [((.int .i64), true)]⟩
noncomputable def slices_IndexFunc_72.E : Env := ⟨tl, fun i => look i [(53, admin_late_1.Fn)], [], eqs, globs, prims⟩
noncomputable def slices_IndexFunc_72.c := cxOf slices_IndexFunc_72.E slices_IndexFunc_72.sg Try.f72
noncomputable def slices_IndexFunc_72.b := body Try.f72
noncomputable def slices_IndexFunc_72.Fn : Fun := fnOf slices_IndexFunc_72.E slices_IndexFunc_72.sg Try.f72
noncomputable def slices_IndexFunc_72.F (s : (List t1.den)) (f : Int) : Option (Int × Int × Unit) := slices_IndexFunc_72.Fn.F (s, f, ())
noncomputable def slices_IndexFunc_72.S1 (s : (List t1.den)) (t7_ : Int) (t8_ : Int) (b0 : Int) : St := ⟨[(0, (.v (.slice t1) s)), (1, (.fn 53 [(.ptr 0 [])])), (7, (.v (.int .i64) t7_)), (8, (.v (.int .i64) t8_))], [(0, some (.box (.v (.int .u64) b0)))], 1, [(.ptr 0 [])]⟩
noncomputable def slices_IndexFunc_72.L1 (s : (List t1.den)) (t7_ : Int) (t8_ : Int) (b0 : Int) : Option (Int × Int × Unit) := res slices_IndexFunc_72.c (atLoop slices_IndexFunc_72.b [1, 0, 1, 0]) (slices_IndexFunc_72.S1 s t7_ t8_ b0)
noncomputable def slices_IndexFunc_72.S2 (s : (List t1.den)) (t7_ : Int) (t8_ : Int) (b0 : Int) : St := ⟨[(0, (.v (.slice t1) s)), (1, (.fn 53 [(.ptr 0 [])])), (7, (.v (.int .i64) t7_)), (8, (.v (.int .i64) t8_))], [(0, some (.box (.v (.int .u64) b0)))], 1, [(.ptr 0 [])]⟩
noncomputable def slices_IndexFunc_72.L2 (s : (List t1.den)) (t7_ : Int) (t8_ : Int) (b0 : Int) : Option (Int × Int × Unit) := res slices_IndexFunc_72.c (atJoin slices_IndexFunc_72.b [1, 0, 1, 0, 0, 1, 0]) (slices_IndexFunc_72.S2 s t7_ t8_ b0)
noncomputable def slices_IndexFunc_72.S3 (s : (List t1.den)) (t7_ : Int) (t8_ : Int) (b0 : Int) : St := ⟨[(0, (.v (.slice t1) s)), (1, (.fn 53 [(.ptr 0 [])])), (7, (.v (.int .i64) t7_)), (8, (.v (.int .i64) t8_))], [(0, some (.box (.v (.int .u64) b0)))], 1, [(.ptr 0 [])]⟩
noncomputable def slices_IndexFunc_72.L3 (s : (List t1.den)) (t7_ : Int) (t8_ : Int) (b0 : Int) : Option (Int × Int × Unit) := res slices_IndexFunc_72.c (atJoin slices_IndexFunc_72.b [1, 0, 1, 0, 0, 1, 1, 0, 0, 1, 1]) (slices_IndexFunc_72.S3 s t7_ t8_ b0)
theorem slices_IndexFunc_72.spec : FnSpec Try.prog globs 72 slices_IndexFunc_72.Fn := spec_of (E := slices_IndexFunc_72.E) (envOk_at tabOk eqOk primsOk (.cons admin_late_1.spec <| .nil)) mixOk Try.func72 (by kernel_rfl)
theorem slices_IndexFunc_72.L1_eq (s : (List t1.den)) (t7_ : Int) (t8_ : Int) (b0 : Int) : slices_IndexFunc_72.L1 s t7_ t8_ b0 =
  bif (decide ((t8_ : Int) < t7_)) then
    slices_IndexFunc_72.L2 s t7_ t8_ b0
  else
    some (b0, (-1), ()) := res_eq (by kernel_rfl)
theorem slices_IndexFunc_72.L2_eq (s : (List t1.den)) (t7_ : Int) (t8_ : Int) (b0 : Int) : slices_IndexFunc_72.L2 s t7_ t8_ b0 =
  bif (decide ((0 : Int) ≤ t8_ ∧ (t8_ : Int) < ((List.length s : Int)))) then
    (admin_late_1.F (List.getD s (Int.toNat t8_) ((0, 0, 0, ()), 0, 0, 0, ())) b0).bind fun r0 =>
    bif r0.2.1 then
      some (r0.1, t8_, ())
    else
      slices_IndexFunc_72.L3 s t7_ t8_ r0.1
  else none := res_eq (by kernel_rfl)
theorem slices_IndexFunc_72.L3_eq (s : (List t1.den)) (t7_ : Int) (t8_ : Int) (b0 : Int) : slices_IndexFunc_72.L3 s t7_ t8_ b0 =
  slices_IndexFunc_72.L1 s t7_ (IntKind.wrap .i64 (t8_ + 1)) b0 := res_eq (by kernel_rfl)
theorem slices_IndexFunc_72.F_eq (s : (List t1.den)) (f : Int) : slices_IndexFunc_72.F s f =
  slices_IndexFunc_72.L1 s ((List.length s : Int)) 0 f := by kernel_rfl
/-! ### slices.ContainsFunc[[]spigot/api.Bucket,spigot/api.Bucket] (54) -/
noncomputable def slices_ContainsFunc_54.sg : Sig := ⟨[.val (.slice t1), .clo 53 (.int .u64)], [(.bool, true)]⟩
noncomputable def slices_ContainsFunc_54.E : Env := ⟨tl, fun i => look i [(72, slices_IndexFunc_72.Fn), (53, admin_late_1.Fn)], [], eqs, globs, prims⟩
noncomputable def slices_ContainsFunc_54.c := cxOf slices_ContainsFunc_54.E slices_ContainsFunc_54.sg Try.f54
noncomputable def slices_ContainsFunc_54.b := body Try.f54
noncomputable def slices_ContainsFunc_54.Fn : Fun := fnOf slices_ContainsFunc_54.E slices_ContainsFunc_54.sg Try.f54
noncomputable def slices_ContainsFunc_54.F (s : (List t1.den)) (f : Int) : Option (Int × Bool × Unit) := slices_ContainsFunc_54.Fn.F (s, f, ())
theorem slices_ContainsFunc_54.spec : FnSpec Try.prog globs 54 slices_ContainsFunc_54.Fn := spec_of (E := slices_ContainsFunc_54.E) (envOk_at tabOk eqOk primsOk (.cons slices_IndexFunc_72.spec <| .cons admin_late_1.spec <| .nil)) mixOk Try.func54 (by kernel_rfl)
theorem slices_ContainsFunc_54.F_eq (s : (List t1.den)) (f : Int) : slices_ContainsFunc_54.F s f =
  (slices_IndexFunc_72.F s f).bind fun r0 =>
  some (r0.1, (decide ((r0.2.1 : Int) ≥ 0)), ()) := by kernel_rfl
/-! ### spigot/admin.late (39) -/
noncomputable def admin_late.sg : Sig := ⟨[.val t7, .val (.int .u64)], [(.bool, true)]⟩
noncomputable def admin_late.E : Env := ⟨tl, fun i => look i [(53, admin_late_1.Fn), (54, slices_ContainsFunc_54.Fn)], [], eqs, globs, prims⟩
noncomputable def admin_late.c := cxOf admin_late.E admin_late.sg Try.f39
noncomputable def admin_late.b := body Try.f39
noncomputable def admin_late.Fn : Fun := fnOf admin_late.E admin_late.sg Try.f39
noncomputable def admin_late.F (p : t7.den) (tick : Int) : Option (Bool × Unit) := admin_late.Fn.F (p, tick, ())
theorem admin_late.spec : FnSpec Try.prog globs 39 admin_late.Fn := spec_of (E := admin_late.E) (envOk_at tabOk eqOk primsOk (.cons admin_late_1.spec <| .cons slices_ContainsFunc_54.spec <| .nil)) mixOk Try.func39 (by kernel_rfl)
theorem admin_late.F_eq (p : t7.den) (tick : Int) : admin_late.F p tick =
  (admin_late_1.F p.2.2.1 tick).bind fun r0 =>
  bif r0.2.1 then
    some (true, ())
  else
    (slices_ContainsFunc_54.F p.2.2.2.1.2.2.1 r0.1).bind fun r1 =>
    bif r1.2.1 then
      some (true, ())
    else
      (slices_ContainsFunc_54.F p.2.2.2.2.1.2.2.1 r1.1).bind fun r2 =>
      some (r2.2.1, ()) := by kernel_rfl
/-! ### spigot/admin.Valid$1 (38) -/
noncomputable def admin_Valid_1.sg : Sig := ⟨[.val t7, .io t8 false], [(.bool, true)]⟩
noncomputable def admin_Valid_1.E : Env := ⟨tl, fun i => look i [(39, admin_late.Fn)], [], eqs, globs, prims⟩
noncomputable def admin_Valid_1.c := cxOf admin_Valid_1.E admin_Valid_1.sg Try.f38
noncomputable def admin_Valid_1.b := body Try.f38
noncomputable def admin_Valid_1.Fn : Fun := fnOf admin_Valid_1.E admin_Valid_1.sg Try.f38
noncomputable def admin_Valid_1.F (p : t7.den) (x1 : t8.den) : Option (t8.den × Bool × Unit) := admin_Valid_1.Fn.F (p, x1, ())
theorem admin_Valid_1.spec : FnSpec Try.prog globs 38 admin_Valid_1.Fn := spec_of (E := admin_Valid_1.E) (envOk_at tabOk eqOk primsOk (.cons admin_late.spec <| .nil)) mixOk Try.func38 (by kernel_rfl)
theorem admin_Valid_1.F_eq (p : t7.den) (x1 : t8.den) : admin_Valid_1.F p x1 =
  (admin_late.F p x1.1).bind fun r0 =>
  some (x1, r0.1, ()) := by kernel_rfl
/-! ### slices.IndexFunc[[]spigot/api.Part,spigot/api.Part] (52) -/
noncomputable def slices_IndexFunc_52.sg : Sig := ⟨[.val (.slice t7), .clo 38 t8], [((.int .i64), true)]⟩
noncomputable def slices_IndexFunc_52.E : Env := ⟨tl, fun i => look i [(38, admin_Valid_1.Fn)], [], eqs, globs, prims⟩
noncomputable def slices_IndexFunc_52.c := cxOf slices_IndexFunc_52.E slices_IndexFunc_52.sg Try.f52
noncomputable def slices_IndexFunc_52.b := body Try.f52
noncomputable def slices_IndexFunc_52.Fn : Fun := fnOf slices_IndexFunc_52.E slices_IndexFunc_52.sg Try.f52
noncomputable def slices_IndexFunc_52.F (s : (List t7.den)) (f : t8.den) : Option (t8.den × Int × Unit) := slices_IndexFunc_52.Fn.F (s, f, ())
noncomputable def slices_IndexFunc_52.S1 (s : (List t7.den)) (t7_ : Int) (t8_ : Int) (b0 : Int) (b02 : (List Int)) (b03 : (List Int)) (b04 : (List t7.den)) : St := ⟨[(0, (.v (.slice t7) s)), (1, (.fn 38 [(.ptr 0 [])])), (7, (.v (.int .i64) t7_)), (8, (.v (.int .i64) t8_))], [(0, some (.box (.agg [(.v (.int .u64) b0), (.v (.arr 32 (.int .u8)) b02), (.v (.arr 16 (.int .u32)) b03), (.v (.slice t7) b04)])))], 1, [(.ptr 0 [])]⟩
noncomputable def slices_IndexFunc_52.L1 (s : (List t7.den)) (t7_ : Int) (t8_ : Int) (b0 : Int) (b02 : (List Int)) (b03 : (List Int)) (b04 : (List t7.den)) : Option (t8.den × Int × Unit) := res slices_IndexFunc_52.c (atLoop slices_IndexFunc_52.b [1, 0, 1, 0]) (slices_IndexFunc_52.S1 s t7_ t8_ b0 b02 b03 b04)
noncomputable def slices_IndexFunc_52.S2 (s : (List t7.den)) (t7_ : Int) (t8_ : Int) (b0 : Int) (b02 : (List Int)) (b03 : (List Int)) (b04 : (List t7.den)) : St := ⟨[(0, (.v (.slice t7) s)), (1, (.fn 38 [(.ptr 0 [])])), (7, (.v (.int .i64) t7_)), (8, (.v (.int .i64) t8_))], [(0, some (.box (.agg [(.v (.int .u64) b0), (.v (.arr 32 (.int .u8)) b02), (.v (.arr 16 (.int .u32)) b03), (.v (.slice t7) b04)])))], 1, [(.ptr 0 [])]⟩
noncomputable def slices_IndexFunc_52.L2 (s : (List t7.den)) (t7_ : Int) (t8_ : Int) (b0 : Int) (b02 : (List Int)) (b03 : (List Int)) (b04 : (List t7.den)) : Option (t8.den × Int × Unit) := res slices_IndexFunc_52.c (atJoin slices_IndexFunc_52.b [1, 0, 1, 0, 0, 1, 0]) (slices_IndexFunc_52.S2 s t7_ t8_ b0 b02 b03 b04)
noncomputable def slices_IndexFunc_52.S3 (s : (List t7.den)) (t7_ : Int) (t8_ : Int) (b0 : Int) (b02 : (List Int)) (b03 : (List Int)) (b04 : (List t7.den)) : St := ⟨[(0, (.v (.slice t7) s)), (1, (.fn 38 [(.ptr 0 [])])), (7, (.v (.int .i64) t7_)), (8, (.v (.int .i64) t8_))], [(0, some (.box (.agg [(.v (.int .u64) b0), (.v (.arr 32 (.int .u8)) b02), (.v (.arr 16 (.int .u32)) b03), (.v (.slice t7) b04)])))], 1, [(.ptr 0 [])]⟩
noncomputable def slices_IndexFunc_52.L3 (s : (List t7.den)) (t7_ : Int) (t8_ : Int) (b0 : Int) (b02 : (List Int)) (b03 : (List Int)) (b04 : (List t7.den)) : Option (t8.den × Int × Unit) := res slices_IndexFunc_52.c (atJoin slices_IndexFunc_52.b [1, 0, 1, 0, 0, 1, 1, 0, 0, 1, 1]) (slices_IndexFunc_52.S3 s t7_ t8_ b0 b02 b03 b04)
theorem slices_IndexFunc_52.spec : FnSpec Try.prog globs 52 slices_IndexFunc_52.Fn := spec_of (E := slices_IndexFunc_52.E) (envOk_at tabOk eqOk primsOk (.cons admin_Valid_1.spec <| .nil)) mixOk Try.func52 (by kernel_rfl)
theorem slices_IndexFunc_52.L1_eq (s : (List t7.den)) (t7_ : Int) (t8_ : Int) (b0 : Int) (b02 : (List Int)) (b03 : (List Int)) (b04 : (List t7.den)) : slices_IndexFunc_52.L1 s t7_ t8_ b0 b02 b03 b04 =
  bif (decide ((t8_ : Int) < t7_)) then
    slices_IndexFunc_52.L2 s t7_ t8_ b0 b02 b03 b04
  else
    some ((b0, b02, b03, b04, ()), (-1), ()) := res_eq (by kernel_rfl)
theorem slices_IndexFunc_52.L2_eq (s : (List t7.den)) (t7_ : Int) (t8_ : Int) (b0 : Int) (b02 : (List Int)) (b03 : (List Int)) (b04 : (List t7.den)) : slices_IndexFunc_52.L2 s t7_ t8_ b0 b02 b03 b04 =
  bif (decide ((0 : Int) ≤ t8_ ∧ (t8_ : Int) < ((List.length s : Int)))) then
    (admin_Valid_1.F (List.getD s (Int.toNat t8_) (0, (List.replicate 3 (0, 0, 0, ())), ((0, 0, 0, ()), 0, 0, 0, ()), (0, ([] : List Int), ([] : List t1.den), (([] : List Int), ([] : List Bool), 0, ()), ([] : List t3.den), (([] : List Int), ([] : List Int), 0, 0, ()), ()), (0, ([] : List Int), ([] : List t1.den), (([] : List Int), ([] : List Bool), 0, ()), ([] : List t3.den), (([] : List Int), ([] : List Int), 0, 0, ()), ()), ([] : List Int), (0, 0, 0, ()), ())) (b0, b02, b03, b04, ())).bind fun r0 =>
    bif r0.2.1 then
      some (r0.1, t8_, ())
    else
      slices_IndexFunc_52.L3 s t7_ t8_ r0.1.1 r0.1.2.1 r0.1.2.2.1 r0.1.2.2.2.1
  else none := res_eq (by kernel_rfl)
theorem slices_IndexFunc_52.L3_eq (s : (List t7.den)) (t7_ : Int) (t8_ : Int) (b0 : Int) (b02 : (List Int)) (b03 : (List Int)) (b04 : (List t7.den)) : slices_IndexFunc_52.L3 s t7_ t8_ b0 b02 b03 b04 =
  slices_IndexFunc_52.L1 s t7_ (IntKind.wrap .i64 (t8_ + 1)) b0 b02 b03 b04 := res_eq (by kernel_rfl)
theorem slices_IndexFunc_52.F_eq (s : (List t7.den)) (f : t8.den) : slices_IndexFunc_52.F s f =
  slices_IndexFunc_52.L1 s ((List.length s : Int)) 0 f.1 f.2.1 f.2.2.1 f.2.2.2.1 := by kernel_rfl
/-! ### slices.ContainsFunc[[]spigot/api.Part,spigot/api.Part] (37) -/
noncomputable def slices_ContainsFunc_37.sg : Sig := ⟨[.val (.slice t7), .clo 38 t8], [(.bool, true)]⟩
noncomputable def slices_ContainsFunc_37.E : Env := ⟨tl, fun i => look i [(52, slices_IndexFunc_52.Fn), (38, admin_Valid_1.Fn)], [], eqs, globs, prims⟩
noncomputable def slices_ContainsFunc_37.c := cxOf slices_ContainsFunc_37.E slices_ContainsFunc_37.sg Try.f37
noncomputable def slices_ContainsFunc_37.b := body Try.f37
noncomputable def slices_ContainsFunc_37.Fn : Fun := fnOf slices_ContainsFunc_37.E slices_ContainsFunc_37.sg Try.f37
noncomputable def slices_ContainsFunc_37.F (s : (List t7.den)) (f : t8.den) : Option (t8.den × Bool × Unit) := slices_ContainsFunc_37.Fn.F (s, f, ())
theorem slices_ContainsFunc_37.spec : FnSpec Try.prog globs 37 slices_ContainsFunc_37.Fn := spec_of (E := slices_ContainsFunc_37.E) (envOk_at tabOk eqOk primsOk (.cons slices_IndexFunc_52.spec <| .cons admin_Valid_1.spec <| .nil)) mixOk Try.func37 (by kernel_rfl)
theorem slices_ContainsFunc_37.F_eq (s : (List t7.den)) (f : t8.den) : slices_ContainsFunc_37.F s f =
  (slices_IndexFunc_52.F s f).bind fun r0 =>
  some (r0.1, (decide ((r0.2.1 : Int) ≥ 0)), ()) := by kernel_rfl
/-! ### spigot/admin.Valid (23) -/
noncomputable def admin_Valid.sg : Sig := ⟨[.val t8], [((.int .i64), true)]⟩
noncomputable def admin_Valid.E : Env := ⟨tl, fun i => look i [(35, registry_Check.Fn), (36, slices_Max.Fn), (37, slices_ContainsFunc_37.Fn), (38, admin_Valid_1.Fn)], [], eqs, globs, prims⟩
noncomputable def admin_Valid.c := cxOf admin_Valid.E admin_Valid.sg Try.f23
noncomputable def admin_Valid.b := body Try.f23
noncomputable def admin_Valid.Fn : Fun := fnOf admin_Valid.E admin_Valid.sg Try.f23
noncomputable def admin_Valid.F (s : t8.den) : Option (Int × Unit) := admin_Valid.Fn.F (s, ())
noncomputable def admin_Valid.S1 (b0 : Int) (b02 : (List Int)) (b03 : (List Int)) (b04 : (List t7.den)) : St := ⟨[(1, (.ptr 0 []))], [(0, some (.box (.agg [(.v (.int .u64) b0), (.v (.arr 32 (.int .u8)) b02), (.v (.arr 16 (.int .u32)) b03), (.v (.slice t7) b04)])))], 1, []⟩
noncomputable def admin_Valid.L1 (b0 : Int) (b02 : (List Int)) (b03 : (List Int)) (b04 : (List t7.den)) : Option (Int × Unit) := res admin_Valid.c (atJoin admin_Valid.b [1, 0, 1]) (admin_Valid.S1 b0 b02 b03 b04)
noncomputable def admin_Valid.S2 : St := ⟨[], [], 0, []⟩
noncomputable def admin_Valid.L2 : Option (Int × Unit) := res admin_Valid.c (atJoin admin_Valid.b [1, 1, 0, 1]) (admin_Valid.S2)
theorem admin_Valid.spec : FnSpec Try.prog globs 23 admin_Valid.Fn := spec_of (E := admin_Valid.E) (envOk_at tabOk eqOk primsOk (.cons registry_Check.spec <| .cons slices_Max.spec <| .cons slices_ContainsFunc_37.spec <| .cons admin_Valid_1.spec <| .nil)) mixOk Try.func23 (by kernel_rfl)
theorem admin_Valid.L1_eq (b0 : Int) (b02 : (List Int)) (b03 : (List Int)) (b04 : (List t7.den)) : admin_Valid.L1 b0 b02 b03 b04 =
  bif (decide ((0 : Int) ≤ 0 ∧ (0 : Int) ≤ 16 ∧ (16 : Int) ≤ 16)) then
    (slices_Max.F (List.take ((Int.toNat 16) - (Int.toNat 0)) (List.drop (Int.toNat 0) b03))).bind fun r0 =>
    bif (decide ((r0.1 : Int) > 1000000)) then
      some (8, ())
    else
      (slices_ContainsFunc_37.F b04 (b0, b02, b03, b04, ())).bind fun r1 =>
      bif r1.2.1 then
        some (8, ())
      else
        admin_Valid.L2
  else none := res_eq (by kernel_rfl)
theorem admin_Valid.L2_eq : admin_Valid.L2 =
  some (0, ()) := res_eq (by kernel_rfl)
theorem admin_Valid.F_eq (s : t8.den) : admin_Valid.F s =
  (registry_Check.F s.2.2.2.1).bind fun r0 =>
  bif (r0.1 != 0) then
    some (8, ())
  else
    admin_Valid.L1 s.1 s.2.1 s.2.2.1 s.2.2.2.1 := by kernel_rfl
/-! ### spigot/server.Check (13) -/
noncomputable def server_Check.sg : Sig := ⟨[.val t8], [((.int .i64), true)]⟩
noncomputable def server_Check.E : Env := ⟨tl, fun i => look i [(23, admin_Valid.Fn)], [], eqs, globs, prims⟩
noncomputable def server_Check.c := cxOf server_Check.E server_Check.sg Try.f13
noncomputable def server_Check.b := body Try.f13
noncomputable def server_Check.Fn : Fun := fnOf server_Check.E server_Check.sg Try.f13
noncomputable def server_Check.F (s : t8.den) : Option (Int × Unit) := server_Check.Fn.F (s, ())
theorem server_Check.spec : FnSpec Try.prog globs 13 server_Check.Fn := spec_of (E := server_Check.E) (envOk_at tabOk eqOk primsOk (.cons admin_Valid.spec <| .nil)) mixOk Try.func13 (by kernel_rfl)
theorem server_Check.F_eq (s : t8.den) : server_Check.F s =
  (admin_Valid.F s).bind fun r0 =>
  some (r0.1, ()) := by kernel_rfl
/-! ### spigot/table.Keys (55) -/
noncomputable def table_Keys.sg : Sig := ⟨[.val t5], [((.slice (.int .u32)), true), ((.int .i64), true)]⟩
noncomputable def table_Keys.E : Env := ⟨tl, fun i => look i [(70, table_Check.Fn), (73, lru_List.Fn)], [], eqs, globs, prims⟩
noncomputable def table_Keys.c := cxOf table_Keys.E table_Keys.sg Try.f55
noncomputable def table_Keys.b := body Try.f55
noncomputable def table_Keys.Fn : Fun := fnOf table_Keys.E table_Keys.sg Try.f55
noncomputable def table_Keys.F (t : t5.den) : Option ((List Int) × Int × Unit) := table_Keys.Fn.F (t, ())
noncomputable def table_Keys.S1 (b0 : Int) (b02 : (List Int)) (b03 : (List t1.den)) (b04 : (List Int)) (b05 : (List Bool)) (b06 : Int) (b07 : (List t3.den)) (b08 : (List Int)) (b09 : (List Int)) (b010 : Int) (b011 : Int) : St := ⟨[(1, (.ptr 0 []))], [(0, some (.box (.agg [(.v (.int .i64) b0), (.v (.slice (.int .u32)) b02), (.v (.slice t1) b03), (.agg [(.v (.slice (.int .i64)) b04), (.v (.slice .bool) b05), (.v (.int .i64) b06)]), (.v (.slice t3) b07), (.agg [(.v (.slice (.int .i64)) b08), (.v (.slice (.int .i64)) b09), (.v (.int .i64) b010), (.v (.int .i64) b011)])])))], 1, []⟩
noncomputable def table_Keys.L1 (b0 : Int) (b02 : (List Int)) (b03 : (List t1.den)) (b04 : (List Int)) (b05 : (List Bool)) (b06 : Int) (b07 : (List t3.den)) (b08 : (List Int)) (b09 : (List Int)) (b010 : Int) (b011 : Int) : Option ((List Int) × Int × Unit) := res table_Keys.c (atJoin table_Keys.b [1, 0, 1, 1]) (table_Keys.S1 b0 b02 b03 b04 b05 b06 b07 b08 b09 b010 b011)
noncomputable def table_Keys.S2 (t22_ : Int) (t23_ : Int) (b0 : Int) (b02 : (List Int)) (b03 : (List t1.den)) (b04 : (List Int)) (b05 : (List Bool)) (b06 : Int) (b07 : (List t3.den)) (b08 : (List Int)) (b09 : (List Int)) (b010 : Int) (b011 : Int) (l1 : (List Int)) (l2 : (List Int)) : St := ⟨[(1, (.ptr 0 [])), (7, (.sl 1)), (21, (.sl 2)), (22, (.v (.int .i64) t22_)), (23, (.v (.int .i64) t23_))], [(0, some (.box (.agg [(.v (.int .i64) b0), (.v (.slice (.int .u32)) b02), (.v (.slice t1) b03), (.agg [(.v (.slice (.int .i64)) b04), (.v (.slice .bool) b05), (.v (.int .i64) b06)]), (.v (.slice t3) b07), (.agg [(.v (.slice (.int .i64)) b08), (.v (.slice (.int .i64)) b09), (.v (.int .i64) b010), (.v (.int .i64) b011)])]))), (1, some (.row (.int .u32) l1 false)), (2, some (.row (.int .i64) l2 false))], 3, []⟩
noncomputable def table_Keys.L2 (t22_ : Int) (t23_ : Int) (b0 : Int) (b02 : (List Int)) (b03 : (List t1.den)) (b04 : (List Int)) (b05 : (List Bool)) (b06 : Int) (b07 : (List t3.den)) (b08 : (List Int)) (b09 : (List Int)) (b010 : Int) (b011 : Int) (l1 : (List Int)) (l2 : (List Int)) : Option ((List Int) × Int × Unit) := res table_Keys.c (atLoop table_Keys.b [1, 1, 1, 1, 0, 1, 0]) (table_Keys.S2 t22_ t23_ b0 b02 b03 b04 b05 b06 b07 b08 b09 b010 b011 l1 l2)
noncomputable def table_Keys.S3 (t22_ : Int) (t23_ : Int) (b0 : Int) (b02 : (List Int)) (b03 : (List t1.den)) (b04 : (List Int)) (b05 : (List Bool)) (b06 : Int) (b07 : (List t3.den)) (b08 : (List Int)) (b09 : (List Int)) (b010 : Int) (b011 : Int) (l1 : (List Int)) (l2 : (List Int)) : St := ⟨[(1, (.ptr 0 [])), (7, (.sl 1)), (21, (.sl 2)), (22, (.v (.int .i64) t22_)), (23, (.v (.int .i64) t23_))], [(0, some (.box (.agg [(.v (.int .i64) b0), (.v (.slice (.int .u32)) b02), (.v (.slice t1) b03), (.agg [(.v (.slice (.int .i64)) b04), (.v (.slice .bool) b05), (.v (.int .i64) b06)]), (.v (.slice t3) b07), (.agg [(.v (.slice (.int .i64)) b08), (.v (.slice (.int .i64)) b09), (.v (.int .i64) b010), (.v (.int .i64) b011)])]))), (1, some (.row (.int .u32) l1 false)), (2, some (.row (.int .i64) l2 false))], 3, []⟩
noncomputable def table_Keys.L3 (t22_ : Int) (t23_ : Int) (b0 : Int) (b02 : (List Int)) (b03 : (List t1.den)) (b04 : (List Int)) (b05 : (List Bool)) (b06 : Int) (b07 : (List t3.den)) (b08 : (List Int)) (b09 : (List Int)) (b010 : Int) (b011 : Int) (l1 : (List Int)) (l2 : (List Int)) : Option ((List Int) × Int × Unit) := res table_Keys.c (atJoin table_Keys.b [1, 1, 1, 1, 0, 1, 0, 0, 1, 0]) (table_Keys.S3 t22_ t23_ b0 b02 b03 b04 b05 b06 b07 b08 b09 b010 b011 l1 l2)
theorem table_Keys.spec : FnSpec Try.prog globs 55 table_Keys.Fn := spec_of (E := table_Keys.E) (envOk_at tabOk eqOk primsOk (.cons table_Check.spec <| .cons lru_List.spec <| .nil)) mixOk Try.func55 (by kernel_rfl)
theorem table_Keys.L1_eq (b0 : Int) (b02 : (List Int)) (b03 : (List t1.den)) (b04 : (List Int)) (b05 : (List Bool)) (b06 : Int) (b07 : (List t3.den)) (b08 : (List Int)) (b09 : (List Int)) (b010 : Int) (b011 : Int) : table_Keys.L1 b0 b02 b03 b04 b05 b06 b07 b08 b09 b010 b011 =
  (lru_List.F (b08, b09, b010, b011, ())).bind fun r0 =>
  table_Keys.L2 ((List.length r0.1 : Int)) 0 b0 b02 b03 b04 b05 b06 b07 b08 b09 b010 b011 ([] : List Int) r0.1 := res_eq (by kernel_rfl)
theorem table_Keys.L2_eq (t22_ : Int) (t23_ : Int) (b0 : Int) (b02 : (List Int)) (b03 : (List t1.den)) (b04 : (List Int)) (b05 : (List Bool)) (b06 : Int) (b07 : (List t3.den)) (b08 : (List Int)) (b09 : (List Int)) (b010 : Int) (b011 : Int) (l1 : (List Int)) (l2 : (List Int)) : table_Keys.L2 t22_ t23_ b0 b02 b03 b04 b05 b06 b07 b08 b09 b010 b011 l1 l2 =
  bif (decide ((t23_ : Int) < t22_)) then
    table_Keys.L3 t22_ t23_ b0 b02 b03 b04 b05 b06 b07 b08 b09 b010 b011 l1 l2
  else
    some (l1, 0, ()) := res_eq (by kernel_rfl)
theorem table_Keys.L3_eq (t22_ : Int) (t23_ : Int) (b0 : Int) (b02 : (List Int)) (b03 : (List t1.den)) (b04 : (List Int)) (b05 : (List Bool)) (b06 : Int) (b07 : (List t3.den)) (b08 : (List Int)) (b09 : (List Int)) (b010 : Int) (b011 : Int) (l1 : (List Int)) (l2 : (List Int)) : table_Keys.L3 t22_ t23_ b0 b02 b03 b04 b05 b06 b07 b08 b09 b010 b011 l1 l2 =
  bif (decide ((0 : Int) ≤ t23_ ∧ (t23_ : Int) < ((List.length l2 : Int)))) then
    bif (decide ((0 : Int) ≤ (List.getD l2 (Int.toNat t23_) 0) ∧ ((List.getD l2 (Int.toNat t23_) 0) : Int) < ((List.length b02 : Int)))) then
      bif (lim ((List.length l1) + (List.length ([(List.getD b02 (Int.toNat (List.getD l2 (Int.toNat t23_) 0)) 0)] : List Int))) (.int .u32)) then
        table_Keys.L2 t22_ (IntKind.wrap .i64 (t23_ + 1)) b0 b02 b03 b04 b05 b06 b07 b08 b09 b010 b011 (l1 ++ ([(List.getD b02 (Int.toNat (List.getD l2 (Int.toNat t23_) 0)) 0)] : List Int)) l2
      else none
    else none
  else none := res_eq (by kernel_rfl)
theorem table_Keys.F_eq (t : t5.den) : table_Keys.F t =
  (table_Check.F t).bind fun r0 =>
  bif (r0.1 != 0) then
    some (([] : List Int), r0.1, ())
  else
    table_Keys.L1 t.1 t.2.1 t.2.2.1 t.2.2.2.1.1 t.2.2.2.1.2.1 t.2.2.2.1.2.2.1 t.2.2.2.2.1 t.2.2.2.2.2.1.1 t.2.2.2.2.2.1.2.1 t.2.2.2.2.2.1.2.2.1 t.2.2.2.2.2.1.2.2.2.1 := by kernel_rfl
/-! ### spigot/table.place (74) -/
noncomputable def table_place.sg : Sig := ⟨[.val t5, .val (.int .u32)], [((.int .i64), true)]⟩
noncomputable def table_place.E : Env := ⟨tl, fun i => look i [(88, probe_Find.Fn)], [], eqs, globs, prims⟩
noncomputable def table_place.c := cxOf table_place.E table_place.sg Try.f74
noncomputable def table_place.b := body Try.f74
noncomputable def table_place.Fn : Fun := fnOf table_place.E table_place.sg Try.f74
noncomputable def table_place.F (t : t5.den) (key : Int) : Option (Int × Unit) := table_place.Fn.F (t, key, ())
noncomputable def table_place.S1 (i : Int) : St := ⟨[(5, (.v (.int .i64) i))], [], 0, []⟩
noncomputable def table_place.L1 (i : Int) : Option (Int × Unit) := res table_place.c (atJoin table_place.b [1, 1, 0, 1]) (table_place.S1 i)
theorem table_place.spec : FnSpec Try.prog globs 74 table_place.Fn := spec_of (E := table_place.E) (envOk_at tabOk eqOk primsOk (.cons probe_Find.spec <| .nil)) mixOk Try.func74 (by kernel_rfl)
theorem table_place.L1_eq (i : Int) : table_place.L1 i =
  some (i, ()) := res_eq (by kernel_rfl)
theorem table_place.F_eq (t : t5.den) (key : Int) : table_place.F t key =
  (probe_Find.F t.2.2.2.2.1 key).bind fun r0 =>
  bif (r0.2.1 != 0) then
    some ((-1), ())
  else
    table_place.L1 r0.1 := by kernel_rfl
/-! ### spigot/table.Get (56) -/
noncomputable def table_Get.sg : Sig := ⟨[.val t5, .val (.int .u32)], [(t1, true), ((.int .i64), true)]⟩
noncomputable def table_Get.E : Env := ⟨tl, fun i => look i [(70, table_Check.Fn), (74, table_place.Fn)], [], eqs, globs, prims⟩
noncomputable def table_Get.c := cxOf table_Get.E table_Get.sg Try.f56
noncomputable def table_Get.b := body Try.f56
noncomputable def table_Get.Fn : Fun := fnOf table_Get.E table_Get.sg Try.f56
noncomputable def table_Get.F (t : t5.den) (key : Int) : Option (t1.den × Int × Unit) := table_Get.Fn.F (t, key, ())
noncomputable def table_Get.S1 (key : Int) (b0 : Int) (b02 : (List Int)) (b03 : (List t1.den)) (b04 : (List Int)) (b05 : (List Bool)) (b06 : Int) (b07 : (List t3.den)) (b08 : (List Int)) (b09 : (List Int)) (b010 : Int) (b011 : Int) : St := ⟨[(1, (.v (.int .u32) key)), (2, (.ptr 0 [])), (4, (.ptr 1 []))], [(0, some (.box (.agg [(.v (.int .i64) b0), (.v (.slice (.int .u32)) b02), (.v (.slice t1) b03), (.agg [(.v (.slice (.int .i64)) b04), (.v (.slice .bool) b05), (.v (.int .i64) b06)]), (.v (.slice t3) b07), (.agg [(.v (.slice (.int .i64)) b08), (.v (.slice (.int .i64)) b09), (.v (.int .i64) b010), (.v (.int .i64) b011)])]))), (1, some (.box (.agg [(.agg [(.v (.int .i64) 0), (.v (.int .i64) 0), (.v (.int .i64) 0)]), (.v (.int .i64) 0), (.v (.int .i64) 0), (.v (.int .u64) 0)])))], 2, []⟩
noncomputable def table_Get.L1 (key : Int) (b0 : Int) (b02 : (List Int)) (b03 : (List t1.den)) (b04 : (List Int)) (b05 : (List Bool)) (b06 : Int) (b07 : (List t3.den)) (b08 : (List Int)) (b09 : (List Int)) (b010 : Int) (b011 : Int) : Option (t1.den × Int × Unit) := res table_Get.c (atJoin table_Get.b [1, 0, 1, 1]) (table_Get.S1 key b0 b02 b03 b04 b05 b06 b07 b08 b09 b010 b011)
noncomputable def table_Get.S2 (i : Int) (b0 : Int) (b02 : (List Int)) (b03 : (List t1.den)) (b04 : (List Int)) (b05 : (List Bool)) (b06 : Int) (b07 : (List t3.den)) (b08 : (List Int)) (b09 : (List Int)) (b010 : Int) (b011 : Int) : St := ⟨[(2, (.ptr 0 [])), (4, (.ptr 1 [])), (7, (.v (.int .i64) i))], [(0, some (.box (.agg [(.v (.int .i64) b0), (.v (.slice (.int .u32)) b02), (.v (.slice t1) b03), (.agg [(.v (.slice (.int .i64)) b04), (.v (.slice .bool) b05), (.v (.int .i64) b06)]), (.v (.slice t3) b07), (.agg [(.v (.slice (.int .i64)) b08), (.v (.slice (.int .i64)) b09), (.v (.int .i64) b010), (.v (.int .i64) b011)])]))), (1, some (.box (.agg [(.agg [(.v (.int .i64) 0), (.v (.int .i64) 0), (.v (.int .i64) 0)]), (.v (.int .i64) 0), (.v (.int .i64) 0), (.v (.int .u64) 0)])))], 2, []⟩
noncomputable def table_Get.L2 (i : Int) (b0 : Int) (b02 : (List Int)) (b03 : (List t1.den)) (b04 : (List Int)) (b05 : (List Bool)) (b06 : Int) (b07 : (List t3.den)) (b08 : (List Int)) (b09 : (List Int)) (b010 : Int) (b011 : Int) : Option (t1.den × Int × Unit) := res table_Get.c (atJoin table_Get.b [1, 1, 1, 0, 1]) (table_Get.S2 i b0 b02 b03 b04 b05 b06 b07 b08 b09 b010 b011)
theorem table_Get.spec : FnSpec Try.prog globs 56 table_Get.Fn := spec_of (E := table_Get.E) (envOk_at tabOk eqOk primsOk (.cons table_Check.spec <| .cons table_place.spec <| .nil)) mixOk Try.func56 (by kernel_rfl)
theorem table_Get.L1_eq (key : Int) (b0 : Int) (b02 : (List Int)) (b03 : (List t1.den)) (b04 : (List Int)) (b05 : (List Bool)) (b06 : Int) (b07 : (List t3.den)) (b08 : (List Int)) (b09 : (List Int)) (b010 : Int) (b011 : Int) : table_Get.L1 key b0 b02 b03 b04 b05 b06 b07 b08 b09 b010 b011 =
  (table_place.F (b0, b02, b03, (b04, b05, b06, ()), b07, (b08, b09, b010, b011, ()), ()) key).bind fun r0 =>
  bif (decide ((r0.1 : Int) < 0)) then
    some (((0, 0, 0, ()), 0, 0, 0, ()), 6, ())
  else
    table_Get.L2 r0.1 b0 b02 b03 b04 b05 b06 b07 b08 b09 b010 b011 := res_eq (by kernel_rfl)
theorem table_Get.L2_eq (i : Int) (b0 : Int) (b02 : (List Int)) (b03 : (List t1.den)) (b04 : (List Int)) (b05 : (List Bool)) (b06 : Int) (b07 : (List t3.den)) (b08 : (List Int)) (b09 : (List Int)) (b010 : Int) (b011 : Int) : table_Get.L2 i b0 b02 b03 b04 b05 b06 b07 b08 b09 b010 b011 =
  bif (decide ((0 : Int) ≤ i ∧ (i : Int) < ((List.length b03 : Int)))) then
    some ((List.getD b03 (Int.toNat i) ((0, 0, 0, ()), 0, 0, 0, ())), 0, ())
  else none := res_eq (by kernel_rfl)
theorem table_Get.F_eq (t : t5.den) (key : Int) : table_Get.F t key =
  (table_Check.F t).bind fun r0 =>
  bif (r0.1 != 0) then
    some (((0, 0, 0, ()), 0, 0, 0, ()), r0.1, ())
  else
    table_Get.L1 key t.1 t.2.1 t.2.2.1 t.2.2.2.1.1 t.2.2.2.1.2.1 t.2.2.2.1.2.2.1 t.2.2.2.2.1 t.2.2.2.2.2.1.1 t.2.2.2.2.2.1.2.1 t.2.2.2.2.2.1.2.2.1 t.2.2.2.2.2.1.2.2.2.1 := by kernel_rfl
/-! ### spigot/refine.held (40) -/
noncomputable def refine_held.sg : Sig := ⟨[.val t5], [((.slice t9), true)]⟩
noncomputable def refine_held.E : Env := ⟨tl, fun i => look i [(55, table_Keys.Fn), (56, table_Get.Fn)], [], eqs, globs, prims⟩
noncomputable def refine_held.c := cxOf refine_held.E refine_held.sg Try.f40
noncomputable def refine_held.b := body Try.f40
noncomputable def refine_held.Fn : Fun := fnOf refine_held.E refine_held.sg Try.f40
noncomputable def refine_held.F (t : t5.den) : Option ((List t9.den) × Unit) := refine_held.Fn.F (t, ())
noncomputable def refine_held.S1 (t16_ : Int) (t17_ : Int) (b0 : Int) (b02 : (List Int)) (b03 : (List t1.den)) (b04 : (List Int)) (b05 : (List Bool)) (b06 : Int) (b07 : (List t3.den)) (b08 : (List Int)) (b09 : (List Int)) (b010 : Int) (b011 : Int) (l1 : (List t9.den)) (l2 : (List Int)) : St := ⟨[(1, (.ptr 0 [])), (3, (.sl 1)), (15, (.sl 2)), (16, (.v (.int .i64) t16_)), (17, (.v (.int .i64) t17_))], [(0, some (.box (.agg [(.v (.int .i64) b0), (.v (.slice (.int .u32)) b02), (.v (.slice t1) b03), (.agg [(.v (.slice (.int .i64)) b04), (.v (.slice .bool) b05), (.v (.int .i64) b06)]), (.v (.slice t3) b07), (.agg [(.v (.slice (.int .i64)) b08), (.v (.slice (.int .i64)) b09), (.v (.int .i64) b010), (.v (.int .i64) b011)])]))), (1, some (.row t9 l1 false)), (2, some (.row (.int .u32) l2 false))], 3, []⟩
noncomputable def refine_held.L1 (t16_ : Int) (t17_ : Int) (b0 : Int) (b02 : (List Int)) (b03 : (List t1.den)) (b04 : (List Int)) (b05 : (List Bool)) (b06 : Int) (b07 : (List t3.den)) (b08 : (List Int)) (b09 : (List Int)) (b010 : Int) (b011 : Int) (l1 : (List t9.den)) (l2 : (List Int)) : Option ((List t9.den) × Unit) := res refine_held.c (atLoop refine_held.b [1, 1, 1, 0, 1, 0]) (refine_held.S1 t16_ t17_ b0 b02 b03 b04 b05 b06 b07 b08 b09 b010 b011 l1 l2)
noncomputable def refine_held.S2 (t16_ : Int) (t17_ : Int) (b0 : Int) (b02 : (List Int)) (b03 : (List t1.den)) (b04 : (List Int)) (b05 : (List Bool)) (b06 : Int) (b07 : (List t3.den)) (b08 : (List Int)) (b09 : (List Int)) (b010 : Int) (b011 : Int) (l1 : (List t9.den)) (l2 : (List Int)) : St := ⟨[(1, (.ptr 0 [])), (3, (.sl 1)), (15, (.sl 2)), (16, (.v (.int .i64) t16_)), (17, (.v (.int .i64) t17_))], [(0, some (.box (.agg [(.v (.int .i64) b0), (.v (.slice (.int .u32)) b02), (.v (.slice t1) b03), (.agg [(.v (.slice (.int .i64)) b04), (.v (.slice .bool) b05), (.v (.int .i64) b06)]), (.v (.slice t3) b07), (.agg [(.v (.slice (.int .i64)) b08), (.v (.slice (.int .i64)) b09), (.v (.int .i64) b010), (.v (.int .i64) b011)])]))), (1, some (.row t9 l1 false)), (2, some (.row (.int .u32) l2 false))], 3, []⟩
noncomputable def refine_held.L2 (t16_ : Int) (t17_ : Int) (b0 : Int) (b02 : (List Int)) (b03 : (List t1.den)) (b04 : (List Int)) (b05 : (List Bool)) (b06 : Int) (b07 : (List t3.den)) (b08 : (List Int)) (b09 : (List Int)) (b010 : Int) (b011 : Int) (l1 : (List t9.den)) (l2 : (List Int)) : Option ((List t9.den) × Unit) := res refine_held.c (atJoin refine_held.b [1, 1, 1, 0, 1, 0, 0, 1, 0]) (refine_held.S2 t16_ t17_ b0 b02 b03 b04 b05 b06 b07 b08 b09 b010 b011 l1 l2)
theorem refine_held.spec : FnSpec Try.prog globs 40 refine_held.Fn := spec_of (E := refine_held.E) (envOk_at tabOk eqOk primsOk (.cons table_Keys.spec <| .cons table_Get.spec <| .nil)) mixOk Try.func40 (by kernel_rfl)
theorem refine_held.L1_eq (t16_ : Int) (t17_ : Int) (b0 : Int) (b02 : (List Int)) (b03 : (List t1.den)) (b04 : (List Int)) (b05 : (List Bool)) (b06 : Int) (b07 : (List t3.den)) (b08 : (List Int)) (b09 : (List Int)) (b010 : Int) (b011 : Int) (l1 : (List t9.den)) (l2 : (List Int)) : refine_held.L1 t16_ t17_ b0 b02 b03 b04 b05 b06 b07 b08 b09 b010 b011 l1 l2 =
  bif (decide ((t17_ : Int) < t16_)) then
    refine_held.L2 t16_ t17_ b0 b02 b03 b04 b05 b06 b07 b08 b09 b010 b011 l1 l2
  else
    some (l1, ()) := res_eq (by kernel_rfl)
theorem refine_held.L2_eq (t16_ : Int) (t17_ : Int) (b0 : Int) (b02 : (List Int)) (b03 : (List t1.den)) (b04 : (List Int)) (b05 : (List Bool)) (b06 : Int) (b07 : (List t3.den)) (b08 : (List Int)) (b09 : (List Int)) (b010 : Int) (b011 : Int) (l1 : (List t9.den)) (l2 : (List Int)) : refine_held.L2 t16_ t17_ b0 b02 b03 b04 b05 b06 b07 b08 b09 b010 b011 l1 l2 =
  bif (decide ((0 : Int) ≤ t17_ ∧ (t17_ : Int) < ((List.length l2 : Int)))) then
    (table_Get.F (b0, b02, b03, (b04, b05, b06, ()), b07, (b08, b09, b010, b011, ()), ()) (List.getD l2 (Int.toNat t17_) 0)).bind fun r0 =>
    bif (lim ((List.length l1) + (List.length ([((List.getD l2 (Int.toNat t17_) 0), r0.1, ())] : List t9.den))) t9) then
      refine_held.L1 t16_ (IntKind.wrap .i64 (t17_ + 1)) b0 b02 b03 b04 b05 b06 b07 b08 b09 b010 b011 (l1 ++ ([((List.getD l2 (Int.toNat t17_) 0), r0.1, ())] : List t9.den)) l2
    else none
  else none := res_eq (by kernel_rfl)
theorem refine_held.F_eq (t : t5.den) : refine_held.F t =
  (table_Keys.F t).bind fun r0 =>
  refine_held.L1 ((List.length r0.1 : Int)) 0 t.1 t.2.1 t.2.2.1 t.2.2.2.1.1 t.2.2.2.1.2.1 t.2.2.2.1.2.2.1 t.2.2.2.2.1 t.2.2.2.2.2.1.1 t.2.2.2.2.2.1.2.1 t.2.2.2.2.2.1.2.2.1 t.2.2.2.2.2.1.2.2.2.1 ([] : List t9.den) r0.1 := by kernel_rfl
/-! ### spigot/refine.of (24) -/
noncomputable def refine_of.sg : Sig := ⟨[.val t8], [(t11, true)]⟩
noncomputable def refine_of.E : Env := ⟨tl, fun i => look i [(40, refine_held.Fn)], [], eqs, globs, prims⟩
noncomputable def refine_of.c := cxOf refine_of.E refine_of.sg Try.f24
noncomputable def refine_of.b := body Try.f24
noncomputable def refine_of.Fn : Fun := fnOf refine_of.E refine_of.sg Try.f24
noncomputable def refine_of.F (s : t8.den) : Option (t11.den × Unit) := refine_of.Fn.F (s, ())
noncomputable def refine_of.S1 (t14_ : (List t7.den)) (t15_ : Int) (t16_ : Int) (b0 : (List Int)) (b02 : (List Int)) (b1 : Int) (b12 : (List Int)) (b13 : (List Int)) (l2 : (List t10.den)) (l3 : (List t10.den)) : St := ⟨[(2, (.ptr 0 [])), (3, (.ptr 1 [])), (14, (.v (.slice t7) t14_)), (15, (.v (.int .i64) t15_)), (16, (.v (.int .i64) t16_))], [(0, some (.box (.agg [(.v (.int .u64) 0), (.v (.arr 32 (.int .u8)) b0), (.v (.arr 16 (.int .u32)) b02), (.sl 2)]))), (1, some (.box (.agg [(.v (.int .u64) b1), (.v (.arr 32 (.int .u8)) b12), (.v (.arr 16 (.int .u32)) b13), (.sl 3)]))), (2, some (.row t10 l2 false)), (3, some (.row t10 l3 false))], 4, []⟩
noncomputable def refine_of.L1 (t14_ : (List t7.den)) (t15_ : Int) (t16_ : Int) (b0 : (List Int)) (b02 : (List Int)) (b1 : Int) (b12 : (List Int)) (b13 : (List Int)) (l2 : (List t10.den)) (l3 : (List t10.den)) : Option (t11.den × Unit) := res refine_of.c (atLoop refine_of.b [1, 1, 0, 1, 0]) (refine_of.S1 t14_ t15_ t16_ b0 b02 b1 b12 b13 l2 l3)
noncomputable def refine_of.S2 (t14_ : (List t7.den)) (t15_ : Int) (t16_ : Int) (b0 : (List Int)) (b02 : (List Int)) (b1 : Int) (b12 : (List Int)) (b13 : (List Int)) (l2 : (List t10.den)) (l3 : (List t10.den)) : St := ⟨[(2, (.ptr 0 [])), (3, (.ptr 1 [])), (14, (.v (.slice t7) t14_)), (15, (.v (.int .i64) t15_)), (16, (.v (.int .i64) t16_))], [(0, some (.box (.agg [(.v (.int .u64) 0), (.v (.arr 32 (.int .u8)) b0), (.v (.arr 16 (.int .u32)) b02), (.sl 2)]))), (1, some (.box (.agg [(.v (.int .u64) b1), (.v (.arr 32 (.int .u8)) b12), (.v (.arr 16 (.int .u32)) b13), (.sl 3)]))), (2, some (.row t10 l2 false)), (3, some (.row t10 l3 false))], 4, []⟩
noncomputable def refine_of.L2 (t14_ : (List t7.den)) (t15_ : Int) (t16_ : Int) (b0 : (List Int)) (b02 : (List Int)) (b1 : Int) (b12 : (List Int)) (b13 : (List Int)) (l2 : (List t10.den)) (l3 : (List t10.den)) : Option (t11.den × Unit) := res refine_of.c (atJoin refine_of.b [1, 1, 0, 1, 0, 0, 1, 0]) (refine_of.S2 t14_ t15_ t16_ b0 b02 b1 b12 b13 l2 l3)
theorem refine_of.spec : FnSpec Try.prog globs 24 refine_of.Fn := spec_of (E := refine_of.E) (envOk_at tabOk eqOk primsOk (.cons refine_held.spec <| .nil)) mixOk Try.func24 (by kernel_rfl)
theorem refine_of.L1_eq (t14_ : (List t7.den)) (t15_ : Int) (t16_ : Int) (b0 : (List Int)) (b02 : (List Int)) (b1 : Int) (b12 : (List Int)) (b13 : (List Int)) (l2 : (List t10.den)) (l3 : (List t10.den)) : refine_of.L1 t14_ t15_ t16_ b0 b02 b1 b12 b13 l2 l3 =
  bif (decide ((t16_ : Int) < t15_)) then
    refine_of.L2 t14_ t15_ t16_ b0 b02 b1 b12 b13 l2 l3
  else
    some ((b1, b12, b13, l3, ()), ()) := res_eq (by kernel_rfl)
theorem refine_of.L2_eq (t14_ : (List t7.den)) (t15_ : Int) (t16_ : Int) (b0 : (List Int)) (b02 : (List Int)) (b1 : Int) (b12 : (List Int)) (b13 : (List Int)) (l2 : (List t10.den)) (l3 : (List t10.den)) : refine_of.L2 t14_ t15_ t16_ b0 b02 b1 b12 b13 l2 l3 =
  bif (decide ((0 : Int) ≤ t16_ ∧ (t16_ : Int) < ((List.length t14_ : Int)))) then
    (refine_held.F (((((List.getD t14_ (Int.toNat t16_) (0, (List.replicate 3 (0, 0, 0, ())), ((0, 0, 0, ()), 0, 0, 0, ()), (0, ([] : List Int), ([] : List t1.den), (([] : List Int), ([] : List Bool), 0, ()), ([] : List t3.den), (([] : List Int), ([] : List Int), 0, 0, ()), ()), (0, ([] : List Int), ([] : List t1.den), (([] : List Int), ([] : List Bool), 0, ()), ([] : List t3.den), (([] : List Int), ([] : List Int), 0, 0, ()), ()), ([] : List Int), (0, 0, 0, ()), ())).2).2).2).1)).bind fun r0 =>
    (refine_held.F ((((((List.getD t14_ (Int.toNat t16_) (0, (List.replicate 3 (0, 0, 0, ())), ((0, 0, 0, ()), 0, 0, 0, ()), (0, ([] : List Int), ([] : List t1.den), (([] : List Int), ([] : List Bool), 0, ()), ([] : List t3.den), (([] : List Int), ([] : List Int), 0, 0, ()), ()), (0, ([] : List Int), ([] : List t1.den), (([] : List Int), ([] : List Bool), 0, ()), ([] : List t3.den), (([] : List Int), ([] : List Int), 0, 0, ()), ()), ([] : List Int), (0, 0, 0, ()), ())).2).2).2).2).1)).bind fun r1 =>
    bif (lim (List.length (((((((List.getD t14_ (Int.toNat t16_) (0, (List.replicate 3 (0, 0, 0, ())), ((0, 0, 0, ()), 0, 0, 0, ()), (0, ([] : List Int), ([] : List t1.den), (([] : List Int), ([] : List Bool), 0, ()), ([] : List t3.den), (([] : List Int), ([] : List Int), 0, 0, ()), ()), (0, ([] : List Int), ([] : List t1.den), (([] : List Int), ([] : List Bool), 0, ()), ([] : List t3.den), (([] : List Int), ([] : List Int), 0, 0, ()), ()), ([] : List Int), (0, 0, 0, ()), ())).2).2).2).2).2).1)) (.int .u32)) then
      bif (lim ((List.length l3) + (List.length ([((List.getD t14_ (Int.toNat t16_) (0, (List.replicate 3 (0, 0, 0, ())), ((0, 0, 0, ()), 0, 0, 0, ()), (0, ([] : List Int), ([] : List t1.den), (([] : List Int), ([] : List Bool), 0, ()), ([] : List t3.den), (([] : List Int), ([] : List Int), 0, 0, ()), ()), (0, ([] : List Int), ([] : List t1.den), (([] : List Int), ([] : List Bool), 0, ()), ([] : List t3.den), (([] : List Int), ([] : List Int), 0, 0, ()), ()), ([] : List Int), (0, 0, 0, ()), ())).1, ((List.getD t14_ (Int.toNat t16_) (0, (List.replicate 3 (0, 0, 0, ())), ((0, 0, 0, ()), 0, 0, 0, ()), (0, ([] : List Int), ([] : List t1.den), (([] : List Int), ([] : List Bool), 0, ()), ([] : List t3.den), (([] : List Int), ([] : List Int), 0, 0, ()), ()), (0, ([] : List Int), ([] : List t1.den), (([] : List Int), ([] : List Bool), 0, ()), ([] : List t3.den), (([] : List Int), ([] : List Int), 0, 0, ()), ()), ([] : List Int), (0, 0, 0, ()), ())).2).1, ([(((((List.getD t14_ (Int.toNat t16_) (0, (List.replicate 3 (0, 0, 0, ())), ((0, 0, 0, ()), 0, 0, 0, ()), (0, ([] : List Int), ([] : List t1.den), (([] : List Int), ([] : List Bool), 0, ()), ([] : List t3.den), (([] : List Int), ([] : List Int), 0, 0, ()), ()), (0, ([] : List Int), ([] : List t1.den), (([] : List Int), ([] : List Bool), 0, ()), ([] : List t3.den), (([] : List Int), ([] : List Int), 0, 0, ()), ()), ([] : List Int), (0, 0, 0, ()), ())).2).2).2).1).1, ((((((List.getD t14_ (Int.toNat t16_) (0, (List.replicate 3 (0, 0, 0, ())), ((0, 0, 0, ()), 0, 0, 0, ()), (0, ([] : List Int), ([] : List t1.den), (([] : List Int), ([] : List Bool), 0, ()), ([] : List t3.den), (([] : List Int), ([] : List Int), 0, 0, ()), ()), (0, ([] : List Int), ([] : List t1.den), (([] : List Int), ([] : List Bool), 0, ()), ([] : List t3.den), (([] : List Int), ([] : List Int), 0, 0, ()), ()), ([] : List Int), (0, 0, 0, ()), ())).2).2).2).2).1).1] : List Int), (((List.getD t14_ (Int.toNat t16_) (0, (List.replicate 3 (0, 0, 0, ())), ((0, 0, 0, ()), 0, 0, 0, ()), (0, ([] : List Int), ([] : List t1.den), (([] : List Int), ([] : List Bool), 0, ()), ([] : List t3.den), (([] : List Int), ([] : List Int), 0, 0, ()), ()), (0, ([] : List Int), ([] : List t1.den), (([] : List Int), ([] : List Bool), 0, ()), ([] : List t3.den), (([] : List Int), ([] : List Int), 0, 0, ()), ()), ([] : List Int), (0, 0, 0, ()), ())).2).2).1, r0.1, r1.1, ((((((List.getD t14_ (Int.toNat t16_) (0, (List.replicate 3 (0, 0, 0, ())), ((0, 0, 0, ()), 0, 0, 0, ()), (0, ([] : List Int), ([] : List t1.den), (([] : List Int), ([] : List Bool), 0, ()), ([] : List t3.den), (([] : List Int), ([] : List Int), 0, 0, ()), ()), (0, ([] : List Int), ([] : List t1.den), (([] : List Int), ([] : List Bool), 0, ()), ([] : List t3.den), (([] : List Int), ([] : List Int), 0, 0, ()), ()), ([] : List Int), (0, 0, 0, ()), ())).2).2).2).2).2).1, (((((((List.getD t14_ (Int.toNat t16_) (0, (List.replicate 3 (0, 0, 0, ())), ((0, 0, 0, ()), 0, 0, 0, ()), (0, ([] : List Int), ([] : List t1.den), (([] : List Int), ([] : List Bool), 0, ()), ([] : List t3.den), (([] : List Int), ([] : List Int), 0, 0, ()), ()), (0, ([] : List Int), ([] : List t1.den), (([] : List Int), ([] : List Bool), 0, ()), ([] : List t3.den), (([] : List Int), ([] : List Int), 0, 0, ()), ()), ([] : List Int), (0, 0, 0, ()), ())).2).2).2).2).2).2).1, ())] : List t10.den))) t10) then
        refine_of.L1 t14_ t15_ (IntKind.wrap .i64 (t16_ + 1)) b0 b02 b1 b12 b13 l2 (l3 ++ ([((List.getD t14_ (Int.toNat t16_) (0, (List.replicate 3 (0, 0, 0, ())), ((0, 0, 0, ()), 0, 0, 0, ()), (0, ([] : List Int), ([] : List t1.den), (([] : List Int), ([] : List Bool), 0, ()), ([] : List t3.den), (([] : List Int), ([] : List Int), 0, 0, ()), ()), (0, ([] : List Int), ([] : List t1.den), (([] : List Int), ([] : List Bool), 0, ()), ([] : List t3.den), (([] : List Int), ([] : List Int), 0, 0, ()), ()), ([] : List Int), (0, 0, 0, ()), ())).1, ((List.getD t14_ (Int.toNat t16_) (0, (List.replicate 3 (0, 0, 0, ())), ((0, 0, 0, ()), 0, 0, 0, ()), (0, ([] : List Int), ([] : List t1.den), (([] : List Int), ([] : List Bool), 0, ()), ([] : List t3.den), (([] : List Int), ([] : List Int), 0, 0, ()), ()), (0, ([] : List Int), ([] : List t1.den), (([] : List Int), ([] : List Bool), 0, ()), ([] : List t3.den), (([] : List Int), ([] : List Int), 0, 0, ()), ()), ([] : List Int), (0, 0, 0, ()), ())).2).1, ([(((((List.getD t14_ (Int.toNat t16_) (0, (List.replicate 3 (0, 0, 0, ())), ((0, 0, 0, ()), 0, 0, 0, ()), (0, ([] : List Int), ([] : List t1.den), (([] : List Int), ([] : List Bool), 0, ()), ([] : List t3.den), (([] : List Int), ([] : List Int), 0, 0, ()), ()), (0, ([] : List Int), ([] : List t1.den), (([] : List Int), ([] : List Bool), 0, ()), ([] : List t3.den), (([] : List Int), ([] : List Int), 0, 0, ()), ()), ([] : List Int), (0, 0, 0, ()), ())).2).2).2).1).1, ((((((List.getD t14_ (Int.toNat t16_) (0, (List.replicate 3 (0, 0, 0, ())), ((0, 0, 0, ()), 0, 0, 0, ()), (0, ([] : List Int), ([] : List t1.den), (([] : List Int), ([] : List Bool), 0, ()), ([] : List t3.den), (([] : List Int), ([] : List Int), 0, 0, ()), ()), (0, ([] : List Int), ([] : List t1.den), (([] : List Int), ([] : List Bool), 0, ()), ([] : List t3.den), (([] : List Int), ([] : List Int), 0, 0, ()), ()), ([] : List Int), (0, 0, 0, ()), ())).2).2).2).2).1).1] : List Int), (((List.getD t14_ (Int.toNat t16_) (0, (List.replicate 3 (0, 0, 0, ())), ((0, 0, 0, ()), 0, 0, 0, ()), (0, ([] : List Int), ([] : List t1.den), (([] : List Int), ([] : List Bool), 0, ()), ([] : List t3.den), (([] : List Int), ([] : List Int), 0, 0, ()), ()), (0, ([] : List Int), ([] : List t1.den), (([] : List Int), ([] : List Bool), 0, ()), ([] : List t3.den), (([] : List Int), ([] : List Int), 0, 0, ()), ()), ([] : List Int), (0, 0, 0, ()), ())).2).2).1, r0.1, r1.1, ((((((List.getD t14_ (Int.toNat t16_) (0, (List.replicate 3 (0, 0, 0, ())), ((0, 0, 0, ()), 0, 0, 0, ()), (0, ([] : List Int), ([] : List t1.den), (([] : List Int), ([] : List Bool), 0, ()), ([] : List t3.den), (([] : List Int), ([] : List Int), 0, 0, ()), ()), (0, ([] : List Int), ([] : List t1.den), (([] : List Int), ([] : List Bool), 0, ()), ([] : List t3.den), (([] : List Int), ([] : List Int), 0, 0, ()), ()), ([] : List Int), (0, 0, 0, ()), ())).2).2).2).2).2).1, (((((((List.getD t14_ (Int.toNat t16_) (0, (List.replicate 3 (0, 0, 0, ())), ((0, 0, 0, ()), 0, 0, 0, ()), (0, ([] : List Int), ([] : List t1.den), (([] : List Int), ([] : List Bool), 0, ()), ([] : List t3.den), (([] : List Int), ([] : List Int), 0, 0, ()), ()), (0, ([] : List Int), ([] : List t1.den), (([] : List Int), ([] : List Bool), 0, ()), ([] : List t3.den), (([] : List Int), ([] : List Int), 0, 0, ()), ()), ([] : List Int), (0, 0, 0, ()), ())).2).2).2).2).2).2).1, ())] : List t10.den))
      else none
    else none
  else none := res_eq (by kernel_rfl)
theorem refine_of.F_eq (s : t8.den) : refine_of.F s =
  refine_of.L1 s.2.2.2.1 ((List.length s.2.2.2.1 : Int)) 0 (List.replicate 32 (0 : Int)) (List.replicate 16 (0 : Int)) s.1 s.2.1 s.2.2.1 ([] : List t10.den) ([] : List t10.den) := by kernel_rfl
/-! ### spigot/refine.Of (14) -/
noncomputable def refine_Of.sg : Sig := ⟨[.val t8], [(t11, true), ((.int .i64), true)]⟩
noncomputable def refine_Of.E : Env := ⟨tl, fun i => look i [(13, server_Check.Fn), (24, refine_of.Fn)], [], eqs, globs, prims⟩
noncomputable def refine_Of.c := cxOf refine_Of.E refine_Of.sg Try.f14
noncomputable def refine_Of.b := body Try.f14
noncomputable def refine_Of.Fn : Fun := fnOf refine_Of.E refine_Of.sg Try.f14
noncomputable def refine_Of.F (s : t8.den) : Option (t11.den × Int × Unit) := refine_Of.Fn.F (s, ())
noncomputable def refine_Of.S1 (b0 : Int) (b02 : (List Int)) (b03 : (List Int)) (b04 : (List t7.den)) (b1 : (List Int)) (b12 : (List Int)) (l2 : (List t10.den)) : St := ⟨[(1, (.ptr 0 [])), (2, (.ptr 1 []))], [(0, some (.box (.agg [(.v (.int .u64) b0), (.v (.arr 32 (.int .u8)) b02), (.v (.arr 16 (.int .u32)) b03), (.v (.slice t7) b04)]))), (1, some (.box (.agg [(.v (.int .u64) 0), (.v (.arr 32 (.int .u8)) b1), (.v (.arr 16 (.int .u32)) b12), (.sl 2)]))), (2, some (.row t10 l2 false))], 3, []⟩
noncomputable def refine_Of.L1 (b0 : Int) (b02 : (List Int)) (b03 : (List Int)) (b04 : (List t7.den)) (b1 : (List Int)) (b12 : (List Int)) (l2 : (List t10.den)) : Option (t11.den × Int × Unit) := res refine_Of.c (atJoin refine_Of.b [1, 0, 1, 1]) (refine_Of.S1 b0 b02 b03 b04 b1 b12 l2)
theorem refine_Of.spec : FnSpec Try.prog globs 14 refine_Of.Fn := spec_of (E := refine_Of.E) (envOk_at tabOk eqOk primsOk (.cons server_Check.spec <| .cons refine_of.spec <| .nil)) mixOk Try.func14 (by kernel_rfl)
theorem refine_Of.L1_eq (b0 : Int) (b02 : (List Int)) (b03 : (List Int)) (b04 : (List t7.den)) (b1 : (List Int)) (b12 : (List Int)) (l2 : (List t10.den)) : refine_Of.L1 b0 b02 b03 b04 b1 b12 l2 =
  (refine_of.F (b0, b02, b03, b04, ())).bind fun r0 =>
  some (r0.1, 0, ()) := res_eq (by kernel_rfl)
theorem refine_Of.F_eq (s : t8.den) : refine_Of.F s =
  (server_Check.F s).bind fun r0 =>
  bif (r0.1 != 0) then
    some ((0, (List.replicate 32 (0 : Int)), (List.replicate 16 (0 : Int)), ([] : List t10.den), ()), r0.1, ())
  else
    refine_Of.L1 s.1 s.2.1 s.2.2.1 s.2.2.2.1 (List.replicate 32 (0 : Int)) (List.replicate 16 (0 : Int)) ([] : List t10.den) := by kernel_rfl
/-! ### (*spigot/image.writer).put (15) -/
noncomputable def image_writer_put.sg : Sig := ⟨[.io t12 true, .val (.int .u64), .val (.int .i64)], []⟩
noncomputable def image_writer_put.E : Env := ⟨tl, fun i => look i [], [], eqs, globs, prims⟩
noncomputable def image_writer_put.c := cxOf image_writer_put.E image_writer_put.sg Try.f15
noncomputable def image_writer_put.b := body Try.f15
noncomputable def image_writer_put.Fn : Fun := fnOf image_writer_put.E image_writer_put.sg Try.f15
noncomputable def image_writer_put.F (w : t12.den) (n : Int) (k : Int) : Option (t12.den × Unit) := image_writer_put.Fn.F (w, n, k, ())
noncomputable def image_writer_put.S1 (n : Int) (k : Int) (l1 : (List Int)) : St := ⟨[(0, (.ptr 0 [])), (1, (.v (.int .u64) n)), (2, (.v (.int .i64) k))], [(0, some (.box (.agg [(.sl 1)]))), (1, some (.row (.int .u8) l1 false))], 2, [(.ptr 0 [])]⟩
noncomputable def image_writer_put.L1 (n : Int) (k : Int) (l1 : (List Int)) : Option (t12.den × Unit) := res image_writer_put.c (atLoop image_writer_put.b [1, 0]) (image_writer_put.S1 n k l1)
noncomputable def image_writer_put.S2 (n : Int) (k : Int) (l1 : (List Int)) : St := ⟨[(0, (.ptr 0 [])), (1, (.v (.int .u64) n)), (2, (.v (.int .i64) k))], [(0, some (.box (.agg [(.sl 1)]))), (1, some (.row (.int .u8) l1 false))], 2, [(.ptr 0 [])]⟩
noncomputable def image_writer_put.L2 (n : Int) (k : Int) (l1 : (List Int)) : Option (t12.den × Unit) := res image_writer_put.c (atJoin image_writer_put.b [1, 0, 0, 0, 1]) (image_writer_put.S2 n k l1)
theorem image_writer_put.spec : FnSpec Try.prog globs 15 image_writer_put.Fn := spec_of (E := image_writer_put.E) (envOk_at tabOk eqOk primsOk (.nil)) mixOk Try.func15 (by kernel_rfl)
theorem image_writer_put.L1_eq (n : Int) (k : Int) (l1 : (List Int)) : image_writer_put.L1 n k l1 =
  bif (decide ((k : Int) ≥ 0)) then
    image_writer_put.L2 n k l1
  else
    some ((l1, ()), ()) := res_eq (by kernel_rfl)
theorem image_writer_put.L2_eq (n : Int) (k : Int) (l1 : (List Int)) : image_writer_put.L2 n k l1 =
  bif (decide ((0 : Int) ≤ (IntKind.wrap .i64 (8 * k)))) then
    bif (lim ((List.length l1) + (List.length ([(IntKind.wrap .u8 (Int.fdiv n (2 ^ min (Int.toNat (IntKind.wrap .i64 (8 * k))) (IntKind.bits .u64))))] : List Int))) (.int .u8)) then
      image_writer_put.L1 n (IntKind.wrap .i64 (k - 1)) (l1 ++ ([(IntKind.wrap .u8 (Int.fdiv n (2 ^ min (Int.toNat (IntKind.wrap .i64 (8 * k))) (IntKind.bits .u64))))] : List Int))
    else none
  else none := res_eq (by kernel_rfl)
theorem image_writer_put.F_eq (w : t12.den) (n : Int) (k : Int) : image_writer_put.F w n k =
  image_writer_put.L1 n (IntKind.wrap .i64 (k - 1)) w.1 := by kernel_rfl
/-! ### (*spigot/image.writer).bucket (25) -/
noncomputable def image_writer_bucket.sg : Sig := ⟨[.io t12 true, .val t1], []⟩
noncomputable def image_writer_bucket.E : Env := ⟨tl, fun i => look i [(15, image_writer_put.Fn)], [], eqs, globs, prims⟩
noncomputable def image_writer_bucket.c := cxOf image_writer_bucket.E image_writer_bucket.sg Try.f25
noncomputable def image_writer_bucket.b := body Try.f25
noncomputable def image_writer_bucket.Fn : Fun := fnOf image_writer_bucket.E image_writer_bucket.sg Try.f25
noncomputable def image_writer_bucket.F (w : t12.den) (b : t1.den) : Option (t12.den × Unit) := image_writer_bucket.Fn.F (w, b, ())
theorem image_writer_bucket.spec : FnSpec Try.prog globs 25 image_writer_bucket.Fn := spec_of (E := image_writer_bucket.E) (envOk_at tabOk eqOk primsOk (.cons image_writer_put.spec <| .nil)) mixOk Try.func25 (by kernel_rfl)
theorem image_writer_bucket.F_eq (w : t12.den) (b : t1.den) : image_writer_bucket.F w b =
  (image_writer_put.F w (IntKind.wrap .u64 b.2.1) 8).bind fun r0 =>
  (image_writer_put.F r0.1 (IntKind.wrap .u64 b.2.2.1) 8).bind fun r1 =>
  (image_writer_put.F r1.1 b.2.2.2.1 8).bind fun r2 =>
  some (r2.1, ()) := by kernel_rfl
/-! ### (*spigot/image.writer).held (26) -/
noncomputable def image_writer_held.sg : Sig := ⟨[.io t12 true, .val (.slice t9)], []⟩
noncomputable def image_writer_held.E : Env := ⟨tl, fun i => look i [(15, image_writer_put.Fn), (25, image_writer_bucket.Fn)], [], eqs, globs, prims⟩
noncomputable def image_writer_held.c := cxOf image_writer_held.E image_writer_held.sg Try.f26
noncomputable def image_writer_held.b := body Try.f26
noncomputable def image_writer_held.Fn : Fun := fnOf image_writer_held.E image_writer_held.sg Try.f26
noncomputable def image_writer_held.F (w : t12.den) (l : (List t9.den)) : Option (t12.den × Unit) := image_writer_held.Fn.F (w, l, ())
noncomputable def image_writer_held.S1 (t11_ : (List t9.den)) (t12_ : Int) (t13_ : Int) (l1 : (List Int)) : St := ⟨[(0, (.ptr 0 [])), (11, (.v (.slice t9) t11_)), (12, (.v (.int .i64) t12_)), (13, (.v (.int .i64) t13_))], [(0, some (.box (.agg [(.sl 1)]))), (1, some (.row (.int .u8) l1 false))], 2, [(.ptr 0 [])]⟩
noncomputable def image_writer_held.L1 (t11_ : (List t9.den)) (t12_ : Int) (t13_ : Int) (l1 : (List Int)) : Option (t12.den × Unit) := res image_writer_held.c (atLoop image_writer_held.b [1, 1, 0]) (image_writer_held.S1 t11_ t12_ t13_ l1)
noncomputable def image_writer_held.S2 (t11_ : (List t9.den)) (t12_ : Int) (t13_ : Int) (l1 : (List Int)) : St := ⟨[(0, (.ptr 0 [])), (11, (.v (.slice t9) t11_)), (12, (.v (.int .i64) t12_)), (13, (.v (.int .i64) t13_))], [(0, some (.box (.agg [(.sl 1)]))), (1, some (.row (.int .u8) l1 false))], 2, [(.ptr 0 [])]⟩
noncomputable def image_writer_held.L2 (t11_ : (List t9.den)) (t12_ : Int) (t13_ : Int) (l1 : (List Int)) : Option (t12.den × Unit) := res image_writer_held.c (atJoin image_writer_held.b [1, 1, 0, 0, 1, 0]) (image_writer_held.S2 t11_ t12_ t13_ l1)
theorem image_writer_held.spec : FnSpec Try.prog globs 26 image_writer_held.Fn := spec_of (E := image_writer_held.E) (envOk_at tabOk eqOk primsOk (.cons image_writer_put.spec <| .cons image_writer_bucket.spec <| .nil)) mixOk Try.func26 (by kernel_rfl)
theorem image_writer_held.L1_eq (t11_ : (List t9.den)) (t12_ : Int) (t13_ : Int) (l1 : (List Int)) : image_writer_held.L1 t11_ t12_ t13_ l1 =
  bif (decide ((t13_ : Int) < t12_)) then
    image_writer_held.L2 t11_ t12_ t13_ l1
  else
    some ((l1, ()), ()) := res_eq (by kernel_rfl)
theorem image_writer_held.L2_eq (t11_ : (List t9.den)) (t12_ : Int) (t13_ : Int) (l1 : (List Int)) : image_writer_held.L2 t11_ t12_ t13_ l1 =
  bif (decide ((0 : Int) ≤ t13_ ∧ (t13_ : Int) < ((List.length t11_ : Int)))) then
    (image_writer_put.F (l1, ()) (IntKind.wrap .u64 ((List.getD t11_ (Int.toNat t13_) (0, ((0, 0, 0, ()), 0, 0, 0, ()), ())).1)) 4).bind fun r0 =>
    (image_writer_bucket.F r0.1 (((List.getD t11_ (Int.toNat t13_) (0, ((0, 0, 0, ()), 0, 0, 0, ()), ())).2).1)).bind fun r1 =>
    image_writer_held.L1 t11_ t12_ (IntKind.wrap .i64 (t13_ + 1)) r1.1.1
  else none := res_eq (by kernel_rfl)
theorem image_writer_held.F_eq (w : t12.den) (l : (List t9.den)) : image_writer_held.F w l =
  (image_writer_put.F w (IntKind.wrap .u64 ((List.length l : Int))) 1).bind fun r0 =>
  image_writer_held.L1 l ((List.length l : Int)) 0 r0.1.1 := by kernel_rfl
/-! ### (*spigot/image.writer).account (16) -/
noncomputable def image_writer_account.sg : Sig := ⟨[.io t12 true, .val t10], []⟩
noncomputable def image_writer_account.E : Env := ⟨tl, fun i => look i [(15, image_writer_put.Fn), (25, image_writer_bucket.Fn), (26, image_writer_held.Fn)], [], eqs, globs, prims⟩
noncomputable def image_writer_account.c := cxOf image_writer_account.E image_writer_account.sg Try.f16
noncomputable def image_writer_account.b := body Try.f16
noncomputable def image_writer_account.Fn : Fun := fnOf image_writer_account.E image_writer_account.sg Try.f16
noncomputable def image_writer_account.F (w : t12.den) (a : t10.den) : Option (t12.den × Unit) := image_writer_account.Fn.F (w, a, ())
noncomputable def image_writer_account.S1 (t14_ : (List t0.den)) (t15_ : Int) (b1 : Int) (b12 : (List Int)) (b13 : Int) (b14 : Int) (b15 : Int) (b16 : Int) (b17 : Int) (b18 : Int) (b19 : (List t9.den)) (b110 : (List t9.den)) (b111 : (List Int)) (b112 : Int) (b113 : Int) (b114 : Int) (l2 : (List Int)) : St := ⟨[(0, (.ptr 0 [])), (3, (.ptr 1 [])), (14, (.v (.arr 3 t0) t14_)), (15, (.v (.int .i64) t15_))], [(0, some (.box (.agg [(.sl 2)]))), (1, some (.box (.agg [(.v (.int .u32) b1), (.v (.arr 3 t0) t14_), (.v (.arr 2 (.int .i64)) b12), (.agg [(.agg [(.v (.int .i64) b13), (.v (.int .i64) b14), (.v (.int .i64) b15)]), (.v (.int .i64) b16), (.v (.int .i64) b17), (.v (.int .u64) b18)]), (.v (.slice t9) b19), (.v (.slice t9) b110), (.v (.slice (.int .u32)) b111), (.agg [(.v (.int .u64) b112), (.v (.int .u64) b113), (.v (.int .u64) b114)])]))), (2, some (.row (.int .u8) l2 false))], 3, [(.ptr 0 [])]⟩
noncomputable def image_writer_account.L1 (t14_ : (List t0.den)) (t15_ : Int) (b1 : Int) (b12 : (List Int)) (b13 : Int) (b14 : Int) (b15 : Int) (b16 : Int) (b17 : Int) (b18 : Int) (b19 : (List t9.den)) (b110 : (List t9.den)) (b111 : (List Int)) (b112 : Int) (b113 : Int) (b114 : Int) (l2 : (List Int)) : Option (t12.den × Unit) := res image_writer_account.c (atLoop image_writer_account.b [1, 1, 0, 1, 0]) (image_writer_account.S1 t14_ t15_ b1 b12 b13 b14 b15 b16 b17 b18 b19 b110 b111 b112 b113 b114 l2)
noncomputable def image_writer_account.S2 (t14_ : (List t0.den)) (t15_ : Int) (b1 : Int) (b12 : (List Int)) (b13 : Int) (b14 : Int) (b15 : Int) (b16 : Int) (b17 : Int) (b18 : Int) (b19 : (List t9.den)) (b110 : (List t9.den)) (b111 : (List Int)) (b112 : Int) (b113 : Int) (b114 : Int) (l2 : (List Int)) : St := ⟨[(0, (.ptr 0 [])), (3, (.ptr 1 [])), (14, (.v (.arr 3 t0) t14_)), (15, (.v (.int .i64) t15_))], [(0, some (.box (.agg [(.sl 2)]))), (1, some (.box (.agg [(.v (.int .u32) b1), (.v (.arr 3 t0) t14_), (.v (.arr 2 (.int .i64)) b12), (.agg [(.agg [(.v (.int .i64) b13), (.v (.int .i64) b14), (.v (.int .i64) b15)]), (.v (.int .i64) b16), (.v (.int .i64) b17), (.v (.int .u64) b18)]), (.v (.slice t9) b19), (.v (.slice t9) b110), (.v (.slice (.int .u32)) b111), (.agg [(.v (.int .u64) b112), (.v (.int .u64) b113), (.v (.int .u64) b114)])]))), (2, some (.row (.int .u8) l2 false))], 3, [(.ptr 0 [])]⟩
noncomputable def image_writer_account.L2 (t14_ : (List t0.den)) (t15_ : Int) (b1 : Int) (b12 : (List Int)) (b13 : Int) (b14 : Int) (b15 : Int) (b16 : Int) (b17 : Int) (b18 : Int) (b19 : (List t9.den)) (b110 : (List t9.den)) (b111 : (List Int)) (b112 : Int) (b113 : Int) (b114 : Int) (l2 : (List Int)) : Option (t12.den × Unit) := res image_writer_account.c (atJoin image_writer_account.b [1, 1, 0, 1, 0, 0, 1, 0]) (image_writer_account.S2 t14_ t15_ b1 b12 b13 b14 b15 b16 b17 b18 b19 b110 b111 b112 b113 b114 l2)
noncomputable def image_writer_account.S3 (t65_ : (List Int)) (t66_ : Int) (t67_ : Int) (b1 : Int) (b12 : (List t0.den)) (b13 : (List Int)) (b14 : Int) (b15 : Int) (b16 : Int) (b17 : Int) (b18 : Int) (b19 : Int) (b110 : (List t9.den)) (b111 : (List t9.den)) (b112 : Int) (b113 : Int) (b114 : Int) (l2 : (List Int)) : St := ⟨[(0, (.ptr 0 [])), (3, (.ptr 1 [])), (65, (.v (.slice (.int .u32)) t65_)), (66, (.v (.int .i64) t66_)), (67, (.v (.int .i64) t67_))], [(0, some (.box (.agg [(.sl 2)]))), (1, some (.box (.agg [(.v (.int .u32) b1), (.v (.arr 3 t0) b12), (.v (.arr 2 (.int .i64)) b13), (.agg [(.agg [(.v (.int .i64) b14), (.v (.int .i64) b15), (.v (.int .i64) b16)]), (.v (.int .i64) b17), (.v (.int .i64) b18), (.v (.int .u64) b19)]), (.v (.slice t9) b110), (.v (.slice t9) b111), (.v (.slice (.int .u32)) t65_), (.agg [(.v (.int .u64) b112), (.v (.int .u64) b113), (.v (.int .u64) b114)])]))), (2, some (.row (.int .u8) l2 false))], 3, [(.ptr 0 [])]⟩
noncomputable def image_writer_account.L3 (t65_ : (List Int)) (t66_ : Int) (t67_ : Int) (b1 : Int) (b12 : (List t0.den)) (b13 : (List Int)) (b14 : Int) (b15 : Int) (b16 : Int) (b17 : Int) (b18 : Int) (b19 : Int) (b110 : (List t9.den)) (b111 : (List t9.den)) (b112 : Int) (b113 : Int) (b114 : Int) (l2 : (List Int)) : Option (t12.den × Unit) := res image_writer_account.c (atLoop image_writer_account.b [1, 1, 1, 1, 1, 1, 1, 1, 1, 0, 1, 0]) (image_writer_account.S3 t65_ t66_ t67_ b1 b12 b13 b14 b15 b16 b17 b18 b19 b110 b111 b112 b113 b114 l2)
noncomputable def image_writer_account.S4 (t65_ : (List Int)) (t66_ : Int) (t67_ : Int) (b1 : Int) (b12 : (List t0.den)) (b13 : (List Int)) (b14 : Int) (b15 : Int) (b16 : Int) (b17 : Int) (b18 : Int) (b19 : Int) (b110 : (List t9.den)) (b111 : (List t9.den)) (b112 : Int) (b113 : Int) (b114 : Int) (l2 : (List Int)) : St := ⟨[(0, (.ptr 0 [])), (3, (.ptr 1 [])), (65, (.v (.slice (.int .u32)) t65_)), (66, (.v (.int .i64) t66_)), (67, (.v (.int .i64) t67_))], [(0, some (.box (.agg [(.sl 2)]))), (1, some (.box (.agg [(.v (.int .u32) b1), (.v (.arr 3 t0) b12), (.v (.arr 2 (.int .i64)) b13), (.agg [(.agg [(.v (.int .i64) b14), (.v (.int .i64) b15), (.v (.int .i64) b16)]), (.v (.int .i64) b17), (.v (.int .i64) b18), (.v (.int .u64) b19)]), (.v (.slice t9) b110), (.v (.slice t9) b111), (.v (.slice (.int .u32)) t65_), (.agg [(.v (.int .u64) b112), (.v (.int .u64) b113), (.v (.int .u64) b114)])]))), (2, some (.row (.int .u8) l2 false))], 3, [(.ptr 0 [])]⟩
noncomputable def image_writer_account.L4 (t65_ : (List Int)) (t66_ : Int) (t67_ : Int) (b1 : Int) (b12 : (List t0.den)) (b13 : (List Int)) (b14 : Int) (b15 : Int) (b16 : Int) (b17 : Int) (b18 : Int) (b19 : Int) (b110 : (List t9.den)) (b111 : (List t9.den)) (b112 : Int) (b113 : Int) (b114 : Int) (l2 : (List Int)) : Option (t12.den × Unit) := res image_writer_account.c (atJoin image_writer_account.b [1, 1, 1, 1, 1, 1, 1, 1, 1, 0, 1, 0, 0, 1, 0]) (image_writer_account.S4 t65_ t66_ t67_ b1 b12 b13 b14 b15 b16 b17 b18 b19 b110 b111 b112 b113 b114 l2)
theorem image_writer_account.spec : FnSpec Try.prog globs 16 image_writer_account.Fn := spec_of (E := image_writer_account.E) (envOk_at tabOk eqOk primsOk (.cons image_writer_put.spec <| .cons image_writer_bucket.spec <| .cons image_writer_held.spec <| .nil)) mixOk Try.func16 (by kernel_rfl)
theorem image_writer_account.L1_eq (t14_ : (List t0.den)) (t15_ : Int) (b1 : Int) (b12 : (List Int)) (b13 : Int) (b14 : Int) (b15 : Int) (b16 : Int) (b17 : Int) (b18 : Int) (b19 : (List t9.den)) (b110 : (List t9.den)) (b111 : (List Int)) (b112 : Int) (b113 : Int) (b114 : Int) (l2 : (List Int)) : image_writer_account.L1 t14_ t15_ b1 b12 b13 b14 b15 b16 b17 b18 b19 b110 b111 b112 b113 b114 l2 =
  bif (decide ((t15_ : Int) < 3)) then
    image_writer_account.L2 t14_ t15_ b1 b12 b13 b14 b15 b16 b17 b18 b19 b110 b111 b112 b113 b114 l2
  else
    bif (decide ((0 : Int) ≤ 0 ∧ (0 : Int) < 2)) then
      (image_writer_put.F (l2, ()) (IntKind.wrap .u64 (List.getD b12 (Int.toNat 0) 0)) 1).bind fun r0 =>
      bif (decide ((0 : Int) ≤ 1 ∧ (1 : Int) < 2)) then
        (image_writer_put.F r0.1 (IntKind.wrap .u64 (List.getD b12 (Int.toNat 1) 0)) 1).bind fun r1 =>
        (image_writer_bucket.F r1.1 ((b13, b14, b15, ()), b16, b17, b18, ())).bind fun r2 =>
        (image_writer_held.F r2.1 b19).bind fun r3 =>
        (image_writer_held.F r3.1 b110).bind fun r4 =>
        (image_writer_put.F r4.1 (IntKind.wrap .u64 ((List.length b111 : Int))) 1).bind fun r5 =>
        image_writer_account.L3 b111 ((List.length b111 : Int)) 0 b1 t14_ b12 b13 b14 b15 b16 b17 b18 b19 b110 b112 b113 b114 r5.1.1
      else none
    else none := res_eq (by kernel_rfl)
theorem image_writer_account.L2_eq (t14_ : (List t0.den)) (t15_ : Int) (b1 : Int) (b12 : (List Int)) (b13 : Int) (b14 : Int) (b15 : Int) (b16 : Int) (b17 : Int) (b18 : Int) (b19 : (List t9.den)) (b110 : (List t9.den)) (b111 : (List Int)) (b112 : Int) (b113 : Int) (b114 : Int) (l2 : (List Int)) : image_writer_account.L2 t14_ t15_ b1 b12 b13 b14 b15 b16 b17 b18 b19 b110 b111 b112 b113 b114 l2 =
  bif (decide ((0 : Int) ≤ t15_ ∧ (t15_ : Int) < 3)) then
    (image_writer_put.F (l2, ()) (IntKind.wrap .u64 ((List.getD t14_ (Int.toNat t15_) (0, 0, 0, ())).1)) 4).bind fun r0 =>
    (image_writer_put.F r0.1 (IntKind.wrap .u64 (((List.getD t14_ (Int.toNat t15_) (0, 0, 0, ())).2).1)) 4).bind fun r1 =>
    (image_writer_put.F r1.1 (IntKind.wrap .u64 ((((List.getD t14_ (Int.toNat t15_) (0, 0, 0, ())).2).2).1)) 4).bind fun r2 =>
    image_writer_account.L1 t14_ (IntKind.wrap .i64 (t15_ + 1)) b1 b12 b13 b14 b15 b16 b17 b18 b19 b110 b111 b112 b113 b114 r2.1.1
  else none := res_eq (by kernel_rfl)
theorem image_writer_account.L3_eq (t65_ : (List Int)) (t66_ : Int) (t67_ : Int) (b1 : Int) (b12 : (List t0.den)) (b13 : (List Int)) (b14 : Int) (b15 : Int) (b16 : Int) (b17 : Int) (b18 : Int) (b19 : Int) (b110 : (List t9.den)) (b111 : (List t9.den)) (b112 : Int) (b113 : Int) (b114 : Int) (l2 : (List Int)) : image_writer_account.L3 t65_ t66_ t67_ b1 b12 b13 b14 b15 b16 b17 b18 b19 b110 b111 b112 b113 b114 l2 =
  bif (decide ((t67_ : Int) < t66_)) then
    image_writer_account.L4 t65_ t66_ t67_ b1 b12 b13 b14 b15 b16 b17 b18 b19 b110 b111 b112 b113 b114 l2
  else
    (image_writer_put.F (l2, ()) b112 8).bind fun r0 =>
    (image_writer_put.F r0.1 b113 8).bind fun r1 =>
    (image_writer_put.F r1.1 b114 8).bind fun r2 =>
    some (r2.1, ()) := res_eq (by kernel_rfl)
theorem image_writer_account.L4_eq (t65_ : (List Int)) (t66_ : Int) (t67_ : Int) (b1 : Int) (b12 : (List t0.den)) (b13 : (List Int)) (b14 : Int) (b15 : Int) (b16 : Int) (b17 : Int) (b18 : Int) (b19 : Int) (b110 : (List t9.den)) (b111 : (List t9.den)) (b112 : Int) (b113 : Int) (b114 : Int) (l2 : (List Int)) : image_writer_account.L4 t65_ t66_ t67_ b1 b12 b13 b14 b15 b16 b17 b18 b19 b110 b111 b112 b113 b114 l2 =
  bif (decide ((0 : Int) ≤ t67_ ∧ (t67_ : Int) < ((List.length t65_ : Int)))) then
    (image_writer_put.F (l2, ()) (IntKind.wrap .u64 (List.getD t65_ (Int.toNat t67_) 0)) 4).bind fun r0 =>
    image_writer_account.L3 t65_ t66_ (IntKind.wrap .i64 (t67_ + 1)) b1 b12 b13 b14 b15 b16 b17 b18 b19 b110 b111 b112 b113 b114 r0.1.1
  else none := res_eq (by kernel_rfl)
theorem image_writer_account.F_eq (w : t12.den) (a : t10.den) : image_writer_account.F w a =
  (image_writer_put.F w (IntKind.wrap .u64 a.1) 1).bind fun r0 =>
  image_writer_account.L1 a.2.1 0 a.1 a.2.2.1 a.2.2.2.1.1.1 a.2.2.2.1.1.2.1 a.2.2.2.1.1.2.2.1 a.2.2.2.1.2.1 a.2.2.2.1.2.2.1 a.2.2.2.1.2.2.2.1 a.2.2.2.2.1 a.2.2.2.2.2.1 a.2.2.2.2.2.2.1 a.2.2.2.2.2.2.2.1.1 a.2.2.2.2.2.2.2.1.2.1 a.2.2.2.2.2.2.2.1.2.2.1 r0.1.1 := by kernel_rfl
/-! ### spigot/image.Write (6) -/
noncomputable def image_Write.sg : Sig := ⟨[.val t8], [((.slice (.int .u8)), true), ((.int .i64), true)]⟩
noncomputable def image_Write.E : Env := ⟨tl, fun i => look i [(13, server_Check.Fn), (14, refine_Of.Fn), (15, image_writer_put.Fn), (16, image_writer_account.Fn)], [], eqs, globs, prims⟩
noncomputable def image_Write.c := cxOf image_Write.E image_Write.sg Try.f6
noncomputable def image_Write.b := body Try.f6
noncomputable def image_Write.Fn : Fun := fnOf image_Write.E image_Write.sg Try.f6
noncomputable def image_Write.F (s : t8.den) : Option ((List Int) × Int × Unit) := image_Write.Fn.F (s, ())
noncomputable def image_Write.S1 (b0 : Int) (b02 : (List Int)) (b03 : (List Int)) (b04 : (List t7.den)) : St := ⟨[(1, (.ptr 0 []))], [(0, some (.box (.agg [(.v (.int .u64) b0), (.v (.arr 32 (.int .u8)) b02), (.v (.arr 16 (.int .u32)) b03), (.v (.slice t7) b04)])))], 1, []⟩
noncomputable def image_Write.L1 (b0 : Int) (b02 : (List Int)) (b03 : (List Int)) (b04 : (List t7.den)) : Option ((List Int) × Int × Unit) := res image_Write.c (atJoin image_Write.b [1, 0, 1, 1]) (image_Write.S1 b0 b02 b03 b04)
noncomputable def image_Write.S2 (t32_ : (List Int)) (t33_ : Int) (b0 : Int) (b02 : (List Int)) (l2 : (List t10.den)) (l3 : (List Int)) : St := ⟨[(5, (.ptr 0 [])), (7, (.ptr 1 [])), (32, (.v (.arr 16 (.int .u32)) t32_)), (33, (.v (.int .i64) t33_))], [(0, some (.box (.agg [(.v (.int .u64) b0), (.v (.arr 32 (.int .u8)) b02), (.v (.arr 16 (.int .u32)) t32_), (.sl 2)]))), (1, some (.box (.agg [(.sl 3)]))), (2, some (.row t10 l2 false)), (3, some (.row (.int .u8) l3 false))], 4, []⟩
noncomputable def image_Write.L2 (t32_ : (List Int)) (t33_ : Int) (b0 : Int) (b02 : (List Int)) (l2 : (List t10.den)) (l3 : (List Int)) : Option ((List Int) × Int × Unit) := res image_Write.c (atLoop image_Write.b [1, 1, 1, 1, 1, 1, 0, 1, 0]) (image_Write.S2 t32_ t33_ b0 b02 l2 l3)
noncomputable def image_Write.S3 (t32_ : (List Int)) (t33_ : Int) (b0 : Int) (b02 : (List Int)) (l2 : (List t10.den)) (l3 : (List Int)) : St := ⟨[(5, (.ptr 0 [])), (7, (.ptr 1 [])), (32, (.v (.arr 16 (.int .u32)) t32_)), (33, (.v (.int .i64) t33_))], [(0, some (.box (.agg [(.v (.int .u64) b0), (.v (.arr 32 (.int .u8)) b02), (.v (.arr 16 (.int .u32)) t32_), (.sl 2)]))), (1, some (.box (.agg [(.sl 3)]))), (2, some (.row t10 l2 false)), (3, some (.row (.int .u8) l3 false))], 4, []⟩
noncomputable def image_Write.L3 (t32_ : (List Int)) (t33_ : Int) (b0 : Int) (b02 : (List Int)) (l2 : (List t10.den)) (l3 : (List Int)) : Option ((List Int) × Int × Unit) := res image_Write.c (atJoin image_Write.b [1, 1, 1, 1, 1, 1, 0, 1, 0, 0, 1, 0]) (image_Write.S3 t32_ t33_ b0 b02 l2 l3)
noncomputable def image_Write.S4 (t47_ : Int) (t48_ : Int) (l1 : (List t10.den)) (l2 : (List Int)) : St := ⟨[(7, (.ptr 0 [])), (46, (.sl 1)), (47, (.v (.int .i64) t47_)), (48, (.v (.int .i64) t48_))], [(0, some (.box (.agg [(.sl 2)]))), (1, some (.row t10 l1 false)), (2, some (.row (.int .u8) l2 false))], 3, []⟩
noncomputable def image_Write.L4 (t47_ : Int) (t48_ : Int) (l1 : (List t10.den)) (l2 : (List Int)) : Option ((List Int) × Int × Unit) := res image_Write.c (atLoop image_Write.b [1, 1, 1, 1, 1, 1, 1, 1, 0, 1, 0]) (image_Write.S4 t47_ t48_ l1 l2)
noncomputable def image_Write.S5 (t47_ : Int) (t48_ : Int) (l1 : (List t10.den)) (l2 : (List Int)) : St := ⟨[(7, (.ptr 0 [])), (46, (.sl 1)), (47, (.v (.int .i64) t47_)), (48, (.v (.int .i64) t48_))], [(0, some (.box (.agg [(.sl 2)]))), (1, some (.row t10 l1 false)), (2, some (.row (.int .u8) l2 false))], 3, []⟩
noncomputable def image_Write.L5 (t47_ : Int) (t48_ : Int) (l1 : (List t10.den)) (l2 : (List Int)) : Option ((List Int) × Int × Unit) := res image_Write.c (atJoin image_Write.b [1, 1, 1, 1, 1, 1, 1, 1, 0, 1, 0, 0, 1, 0]) (image_Write.S5 t47_ t48_ l1 l2)
theorem image_Write.spec : FnSpec Try.prog globs 6 image_Write.Fn := spec_of (E := image_Write.E) (envOk_at tabOk eqOk primsOk (.cons server_Check.spec <| .cons refine_Of.spec <| .cons image_writer_put.spec <| .cons image_writer_account.spec <| .nil)) mixOk Try.func6 (by kernel_rfl)
theorem image_Write.L1_eq (b0 : Int) (b02 : (List Int)) (b03 : (List Int)) (b04 : (List t7.den)) : image_Write.L1 b0 b02 b03 b04 =
  (refine_Of.F (b0, b02, b03, b04, ())).bind fun r0 =>
  (image_writer_put.F (([] : List Int), ()) r0.1.1 8).bind fun r1 =>
  bif (decide ((0 : Int) ≤ 0 ∧ (0 : Int) ≤ 32 ∧ (32 : Int) ≤ 32)) then
    bif (lim ((List.length r1.1.1) + (List.length (List.take ((Int.toNat 32) - (Int.toNat 0)) (List.drop (Int.toNat 0) r0.1.2.1)))) (.int .u8)) then
      image_Write.L2 r0.1.2.2.1 0 r0.1.1 r0.1.2.1 r0.1.2.2.2.1 (r1.1.1 ++ (List.take ((Int.toNat 32) - (Int.toNat 0)) (List.drop (Int.toNat 0) r0.1.2.1)))
    else none
  else none := res_eq (by kernel_rfl)
theorem image_Write.L2_eq (t32_ : (List Int)) (t33_ : Int) (b0 : Int) (b02 : (List Int)) (l2 : (List t10.den)) (l3 : (List Int)) : image_Write.L2 t32_ t33_ b0 b02 l2 l3 =
  bif (decide ((t33_ : Int) < 16)) then
    image_Write.L3 t32_ t33_ b0 b02 l2 l3
  else
    (image_writer_put.F (l3, ()) (IntKind.wrap .u64 ((List.length l2 : Int))) 1).bind fun r0 =>
    image_Write.L4 ((List.length l2 : Int)) 0 l2 r0.1.1 := res_eq (by kernel_rfl)
theorem image_Write.L3_eq (t32_ : (List Int)) (t33_ : Int) (b0 : Int) (b02 : (List Int)) (l2 : (List t10.den)) (l3 : (List Int)) : image_Write.L3 t32_ t33_ b0 b02 l2 l3 =
  bif (decide ((0 : Int) ≤ t33_ ∧ (t33_ : Int) < 16)) then
    (image_writer_put.F (l3, ()) (IntKind.wrap .u64 (List.getD t32_ (Int.toNat t33_) 0)) 4).bind fun r0 =>
    image_Write.L2 t32_ (IntKind.wrap .i64 (t33_ + 1)) b0 b02 l2 r0.1.1
  else none := res_eq (by kernel_rfl)
theorem image_Write.L4_eq (t47_ : Int) (t48_ : Int) (l1 : (List t10.den)) (l2 : (List Int)) : image_Write.L4 t47_ t48_ l1 l2 =
  bif (decide ((t48_ : Int) < t47_)) then
    image_Write.L5 t47_ t48_ l1 l2
  else
    some (l2, 0, ()) := res_eq (by kernel_rfl)
theorem image_Write.L5_eq (t47_ : Int) (t48_ : Int) (l1 : (List t10.den)) (l2 : (List Int)) : image_Write.L5 t47_ t48_ l1 l2 =
  bif (decide ((0 : Int) ≤ t48_ ∧ (t48_ : Int) < ((List.length l1 : Int)))) then
    (image_writer_account.F (l2, ()) (List.getD l1 (Int.toNat t48_) (0, (List.replicate 3 (0, 0, 0, ())), (List.replicate 2 (0 : Int)), ((0, 0, 0, ()), 0, 0, 0, ()), ([] : List t9.den), ([] : List t9.den), ([] : List Int), (0, 0, 0, ()), ()))).bind fun r0 =>
    image_Write.L4 t47_ (IntKind.wrap .i64 (t48_ + 1)) l1 r0.1.1
  else none := res_eq (by kernel_rfl)
theorem image_Write.F_eq (s : t8.den) : image_Write.F s =
  (server_Check.F s).bind fun r0 =>
  bif (r0.1 != 0) then
    some (([] : List Int), r0.1, ())
  else
    image_Write.L1 s.1 s.2.1 s.2.2.1 s.2.2.2.1 := by kernel_rfl
/-! ### spigot/spigotref03.CheckLimit (75) -/
noncomputable def spigotref03_CheckLimit.sg : Sig := ⟨[.val t0], [((.int .i64), true)]⟩
noncomputable def spigotref03_CheckLimit.E : Env := ⟨tl, fun i => look i [], [], eqs, globs, prims⟩
noncomputable def spigotref03_CheckLimit.c := cxOf spigotref03_CheckLimit.E spigotref03_CheckLimit.sg Try.f75
noncomputable def spigotref03_CheckLimit.b := body Try.f75
noncomputable def spigotref03_CheckLimit.Fn : Fun := fnOf spigotref03_CheckLimit.E spigotref03_CheckLimit.sg Try.f75
noncomputable def spigotref03_CheckLimit.F (l : t0.den) : Option (Int × Unit) := spigotref03_CheckLimit.Fn.F (l, ())
noncomputable def spigotref03_CheckLimit.S1 : St := ⟨[], [], 0, []⟩
noncomputable def spigotref03_CheckLimit.L1 : Option (Int × Unit) := res spigotref03_CheckLimit.c (atJoin spigotref03_CheckLimit.b [1, 0, 1]) (spigotref03_CheckLimit.S1)
theorem spigotref03_CheckLimit.spec : FnSpec Try.prog globs 75 spigotref03_CheckLimit.Fn := spec_of (E := spigotref03_CheckLimit.E) (envOk_at tabOk eqOk primsOk (.nil)) mixOk Try.func75 (by kernel_rfl)
theorem spigotref03_CheckLimit.L1_eq : spigotref03_CheckLimit.L1 =
  some (0, ()) := res_eq (by kernel_rfl)
theorem spigotref03_CheckLimit.F_eq (l : t0.den) : spigotref03_CheckLimit.F l =
  bif (decide ((l.1 : Int) < 1)) then
    some (8, ())
  else
    bif (decide ((l.1 : Int) > 1000000000)) then
      some (8, ())
    else
      bif (decide ((l.2.1 : Int) < 0)) then
        some (8, ())
      else
        bif (decide ((l.2.1 : Int) > 1000000000)) then
          some (8, ())
        else
          bif (decide ((l.2.2.1 : Int) < 1)) then
            some (8, ())
          else
            bif (decide ((l.2.2.1 : Int) > 1000000000)) then
              some (8, ())
            else
              spigotref03_CheckLimit.L1 := by kernel_rfl
/-! ### spigot/spigotref18.Limited (57) -/
noncomputable def spigotref18_Limited.sg : Sig := ⟨[.val (.arr 3 t0)], [(.bool, true)]⟩
noncomputable def spigotref18_Limited.E : Env := ⟨tl, fun i => look i [(75, spigotref03_CheckLimit.Fn)], [], eqs, globs, prims⟩
noncomputable def spigotref18_Limited.c := cxOf spigotref18_Limited.E spigotref18_Limited.sg Try.f57
noncomputable def spigotref18_Limited.b := body Try.f57
noncomputable def spigotref18_Limited.Fn : Fun := fnOf spigotref18_Limited.E spigotref18_Limited.sg Try.f57
noncomputable def spigotref18_Limited.F (l : (List t0.den)) : Option (Bool × Unit) := spigotref18_Limited.Fn.F (l, ())
noncomputable def spigotref18_Limited.S1 (i : Int) (b0 : (List t0.den)) : St := ⟨[(1, (.ptr 0 [])), (3, (.v (.int .i64) i))], [(0, some (.box (.v (.arr 3 t0) b0)))], 1, []⟩
noncomputable def spigotref18_Limited.L1 (i : Int) (b0 : (List t0.den)) : Option (Bool × Unit) := res spigotref18_Limited.c (atLoop spigotref18_Limited.b [1, 0, 1, 0]) (spigotref18_Limited.S1 i b0)
noncomputable def spigotref18_Limited.S2 (i : Int) (b0 : (List t0.den)) : St := ⟨[(1, (.ptr 0 [])), (3, (.v (.int .i64) i))], [(0, some (.box (.v (.arr 3 t0) b0)))], 1, []⟩
noncomputable def spigotref18_Limited.L2 (i : Int) (b0 : (List t0.den)) : Option (Bool × Unit) := res spigotref18_Limited.c (atJoin spigotref18_Limited.b [1, 0, 1, 0, 0, 0, 1]) (spigotref18_Limited.S2 i b0)
noncomputable def spigotref18_Limited.S3 (i : Int) (b0 : (List t0.den)) : St := ⟨[(1, (.ptr 0 [])), (3, (.v (.int .i64) i))], [(0, some (.box (.v (.arr 3 t0) b0)))], 1, []⟩
noncomputable def spigotref18_Limited.L3 (i : Int) (b0 : (List t0.den)) : Option (Bool × Unit) := res spigotref18_Limited.c (atJoin spigotref18_Limited.b [1, 0, 1, 0, 0, 1, 0, 0, 1]) (spigotref18_Limited.S3 i b0)
theorem spigotref18_Limited.spec : FnSpec Try.prog globs 57 spigotref18_Limited.Fn := spec_of (E := spigotref18_Limited.E) (envOk_at tabOk eqOk primsOk (.cons spigotref03_CheckLimit.spec <| .nil)) mixOk Try.func57 (by kernel_rfl)
theorem spigotref18_Limited.L1_eq (i : Int) (b0 : (List t0.den)) : spigotref18_Limited.L1 i b0 =
  bif (decide ((i : Int) < 3)) then
    spigotref18_Limited.L2 i b0
  else
    some (true, ()) := res_eq (by kernel_rfl)
theorem spigotref18_Limited.L2_eq (i : Int) (b0 : (List t0.den)) : spigotref18_Limited.L2 i b0 =
  bif (decide ((0 : Int) ≤ i ∧ (i : Int) < 3)) then
    (spigotref03_CheckLimit.F (List.getD b0 (Int.toNat i) (0, 0, 0, ()))).bind fun r0 =>
    bif (r0.1 != 0) then
      some (false, ())
    else
      spigotref18_Limited.L3 i b0
  else none := res_eq (by kernel_rfl)
theorem spigotref18_Limited.L3_eq (i : Int) (b0 : (List t0.den)) : spigotref18_Limited.L3 i b0 =
  spigotref18_Limited.L1 (IntKind.wrap .i64 (i + 1)) b0 := res_eq (by kernel_rfl)
theorem spigotref18_Limited.F_eq (l : (List t0.den)) : spigotref18_Limited.F l =
  spigotref18_Limited.L1 0 l := by kernel_rfl
/-! ### spigot/spigotref03.Check (58) -/
noncomputable def spigotref03_Check.sg : Sig := ⟨[.val t1], [((.int .i64), true)]⟩
noncomputable def spigotref03_Check.E : Env := ⟨tl, fun i => look i [(75, spigotref03_CheckLimit.Fn)], [], eqs, globs, prims⟩
noncomputable def spigotref03_Check.c := cxOf spigotref03_Check.E spigotref03_Check.sg Try.f58
noncomputable def spigotref03_Check.b := body Try.f58
noncomputable def spigotref03_Check.Fn : Fun := fnOf spigotref03_Check.E spigotref03_Check.sg Try.f58
noncomputable def spigotref03_Check.F (b : t1.den) : Option (Int × Unit) := spigotref03_Check.Fn.F (b, ())
noncomputable def spigotref03_Check.S1 : St := ⟨[], [], 0, []⟩
noncomputable def spigotref03_Check.L1 : Option (Int × Unit) := res spigotref03_Check.c (atJoin spigotref03_Check.b [1, 0, 1]) (spigotref03_Check.S1)
theorem spigotref03_Check.spec : FnSpec Try.prog globs 58 spigotref03_Check.Fn := spec_of (E := spigotref03_Check.E) (envOk_at tabOk eqOk primsOk (.cons spigotref03_CheckLimit.spec <| .nil)) mixOk Try.func58 (by kernel_rfl)
theorem spigotref03_Check.L1_eq : spigotref03_Check.L1 =
  some (0, ()) := res_eq (by kernel_rfl)
theorem spigotref03_Check.F_eq (b : t1.den) : spigotref03_Check.F b =
  (spigotref03_CheckLimit.F b.1).bind fun r0 =>
  bif (r0.1 != 0) then
    some (8, ())
  else
    bif (decide ((b.2.1 : Int) < 0)) then
      some (8, ())
    else
      bif (decide ((b.2.1 : Int) > b.1.1)) then
        some (8, ())
      else
        bif (decide ((b.2.2.1 : Int) < 0)) then
          some (8, ())
        else
          bif (decide ((b.2.2.1 : Int) ≥ b.1.2.2.1)) then
            some (8, ())
          else
            bif (b.2.1 == b.1.1) then
              bif (b.2.2.1 != 0) then
                some (8, ())
              else
                spigotref03_Check.L1
            else
              spigotref03_Check.L1 := by kernel_rfl
/-! ### spigot/spigotref13.In (82) -/
noncomputable def spigotref13_In.sg : Sig := ⟨[.val (.slice (.int .i64)), .val (.int .i64)], [(.bool, true)]⟩
noncomputable def spigotref13_In.E : Env := ⟨tl, fun i => look i [], [], eqs, globs, prims⟩
noncomputable def spigotref13_In.c := cxOf spigotref13_In.E spigotref13_In.sg Try.f82
noncomputable def spigotref13_In.b := body Try.f82
noncomputable def spigotref13_In.Fn : Fun := fnOf spigotref13_In.E spigotref13_In.sg Try.f82
noncomputable def spigotref13_In.F (l : (List Int)) (n : Int) : Option (Bool × Unit) := spigotref13_In.Fn.F (l, n, ())
noncomputable def spigotref13_In.S1 (l : (List Int)) (n : Int) (i : Int) : St := ⟨[(0, (.v (.slice (.int .i64)) l)), (1, (.v (.int .i64) n)), (5, (.v (.int .i64) i))], [], 0, []⟩
noncomputable def spigotref13_In.L1 (l : (List Int)) (n : Int) (i : Int) : Option (Bool × Unit) := res spigotref13_In.c (atLoop spigotref13_In.b [1, 0, 1, 0]) (spigotref13_In.S1 l n i)
noncomputable def spigotref13_In.S2 (l : (List Int)) (n : Int) (i : Int) : St := ⟨[(0, (.v (.slice (.int .i64)) l)), (1, (.v (.int .i64) n)), (5, (.v (.int .i64) i))], [], 0, []⟩
noncomputable def spigotref13_In.L2 (l : (List Int)) (n : Int) (i : Int) : Option (Bool × Unit) := res spigotref13_In.c (atJoin spigotref13_In.b [1, 0, 1, 0, 0, 0, 1]) (spigotref13_In.S2 l n i)
noncomputable def spigotref13_In.S3 (l : (List Int)) (n : Int) (i : Int) : St := ⟨[(0, (.v (.slice (.int .i64)) l)), (1, (.v (.int .i64) n)), (5, (.v (.int .i64) i))], [], 0, []⟩
noncomputable def spigotref13_In.L3 (l : (List Int)) (n : Int) (i : Int) : Option (Bool × Unit) := res spigotref13_In.c (atJoin spigotref13_In.b [1, 0, 1, 0, 0, 1, 0, 0, 1]) (spigotref13_In.S3 l n i)
theorem spigotref13_In.spec : FnSpec Try.prog globs 82 spigotref13_In.Fn := spec_of (E := spigotref13_In.E) (envOk_at tabOk eqOk primsOk (.nil)) mixOk Try.func82 (by kernel_rfl)
theorem spigotref13_In.L1_eq (l : (List Int)) (n : Int) (i : Int) : spigotref13_In.L1 l n i =
  bif (decide ((i : Int) < ((List.length l : Int)))) then
    spigotref13_In.L2 l n i
  else
    some (false, ()) := res_eq (by kernel_rfl)
theorem spigotref13_In.L2_eq (l : (List Int)) (n : Int) (i : Int) : spigotref13_In.L2 l n i =
  bif (decide ((0 : Int) ≤ i ∧ (i : Int) < ((List.length l : Int)))) then
    bif ((List.getD l (Int.toNat i) 0) == n) then
      some (true, ())
    else
      spigotref13_In.L3 l n i
  else none := res_eq (by kernel_rfl)
theorem spigotref13_In.L3_eq (l : (List Int)) (n : Int) (i : Int) : spigotref13_In.L3 l n i =
  spigotref13_In.L1 l n (IntKind.wrap .i64 (i + 1)) := res_eq (by kernel_rfl)
theorem spigotref13_In.F_eq (l : (List Int)) (n : Int) : spigotref13_In.F l n =
  spigotref13_In.L1 l n 0 := by kernel_rfl
/-! ### spigot/spigotref13.Free (91) -/
noncomputable def spigotref13_Free.sg : Sig := ⟨[.val t2], [((.slice (.int .i64)), true), (.bool, true)]⟩
noncomputable def spigotref13_Free.E : Env := ⟨tl, fun i => look i [(82, spigotref13_In.Fn)], [], eqs, globs, prims⟩
noncomputable def spigotref13_Free.c := cxOf spigotref13_Free.E spigotref13_Free.sg Try.f91
noncomputable def spigotref13_Free.b := body Try.f91
noncomputable def spigotref13_Free.Fn : Fun := fnOf spigotref13_Free.E spigotref13_Free.sg Try.f91
noncomputable def spigotref13_Free.F (a : t2.den) : Option ((List Int) × Bool × Unit) := spigotref13_Free.Fn.F (a, ())
noncomputable def spigotref13_Free.S1 (i : Int) (b0 : (List Int)) (b02 : (List Bool)) (b03 : Int) (l1 : (List Int)) : St := ⟨[(1, (.ptr 0 [])), (4, (.sl 1)), (5, (.v (.int .i64) i))], [(0, some (.box (.agg [(.v (.slice (.int .i64)) b0), (.v (.slice .bool) b02), (.v (.int .i64) b03)]))), (1, some (.row (.int .i64) l1 false))], 2, []⟩
noncomputable def spigotref13_Free.L1 (i : Int) (b0 : (List Int)) (b02 : (List Bool)) (b03 : Int) (l1 : (List Int)) : Option ((List Int) × Bool × Unit) := res spigotref13_Free.c (atLoop spigotref13_Free.b [1, 1, 0, 1, 0]) (spigotref13_Free.S1 i b0 b02 b03 l1)
noncomputable def spigotref13_Free.S2 (i : Int) (b0 : (List Int)) (b02 : (List Bool)) (b03 : Int) (l1 : (List Int)) : St := ⟨[(1, (.ptr 0 [])), (4, (.sl 1)), (5, (.v (.int .i64) i))], [(0, some (.box (.agg [(.v (.slice (.int .i64)) b0), (.v (.slice .bool) b02), (.v (.int .i64) b03)]))), (1, some (.row (.int .i64) l1 false))], 2, []⟩
noncomputable def spigotref13_Free.L2 (i : Int) (b0 : (List Int)) (b02 : (List Bool)) (b03 : Int) (l1 : (List Int)) : Option ((List Int) × Bool × Unit) := res spigotref13_Free.c (atJoin spigotref13_Free.b [1, 1, 0, 1, 0, 0, 0, 1]) (spigotref13_Free.S2 i b0 b02 b03 l1)
noncomputable def spigotref13_Free.S3 (i : Int) (b0 : (List Int)) (b02 : (List Bool)) (b03 : Int) (l1 : (List Int)) : St := ⟨[(1, (.ptr 0 [])), (4, (.sl 1)), (5, (.v (.int .i64) i))], [(0, some (.box (.agg [(.v (.slice (.int .i64)) b0), (.v (.slice .bool) b02), (.v (.int .i64) b03)]))), (1, some (.row (.int .i64) l1 false))], 2, []⟩
noncomputable def spigotref13_Free.L3 (i : Int) (b0 : (List Int)) (b02 : (List Bool)) (b03 : Int) (l1 : (List Int)) : Option ((List Int) × Bool × Unit) := res spigotref13_Free.c (atJoin spigotref13_Free.b [1, 1, 0, 1, 0, 0, 1, 0, 0, 0, 1]) (spigotref13_Free.S3 i b0 b02 b03 l1)
theorem spigotref13_Free.spec : FnSpec Try.prog globs 91 spigotref13_Free.Fn := spec_of (E := spigotref13_Free.E) (envOk_at tabOk eqOk primsOk (.cons spigotref13_In.spec <| .nil)) mixOk Try.func91 (by kernel_rfl)
theorem spigotref13_Free.L1_eq (i : Int) (b0 : (List Int)) (b02 : (List Bool)) (b03 : Int) (l1 : (List Int)) : spigotref13_Free.L1 i b0 b02 b03 l1 =
  bif (i != (-1)) then
    spigotref13_Free.L2 i b0 b02 b03 l1
  else
    some (l1, true, ()) := res_eq (by kernel_rfl)
theorem spigotref13_Free.L2_eq (i : Int) (b0 : (List Int)) (b02 : (List Bool)) (b03 : Int) (l1 : (List Int)) : spigotref13_Free.L2 i b0 b02 b03 l1 =
  bif (decide ((i : Int) < 0)) then
    some (([] : List Int), false, ())
  else
    bif (decide ((i : Int) ≥ ((List.length b0 : Int)))) then
      some (([] : List Int), false, ())
    else
      (spigotref13_In.F l1 i).bind fun r0 =>
      bif r0.1 then
        some (([] : List Int), false, ())
      else
        spigotref13_Free.L3 i b0 b02 b03 l1 := res_eq (by kernel_rfl)
theorem spigotref13_Free.L3_eq (i : Int) (b0 : (List Int)) (b02 : (List Bool)) (b03 : Int) (l1 : (List Int)) : spigotref13_Free.L3 i b0 b02 b03 l1 =
  bif (lim ((List.length l1) + (List.length ([i] : List Int))) (.int .i64)) then
    bif (decide ((0 : Int) ≤ i ∧ (i : Int) < ((List.length b0 : Int)))) then
      spigotref13_Free.L1 (List.getD b0 (Int.toNat i) 0) b0 b02 b03 (l1 ++ ([i] : List Int))
    else none
  else none := res_eq (by kernel_rfl)
theorem spigotref13_Free.F_eq (a : t2.den) : spigotref13_Free.F a =
  spigotref13_Free.L1 a.2.2.1 a.1 a.2.1 a.2.2.1 ([] : List Int) := by kernel_rfl
/-! ### spigot/spigotref13.Check (76) -/
noncomputable def spigotref13_Check.sg : Sig := ⟨[.val t2], [((.int .i64), true)]⟩
noncomputable def spigotref13_Check.E : Env := ⟨tl, fun i => look i [(82, spigotref13_In.Fn), (91, spigotref13_Free.Fn)], [], eqs, globs, prims⟩
noncomputable def spigotref13_Check.c := cxOf spigotref13_Check.E spigotref13_Check.sg Try.f76
noncomputable def spigotref13_Check.b := body Try.f76
noncomputable def spigotref13_Check.Fn : Fun := fnOf spigotref13_Check.E spigotref13_Check.sg Try.f76
noncomputable def spigotref13_Check.F (a : t2.den) : Option (Int × Unit) := spigotref13_Check.Fn.F (a, ())
noncomputable def spigotref13_Check.S1 (b0 : (List Int)) (b02 : (List Bool)) (b03 : Int) : St := ⟨[(1, (.ptr 0 []))], [(0, some (.box (.agg [(.v (.slice (.int .i64)) b0), (.v (.slice .bool) b02), (.v (.int .i64) b03)])))], 1, []⟩
noncomputable def spigotref13_Check.L1 (b0 : (List Int)) (b02 : (List Bool)) (b03 : Int) : Option (Int × Unit) := res spigotref13_Check.c (atJoin spigotref13_Check.b [1, 0, 1]) (spigotref13_Check.S1 b0 b02 b03)
noncomputable def spigotref13_Check.S2 (b0 : (List Int)) (b02 : (List Bool)) (b03 : Int) (l1 : (List Int)) : St := ⟨[(1, (.ptr 0 [])), (3, (.sl 1))], [(0, some (.box (.agg [(.v (.slice (.int .i64)) b0), (.v (.slice .bool) b02), (.v (.int .i64) b03)]))), (1, some (.row (.int .i64) l1 false))], 2, []⟩
noncomputable def spigotref13_Check.L2 (b0 : (List Int)) (b02 : (List Bool)) (b03 : Int) (l1 : (List Int)) : Option (Int × Unit) := res spigotref13_Check.c (atJoin spigotref13_Check.b [1, 1, 1, 0, 1]) (spigotref13_Check.S2 b0 b02 b03 l1)
noncomputable def spigotref13_Check.S3 (i : Int) (b0 : (List Int)) (b02 : (List Bool)) (b03 : Int) (l1 : (List Int)) : St := ⟨[(1, (.ptr 0 [])), (3, (.sl 1)), (5, (.v (.int .i64) i))], [(0, some (.box (.agg [(.v (.slice (.int .i64)) b0), (.v (.slice .bool) b02), (.v (.int .i64) b03)]))), (1, some (.row (.int .i64) l1 false))], 2, []⟩
noncomputable def spigotref13_Check.L3 (i : Int) (b0 : (List Int)) (b02 : (List Bool)) (b03 : Int) (l1 : (List Int)) : Option (Int × Unit) := res spigotref13_Check.c (atLoop spigotref13_Check.b [1, 1, 1, 1, 0, 1, 0]) (spigotref13_Check.S3 i b0 b02 b03 l1)
noncomputable def spigotref13_Check.S4 (i : Int) (b0 : (List Int)) (b02 : (List Bool)) (b03 : Int) (l1 : (List Int)) : St := ⟨[(1, (.ptr 0 [])), (3, (.sl 1)), (5, (.v (.int .i64) i))], [(0, some (.box (.agg [(.v (.slice (.int .i64)) b0), (.v (.slice .bool) b02), (.v (.int .i64) b03)]))), (1, some (.row (.int .i64) l1 false))], 2, []⟩
noncomputable def spigotref13_Check.L4 (i : Int) (b0 : (List Int)) (b02 : (List Bool)) (b03 : Int) (l1 : (List Int)) : Option (Int × Unit) := res spigotref13_Check.c (atJoin spigotref13_Check.b [1, 1, 1, 1, 0, 1, 0, 0, 0, 1]) (spigotref13_Check.S4 i b0 b02 b03 l1)
noncomputable def spigotref13_Check.S5 (i : Int) (b0 : (List Int)) (b02 : (List Bool)) (b03 : Int) (l1 : (List Int)) : St := ⟨[(1, (.ptr 0 [])), (3, (.sl 1)), (5, (.v (.int .i64) i))], [(0, some (.box (.agg [(.v (.slice (.int .i64)) b0), (.v (.slice .bool) b02), (.v (.int .i64) b03)]))), (1, some (.row (.int .i64) l1 false))], 2, []⟩
noncomputable def spigotref13_Check.L5 (i : Int) (b0 : (List Int)) (b02 : (List Bool)) (b03 : Int) (l1 : (List Int)) : Option (Int × Unit) := res spigotref13_Check.c (atJoin spigotref13_Check.b [1, 1, 1, 1, 0, 1, 0, 0, 1, 0, 0, 1]) (spigotref13_Check.S5 i b0 b02 b03 l1)
theorem spigotref13_Check.spec : FnSpec Try.prog globs 76 spigotref13_Check.Fn := spec_of (E := spigotref13_Check.E) (envOk_at tabOk eqOk primsOk (.cons spigotref13_In.spec <| .cons spigotref13_Free.spec <| .nil)) mixOk Try.func76 (by kernel_rfl)
theorem spigotref13_Check.L1_eq (b0 : (List Int)) (b02 : (List Bool)) (b03 : Int) : spigotref13_Check.L1 b0 b02 b03 =
  (spigotref13_Free.F (b0, b02, b03, ())).bind fun r0 =>
  bif (!r0.2.1) then
    some (8, ())
  else
    spigotref13_Check.L2 b0 b02 b03 r0.1 := res_eq (by kernel_rfl)
theorem spigotref13_Check.L2_eq (b0 : (List Int)) (b02 : (List Bool)) (b03 : Int) (l1 : (List Int)) : spigotref13_Check.L2 b0 b02 b03 l1 =
  spigotref13_Check.L3 0 b0 b02 b03 l1 := res_eq (by kernel_rfl)
theorem spigotref13_Check.L3_eq (i : Int) (b0 : (List Int)) (b02 : (List Bool)) (b03 : Int) (l1 : (List Int)) : spigotref13_Check.L3 i b0 b02 b03 l1 =
  bif (decide ((i : Int) < ((List.length b02 : Int)))) then
    spigotref13_Check.L4 i b0 b02 b03 l1
  else
    some (0, ()) := res_eq (by kernel_rfl)
theorem spigotref13_Check.L4_eq (i : Int) (b0 : (List Int)) (b02 : (List Bool)) (b03 : Int) (l1 : (List Int)) : spigotref13_Check.L4 i b0 b02 b03 l1 =
  bif (decide ((0 : Int) ≤ i ∧ (i : Int) < ((List.length b02 : Int)))) then
    (spigotref13_In.F l1 i).bind fun r0 =>
    bif ((List.getD b02 (Int.toNat i) false) == r0.1) then
      some (8, ())
    else
      bif (decide ((0 : Int) ≤ i ∧ (i : Int) < ((List.length b02 : Int)))) then
        bif (List.getD b02 (Int.toNat i) false) then
          bif (decide ((0 : Int) ≤ i ∧ (i : Int) < ((List.length b0 : Int)))) then
            bif ((List.getD b0 (Int.toNat i) 0) != (-1)) then
              some (8, ())
            else
              spigotref13_Check.L5 i b0 b02 b03 l1
          else none
        else
          spigotref13_Check.L5 i b0 b02 b03 l1
      else none
  else none := res_eq (by kernel_rfl)
theorem spigotref13_Check.L5_eq (i : Int) (b0 : (List Int)) (b02 : (List Bool)) (b03 : Int) (l1 : (List Int)) : spigotref13_Check.L5 i b0 b02 b03 l1 =
  spigotref13_Check.L3 (IntKind.wrap .i64 (i + 1)) b0 b02 b03 l1 := res_eq (by kernel_rfl)
theorem spigotref13_Check.F_eq (a : t2.den) : spigotref13_Check.F a =
  bif (decide ((((List.length a.1 : Int)) : Int) < 1)) then
    some (8, ())
  else
    bif (decide ((((List.length a.1 : Int)) : Int) > 16)) then
      some (8, ())
    else
      bif (((List.length a.2.1 : Int)) != ((List.length a.1 : Int))) then
        some (8, ())
      else
        spigotref13_Check.L1 a.1 a.2.1 a.2.2.1 := by kernel_rfl
/-! ### spigot/spigotref14.Count (80) -/
noncomputable def spigotref14_Count.sg : Sig := ⟨[.val (.slice t3)], [((.int .i64), true)]⟩
noncomputable def spigotref14_Count.E : Env := ⟨tl, fun i => look i [], [], eqs, globs, prims⟩
noncomputable def spigotref14_Count.c := cxOf spigotref14_Count.E spigotref14_Count.sg Try.f80
noncomputable def spigotref14_Count.b := body Try.f80
noncomputable def spigotref14_Count.Fn : Fun := fnOf spigotref14_Count.E spigotref14_Count.sg Try.f80
noncomputable def spigotref14_Count.F (x : (List t3.den)) : Option (Int × Unit) := spigotref14_Count.Fn.F (x, ())
noncomputable def spigotref14_Count.S1 (x : (List t3.den)) (n : Int) (i : Int) : St := ⟨[(0, (.v (.slice t3) x)), (3, (.v (.int .i64) n)), (4, (.v (.int .i64) i))], [], 0, []⟩
noncomputable def spigotref14_Count.L1 (x : (List t3.den)) (n : Int) (i : Int) : Option (Int × Unit) := res spigotref14_Count.c (atLoop spigotref14_Count.b [1, 1, 0, 1, 0]) (spigotref14_Count.S1 x n i)
noncomputable def spigotref14_Count.S2 (x : (List t3.den)) (n : Int) (i : Int) : St := ⟨[(0, (.v (.slice t3) x)), (3, (.v (.int .i64) n)), (4, (.v (.int .i64) i))], [], 0, []⟩
noncomputable def spigotref14_Count.L2 (x : (List t3.den)) (n : Int) (i : Int) : Option (Int × Unit) := res spigotref14_Count.c (atJoin spigotref14_Count.b [1, 1, 0, 1, 0, 0, 0, 1]) (spigotref14_Count.S2 x n i)
noncomputable def spigotref14_Count.S3 (x : (List t3.den)) (n : Int) (i : Int) : St := ⟨[(0, (.v (.slice t3) x)), (3, (.v (.int .i64) n)), (4, (.v (.int .i64) i))], [], 0, []⟩
noncomputable def spigotref14_Count.L3 (x : (List t3.den)) (n : Int) (i : Int) : Option (Int × Unit) := res spigotref14_Count.c (atJoin spigotref14_Count.b [1, 1, 0, 1, 0, 0, 1, 0, 0, 1]) (spigotref14_Count.S3 x n i)
theorem spigotref14_Count.spec : FnSpec Try.prog globs 80 spigotref14_Count.Fn := spec_of (E := spigotref14_Count.E) (envOk_at tabOk eqOk primsOk (.nil)) mixOk Try.func80 (by kernel_rfl)
theorem spigotref14_Count.L1_eq (x : (List t3.den)) (n : Int) (i : Int) : spigotref14_Count.L1 x n i =
  bif (decide ((i : Int) < ((List.length x : Int)))) then
    spigotref14_Count.L2 x n i
  else
    some (n, ()) := res_eq (by kernel_rfl)
theorem spigotref14_Count.L2_eq (x : (List t3.den)) (n : Int) (i : Int) : spigotref14_Count.L2 x n i =
  bif (decide ((0 : Int) ≤ i ∧ (i : Int) < ((List.length x : Int)))) then
    bif (((List.getD x (Int.toNat i) (0, 0, false, ())).2).2).1 then
      spigotref14_Count.L3 x (IntKind.wrap .i64 (n + 1)) i
    else
      spigotref14_Count.L3 x n i
  else none := res_eq (by kernel_rfl)
theorem spigotref14_Count.L3_eq (x : (List t3.den)) (n : Int) (i : Int) : spigotref14_Count.L3 x n i =
  spigotref14_Count.L1 x n (IntKind.wrap .i64 (i + 1)) := res_eq (by kernel_rfl)
theorem spigotref14_Count.F_eq (x : (List t3.den)) : spigotref14_Count.F x =
  spigotref14_Count.L1 x 0 0 := by kernel_rfl
/-! ### spigot/spigotref14.At (92) -/
noncomputable def spigotref14_At.sg : Sig := ⟨[.val (.slice t3), .val (.int .u32)], [((.int .i64), true)]⟩
noncomputable def spigotref14_At.E : Env := ⟨tl, fun i => look i [], [], eqs, globs, prims⟩
noncomputable def spigotref14_At.c := cxOf spigotref14_At.E spigotref14_At.sg Try.f92
noncomputable def spigotref14_At.b := body Try.f92
noncomputable def spigotref14_At.Fn : Fun := fnOf spigotref14_At.E spigotref14_At.sg Try.f92
noncomputable def spigotref14_At.F (x : (List t3.den)) (key : Int) : Option (Int × Unit) := spigotref14_At.Fn.F (x, key, ())
noncomputable def spigotref14_At.S1 (x : (List t3.den)) (key : Int) (i : Int) : St := ⟨[(0, (.v (.slice t3) x)), (1, (.v (.int .u32) key)), (5, (.v (.int .i64) i))], [], 0, []⟩
noncomputable def spigotref14_At.L1 (x : (List t3.den)) (key : Int) (i : Int) : Option (Int × Unit) := res spigotref14_At.c (atLoop spigotref14_At.b [1, 0, 1, 0]) (spigotref14_At.S1 x key i)
noncomputable def spigotref14_At.S2 (x : (List t3.den)) (key : Int) (i : Int) : St := ⟨[(0, (.v (.slice t3) x)), (1, (.v (.int .u32) key)), (5, (.v (.int .i64) i))], [], 0, []⟩
noncomputable def spigotref14_At.L2 (x : (List t3.den)) (key : Int) (i : Int) : Option (Int × Unit) := res spigotref14_At.c (atJoin spigotref14_At.b [1, 0, 1, 0, 0, 0, 1]) (spigotref14_At.S2 x key i)
noncomputable def spigotref14_At.S3 (x : (List t3.den)) (key : Int) (i : Int) : St := ⟨[(0, (.v (.slice t3) x)), (1, (.v (.int .u32) key)), (5, (.v (.int .i64) i))], [], 0, []⟩
noncomputable def spigotref14_At.L3 (x : (List t3.den)) (key : Int) (i : Int) : Option (Int × Unit) := res spigotref14_At.c (atJoin spigotref14_At.b [1, 0, 1, 0, 0, 1, 0, 0, 1]) (spigotref14_At.S3 x key i)
theorem spigotref14_At.spec : FnSpec Try.prog globs 92 spigotref14_At.Fn := spec_of (E := spigotref14_At.E) (envOk_at tabOk eqOk primsOk (.nil)) mixOk Try.func92 (by kernel_rfl)
theorem spigotref14_At.L1_eq (x : (List t3.den)) (key : Int) (i : Int) : spigotref14_At.L1 x key i =
  bif (decide ((i : Int) < ((List.length x : Int)))) then
    spigotref14_At.L2 x key i
  else
    some ((-1), ()) := res_eq (by kernel_rfl)
theorem spigotref14_At.L2_eq (x : (List t3.den)) (key : Int) (i : Int) : spigotref14_At.L2 x key i =
  bif (decide ((0 : Int) ≤ i ∧ (i : Int) < ((List.length x : Int)))) then
    bif (((List.getD x (Int.toNat i) (0, 0, false, ())).2).2).1 then
      bif (decide ((0 : Int) ≤ i ∧ (i : Int) < ((List.length x : Int)))) then
        bif ((List.getD x (Int.toNat i) (0, 0, false, ())).1 == key) then
          some (i, ())
        else
          spigotref14_At.L3 x key i
      else none
    else
      spigotref14_At.L3 x key i
  else none := res_eq (by kernel_rfl)
theorem spigotref14_At.L3_eq (x : (List t3.den)) (key : Int) (i : Int) : spigotref14_At.L3 x key i =
  spigotref14_At.L1 x key (IntKind.wrap .i64 (i + 1)) := res_eq (by kernel_rfl)
theorem spigotref14_At.F_eq (x : (List t3.den)) (key : Int) : spigotref14_At.F x key =
  spigotref14_At.L1 x key 0 := by kernel_rfl
/-! ### spigot/spigotref14.Home (93) -/
noncomputable def spigotref14_Home.sg : Sig := ⟨[.val (.int .u32)], [((.int .i64), true)]⟩
noncomputable def spigotref14_Home.E : Env := ⟨tl, fun i => look i [], [], eqs, globs, prims⟩
noncomputable def spigotref14_Home.c := cxOf spigotref14_Home.E spigotref14_Home.sg Try.f93
noncomputable def spigotref14_Home.b := body Try.f93
noncomputable def spigotref14_Home.Fn : Fun := fnOf spigotref14_Home.E spigotref14_Home.sg Try.f93
noncomputable def spigotref14_Home.F (key : Int) : Option (Int × Unit) := spigotref14_Home.Fn.F (key, ())
theorem spigotref14_Home.spec : FnSpec Try.prog globs 93 spigotref14_Home.Fn := spec_of (E := spigotref14_Home.E) (envOk_at tabOk eqOk primsOk (.nil)) mixOk Try.func93 (by kernel_rfl)
theorem spigotref14_Home.F_eq (key : Int) : spigotref14_Home.F key =
  bif (decide ((4294967296 : Int) ≠ 0)) then
    bif (decide ((268435456 : Int) ≠ 0)) then
      some ((IntKind.wrap .i64 (IntKind.wrap .u64 (Int.tdiv (Int.tmod (IntKind.wrap .u64 ((IntKind.wrap .u64 key) * 2654435769)) 4294967296) 268435456))), ())
    else none
  else none := by kernel_rfl
/-! ### spigot/spigotref14.Check (77) -/
noncomputable def spigotref14_Check.sg : Sig := ⟨[.val (.slice t3)], [((.int .i64), true)]⟩
noncomputable def spigotref14_Check.E : Env := ⟨tl, fun i => look i [(80, spigotref14_Count.Fn), (92, spigotref14_At.Fn), (93, spigotref14_Home.Fn)], [], eqs, globs, prims⟩
noncomputable def spigotref14_Check.c := cxOf spigotref14_Check.E spigotref14_Check.sg Try.f77
noncomputable def spigotref14_Check.b := body Try.f77
noncomputable def spigotref14_Check.Fn : Fun := fnOf spigotref14_Check.E spigotref14_Check.sg Try.f77
noncomputable def spigotref14_Check.F (x : (List t3.den)) : Option (Int × Unit) := spigotref14_Check.Fn.F (x, ())
noncomputable def spigotref14_Check.S1 (x : (List t3.den)) : St := ⟨[(0, (.v (.slice t3) x))], [], 0, []⟩
noncomputable def spigotref14_Check.L1 (x : (List t3.den)) : Option (Int × Unit) := res spigotref14_Check.c (atJoin spigotref14_Check.b [1, 0, 1]) (spigotref14_Check.S1 x)
noncomputable def spigotref14_Check.S2 (x : (List t3.den)) (i : Int) : St := ⟨[(0, (.v (.slice t3) x)), (3, (.v (.int .i64) i))], [], 0, []⟩
noncomputable def spigotref14_Check.L2 (x : (List t3.den)) (i : Int) : Option (Int × Unit) := res spigotref14_Check.c (atLoop spigotref14_Check.b [1, 1, 0, 1, 0]) (spigotref14_Check.S2 x i)
noncomputable def spigotref14_Check.S3 (x : (List t3.den)) (i : Int) : St := ⟨[(0, (.v (.slice t3) x)), (3, (.v (.int .i64) i))], [], 0, []⟩
noncomputable def spigotref14_Check.L3 (x : (List t3.den)) (i : Int) : Option (Int × Unit) := res spigotref14_Check.c (atJoin spigotref14_Check.b [1, 1, 0, 1, 0, 0, 0, 1]) (spigotref14_Check.S3 x i)
noncomputable def spigotref14_Check.S4 (x : (List t3.den)) (i : Int) : St := ⟨[(0, (.v (.slice t3) x)), (3, (.v (.int .i64) i))], [], 0, []⟩
noncomputable def spigotref14_Check.L4 (x : (List t3.den)) (i : Int) : Option (Int × Unit) := res spigotref14_Check.c (atJoin spigotref14_Check.b [1, 1, 0, 1, 0, 0, 1, 0, 0, 0, 1, 0, 0, 1]) (spigotref14_Check.S4 x i)
noncomputable def spigotref14_Check.S5 (x : (List t3.den)) (i : Int) : St := ⟨[(0, (.v (.slice t3) x)), (3, (.v (.int .i64) i))], [], 0, []⟩
noncomputable def spigotref14_Check.L5 (x : (List t3.den)) (i : Int) : Option (Int × Unit) := res spigotref14_Check.c (atJoin spigotref14_Check.b [1, 1, 0, 1, 0, 0, 1, 0, 0, 0, 1]) (spigotref14_Check.S5 x i)
noncomputable def spigotref14_Check.S6 (x : (List t3.den)) (i : Int) : St := ⟨[(0, (.v (.slice t3) x)), (3, (.v (.int .i64) i))], [], 0, []⟩
noncomputable def spigotref14_Check.L6 (x : (List t3.den)) (i : Int) : Option (Int × Unit) := res spigotref14_Check.c (atJoin spigotref14_Check.b [1, 1, 0, 1, 0, 0, 1, 0, 0, 1, 0, 1]) (spigotref14_Check.S6 x i)
noncomputable def spigotref14_Check.S7 (x : (List t3.den)) (i : Int) (k : Int) : St := ⟨[(0, (.v (.slice t3) x)), (3, (.v (.int .i64) i)), (4, (.v (.int .i64) k))], [], 0, []⟩
noncomputable def spigotref14_Check.L7 (x : (List t3.den)) (i : Int) (k : Int) : Option (Int × Unit) := res spigotref14_Check.c (atLoop spigotref14_Check.b [1, 1, 0, 1, 0, 0, 1, 0, 0, 1, 1, 1, 0]) (spigotref14_Check.S7 x i k)
noncomputable def spigotref14_Check.S8 (x : (List t3.den)) (i : Int) (k : Int) : St := ⟨[(0, (.v (.slice t3) x)), (3, (.v (.int .i64) i)), (4, (.v (.int .i64) k))], [], 0, []⟩
noncomputable def spigotref14_Check.L8 (x : (List t3.den)) (i : Int) (k : Int) : Option (Int × Unit) := res spigotref14_Check.c (atJoin spigotref14_Check.b [1, 1, 0, 1, 0, 0, 1, 0, 0, 1, 1, 1, 0, 0, 0, 1]) (spigotref14_Check.S8 x i k)
noncomputable def spigotref14_Check.S9 (x : (List t3.den)) (i : Int) (k : Int) : St := ⟨[(0, (.v (.slice t3) x)), (3, (.v (.int .i64) i)), (4, (.v (.int .i64) k))], [], 0, []⟩
noncomputable def spigotref14_Check.L9 (x : (List t3.den)) (i : Int) (k : Int) : Option (Int × Unit) := res spigotref14_Check.c (atJoin spigotref14_Check.b [1, 1, 0, 1, 0, 0, 1, 0, 0, 1, 1, 1, 0, 0, 1, 0, 0, 1]) (spigotref14_Check.S9 x i k)
theorem spigotref14_Check.spec : FnSpec Try.prog globs 77 spigotref14_Check.Fn := spec_of (E := spigotref14_Check.E) (envOk_at tabOk eqOk primsOk (.cons spigotref14_Count.spec <| .cons spigotref14_At.spec <| .cons spigotref14_Home.spec <| .nil)) mixOk Try.func77 (by kernel_rfl)
theorem spigotref14_Check.L1_eq (x : (List t3.den)) : spigotref14_Check.L1 x =
  spigotref14_Check.L2 x 0 := res_eq (by kernel_rfl)
theorem spigotref14_Check.L2_eq (x : (List t3.den)) (i : Int) : spigotref14_Check.L2 x i =
  bif (decide ((i : Int) < 16)) then
    spigotref14_Check.L3 x i
  else
    some (0, ()) := res_eq (by kernel_rfl)
theorem spigotref14_Check.L3_eq (x : (List t3.den)) (i : Int) : spigotref14_Check.L3 x i =
  bif (decide ((0 : Int) ≤ i ∧ (i : Int) < ((List.length x : Int)))) then
    bif (!((((List.getD x (Int.toNat i) (0, 0, false, ())).2).2).1)) then
      bif (decide ((0 : Int) ≤ i ∧ (i : Int) < ((List.length x : Int)))) then
        bif (!(Ty.beq t3 (List.getD x (Int.toNat i) (0, 0, false, ())) (0, 0, false, ()))) then
          some (8, ())
        else
          spigotref14_Check.L4 x i
      else none
    else
      spigotref14_Check.L5 x i
  else none := res_eq (by kernel_rfl)
theorem spigotref14_Check.L4_eq (x : (List t3.den)) (i : Int) : spigotref14_Check.L4 x i =
  spigotref14_Check.L2 x (IntKind.wrap .i64 (i + 1)) := res_eq (by kernel_rfl)
theorem spigotref14_Check.L5_eq (x : (List t3.den)) (i : Int) : spigotref14_Check.L5 x i =
  bif (decide ((0 : Int) ≤ i ∧ (i : Int) < ((List.length x : Int)))) then
    bif (decide (((((List.getD x (Int.toNat i) (0, 0, false, ())).2).1) : Int) < 0)) then
      some (8, ())
    else
      bif (decide ((0 : Int) ≤ i ∧ (i : Int) < ((List.length x : Int)))) then
        bif (decide (((((List.getD x (Int.toNat i) (0, 0, false, ())).2).1) : Int) ≥ 16)) then
          some (8, ())
        else
          bif (decide ((0 : Int) ≤ i ∧ (i : Int) < ((List.length x : Int)))) then
            (spigotref14_At.F x ((List.getD x (Int.toNat i) (0, 0, false, ())).1)).bind fun r0 =>
            bif (r0.1 != i) then
              some (8, ())
            else
              spigotref14_Check.L6 x i
          else none
      else none
  else none := res_eq (by kernel_rfl)
theorem spigotref14_Check.L6_eq (x : (List t3.den)) (i : Int) : spigotref14_Check.L6 x i =
  bif (decide ((0 : Int) ≤ i ∧ (i : Int) < ((List.length x : Int)))) then
    (spigotref14_Home.F ((List.getD x (Int.toNat i) (0, 0, false, ())).1)).bind fun r0 =>
    spigotref14_Check.L7 x i r0.1
  else none := res_eq (by kernel_rfl)
theorem spigotref14_Check.L7_eq (x : (List t3.den)) (i : Int) (k : Int) : spigotref14_Check.L7 x i k =
  bif (k != i) then
    spigotref14_Check.L8 x i k
  else
    spigotref14_Check.L2 x (IntKind.wrap .i64 (i + 1)) := res_eq (by kernel_rfl)
theorem spigotref14_Check.L8_eq (x : (List t3.den)) (i : Int) (k : Int) : spigotref14_Check.L8 x i k =
  bif (decide ((0 : Int) ≤ k ∧ (k : Int) < ((List.length x : Int)))) then
    bif (!((((List.getD x (Int.toNat k) (0, 0, false, ())).2).2).1)) then
      some (8, ())
    else
      spigotref14_Check.L9 x i k
  else none := res_eq (by kernel_rfl)
theorem spigotref14_Check.L9_eq (x : (List t3.den)) (i : Int) (k : Int) : spigotref14_Check.L9 x i k =
  bif (decide ((16 : Int) ≠ 0)) then
    spigotref14_Check.L7 x i (Int.tmod (IntKind.wrap .i64 (k + 1)) 16)
  else none := res_eq (by kernel_rfl)
theorem spigotref14_Check.F_eq (x : (List t3.den)) : spigotref14_Check.F x =
  bif (((List.length x : Int)) != 16) then
    some (8, ())
  else
    (spigotref14_Count.F x).bind fun r0 =>
    bif (decide ((r0.1 : Int) > 12)) then
      some (8, ())
    else
      spigotref14_Check.L1 x := by kernel_rfl
/-! ### spigot/spigotref15.SameInts (83) -/
noncomputable def spigotref15_SameInts.sg : Sig := ⟨[.val (.slice (.int .i64)), .val (.slice (.int .i64))], [(.bool, true)]⟩
noncomputable def spigotref15_SameInts.E : Env := ⟨tl, fun i => look i [], [], eqs, globs, prims⟩
noncomputable def spigotref15_SameInts.c := cxOf spigotref15_SameInts.E spigotref15_SameInts.sg Try.f83
noncomputable def spigotref15_SameInts.b := body Try.f83
noncomputable def spigotref15_SameInts.Fn : Fun := fnOf spigotref15_SameInts.E spigotref15_SameInts.sg Try.f83
noncomputable def spigotref15_SameInts.F (a : (List Int)) (b : (List Int)) : Option (Bool × Unit) := spigotref15_SameInts.Fn.F (a, b, ())
noncomputable def spigotref15_SameInts.S1 (a : (List Int)) (b : (List Int)) : St := ⟨[(0, (.v (.slice (.int .i64)) a)), (1, (.v (.slice (.int .i64)) b))], [], 0, []⟩
noncomputable def spigotref15_SameInts.L1 (a : (List Int)) (b : (List Int)) : Option (Bool × Unit) := res spigotref15_SameInts.c (atJoin spigotref15_SameInts.b [1, 0, 1]) (spigotref15_SameInts.S1 a b)
noncomputable def spigotref15_SameInts.S2 (a : (List Int)) (b : (List Int)) (i : Int) : St := ⟨[(0, (.v (.slice (.int .i64)) a)), (1, (.v (.slice (.int .i64)) b)), (5, (.v (.int .i64) i))], [], 0, []⟩
noncomputable def spigotref15_SameInts.L2 (a : (List Int)) (b : (List Int)) (i : Int) : Option (Bool × Unit) := res spigotref15_SameInts.c (atLoop spigotref15_SameInts.b [1, 1, 0, 1, 0]) (spigotref15_SameInts.S2 a b i)
noncomputable def spigotref15_SameInts.S3 (a : (List Int)) (b : (List Int)) (i : Int) : St := ⟨[(0, (.v (.slice (.int .i64)) a)), (1, (.v (.slice (.int .i64)) b)), (5, (.v (.int .i64) i))], [], 0, []⟩
noncomputable def spigotref15_SameInts.L3 (a : (List Int)) (b : (List Int)) (i : Int) : Option (Bool × Unit) := res spigotref15_SameInts.c (atJoin spigotref15_SameInts.b [1, 1, 0, 1, 0, 0, 0, 1]) (spigotref15_SameInts.S3 a b i)
noncomputable def spigotref15_SameInts.S4 (a : (List Int)) (b : (List Int)) (i : Int) : St := ⟨[(0, (.v (.slice (.int .i64)) a)), (1, (.v (.slice (.int .i64)) b)), (5, (.v (.int .i64) i))], [], 0, []⟩
noncomputable def spigotref15_SameInts.L4 (a : (List Int)) (b : (List Int)) (i : Int) : Option (Bool × Unit) := res spigotref15_SameInts.c (atJoin spigotref15_SameInts.b [1, 1, 0, 1, 0, 0, 1, 0, 0, 1]) (spigotref15_SameInts.S4 a b i)
theorem spigotref15_SameInts.spec : FnSpec Try.prog globs 83 spigotref15_SameInts.Fn := spec_of (E := spigotref15_SameInts.E) (envOk_at tabOk eqOk primsOk (.nil)) mixOk Try.func83 (by kernel_rfl)
theorem spigotref15_SameInts.L1_eq (a : (List Int)) (b : (List Int)) : spigotref15_SameInts.L1 a b =
  spigotref15_SameInts.L2 a b 0 := res_eq (by kernel_rfl)
theorem spigotref15_SameInts.L2_eq (a : (List Int)) (b : (List Int)) (i : Int) : spigotref15_SameInts.L2 a b i =
  bif (decide ((i : Int) < ((List.length a : Int)))) then
    spigotref15_SameInts.L3 a b i
  else
    some (true, ()) := res_eq (by kernel_rfl)
theorem spigotref15_SameInts.L3_eq (a : (List Int)) (b : (List Int)) (i : Int) : spigotref15_SameInts.L3 a b i =
  bif (decide ((0 : Int) ≤ i ∧ (i : Int) < ((List.length a : Int)))) then
    bif (decide ((0 : Int) ≤ i ∧ (i : Int) < ((List.length b : Int)))) then
      bif ((List.getD a (Int.toNat i) 0) != (List.getD b (Int.toNat i) 0)) then
        some (false, ())
      else
        spigotref15_SameInts.L4 a b i
    else none
  else none := res_eq (by kernel_rfl)
theorem spigotref15_SameInts.L4_eq (a : (List Int)) (b : (List Int)) (i : Int) : spigotref15_SameInts.L4 a b i =
  spigotref15_SameInts.L2 a b (IntKind.wrap .i64 (i + 1)) := res_eq (by kernel_rfl)
theorem spigotref15_SameInts.F_eq (a : (List Int)) (b : (List Int)) : spigotref15_SameInts.F a b =
  bif (((List.length a : Int)) != ((List.length b : Int))) then
    some (false, ())
  else
    spigotref15_SameInts.L1 a b := by kernel_rfl
/-! ### spigot/spigotref15.Same (65) -/
noncomputable def spigotref15_Same.sg : Sig := ⟨[.val t4, .val t4], [(.bool, true)]⟩
noncomputable def spigotref15_Same.E : Env := ⟨tl, fun i => look i [(83, spigotref15_SameInts.Fn)], [], eqs, globs, prims⟩
noncomputable def spigotref15_Same.c := cxOf spigotref15_Same.E spigotref15_Same.sg Try.f65
noncomputable def spigotref15_Same.b := body Try.f65
noncomputable def spigotref15_Same.Fn : Fun := fnOf spigotref15_Same.E spigotref15_Same.sg Try.f65
noncomputable def spigotref15_Same.F (a : t4.den) (b : t4.den) : Option (Bool × Unit) := spigotref15_Same.Fn.F (a, b, ())
theorem spigotref15_Same.spec : FnSpec Try.prog globs 65 spigotref15_Same.Fn := spec_of (E := spigotref15_Same.E) (envOk_at tabOk eqOk primsOk (.cons spigotref15_SameInts.spec <| .nil)) mixOk Try.func65 (by kernel_rfl)
theorem spigotref15_Same.F_eq (a : t4.den) (b : t4.den) : spigotref15_Same.F a b =
  (spigotref15_SameInts.F a.1 b.1).bind fun r0 =>
  bif r0.1 then
    (spigotref15_SameInts.F a.2.1 b.2.1).bind fun r1 =>
    bif r1.1 then
      bif (a.2.2.1 == b.2.2.1) then
        some ((a.2.2.2.1 == b.2.2.2.1), ())
      else
        some (false, ())
    else
      some (false, ())
  else
    some (false, ()) := by kernel_rfl
/-! ### spigot/spigotref15.All (79) -/
noncomputable def spigotref15_All.sg : Sig := ⟨[.val t4], [((.slice (.int .i64)), true), (.bool, true)]⟩
noncomputable def spigotref15_All.E : Env := ⟨tl, fun i => look i [(82, spigotref13_In.Fn)], [], eqs, globs, prims⟩
noncomputable def spigotref15_All.c := cxOf spigotref15_All.E spigotref15_All.sg Try.f79
noncomputable def spigotref15_All.b := body Try.f79
noncomputable def spigotref15_All.Fn : Fun := fnOf spigotref15_All.E spigotref15_All.sg Try.f79
noncomputable def spigotref15_All.F (o : t4.den) : Option ((List Int) × Bool × Unit) := spigotref15_All.Fn.F (o, ())
noncomputable def spigotref15_All.S1 (i : Int) (b0 : (List Int)) (b02 : (List Int)) (b03 : Int) (b04 : Int) (l1 : (List Int)) : St := ⟨[(1, (.ptr 0 [])), (4, (.sl 1)), (5, (.v (.int .i64) i))], [(0, some (.box (.agg [(.v (.slice (.int .i64)) b0), (.v (.slice (.int .i64)) b02), (.v (.int .i64) b03), (.v (.int .i64) b04)]))), (1, some (.row (.int .i64) l1 false))], 2, []⟩
noncomputable def spigotref15_All.L1 (i : Int) (b0 : (List Int)) (b02 : (List Int)) (b03 : Int) (b04 : Int) (l1 : (List Int)) : Option ((List Int) × Bool × Unit) := res spigotref15_All.c (atLoop spigotref15_All.b [1, 1, 0, 1, 0]) (spigotref15_All.S1 i b0 b02 b03 b04 l1)
noncomputable def spigotref15_All.S2 (i : Int) (b0 : (List Int)) (b02 : (List Int)) (b03 : Int) (b04 : Int) (l1 : (List Int)) : St := ⟨[(1, (.ptr 0 [])), (4, (.sl 1)), (5, (.v (.int .i64) i))], [(0, some (.box (.agg [(.v (.slice (.int .i64)) b0), (.v (.slice (.int .i64)) b02), (.v (.int .i64) b03), (.v (.int .i64) b04)]))), (1, some (.row (.int .i64) l1 false))], 2, []⟩
noncomputable def spigotref15_All.L2 (i : Int) (b0 : (List Int)) (b02 : (List Int)) (b03 : Int) (b04 : Int) (l1 : (List Int)) : Option ((List Int) × Bool × Unit) := res spigotref15_All.c (atJoin spigotref15_All.b [1, 1, 0, 1, 0, 0, 0, 1]) (spigotref15_All.S2 i b0 b02 b03 b04 l1)
noncomputable def spigotref15_All.S3 (i : Int) (b0 : (List Int)) (b02 : (List Int)) (b03 : Int) (b04 : Int) (l1 : (List Int)) : St := ⟨[(1, (.ptr 0 [])), (4, (.sl 1)), (5, (.v (.int .i64) i))], [(0, some (.box (.agg [(.v (.slice (.int .i64)) b0), (.v (.slice (.int .i64)) b02), (.v (.int .i64) b03), (.v (.int .i64) b04)]))), (1, some (.row (.int .i64) l1 false))], 2, []⟩
noncomputable def spigotref15_All.L3 (i : Int) (b0 : (List Int)) (b02 : (List Int)) (b03 : Int) (b04 : Int) (l1 : (List Int)) : Option ((List Int) × Bool × Unit) := res spigotref15_All.c (atJoin spigotref15_All.b [1, 1, 0, 1, 0, 0, 1, 0, 0, 0, 1]) (spigotref15_All.S3 i b0 b02 b03 b04 l1)
theorem spigotref15_All.spec : FnSpec Try.prog globs 79 spigotref15_All.Fn := spec_of (E := spigotref15_All.E) (envOk_at tabOk eqOk primsOk (.cons spigotref13_In.spec <| .nil)) mixOk Try.func79 (by kernel_rfl)
theorem spigotref15_All.L1_eq (i : Int) (b0 : (List Int)) (b02 : (List Int)) (b03 : Int) (b04 : Int) (l1 : (List Int)) : spigotref15_All.L1 i b0 b02 b03 b04 l1 =
  bif (i != (-1)) then
    spigotref15_All.L2 i b0 b02 b03 b04 l1
  else
    some (l1, true, ()) := res_eq (by kernel_rfl)
theorem spigotref15_All.L2_eq (i : Int) (b0 : (List Int)) (b02 : (List Int)) (b03 : Int) (b04 : Int) (l1 : (List Int)) : spigotref15_All.L2 i b0 b02 b03 b04 l1 =
  bif (decide ((i : Int) < 0)) then
    some (([] : List Int), false, ())
  else
    bif (decide ((i : Int) ≥ ((List.length b02 : Int)))) then
      some (([] : List Int), false, ())
    else
      (spigotref13_In.F l1 i).bind fun r0 =>
      bif r0.1 then
        some (([] : List Int), false, ())
      else
        spigotref15_All.L3 i b0 b02 b03 b04 l1 := res_eq (by kernel_rfl)
theorem spigotref15_All.L3_eq (i : Int) (b0 : (List Int)) (b02 : (List Int)) (b03 : Int) (b04 : Int) (l1 : (List Int)) : spigotref15_All.L3 i b0 b02 b03 b04 l1 =
  bif (lim ((List.length l1) + (List.length ([i] : List Int))) (.int .i64)) then
    bif (decide ((0 : Int) ≤ i ∧ (i : Int) < ((List.length b02 : Int)))) then
      spigotref15_All.L1 (List.getD b02 (Int.toNat i) 0) b0 b02 b03 b04 (l1 ++ ([i] : List Int))
    else none
  else none := res_eq (by kernel_rfl)
theorem spigotref15_All.F_eq (o : t4.den) : spigotref15_All.F o =
  spigotref15_All.L1 o.2.2.1 o.1 o.2.1 o.2.2.1 o.2.2.2.1 ([] : List Int) := by kernel_rfl
/-! ### spigot/spigotref15.Made (94) -/
noncomputable def spigotref15_Made.sg : Sig := ⟨[.val (.int .i64), .val (.slice (.int .i64))], [(t4, true)]⟩
noncomputable def spigotref15_Made.E : Env := ⟨tl, fun i => look i [], [], eqs, globs, prims⟩
noncomputable def spigotref15_Made.c := cxOf spigotref15_Made.E spigotref15_Made.sg Try.f94
noncomputable def spigotref15_Made.b := body Try.f94
noncomputable def spigotref15_Made.Fn : Fun := fnOf spigotref15_Made.E spigotref15_Made.sg Try.f94
noncomputable def spigotref15_Made.F (n : Int) (l : (List Int)) : Option (t4.den × Unit) := spigotref15_Made.Fn.F (n, l, ())
noncomputable def spigotref15_Made.S1 (n : Int) (l : (List Int)) (i : Int) (l2 : (List Int)) (l4 : (List Int)) : St := ⟨[(0, (.v (.int .i64) n)), (1, (.v (.slice (.int .i64)) l)), (4, (.ptr 0 [])), (5, (.ptr 1 [])), (6, (.v (.int .i64) i))], [(0, some (.box (.agg [(.sl 2), (.sl 3), (.v (.int .i64) 0), (.v (.int .i64) 0)]))), (1, some (.box (.agg [(.sl 4), (.sl 5), (.v (.int .i64) (-1)), (.v (.int .i64) (-1))]))), (2, some (.row (.int .i64) l2 false)), (3, some (.row (.int .i64) l2 false)), (4, some (.row (.int .i64) l4 false)), (5, some (.row (.int .i64) l4 false))], 6, []⟩
noncomputable def spigotref15_Made.L1 (n : Int) (l : (List Int)) (i : Int) (l2 : (List Int)) (l4 : (List Int)) : Option (t4.den × Unit) := res spigotref15_Made.c (atLoop spigotref15_Made.b [1, 1, 0, 1, 0]) (spigotref15_Made.S1 n l i l2 l4)
noncomputable def spigotref15_Made.S2 (n : Int) (l : (List Int)) (i : Int) (l2 : (List Int)) (l4 : (List Int)) : St := ⟨[(0, (.v (.int .i64) n)), (1, (.v (.slice (.int .i64)) l)), (4, (.ptr 0 [])), (5, (.ptr 1 [])), (6, (.v (.int .i64) i))], [(0, some (.box (.agg [(.sl 2), (.sl 3), (.v (.int .i64) 0), (.v (.int .i64) 0)]))), (1, some (.box (.agg [(.sl 4), (.sl 5), (.v (.int .i64) (-1)), (.v (.int .i64) (-1))]))), (2, some (.row (.int .i64) l2 false)), (3, some (.row (.int .i64) l2 false)), (4, some (.row (.int .i64) l4 false)), (5, some (.row (.int .i64) l4 false))], 6, []⟩
noncomputable def spigotref15_Made.L2 (n : Int) (l : (List Int)) (i : Int) (l2 : (List Int)) (l4 : (List Int)) : Option (t4.den × Unit) := res spigotref15_Made.c (atJoin spigotref15_Made.b [1, 1, 0, 1, 0, 0, 0, 1]) (spigotref15_Made.S2 n l i l2 l4)
noncomputable def spigotref15_Made.S3 (l : (List Int)) (i : Int) (b1 : Int) (b12 : Int) (l2 : (List Int)) (l4 : (List Int)) (l5 : (List Int)) : St := ⟨[(1, (.v (.slice (.int .i64)) l)), (4, (.ptr 0 [])), (5, (.ptr 1 [])), (7, (.v (.int .i64) i))], [(0, some (.box (.agg [(.sl 2), (.sl 3), (.v (.int .i64) 0), (.v (.int .i64) 0)]))), (1, some (.box (.agg [(.sl 4), (.sl 5), (.v (.int .i64) b1), (.v (.int .i64) b12)]))), (2, some (.row (.int .i64) l2 false)), (3, some (.row (.int .i64) l2 false)), (4, some (.row (.int .i64) l4 false)), (5, some (.row (.int .i64) l5 false))], 6, []⟩
noncomputable def spigotref15_Made.L3 (l : (List Int)) (i : Int) (b1 : Int) (b12 : Int) (l2 : (List Int)) (l4 : (List Int)) (l5 : (List Int)) : Option (t4.den × Unit) := res spigotref15_Made.c (atLoop spigotref15_Made.b [1, 1, 1, 0, 1, 0]) (spigotref15_Made.S3 l i b1 b12 l2 l4 l5)
noncomputable def spigotref15_Made.S4 (l : (List Int)) (i : Int) (b1 : Int) (b12 : Int) (l2 : (List Int)) (l4 : (List Int)) (l5 : (List Int)) : St := ⟨[(1, (.v (.slice (.int .i64)) l)), (4, (.ptr 0 [])), (5, (.ptr 1 [])), (7, (.v (.int .i64) i))], [(0, some (.box (.agg [(.sl 2), (.sl 3), (.v (.int .i64) 0), (.v (.int .i64) 0)]))), (1, some (.box (.agg [(.sl 4), (.sl 5), (.v (.int .i64) b1), (.v (.int .i64) b12)]))), (2, some (.row (.int .i64) l2 false)), (3, some (.row (.int .i64) l2 false)), (4, some (.row (.int .i64) l4 false)), (5, some (.row (.int .i64) l5 false))], 6, []⟩
noncomputable def spigotref15_Made.L4 (l : (List Int)) (i : Int) (b1 : Int) (b12 : Int) (l2 : (List Int)) (l4 : (List Int)) (l5 : (List Int)) : Option (t4.den × Unit) := res spigotref15_Made.c (atJoin spigotref15_Made.b [1, 1, 1, 0, 1, 0, 0, 0, 1]) (spigotref15_Made.S4 l i b1 b12 l2 l4 l5)
noncomputable def spigotref15_Made.S5 (l : (List Int)) (i : Int) (b1 : Int) (b12 : Int) (l2 : (List Int)) (l4 : (List Int)) (l5 : (List Int)) : St := ⟨[(1, (.v (.slice (.int .i64)) l)), (4, (.ptr 0 [])), (5, (.ptr 1 [])), (7, (.v (.int .i64) i))], [(0, some (.box (.agg [(.sl 2), (.sl 3), (.v (.int .i64) 0), (.v (.int .i64) 0)]))), (1, some (.box (.agg [(.sl 4), (.sl 5), (.v (.int .i64) b1), (.v (.int .i64) b12)]))), (2, some (.row (.int .i64) l2 false)), (3, some (.row (.int .i64) l2 false)), (4, some (.row (.int .i64) l4 false)), (5, some (.row (.int .i64) l5 false))], 6, []⟩
noncomputable def spigotref15_Made.L5 (l : (List Int)) (i : Int) (b1 : Int) (b12 : Int) (l2 : (List Int)) (l4 : (List Int)) (l5 : (List Int)) : Option (t4.den × Unit) := res spigotref15_Made.c (atJoin spigotref15_Made.b [1, 1, 1, 0, 1, 0, 0, 1, 0, 0, 0, 1]) (spigotref15_Made.S5 l i b1 b12 l2 l4 l5)
theorem spigotref15_Made.spec : FnSpec Try.prog globs 94 spigotref15_Made.Fn := spec_of (E := spigotref15_Made.E) (envOk_at tabOk eqOk primsOk (.nil)) mixOk Try.func94 (by kernel_rfl)
theorem spigotref15_Made.L1_eq (n : Int) (l : (List Int)) (i : Int) (l2 : (List Int)) (l4 : (List Int)) : spigotref15_Made.L1 n l i l2 l4 =
  bif (decide ((i : Int) < n)) then
    spigotref15_Made.L2 n l i l2 l4
  else
    spigotref15_Made.L3 l 0 (-1) (-1) l2 l4 l4 := res_eq (by kernel_rfl)
theorem spigotref15_Made.L2_eq (n : Int) (l : (List Int)) (i : Int) (l2 : (List Int)) (l4 : (List Int)) : spigotref15_Made.L2 n l i l2 l4 =
  bif (lim ((List.length l4) + (List.length ([(-1)] : List Int))) (.int .i64)) then
    bif (lim ((List.length l4) + (List.length ([(-1)] : List Int))) (.int .i64)) then
      spigotref15_Made.L1 n l (IntKind.wrap .i64 (i + 1)) l2 (l4 ++ ([(-1)] : List Int))
    else none
  else none := res_eq (by kernel_rfl)
theorem spigotref15_Made.L3_eq (l : (List Int)) (i : Int) (b1 : Int) (b12 : Int) (l2 : (List Int)) (l4 : (List Int)) (l5 : (List Int)) : spigotref15_Made.L3 l i b1 b12 l2 l4 l5 =
  bif (decide ((i : Int) < ((List.length l : Int)))) then
    spigotref15_Made.L4 l i b1 b12 l2 l4 l5
  else
    some ((l4, l5, b1, b12, ()), ()) := res_eq (by kernel_rfl)
theorem spigotref15_Made.L4_eq (l : (List Int)) (i : Int) (b1 : Int) (b12 : Int) (l2 : (List Int)) (l4 : (List Int)) (l5 : (List Int)) : spigotref15_Made.L4 l i b1 b12 l2 l4 l5 =
  bif (i == 0) then
    bif (decide ((0 : Int) ≤ i ∧ (i : Int) < ((List.length l : Int)))) then
      spigotref15_Made.L5 l i (List.getD l (Int.toNat i) 0) b12 l2 l4 l5
    else none
  else
    bif (decide ((0 : Int) ≤ i ∧ (i : Int) < ((List.length l : Int)))) then
      bif (decide ((0 : Int) ≤ (IntKind.wrap .i64 (i - 1)) ∧ ((IntKind.wrap .i64 (i - 1)) : Int) < ((List.length l : Int)))) then
        bif (decide ((0 : Int) ≤ (List.getD l (Int.toNat i) 0) ∧ ((List.getD l (Int.toNat i) 0) : Int) < ((List.length l4 : Int)))) then
          bif (decide ((0 : Int) ≤ (IntKind.wrap .i64 (i - 1)) ∧ ((IntKind.wrap .i64 (i - 1)) : Int) < ((List.length l : Int)))) then
            bif (decide ((0 : Int) ≤ i ∧ (i : Int) < ((List.length l : Int)))) then
              bif (decide ((0 : Int) ≤ (List.getD l (Int.toNat (IntKind.wrap .i64 (i - 1))) 0) ∧ ((List.getD l (Int.toNat (IntKind.wrap .i64 (i - 1))) 0) : Int) < ((List.length l5 : Int)))) then
                spigotref15_Made.L5 l i b1 b12 l2 (List.set l4 (Int.toNat (List.getD l (Int.toNat i) 0)) (List.getD l (Int.toNat (IntKind.wrap .i64 (i - 1))) 0)) (List.set l5 (Int.toNat (List.getD l (Int.toNat (IntKind.wrap .i64 (i - 1))) 0)) (List.getD l (Int.toNat i) 0))
              else none
            else none
          else none
        else none
      else none
    else none := res_eq (by kernel_rfl)
theorem spigotref15_Made.L5_eq (l : (List Int)) (i : Int) (b1 : Int) (b12 : Int) (l2 : (List Int)) (l4 : (List Int)) (l5 : (List Int)) : spigotref15_Made.L5 l i b1 b12 l2 l4 l5 =
  bif (decide ((0 : Int) ≤ i ∧ (i : Int) < ((List.length l : Int)))) then
    spigotref15_Made.L3 l (IntKind.wrap .i64 (i + 1)) b1 (List.getD l (Int.toNat i) 0) l2 l4 l5
  else none := res_eq (by kernel_rfl)
theorem spigotref15_Made.F_eq (n : Int) (l : (List Int)) : spigotref15_Made.F n l =
  spigotref15_Made.L1 n l 0 ([] : List Int) ([] : List Int) := by kernel_rfl
/-! ### spigot/spigotref15.Check (78) -/
noncomputable def spigotref15_Check.sg : Sig := ⟨[.val t4], [((.int .i64), true)]⟩
noncomputable def spigotref15_Check.E : Env := ⟨tl, fun i => look i [(65, spigotref15_Same.Fn), (79, spigotref15_All.Fn), (94, spigotref15_Made.Fn)], [], eqs, globs, prims⟩
noncomputable def spigotref15_Check.c := cxOf spigotref15_Check.E spigotref15_Check.sg Try.f78
noncomputable def spigotref15_Check.b := body Try.f78
noncomputable def spigotref15_Check.Fn : Fun := fnOf spigotref15_Check.E spigotref15_Check.sg Try.f78
noncomputable def spigotref15_Check.F (o : t4.den) : Option (Int × Unit) := spigotref15_Check.Fn.F (o, ())
noncomputable def spigotref15_Check.S1 (b0 : (List Int)) (b02 : (List Int)) (b03 : Int) (b04 : Int) : St := ⟨[(1, (.ptr 0 []))], [(0, some (.box (.agg [(.v (.slice (.int .i64)) b0), (.v (.slice (.int .i64)) b02), (.v (.int .i64) b03), (.v (.int .i64) b04)])))], 1, []⟩
noncomputable def spigotref15_Check.L1 (b0 : (List Int)) (b02 : (List Int)) (b03 : Int) (b04 : Int) : Option (Int × Unit) := res spigotref15_Check.c (atJoin spigotref15_Check.b [1, 0, 1]) (spigotref15_Check.S1 b0 b02 b03 b04)
noncomputable def spigotref15_Check.S2 : St := ⟨[], [], 0, []⟩
noncomputable def spigotref15_Check.L2 : Option (Int × Unit) := res spigotref15_Check.c (atJoin spigotref15_Check.b [1, 1, 1, 0, 1]) (spigotref15_Check.S2)
theorem spigotref15_Check.spec : FnSpec Try.prog globs 78 spigotref15_Check.Fn := spec_of (E := spigotref15_Check.E) (envOk_at tabOk eqOk primsOk (.cons spigotref15_Same.spec <| .cons spigotref15_All.spec <| .cons spigotref15_Made.spec <| .nil)) mixOk Try.func78 (by kernel_rfl)
theorem spigotref15_Check.L1_eq (b0 : (List Int)) (b02 : (List Int)) (b03 : Int) (b04 : Int) : spigotref15_Check.L1 b0 b02 b03 b04 =
  (spigotref15_All.F (b0, b02, b03, b04, ())).bind fun r0 =>
  bif (!r0.2.1) then
    some (8, ())
  else
    (spigotref15_Made.F ((List.length b0 : Int)) r0.1).bind fun r1 =>
    (spigotref15_Same.F (b0, b02, b03, b04, ()) r1.1).bind fun r2 =>
    bif (!r2.1) then
      some (8, ())
    else
      spigotref15_Check.L2 := res_eq (by kernel_rfl)
theorem spigotref15_Check.L2_eq : spigotref15_Check.L2 =
  some (0, ()) := res_eq (by kernel_rfl)
theorem spigotref15_Check.F_eq (o : t4.den) : spigotref15_Check.F o =
  bif (decide ((((List.length o.1 : Int)) : Int) < 1)) then
    some (8, ())
  else
    bif (decide ((((List.length o.1 : Int)) : Int) > 16)) then
      some (8, ())
    else
      bif (((List.length o.2.1 : Int)) != ((List.length o.1 : Int))) then
        some (8, ())
      else
        spigotref15_Check.L1 o.1 o.2.1 o.2.2.1 o.2.2.2.1 := by kernel_rfl
/-! ### spigot/spigotref16.cells (81) -/
noncomputable def spigotref16_cells.sg : Sig := ⟨[.val (.slice t3), .val (.int .i64), .val (.int .u32)], [((.int .i64), true), (.bool, true)]⟩
noncomputable def spigotref16_cells.E : Env := ⟨tl, fun i => look i [], [], eqs, globs, prims⟩
noncomputable def spigotref16_cells.c := cxOf spigotref16_cells.E spigotref16_cells.sg Try.f81
noncomputable def spigotref16_cells.b := body Try.f81
noncomputable def spigotref16_cells.Fn : Fun := fnOf spigotref16_cells.E spigotref16_cells.sg Try.f81
noncomputable def spigotref16_cells.F (x : (List t3.den)) (place : Int) (key : Int) : Option (Int × Bool × Unit) := spigotref16_cells.Fn.F (x, place, key, ())
noncomputable def spigotref16_cells.S1 (x : (List t3.den)) (place : Int) (key : Int) (n : Int) (same : Bool) (i : Int) : St := ⟨[(0, (.v (.slice t3) x)), (1, (.v (.int .i64) place)), (2, (.v (.int .u32) key)), (8, (.v (.int .i64) n)), (9, (.v .bool same)), (10, (.v (.int .i64) i))], [], 0, []⟩
noncomputable def spigotref16_cells.L1 (x : (List t3.den)) (place : Int) (key : Int) (n : Int) (same : Bool) (i : Int) : Option (Int × Bool × Unit) := res spigotref16_cells.c (atLoop spigotref16_cells.b [1, 1, 0, 1, 0]) (spigotref16_cells.S1 x place key n same i)
noncomputable def spigotref16_cells.S2 (x : (List t3.den)) (place : Int) (key : Int) (n : Int) (same : Bool) (i : Int) : St := ⟨[(0, (.v (.slice t3) x)), (1, (.v (.int .i64) place)), (2, (.v (.int .u32) key)), (8, (.v (.int .i64) n)), (9, (.v .bool same)), (10, (.v (.int .i64) i))], [], 0, []⟩
noncomputable def spigotref16_cells.L2 (x : (List t3.den)) (place : Int) (key : Int) (n : Int) (same : Bool) (i : Int) : Option (Int × Bool × Unit) := res spigotref16_cells.c (atJoin spigotref16_cells.b [1, 1, 0, 1, 0, 0, 0, 1]) (spigotref16_cells.S2 x place key n same i)
noncomputable def spigotref16_cells.S3 (x : (List t3.den)) (place : Int) (key : Int) (n : Int) (same : Bool) (i : Int) : St := ⟨[(0, (.v (.slice t3) x)), (1, (.v (.int .i64) place)), (2, (.v (.int .u32) key)), (8, (.v (.int .i64) n)), (9, (.v .bool same)), (10, (.v (.int .i64) i))], [], 0, []⟩
noncomputable def spigotref16_cells.L3 (x : (List t3.den)) (place : Int) (key : Int) (n : Int) (same : Bool) (i : Int) : Option (Int × Bool × Unit) := res spigotref16_cells.c (atJoin spigotref16_cells.b [1, 1, 0, 1, 0, 0, 1, 0, 0, 1]) (spigotref16_cells.S3 x place key n same i)
theorem spigotref16_cells.spec : FnSpec Try.prog globs 81 spigotref16_cells.Fn := spec_of (E := spigotref16_cells.E) (envOk_at tabOk eqOk primsOk (.nil)) mixOk Try.func81 (by kernel_rfl)
theorem spigotref16_cells.L1_eq (x : (List t3.den)) (place : Int) (key : Int) (n : Int) (same : Bool) (i : Int) : spigotref16_cells.L1 x place key n same i =
  bif (decide ((i : Int) < ((List.length x : Int)))) then
    spigotref16_cells.L2 x place key n same i
  else
    some (n, same, ()) := res_eq (by kernel_rfl)
theorem spigotref16_cells.L2_eq (x : (List t3.den)) (place : Int) (key : Int) (n : Int) (same : Bool) (i : Int) : spigotref16_cells.L2 x place key n same i =
  bif (decide ((0 : Int) ≤ i ∧ (i : Int) < ((List.length x : Int)))) then
    bif (((List.getD x (Int.toNat i) (0, 0, false, ())).2).2).1 then
      bif (decide ((0 : Int) ≤ i ∧ (i : Int) < ((List.length x : Int)))) then
        bif (((List.getD x (Int.toNat i) (0, 0, false, ())).2).1 == place) then
          bif same then
            bif (decide ((0 : Int) ≤ i ∧ (i : Int) < ((List.length x : Int)))) then
              spigotref16_cells.L3 x place key (IntKind.wrap .i64 (n + 1)) ((List.getD x (Int.toNat i) (0, 0, false, ())).1 == key) i
            else none
          else
            spigotref16_cells.L3 x place key (IntKind.wrap .i64 (n + 1)) false i
        else
          spigotref16_cells.L3 x place key n same i
      else none
    else
      spigotref16_cells.L3 x place key n same i
  else none := res_eq (by kernel_rfl)
theorem spigotref16_cells.L3_eq (x : (List t3.den)) (place : Int) (key : Int) (n : Int) (same : Bool) (i : Int) : spigotref16_cells.L3 x place key n same i =
  spigotref16_cells.L1 x place key n same (IntKind.wrap .i64 (i + 1)) := res_eq (by kernel_rfl)
theorem spigotref16_cells.F_eq (x : (List t3.den)) (place : Int) (key : Int) : spigotref16_cells.F x place key =
  spigotref16_cells.L1 x place key 0 true 0 := by kernel_rfl
/-! ### spigot/spigotref16.Check (59) -/
noncomputable def spigotref16_Check.sg : Sig := ⟨[.val t5], [((.int .i64), true)]⟩
noncomputable def spigotref16_Check.E : Env := ⟨tl, fun i => look i [(58, spigotref03_Check.Fn), (76, spigotref13_Check.Fn), (77, spigotref14_Check.Fn), (78, spigotref15_Check.Fn), (79, spigotref15_All.Fn), (80, spigotref14_Count.Fn), (81, spigotref16_cells.Fn), (82, spigotref13_In.Fn)], [], eqs, globs, prims⟩
noncomputable def spigotref16_Check.c := cxOf spigotref16_Check.E spigotref16_Check.sg Try.f59
noncomputable def spigotref16_Check.b := body Try.f59
noncomputable def spigotref16_Check.Fn : Fun := fnOf spigotref16_Check.E spigotref16_Check.sg Try.f59
noncomputable def spigotref16_Check.F (t : t5.den) : Option (Int × Unit) := spigotref16_Check.Fn.F (t, ())
noncomputable def spigotref16_Check.S1 (b0 : Int) (b02 : (List Int)) (b03 : (List t1.den)) (b04 : (List Int)) (b05 : (List Bool)) (b06 : Int) (b07 : (List t3.den)) (b08 : (List Int)) (b09 : (List Int)) (b010 : Int) (b011 : Int) : St := ⟨[(1, (.ptr 0 []))], [(0, some (.box (.agg [(.v (.int .i64) b0), (.v (.slice (.int .u32)) b02), (.v (.slice t1) b03), (.agg [(.v (.slice (.int .i64)) b04), (.v (.slice .bool) b05), (.v (.int .i64) b06)]), (.v (.slice t3) b07), (.agg [(.v (.slice (.int .i64)) b08), (.v (.slice (.int .i64)) b09), (.v (.int .i64) b010), (.v (.int .i64) b011)])])))], 1, []⟩
noncomputable def spigotref16_Check.L1 (b0 : Int) (b02 : (List Int)) (b03 : (List t1.den)) (b04 : (List Int)) (b05 : (List Bool)) (b06 : Int) (b07 : (List t3.den)) (b08 : (List Int)) (b09 : (List Int)) (b010 : Int) (b011 : Int) : Option (Int × Unit) := res spigotref16_Check.c (atJoin spigotref16_Check.b [1, 0, 1]) (spigotref16_Check.S1 b0 b02 b03 b04 b05 b06 b07 b08 b09 b010 b011)
noncomputable def spigotref16_Check.S2 (b0 : Int) (b02 : (List Int)) (b03 : (List t1.den)) (b04 : (List Int)) (b05 : (List Bool)) (b06 : Int) (b07 : (List t3.den)) (b08 : (List Int)) (b09 : (List Int)) (b010 : Int) (b011 : Int) : St := ⟨[(1, (.ptr 0 []))], [(0, some (.box (.agg [(.v (.int .i64) b0), (.v (.slice (.int .u32)) b02), (.v (.slice t1) b03), (.agg [(.v (.slice (.int .i64)) b04), (.v (.slice .bool) b05), (.v (.int .i64) b06)]), (.v (.slice t3) b07), (.agg [(.v (.slice (.int .i64)) b08), (.v (.slice (.int .i64)) b09), (.v (.int .i64) b010), (.v (.int .i64) b011)])])))], 1, []⟩
noncomputable def spigotref16_Check.L2 (b0 : Int) (b02 : (List Int)) (b03 : (List t1.den)) (b04 : (List Int)) (b05 : (List Bool)) (b06 : Int) (b07 : (List t3.den)) (b08 : (List Int)) (b09 : (List Int)) (b010 : Int) (b011 : Int) : Option (Int × Unit) := res spigotref16_Check.c (atJoin spigotref16_Check.b [1, 1, 0, 1]) (spigotref16_Check.S2 b0 b02 b03 b04 b05 b06 b07 b08 b09 b010 b011)
noncomputable def spigotref16_Check.S3 (b0 : Int) (b02 : (List Int)) (b03 : (List t1.den)) (b04 : (List Int)) (b05 : (List Bool)) (b06 : Int) (b07 : (List t3.den)) (b08 : (List Int)) (b09 : (List Int)) (b010 : Int) (b011 : Int) (l1 : (List Int)) : St := ⟨[(1, (.ptr 0 [])), (3, (.sl 1))], [(0, some (.box (.agg [(.v (.int .i64) b0), (.v (.slice (.int .u32)) b02), (.v (.slice t1) b03), (.agg [(.v (.slice (.int .i64)) b04), (.v (.slice .bool) b05), (.v (.int .i64) b06)]), (.v (.slice t3) b07), (.agg [(.v (.slice (.int .i64)) b08), (.v (.slice (.int .i64)) b09), (.v (.int .i64) b010), (.v (.int .i64) b011)])]))), (1, some (.row (.int .i64) l1 false))], 2, []⟩
noncomputable def spigotref16_Check.L3 (b0 : Int) (b02 : (List Int)) (b03 : (List t1.den)) (b04 : (List Int)) (b05 : (List Bool)) (b06 : Int) (b07 : (List t3.den)) (b08 : (List Int)) (b09 : (List Int)) (b010 : Int) (b011 : Int) (l1 : (List Int)) : Option (Int × Unit) := res spigotref16_Check.c (atJoin spigotref16_Check.b [1, 1, 1, 1, 0, 1]) (spigotref16_Check.S3 b0 b02 b03 b04 b05 b06 b07 b08 b09 b010 b011 l1)
noncomputable def spigotref16_Check.S4 (i : Int) (b0 : Int) (b02 : (List Int)) (b03 : (List t1.den)) (b04 : (List Int)) (b05 : (List Bool)) (b06 : Int) (b07 : (List t3.den)) (b08 : (List Int)) (b09 : (List Int)) (b010 : Int) (b011 : Int) (l1 : (List Int)) : St := ⟨[(1, (.ptr 0 [])), (3, (.sl 1)), (5, (.v (.int .i64) i))], [(0, some (.box (.agg [(.v (.int .i64) b0), (.v (.slice (.int .u32)) b02), (.v (.slice t1) b03), (.agg [(.v (.slice (.int .i64)) b04), (.v (.slice .bool) b05), (.v (.int .i64) b06)]), (.v (.slice t3) b07), (.agg [(.v (.slice (.int .i64)) b08), (.v (.slice (.int .i64)) b09), (.v (.int .i64) b010), (.v (.int .i64) b011)])]))), (1, some (.row (.int .i64) l1 false))], 2, []⟩
noncomputable def spigotref16_Check.L4 (i : Int) (b0 : Int) (b02 : (List Int)) (b03 : (List t1.den)) (b04 : (List Int)) (b05 : (List Bool)) (b06 : Int) (b07 : (List t3.den)) (b08 : (List Int)) (b09 : (List Int)) (b010 : Int) (b011 : Int) (l1 : (List Int)) : Option (Int × Unit) := res spigotref16_Check.c (atLoop spigotref16_Check.b [1, 1, 1, 1, 1, 0, 1, 0]) (spigotref16_Check.S4 i b0 b02 b03 b04 b05 b06 b07 b08 b09 b010 b011 l1)
noncomputable def spigotref16_Check.S5 (i : Int) (b0 : Int) (b02 : (List Int)) (b03 : (List t1.den)) (b04 : (List Int)) (b05 : (List Bool)) (b06 : Int) (b07 : (List t3.den)) (b08 : (List Int)) (b09 : (List Int)) (b010 : Int) (b011 : Int) (l1 : (List Int)) : St := ⟨[(1, (.ptr 0 [])), (3, (.sl 1)), (5, (.v (.int .i64) i))], [(0, some (.box (.agg [(.v (.int .i64) b0), (.v (.slice (.int .u32)) b02), (.v (.slice t1) b03), (.agg [(.v (.slice (.int .i64)) b04), (.v (.slice .bool) b05), (.v (.int .i64) b06)]), (.v (.slice t3) b07), (.agg [(.v (.slice (.int .i64)) b08), (.v (.slice (.int .i64)) b09), (.v (.int .i64) b010), (.v (.int .i64) b011)])]))), (1, some (.row (.int .i64) l1 false))], 2, []⟩
noncomputable def spigotref16_Check.L5 (i : Int) (b0 : Int) (b02 : (List Int)) (b03 : (List t1.den)) (b04 : (List Int)) (b05 : (List Bool)) (b06 : Int) (b07 : (List t3.den)) (b08 : (List Int)) (b09 : (List Int)) (b010 : Int) (b011 : Int) (l1 : (List Int)) : Option (Int × Unit) := res spigotref16_Check.c (atJoin spigotref16_Check.b [1, 1, 1, 1, 1, 0, 1, 0, 0, 0, 1]) (spigotref16_Check.S5 i b0 b02 b03 b04 b05 b06 b07 b08 b09 b010 b011 l1)
noncomputable def spigotref16_Check.S6 (i : Int) (b0 : Int) (b02 : (List Int)) (b03 : (List t1.den)) (b04 : (List Int)) (b05 : (List Bool)) (b06 : Int) (b07 : (List t3.den)) (b08 : (List Int)) (b09 : (List Int)) (b010 : Int) (b011 : Int) (l1 : (List Int)) : St := ⟨[(1, (.ptr 0 [])), (3, (.sl 1)), (5, (.v (.int .i64) i))], [(0, some (.box (.agg [(.v (.int .i64) b0), (.v (.slice (.int .u32)) b02), (.v (.slice t1) b03), (.agg [(.v (.slice (.int .i64)) b04), (.v (.slice .bool) b05), (.v (.int .i64) b06)]), (.v (.slice t3) b07), (.agg [(.v (.slice (.int .i64)) b08), (.v (.slice (.int .i64)) b09), (.v (.int .i64) b010), (.v (.int .i64) b011)])]))), (1, some (.row (.int .i64) l1 false))], 2, []⟩
noncomputable def spigotref16_Check.L6 (i : Int) (b0 : Int) (b02 : (List Int)) (b03 : (List t1.den)) (b04 : (List Int)) (b05 : (List Bool)) (b06 : Int) (b07 : (List t3.den)) (b08 : (List Int)) (b09 : (List Int)) (b010 : Int) (b011 : Int) (l1 : (List Int)) : Option (Int × Unit) := res spigotref16_Check.c (atJoin spigotref16_Check.b [1, 1, 1, 1, 1, 0, 1, 0, 0, 1, 0, 0, 1, 0, 1]) (spigotref16_Check.S6 i b0 b02 b03 b04 b05 b06 b07 b08 b09 b010 b011 l1)
noncomputable def spigotref16_Check.S7 (i : Int) (b0 : Int) (b02 : (List Int)) (b03 : (List t1.den)) (b04 : (List Int)) (b05 : (List Bool)) (b06 : Int) (b07 : (List t3.den)) (b08 : (List Int)) (b09 : (List Int)) (b010 : Int) (b011 : Int) (l1 : (List Int)) : St := ⟨[(1, (.ptr 0 [])), (3, (.sl 1)), (5, (.v (.int .i64) i))], [(0, some (.box (.agg [(.v (.int .i64) b0), (.v (.slice (.int .u32)) b02), (.v (.slice t1) b03), (.agg [(.v (.slice (.int .i64)) b04), (.v (.slice .bool) b05), (.v (.int .i64) b06)]), (.v (.slice t3) b07), (.agg [(.v (.slice (.int .i64)) b08), (.v (.slice (.int .i64)) b09), (.v (.int .i64) b010), (.v (.int .i64) b011)])]))), (1, some (.row (.int .i64) l1 false))], 2, []⟩
noncomputable def spigotref16_Check.L7 (i : Int) (b0 : Int) (b02 : (List Int)) (b03 : (List t1.den)) (b04 : (List Int)) (b05 : (List Bool)) (b06 : Int) (b07 : (List t3.den)) (b08 : (List Int)) (b09 : (List Int)) (b010 : Int) (b011 : Int) (l1 : (List Int)) : Option (Int × Unit) := res spigotref16_Check.c (atJoin spigotref16_Check.b [1, 1, 1, 1, 1, 0, 1, 0, 0, 1, 0, 0, 1, 1, 0, 1]) (spigotref16_Check.S7 i b0 b02 b03 b04 b05 b06 b07 b08 b09 b010 b011 l1)
noncomputable def spigotref16_Check.S8 (i : Int) (b0 : Int) (b02 : (List Int)) (b03 : (List t1.den)) (b04 : (List Int)) (b05 : (List Bool)) (b06 : Int) (b07 : (List t3.den)) (b08 : (List Int)) (b09 : (List Int)) (b010 : Int) (b011 : Int) (l1 : (List Int)) : St := ⟨[(1, (.ptr 0 [])), (3, (.sl 1)), (5, (.v (.int .i64) i))], [(0, some (.box (.agg [(.v (.int .i64) b0), (.v (.slice (.int .u32)) b02), (.v (.slice t1) b03), (.agg [(.v (.slice (.int .i64)) b04), (.v (.slice .bool) b05), (.v (.int .i64) b06)]), (.v (.slice t3) b07), (.agg [(.v (.slice (.int .i64)) b08), (.v (.slice (.int .i64)) b09), (.v (.int .i64) b010), (.v (.int .i64) b011)])]))), (1, some (.row (.int .i64) l1 false))], 2, []⟩
noncomputable def spigotref16_Check.L8 (i : Int) (b0 : Int) (b02 : (List Int)) (b03 : (List t1.den)) (b04 : (List Int)) (b05 : (List Bool)) (b06 : Int) (b07 : (List t3.den)) (b08 : (List Int)) (b09 : (List Int)) (b010 : Int) (b011 : Int) (l1 : (List Int)) : Option (Int × Unit) := res spigotref16_Check.c (atJoin spigotref16_Check.b [1, 1, 1, 1, 1, 0, 1, 0, 0, 1, 0, 0, 1, 1, 1, 1]) (spigotref16_Check.S8 i b0 b02 b03 b04 b05 b06 b07 b08 b09 b010 b011 l1)
theorem spigotref16_Check.spec : FnSpec Try.prog globs 59 spigotref16_Check.Fn := spec_of (E := spigotref16_Check.E) (envOk_at tabOk eqOk primsOk (.cons spigotref03_Check.spec <| .cons spigotref13_Check.spec <| .cons spigotref14_Check.spec <| .cons spigotref15_Check.spec <| .cons spigotref15_All.spec <| .cons spigotref14_Count.spec <| .cons spigotref16_cells.spec <| .cons spigotref13_In.spec <| .nil)) mixOk Try.func59 (by kernel_rfl)
theorem spigotref16_Check.L1_eq (b0 : Int) (b02 : (List Int)) (b03 : (List t1.den)) (b04 : (List Int)) (b05 : (List Bool)) (b06 : Int) (b07 : (List t3.den)) (b08 : (List Int)) (b09 : (List Int)) (b010 : Int) (b011 : Int) : spigotref16_Check.L1 b0 b02 b03 b04 b05 b06 b07 b08 b09 b010 b011 =
  (spigotref13_Check.F (b04, b05, b06, ())).bind fun r0 =>
  bif (r0.1 != 0) then
    some (8, ())
  else
    (spigotref14_Check.F b07).bind fun r1 =>
    bif (r1.1 != 0) then
      some (8, ())
    else
      (spigotref15_Check.F (b08, b09, b010, b011, ())).bind fun r2 =>
      bif (r2.1 != 0) then
        some (8, ())
      else
        spigotref16_Check.L2 b0 b02 b03 b04 b05 b06 b07 b08 b09 b010 b011 := res_eq (by kernel_rfl)
theorem spigotref16_Check.L2_eq (b0 : Int) (b02 : (List Int)) (b03 : (List t1.den)) (b04 : (List Int)) (b05 : (List Bool)) (b06 : Int) (b07 : (List t3.den)) (b08 : (List Int)) (b09 : (List Int)) (b010 : Int) (b011 : Int) : spigotref16_Check.L2 b0 b02 b03 b04 b05 b06 b07 b08 b09 b010 b011 =
  (spigotref15_All.F (b08, b09, b010, b011, ())).bind fun r0 =>
  (spigotref14_Count.F b07).bind fun r1 =>
  bif (r1.1 != ((List.length r0.1 : Int))) then
    some (8, ())
  else
    spigotref16_Check.L3 b0 b02 b03 b04 b05 b06 b07 b08 b09 b010 b011 r0.1 := res_eq (by kernel_rfl)
theorem spigotref16_Check.L3_eq (b0 : Int) (b02 : (List Int)) (b03 : (List t1.den)) (b04 : (List Int)) (b05 : (List Bool)) (b06 : Int) (b07 : (List t3.den)) (b08 : (List Int)) (b09 : (List Int)) (b010 : Int) (b011 : Int) (l1 : (List Int)) : spigotref16_Check.L3 b0 b02 b03 b04 b05 b06 b07 b08 b09 b010 b011 l1 =
  spigotref16_Check.L4 0 b0 b02 b03 b04 b05 b06 b07 b08 b09 b010 b011 l1 := res_eq (by kernel_rfl)
theorem spigotref16_Check.L4_eq (i : Int) (b0 : Int) (b02 : (List Int)) (b03 : (List t1.den)) (b04 : (List Int)) (b05 : (List Bool)) (b06 : Int) (b07 : (List t3.den)) (b08 : (List Int)) (b09 : (List Int)) (b010 : Int) (b011 : Int) (l1 : (List Int)) : spigotref16_Check.L4 i b0 b02 b03 b04 b05 b06 b07 b08 b09 b010 b011 l1 =
  bif (decide ((i : Int) < b0)) then
    spigotref16_Check.L5 i b0 b02 b03 b04 b05 b06 b07 b08 b09 b010 b011 l1
  else
    some (0, ()) := res_eq (by kernel_rfl)
theorem spigotref16_Check.L5_eq (i : Int) (b0 : Int) (b02 : (List Int)) (b03 : (List t1.den)) (b04 : (List Int)) (b05 : (List Bool)) (b06 : Int) (b07 : (List t3.den)) (b08 : (List Int)) (b09 : (List Int)) (b010 : Int) (b011 : Int) (l1 : (List Int)) : spigotref16_Check.L5 i b0 b02 b03 b04 b05 b06 b07 b08 b09 b010 b011 l1 =
  bif (decide ((0 : Int) ≤ i ∧ (i : Int) < ((List.length b02 : Int)))) then
    (spigotref16_cells.F b07 i (List.getD b02 (Int.toNat i) 0)).bind fun r0 =>
    bif (decide ((0 : Int) ≤ i ∧ (i : Int) < ((List.length b05 : Int)))) then
      (spigotref13_In.F l1 i).bind fun r1 =>
      bif (!((List.getD b05 (Int.toNat i) false) == r1.1)) then
        some (8, ())
      else
        bif (decide ((0 : Int) ≤ i ∧ (i : Int) < ((List.length b05 : Int)))) then
          bif (!((List.getD b05 (Int.toNat i) false) == (r0.1 == 1))) then
            some (8, ())
          else
            bif (!r0.2.1) then
              some (8, ())
            else
              spigotref16_Check.L6 i b0 b02 b03 b04 b05 b06 b07 b08 b09 b010 b011 l1
        else none
    else none
  else none := res_eq (by kernel_rfl)
theorem spigotref16_Check.L6_eq (i : Int) (b0 : Int) (b02 : (List Int)) (b03 : (List t1.den)) (b04 : (List Int)) (b05 : (List Bool)) (b06 : Int) (b07 : (List t3.den)) (b08 : (List Int)) (b09 : (List Int)) (b010 : Int) (b011 : Int) (l1 : (List Int)) : spigotref16_Check.L6 i b0 b02 b03 b04 b05 b06 b07 b08 b09 b010 b011 l1 =
  bif (decide ((0 : Int) ≤ i ∧ (i : Int) < ((List.length b05 : Int)))) then
    bif (List.getD b05 (Int.toNat i) false) then
      bif (decide ((0 : Int) ≤ i ∧ (i : Int) < ((List.length b03 : Int)))) then
        (spigotref03_Check.F (List.getD b03 (Int.toNat i) ((0, 0, 0, ()), 0, 0, 0, ()))).bind fun r0 =>
        bif (r0.1 != 0) then
          some (8, ())
        else
          spigotref16_Check.L7 i b0 b02 b03 b04 b05 b06 b07 b08 b09 b010 b011 l1
      else none
    else
      spigotref16_Check.L7 i b0 b02 b03 b04 b05 b06 b07 b08 b09 b010 b011 l1
  else none := res_eq (by kernel_rfl)
theorem spigotref16_Check.L7_eq (i : Int) (b0 : Int) (b02 : (List Int)) (b03 : (List t1.den)) (b04 : (List Int)) (b05 : (List Bool)) (b06 : Int) (b07 : (List t3.den)) (b08 : (List Int)) (b09 : (List Int)) (b010 : Int) (b011 : Int) (l1 : (List Int)) : spigotref16_Check.L7 i b0 b02 b03 b04 b05 b06 b07 b08 b09 b010 b011 l1 =
  bif (decide ((0 : Int) ≤ i ∧ (i : Int) < ((List.length b05 : Int)))) then
    bif (!(List.getD b05 (Int.toNat i) false)) then
      bif (decide ((0 : Int) ≤ i ∧ (i : Int) < ((List.length b02 : Int)))) then
        bif ((List.getD b02 (Int.toNat i) 0) != 0) then
          some (8, ())
        else
          bif (decide ((0 : Int) ≤ i ∧ (i : Int) < ((List.length b03 : Int)))) then
            bif (!(Ty.beq t1 (List.getD b03 (Int.toNat i) ((0, 0, 0, ()), 0, 0, 0, ())) ((0, 0, 0, ()), 0, 0, 0, ()))) then
              some (8, ())
            else
              spigotref16_Check.L8 i b0 b02 b03 b04 b05 b06 b07 b08 b09 b010 b011 l1
          else none
      else none
    else
      spigotref16_Check.L8 i b0 b02 b03 b04 b05 b06 b07 b08 b09 b010 b011 l1
  else none := res_eq (by kernel_rfl)
theorem spigotref16_Check.L8_eq (i : Int) (b0 : Int) (b02 : (List Int)) (b03 : (List t1.den)) (b04 : (List Int)) (b05 : (List Bool)) (b06 : Int) (b07 : (List t3.den)) (b08 : (List Int)) (b09 : (List Int)) (b010 : Int) (b011 : Int) (l1 : (List Int)) : spigotref16_Check.L8 i b0 b02 b03 b04 b05 b06 b07 b08 b09 b010 b011 l1 =
  spigotref16_Check.L4 (IntKind.wrap .i64 (i + 1)) b0 b02 b03 b04 b05 b06 b07 b08 b09 b010 b011 l1 := res_eq (by kernel_rfl)
theorem spigotref16_Check.F_eq (t : t5.den) : spigotref16_Check.F t =
  bif (decide ((t.1 : Int) < 1)) then
    some (8, ())
  else
    bif (decide ((t.1 : Int) > 8)) then
      some (8, ())
    else
      bif (((List.length t.2.1 : Int)) != t.1) then
        some (8, ())
      else
        bif (((List.length t.2.2.1 : Int)) != t.1) then
          some (8, ())
        else
          bif (((List.length t.2.2.2.1.1 : Int)) != t.1) then
            some (8, ())
          else
            bif (((List.length t.2.2.2.2.2.1.1 : Int)) != t.1) then
              some (8, ())
            else
              spigotref16_Check.L1 t.1 t.2.1 t.2.2.1 t.2.2.2.1.1 t.2.2.2.1.2.1 t.2.2.2.1.2.2.1 t.2.2.2.2.1 t.2.2.2.2.2.1.1 t.2.2.2.2.2.1.2.1 t.2.2.2.2.2.1.2.2.1 t.2.2.2.2.2.1.2.2.2.1 := by kernel_rfl
/-! ### spigot/spigotref18.alike (60) -/
noncomputable def spigotref18_alike.sg : Sig := ⟨[.val t5, .val t0, .val (.int .u32)], [(.bool, true)]⟩
noncomputable def spigotref18_alike.E : Env := ⟨tl, fun i => look i [], [], eqs, globs, prims⟩
noncomputable def spigotref18_alike.c := cxOf spigotref18_alike.E spigotref18_alike.sg Try.f60
noncomputable def spigotref18_alike.b := body Try.f60
noncomputable def spigotref18_alike.Fn : Fun := fnOf spigotref18_alike.E spigotref18_alike.sg Try.f60
noncomputable def spigotref18_alike.F (t : t5.den) (l : t0.den) (most : Int) : Option (Bool × Unit) := spigotref18_alike.Fn.F (t, l, most, ())
noncomputable def spigotref18_alike.S1 (most : Int) (i : Int) (b0 : Int) (b02 : (List Int)) (b03 : (List t1.den)) (b04 : (List Int)) (b05 : (List Bool)) (b06 : Int) (b07 : (List t3.den)) (b08 : (List Int)) (b09 : (List Int)) (b010 : Int) (b011 : Int) (b1 : Int) (b12 : Int) (b13 : Int) : St := ⟨[(2, (.v (.int .u32) most)), (3, (.ptr 0 [])), (4, (.ptr 1 [])), (7, (.v (.int .i64) i))], [(0, some (.box (.agg [(.v (.int .i64) b0), (.v (.slice (.int .u32)) b02), (.v (.slice t1) b03), (.agg [(.v (.slice (.int .i64)) b04), (.v (.slice .bool) b05), (.v (.int .i64) b06)]), (.v (.slice t3) b07), (.agg [(.v (.slice (.int .i64)) b08), (.v (.slice (.int .i64)) b09), (.v (.int .i64) b010), (.v (.int .i64) b011)])]))), (1, some (.box (.agg [(.v (.int .i64) b1), (.v (.int .i64) b12), (.v (.int .i64) b13)])))], 2, []⟩
noncomputable def spigotref18_alike.L1 (most : Int) (i : Int) (b0 : Int) (b02 : (List Int)) (b03 : (List t1.den)) (b04 : (List Int)) (b05 : (List Bool)) (b06 : Int) (b07 : (List t3.den)) (b08 : (List Int)) (b09 : (List Int)) (b010 : Int) (b011 : Int) (b1 : Int) (b12 : Int) (b13 : Int) : Option (Bool × Unit) := res spigotref18_alike.c (atLoop spigotref18_alike.b [1, 0, 1, 0]) (spigotref18_alike.S1 most i b0 b02 b03 b04 b05 b06 b07 b08 b09 b010 b011 b1 b12 b13)
noncomputable def spigotref18_alike.S2 (most : Int) (i : Int) (b0 : Int) (b02 : (List Int)) (b03 : (List t1.den)) (b04 : (List Int)) (b05 : (List Bool)) (b06 : Int) (b07 : (List t3.den)) (b08 : (List Int)) (b09 : (List Int)) (b010 : Int) (b011 : Int) (b1 : Int) (b12 : Int) (b13 : Int) : St := ⟨[(2, (.v (.int .u32) most)), (3, (.ptr 0 [])), (4, (.ptr 1 [])), (7, (.v (.int .i64) i))], [(0, some (.box (.agg [(.v (.int .i64) b0), (.v (.slice (.int .u32)) b02), (.v (.slice t1) b03), (.agg [(.v (.slice (.int .i64)) b04), (.v (.slice .bool) b05), (.v (.int .i64) b06)]), (.v (.slice t3) b07), (.agg [(.v (.slice (.int .i64)) b08), (.v (.slice (.int .i64)) b09), (.v (.int .i64) b010), (.v (.int .i64) b011)])]))), (1, some (.box (.agg [(.v (.int .i64) b1), (.v (.int .i64) b12), (.v (.int .i64) b13)])))], 2, []⟩
noncomputable def spigotref18_alike.L2 (most : Int) (i : Int) (b0 : Int) (b02 : (List Int)) (b03 : (List t1.den)) (b04 : (List Int)) (b05 : (List Bool)) (b06 : Int) (b07 : (List t3.den)) (b08 : (List Int)) (b09 : (List Int)) (b010 : Int) (b011 : Int) (b1 : Int) (b12 : Int) (b13 : Int) : Option (Bool × Unit) := res spigotref18_alike.c (atJoin spigotref18_alike.b [1, 0, 1, 0, 0, 0, 1]) (spigotref18_alike.S2 most i b0 b02 b03 b04 b05 b06 b07 b08 b09 b010 b011 b1 b12 b13)
noncomputable def spigotref18_alike.S3 (most : Int) (i : Int) (b0 : Int) (b02 : (List Int)) (b03 : (List t1.den)) (b04 : (List Int)) (b05 : (List Bool)) (b06 : Int) (b07 : (List t3.den)) (b08 : (List Int)) (b09 : (List Int)) (b010 : Int) (b011 : Int) (b1 : Int) (b12 : Int) (b13 : Int) : St := ⟨[(2, (.v (.int .u32) most)), (3, (.ptr 0 [])), (4, (.ptr 1 [])), (7, (.v (.int .i64) i))], [(0, some (.box (.agg [(.v (.int .i64) b0), (.v (.slice (.int .u32)) b02), (.v (.slice t1) b03), (.agg [(.v (.slice (.int .i64)) b04), (.v (.slice .bool) b05), (.v (.int .i64) b06)]), (.v (.slice t3) b07), (.agg [(.v (.slice (.int .i64)) b08), (.v (.slice (.int .i64)) b09), (.v (.int .i64) b010), (.v (.int .i64) b011)])]))), (1, some (.box (.agg [(.v (.int .i64) b1), (.v (.int .i64) b12), (.v (.int .i64) b13)])))], 2, []⟩
noncomputable def spigotref18_alike.L3 (most : Int) (i : Int) (b0 : Int) (b02 : (List Int)) (b03 : (List t1.den)) (b04 : (List Int)) (b05 : (List Bool)) (b06 : Int) (b07 : (List t3.den)) (b08 : (List Int)) (b09 : (List Int)) (b010 : Int) (b011 : Int) (b1 : Int) (b12 : Int) (b13 : Int) : Option (Bool × Unit) := res spigotref18_alike.c (atJoin spigotref18_alike.b [1, 0, 1, 0, 0, 1, 0, 0, 1]) (spigotref18_alike.S3 most i b0 b02 b03 b04 b05 b06 b07 b08 b09 b010 b011 b1 b12 b13)
theorem spigotref18_alike.spec : FnSpec Try.prog globs 60 spigotref18_alike.Fn := spec_of (E := spigotref18_alike.E) (envOk_at tabOk eqOk primsOk (.nil)) mixOk Try.func60 (by kernel_rfl)
theorem spigotref18_alike.L1_eq (most : Int) (i : Int) (b0 : Int) (b02 : (List Int)) (b03 : (List t1.den)) (b04 : (List Int)) (b05 : (List Bool)) (b06 : Int) (b07 : (List t3.den)) (b08 : (List Int)) (b09 : (List Int)) (b010 : Int) (b011 : Int) (b1 : Int) (b12 : Int) (b13 : Int) : spigotref18_alike.L1 most i b0 b02 b03 b04 b05 b06 b07 b08 b09 b010 b011 b1 b12 b13 =
  bif (decide ((i : Int) < b0)) then
    spigotref18_alike.L2 most i b0 b02 b03 b04 b05 b06 b07 b08 b09 b010 b011 b1 b12 b13
  else
    some (true, ()) := res_eq (by kernel_rfl)
theorem spigotref18_alike.L2_eq (most : Int) (i : Int) (b0 : Int) (b02 : (List Int)) (b03 : (List t1.den)) (b04 : (List Int)) (b05 : (List Bool)) (b06 : Int) (b07 : (List t3.den)) (b08 : (List Int)) (b09 : (List Int)) (b010 : Int) (b011 : Int) (b1 : Int) (b12 : Int) (b13 : Int) : spigotref18_alike.L2 most i b0 b02 b03 b04 b05 b06 b07 b08 b09 b010 b011 b1 b12 b13 =
  bif (decide ((0 : Int) ≤ i ∧ (i : Int) < ((List.length b05 : Int)))) then
    bif (List.getD b05 (Int.toNat i) false) then
      bif (decide ((0 : Int) ≤ i ∧ (i : Int) < ((List.length b03 : Int)))) then
        bif (!(Ty.beq t0 ((List.getD b03 (Int.toNat i) ((0, 0, 0, ()), 0, 0, 0, ())).1) (b1, b12, b13, ()))) then
          some (false, ())
        else
          bif (decide ((0 : Int) ≤ i ∧ (i : Int) < ((List.length b02 : Int)))) then
            bif (decide (((List.getD b02 (Int.toNat i) 0) : Int) > most)) then
              some (false, ())
            else
              spigotref18_alike.L3 most i b0 b02 b03 b04 b05 b06 b07 b08 b09 b010 b011 b1 b12 b13
          else none
      else none
    else
      spigotref18_alike.L3 most i b0 b02 b03 b04 b05 b06 b07 b08 b09 b010 b011 b1 b12 b13
  else none := res_eq (by kernel_rfl)
theorem spigotref18_alike.L3_eq (most : Int) (i : Int) (b0 : Int) (b02 : (List Int)) (b03 : (List t1.den)) (b04 : (List Int)) (b05 : (List Bool)) (b06 : Int) (b07 : (List t3.den)) (b08 : (List Int)) (b09 : (List Int)) (b010 : Int) (b011 : Int) (b1 : Int) (b12 : Int) (b13 : Int) : spigotref18_alike.L3 most i b0 b02 b03 b04 b05 b06 b07 b08 b09 b010 b011 b1 b12 b13 =
  spigotref18_alike.L1 most (IntKind.wrap .i64 (i + 1)) b0 b02 b03 b04 b05 b06 b07 b08 b09 b010 b011 b1 b12 b13 := res_eq (by kernel_rfl)
theorem spigotref18_alike.F_eq (t : t5.den) (l : t0.den) (most : Int) : spigotref18_alike.F t l most =
  spigotref18_alike.L1 most 0 t.1 t.2.1 t.2.2.1 t.2.2.2.1.1 t.2.2.2.1.2.1 t.2.2.2.1.2.2.1 t.2.2.2.2.1 t.2.2.2.2.2.1.1 t.2.2.2.2.2.1.2.1 t.2.2.2.2.2.1.2.2.1 t.2.2.2.2.2.1.2.2.2.1 l.1 l.2.1 l.2.2.1 := by kernel_rfl
/-! ### spigot/spigotref18.Check (42) -/
noncomputable def spigotref18_Check.sg : Sig := ⟨[.val t7], [((.int .i64), true)]⟩
noncomputable def spigotref18_Check.E : Env := ⟨tl, fun i => look i [(57, spigotref18_Limited.Fn), (58, spigotref03_Check.Fn), (59, spigotref16_Check.Fn), (60, spigotref18_alike.Fn)], [], eqs, globs, prims⟩
noncomputable def spigotref18_Check.c := cxOf spigotref18_Check.E spigotref18_Check.sg Try.f42
noncomputable def spigotref18_Check.b := body Try.f42
noncomputable def spigotref18_Check.Fn : Fun := fnOf spigotref18_Check.E spigotref18_Check.sg Try.f42
noncomputable def spigotref18_Check.F (p : t7.den) : Option (Int × Unit) := spigotref18_Check.Fn.F (p, ())
noncomputable def spigotref18_Check.S1 (b0 : Int) (b02 : (List t0.den)) (b03 : Int) (b04 : Int) (b05 : Int) (b06 : Int) (b07 : Int) (b08 : Int) (b09 : Int) (b010 : (List Int)) (b011 : (List t1.den)) (b012 : (List Int)) (b013 : (List Bool)) (b014 : Int) (b015 : (List t3.den)) (b016 : (List Int)) (b017 : (List Int)) (b018 : Int) (b019 : Int) (b020 : Int) (b021 : (List Int)) (b022 : (List t1.den)) (b023 : (List Int)) (b024 : (List Bool)) (b025 : Int) (b026 : (List t3.den)) (b027 : (List Int)) (b028 : (List Int)) (b029 : Int) (b030 : Int) (b031 : (List Int)) (b032 : Int) (b033 : Int) (b034 : Int) : St := ⟨[(1, (.ptr 0 []))], [(0, some (.box (.agg [(.v (.int .u32) b0), (.v (.arr 3 t0) b02), (.agg [(.agg [(.v (.int .i64) b03), (.v (.int .i64) b04), (.v (.int .i64) b05)]), (.v (.int .i64) b06), (.v (.int .i64) b07), (.v (.int .u64) b08)]), (.agg [(.v (.int .i64) b09), (.v (.slice (.int .u32)) b010), (.v (.slice t1) b011), (.agg [(.v (.slice (.int .i64)) b012), (.v (.slice .bool) b013), (.v (.int .i64) b014)]), (.v (.slice t3) b015), (.agg [(.v (.slice (.int .i64)) b016), (.v (.slice (.int .i64)) b017), (.v (.int .i64) b018), (.v (.int .i64) b019)])]), (.agg [(.v (.int .i64) b020), (.v (.slice (.int .u32)) b021), (.v (.slice t1) b022), (.agg [(.v (.slice (.int .i64)) b023), (.v (.slice .bool) b024), (.v (.int .i64) b025)]), (.v (.slice t3) b026), (.agg [(.v (.slice (.int .i64)) b027), (.v (.slice (.int .i64)) b028), (.v (.int .i64) b029), (.v (.int .i64) b030)])]), (.v (.slice (.int .u32)) b031), (.agg [(.v (.int .u64) b032), (.v (.int .u64) b033), (.v (.int .u64) b034)])])))], 1, []⟩
noncomputable def spigotref18_Check.L1 (b0 : Int) (b02 : (List t0.den)) (b03 : Int) (b04 : Int) (b05 : Int) (b06 : Int) (b07 : Int) (b08 : Int) (b09 : Int) (b010 : (List Int)) (b011 : (List t1.den)) (b012 : (List Int)) (b013 : (List Bool)) (b014 : Int) (b015 : (List t3.den)) (b016 : (List Int)) (b017 : (List Int)) (b018 : Int) (b019 : Int) (b020 : Int) (b021 : (List Int)) (b022 : (List t1.den)) (b023 : (List Int)) (b024 : (List Bool)) (b025 : Int) (b026 : (List t3.den)) (b027 : (List Int)) (b028 : (List Int)) (b029 : Int) (b030 : Int) (b031 : (List Int)) (b032 : Int) (b033 : Int) (b034 : Int) : Option (Int × Unit) := res spigotref18_Check.c (atJoin spigotref18_Check.b [1, 0, 1]) (spigotref18_Check.S1 b0 b02 b03 b04 b05 b06 b07 b08 b09 b010 b011 b012 b013 b014 b015 b016 b017 b018 b019 b020 b021 b022 b023 b024 b025 b026 b027 b028 b029 b030 b031 b032 b033 b034)
noncomputable def spigotref18_Check.S2 (b0 : Int) (b02 : (List t0.den)) (b03 : Int) (b04 : Int) (b05 : Int) (b06 : Int) (b07 : Int) (b08 : Int) (b09 : Int) (b010 : (List Int)) (b011 : (List t1.den)) (b012 : (List Int)) (b013 : (List Bool)) (b014 : Int) (b015 : (List t3.den)) (b016 : (List Int)) (b017 : (List Int)) (b018 : Int) (b019 : Int) (b020 : Int) (b021 : (List Int)) (b022 : (List t1.den)) (b023 : (List Int)) (b024 : (List Bool)) (b025 : Int) (b026 : (List t3.den)) (b027 : (List Int)) (b028 : (List Int)) (b029 : Int) (b030 : Int) (b031 : (List Int)) (b032 : Int) (b033 : Int) (b034 : Int) : St := ⟨[(1, (.ptr 0 []))], [(0, some (.box (.agg [(.v (.int .u32) b0), (.v (.arr 3 t0) b02), (.agg [(.agg [(.v (.int .i64) b03), (.v (.int .i64) b04), (.v (.int .i64) b05)]), (.v (.int .i64) b06), (.v (.int .i64) b07), (.v (.int .u64) b08)]), (.agg [(.v (.int .i64) b09), (.v (.slice (.int .u32)) b010), (.v (.slice t1) b011), (.agg [(.v (.slice (.int .i64)) b012), (.v (.slice .bool) b013), (.v (.int .i64) b014)]), (.v (.slice t3) b015), (.agg [(.v (.slice (.int .i64)) b016), (.v (.slice (.int .i64)) b017), (.v (.int .i64) b018), (.v (.int .i64) b019)])]), (.agg [(.v (.int .i64) b020), (.v (.slice (.int .u32)) b021), (.v (.slice t1) b022), (.agg [(.v (.slice (.int .i64)) b023), (.v (.slice .bool) b024), (.v (.int .i64) b025)]), (.v (.slice t3) b026), (.agg [(.v (.slice (.int .i64)) b027), (.v (.slice (.int .i64)) b028), (.v (.int .i64) b029), (.v (.int .i64) b030)])]), (.v (.slice (.int .u32)) b031), (.agg [(.v (.int .u64) b032), (.v (.int .u64) b033), (.v (.int .u64) b034)])])))], 1, []⟩
noncomputable def spigotref18_Check.L2 (b0 : Int) (b02 : (List t0.den)) (b03 : Int) (b04 : Int) (b05 : Int) (b06 : Int) (b07 : Int) (b08 : Int) (b09 : Int) (b010 : (List Int)) (b011 : (List t1.den)) (b012 : (List Int)) (b013 : (List Bool)) (b014 : Int) (b015 : (List t3.den)) (b016 : (List Int)) (b017 : (List Int)) (b018 : Int) (b019 : Int) (b020 : Int) (b021 : (List Int)) (b022 : (List t1.den)) (b023 : (List Int)) (b024 : (List Bool)) (b025 : Int) (b026 : (List t3.den)) (b027 : (List Int)) (b028 : (List Int)) (b029 : Int) (b030 : Int) (b031 : (List Int)) (b032 : Int) (b033 : Int) (b034 : Int) : Option (Int × Unit) := res spigotref18_Check.c (atJoin spigotref18_Check.b [1, 1, 0, 1]) (spigotref18_Check.S2 b0 b02 b03 b04 b05 b06 b07 b08 b09 b010 b011 b012 b013 b014 b015 b016 b017 b018 b019 b020 b021 b022 b023 b024 b025 b026 b027 b028 b029 b030 b031 b032 b033 b034)
noncomputable def spigotref18_Check.S3 (b0 : Int) (b02 : (List t0.den)) (b03 : Int) (b04 : Int) (b05 : Int) (b06 : Int) (b07 : Int) (b08 : Int) (b09 : Int) (b010 : (List Int)) (b011 : (List t1.den)) (b012 : (List Int)) (b013 : (List Bool)) (b014 : Int) (b015 : (List t3.den)) (b016 : (List Int)) (b017 : (List Int)) (b018 : Int) (b019 : Int) (b020 : Int) (b021 : (List Int)) (b022 : (List t1.den)) (b023 : (List Int)) (b024 : (List Bool)) (b025 : Int) (b026 : (List t3.den)) (b027 : (List Int)) (b028 : (List Int)) (b029 : Int) (b030 : Int) (b031 : (List Int)) (b032 : Int) (b033 : Int) (b034 : Int) : St := ⟨[(1, (.ptr 0 []))], [(0, some (.box (.agg [(.v (.int .u32) b0), (.v (.arr 3 t0) b02), (.agg [(.agg [(.v (.int .i64) b03), (.v (.int .i64) b04), (.v (.int .i64) b05)]), (.v (.int .i64) b06), (.v (.int .i64) b07), (.v (.int .u64) b08)]), (.agg [(.v (.int .i64) b09), (.v (.slice (.int .u32)) b010), (.v (.slice t1) b011), (.agg [(.v (.slice (.int .i64)) b012), (.v (.slice .bool) b013), (.v (.int .i64) b014)]), (.v (.slice t3) b015), (.agg [(.v (.slice (.int .i64)) b016), (.v (.slice (.int .i64)) b017), (.v (.int .i64) b018), (.v (.int .i64) b019)])]), (.agg [(.v (.int .i64) b020), (.v (.slice (.int .u32)) b021), (.v (.slice t1) b022), (.agg [(.v (.slice (.int .i64)) b023), (.v (.slice .bool) b024), (.v (.int .i64) b025)]), (.v (.slice t3) b026), (.agg [(.v (.slice (.int .i64)) b027), (.v (.slice (.int .i64)) b028), (.v (.int .i64) b029), (.v (.int .i64) b030)])]), (.v (.slice (.int .u32)) b031), (.agg [(.v (.int .u64) b032), (.v (.int .u64) b033), (.v (.int .u64) b034)])])))], 1, []⟩
noncomputable def spigotref18_Check.L3 (b0 : Int) (b02 : (List t0.den)) (b03 : Int) (b04 : Int) (b05 : Int) (b06 : Int) (b07 : Int) (b08 : Int) (b09 : Int) (b010 : (List Int)) (b011 : (List t1.den)) (b012 : (List Int)) (b013 : (List Bool)) (b014 : Int) (b015 : (List t3.den)) (b016 : (List Int)) (b017 : (List Int)) (b018 : Int) (b019 : Int) (b020 : Int) (b021 : (List Int)) (b022 : (List t1.den)) (b023 : (List Int)) (b024 : (List Bool)) (b025 : Int) (b026 : (List t3.den)) (b027 : (List Int)) (b028 : (List Int)) (b029 : Int) (b030 : Int) (b031 : (List Int)) (b032 : Int) (b033 : Int) (b034 : Int) : Option (Int × Unit) := res spigotref18_Check.c (atJoin spigotref18_Check.b [1, 1, 1, 0, 1]) (spigotref18_Check.S3 b0 b02 b03 b04 b05 b06 b07 b08 b09 b010 b011 b012 b013 b014 b015 b016 b017 b018 b019 b020 b021 b022 b023 b024 b025 b026 b027 b028 b029 b030 b031 b032 b033 b034)
noncomputable def spigotref18_Check.S4 (i : Int) (b0 : Int) (b02 : (List t0.den)) (b03 : Int) (b04 : Int) (b05 : Int) (b06 : Int) (b07 : Int) (b08 : Int) (b09 : Int) (b010 : (List Int)) (b011 : (List t1.den)) (b012 : (List Int)) (b013 : (List Bool)) (b014 : Int) (b015 : (List t3.den)) (b016 : (List Int)) (b017 : (List Int)) (b018 : Int) (b019 : Int) (b020 : Int) (b021 : (List Int)) (b022 : (List t1.den)) (b023 : (List Int)) (b024 : (List Bool)) (b025 : Int) (b026 : (List t3.den)) (b027 : (List Int)) (b028 : (List Int)) (b029 : Int) (b030 : Int) (b031 : (List Int)) (b032 : Int) (b033 : Int) (b034 : Int) : St := ⟨[(1, (.ptr 0 [])), (3, (.v (.int .i64) i))], [(0, some (.box (.agg [(.v (.int .u32) b0), (.v (.arr 3 t0) b02), (.agg [(.agg [(.v (.int .i64) b03), (.v (.int .i64) b04), (.v (.int .i64) b05)]), (.v (.int .i64) b06), (.v (.int .i64) b07), (.v (.int .u64) b08)]), (.agg [(.v (.int .i64) b09), (.v (.slice (.int .u32)) b010), (.v (.slice t1) b011), (.agg [(.v (.slice (.int .i64)) b012), (.v (.slice .bool) b013), (.v (.int .i64) b014)]), (.v (.slice t3) b015), (.agg [(.v (.slice (.int .i64)) b016), (.v (.slice (.int .i64)) b017), (.v (.int .i64) b018), (.v (.int .i64) b019)])]), (.agg [(.v (.int .i64) b020), (.v (.slice (.int .u32)) b021), (.v (.slice t1) b022), (.agg [(.v (.slice (.int .i64)) b023), (.v (.slice .bool) b024), (.v (.int .i64) b025)]), (.v (.slice t3) b026), (.agg [(.v (.slice (.int .i64)) b027), (.v (.slice (.int .i64)) b028), (.v (.int .i64) b029), (.v (.int .i64) b030)])]), (.v (.slice (.int .u32)) b031), (.agg [(.v (.int .u64) b032), (.v (.int .u64) b033), (.v (.int .u64) b034)])])))], 1, []⟩
noncomputable def spigotref18_Check.L4 (i : Int) (b0 : Int) (b02 : (List t0.den)) (b03 : Int) (b04 : Int) (b05 : Int) (b06 : Int) (b07 : Int) (b08 : Int) (b09 : Int) (b010 : (List Int)) (b011 : (List t1.den)) (b012 : (List Int)) (b013 : (List Bool)) (b014 : Int) (b015 : (List t3.den)) (b016 : (List Int)) (b017 : (List Int)) (b018 : Int) (b019 : Int) (b020 : Int) (b021 : (List Int)) (b022 : (List t1.den)) (b023 : (List Int)) (b024 : (List Bool)) (b025 : Int) (b026 : (List t3.den)) (b027 : (List Int)) (b028 : (List Int)) (b029 : Int) (b030 : Int) (b031 : (List Int)) (b032 : Int) (b033 : Int) (b034 : Int) : Option (Int × Unit) := res spigotref18_Check.c (atLoop spigotref18_Check.b [1, 1, 1, 1, 0, 1, 0]) (spigotref18_Check.S4 i b0 b02 b03 b04 b05 b06 b07 b08 b09 b010 b011 b012 b013 b014 b015 b016 b017 b018 b019 b020 b021 b022 b023 b024 b025 b026 b027 b028 b029 b030 b031 b032 b033 b034)
noncomputable def spigotref18_Check.S5 (i : Int) (b0 : Int) (b02 : (List t0.den)) (b03 : Int) (b04 : Int) (b05 : Int) (b06 : Int) (b07 : Int) (b08 : Int) (b09 : Int) (b010 : (List Int)) (b011 : (List t1.den)) (b012 : (List Int)) (b013 : (List Bool)) (b014 : Int) (b015 : (List t3.den)) (b016 : (List Int)) (b017 : (List Int)) (b018 : Int) (b019 : Int) (b020 : Int) (b021 : (List Int)) (b022 : (List t1.den)) (b023 : (List Int)) (b024 : (List Bool)) (b025 : Int) (b026 : (List t3.den)) (b027 : (List Int)) (b028 : (List Int)) (b029 : Int) (b030 : Int) (b031 : (List Int)) (b032 : Int) (b033 : Int) (b034 : Int) : St := ⟨[(1, (.ptr 0 [])), (3, (.v (.int .i64) i))], [(0, some (.box (.agg [(.v (.int .u32) b0), (.v (.arr 3 t0) b02), (.agg [(.agg [(.v (.int .i64) b03), (.v (.int .i64) b04), (.v (.int .i64) b05)]), (.v (.int .i64) b06), (.v (.int .i64) b07), (.v (.int .u64) b08)]), (.agg [(.v (.int .i64) b09), (.v (.slice (.int .u32)) b010), (.v (.slice t1) b011), (.agg [(.v (.slice (.int .i64)) b012), (.v (.slice .bool) b013), (.v (.int .i64) b014)]), (.v (.slice t3) b015), (.agg [(.v (.slice (.int .i64)) b016), (.v (.slice (.int .i64)) b017), (.v (.int .i64) b018), (.v (.int .i64) b019)])]), (.agg [(.v (.int .i64) b020), (.v (.slice (.int .u32)) b021), (.v (.slice t1) b022), (.agg [(.v (.slice (.int .i64)) b023), (.v (.slice .bool) b024), (.v (.int .i64) b025)]), (.v (.slice t3) b026), (.agg [(.v (.slice (.int .i64)) b027), (.v (.slice (.int .i64)) b028), (.v (.int .i64) b029), (.v (.int .i64) b030)])]), (.v (.slice (.int .u32)) b031), (.agg [(.v (.int .u64) b032), (.v (.int .u64) b033), (.v (.int .u64) b034)])])))], 1, []⟩
noncomputable def spigotref18_Check.L5 (i : Int) (b0 : Int) (b02 : (List t0.den)) (b03 : Int) (b04 : Int) (b05 : Int) (b06 : Int) (b07 : Int) (b08 : Int) (b09 : Int) (b010 : (List Int)) (b011 : (List t1.den)) (b012 : (List Int)) (b013 : (List Bool)) (b014 : Int) (b015 : (List t3.den)) (b016 : (List Int)) (b017 : (List Int)) (b018 : Int) (b019 : Int) (b020 : Int) (b021 : (List Int)) (b022 : (List t1.den)) (b023 : (List Int)) (b024 : (List Bool)) (b025 : Int) (b026 : (List t3.den)) (b027 : (List Int)) (b028 : (List Int)) (b029 : Int) (b030 : Int) (b031 : (List Int)) (b032 : Int) (b033 : Int) (b034 : Int) : Option (Int × Unit) := res spigotref18_Check.c (atJoin spigotref18_Check.b [1, 1, 1, 1, 0, 1, 0, 0, 0, 1]) (spigotref18_Check.S5 i b0 b02 b03 b04 b05 b06 b07 b08 b09 b010 b011 b012 b013 b014 b015 b016 b017 b018 b019 b020 b021 b022 b023 b024 b025 b026 b027 b028 b029 b030 b031 b032 b033 b034)
noncomputable def spigotref18_Check.S6 (i : Int) (b0 : Int) (b02 : (List t0.den)) (b03 : Int) (b04 : Int) (b05 : Int) (b06 : Int) (b07 : Int) (b08 : Int) (b09 : Int) (b010 : (List Int)) (b011 : (List t1.den)) (b012 : (List Int)) (b013 : (List Bool)) (b014 : Int) (b015 : (List t3.den)) (b016 : (List Int)) (b017 : (List Int)) (b018 : Int) (b019 : Int) (b020 : Int) (b021 : (List Int)) (b022 : (List t1.den)) (b023 : (List Int)) (b024 : (List Bool)) (b025 : Int) (b026 : (List t3.den)) (b027 : (List Int)) (b028 : (List Int)) (b029 : Int) (b030 : Int) (b031 : (List Int)) (b032 : Int) (b033 : Int) (b034 : Int) : St := ⟨[(1, (.ptr 0 [])), (3, (.v (.int .i64) i))], [(0, some (.box (.agg [(.v (.int .u32) b0), (.v (.arr 3 t0) b02), (.agg [(.agg [(.v (.int .i64) b03), (.v (.int .i64) b04), (.v (.int .i64) b05)]), (.v (.int .i64) b06), (.v (.int .i64) b07), (.v (.int .u64) b08)]), (.agg [(.v (.int .i64) b09), (.v (.slice (.int .u32)) b010), (.v (.slice t1) b011), (.agg [(.v (.slice (.int .i64)) b012), (.v (.slice .bool) b013), (.v (.int .i64) b014)]), (.v (.slice t3) b015), (.agg [(.v (.slice (.int .i64)) b016), (.v (.slice (.int .i64)) b017), (.v (.int .i64) b018), (.v (.int .i64) b019)])]), (.agg [(.v (.int .i64) b020), (.v (.slice (.int .u32)) b021), (.v (.slice t1) b022), (.agg [(.v (.slice (.int .i64)) b023), (.v (.slice .bool) b024), (.v (.int .i64) b025)]), (.v (.slice t3) b026), (.agg [(.v (.slice (.int .i64)) b027), (.v (.slice (.int .i64)) b028), (.v (.int .i64) b029), (.v (.int .i64) b030)])]), (.v (.slice (.int .u32)) b031), (.agg [(.v (.int .u64) b032), (.v (.int .u64) b033), (.v (.int .u64) b034)])])))], 1, []⟩
noncomputable def spigotref18_Check.L6 (i : Int) (b0 : Int) (b02 : (List t0.den)) (b03 : Int) (b04 : Int) (b05 : Int) (b06 : Int) (b07 : Int) (b08 : Int) (b09 : Int) (b010 : (List Int)) (b011 : (List t1.den)) (b012 : (List Int)) (b013 : (List Bool)) (b014 : Int) (b015 : (List t3.den)) (b016 : (List Int)) (b017 : (List Int)) (b018 : Int) (b019 : Int) (b020 : Int) (b021 : (List Int)) (b022 : (List t1.den)) (b023 : (List Int)) (b024 : (List Bool)) (b025 : Int) (b026 : (List t3.den)) (b027 : (List Int)) (b028 : (List Int)) (b029 : Int) (b030 : Int) (b031 : (List Int)) (b032 : Int) (b033 : Int) (b034 : Int) : Option (Int × Unit) := res spigotref18_Check.c (atJoin spigotref18_Check.b [1, 1, 1, 1, 0, 1, 0, 0, 1, 0, 0, 1]) (spigotref18_Check.S6 i b0 b02 b03 b04 b05 b06 b07 b08 b09 b010 b011 b012 b013 b014 b015 b016 b017 b018 b019 b020 b021 b022 b023 b024 b025 b026 b027 b028 b029 b030 b031 b032 b033 b034)
theorem spigotref18_Check.spec : FnSpec Try.prog globs 42 spigotref18_Check.Fn := spec_of (E := spigotref18_Check.E) (envOk_at tabOk eqOk primsOk (.cons spigotref18_Limited.spec <| .cons spigotref03_Check.spec <| .cons spigotref16_Check.spec <| .cons spigotref18_alike.spec <| .nil)) mixOk Try.func42 (by kernel_rfl)
theorem spigotref18_Check.L1_eq (b0 : Int) (b02 : (List t0.den)) (b03 : Int) (b04 : Int) (b05 : Int) (b06 : Int) (b07 : Int) (b08 : Int) (b09 : Int) (b010 : (List Int)) (b011 : (List t1.den)) (b012 : (List Int)) (b013 : (List Bool)) (b014 : Int) (b015 : (List t3.den)) (b016 : (List Int)) (b017 : (List Int)) (b018 : Int) (b019 : Int) (b020 : Int) (b021 : (List Int)) (b022 : (List t1.den)) (b023 : (List Int)) (b024 : (List Bool)) (b025 : Int) (b026 : (List t3.den)) (b027 : (List Int)) (b028 : (List Int)) (b029 : Int) (b030 : Int) (b031 : (List Int)) (b032 : Int) (b033 : Int) (b034 : Int) : spigotref18_Check.L1 b0 b02 b03 b04 b05 b06 b07 b08 b09 b010 b011 b012 b013 b014 b015 b016 b017 b018 b019 b020 b021 b022 b023 b024 b025 b026 b027 b028 b029 b030 b031 b032 b033 b034 =
  (spigotref16_Check.F (b09, b010, b011, (b012, b013, b014, ()), b015, (b016, b017, b018, b019, ()), ())).bind fun r0 =>
  bif (r0.1 != 0) then
    some (8, ())
  else
    (spigotref16_Check.F (b020, b021, b022, (b023, b024, b025, ()), b026, (b027, b028, b029, b030, ()), ())).bind fun r1 =>
    bif (r1.1 != 0) then
      some (8, ())
    else
      bif (decide ((0 : Int) ≤ 1 ∧ (1 : Int) < 3)) then
        (spigotref18_alike.F (b09, b010, b011, (b012, b013, b014, ()), b015, (b016, b017, b018, b019, ()), ()) (List.getD b02 (Int.toNat 1) (0, 0, 0, ())) 4294967295).bind fun r2 =>
        bif (!r2.1) then
          some (8, ())
        else
          bif (decide ((0 : Int) ≤ 2 ∧ (2 : Int) < 3)) then
            (spigotref18_alike.F (b020, b021, b022, (b023, b024, b025, ()), b026, (b027, b028, b029, b030, ()), ()) (List.getD b02 (Int.toNat 2) (0, 0, 0, ())) 65535).bind fun r3 =>
            bif (!r3.1) then
              some (8, ())
            else
              spigotref18_Check.L2 b0 b02 b03 b04 b05 b06 b07 b08 b09 b010 b011 b012 b013 b014 b015 b016 b017 b018 b019 b020 b021 b022 b023 b024 b025 b026 b027 b028 b029 b030 b031 b032 b033 b034
          else none
      else none := res_eq (by kernel_rfl)
theorem spigotref18_Check.L2_eq (b0 : Int) (b02 : (List t0.den)) (b03 : Int) (b04 : Int) (b05 : Int) (b06 : Int) (b07 : Int) (b08 : Int) (b09 : Int) (b010 : (List Int)) (b011 : (List t1.den)) (b012 : (List Int)) (b013 : (List Bool)) (b014 : Int) (b015 : (List t3.den)) (b016 : (List Int)) (b017 : (List Int)) (b018 : Int) (b019 : Int) (b020 : Int) (b021 : (List Int)) (b022 : (List t1.den)) (b023 : (List Int)) (b024 : (List Bool)) (b025 : Int) (b026 : (List t3.den)) (b027 : (List Int)) (b028 : (List Int)) (b029 : Int) (b030 : Int) (b031 : (List Int)) (b032 : Int) (b033 : Int) (b034 : Int) : spigotref18_Check.L2 b0 b02 b03 b04 b05 b06 b07 b08 b09 b010 b011 b012 b013 b014 b015 b016 b017 b018 b019 b020 b021 b022 b023 b024 b025 b026 b027 b028 b029 b030 b031 b032 b033 b034 =
  bif (decide ((((List.length b031 : Int)) : Int) > 8)) then
    some (8, ())
  else
    spigotref18_Check.L3 b0 b02 b03 b04 b05 b06 b07 b08 b09 b010 b011 b012 b013 b014 b015 b016 b017 b018 b019 b020 b021 b022 b023 b024 b025 b026 b027 b028 b029 b030 b031 b032 b033 b034 := res_eq (by kernel_rfl)
theorem spigotref18_Check.L3_eq (b0 : Int) (b02 : (List t0.den)) (b03 : Int) (b04 : Int) (b05 : Int) (b06 : Int) (b07 : Int) (b08 : Int) (b09 : Int) (b010 : (List Int)) (b011 : (List t1.den)) (b012 : (List Int)) (b013 : (List Bool)) (b014 : Int) (b015 : (List t3.den)) (b016 : (List Int)) (b017 : (List Int)) (b018 : Int) (b019 : Int) (b020 : Int) (b021 : (List Int)) (b022 : (List t1.den)) (b023 : (List Int)) (b024 : (List Bool)) (b025 : Int) (b026 : (List t3.den)) (b027 : (List Int)) (b028 : (List Int)) (b029 : Int) (b030 : Int) (b031 : (List Int)) (b032 : Int) (b033 : Int) (b034 : Int) : spigotref18_Check.L3 b0 b02 b03 b04 b05 b06 b07 b08 b09 b010 b011 b012 b013 b014 b015 b016 b017 b018 b019 b020 b021 b022 b023 b024 b025 b026 b027 b028 b029 b030 b031 b032 b033 b034 =
  spigotref18_Check.L4 1 b0 b02 b03 b04 b05 b06 b07 b08 b09 b010 b011 b012 b013 b014 b015 b016 b017 b018 b019 b020 b021 b022 b023 b024 b025 b026 b027 b028 b029 b030 b031 b032 b033 b034 := res_eq (by kernel_rfl)
theorem spigotref18_Check.L4_eq (i : Int) (b0 : Int) (b02 : (List t0.den)) (b03 : Int) (b04 : Int) (b05 : Int) (b06 : Int) (b07 : Int) (b08 : Int) (b09 : Int) (b010 : (List Int)) (b011 : (List t1.den)) (b012 : (List Int)) (b013 : (List Bool)) (b014 : Int) (b015 : (List t3.den)) (b016 : (List Int)) (b017 : (List Int)) (b018 : Int) (b019 : Int) (b020 : Int) (b021 : (List Int)) (b022 : (List t1.den)) (b023 : (List Int)) (b024 : (List Bool)) (b025 : Int) (b026 : (List t3.den)) (b027 : (List Int)) (b028 : (List Int)) (b029 : Int) (b030 : Int) (b031 : (List Int)) (b032 : Int) (b033 : Int) (b034 : Int) : spigotref18_Check.L4 i b0 b02 b03 b04 b05 b06 b07 b08 b09 b010 b011 b012 b013 b014 b015 b016 b017 b018 b019 b020 b021 b022 b023 b024 b025 b026 b027 b028 b029 b030 b031 b032 b033 b034 =
  bif (decide ((i : Int) < ((List.length b031 : Int)))) then
    spigotref18_Check.L5 i b0 b02 b03 b04 b05 b06 b07 b08 b09 b010 b011 b012 b013 b014 b015 b016 b017 b018 b019 b020 b021 b022 b023 b024 b025 b026 b027 b028 b029 b030 b031 b032 b033 b034
  else
    some (0, ()) := res_eq (by kernel_rfl)
theorem spigotref18_Check.L5_eq (i : Int) (b0 : Int) (b02 : (List t0.den)) (b03 : Int) (b04 : Int) (b05 : Int) (b06 : Int) (b07 : Int) (b08 : Int) (b09 : Int) (b010 : (List Int)) (b011 : (List t1.den)) (b012 : (List Int)) (b013 : (List Bool)) (b014 : Int) (b015 : (List t3.den)) (b016 : (List Int)) (b017 : (List Int)) (b018 : Int) (b019 : Int) (b020 : Int) (b021 : (List Int)) (b022 : (List t1.den)) (b023 : (List Int)) (b024 : (List Bool)) (b025 : Int) (b026 : (List t3.den)) (b027 : (List Int)) (b028 : (List Int)) (b029 : Int) (b030 : Int) (b031 : (List Int)) (b032 : Int) (b033 : Int) (b034 : Int) : spigotref18_Check.L5 i b0 b02 b03 b04 b05 b06 b07 b08 b09 b010 b011 b012 b013 b014 b015 b016 b017 b018 b019 b020 b021 b022 b023 b024 b025 b026 b027 b028 b029 b030 b031 b032 b033 b034 =
  bif (decide ((0 : Int) ≤ (IntKind.wrap .i64 (i - 1)) ∧ ((IntKind.wrap .i64 (i - 1)) : Int) < ((List.length b031 : Int)))) then
    bif (decide ((0 : Int) ≤ i ∧ (i : Int) < ((List.length b031 : Int)))) then
      bif (decide (((List.getD b031 (Int.toNat (IntKind.wrap .i64 (i - 1))) 0) : Int) ≥ (List.getD b031 (Int.toNat i) 0))) then
        some (8, ())
      else
        spigotref18_Check.L6 i b0 b02 b03 b04 b05 b06 b07 b08 b09 b010 b011 b012 b013 b014 b015 b016 b017 b018 b019 b020 b021 b022 b023 b024 b025 b026 b027 b028 b029 b030 b031 b032 b033 b034
    else none
  else none := res_eq (by kernel_rfl)
theorem spigotref18_Check.L6_eq (i : Int) (b0 : Int) (b02 : (List t0.den)) (b03 : Int) (b04 : Int) (b05 : Int) (b06 : Int) (b07 : Int) (b08 : Int) (b09 : Int) (b010 : (List Int)) (b011 : (List t1.den)) (b012 : (List Int)) (b013 : (List Bool)) (b014 : Int) (b015 : (List t3.den)) (b016 : (List Int)) (b017 : (List Int)) (b018 : Int) (b019 : Int) (b020 : Int) (b021 : (List Int)) (b022 : (List t1.den)) (b023 : (List Int)) (b024 : (List Bool)) (b025 : Int) (b026 : (List t3.den)) (b027 : (List Int)) (b028 : (List Int)) (b029 : Int) (b030 : Int) (b031 : (List Int)) (b032 : Int) (b033 : Int) (b034 : Int) : spigotref18_Check.L6 i b0 b02 b03 b04 b05 b06 b07 b08 b09 b010 b011 b012 b013 b014 b015 b016 b017 b018 b019 b020 b021 b022 b023 b024 b025 b026 b027 b028 b029 b030 b031 b032 b033 b034 =
  spigotref18_Check.L4 (IntKind.wrap .i64 (i + 1)) b0 b02 b03 b04 b05 b06 b07 b08 b09 b010 b011 b012 b013 b014 b015 b016 b017 b018 b019 b020 b021 b022 b023 b024 b025 b026 b027 b028 b029 b030 b031 b032 b033 b034 := res_eq (by kernel_rfl)
theorem spigotref18_Check.F_eq (p : t7.den) : spigotref18_Check.F p =
  bif (decide ((p.1 : Int) ≥ 16)) then
    some (8, ())
  else
    (spigotref18_Limited.F p.2.1).bind fun r0 =>
    bif (!r0.1) then
      some (8, ())
    else
      (spigotref03_Check.F p.2.2.1).bind fun r1 =>
      bif (r1.1 != 0) then
        some (8, ())
      else
        bif (decide ((0 : Int) ≤ 0 ∧ (0 : Int) < 3)) then
          bif (!(Ty.beq t0 p.2.2.1.1 (List.getD p.2.1 (Int.toNat 0) (0, 0, 0, ())))) then
            some (8, ())
          else
            spigotref18_Check.L1 p.1 p.2.1 p.2.2.1.1.1 p.2.2.1.1.2.1 p.2.2.1.1.2.2.1 p.2.2.1.2.1 p.2.2.1.2.2.1 p.2.2.1.2.2.2.1 p.2.2.2.1.1 p.2.2.2.1.2.1 p.2.2.2.1.2.2.1 p.2.2.2.1.2.2.2.1.1 p.2.2.2.1.2.2.2.1.2.1 p.2.2.2.1.2.2.2.1.2.2.1 p.2.2.2.1.2.2.2.2.1 p.2.2.2.1.2.2.2.2.2.1.1 p.2.2.2.1.2.2.2.2.2.1.2.1 p.2.2.2.1.2.2.2.2.2.1.2.2.1 p.2.2.2.1.2.2.2.2.2.1.2.2.2.1 p.2.2.2.2.1.1 p.2.2.2.2.1.2.1 p.2.2.2.2.1.2.2.1 p.2.2.2.2.1.2.2.2.1.1 p.2.2.2.2.1.2.2.2.1.2.1 p.2.2.2.2.1.2.2.2.1.2.2.1 p.2.2.2.2.1.2.2.2.2.1 p.2.2.2.2.1.2.2.2.2.2.1.1 p.2.2.2.2.1.2.2.2.2.2.1.2.1 p.2.2.2.2.1.2.2.2.2.2.1.2.2.1 p.2.2.2.2.1.2.2.2.2.2.1.2.2.2.1 p.2.2.2.2.2.1 p.2.2.2.2.2.2.1.1 p.2.2.2.2.2.2.1.2.1 p.2.2.2.2.2.2.1.2.2.1
        else none := by kernel_rfl
/-! ### spigot/spigotref19.Check (27) -/
noncomputable def spigotref19_Check.sg : Sig := ⟨[.val (.slice t7)], [((.int .i64), true)]⟩
noncomputable def spigotref19_Check.E : Env := ⟨tl, fun i => look i [(42, spigotref18_Check.Fn)], [], eqs, globs, prims⟩
noncomputable def spigotref19_Check.c := cxOf spigotref19_Check.E spigotref19_Check.sg Try.f27
noncomputable def spigotref19_Check.b := body Try.f27
noncomputable def spigotref19_Check.Fn : Fun := fnOf spigotref19_Check.E spigotref19_Check.sg Try.f27
noncomputable def spigotref19_Check.F (l : (List t7.den)) : Option (Int × Unit) := spigotref19_Check.Fn.F (l, ())
noncomputable def spigotref19_Check.S1 (l : (List t7.den)) : St := ⟨[(0, (.v (.slice t7) l))], [], 0, []⟩
noncomputable def spigotref19_Check.L1 (l : (List t7.den)) : Option (Int × Unit) := res spigotref19_Check.c (atJoin spigotref19_Check.b [1, 0, 1]) (spigotref19_Check.S1 l)
noncomputable def spigotref19_Check.S2 (l : (List t7.den)) (i : Int) : St := ⟨[(0, (.v (.slice t7) l)), (3, (.v (.int .i64) i))], [], 0, []⟩
noncomputable def spigotref19_Check.L2 (l : (List t7.den)) (i : Int) : Option (Int × Unit) := res spigotref19_Check.c (atLoop spigotref19_Check.b [1, 1, 0, 1, 0]) (spigotref19_Check.S2 l i)
noncomputable def spigotref19_Check.S3 (l : (List t7.den)) (i : Int) : St := ⟨[(0, (.v (.slice t7) l)), (3, (.v (.int .i64) i))], [], 0, []⟩
noncomputable def spigotref19_Check.L3 (l : (List t7.den)) (i : Int) : Option (Int × Unit) := res spigotref19_Check.c (atJoin spigotref19_Check.b [1, 1, 0, 1, 0, 0, 0, 1]) (spigotref19_Check.S3 l i)
noncomputable def spigotref19_Check.S4 (l : (List t7.den)) (i : Int) : St := ⟨[(0, (.v (.slice t7) l)), (3, (.v (.int .i64) i))], [], 0, []⟩
noncomputable def spigotref19_Check.L4 (l : (List t7.den)) (i : Int) : Option (Int × Unit) := res spigotref19_Check.c (atJoin spigotref19_Check.b [1, 1, 0, 1, 0, 0, 1, 0, 0, 1]) (spigotref19_Check.S4 l i)
theorem spigotref19_Check.spec : FnSpec Try.prog globs 27 spigotref19_Check.Fn := spec_of (E := spigotref19_Check.E) (envOk_at tabOk eqOk primsOk (.cons spigotref18_Check.spec <| .nil)) mixOk Try.func27 (by kernel_rfl)
theorem spigotref19_Check.L1_eq (l : (List t7.den)) : spigotref19_Check.L1 l =
  spigotref19_Check.L2 l 0 := res_eq (by kernel_rfl)
theorem spigotref19_Check.L2_eq (l : (List t7.den)) (i : Int) : spigotref19_Check.L2 l i =
  bif (decide ((i : Int) < ((List.length l : Int)))) then
    spigotref19_Check.L3 l i
  else
    some (0, ()) := res_eq (by kernel_rfl)
theorem spigotref19_Check.L3_eq (l : (List t7.den)) (i : Int) : spigotref19_Check.L3 l i =
  bif (decide ((0 : Int) ≤ i ∧ (i : Int) < ((List.length l : Int)))) then
    (spigotref18_Check.F (List.getD l (Int.toNat i) (0, (List.replicate 3 (0, 0, 0, ())), ((0, 0, 0, ()), 0, 0, 0, ()), (0, ([] : List Int), ([] : List t1.den), (([] : List Int), ([] : List Bool), 0, ()), ([] : List t3.den), (([] : List Int), ([] : List Int), 0, 0, ()), ()), (0, ([] : List Int), ([] : List t1.den), (([] : List Int), ([] : List Bool), 0, ()), ([] : List t3.den), (([] : List Int), ([] : List Int), 0, 0, ()), ()), ([] : List Int), (0, 0, 0, ()), ()))).bind fun r0 =>
    bif (r0.1 != 0) then
      some (8, ())
    else
      bif (decide ((i : Int) > 0)) then
        bif (decide ((0 : Int) ≤ i ∧ (i : Int) < ((List.length l : Int)))) then
          bif (decide ((0 : Int) ≤ (IntKind.wrap .i64 (i - 1)) ∧ ((IntKind.wrap .i64 (i - 1)) : Int) < ((List.length l : Int)))) then
            bif (decide ((((List.getD l (Int.toNat i) (0, (List.replicate 3 (0, 0, 0, ())), ((0, 0, 0, ()), 0, 0, 0, ()), (0, ([] : List Int), ([] : List t1.den), (([] : List Int), ([] : List Bool), 0, ()), ([] : List t3.den), (([] : List Int), ([] : List Int), 0, 0, ()), ()), (0, ([] : List Int), ([] : List t1.den), (([] : List Int), ([] : List Bool), 0, ()), ([] : List t3.den), (([] : List Int), ([] : List Int), 0, 0, ()), ()), ([] : List Int), (0, 0, 0, ()), ())).1) : Int) ≤ ((List.getD l (Int.toNat (IntKind.wrap .i64 (i - 1))) (0, (List.replicate 3 (0, 0, 0, ())), ((0, 0, 0, ()), 0, 0, 0, ()), (0, ([] : List Int), ([] : List t1.den), (([] : List Int), ([] : List Bool), 0, ()), ([] : List t3.den), (([] : List Int), ([] : List Int), 0, 0, ()), ()), (0, ([] : List Int), ([] : List t1.den), (([] : List Int), ([] : List Bool), 0, ()), ([] : List t3.den), (([] : List Int), ([] : List Int), 0, 0, ()), ()), ([] : List Int), (0, 0, 0, ()), ())).1))) then
              some (8, ())
            else
              spigotref19_Check.L4 l i
          else none
        else none
      else
        spigotref19_Check.L4 l i
  else none := res_eq (by kernel_rfl)
theorem spigotref19_Check.L4_eq (l : (List t7.den)) (i : Int) : spigotref19_Check.L4 l i =
  spigotref19_Check.L2 l (IntKind.wrap .i64 (i + 1)) := res_eq (by kernel_rfl)
theorem spigotref19_Check.F_eq (l : (List t7.den)) : spigotref19_Check.F l =
  bif (decide ((((List.length l : Int)) : Int) > 8)) then
    some (4, ())
  else
    spigotref19_Check.L1 l := by kernel_rfl
/-! ### spigot/spigotref20.late (28) -/
noncomputable def spigotref20_late.sg : Sig := ⟨[.val (.slice t1), .val (.int .u64)], [(.bool, true)]⟩
noncomputable def spigotref20_late.E : Env := ⟨tl, fun i => look i [], [], eqs, globs, prims⟩
noncomputable def spigotref20_late.c := cxOf spigotref20_late.E spigotref20_late.sg Try.f28
noncomputable def spigotref20_late.b := body Try.f28
noncomputable def spigotref20_late.Fn : Fun := fnOf spigotref20_late.E spigotref20_late.sg Try.f28
noncomputable def spigotref20_late.F (l : (List t1.den)) (tick : Int) : Option (Bool × Unit) := spigotref20_late.Fn.F (l, tick, ())
noncomputable def spigotref20_late.S1 (l : (List t1.den)) (tick : Int) (i : Int) : St := ⟨[(0, (.v (.slice t1) l)), (1, (.v (.int .u64) tick)), (5, (.v (.int .i64) i))], [], 0, []⟩
noncomputable def spigotref20_late.L1 (l : (List t1.den)) (tick : Int) (i : Int) : Option (Bool × Unit) := res spigotref20_late.c (atLoop spigotref20_late.b [1, 0, 1, 0]) (spigotref20_late.S1 l tick i)
noncomputable def spigotref20_late.S2 (l : (List t1.den)) (tick : Int) (i : Int) : St := ⟨[(0, (.v (.slice t1) l)), (1, (.v (.int .u64) tick)), (5, (.v (.int .i64) i))], [], 0, []⟩
noncomputable def spigotref20_late.L2 (l : (List t1.den)) (tick : Int) (i : Int) : Option (Bool × Unit) := res spigotref20_late.c (atJoin spigotref20_late.b [1, 0, 1, 0, 0, 0, 1]) (spigotref20_late.S2 l tick i)
noncomputable def spigotref20_late.S3 (l : (List t1.den)) (tick : Int) (i : Int) : St := ⟨[(0, (.v (.slice t1) l)), (1, (.v (.int .u64) tick)), (5, (.v (.int .i64) i))], [], 0, []⟩
noncomputable def spigotref20_late.L3 (l : (List t1.den)) (tick : Int) (i : Int) : Option (Bool × Unit) := res spigotref20_late.c (atJoin spigotref20_late.b [1, 0, 1, 0, 0, 1, 0, 0, 1]) (spigotref20_late.S3 l tick i)
theorem spigotref20_late.spec : FnSpec Try.prog globs 28 spigotref20_late.Fn := spec_of (E := spigotref20_late.E) (envOk_at tabOk eqOk primsOk (.nil)) mixOk Try.func28 (by kernel_rfl)
theorem spigotref20_late.L1_eq (l : (List t1.den)) (tick : Int) (i : Int) : spigotref20_late.L1 l tick i =
  bif (decide ((i : Int) < ((List.length l : Int)))) then
    spigotref20_late.L2 l tick i
  else
    some (false, ()) := res_eq (by kernel_rfl)
theorem spigotref20_late.L2_eq (l : (List t1.den)) (tick : Int) (i : Int) : spigotref20_late.L2 l tick i =
  bif (decide ((0 : Int) ≤ i ∧ (i : Int) < ((List.length l : Int)))) then
    bif (decide (((((((List.getD l (Int.toNat i) ((0, 0, 0, ()), 0, 0, 0, ())).2).2).2).1) : Int) > tick)) then
      some (true, ())
    else
      spigotref20_late.L3 l tick i
  else none := res_eq (by kernel_rfl)
theorem spigotref20_late.L3_eq (l : (List t1.den)) (tick : Int) (i : Int) : spigotref20_late.L3 l tick i =
  spigotref20_late.L1 l tick (IntKind.wrap .i64 (i + 1)) := res_eq (by kernel_rfl)
theorem spigotref20_late.F_eq (l : (List t1.den)) (tick : Int) : spigotref20_late.F l tick =
  spigotref20_late.L1 l tick 0 := by kernel_rfl
/-! ### spigot/spigotref20.Valid (17) -/
noncomputable def spigotref20_Valid.sg : Sig := ⟨[.val t8], [((.int .i64), true)]⟩
noncomputable def spigotref20_Valid.E : Env := ⟨tl, fun i => look i [(27, spigotref19_Check.Fn), (28, spigotref20_late.Fn)], [], eqs, globs, prims⟩
noncomputable def spigotref20_Valid.c := cxOf spigotref20_Valid.E spigotref20_Valid.sg Try.f17
noncomputable def spigotref20_Valid.b := body Try.f17
noncomputable def spigotref20_Valid.Fn : Fun := fnOf spigotref20_Valid.E spigotref20_Valid.sg Try.f17
noncomputable def spigotref20_Valid.F (s : t8.den) : Option (Int × Unit) := spigotref20_Valid.Fn.F (s, ())
noncomputable def spigotref20_Valid.S1 (b0 : Int) (b02 : (List Int)) (b03 : (List Int)) (b04 : (List t7.den)) : St := ⟨[(1, (.ptr 0 []))], [(0, some (.box (.agg [(.v (.int .u64) b0), (.v (.arr 32 (.int .u8)) b02), (.v (.arr 16 (.int .u32)) b03), (.v (.slice t7) b04)])))], 1, []⟩
noncomputable def spigotref20_Valid.L1 (b0 : Int) (b02 : (List Int)) (b03 : (List Int)) (b04 : (List t7.den)) : Option (Int × Unit) := res spigotref20_Valid.c (atJoin spigotref20_Valid.b [1, 0, 1]) (spigotref20_Valid.S1 b0 b02 b03 b04)
noncomputable def spigotref20_Valid.S2 (i : Int) (b0 : Int) (b02 : (List Int)) (b03 : (List Int)) (b04 : (List t7.den)) : St := ⟨[(1, (.ptr 0 [])), (3, (.v (.int .i64) i))], [(0, some (.box (.agg [(.v (.int .u64) b0), (.v (.arr 32 (.int .u8)) b02), (.v (.arr 16 (.int .u32)) b03), (.v (.slice t7) b04)])))], 1, []⟩
noncomputable def spigotref20_Valid.L2 (i : Int) (b0 : Int) (b02 : (List Int)) (b03 : (List Int)) (b04 : (List t7.den)) : Option (Int × Unit) := res spigotref20_Valid.c (atLoop spigotref20_Valid.b [1, 1, 0, 1, 0]) (spigotref20_Valid.S2 i b0 b02 b03 b04)
noncomputable def spigotref20_Valid.S3 (i : Int) (b0 : Int) (b02 : (List Int)) (b03 : (List Int)) (b04 : (List t7.den)) : St := ⟨[(1, (.ptr 0 [])), (3, (.v (.int .i64) i))], [(0, some (.box (.agg [(.v (.int .u64) b0), (.v (.arr 32 (.int .u8)) b02), (.v (.arr 16 (.int .u32)) b03), (.v (.slice t7) b04)])))], 1, []⟩
noncomputable def spigotref20_Valid.L3 (i : Int) (b0 : Int) (b02 : (List Int)) (b03 : (List Int)) (b04 : (List t7.den)) : Option (Int × Unit) := res spigotref20_Valid.c (atJoin spigotref20_Valid.b [1, 1, 0, 1, 0, 0, 0, 1]) (spigotref20_Valid.S3 i b0 b02 b03 b04)
noncomputable def spigotref20_Valid.S4 (i : Int) (b0 : Int) (b02 : (List Int)) (b03 : (List Int)) (b04 : (List t7.den)) : St := ⟨[(1, (.ptr 0 [])), (4, (.v (.int .i64) i))], [(0, some (.box (.agg [(.v (.int .u64) b0), (.v (.arr 32 (.int .u8)) b02), (.v (.arr 16 (.int .u32)) b03), (.v (.slice t7) b04)])))], 1, []⟩
noncomputable def spigotref20_Valid.L4 (i : Int) (b0 : Int) (b02 : (List Int)) (b03 : (List Int)) (b04 : (List t7.den)) : Option (Int × Unit) := res spigotref20_Valid.c (atLoop spigotref20_Valid.b [1, 1, 1, 0, 1, 0]) (spigotref20_Valid.S4 i b0 b02 b03 b04)
noncomputable def spigotref20_Valid.S5 (i : Int) (b0 : Int) (b02 : (List Int)) (b03 : (List Int)) (b04 : (List t7.den)) : St := ⟨[(1, (.ptr 0 [])), (4, (.v (.int .i64) i))], [(0, some (.box (.agg [(.v (.int .u64) b0), (.v (.arr 32 (.int .u8)) b02), (.v (.arr 16 (.int .u32)) b03), (.v (.slice t7) b04)])))], 1, []⟩
noncomputable def spigotref20_Valid.L5 (i : Int) (b0 : Int) (b02 : (List Int)) (b03 : (List Int)) (b04 : (List t7.den)) : Option (Int × Unit) := res spigotref20_Valid.c (atJoin spigotref20_Valid.b [1, 1, 1, 0, 1, 0, 0, 0, 1]) (spigotref20_Valid.S5 i b0 b02 b03 b04)
noncomputable def spigotref20_Valid.S6 (i : Int) (b0 : Int) (b02 : (List Int)) (b03 : (List Int)) (b04 : (List t7.den)) : St := ⟨[(1, (.ptr 0 [])), (4, (.v (.int .i64) i))], [(0, some (.box (.agg [(.v (.int .u64) b0), (.v (.arr 32 (.int .u8)) b02), (.v (.arr 16 (.int .u32)) b03), (.v (.slice t7) b04)])))], 1, []⟩
noncomputable def spigotref20_Valid.L6 (i : Int) (b0 : Int) (b02 : (List Int)) (b03 : (List Int)) (b04 : (List t7.den)) : Option (Int × Unit) := res spigotref20_Valid.c (atJoin spigotref20_Valid.b [1, 1, 1, 0, 1, 0, 0, 1, 0, 0, 1, 1]) (spigotref20_Valid.S6 i b0 b02 b03 b04)
noncomputable def spigotref20_Valid.S7 (i : Int) (b0 : Int) (b02 : (List Int)) (b03 : (List Int)) (b04 : (List t7.den)) : St := ⟨[(1, (.ptr 0 [])), (3, (.v (.int .i64) i))], [(0, some (.box (.agg [(.v (.int .u64) b0), (.v (.arr 32 (.int .u8)) b02), (.v (.arr 16 (.int .u32)) b03), (.v (.slice t7) b04)])))], 1, []⟩
noncomputable def spigotref20_Valid.L7 (i : Int) (b0 : Int) (b02 : (List Int)) (b03 : (List Int)) (b04 : (List t7.den)) : Option (Int × Unit) := res spigotref20_Valid.c (atJoin spigotref20_Valid.b [1, 1, 0, 1, 0, 0, 1, 0, 0, 1]) (spigotref20_Valid.S7 i b0 b02 b03 b04)
theorem spigotref20_Valid.spec : FnSpec Try.prog globs 17 spigotref20_Valid.Fn := spec_of (E := spigotref20_Valid.E) (envOk_at tabOk eqOk primsOk (.cons spigotref19_Check.spec <| .cons spigotref20_late.spec <| .nil)) mixOk Try.func17 (by kernel_rfl)
theorem spigotref20_Valid.L1_eq (b0 : Int) (b02 : (List Int)) (b03 : (List Int)) (b04 : (List t7.den)) : spigotref20_Valid.L1 b0 b02 b03 b04 =
  spigotref20_Valid.L2 0 b0 b02 b03 b04 := res_eq (by kernel_rfl)
theorem spigotref20_Valid.L2_eq (i : Int) (b0 : Int) (b02 : (List Int)) (b03 : (List Int)) (b04 : (List t7.den)) : spigotref20_Valid.L2 i b0 b02 b03 b04 =
  bif (decide ((i : Int) < 16)) then
    spigotref20_Valid.L3 i b0 b02 b03 b04
  else
    spigotref20_Valid.L4 0 b0 b02 b03 b04 := res_eq (by kernel_rfl)
theorem spigotref20_Valid.L3_eq (i : Int) (b0 : Int) (b02 : (List Int)) (b03 : (List Int)) (b04 : (List t7.den)) : spigotref20_Valid.L3 i b0 b02 b03 b04 =
  bif (decide ((0 : Int) ≤ i ∧ (i : Int) < 16)) then
    bif (decide (((List.getD b03 (Int.toNat i) 0) : Int) > 1000000)) then
      some (8, ())
    else
      spigotref20_Valid.L7 i b0 b02 b03 b04
  else none := res_eq (by kernel_rfl)
theorem spigotref20_Valid.L4_eq (i : Int) (b0 : Int) (b02 : (List Int)) (b03 : (List Int)) (b04 : (List t7.den)) : spigotref20_Valid.L4 i b0 b02 b03 b04 =
  bif (decide ((i : Int) < ((List.length b04 : Int)))) then
    spigotref20_Valid.L5 i b0 b02 b03 b04
  else
    some (0, ()) := res_eq (by kernel_rfl)
theorem spigotref20_Valid.L5_eq (i : Int) (b0 : Int) (b02 : (List Int)) (b03 : (List Int)) (b04 : (List t7.den)) : spigotref20_Valid.L5 i b0 b02 b03 b04 =
  bif (decide ((0 : Int) ≤ i ∧ (i : Int) < ((List.length b04 : Int)))) then
    bif (decide ((((((((((List.getD b04 (Int.toNat i) (0, (List.replicate 3 (0, 0, 0, ())), ((0, 0, 0, ()), 0, 0, 0, ()), (0, ([] : List Int), ([] : List t1.den), (([] : List Int), ([] : List Bool), 0, ()), ([] : List t3.den), (([] : List Int), ([] : List Int), 0, 0, ()), ()), (0, ([] : List Int), ([] : List t1.den), (([] : List Int), ([] : List Bool), 0, ()), ([] : List t3.den), (([] : List Int), ([] : List Int), 0, 0, ()), ()), ([] : List Int), (0, 0, 0, ()), ())).2).2).1).2).2).2).1) : Int) > b0)) then
      some (8, ())
    else
      (spigotref20_late.F ((((((((List.getD b04 (Int.toNat i) (0, (List.replicate 3 (0, 0, 0, ())), ((0, 0, 0, ()), 0, 0, 0, ()), (0, ([] : List Int), ([] : List t1.den), (([] : List Int), ([] : List Bool), 0, ()), ([] : List t3.den), (([] : List Int), ([] : List Int), 0, 0, ()), ()), (0, ([] : List Int), ([] : List t1.den), (([] : List Int), ([] : List Bool), 0, ()), ([] : List t3.den), (([] : List Int), ([] : List Int), 0, 0, ()), ()), ([] : List Int), (0, 0, 0, ()), ())).2).2).2).1).2).2).1) b0).bind fun r0 =>
      bif r0.1 then
        some (8, ())
      else
        (spigotref20_late.F (((((((((List.getD b04 (Int.toNat i) (0, (List.replicate 3 (0, 0, 0, ())), ((0, 0, 0, ()), 0, 0, 0, ()), (0, ([] : List Int), ([] : List t1.den), (([] : List Int), ([] : List Bool), 0, ()), ([] : List t3.den), (([] : List Int), ([] : List Int), 0, 0, ()), ()), (0, ([] : List Int), ([] : List t1.den), (([] : List Int), ([] : List Bool), 0, ()), ([] : List t3.den), (([] : List Int), ([] : List Int), 0, 0, ()), ()), ([] : List Int), (0, 0, 0, ()), ())).2).2).2).2).1).2).2).1) b0).bind fun r1 =>
        bif r1.1 then
          some (8, ())
        else
          spigotref20_Valid.L6 i b0 b02 b03 b04
  else none := res_eq (by kernel_rfl)
theorem spigotref20_Valid.L6_eq (i : Int) (b0 : Int) (b02 : (List Int)) (b03 : (List Int)) (b04 : (List t7.den)) : spigotref20_Valid.L6 i b0 b02 b03 b04 =
  spigotref20_Valid.L4 (IntKind.wrap .i64 (i + 1)) b0 b02 b03 b04 := res_eq (by kernel_rfl)
theorem spigotref20_Valid.L7_eq (i : Int) (b0 : Int) (b02 : (List Int)) (b03 : (List Int)) (b04 : (List t7.den)) : spigotref20_Valid.L7 i b0 b02 b03 b04 =
  spigotref20_Valid.L2 (IntKind.wrap .i64 (i + 1)) b0 b02 b03 b04 := res_eq (by kernel_rfl)
theorem spigotref20_Valid.F_eq (s : t8.den) : spigotref20_Valid.F s =
  (spigotref19_Check.F s.2.2.2.1).bind fun r0 =>
  bif (r0.1 != 0) then
    some (8, ())
  else
    spigotref20_Valid.L1 s.1 s.2.1 s.2.2.1 s.2.2.2.1 := by kernel_rfl
/-! ### spigot/spigotref33.number (29) -/
noncomputable def spigotref33_number.sg : Sig := ⟨[.eat (.int .u8), .val (.int .u64), .val (.int .i64)], [((.slice (.int .u8)), true)]⟩
noncomputable def spigotref33_number.E : Env := ⟨tl, fun i => look i [], [], eqs, globs, prims⟩
noncomputable def spigotref33_number.c := cxOf spigotref33_number.E spigotref33_number.sg Try.f29
noncomputable def spigotref33_number.b := body Try.f29
noncomputable def spigotref33_number.Fn : Fun := fnOf spigotref33_number.E spigotref33_number.sg Try.f29
noncomputable def spigotref33_number.F (out : (List Int)) (n : Int) (k : Int) : Option ((List Int) × Unit) := spigotref33_number.Fn.F (out, n, k, ())
noncomputable def spigotref33_number.S1 (n : Int) (i : Int) (l0 : (List Int)) : St := ⟨[(0, (.sl 0)), (1, (.v (.int .u64) n)), (7, (.v (.int .i64) i))], [(0, some (.row (.int .u8) l0 false))], 1, []⟩
noncomputable def spigotref33_number.L1 (n : Int) (i : Int) (l0 : (List Int)) : Option ((List Int) × Unit) := res spigotref33_number.c (atLoop spigotref33_number.b [1, 0, 1, 0]) (spigotref33_number.S1 n i l0)
noncomputable def spigotref33_number.S2 (n : Int) (i : Int) (l0 : (List Int)) : St := ⟨[(0, (.sl 0)), (1, (.v (.int .u64) n)), (7, (.v (.int .i64) i))], [(0, some (.row (.int .u8) l0 false))], 1, []⟩
noncomputable def spigotref33_number.L2 (n : Int) (i : Int) (l0 : (List Int)) : Option ((List Int) × Unit) := res spigotref33_number.c (atJoin spigotref33_number.b [1, 0, 1, 0, 0, 0, 1]) (spigotref33_number.S2 n i l0)
theorem spigotref33_number.spec : FnSpec Try.prog globs 29 spigotref33_number.Fn := spec_of (E := spigotref33_number.E) (envOk_at tabOk eqOk primsOk (.nil)) mixOk Try.func29 (by kernel_rfl)
theorem spigotref33_number.L1_eq (n : Int) (i : Int) (l0 : (List Int)) : spigotref33_number.L1 n i l0 =
  bif (decide ((i : Int) ≥ 0)) then
    spigotref33_number.L2 n i l0
  else
    some (l0, ()) := res_eq (by kernel_rfl)
theorem spigotref33_number.L2_eq (n : Int) (i : Int) (l0 : (List Int)) : spigotref33_number.L2 n i l0 =
  bif (decide ((0 : Int) ≤ (IntKind.wrap .i64 (8 * i)))) then
    bif (lim ((List.length l0) + (List.length ([(IntKind.wrap .u8 (Int.fdiv n (2 ^ min (Int.toNat (IntKind.wrap .i64 (8 * i))) (IntKind.bits .u64))))] : List Int))) (.int .u8)) then
      spigotref33_number.L1 n (IntKind.wrap .i64 (i - 1)) (l0 ++ ([(IntKind.wrap .u8 (Int.fdiv n (2 ^ min (Int.toNat (IntKind.wrap .i64 (8 * i))) (IntKind.bits .u64))))] : List Int))
    else none
  else none := res_eq (by kernel_rfl)
theorem spigotref33_number.F_eq (out : (List Int)) (n : Int) (k : Int) : spigotref33_number.F out n k =
  spigotref33_number.L1 n (IntKind.wrap .i64 (k - 1)) out := by kernel_rfl
/-! ### spigot/spigotref33.bucket (43) -/
noncomputable def spigotref33_bucket.sg : Sig := ⟨[.eat (.int .u8), .val t1], [((.slice (.int .u8)), true)]⟩
noncomputable def spigotref33_bucket.E : Env := ⟨tl, fun i => look i [(29, spigotref33_number.Fn)], [], eqs, globs, prims⟩
noncomputable def spigotref33_bucket.c := cxOf spigotref33_bucket.E spigotref33_bucket.sg Try.f43
noncomputable def spigotref33_bucket.b := body Try.f43
noncomputable def spigotref33_bucket.Fn : Fun := fnOf spigotref33_bucket.E spigotref33_bucket.sg Try.f43
noncomputable def spigotref33_bucket.F (out : (List Int)) (b : t1.den) : Option ((List Int) × Unit) := spigotref33_bucket.Fn.F (out, b, ())
theorem spigotref33_bucket.spec : FnSpec Try.prog globs 43 spigotref33_bucket.Fn := spec_of (E := spigotref33_bucket.E) (envOk_at tabOk eqOk primsOk (.cons spigotref33_number.spec <| .nil)) mixOk Try.func43 (by kernel_rfl)
theorem spigotref33_bucket.F_eq (out : (List Int)) (b : t1.den) : spigotref33_bucket.F out b =
  (spigotref33_number.F out (IntKind.wrap .u64 b.2.1) 8).bind fun r0 =>
  (spigotref33_number.F r0.1 (IntKind.wrap .u64 b.2.2.1) 8).bind fun r1 =>
  (spigotref33_number.F r1.1 b.2.2.2.1 8).bind fun r2 =>
  some (r2.1, ()) := by kernel_rfl
/-! ### spigot/spigotref33.held (44) -/
noncomputable def spigotref33_held.sg : Sig := ⟨[.eat (.int .u8), .val (.slice t9)], [((.slice (.int .u8)), true)]⟩
noncomputable def spigotref33_held.E : Env := ⟨tl, fun i => look i [(29, spigotref33_number.Fn), (43, spigotref33_bucket.Fn)], [], eqs, globs, prims⟩
noncomputable def spigotref33_held.c := cxOf spigotref33_held.E spigotref33_held.sg Try.f44
noncomputable def spigotref33_held.b := body Try.f44
noncomputable def spigotref33_held.Fn : Fun := fnOf spigotref33_held.E spigotref33_held.sg Try.f44
noncomputable def spigotref33_held.F (out : (List Int)) (l : (List t9.den)) : Option ((List Int) × Unit) := spigotref33_held.Fn.F (out, l, ())
noncomputable def spigotref33_held.S1 (l : (List t9.den)) (i : Int) (l0 : (List Int)) : St := ⟨[(0, (.sl 0)), (1, (.v (.slice t9) l)), (5, (.v (.int .i64) i))], [(0, some (.row (.int .u8) l0 false))], 1, []⟩
noncomputable def spigotref33_held.L1 (l : (List t9.den)) (i : Int) (l0 : (List Int)) : Option ((List Int) × Unit) := res spigotref33_held.c (atLoop spigotref33_held.b [1, 1, 0, 1, 0]) (spigotref33_held.S1 l i l0)
noncomputable def spigotref33_held.S2 (l : (List t9.den)) (i : Int) (l0 : (List Int)) : St := ⟨[(0, (.sl 0)), (1, (.v (.slice t9) l)), (5, (.v (.int .i64) i))], [(0, some (.row (.int .u8) l0 false))], 1, []⟩
noncomputable def spigotref33_held.L2 (l : (List t9.den)) (i : Int) (l0 : (List Int)) : Option ((List Int) × Unit) := res spigotref33_held.c (atJoin spigotref33_held.b [1, 1, 0, 1, 0, 0, 0, 1]) (spigotref33_held.S2 l i l0)
theorem spigotref33_held.spec : FnSpec Try.prog globs 44 spigotref33_held.Fn := spec_of (E := spigotref33_held.E) (envOk_at tabOk eqOk primsOk (.cons spigotref33_number.spec <| .cons spigotref33_bucket.spec <| .nil)) mixOk Try.func44 (by kernel_rfl)
theorem spigotref33_held.L1_eq (l : (List t9.den)) (i : Int) (l0 : (List Int)) : spigotref33_held.L1 l i l0 =
  bif (decide ((i : Int) < ((List.length l : Int)))) then
    spigotref33_held.L2 l i l0
  else
    some (l0, ()) := res_eq (by kernel_rfl)
theorem spigotref33_held.L2_eq (l : (List t9.den)) (i : Int) (l0 : (List Int)) : spigotref33_held.L2 l i l0 =
  bif (decide ((0 : Int) ≤ i ∧ (i : Int) < ((List.length l : Int)))) then
    (spigotref33_number.F l0 (IntKind.wrap .u64 ((List.getD l (Int.toNat i) (0, ((0, 0, 0, ()), 0, 0, 0, ()), ())).1)) 4).bind fun r0 =>
    bif (decide ((0 : Int) ≤ i ∧ (i : Int) < ((List.length l : Int)))) then
      (spigotref33_bucket.F r0.1 (((List.getD l (Int.toNat i) (0, ((0, 0, 0, ()), 0, 0, 0, ()), ())).2).1)).bind fun r1 =>
      spigotref33_held.L1 l (IntKind.wrap .i64 (i + 1)) r1.1
    else none
  else none := res_eq (by kernel_rfl)
theorem spigotref33_held.F_eq (out : (List Int)) (l : (List t9.den)) : spigotref33_held.F out l =
  bif (lim ((List.length out) + (List.length ([(IntKind.wrap .u8 ((List.length l : Int)))] : List Int))) (.int .u8)) then
    spigotref33_held.L1 l 0 (out ++ ([(IntKind.wrap .u8 ((List.length l : Int)))] : List Int))
  else none := by kernel_rfl
/-! ### spigot/spigotref33.account (30) -/
noncomputable def spigotref33_account.sg : Sig := ⟨[.eat (.int .u8), .val t10], [((.slice (.int .u8)), true)]⟩
noncomputable def spigotref33_account.E : Env := ⟨tl, fun i => look i [(29, spigotref33_number.Fn), (43, spigotref33_bucket.Fn), (44, spigotref33_held.Fn)], [], eqs, globs, prims⟩
noncomputable def spigotref33_account.c := cxOf spigotref33_account.E spigotref33_account.sg Try.f30
noncomputable def spigotref33_account.b := body Try.f30
noncomputable def spigotref33_account.Fn : Fun := fnOf spigotref33_account.E spigotref33_account.sg Try.f30
noncomputable def spigotref33_account.F (out : (List Int)) (a : t10.den) : Option ((List Int) × Unit) := spigotref33_account.Fn.F (out, a, ())
noncomputable def spigotref33_account.S1 (i : Int) (l0 : (List Int)) (b1 : Int) (b12 : (List t0.den)) (b13 : (List Int)) (b14 : Int) (b15 : Int) (b16 : Int) (b17 : Int) (b18 : Int) (b19 : Int) (b110 : (List t9.den)) (b111 : (List t9.den)) (b112 : (List Int)) (b113 : Int) (b114 : Int) (b115 : Int) : St := ⟨[(0, (.sl 0)), (3, (.ptr 1 [])), (5, (.v (.int .i64) i))], [(0, some (.row (.int .u8) l0 false)), (1, some (.box (.agg [(.v (.int .u32) b1), (.v (.arr 3 t0) b12), (.v (.arr 2 (.int .i64)) b13), (.agg [(.agg [(.v (.int .i64) b14), (.v (.int .i64) b15), (.v (.int .i64) b16)]), (.v (.int .i64) b17), (.v (.int .i64) b18), (.v (.int .u64) b19)]), (.v (.slice t9) b110), (.v (.slice t9) b111), (.v (.slice (.int .u32)) b112), (.agg [(.v (.int .u64) b113), (.v (.int .u64) b114), (.v (.int .u64) b115)])])))], 2, []⟩
noncomputable def spigotref33_account.L1 (i : Int) (l0 : (List Int)) (b1 : Int) (b12 : (List t0.den)) (b13 : (List Int)) (b14 : Int) (b15 : Int) (b16 : Int) (b17 : Int) (b18 : Int) (b19 : Int) (b110 : (List t9.den)) (b111 : (List t9.den)) (b112 : (List Int)) (b113 : Int) (b114 : Int) (b115 : Int) : Option ((List Int) × Unit) := res spigotref33_account.c (atLoop spigotref33_account.b [1, 1, 0, 1, 0]) (spigotref33_account.S1 i l0 b1 b12 b13 b14 b15 b16 b17 b18 b19 b110 b111 b112 b113 b114 b115)
noncomputable def spigotref33_account.S2 (i : Int) (l0 : (List Int)) (b1 : Int) (b12 : (List t0.den)) (b13 : (List Int)) (b14 : Int) (b15 : Int) (b16 : Int) (b17 : Int) (b18 : Int) (b19 : Int) (b110 : (List t9.den)) (b111 : (List t9.den)) (b112 : (List Int)) (b113 : Int) (b114 : Int) (b115 : Int) : St := ⟨[(0, (.sl 0)), (3, (.ptr 1 [])), (5, (.v (.int .i64) i))], [(0, some (.row (.int .u8) l0 false)), (1, some (.box (.agg [(.v (.int .u32) b1), (.v (.arr 3 t0) b12), (.v (.arr 2 (.int .i64)) b13), (.agg [(.agg [(.v (.int .i64) b14), (.v (.int .i64) b15), (.v (.int .i64) b16)]), (.v (.int .i64) b17), (.v (.int .i64) b18), (.v (.int .u64) b19)]), (.v (.slice t9) b110), (.v (.slice t9) b111), (.v (.slice (.int .u32)) b112), (.agg [(.v (.int .u64) b113), (.v (.int .u64) b114), (.v (.int .u64) b115)])])))], 2, []⟩
noncomputable def spigotref33_account.L2 (i : Int) (l0 : (List Int)) (b1 : Int) (b12 : (List t0.den)) (b13 : (List Int)) (b14 : Int) (b15 : Int) (b16 : Int) (b17 : Int) (b18 : Int) (b19 : Int) (b110 : (List t9.den)) (b111 : (List t9.den)) (b112 : (List Int)) (b113 : Int) (b114 : Int) (b115 : Int) : Option ((List Int) × Unit) := res spigotref33_account.c (atJoin spigotref33_account.b [1, 1, 0, 1, 0, 0, 0, 1]) (spigotref33_account.S2 i l0 b1 b12 b13 b14 b15 b16 b17 b18 b19 b110 b111 b112 b113 b114 b115)
noncomputable def spigotref33_account.S3 (i : Int) (l0 : (List Int)) (b1 : Int) (b12 : (List t0.den)) (b13 : (List Int)) (b14 : Int) (b15 : Int) (b16 : Int) (b17 : Int) (b18 : Int) (b19 : Int) (b110 : (List t9.den)) (b111 : (List t9.den)) (b112 : (List Int)) (b113 : Int) (b114 : Int) (b115 : Int) : St := ⟨[(0, (.sl 0)), (3, (.ptr 1 [])), (6, (.v (.int .i64) i))], [(0, some (.row (.int .u8) l0 false)), (1, some (.box (.agg [(.v (.int .u32) b1), (.v (.arr 3 t0) b12), (.v (.arr 2 (.int .i64)) b13), (.agg [(.agg [(.v (.int .i64) b14), (.v (.int .i64) b15), (.v (.int .i64) b16)]), (.v (.int .i64) b17), (.v (.int .i64) b18), (.v (.int .u64) b19)]), (.v (.slice t9) b110), (.v (.slice t9) b111), (.v (.slice (.int .u32)) b112), (.agg [(.v (.int .u64) b113), (.v (.int .u64) b114), (.v (.int .u64) b115)])])))], 2, []⟩
noncomputable def spigotref33_account.L3 (i : Int) (l0 : (List Int)) (b1 : Int) (b12 : (List t0.den)) (b13 : (List Int)) (b14 : Int) (b15 : Int) (b16 : Int) (b17 : Int) (b18 : Int) (b19 : Int) (b110 : (List t9.den)) (b111 : (List t9.den)) (b112 : (List Int)) (b113 : Int) (b114 : Int) (b115 : Int) : Option ((List Int) × Unit) := res spigotref33_account.c (atLoop spigotref33_account.b [1, 1, 1, 1, 1, 1, 1, 1, 0, 1, 0]) (spigotref33_account.S3 i l0 b1 b12 b13 b14 b15 b16 b17 b18 b19 b110 b111 b112 b113 b114 b115)
noncomputable def spigotref33_account.S4 (i : Int) (l0 : (List Int)) (b1 : Int) (b12 : (List t0.den)) (b13 : (List Int)) (b14 : Int) (b15 : Int) (b16 : Int) (b17 : Int) (b18 : Int) (b19 : Int) (b110 : (List t9.den)) (b111 : (List t9.den)) (b112 : (List Int)) (b113 : Int) (b114 : Int) (b115 : Int) : St := ⟨[(0, (.sl 0)), (3, (.ptr 1 [])), (6, (.v (.int .i64) i))], [(0, some (.row (.int .u8) l0 false)), (1, some (.box (.agg [(.v (.int .u32) b1), (.v (.arr 3 t0) b12), (.v (.arr 2 (.int .i64)) b13), (.agg [(.agg [(.v (.int .i64) b14), (.v (.int .i64) b15), (.v (.int .i64) b16)]), (.v (.int .i64) b17), (.v (.int .i64) b18), (.v (.int .u64) b19)]), (.v (.slice t9) b110), (.v (.slice t9) b111), (.v (.slice (.int .u32)) b112), (.agg [(.v (.int .u64) b113), (.v (.int .u64) b114), (.v (.int .u64) b115)])])))], 2, []⟩
noncomputable def spigotref33_account.L4 (i : Int) (l0 : (List Int)) (b1 : Int) (b12 : (List t0.den)) (b13 : (List Int)) (b14 : Int) (b15 : Int) (b16 : Int) (b17 : Int) (b18 : Int) (b19 : Int) (b110 : (List t9.den)) (b111 : (List t9.den)) (b112 : (List Int)) (b113 : Int) (b114 : Int) (b115 : Int) : Option ((List Int) × Unit) := res spigotref33_account.c (atJoin spigotref33_account.b [1, 1, 1, 1, 1, 1, 1, 1, 0, 1, 0, 0, 0, 1]) (spigotref33_account.S4 i l0 b1 b12 b13 b14 b15 b16 b17 b18 b19 b110 b111 b112 b113 b114 b115)
theorem spigotref33_account.spec : FnSpec Try.prog globs 30 spigotref33_account.Fn := spec_of (E := spigotref33_account.E) (envOk_at tabOk eqOk primsOk (.cons spigotref33_number.spec <| .cons spigotref33_bucket.spec <| .cons spigotref33_held.spec <| .nil)) mixOk Try.func30 (by kernel_rfl)
theorem spigotref33_account.L1_eq (i : Int) (l0 : (List Int)) (b1 : Int) (b12 : (List t0.den)) (b13 : (List Int)) (b14 : Int) (b15 : Int) (b16 : Int) (b17 : Int) (b18 : Int) (b19 : Int) (b110 : (List t9.den)) (b111 : (List t9.den)) (b112 : (List Int)) (b113 : Int) (b114 : Int) (b115 : Int) : spigotref33_account.L1 i l0 b1 b12 b13 b14 b15 b16 b17 b18 b19 b110 b111 b112 b113 b114 b115 =
  bif (decide ((i : Int) < 3)) then
    spigotref33_account.L2 i l0 b1 b12 b13 b14 b15 b16 b17 b18 b19 b110 b111 b112 b113 b114 b115
  else
    bif (decide ((0 : Int) ≤ 0 ∧ (0 : Int) < 2)) then
      bif (decide ((0 : Int) ≤ 1 ∧ (1 : Int) < 2)) then
        bif (lim ((List.length l0) + (List.length ([(IntKind.wrap .u8 (List.getD b13 (Int.toNat 0) 0)), (IntKind.wrap .u8 (List.getD b13 (Int.toNat 1) 0))] : List Int))) (.int .u8)) then
          (spigotref33_bucket.F (l0 ++ ([(IntKind.wrap .u8 (List.getD b13 (Int.toNat 0) 0)), (IntKind.wrap .u8 (List.getD b13 (Int.toNat 1) 0))] : List Int)) ((b14, b15, b16, ()), b17, b18, b19, ())).bind fun r0 =>
          (spigotref33_held.F r0.1 b110).bind fun r1 =>
          (spigotref33_held.F r1.1 b111).bind fun r2 =>
          bif (lim ((List.length r2.1) + (List.length ([(IntKind.wrap .u8 ((List.length b112 : Int)))] : List Int))) (.int .u8)) then
            spigotref33_account.L3 0 (r2.1 ++ ([(IntKind.wrap .u8 ((List.length b112 : Int)))] : List Int)) b1 b12 b13 b14 b15 b16 b17 b18 b19 b110 b111 b112 b113 b114 b115
          else none
        else none
      else none
    else none := res_eq (by kernel_rfl)
theorem spigotref33_account.L2_eq (i : Int) (l0 : (List Int)) (b1 : Int) (b12 : (List t0.den)) (b13 : (List Int)) (b14 : Int) (b15 : Int) (b16 : Int) (b17 : Int) (b18 : Int) (b19 : Int) (b110 : (List t9.den)) (b111 : (List t9.den)) (b112 : (List Int)) (b113 : Int) (b114 : Int) (b115 : Int) : spigotref33_account.L2 i l0 b1 b12 b13 b14 b15 b16 b17 b18 b19 b110 b111 b112 b113 b114 b115 =
  bif (decide ((0 : Int) ≤ i ∧ (i : Int) < 3)) then
    (spigotref33_number.F l0 (IntKind.wrap .u64 ((List.getD b12 (Int.toNat i) (0, 0, 0, ())).1)) 4).bind fun r0 =>
    bif (decide ((0 : Int) ≤ i ∧ (i : Int) < 3)) then
      (spigotref33_number.F r0.1 (IntKind.wrap .u64 (((List.getD b12 (Int.toNat i) (0, 0, 0, ())).2).1)) 4).bind fun r1 =>
      bif (decide ((0 : Int) ≤ i ∧ (i : Int) < 3)) then
        (spigotref33_number.F r1.1 (IntKind.wrap .u64 ((((List.getD b12 (Int.toNat i) (0, 0, 0, ())).2).2).1)) 4).bind fun r2 =>
        spigotref33_account.L1 (IntKind.wrap .i64 (i + 1)) r2.1 b1 b12 b13 b14 b15 b16 b17 b18 b19 b110 b111 b112 b113 b114 b115
      else none
    else none
  else none := res_eq (by kernel_rfl)
theorem spigotref33_account.L3_eq (i : Int) (l0 : (List Int)) (b1 : Int) (b12 : (List t0.den)) (b13 : (List Int)) (b14 : Int) (b15 : Int) (b16 : Int) (b17 : Int) (b18 : Int) (b19 : Int) (b110 : (List t9.den)) (b111 : (List t9.den)) (b112 : (List Int)) (b113 : Int) (b114 : Int) (b115 : Int) : spigotref33_account.L3 i l0 b1 b12 b13 b14 b15 b16 b17 b18 b19 b110 b111 b112 b113 b114 b115 =
  bif (decide ((i : Int) < ((List.length b112 : Int)))) then
    spigotref33_account.L4 i l0 b1 b12 b13 b14 b15 b16 b17 b18 b19 b110 b111 b112 b113 b114 b115
  else
    (spigotref33_number.F l0 b113 8).bind fun r0 =>
    (spigotref33_number.F r0.1 b114 8).bind fun r1 =>
    (spigotref33_number.F r1.1 b115 8).bind fun r2 =>
    some (r2.1, ()) := res_eq (by kernel_rfl)
theorem spigotref33_account.L4_eq (i : Int) (l0 : (List Int)) (b1 : Int) (b12 : (List t0.den)) (b13 : (List Int)) (b14 : Int) (b15 : Int) (b16 : Int) (b17 : Int) (b18 : Int) (b19 : Int) (b110 : (List t9.den)) (b111 : (List t9.den)) (b112 : (List Int)) (b113 : Int) (b114 : Int) (b115 : Int) : spigotref33_account.L4 i l0 b1 b12 b13 b14 b15 b16 b17 b18 b19 b110 b111 b112 b113 b114 b115 =
  bif (decide ((0 : Int) ≤ i ∧ (i : Int) < ((List.length b112 : Int)))) then
    (spigotref33_number.F l0 (IntKind.wrap .u64 (List.getD b112 (Int.toNat i) 0)) 4).bind fun r0 =>
    spigotref33_account.L3 (IntKind.wrap .i64 (i + 1)) r0.1 b1 b12 b13 b14 b15 b16 b17 b18 b19 b110 b111 b112 b113 b114 b115
  else none := res_eq (by kernel_rfl)
theorem spigotref33_account.F_eq (out : (List Int)) (a : t10.den) : spigotref33_account.F out a =
  bif (lim ((List.length out) + (List.length ([(IntKind.wrap .u8 a.1)] : List Int))) (.int .u8)) then
    spigotref33_account.L1 0 (out ++ ([(IntKind.wrap .u8 a.1)] : List Int)) a.1 a.2.1 a.2.2.1 a.2.2.2.1.1.1 a.2.2.2.1.1.2.1 a.2.2.2.1.1.2.2.1 a.2.2.2.1.2.1 a.2.2.2.1.2.2.1 a.2.2.2.1.2.2.2.1 a.2.2.2.2.1 a.2.2.2.2.2.1 a.2.2.2.2.2.2.1 a.2.2.2.2.2.2.2.1.1 a.2.2.2.2.2.2.2.1.2.1 a.2.2.2.2.2.2.2.1.2.2.1
  else none := by kernel_rfl
/-! ### spigot/spigotref33.Bytes (18) -/
noncomputable def spigotref33_Bytes.sg : Sig := ⟨[.val t11], [((.slice (.int .u8)), true)]⟩
noncomputable def spigotref33_Bytes.E : Env := ⟨tl, fun i => look i [(29, spigotref33_number.Fn), (30, spigotref33_account.Fn)], [], eqs, globs, prims⟩
noncomputable def spigotref33_Bytes.c := cxOf spigotref33_Bytes.E spigotref33_Bytes.sg Try.f18
noncomputable def spigotref33_Bytes.b := body Try.f18
noncomputable def spigotref33_Bytes.Fn : Fun := fnOf spigotref33_Bytes.E spigotref33_Bytes.sg Try.f18
noncomputable def spigotref33_Bytes.F (m : t11.den) : Option ((List Int) × Unit) := spigotref33_Bytes.Fn.F (m, ())
noncomputable def spigotref33_Bytes.S1 (i : Int) (b0 : Int) (b02 : (List Int)) (b03 : (List Int)) (b04 : (List t10.den)) (l1 : (List Int)) : St := ⟨[(1, (.ptr 0 [])), (3, (.sl 1)), (4, (.v (.int .i64) i))], [(0, some (.box (.agg [(.v (.int .u64) b0), (.v (.arr 32 (.int .u8)) b02), (.v (.arr 16 (.int .u32)) b03), (.v (.slice t10) b04)]))), (1, some (.row (.int .u8) l1 false))], 2, []⟩
noncomputable def spigotref33_Bytes.L1 (i : Int) (b0 : Int) (b02 : (List Int)) (b03 : (List Int)) (b04 : (List t10.den)) (l1 : (List Int)) : Option ((List Int) × Unit) := res spigotref33_Bytes.c (atLoop spigotref33_Bytes.b [1, 1, 0, 1, 0]) (spigotref33_Bytes.S1 i b0 b02 b03 b04 l1)
noncomputable def spigotref33_Bytes.S2 (i : Int) (b0 : Int) (b02 : (List Int)) (b03 : (List Int)) (b04 : (List t10.den)) (l1 : (List Int)) : St := ⟨[(1, (.ptr 0 [])), (3, (.sl 1)), (4, (.v (.int .i64) i))], [(0, some (.box (.agg [(.v (.int .u64) b0), (.v (.arr 32 (.int .u8)) b02), (.v (.arr 16 (.int .u32)) b03), (.v (.slice t10) b04)]))), (1, some (.row (.int .u8) l1 false))], 2, []⟩
noncomputable def spigotref33_Bytes.L2 (i : Int) (b0 : Int) (b02 : (List Int)) (b03 : (List Int)) (b04 : (List t10.den)) (l1 : (List Int)) : Option ((List Int) × Unit) := res spigotref33_Bytes.c (atJoin spigotref33_Bytes.b [1, 1, 0, 1, 0, 0, 0, 1]) (spigotref33_Bytes.S2 i b0 b02 b03 b04 l1)
noncomputable def spigotref33_Bytes.S3 (i : Int) (b0 : Int) (b02 : (List Int)) (b03 : (List Int)) (b04 : (List t10.den)) (l1 : (List Int)) : St := ⟨[(1, (.ptr 0 [])), (3, (.sl 1)), (5, (.v (.int .i64) i))], [(0, some (.box (.agg [(.v (.int .u64) b0), (.v (.arr 32 (.int .u8)) b02), (.v (.arr 16 (.int .u32)) b03), (.v (.slice t10) b04)]))), (1, some (.row (.int .u8) l1 false))], 2, []⟩
noncomputable def spigotref33_Bytes.L3 (i : Int) (b0 : Int) (b02 : (List Int)) (b03 : (List Int)) (b04 : (List t10.den)) (l1 : (List Int)) : Option ((List Int) × Unit) := res spigotref33_Bytes.c (atLoop spigotref33_Bytes.b [1, 1, 1, 0, 1, 0]) (spigotref33_Bytes.S3 i b0 b02 b03 b04 l1)
noncomputable def spigotref33_Bytes.S4 (i : Int) (b0 : Int) (b02 : (List Int)) (b03 : (List Int)) (b04 : (List t10.den)) (l1 : (List Int)) : St := ⟨[(1, (.ptr 0 [])), (3, (.sl 1)), (5, (.v (.int .i64) i))], [(0, some (.box (.agg [(.v (.int .u64) b0), (.v (.arr 32 (.int .u8)) b02), (.v (.arr 16 (.int .u32)) b03), (.v (.slice t10) b04)]))), (1, some (.row (.int .u8) l1 false))], 2, []⟩
noncomputable def spigotref33_Bytes.L4 (i : Int) (b0 : Int) (b02 : (List Int)) (b03 : (List Int)) (b04 : (List t10.den)) (l1 : (List Int)) : Option ((List Int) × Unit) := res spigotref33_Bytes.c (atJoin spigotref33_Bytes.b [1, 1, 1, 0, 1, 0, 0, 0, 1]) (spigotref33_Bytes.S4 i b0 b02 b03 b04 l1)
noncomputable def spigotref33_Bytes.S5 (i : Int) (b0 : Int) (b02 : (List Int)) (b03 : (List Int)) (b04 : (List t10.den)) (l1 : (List Int)) : St := ⟨[(1, (.ptr 0 [])), (3, (.sl 1)), (6, (.v (.int .i64) i))], [(0, some (.box (.agg [(.v (.int .u64) b0), (.v (.arr 32 (.int .u8)) b02), (.v (.arr 16 (.int .u32)) b03), (.v (.slice t10) b04)]))), (1, some (.row (.int .u8) l1 false))], 2, []⟩
noncomputable def spigotref33_Bytes.L5 (i : Int) (b0 : Int) (b02 : (List Int)) (b03 : (List Int)) (b04 : (List t10.den)) (l1 : (List Int)) : Option ((List Int) × Unit) := res spigotref33_Bytes.c (atLoop spigotref33_Bytes.b [1, 1, 1, 1, 1, 0, 1, 0]) (spigotref33_Bytes.S5 i b0 b02 b03 b04 l1)
noncomputable def spigotref33_Bytes.S6 (i : Int) (b0 : Int) (b02 : (List Int)) (b03 : (List Int)) (b04 : (List t10.den)) (l1 : (List Int)) : St := ⟨[(1, (.ptr 0 [])), (3, (.sl 1)), (6, (.v (.int .i64) i))], [(0, some (.box (.agg [(.v (.int .u64) b0), (.v (.arr 32 (.int .u8)) b02), (.v (.arr 16 (.int .u32)) b03), (.v (.slice t10) b04)]))), (1, some (.row (.int .u8) l1 false))], 2, []⟩
noncomputable def spigotref33_Bytes.L6 (i : Int) (b0 : Int) (b02 : (List Int)) (b03 : (List Int)) (b04 : (List t10.den)) (l1 : (List Int)) : Option ((List Int) × Unit) := res spigotref33_Bytes.c (atJoin spigotref33_Bytes.b [1, 1, 1, 1, 1, 0, 1, 0, 0, 0, 1]) (spigotref33_Bytes.S6 i b0 b02 b03 b04 l1)
theorem spigotref33_Bytes.spec : FnSpec Try.prog globs 18 spigotref33_Bytes.Fn := spec_of (E := spigotref33_Bytes.E) (envOk_at tabOk eqOk primsOk (.cons spigotref33_number.spec <| .cons spigotref33_account.spec <| .nil)) mixOk Try.func18 (by kernel_rfl)
theorem spigotref33_Bytes.L1_eq (i : Int) (b0 : Int) (b02 : (List Int)) (b03 : (List Int)) (b04 : (List t10.den)) (l1 : (List Int)) : spigotref33_Bytes.L1 i b0 b02 b03 b04 l1 =
  bif (decide ((i : Int) < 32)) then
    spigotref33_Bytes.L2 i b0 b02 b03 b04 l1
  else
    spigotref33_Bytes.L3 0 b0 b02 b03 b04 l1 := res_eq (by kernel_rfl)
theorem spigotref33_Bytes.L2_eq (i : Int) (b0 : Int) (b02 : (List Int)) (b03 : (List Int)) (b04 : (List t10.den)) (l1 : (List Int)) : spigotref33_Bytes.L2 i b0 b02 b03 b04 l1 =
  bif (decide ((0 : Int) ≤ i ∧ (i : Int) < 32)) then
    bif (lim ((List.length l1) + (List.length ([(List.getD b02 (Int.toNat i) 0)] : List Int))) (.int .u8)) then
      spigotref33_Bytes.L1 (IntKind.wrap .i64 (i + 1)) b0 b02 b03 b04 (l1 ++ ([(List.getD b02 (Int.toNat i) 0)] : List Int))
    else none
  else none := res_eq (by kernel_rfl)
theorem spigotref33_Bytes.L3_eq (i : Int) (b0 : Int) (b02 : (List Int)) (b03 : (List Int)) (b04 : (List t10.den)) (l1 : (List Int)) : spigotref33_Bytes.L3 i b0 b02 b03 b04 l1 =
  bif (decide ((i : Int) < 16)) then
    spigotref33_Bytes.L4 i b0 b02 b03 b04 l1
  else
    bif (lim ((List.length l1) + (List.length ([(IntKind.wrap .u8 ((List.length b04 : Int)))] : List Int))) (.int .u8)) then
      spigotref33_Bytes.L5 0 b0 b02 b03 b04 (l1 ++ ([(IntKind.wrap .u8 ((List.length b04 : Int)))] : List Int))
    else none := res_eq (by kernel_rfl)
theorem spigotref33_Bytes.L4_eq (i : Int) (b0 : Int) (b02 : (List Int)) (b03 : (List Int)) (b04 : (List t10.den)) (l1 : (List Int)) : spigotref33_Bytes.L4 i b0 b02 b03 b04 l1 =
  bif (decide ((0 : Int) ≤ i ∧ (i : Int) < 16)) then
    (spigotref33_number.F l1 (IntKind.wrap .u64 (List.getD b03 (Int.toNat i) 0)) 4).bind fun r0 =>
    spigotref33_Bytes.L3 (IntKind.wrap .i64 (i + 1)) b0 b02 b03 b04 r0.1
  else none := res_eq (by kernel_rfl)
theorem spigotref33_Bytes.L5_eq (i : Int) (b0 : Int) (b02 : (List Int)) (b03 : (List Int)) (b04 : (List t10.den)) (l1 : (List Int)) : spigotref33_Bytes.L5 i b0 b02 b03 b04 l1 =
  bif (decide ((i : Int) < ((List.length b04 : Int)))) then
    spigotref33_Bytes.L6 i b0 b02 b03 b04 l1
  else
    some (l1, ()) := res_eq (by kernel_rfl)
theorem spigotref33_Bytes.L6_eq (i : Int) (b0 : Int) (b02 : (List Int)) (b03 : (List Int)) (b04 : (List t10.den)) (l1 : (List Int)) : spigotref33_Bytes.L6 i b0 b02 b03 b04 l1 =
  bif (decide ((0 : Int) ≤ i ∧ (i : Int) < ((List.length b04 : Int)))) then
    (spigotref33_account.F l1 (List.getD b04 (Int.toNat i) (0, (List.replicate 3 (0, 0, 0, ())), (List.replicate 2 (0 : Int)), ((0, 0, 0, ()), 0, 0, 0, ()), ([] : List t9.den), ([] : List t9.den), ([] : List Int), (0, 0, 0, ()), ()))).bind fun r0 =>
    spigotref33_Bytes.L5 (IntKind.wrap .i64 (i + 1)) b0 b02 b03 b04 r0.1
  else none := res_eq (by kernel_rfl)
theorem spigotref33_Bytes.F_eq (m : t11.den) : spigotref33_Bytes.F m =
  (spigotref33_number.F ([] : List Int) m.1 8).bind fun r0 =>
  spigotref33_Bytes.L1 0 m.1 m.2.1 m.2.2.1 m.2.2.2.1 r0.1 := by kernel_rfl
/-! ### spigot/spigotref16.Listed (61) -/
noncomputable def spigotref16_Listed.sg : Sig := ⟨[.val t5], [((.slice (.int .u32)), true)]⟩
noncomputable def spigotref16_Listed.E : Env := ⟨tl, fun i => look i [(79, spigotref15_All.Fn)], [], eqs, globs, prims⟩
noncomputable def spigotref16_Listed.c := cxOf spigotref16_Listed.E spigotref16_Listed.sg Try.f61
noncomputable def spigotref16_Listed.b := body Try.f61
noncomputable def spigotref16_Listed.Fn : Fun := fnOf spigotref16_Listed.E spigotref16_Listed.sg Try.f61
noncomputable def spigotref16_Listed.F (t : t5.den) : Option ((List Int) × Unit) := spigotref16_Listed.Fn.F (t, ())
noncomputable def spigotref16_Listed.S1 (i : Int) (b0 : Int) (b02 : (List Int)) (b03 : (List t1.den)) (b04 : (List Int)) (b05 : (List Bool)) (b06 : Int) (b07 : (List t3.den)) (b08 : (List Int)) (b09 : (List Int)) (b010 : Int) (b011 : Int) (l1 : (List Int)) (l2 : (List Int)) : St := ⟨[(1, (.ptr 0 [])), (3, (.sl 1)), (5, (.sl 2)), (6, (.v (.int .i64) i))], [(0, some (.box (.agg [(.v (.int .i64) b0), (.v (.slice (.int .u32)) b02), (.v (.slice t1) b03), (.agg [(.v (.slice (.int .i64)) b04), (.v (.slice .bool) b05), (.v (.int .i64) b06)]), (.v (.slice t3) b07), (.agg [(.v (.slice (.int .i64)) b08), (.v (.slice (.int .i64)) b09), (.v (.int .i64) b010), (.v (.int .i64) b011)])]))), (1, some (.row (.int .i64) l1 false)), (2, some (.row (.int .u32) l2 false))], 3, []⟩
noncomputable def spigotref16_Listed.L1 (i : Int) (b0 : Int) (b02 : (List Int)) (b03 : (List t1.den)) (b04 : (List Int)) (b05 : (List Bool)) (b06 : Int) (b07 : (List t3.den)) (b08 : (List Int)) (b09 : (List Int)) (b010 : Int) (b011 : Int) (l1 : (List Int)) (l2 : (List Int)) : Option ((List Int) × Unit) := res spigotref16_Listed.c (atLoop spigotref16_Listed.b [1, 1, 1, 0, 1, 0]) (spigotref16_Listed.S1 i b0 b02 b03 b04 b05 b06 b07 b08 b09 b010 b011 l1 l2)
noncomputable def spigotref16_Listed.S2 (i : Int) (b0 : Int) (b02 : (List Int)) (b03 : (List t1.den)) (b04 : (List Int)) (b05 : (List Bool)) (b06 : Int) (b07 : (List t3.den)) (b08 : (List Int)) (b09 : (List Int)) (b010 : Int) (b011 : Int) (l1 : (List Int)) (l2 : (List Int)) : St := ⟨[(1, (.ptr 0 [])), (3, (.sl 1)), (5, (.sl 2)), (6, (.v (.int .i64) i))], [(0, some (.box (.agg [(.v (.int .i64) b0), (.v (.slice (.int .u32)) b02), (.v (.slice t1) b03), (.agg [(.v (.slice (.int .i64)) b04), (.v (.slice .bool) b05), (.v (.int .i64) b06)]), (.v (.slice t3) b07), (.agg [(.v (.slice (.int .i64)) b08), (.v (.slice (.int .i64)) b09), (.v (.int .i64) b010), (.v (.int .i64) b011)])]))), (1, some (.row (.int .i64) l1 false)), (2, some (.row (.int .u32) l2 false))], 3, []⟩
noncomputable def spigotref16_Listed.L2 (i : Int) (b0 : Int) (b02 : (List Int)) (b03 : (List t1.den)) (b04 : (List Int)) (b05 : (List Bool)) (b06 : Int) (b07 : (List t3.den)) (b08 : (List Int)) (b09 : (List Int)) (b010 : Int) (b011 : Int) (l1 : (List Int)) (l2 : (List Int)) : Option ((List Int) × Unit) := res spigotref16_Listed.c (atJoin spigotref16_Listed.b [1, 1, 1, 0, 1, 0, 0, 0, 1]) (spigotref16_Listed.S2 i b0 b02 b03 b04 b05 b06 b07 b08 b09 b010 b011 l1 l2)
theorem spigotref16_Listed.spec : FnSpec Try.prog globs 61 spigotref16_Listed.Fn := spec_of (E := spigotref16_Listed.E) (envOk_at tabOk eqOk primsOk (.cons spigotref15_All.spec <| .nil)) mixOk Try.func61 (by kernel_rfl)
theorem spigotref16_Listed.L1_eq (i : Int) (b0 : Int) (b02 : (List Int)) (b03 : (List t1.den)) (b04 : (List Int)) (b05 : (List Bool)) (b06 : Int) (b07 : (List t3.den)) (b08 : (List Int)) (b09 : (List Int)) (b010 : Int) (b011 : Int) (l1 : (List Int)) (l2 : (List Int)) : spigotref16_Listed.L1 i b0 b02 b03 b04 b05 b06 b07 b08 b09 b010 b011 l1 l2 =
  bif (decide ((i : Int) < ((List.length l1 : Int)))) then
    spigotref16_Listed.L2 i b0 b02 b03 b04 b05 b06 b07 b08 b09 b010 b011 l1 l2
  else
    some (l2, ()) := res_eq (by kernel_rfl)
theorem spigotref16_Listed.L2_eq (i : Int) (b0 : Int) (b02 : (List Int)) (b03 : (List t1.den)) (b04 : (List Int)) (b05 : (List Bool)) (b06 : Int) (b07 : (List t3.den)) (b08 : (List Int)) (b09 : (List Int)) (b010 : Int) (b011 : Int) (l1 : (List Int)) (l2 : (List Int)) : spigotref16_Listed.L2 i b0 b02 b03 b04 b05 b06 b07 b08 b09 b010 b011 l1 l2 =
  bif (decide ((0 : Int) ≤ i ∧ (i : Int) < ((List.length l1 : Int)))) then
    bif (decide ((0 : Int) ≤ (List.getD l1 (Int.toNat i) 0) ∧ ((List.getD l1 (Int.toNat i) 0) : Int) < ((List.length b02 : Int)))) then
      bif (lim ((List.length l2) + (List.length ([(List.getD b02 (Int.toNat (List.getD l1 (Int.toNat i) 0)) 0)] : List Int))) (.int .u32)) then
        spigotref16_Listed.L1 (IntKind.wrap .i64 (i + 1)) b0 b02 b03 b04 b05 b06 b07 b08 b09 b010 b011 l1 (l2 ++ ([(List.getD b02 (Int.toNat (List.getD l1 (Int.toNat i) 0)) 0)] : List Int))
      else none
    else none
  else none := res_eq (by kernel_rfl)
theorem spigotref16_Listed.F_eq (t : t5.den) : spigotref16_Listed.F t =
  (spigotref15_All.F t.2.2.2.2.2.1).bind fun r0 =>
  spigotref16_Listed.L1 0 t.1 t.2.1 t.2.2.1 t.2.2.2.1.1 t.2.2.2.1.2.1 t.2.2.2.1.2.2.1 t.2.2.2.2.1 t.2.2.2.2.2.1.1 t.2.2.2.2.2.1.2.1 t.2.2.2.2.2.1.2.2.1 t.2.2.2.2.2.1.2.2.2.1 r0.1 ([] : List Int) := by kernel_rfl
/-! ### spigot/spigotref16.At (62) -/
noncomputable def spigotref16_At.sg : Sig := ⟨[.val t5, .val (.int .u32)], [((.int .i64), true)]⟩
noncomputable def spigotref16_At.E : Env := ⟨tl, fun i => look i [], [], eqs, globs, prims⟩
noncomputable def spigotref16_At.c := cxOf spigotref16_At.E spigotref16_At.sg Try.f62
noncomputable def spigotref16_At.b := body Try.f62
noncomputable def spigotref16_At.Fn : Fun := fnOf spigotref16_At.E spigotref16_At.sg Try.f62
noncomputable def spigotref16_At.F (t : t5.den) (key : Int) : Option (Int × Unit) := spigotref16_At.Fn.F (t, key, ())
noncomputable def spigotref16_At.S1 (key : Int) (i : Int) (b0 : Int) (b02 : (List Int)) (b03 : (List t1.den)) (b04 : (List Int)) (b05 : (List Bool)) (b06 : Int) (b07 : (List t3.den)) (b08 : (List Int)) (b09 : (List Int)) (b010 : Int) (b011 : Int) : St := ⟨[(1, (.v (.int .u32) key)), (2, (.ptr 0 [])), (5, (.v (.int .i64) i))], [(0, some (.box (.agg [(.v (.int .i64) b0), (.v (.slice (.int .u32)) b02), (.v (.slice t1) b03), (.agg [(.v (.slice (.int .i64)) b04), (.v (.slice .bool) b05), (.v (.int .i64) b06)]), (.v (.slice t3) b07), (.agg [(.v (.slice (.int .i64)) b08), (.v (.slice (.int .i64)) b09), (.v (.int .i64) b010), (.v (.int .i64) b011)])])))], 1, []⟩
noncomputable def spigotref16_At.L1 (key : Int) (i : Int) (b0 : Int) (b02 : (List Int)) (b03 : (List t1.den)) (b04 : (List Int)) (b05 : (List Bool)) (b06 : Int) (b07 : (List t3.den)) (b08 : (List Int)) (b09 : (List Int)) (b010 : Int) (b011 : Int) : Option (Int × Unit) := res spigotref16_At.c (atLoop spigotref16_At.b [1, 0, 1, 0]) (spigotref16_At.S1 key i b0 b02 b03 b04 b05 b06 b07 b08 b09 b010 b011)
noncomputable def spigotref16_At.S2 (key : Int) (i : Int) (b0 : Int) (b02 : (List Int)) (b03 : (List t1.den)) (b04 : (List Int)) (b05 : (List Bool)) (b06 : Int) (b07 : (List t3.den)) (b08 : (List Int)) (b09 : (List Int)) (b010 : Int) (b011 : Int) : St := ⟨[(1, (.v (.int .u32) key)), (2, (.ptr 0 [])), (5, (.v (.int .i64) i))], [(0, some (.box (.agg [(.v (.int .i64) b0), (.v (.slice (.int .u32)) b02), (.v (.slice t1) b03), (.agg [(.v (.slice (.int .i64)) b04), (.v (.slice .bool) b05), (.v (.int .i64) b06)]), (.v (.slice t3) b07), (.agg [(.v (.slice (.int .i64)) b08), (.v (.slice (.int .i64)) b09), (.v (.int .i64) b010), (.v (.int .i64) b011)])])))], 1, []⟩
noncomputable def spigotref16_At.L2 (key : Int) (i : Int) (b0 : Int) (b02 : (List Int)) (b03 : (List t1.den)) (b04 : (List Int)) (b05 : (List Bool)) (b06 : Int) (b07 : (List t3.den)) (b08 : (List Int)) (b09 : (List Int)) (b010 : Int) (b011 : Int) : Option (Int × Unit) := res spigotref16_At.c (atJoin spigotref16_At.b [1, 0, 1, 0, 0, 0, 1]) (spigotref16_At.S2 key i b0 b02 b03 b04 b05 b06 b07 b08 b09 b010 b011)
noncomputable def spigotref16_At.S3 (key : Int) (i : Int) (b0 : Int) (b02 : (List Int)) (b03 : (List t1.den)) (b04 : (List Int)) (b05 : (List Bool)) (b06 : Int) (b07 : (List t3.den)) (b08 : (List Int)) (b09 : (List Int)) (b010 : Int) (b011 : Int) : St := ⟨[(1, (.v (.int .u32) key)), (2, (.ptr 0 [])), (5, (.v (.int .i64) i))], [(0, some (.box (.agg [(.v (.int .i64) b0), (.v (.slice (.int .u32)) b02), (.v (.slice t1) b03), (.agg [(.v (.slice (.int .i64)) b04), (.v (.slice .bool) b05), (.v (.int .i64) b06)]), (.v (.slice t3) b07), (.agg [(.v (.slice (.int .i64)) b08), (.v (.slice (.int .i64)) b09), (.v (.int .i64) b010), (.v (.int .i64) b011)])])))], 1, []⟩
noncomputable def spigotref16_At.L3 (key : Int) (i : Int) (b0 : Int) (b02 : (List Int)) (b03 : (List t1.den)) (b04 : (List Int)) (b05 : (List Bool)) (b06 : Int) (b07 : (List t3.den)) (b08 : (List Int)) (b09 : (List Int)) (b010 : Int) (b011 : Int) : Option (Int × Unit) := res spigotref16_At.c (atJoin spigotref16_At.b [1, 0, 1, 0, 0, 1, 0, 0, 1]) (spigotref16_At.S3 key i b0 b02 b03 b04 b05 b06 b07 b08 b09 b010 b011)
theorem spigotref16_At.spec : FnSpec Try.prog globs 62 spigotref16_At.Fn := spec_of (E := spigotref16_At.E) (envOk_at tabOk eqOk primsOk (.nil)) mixOk Try.func62 (by kernel_rfl)
theorem spigotref16_At.L1_eq (key : Int) (i : Int) (b0 : Int) (b02 : (List Int)) (b03 : (List t1.den)) (b04 : (List Int)) (b05 : (List Bool)) (b06 : Int) (b07 : (List t3.den)) (b08 : (List Int)) (b09 : (List Int)) (b010 : Int) (b011 : Int) : spigotref16_At.L1 key i b0 b02 b03 b04 b05 b06 b07 b08 b09 b010 b011 =
  bif (decide ((i : Int) < b0)) then
    spigotref16_At.L2 key i b0 b02 b03 b04 b05 b06 b07 b08 b09 b010 b011
  else
    some ((-1), ()) := res_eq (by kernel_rfl)
theorem spigotref16_At.L2_eq (key : Int) (i : Int) (b0 : Int) (b02 : (List Int)) (b03 : (List t1.den)) (b04 : (List Int)) (b05 : (List Bool)) (b06 : Int) (b07 : (List t3.den)) (b08 : (List Int)) (b09 : (List Int)) (b010 : Int) (b011 : Int) : spigotref16_At.L2 key i b0 b02 b03 b04 b05 b06 b07 b08 b09 b010 b011 =
  bif (decide ((0 : Int) ≤ i ∧ (i : Int) < ((List.length b05 : Int)))) then
    bif (List.getD b05 (Int.toNat i) false) then
      bif (decide ((0 : Int) ≤ i ∧ (i : Int) < ((List.length b02 : Int)))) then
        bif ((List.getD b02 (Int.toNat i) 0) == key) then
          some (i, ())
        else
          spigotref16_At.L3 key i b0 b02 b03 b04 b05 b06 b07 b08 b09 b010 b011
      else none
    else
      spigotref16_At.L3 key i b0 b02 b03 b04 b05 b06 b07 b08 b09 b010 b011
  else none := res_eq (by kernel_rfl)
theorem spigotref16_At.L3_eq (key : Int) (i : Int) (b0 : Int) (b02 : (List Int)) (b03 : (List t1.den)) (b04 : (List Int)) (b05 : (List Bool)) (b06 : Int) (b07 : (List t3.den)) (b08 : (List Int)) (b09 : (List Int)) (b010 : Int) (b011 : Int) : spigotref16_At.L3 key i b0 b02 b03 b04 b05 b06 b07 b08 b09 b010 b011 =
  spigotref16_At.L1 key (IntKind.wrap .i64 (i + 1)) b0 b02 b03 b04 b05 b06 b07 b08 b09 b010 b011 := res_eq (by kernel_rfl)
theorem spigotref16_At.F_eq (t : t5.den) (key : Int) : spigotref16_At.F t key =
  spigotref16_At.L1 key 0 t.1 t.2.1 t.2.2.1 t.2.2.2.1.1 t.2.2.2.1.2.1 t.2.2.2.1.2.2.1 t.2.2.2.2.1 t.2.2.2.2.2.1.1 t.2.2.2.2.2.1.2.1 t.2.2.2.2.2.1.2.2.1 t.2.2.2.2.2.1.2.2.2.1 := by kernel_rfl
/-! ### spigot/spigotref26.held (45) -/
noncomputable def spigotref26_held.sg : Sig := ⟨[.val t5], [((.slice t9), true)]⟩
noncomputable def spigotref26_held.E : Env := ⟨tl, fun i => look i [(61, spigotref16_Listed.Fn), (62, spigotref16_At.Fn)], [], eqs, globs, prims⟩
noncomputable def spigotref26_held.c := cxOf spigotref26_held.E spigotref26_held.sg Try.f45
noncomputable def spigotref26_held.b := body Try.f45
noncomputable def spigotref26_held.Fn : Fun := fnOf spigotref26_held.E spigotref26_held.sg Try.f45
noncomputable def spigotref26_held.F (t : t5.den) : Option ((List t9.den) × Unit) := spigotref26_held.Fn.F (t, ())
noncomputable def spigotref26_held.S1 (i : Int) (b0 : Int) (b02 : (List Int)) (b03 : (List t1.den)) (b04 : (List Int)) (b05 : (List Bool)) (b06 : Int) (b07 : (List t3.den)) (b08 : (List Int)) (b09 : (List Int)) (b010 : Int) (b011 : Int) (l1 : (List Int)) (l2 : (List t9.den)) : St := ⟨[(1, (.ptr 0 [])), (3, (.sl 1)), (4, (.sl 2)), (5, (.v (.int .i64) i))], [(0, some (.box (.agg [(.v (.int .i64) b0), (.v (.slice (.int .u32)) b02), (.v (.slice t1) b03), (.agg [(.v (.slice (.int .i64)) b04), (.v (.slice .bool) b05), (.v (.int .i64) b06)]), (.v (.slice t3) b07), (.agg [(.v (.slice (.int .i64)) b08), (.v (.slice (.int .i64)) b09), (.v (.int .i64) b010), (.v (.int .i64) b011)])]))), (1, some (.row (.int .u32) l1 false)), (2, some (.row t9 l2 false))], 3, []⟩
noncomputable def spigotref26_held.L1 (i : Int) (b0 : Int) (b02 : (List Int)) (b03 : (List t1.den)) (b04 : (List Int)) (b05 : (List Bool)) (b06 : Int) (b07 : (List t3.den)) (b08 : (List Int)) (b09 : (List Int)) (b010 : Int) (b011 : Int) (l1 : (List Int)) (l2 : (List t9.den)) : Option ((List t9.den) × Unit) := res spigotref26_held.c (atLoop spigotref26_held.b [1, 1, 1, 0, 1, 0]) (spigotref26_held.S1 i b0 b02 b03 b04 b05 b06 b07 b08 b09 b010 b011 l1 l2)
noncomputable def spigotref26_held.S2 (i : Int) (b0 : Int) (b02 : (List Int)) (b03 : (List t1.den)) (b04 : (List Int)) (b05 : (List Bool)) (b06 : Int) (b07 : (List t3.den)) (b08 : (List Int)) (b09 : (List Int)) (b010 : Int) (b011 : Int) (l1 : (List Int)) (l2 : (List t9.den)) : St := ⟨[(1, (.ptr 0 [])), (3, (.sl 1)), (4, (.sl 2)), (5, (.v (.int .i64) i))], [(0, some (.box (.agg [(.v (.int .i64) b0), (.v (.slice (.int .u32)) b02), (.v (.slice t1) b03), (.agg [(.v (.slice (.int .i64)) b04), (.v (.slice .bool) b05), (.v (.int .i64) b06)]), (.v (.slice t3) b07), (.agg [(.v (.slice (.int .i64)) b08), (.v (.slice (.int .i64)) b09), (.v (.int .i64) b010), (.v (.int .i64) b011)])]))), (1, some (.row (.int .u32) l1 false)), (2, some (.row t9 l2 false))], 3, []⟩
noncomputable def spigotref26_held.L2 (i : Int) (b0 : Int) (b02 : (List Int)) (b03 : (List t1.den)) (b04 : (List Int)) (b05 : (List Bool)) (b06 : Int) (b07 : (List t3.den)) (b08 : (List Int)) (b09 : (List Int)) (b010 : Int) (b011 : Int) (l1 : (List Int)) (l2 : (List t9.den)) : Option ((List t9.den) × Unit) := res spigotref26_held.c (atJoin spigotref26_held.b [1, 1, 1, 0, 1, 0, 0, 0, 1]) (spigotref26_held.S2 i b0 b02 b03 b04 b05 b06 b07 b08 b09 b010 b011 l1 l2)
theorem spigotref26_held.spec : FnSpec Try.prog globs 45 spigotref26_held.Fn := spec_of (E := spigotref26_held.E) (envOk_at tabOk eqOk primsOk (.cons spigotref16_Listed.spec <| .cons spigotref16_At.spec <| .nil)) mixOk Try.func45 (by kernel_rfl)
theorem spigotref26_held.L1_eq (i : Int) (b0 : Int) (b02 : (List Int)) (b03 : (List t1.den)) (b04 : (List Int)) (b05 : (List Bool)) (b06 : Int) (b07 : (List t3.den)) (b08 : (List Int)) (b09 : (List Int)) (b010 : Int) (b011 : Int) (l1 : (List Int)) (l2 : (List t9.den)) : spigotref26_held.L1 i b0 b02 b03 b04 b05 b06 b07 b08 b09 b010 b011 l1 l2 =
  bif (decide ((i : Int) < ((List.length l1 : Int)))) then
    spigotref26_held.L2 i b0 b02 b03 b04 b05 b06 b07 b08 b09 b010 b011 l1 l2
  else
    some (l2, ()) := res_eq (by kernel_rfl)
theorem spigotref26_held.L2_eq (i : Int) (b0 : Int) (b02 : (List Int)) (b03 : (List t1.den)) (b04 : (List Int)) (b05 : (List Bool)) (b06 : Int) (b07 : (List t3.den)) (b08 : (List Int)) (b09 : (List Int)) (b010 : Int) (b011 : Int) (l1 : (List Int)) (l2 : (List t9.den)) : spigotref26_held.L2 i b0 b02 b03 b04 b05 b06 b07 b08 b09 b010 b011 l1 l2 =
  bif (decide ((0 : Int) ≤ i ∧ (i : Int) < ((List.length l1 : Int)))) then
    bif (decide ((0 : Int) ≤ i ∧ (i : Int) < ((List.length l1 : Int)))) then
      (spigotref16_At.F (b0, b02, b03, (b04, b05, b06, ()), b07, (b08, b09, b010, b011, ()), ()) (List.getD l1 (Int.toNat i) 0)).bind fun r0 =>
      bif (decide ((0 : Int) ≤ r0.1 ∧ (r0.1 : Int) < ((List.length b03 : Int)))) then
        bif (lim ((List.length l2) + (List.length ([((List.getD l1 (Int.toNat i) 0), (List.getD b03 (Int.toNat r0.1) ((0, 0, 0, ()), 0, 0, 0, ())), ())] : List t9.den))) t9) then
          spigotref26_held.L1 (IntKind.wrap .i64 (i + 1)) b0 b02 b03 b04 b05 b06 b07 b08 b09 b010 b011 l1 (l2 ++ ([((List.getD l1 (Int.toNat i) 0), (List.getD b03 (Int.toNat r0.1) ((0, 0, 0, ()), 0, 0, 0, ())), ())] : List t9.den))
        else none
      else none
    else none
  else none := res_eq (by kernel_rfl)
theorem spigotref26_held.F_eq (t : t5.den) : spigotref26_held.F t =
  (spigotref16_Listed.F t).bind fun r0 =>
  spigotref26_held.L1 0 t.1 t.2.1 t.2.2.1 t.2.2.2.1.1 t.2.2.2.1.2.1 t.2.2.2.1.2.2.1 t.2.2.2.2.1 t.2.2.2.2.2.1.1 t.2.2.2.2.2.1.2.1 t.2.2.2.2.2.1.2.2.1 t.2.2.2.2.2.1.2.2.2.1 r0.1 ([] : List t9.den) := by kernel_rfl
/-! ### spigot/spigotref26.Account (31) -/
noncomputable def spigotref26_Account.sg : Sig := ⟨[.val t7], [(t10, true)]⟩
noncomputable def spigotref26_Account.E : Env := ⟨tl, fun i => look i [(45, spigotref26_held.Fn)], [], eqs, globs, prims⟩
noncomputable def spigotref26_Account.c := cxOf spigotref26_Account.E spigotref26_Account.sg Try.f31
noncomputable def spigotref26_Account.b := body Try.f31
noncomputable def spigotref26_Account.Fn : Fun := fnOf spigotref26_Account.E spigotref26_Account.sg Try.f31
noncomputable def spigotref26_Account.F (p : t7.den) : Option (t10.den × Unit) := spigotref26_Account.Fn.F (p, ())
theorem spigotref26_Account.spec : FnSpec Try.prog globs 31 spigotref26_Account.Fn := spec_of (E := spigotref26_Account.E) (envOk_at tabOk eqOk primsOk (.cons spigotref26_held.spec <| .nil)) mixOk Try.func31 (by kernel_rfl)
theorem spigotref26_Account.F_eq (p : t7.den) : spigotref26_Account.F p =
  (spigotref26_held.F p.2.2.2.1).bind fun r0 =>
  (spigotref26_held.F p.2.2.2.2.1).bind fun r1 =>
  bif (lim ((List.length ([] : List Int)) + (List.length p.2.2.2.2.2.1)) (.int .u32)) then
    some ((p.1, p.2.1, ([p.2.2.2.1.1, p.2.2.2.2.1.1] : List Int), p.2.2.1, r0.1, r1.1, (([] : List Int) ++ p.2.2.2.2.2.1), p.2.2.2.2.2.2.1, ()), ())
  else none := by kernel_rfl
/-! ### spigot/spigotref26.Model (19) -/
noncomputable def spigotref26_Model.sg : Sig := ⟨[.val t8], [(t11, true)]⟩
noncomputable def spigotref26_Model.E : Env := ⟨tl, fun i => look i [(31, spigotref26_Account.Fn)], [], eqs, globs, prims⟩
noncomputable def spigotref26_Model.c := cxOf spigotref26_Model.E spigotref26_Model.sg Try.f19
noncomputable def spigotref26_Model.b := body Try.f19
noncomputable def spigotref26_Model.Fn : Fun := fnOf spigotref26_Model.E spigotref26_Model.sg Try.f19
noncomputable def spigotref26_Model.F (s : t8.den) : Option (t11.den × Unit) := spigotref26_Model.Fn.F (s, ())
noncomputable def spigotref26_Model.S1 (i : Int) (b0 : Int) (b02 : (List Int)) (b03 : (List Int)) (b04 : (List t7.den)) (b1 : (List Int)) (b12 : (List Int)) (l3 : (List t10.den)) (l4 : (List t10.den)) : St := ⟨[(1, (.ptr 0 [])), (2, (.ptr 1 [])), (3, (.ptr 2 [])), (4, (.v (.int .i64) i))], [(0, some (.box (.agg [(.v (.int .u64) b0), (.v (.arr 32 (.int .u8)) b02), (.v (.arr 16 (.int .u32)) b03), (.v (.slice t7) b04)]))), (1, some (.box (.agg [(.v (.int .u64) 0), (.v (.arr 32 (.int .u8)) b1), (.v (.arr 16 (.int .u32)) b12), (.sl 3)]))), (2, some (.box (.agg [(.v (.int .u64) b0), (.v (.arr 32 (.int .u8)) b02), (.v (.arr 16 (.int .u32)) b03), (.sl 4)]))), (3, some (.row t10 l3 false)), (4, some (.row t10 l4 false))], 5, []⟩
noncomputable def spigotref26_Model.L1 (i : Int) (b0 : Int) (b02 : (List Int)) (b03 : (List Int)) (b04 : (List t7.den)) (b1 : (List Int)) (b12 : (List Int)) (l3 : (List t10.den)) (l4 : (List t10.den)) : Option (t11.den × Unit) := res spigotref26_Model.c (atLoop spigotref26_Model.b [1, 1, 0, 1, 0]) (spigotref26_Model.S1 i b0 b02 b03 b04 b1 b12 l3 l4)
noncomputable def spigotref26_Model.S2 (i : Int) (b0 : Int) (b02 : (List Int)) (b03 : (List Int)) (b04 : (List t7.den)) (b1 : (List Int)) (b12 : (List Int)) (l3 : (List t10.den)) (l4 : (List t10.den)) : St := ⟨[(1, (.ptr 0 [])), (2, (.ptr 1 [])), (3, (.ptr 2 [])), (4, (.v (.int .i64) i))], [(0, some (.box (.agg [(.v (.int .u64) b0), (.v (.arr 32 (.int .u8)) b02), (.v (.arr 16 (.int .u32)) b03), (.v (.slice t7) b04)]))), (1, some (.box (.agg [(.v (.int .u64) 0), (.v (.arr 32 (.int .u8)) b1), (.v (.arr 16 (.int .u32)) b12), (.sl 3)]))), (2, some (.box (.agg [(.v (.int .u64) b0), (.v (.arr 32 (.int .u8)) b02), (.v (.arr 16 (.int .u32)) b03), (.sl 4)]))), (3, some (.row t10 l3 false)), (4, some (.row t10 l4 false))], 5, []⟩
noncomputable def spigotref26_Model.L2 (i : Int) (b0 : Int) (b02 : (List Int)) (b03 : (List Int)) (b04 : (List t7.den)) (b1 : (List Int)) (b12 : (List Int)) (l3 : (List t10.den)) (l4 : (List t10.den)) : Option (t11.den × Unit) := res spigotref26_Model.c (atJoin spigotref26_Model.b [1, 1, 0, 1, 0, 0, 0, 1]) (spigotref26_Model.S2 i b0 b02 b03 b04 b1 b12 l3 l4)
theorem spigotref26_Model.spec : FnSpec Try.prog globs 19 spigotref26_Model.Fn := spec_of (E := spigotref26_Model.E) (envOk_at tabOk eqOk primsOk (.cons spigotref26_Account.spec <| .nil)) mixOk Try.func19 (by kernel_rfl)
theorem spigotref26_Model.L1_eq (i : Int) (b0 : Int) (b02 : (List Int)) (b03 : (List Int)) (b04 : (List t7.den)) (b1 : (List Int)) (b12 : (List Int)) (l3 : (List t10.den)) (l4 : (List t10.den)) : spigotref26_Model.L1 i b0 b02 b03 b04 b1 b12 l3 l4 =
  bif (decide ((i : Int) < ((List.length b04 : Int)))) then
    spigotref26_Model.L2 i b0 b02 b03 b04 b1 b12 l3 l4
  else
    some ((b0, b02, b03, l4, ()), ()) := res_eq (by kernel_rfl)
theorem spigotref26_Model.L2_eq (i : Int) (b0 : Int) (b02 : (List Int)) (b03 : (List Int)) (b04 : (List t7.den)) (b1 : (List Int)) (b12 : (List Int)) (l3 : (List t10.den)) (l4 : (List t10.den)) : spigotref26_Model.L2 i b0 b02 b03 b04 b1 b12 l3 l4 =
  bif (decide ((0 : Int) ≤ i ∧ (i : Int) < ((List.length b04 : Int)))) then
    (spigotref26_Account.F (List.getD b04 (Int.toNat i) (0, (List.replicate 3 (0, 0, 0, ())), ((0, 0, 0, ()), 0, 0, 0, ()), (0, ([] : List Int), ([] : List t1.den), (([] : List Int), ([] : List Bool), 0, ()), ([] : List t3.den), (([] : List Int), ([] : List Int), 0, 0, ()), ()), (0, ([] : List Int), ([] : List t1.den), (([] : List Int), ([] : List Bool), 0, ()), ([] : List t3.den), (([] : List Int), ([] : List Int), 0, 0, ()), ()), ([] : List Int), (0, 0, 0, ()), ()))).bind fun r0 =>
    bif (lim ((List.length l4) + (List.length ([r0.1] : List t10.den))) t10) then
      spigotref26_Model.L1 (IntKind.wrap .i64 (i + 1)) b0 b02 b03 b04 b1 b12 l3 (l4 ++ ([r0.1] : List t10.den))
    else none
  else none := res_eq (by kernel_rfl)
theorem spigotref26_Model.F_eq (s : t8.den) : spigotref26_Model.F s =
  spigotref26_Model.L1 0 s.1 s.2.1 s.2.2.1 s.2.2.2.1 (List.replicate 32 (0 : Int)) (List.replicate 16 (0 : Int)) ([] : List t10.den) ([] : List t10.den) := by kernel_rfl
/-! ### spigot/spigotref33.Write (7) -/
noncomputable def spigotref33_Write.sg : Sig := ⟨[.val t8], [((.slice (.int .u8)), true), ((.int .i64), true)]⟩
noncomputable def spigotref33_Write.E : Env := ⟨tl, fun i => look i [(17, spigotref20_Valid.Fn), (18, spigotref33_Bytes.Fn), (19, spigotref26_Model.Fn)], [], eqs, globs, prims⟩
noncomputable def spigotref33_Write.c := cxOf spigotref33_Write.E spigotref33_Write.sg Try.f7
noncomputable def spigotref33_Write.b := body Try.f7
noncomputable def spigotref33_Write.Fn : Fun := fnOf spigotref33_Write.E spigotref33_Write.sg Try.f7
noncomputable def spigotref33_Write.F (s : t8.den) : Option ((List Int) × Int × Unit) := spigotref33_Write.Fn.F (s, ())
noncomputable def spigotref33_Write.S1 (b0 : Int) (b02 : (List Int)) (b03 : (List Int)) (b04 : (List t7.den)) : St := ⟨[(1, (.ptr 0 []))], [(0, some (.box (.agg [(.v (.int .u64) b0), (.v (.arr 32 (.int .u8)) b02), (.v (.arr 16 (.int .u32)) b03), (.v (.slice t7) b04)])))], 1, []⟩
noncomputable def spigotref33_Write.L1 (b0 : Int) (b02 : (List Int)) (b03 : (List Int)) (b04 : (List t7.den)) : Option ((List Int) × Int × Unit) := res spigotref33_Write.c (atJoin spigotref33_Write.b [1, 0, 1]) (spigotref33_Write.S1 b0 b02 b03 b04)
theorem spigotref33_Write.spec : FnSpec Try.prog globs 7 spigotref33_Write.Fn := spec_of (E := spigotref33_Write.E) (envOk_at tabOk eqOk primsOk (.cons spigotref20_Valid.spec <| .cons spigotref33_Bytes.spec <| .cons spigotref26_Model.spec <| .nil)) mixOk Try.func7 (by kernel_rfl)
theorem spigotref33_Write.L1_eq (b0 : Int) (b02 : (List Int)) (b03 : (List Int)) (b04 : (List t7.den)) : spigotref33_Write.L1 b0 b02 b03 b04 =
  (spigotref26_Model.F (b0, b02, b03, b04, ())).bind fun r0 =>
  (spigotref33_Bytes.F r0.1).bind fun r1 =>
  some (r1.1, 0, ()) := res_eq (by kernel_rfl)
theorem spigotref33_Write.F_eq (s : t8.den) : spigotref33_Write.F s =
  (spigotref20_Valid.F s).bind fun r0 =>
  bif (r0.1 != 0) then
    (spigotref20_Valid.F s).bind fun r1 =>
    some (([] : List Int), r1.1, ())
  else
    spigotref33_Write.L1 s.1 s.2.1 s.2.2.1 s.2.2.2.1 := by kernel_rfl
/-! ### spigot/image.Size (8) -/
noncomputable def image_Size.sg : Sig := ⟨[.val t8], [((.int .i64), true), ((.int .i64), true)]⟩
noncomputable def image_Size.E : Env := ⟨tl, fun i => look i [(6, image_Write.Fn)], [], eqs, globs, prims⟩
noncomputable def image_Size.c := cxOf image_Size.E image_Size.sg Try.f8
noncomputable def image_Size.b := body Try.f8
noncomputable def image_Size.Fn : Fun := fnOf image_Size.E image_Size.sg Try.f8
noncomputable def image_Size.F (s : t8.den) : Option (Int × Int × Unit) := image_Size.Fn.F (s, ())
theorem image_Size.spec : FnSpec Try.prog globs 8 image_Size.Fn := spec_of (E := image_Size.E) (envOk_at tabOk eqOk primsOk (.cons image_Write.spec <| .nil)) mixOk Try.func8 (by kernel_rfl)
theorem image_Size.F_eq (s : t8.den) : image_Size.F s =
  (image_Write.F s).bind fun r0 =>
  some (((List.length r0.1 : Int)), r0.2.1, ()) := by kernel_rfl
/-! ### spigot/spigotref33.Size (9) -/
noncomputable def spigotref33_Size.sg : Sig := ⟨[.val t8], [((.int .i64), true), ((.int .i64), true)]⟩
noncomputable def spigotref33_Size.E : Env := ⟨tl, fun i => look i [(7, spigotref33_Write.Fn)], [], eqs, globs, prims⟩
noncomputable def spigotref33_Size.c := cxOf spigotref33_Size.E spigotref33_Size.sg Try.f9
noncomputable def spigotref33_Size.b := body Try.f9
noncomputable def spigotref33_Size.Fn : Fun := fnOf spigotref33_Size.E spigotref33_Size.sg Try.f9
noncomputable def spigotref33_Size.F (s : t8.den) : Option (Int × Int × Unit) := spigotref33_Size.Fn.F (s, ())
theorem spigotref33_Size.spec : FnSpec Try.prog globs 9 spigotref33_Size.Fn := spec_of (E := spigotref33_Size.E) (envOk_at tabOk eqOk primsOk (.cons spigotref33_Write.spec <| .nil)) mixOk Try.func9 (by kernel_rfl)
theorem spigotref33_Size.F_eq (s : t8.den) : spigotref33_Size.F s =
  (spigotref33_Write.F s).bind fun r0 =>
  some (((List.length r0.1 : Int)), r0.2.1, ()) := by kernel_rfl
/-! ### spigot/spigotref16.SameKeys (47) -/
noncomputable def spigotref16_SameKeys.sg : Sig := ⟨[.val (.slice (.int .u32)), .val (.slice (.int .u32))], [(.bool, true)]⟩
noncomputable def spigotref16_SameKeys.E : Env := ⟨tl, fun i => look i [], [], eqs, globs, prims⟩
noncomputable def spigotref16_SameKeys.c := cxOf spigotref16_SameKeys.E spigotref16_SameKeys.sg Try.f47
noncomputable def spigotref16_SameKeys.b := body Try.f47
noncomputable def spigotref16_SameKeys.Fn : Fun := fnOf spigotref16_SameKeys.E spigotref16_SameKeys.sg Try.f47
noncomputable def spigotref16_SameKeys.F (a : (List Int)) (b : (List Int)) : Option (Bool × Unit) := spigotref16_SameKeys.Fn.F (a, b, ())
noncomputable def spigotref16_SameKeys.S1 (a : (List Int)) (b : (List Int)) : St := ⟨[(0, (.v (.slice (.int .u32)) a)), (1, (.v (.slice (.int .u32)) b))], [], 0, []⟩
noncomputable def spigotref16_SameKeys.L1 (a : (List Int)) (b : (List Int)) : Option (Bool × Unit) := res spigotref16_SameKeys.c (atJoin spigotref16_SameKeys.b [1, 0, 1]) (spigotref16_SameKeys.S1 a b)
noncomputable def spigotref16_SameKeys.S2 (a : (List Int)) (b : (List Int)) (i : Int) : St := ⟨[(0, (.v (.slice (.int .u32)) a)), (1, (.v (.slice (.int .u32)) b)), (5, (.v (.int .i64) i))], [], 0, []⟩
noncomputable def spigotref16_SameKeys.L2 (a : (List Int)) (b : (List Int)) (i : Int) : Option (Bool × Unit) := res spigotref16_SameKeys.c (atLoop spigotref16_SameKeys.b [1, 1, 0, 1, 0]) (spigotref16_SameKeys.S2 a b i)
noncomputable def spigotref16_SameKeys.S3 (a : (List Int)) (b : (List Int)) (i : Int) : St := ⟨[(0, (.v (.slice (.int .u32)) a)), (1, (.v (.slice (.int .u32)) b)), (5, (.v (.int .i64) i))], [], 0, []⟩
noncomputable def spigotref16_SameKeys.L3 (a : (List Int)) (b : (List Int)) (i : Int) : Option (Bool × Unit) := res spigotref16_SameKeys.c (atJoin spigotref16_SameKeys.b [1, 1, 0, 1, 0, 0, 0, 1]) (spigotref16_SameKeys.S3 a b i)
noncomputable def spigotref16_SameKeys.S4 (a : (List Int)) (b : (List Int)) (i : Int) : St := ⟨[(0, (.v (.slice (.int .u32)) a)), (1, (.v (.slice (.int .u32)) b)), (5, (.v (.int .i64) i))], [], 0, []⟩
noncomputable def spigotref16_SameKeys.L4 (a : (List Int)) (b : (List Int)) (i : Int) : Option (Bool × Unit) := res spigotref16_SameKeys.c (atJoin spigotref16_SameKeys.b [1, 1, 0, 1, 0, 0, 1, 0, 0, 1]) (spigotref16_SameKeys.S4 a b i)
theorem spigotref16_SameKeys.spec : FnSpec Try.prog globs 47 spigotref16_SameKeys.Fn := spec_of (E := spigotref16_SameKeys.E) (envOk_at tabOk eqOk primsOk (.nil)) mixOk Try.func47 (by kernel_rfl)
theorem spigotref16_SameKeys.L1_eq (a : (List Int)) (b : (List Int)) : spigotref16_SameKeys.L1 a b =
  spigotref16_SameKeys.L2 a b 0 := res_eq (by kernel_rfl)
theorem spigotref16_SameKeys.L2_eq (a : (List Int)) (b : (List Int)) (i : Int) : spigotref16_SameKeys.L2 a b i =
  bif (decide ((i : Int) < ((List.length a : Int)))) then
    spigotref16_SameKeys.L3 a b i
  else
    some (true, ()) := res_eq (by kernel_rfl)
theorem spigotref16_SameKeys.L3_eq (a : (List Int)) (b : (List Int)) (i : Int) : spigotref16_SameKeys.L3 a b i =
  bif (decide ((0 : Int) ≤ i ∧ (i : Int) < ((List.length a : Int)))) then
    bif (decide ((0 : Int) ≤ i ∧ (i : Int) < ((List.length b : Int)))) then
      bif ((List.getD a (Int.toNat i) 0) != (List.getD b (Int.toNat i) 0)) then
        some (false, ())
      else
        spigotref16_SameKeys.L4 a b i
    else none
  else none := res_eq (by kernel_rfl)
theorem spigotref16_SameKeys.L4_eq (a : (List Int)) (b : (List Int)) (i : Int) : spigotref16_SameKeys.L4 a b i =
  spigotref16_SameKeys.L2 a b (IntKind.wrap .i64 (i + 1)) := res_eq (by kernel_rfl)
theorem spigotref16_SameKeys.F_eq (a : (List Int)) (b : (List Int)) : spigotref16_SameKeys.F a b =
  bif (((List.length a : Int)) != ((List.length b : Int))) then
    some (false, ())
  else
    spigotref16_SameKeys.L1 a b := by kernel_rfl
end Go.Proofs.Ytkihjakbbcajbaa.PM
