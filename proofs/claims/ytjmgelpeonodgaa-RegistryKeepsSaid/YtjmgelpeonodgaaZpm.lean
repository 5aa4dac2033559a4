/- Contracts and equations of the functions, printed by a program of this session: part 2. -/
import Derived.Test.YtjmgelpeonodgaaZpmC
namespace Go.Proofs.Ytjmgelpeonodgaa.PM
open Go Go.Proofs
set_option linter.unusedVariables false
/-! ### spigot/spigotref19.With (41) -/
noncomputable def spigotref19_With.sg : Sig := ⟨[.val (.slice t7), .val t7], [((.slice t7), true)]⟩
noncomputable def spigotref19_With.E : Env := ⟨tl, fun i => look i [(39, spigotref18_Twin.Fn), (42, spigotref19_Without.Fn)], [], eqs, globs, prims⟩
noncomputable def spigotref19_With.c := cxOf spigotref19_With.E spigotref19_With.sg Try.f41
noncomputable def spigotref19_With.b := body Try.f41
noncomputable def spigotref19_With.Fn : Fun := fnOf spigotref19_With.E spigotref19_With.sg Try.f41
noncomputable def spigotref19_With.F (l : (List t7.den)) (p : t7.den) : Option ((List t7.den) × Unit) := spigotref19_With.Fn.F (l, p, ())
noncomputable def spigotref19_With.S1 (i : Int) (l0 : (List t7.den)) : St := ⟨[(5, (.sl 0)), (6, (.v (.int .i64) i))], [(0, some (.row t7 l0 false))], 1, []⟩
noncomputable def spigotref19_With.L1 (i : Int) (l0 : (List t7.den)) : Option ((List t7.den) × Unit) := res spigotref19_With.c (atLoop spigotref19_With.b [1, 1, 0, 1, 0]) (spigotref19_With.S1 i l0)
noncomputable def spigotref19_With.S2 (i : Int) (l0 : (List t7.den)) : St := ⟨[(5, (.sl 0)), (6, (.v (.int .i64) i))], [(0, some (.row t7 l0 false))], 1, []⟩
noncomputable def spigotref19_With.L2 (i : Int) (l0 : (List t7.den)) : Option ((List t7.den) × Unit) := res spigotref19_With.c (atJoin spigotref19_With.b [1, 1, 0, 1, 0, 0, 0, 1]) (spigotref19_With.S2 i l0)
theorem spigotref19_With.spec : FnSpec Try.prog globs 41 spigotref19_With.Fn := spec_of (E := spigotref19_With.E) (envOk_at tabOk eqOk primsOk (.cons spigotref18_Twin.spec <| .cons spigotref19_Without.spec <| .nil)) mixOk Try.func41 (by kernel_rfl)
theorem spigotref19_With.L1_eq (i : Int) (l0 : (List t7.den)) : spigotref19_With.L1 i l0 =
  bif (decide ((i : Int) > 0)) then
    bif (decide ((0 : Int) ≤ i ∧ (i : Int) < ((List.length l0 : Int)))) then
      bif (decide ((0 : Int) ≤ (IntKind.wrap .i64 (i - 1)) ∧ ((IntKind.wrap .i64 (i - 1)) : Int) < ((List.length l0 : Int)))) then
        bif (decide ((((List.getD l0 (Int.toNat i) (0, (List.replicate 3 (0, 0, 0, ())), ((0, 0, 0, ()), 0, 0, 0, ()), (0, ([] : List Int), ([] : List t1.den), (([] : List Int), ([] : List Bool), 0, ()), ([] : List t3.den), (([] : List Int), ([] : List Int), 0, 0, ()), ()), (0, ([] : List Int), ([] : List t1.den), (([] : List Int), ([] : List Bool), 0, ()), ([] : List t3.den), (([] : List Int), ([] : List Int), 0, 0, ()), ()), ([] : List Int), (0, 0, 0, ()), ())).1) : Int) < ((List.getD l0 (Int.toNat (IntKind.wrap .i64 (i - 1))) (0, (List.replicate 3 (0, 0, 0, ())), ((0, 0, 0, ()), 0, 0, 0, ()), (0, ([] : List Int), ([] : List t1.den), (([] : List Int), ([] : List Bool), 0, ()), ([] : List t3.den), (([] : List Int), ([] : List Int), 0, 0, ()), ()), (0, ([] : List Int), ([] : List t1.den), (([] : List Int), ([] : List Bool), 0, ()), ([] : List t3.den), (([] : List Int), ([] : List Int), 0, 0, ()), ()), ([] : List Int), (0, 0, 0, ()), ())).1))) then
          spigotref19_With.L2 i l0
        else
          some (l0, ())
      else none
    else none
  else
    some (l0, ()) := res_eq (by kernel_rfl)
theorem spigotref19_With.L2_eq (i : Int) (l0 : (List t7.den)) : spigotref19_With.L2 i l0 =
  bif (decide ((0 : Int) ≤ (IntKind.wrap .i64 (i - 1)) ∧ ((IntKind.wrap .i64 (i - 1)) : Int) < ((List.length l0 : Int)))) then
    bif (decide ((0 : Int) ≤ i ∧ (i : Int) < ((List.length l0 : Int)))) then
      bif (decide ((0 : Int) ≤ i ∧ (i : Int) < ((List.length l0 : Int)))) then
        bif (decide ((0 : Int) ≤ (IntKind.wrap .i64 (i - 1)) ∧ ((IntKind.wrap .i64 (i - 1)) : Int) < ((List.length (List.set l0 (Int.toNat i) (List.getD l0 (Int.toNat (IntKind.wrap .i64 (i - 1))) (0, (List.replicate 3 (0, 0, 0, ())), ((0, 0, 0, ()), 0, 0, 0, ()), (0, ([] : List Int), ([] : List t1.den), (([] : List Int), ([] : List Bool), 0, ()), ([] : List t3.den), (([] : List Int), ([] : List Int), 0, 0, ()), ()), (0, ([] : List Int), ([] : List t1.den), (([] : List Int), ([] : List Bool), 0, ()), ([] : List t3.den), (([] : List Int), ([] : List Int), 0, 0, ()), ()), ([] : List Int), (0, 0, 0, ()), ()))) : Int)))) then
          spigotref19_With.L1 (IntKind.wrap .i64 (i - 1)) (List.set (List.set l0 (Int.toNat i) (List.getD l0 (Int.toNat (IntKind.wrap .i64 (i - 1))) (0, (List.replicate 3 (0, 0, 0, ())), ((0, 0, 0, ()), 0, 0, 0, ()), (0, ([] : List Int), ([] : List t1.den), (([] : List Int), ([] : List Bool), 0, ()), ([] : List t3.den), (([] : List Int), ([] : List Int), 0, 0, ()), ()), (0, ([] : List Int), ([] : List t1.den), (([] : List Int), ([] : List Bool), 0, ()), ([] : List t3.den), (([] : List Int), ([] : List Int), 0, 0, ()), ()), ([] : List Int), (0, 0, 0, ()), ()))) (Int.toNat (IntKind.wrap .i64 (i - 1))) (List.getD l0 (Int.toNat i) (0, (List.replicate 3 (0, 0, 0, ())), ((0, 0, 0, ()), 0, 0, 0, ()), (0, ([] : List Int), ([] : List t1.den), (([] : List Int), ([] : List Bool), 0, ()), ([] : List t3.den), (([] : List Int), ([] : List Int), 0, 0, ()), ()), (0, ([] : List Int), ([] : List t1.den), (([] : List Int), ([] : List Bool), 0, ()), ([] : List t3.den), (([] : List Int), ([] : List Int), 0, 0, ()), ()), ([] : List Int), (0, 0, 0, ()), ())))
        else none
      else none
    else none
  else none := res_eq (by kernel_rfl)
theorem spigotref19_With.F_eq (l : (List t7.den)) (p : t7.den) : spigotref19_With.F l p =
  (spigotref19_Without.F l p.1).bind fun r0 =>
  (spigotref18_Twin.F p).bind fun r1 =>
  bif (lim ((List.length r0.1) + (List.length ([r1.1] : List t7.den))) t7) then
    spigotref19_With.L1 (IntKind.wrap .i64 (((List.length (r0.1 ++ ([r1.1] : List t7.den)) : Int)) - 1)) (r0.1 ++ ([r1.1] : List t7.den))
  else none := by kernel_rfl
/-! ### spigot/spigotref19.Same (21) -/
noncomputable def spigotref19_Same.sg : Sig := ⟨[.val (.slice t7), .val (.slice t7)], [(.bool, true)]⟩
noncomputable def spigotref19_Same.E : Env := ⟨tl, fun i => look i [(14, spigotref18_Same.Fn)], [], eqs, globs, prims⟩
noncomputable def spigotref19_Same.c := cxOf spigotref19_Same.E spigotref19_Same.sg Try.f21
noncomputable def spigotref19_Same.b := body Try.f21
noncomputable def spigotref19_Same.Fn : Fun := fnOf spigotref19_Same.E spigotref19_Same.sg Try.f21
noncomputable def spigotref19_Same.F (a : (List t7.den)) (b : (List t7.den)) : Option (Bool × Unit) := spigotref19_Same.Fn.F (a, b, ())
noncomputable def spigotref19_Same.S1 (a : (List t7.den)) (b : (List t7.den)) : St := ⟨[(0, (.v (.slice t7) a)), (1, (.v (.slice t7) b))], [], 0, []⟩
noncomputable def spigotref19_Same.L1 (a : (List t7.den)) (b : (List t7.den)) : Option (Bool × Unit) := res spigotref19_Same.c (atJoin spigotref19_Same.b [1, 0, 1]) (spigotref19_Same.S1 a b)
noncomputable def spigotref19_Same.S2 (a : (List t7.den)) (b : (List t7.den)) (i : Int) : St := ⟨[(0, (.v (.slice t7) a)), (1, (.v (.slice t7) b)), (5, (.v (.int .i64) i))], [], 0, []⟩
noncomputable def spigotref19_Same.L2 (a : (List t7.den)) (b : (List t7.den)) (i : Int) : Option (Bool × Unit) := res spigotref19_Same.c (atLoop spigotref19_Same.b [1, 1, 0, 1, 0]) (spigotref19_Same.S2 a b i)
noncomputable def spigotref19_Same.S3 (a : (List t7.den)) (b : (List t7.den)) (i : Int) : St := ⟨[(0, (.v (.slice t7) a)), (1, (.v (.slice t7) b)), (5, (.v (.int .i64) i))], [], 0, []⟩
noncomputable def spigotref19_Same.L3 (a : (List t7.den)) (b : (List t7.den)) (i : Int) : Option (Bool × Unit) := res spigotref19_Same.c (atJoin spigotref19_Same.b [1, 1, 0, 1, 0, 0, 0, 1]) (spigotref19_Same.S3 a b i)
noncomputable def spigotref19_Same.S4 (a : (List t7.den)) (b : (List t7.den)) (i : Int) : St := ⟨[(0, (.v (.slice t7) a)), (1, (.v (.slice t7) b)), (5, (.v (.int .i64) i))], [], 0, []⟩
noncomputable def spigotref19_Same.L4 (a : (List t7.den)) (b : (List t7.den)) (i : Int) : Option (Bool × Unit) := res spigotref19_Same.c (atJoin spigotref19_Same.b [1, 1, 0, 1, 0, 0, 1, 0, 0, 1]) (spigotref19_Same.S4 a b i)
theorem spigotref19_Same.spec : FnSpec Try.prog globs 21 spigotref19_Same.Fn := spec_of (E := spigotref19_Same.E) (envOk_at tabOk eqOk primsOk (.cons spigotref18_Same.spec <| .nil)) mixOk Try.func21 (by kernel_rfl)
theorem spigotref19_Same.L1_eq (a : (List t7.den)) (b : (List t7.den)) : spigotref19_Same.L1 a b =
  spigotref19_Same.L2 a b 0 := res_eq (by kernel_rfl)
theorem spigotref19_Same.L2_eq (a : (List t7.den)) (b : (List t7.den)) (i : Int) : spigotref19_Same.L2 a b i =
  bif (decide ((i : Int) < ((List.length a : Int)))) then
    spigotref19_Same.L3 a b i
  else
    some (true, ()) := res_eq (by kernel_rfl)
theorem spigotref19_Same.L3_eq (a : (List t7.den)) (b : (List t7.den)) (i : Int) : spigotref19_Same.L3 a b i =
  bif (decide ((0 : Int) ≤ i ∧ (i : Int) < ((List.length a : Int)))) then
    bif (decide ((0 : Int) ≤ i ∧ (i : Int) < ((List.length b : Int)))) then
      (spigotref18_Same.F (List.getD a (Int.toNat i) (0, (List.replicate 3 (0, 0, 0, ())), ((0, 0, 0, ()), 0, 0, 0, ()), (0, ([] : List Int), ([] : List t1.den), (([] : List Int), ([] : List Bool), 0, ()), ([] : List t3.den), (([] : List Int), ([] : List Int), 0, 0, ()), ()), (0, ([] : List Int), ([] : List t1.den), (([] : List Int), ([] : List Bool), 0, ()), ([] : List t3.den), (([] : List Int), ([] : List Int), 0, 0, ()), ()), ([] : List Int), (0, 0, 0, ()), ())) (List.getD b (Int.toNat i) (0, (List.replicate 3 (0, 0, 0, ())), ((0, 0, 0, ()), 0, 0, 0, ()), (0, ([] : List Int), ([] : List t1.den), (([] : List Int), ([] : List Bool), 0, ()), ([] : List t3.den), (([] : List Int), ([] : List Int), 0, 0, ()), ()), (0, ([] : List Int), ([] : List t1.den), (([] : List Int), ([] : List Bool), 0, ()), ([] : List t3.den), (([] : List Int), ([] : List Int), 0, 0, ()), ()), ([] : List Int), (0, 0, 0, ()), ()))).bind fun r0 =>
      bif (!r0.1) then
        some (false, ())
      else
        spigotref19_Same.L4 a b i
    else none
  else none := res_eq (by kernel_rfl)
theorem spigotref19_Same.L4_eq (a : (List t7.den)) (b : (List t7.den)) (i : Int) : spigotref19_Same.L4 a b i =
  spigotref19_Same.L2 a b (IntKind.wrap .i64 (i + 1)) := res_eq (by kernel_rfl)
theorem spigotref19_Same.F_eq (a : (List t7.den)) (b : (List t7.den)) : spigotref19_Same.F a b =
  bif (((List.length a : Int)) != ((List.length b : Int))) then
    some (false, ())
  else
    spigotref19_Same.L1 a b := by kernel_rfl
/-! ### spigot/registry.Replace (22) -/
noncomputable def registry_Replace.sg : Sig := ⟨[.val (.slice t7), .val t7], [((.slice t7), true), ((.int .i64), true)]⟩
noncomputable def registry_Replace.E : Env := ⟨tl, fun i => look i [(26, registry_Check.Fn), (31, registry_all.Fn), (32, part_Check.Fn), (33, registry_find.Fn), (35, registry_copied.Fn)], [], eqs, globs, prims⟩
noncomputable def registry_Replace.c := cxOf registry_Replace.E registry_Replace.sg Try.f22
noncomputable def registry_Replace.b := body Try.f22
noncomputable def registry_Replace.Fn : Fun := fnOf registry_Replace.E registry_Replace.sg Try.f22
noncomputable def registry_Replace.F (l : (List t7.den)) (p : t7.den) : Option ((List t7.den) × Int × Unit) := registry_Replace.Fn.F (l, p, ())
noncomputable def registry_Replace.S1 (l : (List t7.den)) (b0 : Int) (b02 : (List t0.den)) (b03 : Int) (b04 : Int) (b05 : Int) (b06 : Int) (b07 : Int) (b08 : Int) (b09 : Int) (b010 : (List Int)) (b011 : (List t1.den)) (b012 : (List Int)) (b013 : (List Bool)) (b014 : Int) (b015 : (List t3.den)) (b016 : (List Int)) (b017 : (List Int)) (b018 : Int) (b019 : Int) (b020 : Int) (b021 : (List Int)) (b022 : (List t1.den)) (b023 : (List Int)) (b024 : (List Bool)) (b025 : Int) (b026 : (List t3.den)) (b027 : (List Int)) (b028 : (List Int)) (b029 : Int) (b030 : Int) (b031 : (List Int)) (b032 : Int) (b033 : Int) (b034 : Int) : St := ⟨[(0, (.v (.slice t7) l)), (3, (.ptr 0 []))], [(0, some (.box (.agg [(.v (.int .u32) b0), (.v (.arr 3 t0) b02), (.agg [(.agg [(.v (.int .i64) b03), (.v (.int .i64) b04), (.v (.int .i64) b05)]), (.v (.int .i64) b06), (.v (.int .i64) b07), (.v (.int .u64) b08)]), (.agg [(.v (.int .i64) b09), (.v (.slice (.int .u32)) b010), (.v (.slice t1) b011), (.agg [(.v (.slice (.int .i64)) b012), (.v (.slice .bool) b013), (.v (.int .i64) b014)]), (.v (.slice t3) b015), (.agg [(.v (.slice (.int .i64)) b016), (.v (.slice (.int .i64)) b017), (.v (.int .i64) b018), (.v (.int .i64) b019)])]), (.agg [(.v (.int .i64) b020), (.v (.slice (.int .u32)) b021), (.v (.slice t1) b022), (.agg [(.v (.slice (.int .i64)) b023), (.v (.slice .bool) b024), (.v (.int .i64) b025)]), (.v (.slice t3) b026), (.agg [(.v (.slice (.int .i64)) b027), (.v (.slice (.int .i64)) b028), (.v (.int .i64) b029), (.v (.int .i64) b030)])]), (.v (.slice (.int .u32)) b031), (.agg [(.v (.int .u64) b032), (.v (.int .u64) b033), (.v (.int .u64) b034)])])))], 1, []⟩
noncomputable def registry_Replace.L1 (l : (List t7.den)) (b0 : Int) (b02 : (List t0.den)) (b03 : Int) (b04 : Int) (b05 : Int) (b06 : Int) (b07 : Int) (b08 : Int) (b09 : Int) (b010 : (List Int)) (b011 : (List t1.den)) (b012 : (List Int)) (b013 : (List Bool)) (b014 : Int) (b015 : (List t3.den)) (b016 : (List Int)) (b017 : (List Int)) (b018 : Int) (b019 : Int) (b020 : Int) (b021 : (List Int)) (b022 : (List t1.den)) (b023 : (List Int)) (b024 : (List Bool)) (b025 : Int) (b026 : (List t3.den)) (b027 : (List Int)) (b028 : (List Int)) (b029 : Int) (b030 : Int) (b031 : (List Int)) (b032 : Int) (b033 : Int) (b034 : Int) : Option ((List t7.den) × Int × Unit) := res registry_Replace.c (atJoin registry_Replace.b [1, 0, 1, 1]) (registry_Replace.S1 l b0 b02 b03 b04 b05 b06 b07 b08 b09 b010 b011 b012 b013 b014 b015 b016 b017 b018 b019 b020 b021 b022 b023 b024 b025 b026 b027 b028 b029 b030 b031 b032 b033 b034)
noncomputable def registry_Replace.S2 (l : (List t7.den)) (b0 : Int) (b02 : (List t0.den)) (b03 : Int) (b04 : Int) (b05 : Int) (b06 : Int) (b07 : Int) (b08 : Int) (b09 : Int) (b010 : (List Int)) (b011 : (List t1.den)) (b012 : (List Int)) (b013 : (List Bool)) (b014 : Int) (b015 : (List t3.den)) (b016 : (List Int)) (b017 : (List Int)) (b018 : Int) (b019 : Int) (b020 : Int) (b021 : (List Int)) (b022 : (List t1.den)) (b023 : (List Int)) (b024 : (List Bool)) (b025 : Int) (b026 : (List t3.den)) (b027 : (List Int)) (b028 : (List Int)) (b029 : Int) (b030 : Int) (b031 : (List Int)) (b032 : Int) (b033 : Int) (b034 : Int) : St := ⟨[(0, (.v (.slice t7) l)), (3, (.ptr 0 []))], [(0, some (.box (.agg [(.v (.int .u32) b0), (.v (.arr 3 t0) b02), (.agg [(.agg [(.v (.int .i64) b03), (.v (.int .i64) b04), (.v (.int .i64) b05)]), (.v (.int .i64) b06), (.v (.int .i64) b07), (.v (.int .u64) b08)]), (.agg [(.v (.int .i64) b09), (.v (.slice (.int .u32)) b010), (.v (.slice t1) b011), (.agg [(.v (.slice (.int .i64)) b012), (.v (.slice .bool) b013), (.v (.int .i64) b014)]), (.v (.slice t3) b015), (.agg [(.v (.slice (.int .i64)) b016), (.v (.slice (.int .i64)) b017), (.v (.int .i64) b018), (.v (.int .i64) b019)])]), (.agg [(.v (.int .i64) b020), (.v (.slice (.int .u32)) b021), (.v (.slice t1) b022), (.agg [(.v (.slice (.int .i64)) b023), (.v (.slice .bool) b024), (.v (.int .i64) b025)]), (.v (.slice t3) b026), (.agg [(.v (.slice (.int .i64)) b027), (.v (.slice (.int .i64)) b028), (.v (.int .i64) b029), (.v (.int .i64) b030)])]), (.v (.slice (.int .u32)) b031), (.agg [(.v (.int .u64) b032), (.v (.int .u64) b033), (.v (.int .u64) b034)])])))], 1, []⟩
noncomputable def registry_Replace.L2 (l : (List t7.den)) (b0 : Int) (b02 : (List t0.den)) (b03 : Int) (b04 : Int) (b05 : Int) (b06 : Int) (b07 : Int) (b08 : Int) (b09 : Int) (b010 : (List Int)) (b011 : (List t1.den)) (b012 : (List Int)) (b013 : (List Bool)) (b014 : Int) (b015 : (List t3.den)) (b016 : (List Int)) (b017 : (List Int)) (b018 : Int) (b019 : Int) (b020 : Int) (b021 : (List Int)) (b022 : (List t1.den)) (b023 : (List Int)) (b024 : (List Bool)) (b025 : Int) (b026 : (List t3.den)) (b027 : (List Int)) (b028 : (List Int)) (b029 : Int) (b030 : Int) (b031 : (List Int)) (b032 : Int) (b033 : Int) (b034 : Int) : Option ((List t7.den) × Int × Unit) := res registry_Replace.c (atJoin registry_Replace.b [1, 1, 0, 1]) (registry_Replace.S2 l b0 b02 b03 b04 b05 b06 b07 b08 b09 b010 b011 b012 b013 b014 b015 b016 b017 b018 b019 b020 b021 b022 b023 b024 b025 b026 b027 b028 b029 b030 b031 b032 b033 b034)
noncomputable def registry_Replace.S3 (l : (List t7.den)) (i : Int) (b0 : Int) (b02 : (List t0.den)) (b03 : Int) (b04 : Int) (b05 : Int) (b06 : Int) (b07 : Int) (b08 : Int) (b09 : Int) (b010 : (List Int)) (b011 : (List t1.den)) (b012 : (List Int)) (b013 : (List Bool)) (b014 : Int) (b015 : (List t3.den)) (b016 : (List Int)) (b017 : (List Int)) (b018 : Int) (b019 : Int) (b020 : Int) (b021 : (List Int)) (b022 : (List t1.den)) (b023 : (List Int)) (b024 : (List Bool)) (b025 : Int) (b026 : (List t3.den)) (b027 : (List Int)) (b028 : (List Int)) (b029 : Int) (b030 : Int) (b031 : (List Int)) (b032 : Int) (b033 : Int) (b034 : Int) : St := ⟨[(0, (.v (.slice t7) l)), (3, (.ptr 0 [])), (7, (.v (.int .i64) i))], [(0, some (.box (.agg [(.v (.int .u32) b0), (.v (.arr 3 t0) b02), (.agg [(.agg [(.v (.int .i64) b03), (.v (.int .i64) b04), (.v (.int .i64) b05)]), (.v (.int .i64) b06), (.v (.int .i64) b07), (.v (.int .u64) b08)]), (.agg [(.v (.int .i64) b09), (.v (.slice (.int .u32)) b010), (.v (.slice t1) b011), (.agg [(.v (.slice (.int .i64)) b012), (.v (.slice .bool) b013), (.v (.int .i64) b014)]), (.v (.slice t3) b015), (.agg [(.v (.slice (.int .i64)) b016), (.v (.slice (.int .i64)) b017), (.v (.int .i64) b018), (.v (.int .i64) b019)])]), (.agg [(.v (.int .i64) b020), (.v (.slice (.int .u32)) b021), (.v (.slice t1) b022), (.agg [(.v (.slice (.int .i64)) b023), (.v (.slice .bool) b024), (.v (.int .i64) b025)]), (.v (.slice t3) b026), (.agg [(.v (.slice (.int .i64)) b027), (.v (.slice (.int .i64)) b028), (.v (.int .i64) b029), (.v (.int .i64) b030)])]), (.v (.slice (.int .u32)) b031), (.agg [(.v (.int .u64) b032), (.v (.int .u64) b033), (.v (.int .u64) b034)])])))], 1, []⟩
noncomputable def registry_Replace.L3 (l : (List t7.den)) (i : Int) (b0 : Int) (b02 : (List t0.den)) (b03 : Int) (b04 : Int) (b05 : Int) (b06 : Int) (b07 : Int) (b08 : Int) (b09 : Int) (b010 : (List Int)) (b011 : (List t1.den)) (b012 : (List Int)) (b013 : (List Bool)) (b014 : Int) (b015 : (List t3.den)) (b016 : (List Int)) (b017 : (List Int)) (b018 : Int) (b019 : Int) (b020 : Int) (b021 : (List Int)) (b022 : (List t1.den)) (b023 : (List Int)) (b024 : (List Bool)) (b025 : Int) (b026 : (List t3.den)) (b027 : (List Int)) (b028 : (List Int)) (b029 : Int) (b030 : Int) (b031 : (List Int)) (b032 : Int) (b033 : Int) (b034 : Int) : Option ((List t7.den) × Int × Unit) := res registry_Replace.c (atJoin registry_Replace.b [1, 1, 1, 1, 0, 1]) (registry_Replace.S3 l i b0 b02 b03 b04 b05 b06 b07 b08 b09 b010 b011 b012 b013 b014 b015 b016 b017 b018 b019 b020 b021 b022 b023 b024 b025 b026 b027 b028 b029 b030 b031 b032 b033 b034)
theorem registry_Replace.spec : FnSpec Try.prog globs 22 registry_Replace.Fn := spec_of (E := registry_Replace.E) (envOk_at tabOk eqOk primsOk (.cons registry_Check.spec <| .cons registry_all.spec <| .cons part_Check.spec <| .cons registry_find.spec <| .cons registry_copied.spec <| .nil)) mixOk Try.func22 (by kernel_rfl)
theorem registry_Replace.L1_eq (l : (List t7.den)) (b0 : Int) (b02 : (List t0.den)) (b03 : Int) (b04 : Int) (b05 : Int) (b06 : Int) (b07 : Int) (b08 : Int) (b09 : Int) (b010 : (List Int)) (b011 : (List t1.den)) (b012 : (List Int)) (b013 : (List Bool)) (b014 : Int) (b015 : (List t3.den)) (b016 : (List Int)) (b017 : (List Int)) (b018 : Int) (b019 : Int) (b020 : Int) (b021 : (List Int)) (b022 : (List t1.den)) (b023 : (List Int)) (b024 : (List Bool)) (b025 : Int) (b026 : (List t3.den)) (b027 : (List Int)) (b028 : (List Int)) (b029 : Int) (b030 : Int) (b031 : (List Int)) (b032 : Int) (b033 : Int) (b034 : Int) : registry_Replace.L1 l b0 b02 b03 b04 b05 b06 b07 b08 b09 b010 b011 b012 b013 b014 b015 b016 b017 b018 b019 b020 b021 b022 b023 b024 b025 b026 b027 b028 b029 b030 b031 b032 b033 b034 =
  (part_Check.F (b0, b02, ((b03, b04, b05, ()), b06, b07, b08, ()), (b09, b010, b011, (b012, b013, b014, ()), b015, (b016, b017, b018, b019, ()), ()), (b020, b021, b022, (b023, b024, b025, ()), b026, (b027, b028, b029, b030, ()), ()), b031, (b032, b033, b034, ()), ())).bind fun r0 =>
  bif (r0.1 != 0) then
    some (([] : List t7.den), 8, ())
  else
    registry_Replace.L2 l b0 b02 b03 b04 b05 b06 b07 b08 b09 b010 b011 b012 b013 b014 b015 b016 b017 b018 b019 b020 b021 b022 b023 b024 b025 b026 b027 b028 b029 b030 b031 b032 b033 b034 := res_eq (by kernel_rfl)
theorem registry_Replace.L2_eq (l : (List t7.den)) (b0 : Int) (b02 : (List t0.den)) (b03 : Int) (b04 : Int) (b05 : Int) (b06 : Int) (b07 : Int) (b08 : Int) (b09 : Int) (b010 : (List Int)) (b011 : (List t1.den)) (b012 : (List Int)) (b013 : (List Bool)) (b014 : Int) (b015 : (List t3.den)) (b016 : (List Int)) (b017 : (List Int)) (b018 : Int) (b019 : Int) (b020 : Int) (b021 : (List Int)) (b022 : (List t1.den)) (b023 : (List Int)) (b024 : (List Bool)) (b025 : Int) (b026 : (List t3.den)) (b027 : (List Int)) (b028 : (List Int)) (b029 : Int) (b030 : Int) (b031 : (List Int)) (b032 : Int) (b033 : Int) (b034 : Int) : registry_Replace.L2 l b0 b02 b03 b04 b05 b06 b07 b08 b09 b010 b011 b012 b013 b014 b015 b016 b017 b018 b019 b020 b021 b022 b023 b024 b025 b026 b027 b028 b029 b030 b031 b032 b033 b034 =
  (registry_find.F l b0).bind fun r0 =>
  bif (!r0.2.1) then
    some (([] : List t7.den), 6, ())
  else
    registry_Replace.L3 l r0.1 b0 b02 b03 b04 b05 b06 b07 b08 b09 b010 b011 b012 b013 b014 b015 b016 b017 b018 b019 b020 b021 b022 b023 b024 b025 b026 b027 b028 b029 b030 b031 b032 b033 b034 := res_eq (by kernel_rfl)
theorem registry_Replace.L3_eq (l : (List t7.den)) (i : Int) (b0 : Int) (b02 : (List t0.den)) (b03 : Int) (b04 : Int) (b05 : Int) (b06 : Int) (b07 : Int) (b08 : Int) (b09 : Int) (b010 : (List Int)) (b011 : (List t1.den)) (b012 : (List Int)) (b013 : (List Bool)) (b014 : Int) (b015 : (List t3.den)) (b016 : (List Int)) (b017 : (List Int)) (b018 : Int) (b019 : Int) (b020 : Int) (b021 : (List Int)) (b022 : (List t1.den)) (b023 : (List Int)) (b024 : (List Bool)) (b025 : Int) (b026 : (List t3.den)) (b027 : (List Int)) (b028 : (List Int)) (b029 : Int) (b030 : Int) (b031 : (List Int)) (b032 : Int) (b033 : Int) (b034 : Int) : registry_Replace.L3 l i b0 b02 b03 b04 b05 b06 b07 b08 b09 b010 b011 b012 b013 b014 b015 b016 b017 b018 b019 b020 b021 b022 b023 b024 b025 b026 b027 b028 b029 b030 b031 b032 b033 b034 =
  (registry_all.F l).bind fun r0 =>
  (registry_copied.F (b0, b02, ((b03, b04, b05, ()), b06, b07, b08, ()), (b09, b010, b011, (b012, b013, b014, ()), b015, (b016, b017, b018, b019, ()), ()), (b020, b021, b022, (b023, b024, b025, ()), b026, (b027, b028, b029, b030, ()), ()), b031, (b032, b033, b034, ()), ())).bind fun r1 =>
  bif (decide ((0 : Int) ≤ i ∧ (i : Int) < ((List.length r0.1 : Int)))) then
    some ((List.set r0.1 (Int.toNat i) r1.1), 0, ())
  else none := res_eq (by kernel_rfl)
theorem registry_Replace.F_eq (l : (List t7.den)) (p : t7.den) : registry_Replace.F l p =
  (registry_Check.F l).bind fun r0 =>
  bif (r0.1 != 0) then
    some (([] : List t7.den), r0.1, ())
  else
    registry_Replace.L1 l p.1 p.2.1 p.2.2.1.1.1 p.2.2.1.1.2.1 p.2.2.1.1.2.2.1 p.2.2.1.2.1 p.2.2.1.2.2.1 p.2.2.1.2.2.2.1 p.2.2.2.1.1 p.2.2.2.1.2.1 p.2.2.2.1.2.2.1 p.2.2.2.1.2.2.2.1.1 p.2.2.2.1.2.2.2.1.2.1 p.2.2.2.1.2.2.2.1.2.2.1 p.2.2.2.1.2.2.2.2.1 p.2.2.2.1.2.2.2.2.2.1.1 p.2.2.2.1.2.2.2.2.2.1.2.1 p.2.2.2.1.2.2.2.2.2.1.2.2.1 p.2.2.2.1.2.2.2.2.2.1.2.2.2.1 p.2.2.2.2.1.1 p.2.2.2.2.1.2.1 p.2.2.2.2.1.2.2.1 p.2.2.2.2.1.2.2.2.1.1 p.2.2.2.2.1.2.2.2.1.2.1 p.2.2.2.2.1.2.2.2.1.2.2.1 p.2.2.2.2.1.2.2.2.2.1 p.2.2.2.2.1.2.2.2.2.2.1.1 p.2.2.2.2.1.2.2.2.2.2.1.2.1 p.2.2.2.2.1.2.2.2.2.2.1.2.2.1 p.2.2.2.2.1.2.2.2.2.2.1.2.2.2.1 p.2.2.2.2.2.1 p.2.2.2.2.2.2.1.1 p.2.2.2.2.2.2.1.2.1 p.2.2.2.2.2.2.1.2.2.1 := by kernel_rfl
end Go.Proofs.Ytjmgelpeonodgaa.PM
