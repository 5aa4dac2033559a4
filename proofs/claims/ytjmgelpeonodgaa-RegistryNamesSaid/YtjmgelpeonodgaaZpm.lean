/- Contracts and equations of the functions, printed by a program of this session: part 2. -/
import Derived.Test.YtjmgelpeonodgaaZpmC
namespace Go.Proofs.Ytjmgelpeonodgaa.PM
open Go Go.Proofs
set_option linter.unusedVariables false
/-! ### spigot/registry.Replace (22) -/
noncomputable def registry_Replace.sg : Sig := ⟨[.val (.slice t7), .val t7], [((.slice t7), true), ((.int .i64), true)]⟩
noncomputable def registry_Replace.E : Env := ⟨tl, fun i => look i [(26, registry_Check.Fn), (31, registry_all.Fn), (32, part_Check.Fn), (33, registry_find.Fn), (35, registry_copied.Fn)], [], eqs, globs, prims⟩
noncomputable def registry_Replace.c := cxOf registry_Replace.E registry_Replace.sg Try.f22
noncomputable def registry_Replace.b := body Try.f22
noncomputable def registry_Replace.Fn : Fun := fnOf registry_Replace.E registry_Replace.sg Try.f22
noncomputable def registry_Replace.F (l : (List t7.den)) (p : t7.den) : Option ((List t7.den) × Int × Unit) := registry_Replace.Fn.F (l, p, ())
noncomputable def registry_Replace.S1 (l : (List t7.den)) (b0 : Int) (b02 : (List t0.den)) (b03 : Int) (b04 : Int) (b05 : Int) (b06 : Int) (b07 : Int) (b08 : Int) (b09 : Int) (b010 : (List Int)) (b011 : (List t1.den)) (b012 : (List Int)) (b013 : (List Bool)) (b014 : Int) (b015 : (List t3.den)) (b016 : (List Int)) (b017 : (List Int)) (b018 : Int) (b019 : Int) (b020 : Int) (b021 : (List Int)) (b022 : (List t1.den)) (b023 : (List Int)) (b024 : (List Bool)) (b025 : Int) (b026 : (List t3.den)) (b027 : (List Int)) (b028 : (List Int)) (b029 : Int) (b030 : Int) (b031 : (List Int)) (b032 : Int) (b033 : Int) (b034 : Int) : St := ⟨[(0, (.v (.slice t7) l)), (3, (.ptr 0 []))], [(0, some (.box (.agg [(.v (.int .u32) b0), (.v (.arr 3 t0) b02), (.agg [(.agg [(.v (.int .i64) b03), (.v (.int .i64) b04), (.v (.int .i64) b05)]), (.v (.int .i64) b06), (.v (.int .i64) b07), (.v (.int .u64) b08)]), (.agg [(.v (.int .i64) b09), (.v (.slice (.int .u32)) b010), (.v (.slice t1) b011), (.agg [(.v (.slice (.int .i64)) b012), (.v (.slice .bool) b013), (.v (.int .i64) b014)]), (.v (.slice t3) b015), (.agg [(.v (.slice (.int .i64)) b016), (.v (.slice (.int .i64)) b017), (.v (.int .i64) b018), (.v (.int .i64) b019)])]), (.agg [(.v (.int .i64) b020), (.v (.slice (.int .u32)) b021), (.v (.slice t1) b022), (.agg [(.v (.slice (.int .i64)) b023), (.v (.slice .bool) b024), (.v (.int .i64) b025)]), (.v (.slice t3) b026), (.agg [(.v (.slice (.int .i64)) b027), (.v (.slice (.int .i64)) b028), (.v (.int .i64) b029), (.v (.int .i64) b030)])]), (.v (.slice (.int .u32)) b031), (.agg [(.v (.int .u64) b032), (.v (.int .u64) b033), (.v (.int .u64) b034)])])))], 1, []⟩
noncomputable def registry_Replace.L1 (l : (List t7.den)) (b0 : Int) (b02 : (List t0.den)) (b03 : Int) (b04 : Int) (b05 : Int) (b06 : Int) (b07 : Int) (b08 : Int) (b09 : Int) (b010 : (List Int)) (b011 : (List t1.den)) (b012 : (List Int)) (b013 : (List Bool)) (b014 : Int) (b015 : (List t3.den)) (b016 : (List Int)) (b017 : (List Int)) (b018 : Int) (b019 : Int) (b020 : Int) (b021 : (List Int)) (b022 : (List t1.den)) (b023 : (List Int)) (b024 : (List Bool)) (b025 : Int) (b026 : (List t3.den)) (b027 : (List Int)) (b028 : (List Int)) (b029 : Int) (b030 : Int) (b031 : (List Int)) (b032 : Int) (b033 : Int) (b034 : Int) : Option ((List t7.den) × Int × Unit) := res registry_Replace.c (atJoin registry_Replace.b [1, 0, 1, 1]) (registry_Replace.S1 l b0 b02 b03 b04 b05 b06 b07 b08 b09 b010 b011 b012 b013 b014 b015 b016 b017 b018 b019 b020 b021 b022 b023 b024 b025 b026 b027 b028 b029 b030 b031 b032 b033 b034)
noncomputable def registry_Replace.S2 (l : (List t7.den)) (b0 : Int) (b02 : (List t0.den)) (b03 : Int) (b04 : Int) (b05 : Int) (b06 : Int) (b07 : Int) (b08 : Int) (b09 : Int) (b010 : (List Int)) (b011 : (List t1.den)) (b012 : (List Int)) (b013 : (List Bool)) (b014 : Int) (b015 : (List t3.den)) (b016 : (List Int)) (b017 : (List Int)) (b018 : Int) (b019 : Int) (b020 : Int) (b021 : (List Int)) (b022 : (List t1.den)) (b023 : (List Int)) (b024 : (List Bool)) (b025 : Int) (b026 : (List t3.den)) (b027 : (List Int)) (b028 : (List Int)) (b029 : Int) (b030 : Int) (b031 : (List Int)) (b032 : Int) (b033 : Int) (b034 : Int) : St := ⟨[(0, (.v (.slice t7) l)), (3, (.ptr 0 []))], [(0, some (.box (.agg [(.v (.int .u32) b0), (.v (.arr 3 t0) b02), (.agg [(.agg [(.v (.int .i64) b03), (.v (.int .i64) b04), (.v (.int .i64) b05)]), (.v (.int .i64) b06), (.v (.int .i64) b07), (.v (.int .u64) b08)]), (.agg [(.v (.int .i64) b09), (.v (.slice (.int .u32)) b010), (.v (.slice t1) b011), (.agg [(.v (.slice (.int .i64)) b012), (.v (.slice .bool) b013), (.v (.int .i64) b014)]), (.v (.slice t3) b015), (.agg [(.v (.slice (.int .i64)) b016), (.v (.slice (.int .i64)) b017), (.v (.int .i64) b018), (.v (.int .i64) b019)])]), (.agg [(.v (.int .i64) b020), (.v (.slice (.int .u32)) b021), (.v (.slice t1) b022), (.agg [(.v (.slice (.int .i64)) b023), (.v (.slice .bool) b024), (.v (.int .i64) b025)]), (.v (.slice t3) b026), (.agg [(.v (.slice (.int .i64)) b027), (.v (.slice (.int .i64)) b028), (.v (.int .i64) b029), (.v (.int .i64) b030)])]), (.v (.slice (.int .u32)) b031), (.agg [(.v (.int .u64) b032), (.v (.int .u64) b033), (.v (.int .u64) b034)])])))], 1, []⟩
noncomputable def registry_Replace.L2 (l : (List t7.den)) (b0 : Int) (b02 : (List t0.den)) (b03 : Int) (b04 : Int) (b05 : Int) (b06 : Int) (b07 : Int) (b08 : Int) (b09 : Int) (b010 : (List Int)) (b011 : (List t1.den)) (b012 : (List Int)) (b013 : (List Bool)) (b014 : Int) (b015 : (List t3.den)) (b016 : (List Int)) (b017 : (List Int)) (b018 : Int) (b019 : Int) (b020 : Int) (b021 : (List Int)) (b022 : (List t1.den)) (b023 : (List Int)) (b024 : (List Bool)) (b025 : Int) (b026 : (List t3.den)) (b027 : (List Int)) (b028 : (List Int)) (b029 : Int) (b030 : Int) (b031 : (List Int)) (b032 : Int) (b033 : Int) (b034 : Int) : Option ((List t7.den) × Int × Unit) := res registry_Replace.c (atJoin registry_Replace.b [1, 1, 0, 1]) (registry_Replace.S2 l b0 b02 b03 b04 b05 b06 b07 b08 b09 b010 b011 b012 b013 b014 b015 b016 b017 b018 b019 b020 b021 b022 b023 b024 b025 b026 b027 b028 b029 b030 b031 b032 b033 b034)
noncomputable def registry_Replace.S3 (l : (List t7.den)) (i : Int) (b0 : Int) (b02 : (List t0.den)) (b03 : Int) (b04 : Int) (b05 : Int) (b06 : Int) (b07 : Int) (b08 : Int) (b09 : Int) (b010 : (List Int)) (b011 : (List t1.den)) (b012 : (List Int)) (b013 : (List Bool)) (b014 : Int) (b015 : (List t3.den)) (b016 : (List Int)) (b017 : (List Int)) (b018 : Int) (b019 : Int) (b020 : Int) (b021 : (List Int)) (b022 : (List t1.den)) (b023 : (List Int)) (b024 : (List Bool)) (b025 : Int) (b026 : (List t3.den)) (b027 : (List Int)) (b028 : (List Int)) (b029 : Int) (b030 : Int) (b031 : (List Int)) (b032 : Int) (b033 : Int) (b034 : Int) : St := ⟨[(0, (.v (.slice t7) l)), (3, (.ptr 0 [])), (7, (.v (.int .i64) i))], [(0, some (.box (.agg [(.v (.int .u32) b0), (.v (.arr 3 t0) b02), (.agg [(.agg [(.v (.int .i64) b03), (.v (.int .i64) b04), (.v (.int .i64) b05)]), (.v (.int .i64) b06), (.v (.int .i64) b07), (.v (.int .u64) b08)]), (.agg [(.v (.int .i64) b09), (.v (.slice (.int .u32)) b010), (.v (.slice t1) b011), (.agg [(.v (.slice (.int .i64)) b012), (.v (.slice .bool) b013), (.v (.int .i64) b014)]), (.v (.slice t3) b015), (.agg [(.v (.slice (.int .i64)) b016), (.v (.slice (.int .i64)) b017), (.v (.int .i64) b018), (.v (.int .i64) b019)])]), (.agg [(.v (.int .i64) b020), (.v (.slice (.int .u32)) b021), (.v (.slice t1) b022), (.agg [(.v (.slice (.int .i64)) b023), (.v (.slice .bool) b024), (.v (.int .i64) b025)]), (.v (.slice t3) b026), (.agg [(.v (.slice (.int .i64)) b027), (.v (.slice (.int .i64)) b028), (.v (.int .i64) b029), (.v (.int .i64) b030)])]), (.v (.slice (.int .u32)) b031), (.agg [(.v (.int .u64) b032), (.v (.int .u64) b033), (.v (.int .u64) b034)])])))], 1, []⟩
noncomputable def registry_Replace.L3 (l : (List t7.den)) (i : Int) (b0 : Int) (b02 : (List t0.den)) (b03 : Int) (b04 : Int) (b05 : Int) (b06 : Int) (b07 : Int) (b08 : Int) (b09 : Int) (b010 : (List Int)) (b011 : (List t1.den)) (b012 : (List Int)) (b013 : (List Bool)) (b014 : Int) (b015 : (List t3.den)) (b016 : (List Int)) (b017 : (List Int)) (b018 : Int) (b019 : Int) (b020 : Int) (b021 : (List Int)) (b022 : (List t1.den)) (b023 : (List Int)) (b024 : (List Bool)) (b025 : Int) (b026 : (List t3.den)) (b027 : (List Int)) (b028 : (List Int)) (b029 : Int) (b030 : Int) (b031 : (List Int)) (b032 : Int) (b033 : Int) (b034 : Int) : Option ((List t7.den) × Int × Unit) := res registry_Replace.c (atJoin registry_Replace.b [1, 1, 1, 1, 0, 1]) (registry_Replace.S3 l i b0 b02 b03 b04 b05 b06 b07 b08 b09 b010 b011 b012 b013 b014 b015 b016 b017 b018 b019 b020 b021 b022 b023 b024 b025 b026 b027 b028 b029 b030 b031 b032 b033 b034)
theorem registry_Replace.spec : FnSpec Try.prog globs 22 registry_Replace.Fn := spec_of (E := registry_Replace.E) (envOk_at tabOk eqOk primsOk (.cons registry_Check.spec <| .cons registry_all.spec <| .cons part_Check.spec <| .cons registry_find.spec <| .cons registry_copied.spec <| .nil)) mixOk Try.func22 (by kernel_rfl)
theorem registry_Replace.L1_eq (l : (List t7.den)) (b0 : Int) (b02 : (List t0.den)) (b03 : Int) (b04 : Int) (b05 : Int) (b06 : Int) (b07 : Int) (b08 : Int) (b09 : Int) (b010 : (List Int)) (b011 : (List t1.den)) (b012 : (List Int)) (b013 : (List Bool)) (b014 : Int) (b015 : (List t3.den)) (b016 : (List Int)) (b017 : (List Int)) (b018 : Int) (b019 : Int) (b020 : Int) (b021 : (List Int)) (b022 : (List t1.den)) (b023 : (List Int)) (b024 : (List Bool)) (b025 : Int) (b026 : (List t3.den)) (b027 : (List Int)) (b028 : (List Int)) (b029 : Int) (b030 : Int) (b031 : (List Int)) (b032 : Int) (b033 : Int) (b034 : Int) : registry_Replace.L1 l b0 b02 b03 b04 b05 b06 b07 b08 b09 b010 b011 b012 b013 b014 b015 b016 b017 b018 b019 b020 b021 b022 b023 b024 b025 b026 b027 b028 b029 b030 b031 b032 b033 b034 =
  (part_Check.F (b0, b02, ((b03, b04, b05, ()), b06, b07, b08, ()), (b09, b010, b011, (b012, b013, b014, ()), b015, (b016, b017, b018, b019, ()), ()), (b020, b021, b022, (b023, b024, b025, ()), b026, (b027, b028, b029, b030, ()), ()), b031, (b032, b033, b034, ()), ())).bind fun r0 =>
  bif (r0.1 != 0) then
    some (([] : List t7.den), 8, ())
  else
    registry_Replace.L2 l b0 b02 b03 b04 b05 b06 b07 b08 b09 b010 b011 b012 b013 b014 b015 b016 b017 b018 b019 b020 b021 b022 b023 b024 b025 b026 b027 b028 b029 b030 b031 b032 b033 b034 := res_eq (by kernel_rfl)
theorem registry_Replace.L2_eq (l : (List t7.den)) (b0 : Int) (b02 : (List t0.den)) (b03 : Int) (b04 : Int) (b05 : Int) (b06 : Int) (b07 : Int) (b08 : Int) (b09 : Int) (b010 : (List Int)) (b011 : (List t1.den)) (b012 : (List Int)) (b013 : (List Bool)) (b014 : Int) (b015 : (List t3.den)) (b016 : (List Int)) (b017 : (List Int)) (b018 : Int) (b019 : Int) (b020 : Int) (b021 : (List Int)) (b022 : (List t1.den)) (b023 : (List Int)) (b024 : (List Bool)) (b025 : Int) (b026 : (List t3.den)) (b027 : (List Int)) (b028 : (List Int)) (b029 : Int) (b030 : Int) (b031 : (List Int)) (b032 : Int) (b033 : Int) (b034 : Int) : registry_Replace.L2 l b0 b02 b03 b04 b05 b06 b07 b08 b09 b010 b011 b012 b013 b014 b015 b016 b017 b018 b019 b020 b021 b022 b023 b024 b025 b026 b027 b028 b029 b030 b031 b032 b033 b034 =
  (registry_find.F l b0).bind fun r0 =>
  bif (!r0.2.1) then
    some (([] : List t7.den), 6, ())
  else
    registry_Replace.L3 l r0.1 b0 b02 b03 b04 b05 b06 b07 b08 b09 b010 b011 b012 b013 b014 b015 b016 b017 b018 b019 b020 b021 b022 b023 b024 b025 b026 b027 b028 b029 b030 b031 b032 b033 b034 := res_eq (by kernel_rfl)
theorem registry_Replace.L3_eq (l : (List t7.den)) (i : Int) (b0 : Int) (b02 : (List t0.den)) (b03 : Int) (b04 : Int) (b05 : Int) (b06 : Int) (b07 : Int) (b08 : Int) (b09 : Int) (b010 : (List Int)) (b011 : (List t1.den)) (b012 : (List Int)) (b013 : (List Bool)) (b014 : Int) (b015 : (List t3.den)) (b016 : (List Int)) (b017 : (List Int)) (b018 : Int) (b019 : Int) (b020 : Int) (b021 : (List Int)) (b022 : (List t1.den)) (b023 : (List Int)) (b024 : (List Bool)) (b025 : Int) (b026 : (List t3.den)) (b027 : (List Int)) (b028 : (List Int)) (b029 : Int) (b030 : Int) (b031 : (List Int)) (b032 : Int) (b033 : Int) (b034 : Int) : registry_Replace.L3 l i b0 b02 b03 b04 b05 b06 b07 b08 b09 b010 b011 b012 b013 b014 b015 b016 b017 b018 b019 b020 b021 b022 b023 b024 b025 b026 b027 b028 b029 b030 b031 b032 b033 b034 =
  (registry_all.F l).bind fun r0 =>
  (registry_copied.F (b0, b02, ((b03, b04, b05, ()), b06, b07, b08, ()), (b09, b010, b011, (b012, b013, b014, ()), b015, (b016, b017, b018, b019, ()), ()), (b020, b021, b022, (b023, b024, b025, ()), b026, (b027, b028, b029, b030, ()), ()), b031, (b032, b033, b034, ()), ())).bind fun r1 =>
  bif (decide ((0 : Int) ≤ i ∧ (i : Int) < ((List.length r0.1 : Int)))) then
    some ((List.set r0.1 (Int.toNat i) r1.1), 0, ())
  else none := res_eq (by kernel_rfl)
theorem registry_Replace.F_eq (l : (List t7.den)) (p : t7.den) : registry_Replace.F l p =
  (registry_Check.F l).bind fun r0 =>
  bif (r0.1 != 0) then
    some (([] : List t7.den), r0.1, ())
  else
    registry_Replace.L1 l p.1 p.2.1 p.2.2.1.1.1 p.2.2.1.1.2.1 p.2.2.1.1.2.2.1 p.2.2.1.2.1 p.2.2.1.2.2.1 p.2.2.1.2.2.2.1 p.2.2.2.1.1 p.2.2.2.1.2.1 p.2.2.2.1.2.2.1 p.2.2.2.1.2.2.2.1.1 p.2.2.2.1.2.2.2.1.2.1 p.2.2.2.1.2.2.2.1.2.2.1 p.2.2.2.1.2.2.2.2.1 p.2.2.2.1.2.2.2.2.2.1.1 p.2.2.2.1.2.2.2.2.2.1.2.1 p.2.2.2.1.2.2.2.2.2.1.2.2.1 p.2.2.2.1.2.2.2.2.2.1.2.2.2.1 p.2.2.2.2.1.1 p.2.2.2.2.1.2.1 p.2.2.2.2.1.2.2.1 p.2.2.2.2.1.2.2.2.1.1 p.2.2.2.2.1.2.2.2.1.2.1 p.2.2.2.2.1.2.2.2.1.2.2.1 p.2.2.2.2.1.2.2.2.2.1 p.2.2.2.2.1.2.2.2.2.2.1.1 p.2.2.2.2.1.2.2.2.2.2.1.2.1 p.2.2.2.2.1.2.2.2.2.2.1.2.2.1 p.2.2.2.2.1.2.2.2.2.2.1.2.2.2.1 p.2.2.2.2.2.1 p.2.2.2.2.2.2.1.1 p.2.2.2.2.2.2.1.2.1 p.2.2.2.2.2.2.1.2.2.1 := by kernel_rfl
/-! ### spigot/spigotlaw19.RegistryNames (5) -/
noncomputable def spigotlaw19_RegistryNames.sg : Sig := ⟨[], [(.bool, true)]⟩
noncomputable def spigotlaw19_RegistryNames.E : Env := ⟨tl, fun i => look i [(8, spigotlaw19_alive.Fn), (9, registry_Drop.Fn), (10, registry_Put.Fn), (11, spigotlaw19_of.Fn), (13, registry_Find.Fn), (22, registry_Replace.Fn), (24, registry_Tenants.Fn), (26, registry_Check.Fn)], [], eqs, globs, prims⟩
noncomputable def spigotlaw19_RegistryNames.c := cxOf spigotlaw19_RegistryNames.E spigotlaw19_RegistryNames.sg Try.f5
noncomputable def spigotlaw19_RegistryNames.b := body Try.f5
noncomputable def spigotlaw19_RegistryNames.Fn : Fun := fnOf spigotlaw19_RegistryNames.E spigotlaw19_RegistryNames.sg Try.f5
noncomputable def spigotlaw19_RegistryNames.F : Option (Bool × Unit) := spigotlaw19_RegistryNames.Fn.F ()
noncomputable def spigotlaw19_RegistryNames.S1 (i : Int) (l0 : (List t7.den)) : St := ⟨[(1, (.sl 0)), (2, (.v (.int .i64) i))], [(0, some (.row t7 l0 false))], 1, []⟩
noncomputable def spigotlaw19_RegistryNames.L1 (i : Int) (l0 : (List t7.den)) : Option (Bool × Unit) := res spigotlaw19_RegistryNames.c (atLoop spigotlaw19_RegistryNames.b [1, 1, 0, 1, 0]) (spigotlaw19_RegistryNames.S1 i l0)
noncomputable def spigotlaw19_RegistryNames.S2 (i : Int) (l0 : (List t7.den)) : St := ⟨[(1, (.sl 0)), (2, (.v (.int .i64) i))], [(0, some (.row t7 l0 false))], 1, []⟩
noncomputable def spigotlaw19_RegistryNames.L2 (i : Int) (l0 : (List t7.den)) : Option (Bool × Unit) := res spigotlaw19_RegistryNames.c (atJoin spigotlaw19_RegistryNames.b [1, 1, 0, 1, 0, 0, 0, 1]) (spigotlaw19_RegistryNames.S2 i l0)
noncomputable def spigotlaw19_RegistryNames.S3 (i : Int) (l0 : (List t7.den)) (l1 : (List (List t7.den))) : St := ⟨[(1, (.sl 0)), (3, (.sl 1)), (4, (.v (.int .i64) i))], [(0, some (.row t7 l0 false)), (1, some (.row (.slice t7) l1 false))], 2, []⟩
noncomputable def spigotlaw19_RegistryNames.L3 (i : Int) (l0 : (List t7.den)) (l1 : (List (List t7.den))) : Option (Bool × Unit) := res spigotlaw19_RegistryNames.c (atLoop spigotlaw19_RegistryNames.b [1, 1, 1, 1, 0, 1, 0]) (spigotlaw19_RegistryNames.S3 i l0 l1)
noncomputable def spigotlaw19_RegistryNames.S4 (i : Int) (l0 : (List t7.den)) (l1 : (List (List t7.den))) : St := ⟨[(1, (.sl 0)), (3, (.sl 1)), (4, (.v (.int .i64) i))], [(0, some (.row t7 l0 false)), (1, some (.row (.slice t7) l1 false))], 2, []⟩
noncomputable def spigotlaw19_RegistryNames.L4 (i : Int) (l0 : (List t7.den)) (l1 : (List (List t7.den))) : Option (Bool × Unit) := res spigotlaw19_RegistryNames.c (atJoin spigotlaw19_RegistryNames.b [1, 1, 1, 1, 0, 1, 0, 0, 0, 1]) (spigotlaw19_RegistryNames.S4 i l0 l1)
noncomputable def spigotlaw19_RegistryNames.S5 (i : Int) (l0 : (List t7.den)) (l1 : (List (List t7.den))) : St := ⟨[(1, (.sl 0)), (3, (.sl 1)), (4, (.v (.int .i64) i))], [(0, some (.row t7 l0 false)), (1, some (.row (.slice t7) l1 false))], 2, []⟩
noncomputable def spigotlaw19_RegistryNames.L5 (i : Int) (l0 : (List t7.den)) (l1 : (List (List t7.den))) : Option (Bool × Unit) := res spigotlaw19_RegistryNames.c (atJoin spigotlaw19_RegistryNames.b [1, 1, 1, 1, 0, 1, 0, 0, 1, 0, 0, 1, 1]) (spigotlaw19_RegistryNames.S5 i l0 l1)
theorem spigotlaw19_RegistryNames.spec : FnSpec Try.prog globs 5 spigotlaw19_RegistryNames.Fn := spec_of (E := spigotlaw19_RegistryNames.E) (envOk_at tabOk eqOk primsOk (.cons spigotlaw19_alive.spec <| .cons registry_Drop.spec <| .cons registry_Put.spec <| .cons spigotlaw19_of.spec <| .cons registry_Find.spec <| .cons registry_Replace.spec <| .cons registry_Tenants.spec <| .cons registry_Check.spec <| .nil)) mixOk Try.func5 (by kernel_rfl)
theorem spigotlaw19_RegistryNames.L1_eq (i : Int) (l0 : (List t7.den)) : spigotlaw19_RegistryNames.L1 i l0 =
  bif (decide ((i : Int) < 8)) then
    spigotlaw19_RegistryNames.L2 i l0
  else
    (spigotlaw19_of.F 1).bind fun r0 =>
    (spigotlaw19_of.F 1).bind fun r1 =>
    (spigotlaw19_of.F 2).bind fun r2 =>
    (spigotlaw19_of.F 1).bind fun r3 =>
    spigotlaw19_RegistryNames.L3 0 l0 ([([(0, (List.replicate 3 (0, 0, 0, ())), ((0, 0, 0, ()), 0, 0, 0, ()), (0, ([] : List Int), ([] : List t1.den), (([] : List Int), ([] : List Bool), 0, ()), ([] : List t3.den), (([] : List Int), ([] : List Int), 0, 0, ()), ()), (0, ([] : List Int), ([] : List t1.den), (([] : List Int), ([] : List Bool), 0, ()), ([] : List t3.den), (([] : List Int), ([] : List Int), 0, 0, ()), ()), ([] : List Int), (0, 0, 0, ()), ())] : List t7.den), ([r0.1, r1.1] : List t7.den), ([r2.1, r3.1] : List t7.den)] : List (List t7.den)) := res_eq (by kernel_rfl)
theorem spigotlaw19_RegistryNames.L2_eq (i : Int) (l0 : (List t7.den)) : spigotlaw19_RegistryNames.L2 i l0 =
  (spigotlaw19_of.F (IntKind.wrap .u32 i)).bind fun r0 =>
  bif (lim ((List.length l0) + (List.length ([r0.1] : List t7.den))) t7) then
    spigotlaw19_RegistryNames.L1 (IntKind.wrap .i64 (i + 1)) (l0 ++ ([r0.1] : List t7.den))
  else none := res_eq (by kernel_rfl)
theorem spigotlaw19_RegistryNames.L3_eq (i : Int) (l0 : (List t7.den)) (l1 : (List (List t7.den))) : spigotlaw19_RegistryNames.L3 i l0 l1 =
  bif (decide ((i : Int) < ((List.length l1 : Int)))) then
    spigotlaw19_RegistryNames.L4 i l0 l1
  else
    bif (decide ((0 : Int) ≤ 9 ∧ (9 : Int) ≤ 9) && (lim (Int.toNat 9) t7)) then
      (registry_Check.F (List.replicate (Int.toNat 9) (0, (List.replicate 3 (0, 0, 0, ())), ((0, 0, 0, ()), 0, 0, 0, ()), (0, ([] : List Int), ([] : List t1.den), (([] : List Int), ([] : List Bool), 0, ()), ([] : List t3.den), (([] : List Int), ([] : List Int), 0, 0, ()), ()), (0, ([] : List Int), ([] : List t1.den), (([] : List Int), ([] : List Bool), 0, ()), ([] : List t3.den), (([] : List Int), ([] : List Int), 0, 0, ()), ()), ([] : List Int), (0, 0, 0, ()), ()))).bind fun r0 =>
      (spigotlaw19_of.F 8).bind fun r1 =>
      (registry_Put.F l0 r1.1).bind fun r2 =>
      (spigotlaw19_of.F 7).bind fun r3 =>
      (registry_Put.F l0 r3.1).bind fun r4 =>
      (registry_Put.F l0 (0, (List.replicate 3 (0, 0, 0, ())), ((0, 0, 0, ()), 0, 0, 0, ()), (0, ([] : List Int), ([] : List t1.den), (([] : List Int), ([] : List Bool), 0, ()), ([] : List t3.den), (([] : List Int), ([] : List Int), 0, 0, ()), ()), (0, ([] : List Int), ([] : List t1.den), (([] : List Int), ([] : List Bool), 0, ()), ([] : List t3.den), (([] : List Int), ([] : List Int), 0, 0, ()), ()), ([] : List Int), (0, 0, 0, ()), ())).bind fun r5 =>
      (spigotlaw19_of.F 8).bind fun r6 =>
      (registry_Replace.F l0 r6.1).bind fun r7 =>
      (registry_Replace.F ([] : List t7.den) (0, (List.replicate 3 (0, 0, 0, ())), ((0, 0, 0, ()), 0, 0, 0, ()), (0, ([] : List Int), ([] : List t1.den), (([] : List Int), ([] : List Bool), 0, ()), ([] : List t3.den), (([] : List Int), ([] : List Int), 0, 0, ()), ()), (0, ([] : List Int), ([] : List t1.den), (([] : List Int), ([] : List Bool), 0, ()), ([] : List t3.den), (([] : List Int), ([] : List Int), 0, 0, ()), ()), ([] : List Int), (0, 0, 0, ()), ())).bind fun r8 =>
      (registry_Drop.F l0 4294967295).bind fun r9 =>
      (registry_Find.F ([] : List t7.den) 0).bind fun r10 =>
      (registry_Tenants.F ([] : List t7.den)).bind fun r11 =>
      (registry_Find.F l0 7).bind fun r12 =>
      (spigotlaw19_of.F 5).bind fun r13 =>
      (registry_Drop.F ([r13.1] : List t7.den) 5).bind fun r14 =>
      spigotlaw19_alive.F.bind fun r15 =>
      bif r15.1 then
        bif (r0.1 == 4) then
          bif (r2.2.1 == 18) then
            bif (r4.2.1 == 14) then
              bif (r5.2.1 == 8) then
                bif (r7.2.1 == 6) then
                  bif (r8.2.1 == 8) then
                    bif (r9.2.1 == 6) then
                      bif (r10.2.1 == 6) then
                        bif (r11.2.1 == 0) then
                          bif (((List.length r11.1 : Int)) == 0) then
                            bif (r12.2.1 == 0) then
                              bif (r12.1 == 7) then
                                bif (r14.2.1 == 0) then
                                  some ((((List.length r14.1 : Int)) == 0), ())
                                else
                                  some (false, ())
                              else
                                some (false, ())
                            else
                              some (false, ())
                          else
                            some (false, ())
                        else
                          some (false, ())
                      else
                        some (false, ())
                    else
                      some (false, ())
                  else
                    some (false, ())
                else
                  some (false, ())
              else
                some (false, ())
            else
              some (false, ())
          else
            some (false, ())
        else
          some (false, ())
      else
        some (false, ())
    else none := res_eq (by kernel_rfl)
theorem spigotlaw19_RegistryNames.L4_eq (i : Int) (l0 : (List t7.den)) (l1 : (List (List t7.den))) : spigotlaw19_RegistryNames.L4 i l0 l1 =
  bif (decide ((0 : Int) ≤ i ∧ (i : Int) < ((List.length l1 : Int)))) then
    (registry_Find.F (List.getD l1 (Int.toNat i) ([] : List t7.den)) 1).bind fun r0 =>
    bif (decide ((0 : Int) ≤ i ∧ (i : Int) < ((List.length l1 : Int)))) then
      (registry_Check.F (List.getD l1 (Int.toNat i) ([] : List t7.den))).bind fun r1 =>
      bif (r1.1 != 8) then
        some (false, ())
      else
        bif (r0.2.1 != 8) then
          some (false, ())
        else
          spigotlaw19_RegistryNames.L5 i l0 l1
    else none
  else none := res_eq (by kernel_rfl)
theorem spigotlaw19_RegistryNames.L5_eq (i : Int) (l0 : (List t7.den)) (l1 : (List (List t7.den))) : spigotlaw19_RegistryNames.L5 i l0 l1 =
  spigotlaw19_RegistryNames.L3 (IntKind.wrap .i64 (i + 1)) l0 l1 := res_eq (by kernel_rfl)
theorem spigotlaw19_RegistryNames.F_eq : spigotlaw19_RegistryNames.F =
  spigotlaw19_RegistryNames.L1 0 ([] : List t7.den) := by kernel_rfl
end Go.Proofs.Ytjmgelpeonodgaa.PM
