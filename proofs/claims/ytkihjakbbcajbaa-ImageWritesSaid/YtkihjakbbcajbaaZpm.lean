/- Contracts and equations of the functions, printed by a program of this session: part 2. -/
import Derived.Test.YtkihjakbbcajbaaZpmC
namespace Go.Proofs.Ytkihjakbbcajbaa.PM
open Go Go.Proofs
set_option linter.unusedVariables false
/-! ### spigot/spigotref13.Same (63) -/
noncomputable def spigotref13_Same.sg : Sig := ⟨[.val t2, .val t2], [(.bool, true)]⟩
noncomputable def spigotref13_Same.E : Env := ⟨tl, fun i => look i [], [], eqs, globs, prims⟩
noncomputable def spigotref13_Same.c := cxOf spigotref13_Same.E spigotref13_Same.sg Try.f63
noncomputable def spigotref13_Same.b := body Try.f63
noncomputable def spigotref13_Same.Fn : Fun := fnOf spigotref13_Same.E spigotref13_Same.sg Try.f63
noncomputable def spigotref13_Same.F (a : t2.den) (b : t2.den) : Option (Bool × Unit) := spigotref13_Same.Fn.F (a, b, ())
noncomputable def spigotref13_Same.S1 (b0 : (List Int)) (b02 : (List Bool)) (b03 : Int) (b1 : (List Int)) (b12 : (List Bool)) (b13 : Int) : St := ⟨[(2, (.ptr 0 [])), (3, (.ptr 1 []))], [(0, some (.box (.agg [(.v (.slice (.int .i64)) b0), (.v (.slice .bool) b02), (.v (.int .i64) b03)]))), (1, some (.box (.agg [(.v (.slice (.int .i64)) b1), (.v (.slice .bool) b12), (.v (.int .i64) b13)])))], 2, []⟩
noncomputable def spigotref13_Same.L1 (b0 : (List Int)) (b02 : (List Bool)) (b03 : Int) (b1 : (List Int)) (b12 : (List Bool)) (b13 : Int) : Option (Bool × Unit) := res spigotref13_Same.c (atJoin spigotref13_Same.b [1, 0, 1]) (spigotref13_Same.S1 b0 b02 b03 b1 b12 b13)
noncomputable def spigotref13_Same.S2 (i : Int) (b0 : (List Int)) (b02 : (List Bool)) (b03 : Int) (b1 : (List Int)) (b12 : (List Bool)) (b13 : Int) : St := ⟨[(2, (.ptr 0 [])), (3, (.ptr 1 [])), (5, (.v (.int .i64) i))], [(0, some (.box (.agg [(.v (.slice (.int .i64)) b0), (.v (.slice .bool) b02), (.v (.int .i64) b03)]))), (1, some (.box (.agg [(.v (.slice (.int .i64)) b1), (.v (.slice .bool) b12), (.v (.int .i64) b13)])))], 2, []⟩
noncomputable def spigotref13_Same.L2 (i : Int) (b0 : (List Int)) (b02 : (List Bool)) (b03 : Int) (b1 : (List Int)) (b12 : (List Bool)) (b13 : Int) : Option (Bool × Unit) := res spigotref13_Same.c (atLoop spigotref13_Same.b [1, 1, 0, 1, 0]) (spigotref13_Same.S2 i b0 b02 b03 b1 b12 b13)
noncomputable def spigotref13_Same.S3 (i : Int) (b0 : (List Int)) (b02 : (List Bool)) (b03 : Int) (b1 : (List Int)) (b12 : (List Bool)) (b13 : Int) : St := ⟨[(2, (.ptr 0 [])), (3, (.ptr 1 [])), (5, (.v (.int .i64) i))], [(0, some (.box (.agg [(.v (.slice (.int .i64)) b0), (.v (.slice .bool) b02), (.v (.int .i64) b03)]))), (1, some (.box (.agg [(.v (.slice (.int .i64)) b1), (.v (.slice .bool) b12), (.v (.int .i64) b13)])))], 2, []⟩
noncomputable def spigotref13_Same.L3 (i : Int) (b0 : (List Int)) (b02 : (List Bool)) (b03 : Int) (b1 : (List Int)) (b12 : (List Bool)) (b13 : Int) : Option (Bool × Unit) := res spigotref13_Same.c (atJoin spigotref13_Same.b [1, 1, 0, 1, 0, 0, 0, 1]) (spigotref13_Same.S3 i b0 b02 b03 b1 b12 b13)
noncomputable def spigotref13_Same.S4 (i : Int) (b0 : (List Int)) (b02 : (List Bool)) (b03 : Int) (b1 : (List Int)) (b12 : (List Bool)) (b13 : Int) : St := ⟨[(2, (.ptr 0 [])), (3, (.ptr 1 [])), (6, (.v (.int .i64) i))], [(0, some (.box (.agg [(.v (.slice (.int .i64)) b0), (.v (.slice .bool) b02), (.v (.int .i64) b03)]))), (1, some (.box (.agg [(.v (.slice (.int .i64)) b1), (.v (.slice .bool) b12), (.v (.int .i64) b13)])))], 2, []⟩
noncomputable def spigotref13_Same.L4 (i : Int) (b0 : (List Int)) (b02 : (List Bool)) (b03 : Int) (b1 : (List Int)) (b12 : (List Bool)) (b13 : Int) : Option (Bool × Unit) := res spigotref13_Same.c (atLoop spigotref13_Same.b [1, 1, 1, 0, 1, 0]) (spigotref13_Same.S4 i b0 b02 b03 b1 b12 b13)
noncomputable def spigotref13_Same.S5 (i : Int) (b0 : (List Int)) (b02 : (List Bool)) (b03 : Int) (b1 : (List Int)) (b12 : (List Bool)) (b13 : Int) : St := ⟨[(2, (.ptr 0 [])), (3, (.ptr 1 [])), (6, (.v (.int .i64) i))], [(0, some (.box (.agg [(.v (.slice (.int .i64)) b0), (.v (.slice .bool) b02), (.v (.int .i64) b03)]))), (1, some (.box (.agg [(.v (.slice (.int .i64)) b1), (.v (.slice .bool) b12), (.v (.int .i64) b13)])))], 2, []⟩
noncomputable def spigotref13_Same.L5 (i : Int) (b0 : (List Int)) (b02 : (List Bool)) (b03 : Int) (b1 : (List Int)) (b12 : (List Bool)) (b13 : Int) : Option (Bool × Unit) := res spigotref13_Same.c (atJoin spigotref13_Same.b [1, 1, 1, 0, 1, 0, 0, 0, 1]) (spigotref13_Same.S5 i b0 b02 b03 b1 b12 b13)
noncomputable def spigotref13_Same.S6 (i : Int) (b0 : (List Int)) (b02 : (List Bool)) (b03 : Int) (b1 : (List Int)) (b12 : (List Bool)) (b13 : Int) : St := ⟨[(2, (.ptr 0 [])), (3, (.ptr 1 [])), (6, (.v (.int .i64) i))], [(0, some (.box (.agg [(.v (.slice (.int .i64)) b0), (.v (.slice .bool) b02), (.v (.int .i64) b03)]))), (1, some (.box (.agg [(.v (.slice (.int .i64)) b1), (.v (.slice .bool) b12), (.v (.int .i64) b13)])))], 2, []⟩
noncomputable def spigotref13_Same.L6 (i : Int) (b0 : (List Int)) (b02 : (List Bool)) (b03 : Int) (b1 : (List Int)) (b12 : (List Bool)) (b13 : Int) : Option (Bool × Unit) := res spigotref13_Same.c (atJoin spigotref13_Same.b [1, 1, 1, 0, 1, 0, 0, 1, 0, 0, 1]) (spigotref13_Same.S6 i b0 b02 b03 b1 b12 b13)
noncomputable def spigotref13_Same.S7 (i : Int) (b0 : (List Int)) (b02 : (List Bool)) (b03 : Int) (b1 : (List Int)) (b12 : (List Bool)) (b13 : Int) : St := ⟨[(2, (.ptr 0 [])), (3, (.ptr 1 [])), (5, (.v (.int .i64) i))], [(0, some (.box (.agg [(.v (.slice (.int .i64)) b0), (.v (.slice .bool) b02), (.v (.int .i64) b03)]))), (1, some (.box (.agg [(.v (.slice (.int .i64)) b1), (.v (.slice .bool) b12), (.v (.int .i64) b13)])))], 2, []⟩
noncomputable def spigotref13_Same.L7 (i : Int) (b0 : (List Int)) (b02 : (List Bool)) (b03 : Int) (b1 : (List Int)) (b12 : (List Bool)) (b13 : Int) : Option (Bool × Unit) := res spigotref13_Same.c (atJoin spigotref13_Same.b [1, 1, 0, 1, 0, 0, 1, 0, 0, 1]) (spigotref13_Same.S7 i b0 b02 b03 b1 b12 b13)
theorem spigotref13_Same.spec : FnSpec Try.prog globs 63 spigotref13_Same.Fn := spec_of (E := spigotref13_Same.E) (envOk_at tabOk eqOk primsOk (.nil)) mixOk Try.func63 (by kernel_rfl)
theorem spigotref13_Same.L1_eq (b0 : (List Int)) (b02 : (List Bool)) (b03 : Int) (b1 : (List Int)) (b12 : (List Bool)) (b13 : Int) : spigotref13_Same.L1 b0 b02 b03 b1 b12 b13 =
  spigotref13_Same.L2 0 b0 b02 b03 b1 b12 b13 := res_eq (by kernel_rfl)
theorem spigotref13_Same.L2_eq (i : Int) (b0 : (List Int)) (b02 : (List Bool)) (b03 : Int) (b1 : (List Int)) (b12 : (List Bool)) (b13 : Int) : spigotref13_Same.L2 i b0 b02 b03 b1 b12 b13 =
  bif (decide ((i : Int) < ((List.length b0 : Int)))) then
    spigotref13_Same.L3 i b0 b02 b03 b1 b12 b13
  else
    spigotref13_Same.L4 0 b0 b02 b03 b1 b12 b13 := res_eq (by kernel_rfl)
theorem spigotref13_Same.L3_eq (i : Int) (b0 : (List Int)) (b02 : (List Bool)) (b03 : Int) (b1 : (List Int)) (b12 : (List Bool)) (b13 : Int) : spigotref13_Same.L3 i b0 b02 b03 b1 b12 b13 =
  bif (decide ((0 : Int) ≤ i ∧ (i : Int) < ((List.length b0 : Int)))) then
    bif (decide ((0 : Int) ≤ i ∧ (i : Int) < ((List.length b1 : Int)))) then
      bif ((List.getD b0 (Int.toNat i) 0) != (List.getD b1 (Int.toNat i) 0)) then
        some (false, ())
      else
        spigotref13_Same.L7 i b0 b02 b03 b1 b12 b13
    else none
  else none := res_eq (by kernel_rfl)
theorem spigotref13_Same.L4_eq (i : Int) (b0 : (List Int)) (b02 : (List Bool)) (b03 : Int) (b1 : (List Int)) (b12 : (List Bool)) (b13 : Int) : spigotref13_Same.L4 i b0 b02 b03 b1 b12 b13 =
  bif (decide ((i : Int) < ((List.length b02 : Int)))) then
    spigotref13_Same.L5 i b0 b02 b03 b1 b12 b13
  else
    some (true, ()) := res_eq (by kernel_rfl)
theorem spigotref13_Same.L5_eq (i : Int) (b0 : (List Int)) (b02 : (List Bool)) (b03 : Int) (b1 : (List Int)) (b12 : (List Bool)) (b13 : Int) : spigotref13_Same.L5 i b0 b02 b03 b1 b12 b13 =
  bif (decide ((0 : Int) ≤ i ∧ (i : Int) < ((List.length b02 : Int)))) then
    bif (decide ((0 : Int) ≤ i ∧ (i : Int) < ((List.length b12 : Int)))) then
      bif (!((List.getD b02 (Int.toNat i) false) == (List.getD b12 (Int.toNat i) false))) then
        some (false, ())
      else
        spigotref13_Same.L6 i b0 b02 b03 b1 b12 b13
    else none
  else none := res_eq (by kernel_rfl)
theorem spigotref13_Same.L6_eq (i : Int) (b0 : (List Int)) (b02 : (List Bool)) (b03 : Int) (b1 : (List Int)) (b12 : (List Bool)) (b13 : Int) : spigotref13_Same.L6 i b0 b02 b03 b1 b12 b13 =
  spigotref13_Same.L4 (IntKind.wrap .i64 (i + 1)) b0 b02 b03 b1 b12 b13 := res_eq (by kernel_rfl)
theorem spigotref13_Same.L7_eq (i : Int) (b0 : (List Int)) (b02 : (List Bool)) (b03 : Int) (b1 : (List Int)) (b12 : (List Bool)) (b13 : Int) : spigotref13_Same.L7 i b0 b02 b03 b1 b12 b13 =
  spigotref13_Same.L2 (IntKind.wrap .i64 (i + 1)) b0 b02 b03 b1 b12 b13 := res_eq (by kernel_rfl)
theorem spigotref13_Same.F_eq (a : t2.den) (b : t2.den) : spigotref13_Same.F a b =
  bif (a.2.2.1 != b.2.2.1) then
    some (false, ())
  else
    bif (((List.length a.1 : Int)) != ((List.length b.1 : Int))) then
      some (false, ())
    else
      bif (((List.length a.2.1 : Int)) != ((List.length b.2.1 : Int))) then
        some (false, ())
      else
        spigotref13_Same.L1 a.1 a.2.1 a.2.2.1 b.1 b.2.1 b.2.2.1 := by kernel_rfl
/-! ### spigot/spigotref14.Same (64) -/
noncomputable def spigotref14_Same.sg : Sig := ⟨[.val (.slice t3), .val (.slice t3)], [(.bool, true)]⟩
noncomputable def spigotref14_Same.E : Env := ⟨tl, fun i => look i [], [], eqs, globs, prims⟩
noncomputable def spigotref14_Same.c := cxOf spigotref14_Same.E spigotref14_Same.sg Try.f64
noncomputable def spigotref14_Same.b := body Try.f64
noncomputable def spigotref14_Same.Fn : Fun := fnOf spigotref14_Same.E spigotref14_Same.sg Try.f64
noncomputable def spigotref14_Same.F (a : (List t3.den)) (b : (List t3.den)) : Option (Bool × Unit) := spigotref14_Same.Fn.F (a, b, ())
noncomputable def spigotref14_Same.S1 (a : (List t3.den)) (b : (List t3.den)) : St := ⟨[(0, (.v (.slice t3) a)), (1, (.v (.slice t3) b))], [], 0, []⟩
noncomputable def spigotref14_Same.L1 (a : (List t3.den)) (b : (List t3.den)) : Option (Bool × Unit) := res spigotref14_Same.c (atJoin spigotref14_Same.b [1, 0, 1]) (spigotref14_Same.S1 a b)
noncomputable def spigotref14_Same.S2 (a : (List t3.den)) (b : (List t3.den)) (i : Int) : St := ⟨[(0, (.v (.slice t3) a)), (1, (.v (.slice t3) b)), (5, (.v (.int .i64) i))], [], 0, []⟩
noncomputable def spigotref14_Same.L2 (a : (List t3.den)) (b : (List t3.den)) (i : Int) : Option (Bool × Unit) := res spigotref14_Same.c (atLoop spigotref14_Same.b [1, 1, 0, 1, 0]) (spigotref14_Same.S2 a b i)
noncomputable def spigotref14_Same.S3 (a : (List t3.den)) (b : (List t3.den)) (i : Int) : St := ⟨[(0, (.v (.slice t3) a)), (1, (.v (.slice t3) b)), (5, (.v (.int .i64) i))], [], 0, []⟩
noncomputable def spigotref14_Same.L3 (a : (List t3.den)) (b : (List t3.den)) (i : Int) : Option (Bool × Unit) := res spigotref14_Same.c (atJoin spigotref14_Same.b [1, 1, 0, 1, 0, 0, 0, 1]) (spigotref14_Same.S3 a b i)
noncomputable def spigotref14_Same.S4 (a : (List t3.den)) (b : (List t3.den)) (i : Int) : St := ⟨[(0, (.v (.slice t3) a)), (1, (.v (.slice t3) b)), (5, (.v (.int .i64) i))], [], 0, []⟩
noncomputable def spigotref14_Same.L4 (a : (List t3.den)) (b : (List t3.den)) (i : Int) : Option (Bool × Unit) := res spigotref14_Same.c (atJoin spigotref14_Same.b [1, 1, 0, 1, 0, 0, 1, 0, 0, 1]) (spigotref14_Same.S4 a b i)
theorem spigotref14_Same.spec : FnSpec Try.prog globs 64 spigotref14_Same.Fn := spec_of (E := spigotref14_Same.E) (envOk_at tabOk eqOk primsOk (.nil)) mixOk Try.func64 (by kernel_rfl)
theorem spigotref14_Same.L1_eq (a : (List t3.den)) (b : (List t3.den)) : spigotref14_Same.L1 a b =
  spigotref14_Same.L2 a b 0 := res_eq (by kernel_rfl)
theorem spigotref14_Same.L2_eq (a : (List t3.den)) (b : (List t3.den)) (i : Int) : spigotref14_Same.L2 a b i =
  bif (decide ((i : Int) < ((List.length a : Int)))) then
    spigotref14_Same.L3 a b i
  else
    some (true, ()) := res_eq (by kernel_rfl)
theorem spigotref14_Same.L3_eq (a : (List t3.den)) (b : (List t3.den)) (i : Int) : spigotref14_Same.L3 a b i =
  bif (decide ((0 : Int) ≤ i ∧ (i : Int) < ((List.length a : Int)))) then
    bif (decide ((0 : Int) ≤ i ∧ (i : Int) < ((List.length b : Int)))) then
      bif (!(Ty.beq t3 (List.getD a (Int.toNat i) (0, 0, false, ())) (List.getD b (Int.toNat i) (0, 0, false, ())))) then
        some (false, ())
      else
        spigotref14_Same.L4 a b i
    else none
  else none := res_eq (by kernel_rfl)
theorem spigotref14_Same.L4_eq (a : (List t3.den)) (b : (List t3.den)) (i : Int) : spigotref14_Same.L4 a b i =
  spigotref14_Same.L2 a b (IntKind.wrap .i64 (i + 1)) := res_eq (by kernel_rfl)
theorem spigotref14_Same.F_eq (a : (List t3.den)) (b : (List t3.den)) : spigotref14_Same.F a b =
  bif (((List.length a : Int)) != ((List.length b : Int))) then
    some (false, ())
  else
    spigotref14_Same.L1 a b := by kernel_rfl
/-! ### spigot/spigotref16.Same (46) -/
noncomputable def spigotref16_Same.sg : Sig := ⟨[.val t5, .val t5], [(.bool, true)]⟩
noncomputable def spigotref16_Same.E : Env := ⟨tl, fun i => look i [(47, spigotref16_SameKeys.Fn), (63, spigotref13_Same.Fn), (64, spigotref14_Same.Fn), (65, spigotref15_Same.Fn)], [], eqs, globs, prims⟩
noncomputable def spigotref16_Same.c := cxOf spigotref16_Same.E spigotref16_Same.sg Try.f46
noncomputable def spigotref16_Same.b := body Try.f46
noncomputable def spigotref16_Same.Fn : Fun := fnOf spigotref16_Same.E spigotref16_Same.sg Try.f46
noncomputable def spigotref16_Same.F (a : t5.den) (b : t5.den) : Option (Bool × Unit) := spigotref16_Same.Fn.F (a, b, ())
noncomputable def spigotref16_Same.S1 (b0 : Int) (b02 : (List Int)) (b03 : (List t1.den)) (b04 : (List Int)) (b05 : (List Bool)) (b06 : Int) (b07 : (List t3.den)) (b08 : (List Int)) (b09 : (List Int)) (b010 : Int) (b011 : Int) (b1 : Int) (b12 : (List Int)) (b13 : (List t1.den)) (b14 : (List Int)) (b15 : (List Bool)) (b16 : Int) (b17 : (List t3.den)) (b18 : (List Int)) (b19 : (List Int)) (b110 : Int) (b111 : Int) : St := ⟨[(2, (.ptr 0 [])), (3, (.ptr 1 []))], [(0, some (.box (.agg [(.v (.int .i64) b0), (.v (.slice (.int .u32)) b02), (.v (.slice t1) b03), (.agg [(.v (.slice (.int .i64)) b04), (.v (.slice .bool) b05), (.v (.int .i64) b06)]), (.v (.slice t3) b07), (.agg [(.v (.slice (.int .i64)) b08), (.v (.slice (.int .i64)) b09), (.v (.int .i64) b010), (.v (.int .i64) b011)])]))), (1, some (.box (.agg [(.v (.int .i64) b1), (.v (.slice (.int .u32)) b12), (.v (.slice t1) b13), (.agg [(.v (.slice (.int .i64)) b14), (.v (.slice .bool) b15), (.v (.int .i64) b16)]), (.v (.slice t3) b17), (.agg [(.v (.slice (.int .i64)) b18), (.v (.slice (.int .i64)) b19), (.v (.int .i64) b110), (.v (.int .i64) b111)])])))], 2, []⟩
noncomputable def spigotref16_Same.L1 (b0 : Int) (b02 : (List Int)) (b03 : (List t1.den)) (b04 : (List Int)) (b05 : (List Bool)) (b06 : Int) (b07 : (List t3.den)) (b08 : (List Int)) (b09 : (List Int)) (b010 : Int) (b011 : Int) (b1 : Int) (b12 : (List Int)) (b13 : (List t1.den)) (b14 : (List Int)) (b15 : (List Bool)) (b16 : Int) (b17 : (List t3.den)) (b18 : (List Int)) (b19 : (List Int)) (b110 : Int) (b111 : Int) : Option (Bool × Unit) := res spigotref16_Same.c (atJoin spigotref16_Same.b [1, 0, 1]) (spigotref16_Same.S1 b0 b02 b03 b04 b05 b06 b07 b08 b09 b010 b011 b1 b12 b13 b14 b15 b16 b17 b18 b19 b110 b111)
noncomputable def spigotref16_Same.S2 (i : Int) (b0 : Int) (b02 : (List Int)) (b03 : (List t1.den)) (b04 : (List Int)) (b05 : (List Bool)) (b06 : Int) (b07 : (List t3.den)) (b08 : (List Int)) (b09 : (List Int)) (b010 : Int) (b011 : Int) (b1 : Int) (b12 : (List Int)) (b13 : (List t1.den)) (b14 : (List Int)) (b15 : (List Bool)) (b16 : Int) (b17 : (List t3.den)) (b18 : (List Int)) (b19 : (List Int)) (b110 : Int) (b111 : Int) : St := ⟨[(2, (.ptr 0 [])), (3, (.ptr 1 [])), (5, (.v (.int .i64) i))], [(0, some (.box (.agg [(.v (.int .i64) b0), (.v (.slice (.int .u32)) b02), (.v (.slice t1) b03), (.agg [(.v (.slice (.int .i64)) b04), (.v (.slice .bool) b05), (.v (.int .i64) b06)]), (.v (.slice t3) b07), (.agg [(.v (.slice (.int .i64)) b08), (.v (.slice (.int .i64)) b09), (.v (.int .i64) b010), (.v (.int .i64) b011)])]))), (1, some (.box (.agg [(.v (.int .i64) b1), (.v (.slice (.int .u32)) b12), (.v (.slice t1) b13), (.agg [(.v (.slice (.int .i64)) b14), (.v (.slice .bool) b15), (.v (.int .i64) b16)]), (.v (.slice t3) b17), (.agg [(.v (.slice (.int .i64)) b18), (.v (.slice (.int .i64)) b19), (.v (.int .i64) b110), (.v (.int .i64) b111)])])))], 2, []⟩
noncomputable def spigotref16_Same.L2 (i : Int) (b0 : Int) (b02 : (List Int)) (b03 : (List t1.den)) (b04 : (List Int)) (b05 : (List Bool)) (b06 : Int) (b07 : (List t3.den)) (b08 : (List Int)) (b09 : (List Int)) (b010 : Int) (b011 : Int) (b1 : Int) (b12 : (List Int)) (b13 : (List t1.den)) (b14 : (List Int)) (b15 : (List Bool)) (b16 : Int) (b17 : (List t3.den)) (b18 : (List Int)) (b19 : (List Int)) (b110 : Int) (b111 : Int) : Option (Bool × Unit) := res spigotref16_Same.c (atLoop spigotref16_Same.b [1, 1, 0, 1, 0]) (spigotref16_Same.S2 i b0 b02 b03 b04 b05 b06 b07 b08 b09 b010 b011 b1 b12 b13 b14 b15 b16 b17 b18 b19 b110 b111)
noncomputable def spigotref16_Same.S3 (i : Int) (b0 : Int) (b02 : (List Int)) (b03 : (List t1.den)) (b04 : (List Int)) (b05 : (List Bool)) (b06 : Int) (b07 : (List t3.den)) (b08 : (List Int)) (b09 : (List Int)) (b010 : Int) (b011 : Int) (b1 : Int) (b12 : (List Int)) (b13 : (List t1.den)) (b14 : (List Int)) (b15 : (List Bool)) (b16 : Int) (b17 : (List t3.den)) (b18 : (List Int)) (b19 : (List Int)) (b110 : Int) (b111 : Int) : St := ⟨[(2, (.ptr 0 [])), (3, (.ptr 1 [])), (5, (.v (.int .i64) i))], [(0, some (.box (.agg [(.v (.int .i64) b0), (.v (.slice (.int .u32)) b02), (.v (.slice t1) b03), (.agg [(.v (.slice (.int .i64)) b04), (.v (.slice .bool) b05), (.v (.int .i64) b06)]), (.v (.slice t3) b07), (.agg [(.v (.slice (.int .i64)) b08), (.v (.slice (.int .i64)) b09), (.v (.int .i64) b010), (.v (.int .i64) b011)])]))), (1, some (.box (.agg [(.v (.int .i64) b1), (.v (.slice (.int .u32)) b12), (.v (.slice t1) b13), (.agg [(.v (.slice (.int .i64)) b14), (.v (.slice .bool) b15), (.v (.int .i64) b16)]), (.v (.slice t3) b17), (.agg [(.v (.slice (.int .i64)) b18), (.v (.slice (.int .i64)) b19), (.v (.int .i64) b110), (.v (.int .i64) b111)])])))], 2, []⟩
noncomputable def spigotref16_Same.L3 (i : Int) (b0 : Int) (b02 : (List Int)) (b03 : (List t1.den)) (b04 : (List Int)) (b05 : (List Bool)) (b06 : Int) (b07 : (List t3.den)) (b08 : (List Int)) (b09 : (List Int)) (b010 : Int) (b011 : Int) (b1 : Int) (b12 : (List Int)) (b13 : (List t1.den)) (b14 : (List Int)) (b15 : (List Bool)) (b16 : Int) (b17 : (List t3.den)) (b18 : (List Int)) (b19 : (List Int)) (b110 : Int) (b111 : Int) : Option (Bool × Unit) := res spigotref16_Same.c (atJoin spigotref16_Same.b [1, 1, 0, 1, 0, 0, 0, 1]) (spigotref16_Same.S3 i b0 b02 b03 b04 b05 b06 b07 b08 b09 b010 b011 b1 b12 b13 b14 b15 b16 b17 b18 b19 b110 b111)
noncomputable def spigotref16_Same.S4 (i : Int) (b0 : Int) (b02 : (List Int)) (b03 : (List t1.den)) (b04 : (List Int)) (b05 : (List Bool)) (b06 : Int) (b07 : (List t3.den)) (b08 : (List Int)) (b09 : (List Int)) (b010 : Int) (b011 : Int) (b1 : Int) (b12 : (List Int)) (b13 : (List t1.den)) (b14 : (List Int)) (b15 : (List Bool)) (b16 : Int) (b17 : (List t3.den)) (b18 : (List Int)) (b19 : (List Int)) (b110 : Int) (b111 : Int) : St := ⟨[(2, (.ptr 0 [])), (3, (.ptr 1 [])), (5, (.v (.int .i64) i))], [(0, some (.box (.agg [(.v (.int .i64) b0), (.v (.slice (.int .u32)) b02), (.v (.slice t1) b03), (.agg [(.v (.slice (.int .i64)) b04), (.v (.slice .bool) b05), (.v (.int .i64) b06)]), (.v (.slice t3) b07), (.agg [(.v (.slice (.int .i64)) b08), (.v (.slice (.int .i64)) b09), (.v (.int .i64) b010), (.v (.int .i64) b011)])]))), (1, some (.box (.agg [(.v (.int .i64) b1), (.v (.slice (.int .u32)) b12), (.v (.slice t1) b13), (.agg [(.v (.slice (.int .i64)) b14), (.v (.slice .bool) b15), (.v (.int .i64) b16)]), (.v (.slice t3) b17), (.agg [(.v (.slice (.int .i64)) b18), (.v (.slice (.int .i64)) b19), (.v (.int .i64) b110), (.v (.int .i64) b111)])])))], 2, []⟩
noncomputable def spigotref16_Same.L4 (i : Int) (b0 : Int) (b02 : (List Int)) (b03 : (List t1.den)) (b04 : (List Int)) (b05 : (List Bool)) (b06 : Int) (b07 : (List t3.den)) (b08 : (List Int)) (b09 : (List Int)) (b010 : Int) (b011 : Int) (b1 : Int) (b12 : (List Int)) (b13 : (List t1.den)) (b14 : (List Int)) (b15 : (List Bool)) (b16 : Int) (b17 : (List t3.den)) (b18 : (List Int)) (b19 : (List Int)) (b110 : Int) (b111 : Int) : Option (Bool × Unit) := res spigotref16_Same.c (atJoin spigotref16_Same.b [1, 1, 0, 1, 0, 0, 1, 0, 0, 1]) (spigotref16_Same.S4 i b0 b02 b03 b04 b05 b06 b07 b08 b09 b010 b011 b1 b12 b13 b14 b15 b16 b17 b18 b19 b110 b111)
theorem spigotref16_Same.spec : FnSpec Try.prog globs 46 spigotref16_Same.Fn := spec_of (E := spigotref16_Same.E) (envOk_at tabOk eqOk primsOk (.cons spigotref16_SameKeys.spec <| .cons spigotref13_Same.spec <| .cons spigotref14_Same.spec <| .cons spigotref15_Same.spec <| .nil)) mixOk Try.func46 (by kernel_rfl)
theorem spigotref16_Same.L1_eq (b0 : Int) (b02 : (List Int)) (b03 : (List t1.den)) (b04 : (List Int)) (b05 : (List Bool)) (b06 : Int) (b07 : (List t3.den)) (b08 : (List Int)) (b09 : (List Int)) (b010 : Int) (b011 : Int) (b1 : Int) (b12 : (List Int)) (b13 : (List t1.den)) (b14 : (List Int)) (b15 : (List Bool)) (b16 : Int) (b17 : (List t3.den)) (b18 : (List Int)) (b19 : (List Int)) (b110 : Int) (b111 : Int) : spigotref16_Same.L1 b0 b02 b03 b04 b05 b06 b07 b08 b09 b010 b011 b1 b12 b13 b14 b15 b16 b17 b18 b19 b110 b111 =
  spigotref16_Same.L2 0 b0 b02 b03 b04 b05 b06 b07 b08 b09 b010 b011 b1 b12 b13 b14 b15 b16 b17 b18 b19 b110 b111 := res_eq (by kernel_rfl)
theorem spigotref16_Same.L2_eq (i : Int) (b0 : Int) (b02 : (List Int)) (b03 : (List t1.den)) (b04 : (List Int)) (b05 : (List Bool)) (b06 : Int) (b07 : (List t3.den)) (b08 : (List Int)) (b09 : (List Int)) (b010 : Int) (b011 : Int) (b1 : Int) (b12 : (List Int)) (b13 : (List t1.den)) (b14 : (List Int)) (b15 : (List Bool)) (b16 : Int) (b17 : (List t3.den)) (b18 : (List Int)) (b19 : (List Int)) (b110 : Int) (b111 : Int) : spigotref16_Same.L2 i b0 b02 b03 b04 b05 b06 b07 b08 b09 b010 b011 b1 b12 b13 b14 b15 b16 b17 b18 b19 b110 b111 =
  bif (decide ((i : Int) < ((List.length b03 : Int)))) then
    spigotref16_Same.L3 i b0 b02 b03 b04 b05 b06 b07 b08 b09 b010 b011 b1 b12 b13 b14 b15 b16 b17 b18 b19 b110 b111
  else
    some (true, ()) := res_eq (by kernel_rfl)
theorem spigotref16_Same.L3_eq (i : Int) (b0 : Int) (b02 : (List Int)) (b03 : (List t1.den)) (b04 : (List Int)) (b05 : (List Bool)) (b06 : Int) (b07 : (List t3.den)) (b08 : (List Int)) (b09 : (List Int)) (b010 : Int) (b011 : Int) (b1 : Int) (b12 : (List Int)) (b13 : (List t1.den)) (b14 : (List Int)) (b15 : (List Bool)) (b16 : Int) (b17 : (List t3.den)) (b18 : (List Int)) (b19 : (List Int)) (b110 : Int) (b111 : Int) : spigotref16_Same.L3 i b0 b02 b03 b04 b05 b06 b07 b08 b09 b010 b011 b1 b12 b13 b14 b15 b16 b17 b18 b19 b110 b111 =
  bif (decide ((0 : Int) ≤ i ∧ (i : Int) < ((List.length b03 : Int)))) then
    bif (decide ((0 : Int) ≤ i ∧ (i : Int) < ((List.length b13 : Int)))) then
      bif (!(Ty.beq t1 (List.getD b03 (Int.toNat i) ((0, 0, 0, ()), 0, 0, 0, ())) (List.getD b13 (Int.toNat i) ((0, 0, 0, ()), 0, 0, 0, ())))) then
        some (false, ())
      else
        spigotref16_Same.L4 i b0 b02 b03 b04 b05 b06 b07 b08 b09 b010 b011 b1 b12 b13 b14 b15 b16 b17 b18 b19 b110 b111
    else none
  else none := res_eq (by kernel_rfl)
theorem spigotref16_Same.L4_eq (i : Int) (b0 : Int) (b02 : (List Int)) (b03 : (List t1.den)) (b04 : (List Int)) (b05 : (List Bool)) (b06 : Int) (b07 : (List t3.den)) (b08 : (List Int)) (b09 : (List Int)) (b010 : Int) (b011 : Int) (b1 : Int) (b12 : (List Int)) (b13 : (List t1.den)) (b14 : (List Int)) (b15 : (List Bool)) (b16 : Int) (b17 : (List t3.den)) (b18 : (List Int)) (b19 : (List Int)) (b110 : Int) (b111 : Int) : spigotref16_Same.L4 i b0 b02 b03 b04 b05 b06 b07 b08 b09 b010 b011 b1 b12 b13 b14 b15 b16 b17 b18 b19 b110 b111 =
  spigotref16_Same.L2 (IntKind.wrap .i64 (i + 1)) b0 b02 b03 b04 b05 b06 b07 b08 b09 b010 b011 b1 b12 b13 b14 b15 b16 b17 b18 b19 b110 b111 := res_eq (by kernel_rfl)
theorem spigotref16_Same.F_eq (a : t5.den) (b : t5.den) : spigotref16_Same.F a b =
  bif (a.1 != b.1) then
    some (false, ())
  else
    (spigotref16_SameKeys.F a.2.1 b.2.1).bind fun r0 =>
    bif (!r0.1) then
      some (false, ())
    else
      bif (((List.length a.2.2.1 : Int)) != ((List.length b.2.2.1 : Int))) then
        some (false, ())
      else
        (spigotref13_Same.F a.2.2.2.1 b.2.2.2.1).bind fun r1 =>
        bif (!r1.1) then
          some (false, ())
        else
          (spigotref14_Same.F a.2.2.2.2.1 b.2.2.2.2.1).bind fun r2 =>
          bif (!r2.1) then
            some (false, ())
          else
            (spigotref15_Same.F a.2.2.2.2.2.1 b.2.2.2.2.2.1).bind fun r3 =>
            bif (!r3.1) then
              some (false, ())
            else
              spigotref16_Same.L1 a.1 a.2.1 a.2.2.1 a.2.2.2.1.1 a.2.2.2.1.2.1 a.2.2.2.1.2.2.1 a.2.2.2.2.1 a.2.2.2.2.2.1.1 a.2.2.2.2.2.1.2.1 a.2.2.2.2.2.1.2.2.1 a.2.2.2.2.2.1.2.2.2.1 b.1 b.2.1 b.2.2.1 b.2.2.2.1.1 b.2.2.2.1.2.1 b.2.2.2.1.2.2.1 b.2.2.2.2.1 b.2.2.2.2.2.1.1 b.2.2.2.2.2.1.2.1 b.2.2.2.2.2.1.2.2.1 b.2.2.2.2.2.1.2.2.2.1 := by kernel_rfl
/-! ### spigot/spigotref18.Same (32) -/
noncomputable def spigotref18_Same.sg : Sig := ⟨[.val t7, .val t7], [(.bool, true)]⟩
noncomputable def spigotref18_Same.E : Env := ⟨tl, fun i => look i [(46, spigotref16_Same.Fn), (47, spigotref16_SameKeys.Fn)], [], eqs, globs, prims⟩
noncomputable def spigotref18_Same.c := cxOf spigotref18_Same.E spigotref18_Same.sg Try.f32
noncomputable def spigotref18_Same.b := body Try.f32
noncomputable def spigotref18_Same.Fn : Fun := fnOf spigotref18_Same.E spigotref18_Same.sg Try.f32
noncomputable def spigotref18_Same.F (a : t7.den) (b : t7.den) : Option (Bool × Unit) := spigotref18_Same.Fn.F (a, b, ())
theorem spigotref18_Same.spec : FnSpec Try.prog globs 32 spigotref18_Same.Fn := spec_of (E := spigotref18_Same.E) (envOk_at tabOk eqOk primsOk (.cons spigotref16_Same.spec <| .cons spigotref16_SameKeys.spec <| .nil)) mixOk Try.func32 (by kernel_rfl)
theorem spigotref18_Same.F_eq (a : t7.den) (b : t7.den) : spigotref18_Same.F a b =
  bif (a.1 == b.1) then
    bif (Ty.beq (.arr 3 t0) a.2.1 b.2.1) then
      bif (Ty.beq t1 a.2.2.1 b.2.2.1) then
        (spigotref16_Same.F a.2.2.2.1 b.2.2.2.1).bind fun r0 =>
        bif r0.1 then
          (spigotref16_Same.F a.2.2.2.2.1 b.2.2.2.2.1).bind fun r1 =>
          bif r1.1 then
            (spigotref16_SameKeys.F a.2.2.2.2.2.1 b.2.2.2.2.2.1).bind fun r2 =>
            bif r2.1 then
              some ((Ty.beq t6 a.2.2.2.2.2.2.1 b.2.2.2.2.2.2.1), ())
            else
              some (false, ())
          else
            some (false, ())
        else
          some (false, ())
      else
        some (false, ())
    else
      some (false, ())
  else
    some (false, ()) := by kernel_rfl
/-! ### spigot/spigotref19.Same (20) -/
noncomputable def spigotref19_Same.sg : Sig := ⟨[.val (.slice t7), .val (.slice t7)], [(.bool, true)]⟩
noncomputable def spigotref19_Same.E : Env := ⟨tl, fun i => look i [(32, spigotref18_Same.Fn)], [], eqs, globs, prims⟩
noncomputable def spigotref19_Same.c := cxOf spigotref19_Same.E spigotref19_Same.sg Try.f20
noncomputable def spigotref19_Same.b := body Try.f20
noncomputable def spigotref19_Same.Fn : Fun := fnOf spigotref19_Same.E spigotref19_Same.sg Try.f20
noncomputable def spigotref19_Same.F (a : (List t7.den)) (b : (List t7.den)) : Option (Bool × Unit) := spigotref19_Same.Fn.F (a, b, ())
noncomputable def spigotref19_Same.S1 (a : (List t7.den)) (b : (List t7.den)) : St := ⟨[(0, (.v (.slice t7) a)), (1, (.v (.slice t7) b))], [], 0, []⟩
noncomputable def spigotref19_Same.L1 (a : (List t7.den)) (b : (List t7.den)) : Option (Bool × Unit) := res spigotref19_Same.c (atJoin spigotref19_Same.b [1, 0, 1]) (spigotref19_Same.S1 a b)
noncomputable def spigotref19_Same.S2 (a : (List t7.den)) (b : (List t7.den)) (i : Int) : St := ⟨[(0, (.v (.slice t7) a)), (1, (.v (.slice t7) b)), (5, (.v (.int .i64) i))], [], 0, []⟩
noncomputable def spigotref19_Same.L2 (a : (List t7.den)) (b : (List t7.den)) (i : Int) : Option (Bool × Unit) := res spigotref19_Same.c (atLoop spigotref19_Same.b [1, 1, 0, 1, 0]) (spigotref19_Same.S2 a b i)
noncomputable def spigotref19_Same.S3 (a : (List t7.den)) (b : (List t7.den)) (i : Int) : St := ⟨[(0, (.v (.slice t7) a)), (1, (.v (.slice t7) b)), (5, (.v (.int .i64) i))], [], 0, []⟩
noncomputable def spigotref19_Same.L3 (a : (List t7.den)) (b : (List t7.den)) (i : Int) : Option (Bool × Unit) := res spigotref19_Same.c (atJoin spigotref19_Same.b [1, 1, 0, 1, 0, 0, 0, 1]) (spigotref19_Same.S3 a b i)
noncomputable def spigotref19_Same.S4 (a : (List t7.den)) (b : (List t7.den)) (i : Int) : St := ⟨[(0, (.v (.slice t7) a)), (1, (.v (.slice t7) b)), (5, (.v (.int .i64) i))], [], 0, []⟩
noncomputable def spigotref19_Same.L4 (a : (List t7.den)) (b : (List t7.den)) (i : Int) : Option (Bool × Unit) := res spigotref19_Same.c (atJoin spigotref19_Same.b [1, 1, 0, 1, 0, 0, 1, 0, 0, 1]) (spigotref19_Same.S4 a b i)
theorem spigotref19_Same.spec : FnSpec Try.prog globs 20 spigotref19_Same.Fn := spec_of (E := spigotref19_Same.E) (envOk_at tabOk eqOk primsOk (.cons spigotref18_Same.spec <| .nil)) mixOk Try.func20 (by kernel_rfl)
theorem spigotref19_Same.L1_eq (a : (List t7.den)) (b : (List t7.den)) : spigotref19_Same.L1 a b =
  spigotref19_Same.L2 a b 0 := res_eq (by kernel_rfl)
theorem spigotref19_Same.L2_eq (a : (List t7.den)) (b : (List t7.den)) (i : Int) : spigotref19_Same.L2 a b i =
  bif (decide ((i : Int) < ((List.length a : Int)))) then
    spigotref19_Same.L3 a b i
  else
    some (true, ()) := res_eq (by kernel_rfl)
theorem spigotref19_Same.L3_eq (a : (List t7.den)) (b : (List t7.den)) (i : Int) : spigotref19_Same.L3 a b i =
  bif (decide ((0 : Int) ≤ i ∧ (i : Int) < ((List.length a : Int)))) then
    bif (decide ((0 : Int) ≤ i ∧ (i : Int) < ((List.length b : Int)))) then
      (spigotref18_Same.F (List.getD a (Int.toNat i) (0, (List.replicate 3 (0, 0, 0, ())), ((0, 0, 0, ()), 0, 0, 0, ()), (0, ([] : List Int), ([] : List t1.den), (([] : List Int), ([] : List Bool), 0, ()), ([] : List t3.den), (([] : List Int), ([] : List Int), 0, 0, ()), ()), (0, ([] : List Int), ([] : List t1.den), (([] : List Int), ([] : List Bool), 0, ()), ([] : List t3.den), (([] : List Int), ([] : List Int), 0, 0, ()), ()), ([] : List Int), (0, 0, 0, ()), ())) (List.getD b (Int.toNat i) (0, (List.replicate 3 (0, 0, 0, ())), ((0, 0, 0, ()), 0, 0, 0, ()), (0, ([] : List Int), ([] : List t1.den), (([] : List Int), ([] : List Bool), 0, ()), ([] : List t3.den), (([] : List Int), ([] : List Int), 0, 0, ()), ()), (0, ([] : List Int), ([] : List t1.den), (([] : List Int), ([] : List Bool), 0, ()), ([] : List t3.den), (([] : List Int), ([] : List Int), 0, 0, ()), ()), ([] : List Int), (0, 0, 0, ()), ()))).bind fun r0 =>
      bif (!r0.1) then
        some (false, ())
      else
        spigotref19_Same.L4 a b i
    else none
  else none := res_eq (by kernel_rfl)
theorem spigotref19_Same.L4_eq (a : (List t7.den)) (b : (List t7.den)) (i : Int) : spigotref19_Same.L4 a b i =
  spigotref19_Same.L2 a b (IntKind.wrap .i64 (i + 1)) := res_eq (by kernel_rfl)
theorem spigotref19_Same.F_eq (a : (List t7.den)) (b : (List t7.den)) : spigotref19_Same.F a b =
  bif (((List.length a : Int)) != ((List.length b : Int))) then
    some (false, ())
  else
    spigotref19_Same.L1 a b := by kernel_rfl
/-! ### spigot/spigotref20.Same (10) -/
noncomputable def spigotref20_Same.sg : Sig := ⟨[.val t8, .val t8], [(.bool, true)]⟩
noncomputable def spigotref20_Same.E : Env := ⟨tl, fun i => look i [(20, spigotref19_Same.Fn)], [], eqs, globs, prims⟩
noncomputable def spigotref20_Same.c := cxOf spigotref20_Same.E spigotref20_Same.sg Try.f10
noncomputable def spigotref20_Same.b := body Try.f10
noncomputable def spigotref20_Same.Fn : Fun := fnOf spigotref20_Same.E spigotref20_Same.sg Try.f10
noncomputable def spigotref20_Same.F (a : t8.den) (b : t8.den) : Option (Bool × Unit) := spigotref20_Same.Fn.F (a, b, ())
theorem spigotref20_Same.spec : FnSpec Try.prog globs 10 spigotref20_Same.Fn := spec_of (E := spigotref20_Same.E) (envOk_at tabOk eqOk primsOk (.cons spigotref19_Same.spec <| .nil)) mixOk Try.func10 (by kernel_rfl)
theorem spigotref20_Same.F_eq (a : t8.den) (b : t8.den) : spigotref20_Same.F a b =
  bif (a.1 == b.1) then
    bif (Ty.beq (.arr 32 (.int .u8)) a.2.1 b.2.1) then
      bif (Ty.beq (.arr 16 (.int .u32)) a.2.2.1 b.2.2.1) then
        (spigotref19_Same.F a.2.2.2.1 b.2.2.2.1).bind fun r0 =>
        some (r0.1, ())
      else
        some (false, ())
    else
      some (false, ())
  else
    some (false, ()) := by kernel_rfl
/-! ### spigot/spigotlaw33.ImageWrites (3) -/
noncomputable def spigotlaw33_ImageWrites.sg : Sig := ⟨[.val t8], [(.bool, true)]⟩
noncomputable def spigotlaw33_ImageWrites.E : Env := ⟨tl, fun i => look i [(4, spigotref26_Great.Fn), (5, spigotref20_Twin.Fn), (6, image_Write.Fn), (7, spigotref33_Write.Fn), (8, image_Size.Fn), (9, spigotref33_Size.Fn), (10, spigotref20_Same.Fn)], [], eqs, globs, prims⟩
noncomputable def spigotlaw33_ImageWrites.c := cxOf spigotlaw33_ImageWrites.E spigotlaw33_ImageWrites.sg Try.f3
noncomputable def spigotlaw33_ImageWrites.b := body Try.f3
noncomputable def spigotlaw33_ImageWrites.Fn : Fun := fnOf spigotlaw33_ImageWrites.E spigotlaw33_ImageWrites.sg Try.f3
noncomputable def spigotlaw33_ImageWrites.F (s : t8.den) : Option (Bool × Unit) := spigotlaw33_ImageWrites.Fn.F (s, ())
noncomputable def spigotlaw33_ImageWrites.S1 (b0 : Int) (b02 : (List Int)) (b03 : (List Int)) (b04 : (List t7.den)) : St := ⟨[(1, (.ptr 0 []))], [(0, some (.box (.agg [(.v (.int .u64) b0), (.v (.arr 32 (.int .u8)) b02), (.v (.arr 16 (.int .u32)) b03), (.v (.slice t7) b04)])))], 1, []⟩
noncomputable def spigotlaw33_ImageWrites.L1 (b0 : Int) (b02 : (List Int)) (b03 : (List Int)) (b04 : (List t7.den)) : Option (Bool × Unit) := res spigotlaw33_ImageWrites.c (atJoin spigotlaw33_ImageWrites.b [1, 0, 1]) (spigotlaw33_ImageWrites.S1 b0 b02 b03 b04)
theorem spigotlaw33_ImageWrites.spec : FnSpec Try.prog globs 3 spigotlaw33_ImageWrites.Fn := spec_of (E := spigotlaw33_ImageWrites.E) (envOk_at tabOk eqOk primsOk (.cons spigotref26_Great.spec <| .cons spigotref20_Twin.spec <| .cons image_Write.spec <| .cons spigotref33_Write.spec <| .cons image_Size.spec <| .cons spigotref33_Size.spec <| .cons spigotref20_Same.spec <| .nil)) mixOk Try.func3 (by kernel_rfl)
theorem spigotlaw33_ImageWrites.L1_eq (b0 : Int) (b02 : (List Int)) (b03 : (List Int)) (b04 : (List t7.den)) : spigotlaw33_ImageWrites.L1 b0 b02 b03 b04 =
  (spigotref20_Twin.F (b0, b02, b03, b04, ())).bind fun r0 =>
  (image_Write.F (b0, b02, b03, b04, ())).bind fun r1 =>
  (spigotref33_Write.F r0.1).bind fun r2 =>
  (image_Size.F (b0, b02, b03, b04, ())).bind fun r3 =>
  (spigotref33_Size.F r0.1).bind fun r4 =>
  bif (decide ((List.map (fun n => UInt8.ofNat (Int.toNat n)) r1.1) = (List.map (fun n => UInt8.ofNat (Int.toNat n)) r2.1))) then
    bif (r1.2.1 == r2.2.1) then
      bif (r3.1 == r4.1) then
        bif (r3.2.1 == r4.2.1) then
          (spigotref20_Same.F (b0, b02, b03, b04, ()) r0.1).bind fun r5 =>
          some (r5.1, ())
        else
          some (false, ())
      else
        some (false, ())
    else
      some (false, ())
  else
    some (false, ()) := res_eq (by kernel_rfl)
theorem spigotlaw33_ImageWrites.F_eq (s : t8.den) : spigotlaw33_ImageWrites.F s =
  (spigotref26_Great.F s).bind fun r0 =>
  bif r0.1 then
    some (true, ())
  else
    spigotlaw33_ImageWrites.L1 s.1 s.2.1 s.2.2.1 s.2.2.2.1 := by kernel_rfl
end Go.Proofs.Ytkihjakbbcajbaa.PM
