/- Contracts and equations of the functions, printed by a program of this session. -/
import Derived.Test.YtkihjakbbcajbaaGreatZpmA
import Derived.Test.YtkihjakbbcajbaaGreatPM33
namespace Go.Proofs.YtkihjakbbcajbaaGreat.PM
open Go Go.Proofs
set_option linter.unusedVariables false
/-! ### spigot/part.Check (128), all but its loops over functions -/
noncomputable def part_Check.sg : Sig := ⟨[.val t7], [((.int .i64), true)]⟩
noncomputable def part_Check.E : Env := ⟨tl, fun i => look i [(99, bucket_Check.Fn), (106, table_Check.Fn), (168, part_valid.Fn)], [], eqs, globs, prims⟩
theorem part_Check.envOk : EnvOk Tryz.prog part_Check.E := envOk_at tabOk eqOk primsOk (.cons bucket_Check.spec <| .cons table_Check.spec <| .cons part_valid.spec <| .nil)
noncomputable def part_Check.c := cxOf part_Check.E part_Check.sg Tryz.f128
noncomputable def part_Check.b := body Tryz.f128
noncomputable def part_Check.S1 (b0 : Int) (b02 : (List t0.den)) (b03 : Int) (b04 : Int) (b05 : Int) (b06 : Int) (b07 : Int) (b08 : Int) (b09 : Int) (b010 : (List Int)) (b011 : (List t1.den)) (b012 : (List Int)) (b013 : (List Bool)) (b014 : Int) (b015 : (List t3.den)) (b016 : (List Int)) (b017 : (List Int)) (b018 : Int) (b019 : Int) (b020 : Int) (b021 : (List Int)) (b022 : (List t1.den)) (b023 : (List Int)) (b024 : (List Bool)) (b025 : Int) (b026 : (List t3.den)) (b027 : (List Int)) (b028 : (List Int)) (b029 : Int) (b030 : Int) (b031 : (List Int)) (b032 : Int) (b033 : Int) (b034 : Int) : St := ⟨[(1, (.ptr 0 [])), (2, (.ptr 1 []))], [(0, some (.box (.agg [(.v (.int .u32) b0), (.v (.arr 3 t0) b02), (.agg [(.agg [(.v (.int .i64) b03), (.v (.int .i64) b04), (.v (.int .i64) b05)]), (.v (.int .i64) b06), (.v (.int .i64) b07), (.v (.int .u64) b08)]), (.agg [(.v (.int .i64) b09), (.v (.slice (.int .u32)) b010), (.v (.slice t1) b011), (.agg [(.v (.slice (.int .i64)) b012), (.v (.slice .bool) b013), (.v (.int .i64) b014)]), (.v (.slice t3) b015), (.agg [(.v (.slice (.int .i64)) b016), (.v (.slice (.int .i64)) b017), (.v (.int .i64) b018), (.v (.int .i64) b019)])]), (.agg [(.v (.int .i64) b020), (.v (.slice (.int .u32)) b021), (.v (.slice t1) b022), (.agg [(.v (.slice (.int .i64)) b023), (.v (.slice .bool) b024), (.v (.int .i64) b025)]), (.v (.slice t3) b026), (.agg [(.v (.slice (.int .i64)) b027), (.v (.slice (.int .i64)) b028), (.v (.int .i64) b029), (.v (.int .i64) b030)])]), (.v (.slice (.int .u32)) b031), (.agg [(.v (.int .u64) b032), (.v (.int .u64) b033), (.v (.int .u64) b034)])]))), (1, some (.box (.v (.int .i64) 0)))], 2, []⟩
noncomputable def part_Check.S2 (p : t7.den) (b0 : Int) : St := ⟨[(1, (.iptr t7 p)), (2, (.ptr 0 []))], [(0, some (.box (.v (.int .i64) b0)))], 1, []⟩
noncomputable def part_Check.L2 (p : t7.den) (b0 : Int) : Option (Int × Unit) := res part_Check.c (atJoin part_Check.b [1, 1, 1, 1, 1, 0, 1]) (part_Check.S2 p b0)
noncomputable def part_Check.S3 (p : t7.den) (t84_ : (List Int)) (t85_ : Int) (t86_ : Int) (b0 : Int) : St := ⟨[(1, (.iptr t7 p)), (2, (.ptr 0 [])), (84, (.v (.slice (.int .u32)) t84_)), (85, (.v (.int .i64) t85_)), (86, (.v (.int .i64) t86_))], [(0, some (.box (.v (.int .i64) b0)))], 1, []⟩
noncomputable def part_Check.L3 (p : t7.den) (t84_ : (List Int)) (t85_ : Int) (t86_ : Int) (b0 : Int) : Option (Int × Unit) := res part_Check.c (atLoop part_Check.b [1, 1, 1, 1, 1, 1, 0, 1, 0]) (part_Check.S3 p t84_ t85_ t86_ b0)
noncomputable def part_Check.S4 (p : t7.den) (t84_ : (List Int)) (t85_ : Int) (t86_ : Int) (b0 : Int) : St := ⟨[(1, (.iptr t7 p)), (2, (.ptr 0 [])), (84, (.v (.slice (.int .u32)) t84_)), (85, (.v (.int .i64) t85_)), (86, (.v (.int .i64) t86_))], [(0, some (.box (.v (.int .i64) b0)))], 1, []⟩
noncomputable def part_Check.L4 (p : t7.den) (t84_ : (List Int)) (t85_ : Int) (t86_ : Int) (b0 : Int) : Option (Int × Unit) := res part_Check.c (atJoin part_Check.b [1, 1, 1, 1, 1, 1, 0, 1, 0, 0, 1, 0]) (part_Check.S4 p t84_ t85_ t86_ b0)
noncomputable def part_Check.S5 (p : t7.den) (t84_ : (List Int)) (t85_ : Int) (t86_ : Int) (b0 : Int) : St := ⟨[(1, (.iptr t7 p)), (2, (.ptr 0 [])), (84, (.v (.slice (.int .u32)) t84_)), (85, (.v (.int .i64) t85_)), (86, (.v (.int .i64) t86_))], [(0, some (.box (.v (.int .i64) b0)))], 1, []⟩
noncomputable def part_Check.L5 (p : t7.den) (t84_ : (List Int)) (t85_ : Int) (t86_ : Int) (b0 : Int) : Option (Int × Unit) := res part_Check.c (atJoin part_Check.b [1, 1, 1, 1, 1, 1, 0, 1, 0, 0, 1, 1, 0, 0, 1, 1]) (part_Check.S5 p t84_ t85_ t86_ b0)
noncomputable def part_Check.ST (p : t7.den) (n : Int) (same : (List t0.den)) : St := ⟨[(1, (.iptr t7 p)), (2, (.ptr 1 [])), (3, (.ptr 2 []))], [(1, some (.box (.v (.int .i64) n))), (2, some (.box (.v (.arr 3 t0) same)))], 3, []⟩
noncomputable def part_Check.T (p : t7.den) (n : Int) (same : (List t0.den)) : Option (Int × Unit) := res part_Check.c [.code (subC part_Check.b [1, 1, 1, 1, 1])] (part_Check.ST p n same)
theorem part_Check.L2_eq (p : t7.den) (b0 : Int) : part_Check.L2 p b0 =
  part_Check.L3 p p.2.2.2.2.2.1 ((List.length p.2.2.2.2.2.1 : Int)) 0 b0 := res_eq (by kernel_rfl)
theorem part_Check.L3_eq (p : t7.den) (t84_ : (List Int)) (t85_ : Int) (t86_ : Int) (b0 : Int) : part_Check.L3 p t84_ t85_ t86_ b0 =
  bif (decide ((t86_ : Int) < t85_)) then
    part_Check.L4 p t84_ t85_ t86_ b0
  else
    some (0, ()) := res_eq (by kernel_rfl)
theorem part_Check.L4_eq (p : t7.den) (t84_ : (List Int)) (t85_ : Int) (t86_ : Int) (b0 : Int) : part_Check.L4 p t84_ t85_ t86_ b0 =
  bif (decide ((0 : Int) ≤ t86_ ∧ (t86_ : Int) < ((List.length t84_ : Int)))) then
    bif (decide ((t86_ : Int) > 0)) then
      bif (decide ((0 : Int) ≤ (IntKind.wrap .i64 (t86_ - 1)) ∧ ((IntKind.wrap .i64 (t86_ - 1)) : Int) < ((List.length p.2.2.2.2.2.1 : Int)))) then
        bif (decide (((List.getD p.2.2.2.2.2.1 (Int.toNat (IntKind.wrap .i64 (t86_ - 1))) 0) : Int) ≥ (List.getD t84_ (Int.toNat t86_) 0))) then
          some (8, ())
        else
          part_Check.L5 p t84_ t85_ t86_ b0
      else none
    else
      part_Check.L5 p t84_ t85_ t86_ b0
  else none := res_eq (by kernel_rfl)
theorem part_Check.L5_eq (p : t7.den) (t84_ : (List Int)) (t85_ : Int) (t86_ : Int) (b0 : Int) : part_Check.L5 p t84_ t85_ t86_ b0 =
  part_Check.L3 p t84_ t85_ (IntKind.wrap .i64 (t86_ + 1)) b0 := res_eq (by kernel_rfl)
theorem part_Check.T_eq (p : t7.den) (n : Int) (same : (List t0.den)) : part_Check.T p n same =
  bif (!(Ty.beq (.arr 3 t0) same p.2.1)) then
    some (8, ())
  else
    bif (decide ((((List.length p.2.2.2.2.2.1 : Int)) : Int) > 8)) then
      some (8, ())
    else
      part_Check.L2 p n := res_eq (by kernel_rfl)
theorem part_Check.entry_eq (p : t7.den) (f : List It → St → Option (Int × Unit)) : (entry part_Check.E part_Check.sg Tryz.f128 (p, ())).ev f =
  bif (decide ((p.1 : Int) ≥ 16)) then
    some (8, ())
  else
    (part_valid.F p.2.1).bind fun r0 =>
    bif (!r0.1) then
      some (8, ())
    else
      (bucket_Check.F p.2.2.1).bind fun r1 =>
      bif (r1.1 != 0) then
        some (8, ())
      else
        (table_Check.F p.2.2.2.1).bind fun r2 =>
        bif (r2.1 != 0) then
          some (8, ())
        else
          (table_Check.F p.2.2.2.2.1).bind fun r3 =>
          bif (r3.1 != 0) then
            some (8, ())
          else
            f (atJoin part_Check.b [1, 0, 1]) (part_Check.S1 p.1 p.2.1 p.2.2.1.1.1 p.2.2.1.1.2.1 p.2.2.1.1.2.2.1 p.2.2.1.2.1 p.2.2.1.2.2.1 p.2.2.1.2.2.2.1 p.2.2.2.1.1 p.2.2.2.1.2.1 p.2.2.2.1.2.2.1 p.2.2.2.1.2.2.2.1.1 p.2.2.2.1.2.2.2.1.2.1 p.2.2.2.1.2.2.2.1.2.2.1 p.2.2.2.1.2.2.2.2.1 p.2.2.2.1.2.2.2.2.2.1.1 p.2.2.2.1.2.2.2.2.2.1.2.1 p.2.2.2.1.2.2.2.2.2.1.2.2.1 p.2.2.2.1.2.2.2.2.2.1.2.2.2.1 p.2.2.2.2.1.1 p.2.2.2.2.1.2.1 p.2.2.2.2.1.2.2.1 p.2.2.2.2.1.2.2.2.1.1 p.2.2.2.2.1.2.2.2.1.2.1 p.2.2.2.2.1.2.2.2.1.2.2.1 p.2.2.2.2.1.2.2.2.2.1 p.2.2.2.2.1.2.2.2.2.2.1.1 p.2.2.2.2.1.2.2.2.2.2.1.2.1 p.2.2.2.2.1.2.2.2.2.2.1.2.2.1 p.2.2.2.2.1.2.2.2.2.2.1.2.2.2.1 p.2.2.2.2.2.1 p.2.2.2.2.2.2.1.1 p.2.2.2.2.2.2.1.2.1 p.2.2.2.2.2.2.1.2.2.1) := by kernel_rfl
end Go.Proofs.YtkihjakbbcajbaaGreat.PM
