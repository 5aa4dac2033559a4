/- Contracts and equations of the functions, printed by a program of this session: part 2. -/
import Derived.Test.YtkihjakbbcajbaaGreatZpmC
namespace Go.Proofs.YtkihjakbbcajbaaGreat.PM
open Go Go.Proofs
noncomputable section
set_option linter.unusedVariables false
/-! ### bytes.Equal (29) -/
def bytes_Equal.sg : Sig := ⟨[.val (.slice (.int .u8)), .val (.slice (.int .u8))], [(.bool, true)]⟩
def bytes_Equal.E : Env := ⟨tl, fun i => look i [], [], eqs, globs, prims⟩
def bytes_Equal.c := cxOf bytes_Equal.E bytes_Equal.sg Tryz.f29
def bytes_Equal.b := body Tryz.f29
def bytes_Equal.Fn : Fun := fnOf bytes_Equal.E bytes_Equal.sg Tryz.f29
def bytes_Equal.F (a b : List Int) : Option (Bool × Unit) := bytes_Equal.Fn.F (a, b, ())
theorem bytes_Equal.spec : FnSpec Tryz.prog globs 29 bytes_Equal.Fn := spec_of (E := bytes_Equal.E) (envOk_at tabOk eqOk primsOk (.nil)) mixOk Tryz.func29 (by kernel_rfl)
theorem bytes_Equal.F_eq (a b : List Int) : bytes_Equal.F a b =
 some ((decide ((List.map (fun n => UInt8.ofNat (Int.toNat n)) a) = (List.map (fun n => UInt8.ofNat (Int.toNat n)) b))), ()) := by kernel_rfl
/-! ### spigot/image.Same (9) -/
def image_Same.sg : Sig := ⟨[.val (.slice (.int .u8)), .val (.slice (.int .u8))], [(.bool, true), ((.int .i64), true)]⟩
def image_Same.E : Env := ⟨tl, fun i => look i [(7, image_Parse.Fn), (29, bytes_Equal.Fn)], [], eqs, globs, prims⟩
def image_Same.c := cxOf image_Same.E image_Same.sg Tryz.f9
def image_Same.b := body Tryz.f9
def image_Same.Fn : Fun := fnOf image_Same.E image_Same.sg Tryz.f9
def image_Same.F (a b : List Int) : Option (Bool × Int × Unit) := image_Same.Fn.F (a, b, ())
def image_Same.S1 (a b : List Int) : St := ⟨[(0, (.v (.slice (.int .u8)) a)), (1, (.v (.slice (.int .u8)) b))], [], 0, []⟩
def image_Same.L1 (a b : List Int) : Option (Bool × Int × Unit) := res image_Same.c (atJoin image_Same.b [1, 0, 1, 1]) (image_Same.S1 a b)
def image_Same.S2 (a b : List Int) : St := ⟨[(0, (.v (.slice (.int .u8)) a)), (1, (.v (.slice (.int .u8)) b))], [], 0, []⟩
def image_Same.L2 (a b : List Int) : Option (Bool × Int × Unit) := res image_Same.c (atJoin image_Same.b [1, 1, 0, 1, 1]) (image_Same.S2 a b)
theorem image_Same.spec : FnSpec Tryz.prog globs 9 image_Same.Fn := spec_of (E := image_Same.E) (envOk_at tabOk eqOk primsOk (.cons image_Parse.spec <| .cons bytes_Equal.spec <| .nil)) mixOk Tryz.func9 (by kernel_rfl)
theorem image_Same.L1_eq (a b : List Int) : image_Same.L1 a b =
 (image_Parse.F b).bind fun r0 =>
 bif (r0.2.1 != 0) then
  some (false, r0.2.1, ())
 else
  image_Same.L2 a b := res_eq (by kernel_rfl)
theorem image_Same.L2_eq (a b : List Int) : image_Same.L2 a b =
 bif (decide ((0 : Int) ≤ 8 ∧ (8 : Int) ≤ ((List.length a : Int)) ∧ (((List.length a : Int)) : Int) ≤ ((List.length a : Int)))) then
  bif (decide ((0 : Int) ≤ 8 ∧ (8 : Int) ≤ ((List.length b : Int)) ∧ (((List.length b : Int)) : Int) ≤ ((List.length b : Int)))) then
   (bytes_Equal.F (List.take ((Int.toNat ((List.length a : Int))) - (Int.toNat 8)) (List.drop (Int.toNat 8) a)) (List.take ((Int.toNat ((List.length b : Int))) - (Int.toNat 8)) (List.drop (Int.toNat 8) b))).bind fun r0 =>
   some (r0.1, 0, ())
  else none
 else none := res_eq (by kernel_rfl)
theorem image_Same.F_eq (a b : List Int) : image_Same.F a b =
 (image_Parse.F a).bind fun r0 =>
 bif (r0.2.1 != 0) then
  some (false, r0.2.1, ())
 else
  image_Same.L1 a b := by kernel_rfl
/-! ### spigot/spigotref16.SameKeys (81) -/
def spigotref16_SameKeys.sg : Sig := ⟨[.val (.slice (.int .u32)), .val (.slice (.int .u32))], [(.bool, true)]⟩
def spigotref16_SameKeys.E : Env := ⟨tl, fun i => look i [], [], eqs, globs, prims⟩
def spigotref16_SameKeys.c := cxOf spigotref16_SameKeys.E spigotref16_SameKeys.sg Tryz.f81
def spigotref16_SameKeys.b := body Tryz.f81
def spigotref16_SameKeys.Fn : Fun := fnOf spigotref16_SameKeys.E spigotref16_SameKeys.sg Tryz.f81
def spigotref16_SameKeys.F (a b : List Int) : Option (Bool × Unit) := spigotref16_SameKeys.Fn.F (a, b, ())
def spigotref16_SameKeys.S1 (a b : List Int) : St := ⟨[(0, (.v (.slice (.int .u32)) a)), (1, (.v (.slice (.int .u32)) b))], [], 0, []⟩
def spigotref16_SameKeys.L1 (a b : List Int) : Option (Bool × Unit) := res spigotref16_SameKeys.c (atJoin spigotref16_SameKeys.b [1, 0, 1]) (spigotref16_SameKeys.S1 a b)
def spigotref16_SameKeys.S2 (a b : List Int) (i : Int) : St := ⟨[(0, (.v (.slice (.int .u32)) a)), (1, (.v (.slice (.int .u32)) b)), (5, (.v (.int .i64) i))], [], 0, []⟩
def spigotref16_SameKeys.L2 (a b : List Int) (i : Int) : Option (Bool × Unit) := res spigotref16_SameKeys.c (atLoop spigotref16_SameKeys.b [1, 1, 0, 1, 0]) (spigotref16_SameKeys.S2 a b i)
def spigotref16_SameKeys.S3 (a b : List Int) (i : Int) : St := ⟨[(0, (.v (.slice (.int .u32)) a)), (1, (.v (.slice (.int .u32)) b)), (5, (.v (.int .i64) i))], [], 0, []⟩
def spigotref16_SameKeys.L3 (a b : List Int) (i : Int) : Option (Bool × Unit) := res spigotref16_SameKeys.c (atJoin spigotref16_SameKeys.b [1, 1, 0, 1, 0, 0, 0, 1]) (spigotref16_SameKeys.S3 a b i)
def spigotref16_SameKeys.S4 (a b : List Int) (i : Int) : St := ⟨[(0, (.v (.slice (.int .u32)) a)), (1, (.v (.slice (.int .u32)) b)), (5, (.v (.int .i64) i))], [], 0, []⟩
def spigotref16_SameKeys.L4 (a b : List Int) (i : Int) : Option (Bool × Unit) := res spigotref16_SameKeys.c (atJoin spigotref16_SameKeys.b [1, 1, 0, 1, 0, 0, 1, 0, 0, 1]) (spigotref16_SameKeys.S4 a b i)
theorem spigotref16_SameKeys.spec : FnSpec Tryz.prog globs 81 spigotref16_SameKeys.Fn := spec_of (E := spigotref16_SameKeys.E) (envOk_at tabOk eqOk primsOk (.nil)) mixOk Tryz.func81 (by kernel_rfl)
theorem spigotref16_SameKeys.L1_eq (a b : List Int) : spigotref16_SameKeys.L1 a b =
 spigotref16_SameKeys.L2 a b 0 := res_eq (by kernel_rfl)
theorem spigotref16_SameKeys.L2_eq (a b : List Int) (i : Int) : spigotref16_SameKeys.L2 a b i =
 bif (decide ((i : Int) < ((List.length a : Int)))) then
  spigotref16_SameKeys.L3 a b i
 else
  some (true, ()) := res_eq (by kernel_rfl)
theorem spigotref16_SameKeys.L3_eq (a b : List Int) (i : Int) : spigotref16_SameKeys.L3 a b i =
 bif (decide ((0 : Int) ≤ i ∧ (i : Int) < ((List.length a : Int)))) then
  bif (decide ((0 : Int) ≤ i ∧ (i : Int) < ((List.length b : Int)))) then
   bif ((List.getD a (Int.toNat i) 0) != (List.getD b (Int.toNat i) 0)) then
    some (false, ())
   else
    spigotref16_SameKeys.L4 a b i
  else none
 else none := res_eq (by kernel_rfl)
theorem spigotref16_SameKeys.L4_eq (a b : List Int) (i : Int) : spigotref16_SameKeys.L4 a b i =
 spigotref16_SameKeys.L2 a b (IntKind.wrap .i64 (i + 1)) := res_eq (by kernel_rfl)
theorem spigotref16_SameKeys.F_eq (a b : List Int) : spigotref16_SameKeys.F a b =
 bif (((List.length a : Int)) != ((List.length b : Int))) then
  some (false, ())
 else
  spigotref16_SameKeys.L1 a b := by kernel_rfl
/-! ### spigot/spigotref13.Same (118) -/
def spigotref13_Same.sg : Sig := ⟨[.val t2, .val t2], [(.bool, true)]⟩
def spigotref13_Same.E : Env := ⟨tl, fun i => look i [], [], eqs, globs, prims⟩
def spigotref13_Same.c := cxOf spigotref13_Same.E spigotref13_Same.sg Tryz.f118
def spigotref13_Same.b := body Tryz.f118
def spigotref13_Same.Fn : Fun := fnOf spigotref13_Same.E spigotref13_Same.sg Tryz.f118
def spigotref13_Same.F (a : t2.den) (b : t2.den) : Option (Bool × Unit) := spigotref13_Same.Fn.F (a, b, ())
def spigotref13_Same.S1 (b0 : List Int) (b02 : List Bool) (b03 : Int) (b1 : List Int) (b12 : List Bool) (b13 : Int) : St := ⟨[(2, (.ptr 0 [])), (3, (.ptr 1 []))], [(0, some (.box (.agg [(.v (.slice (.int .i64)) b0), (.v (.slice .bool) b02), (.v (.int .i64) b03)]))), (1, some (.box (.agg [(.v (.slice (.int .i64)) b1), (.v (.slice .bool) b12), (.v (.int .i64) b13)])))], 2, []⟩
def spigotref13_Same.L1 (b0 : List Int) (b02 : List Bool) (b03 : Int) (b1 : List Int) (b12 : List Bool) (b13 : Int) : Option (Bool × Unit) := res spigotref13_Same.c (atJoin spigotref13_Same.b [1, 0, 1]) (spigotref13_Same.S1 b0 b02 b03 b1 b12 b13)
def spigotref13_Same.S2 (i : Int) (b0 : List Int) (b02 : List Bool) (b03 : Int) (b1 : List Int) (b12 : List Bool) (b13 : Int) : St := ⟨[(2, (.ptr 0 [])), (3, (.ptr 1 [])), (5, (.v (.int .i64) i))], [(0, some (.box (.agg [(.v (.slice (.int .i64)) b0), (.v (.slice .bool) b02), (.v (.int .i64) b03)]))), (1, some (.box (.agg [(.v (.slice (.int .i64)) b1), (.v (.slice .bool) b12), (.v (.int .i64) b13)])))], 2, []⟩
def spigotref13_Same.L2 (i : Int) (b0 : List Int) (b02 : List Bool) (b03 : Int) (b1 : List Int) (b12 : List Bool) (b13 : Int) : Option (Bool × Unit) := res spigotref13_Same.c (atLoop spigotref13_Same.b [1, 1, 0, 1, 0]) (spigotref13_Same.S2 i b0 b02 b03 b1 b12 b13)
def spigotref13_Same.S3 (i : Int) (b0 : List Int) (b02 : List Bool) (b03 : Int) (b1 : List Int) (b12 : List Bool) (b13 : Int) : St := ⟨[(2, (.ptr 0 [])), (3, (.ptr 1 [])), (5, (.v (.int .i64) i))], [(0, some (.box (.agg [(.v (.slice (.int .i64)) b0), (.v (.slice .bool) b02), (.v (.int .i64) b03)]))), (1, some (.box (.agg [(.v (.slice (.int .i64)) b1), (.v (.slice .bool) b12), (.v (.int .i64) b13)])))], 2, []⟩
def spigotref13_Same.L3 (i : Int) (b0 : List Int) (b02 : List Bool) (b03 : Int) (b1 : List Int) (b12 : List Bool) (b13 : Int) : Option (Bool × Unit) := res spigotref13_Same.c (atJoin spigotref13_Same.b [1, 1, 0, 1, 0, 0, 0, 1]) (spigotref13_Same.S3 i b0 b02 b03 b1 b12 b13)
def spigotref13_Same.S4 (i : Int) (b0 : List Int) (b02 : List Bool) (b03 : Int) (b1 : List Int) (b12 : List Bool) (b13 : Int) : St := ⟨[(2, (.ptr 0 [])), (3, (.ptr 1 [])), (6, (.v (.int .i64) i))], [(0, some (.box (.agg [(.v (.slice (.int .i64)) b0), (.v (.slice .bool) b02), (.v (.int .i64) b03)]))), (1, some (.box (.agg [(.v (.slice (.int .i64)) b1), (.v (.slice .bool) b12), (.v (.int .i64) b13)])))], 2, []⟩
def spigotref13_Same.L4 (i : Int) (b0 : List Int) (b02 : List Bool) (b03 : Int) (b1 : List Int) (b12 : List Bool) (b13 : Int) : Option (Bool × Unit) := res spigotref13_Same.c (atLoop spigotref13_Same.b [1, 1, 1, 0, 1, 0]) (spigotref13_Same.S4 i b0 b02 b03 b1 b12 b13)
def spigotref13_Same.S5 (i : Int) (b0 : List Int) (b02 : List Bool) (b03 : Int) (b1 : List Int) (b12 : List Bool) (b13 : Int) : St := ⟨[(2, (.ptr 0 [])), (3, (.ptr 1 [])), (6, (.v (.int .i64) i))], [(0, some (.box (.agg [(.v (.slice (.int .i64)) b0), (.v (.slice .bool) b02), (.v (.int .i64) b03)]))), (1, some (.box (.agg [(.v (.slice (.int .i64)) b1), (.v (.slice .bool) b12), (.v (.int .i64) b13)])))], 2, []⟩
def spigotref13_Same.L5 (i : Int) (b0 : List Int) (b02 : List Bool) (b03 : Int) (b1 : List Int) (b12 : List Bool) (b13 : Int) : Option (Bool × Unit) := res spigotref13_Same.c (atJoin spigotref13_Same.b [1, 1, 1, 0, 1, 0, 0, 0, 1]) (spigotref13_Same.S5 i b0 b02 b03 b1 b12 b13)
def spigotref13_Same.S6 (i : Int) (b0 : List Int) (b02 : List Bool) (b03 : Int) (b1 : List Int) (b12 : List Bool) (b13 : Int) : St := ⟨[(2, (.ptr 0 [])), (3, (.ptr 1 [])), (6, (.v (.int .i64) i))], [(0, some (.box (.agg [(.v (.slice (.int .i64)) b0), (.v (.slice .bool) b02), (.v (.int .i64) b03)]))), (1, some (.box (.agg [(.v (.slice (.int .i64)) b1), (.v (.slice .bool) b12), (.v (.int .i64) b13)])))], 2, []⟩
def spigotref13_Same.L6 (i : Int) (b0 : List Int) (b02 : List Bool) (b03 : Int) (b1 : List Int) (b12 : List Bool) (b13 : Int) : Option (Bool × Unit) := res spigotref13_Same.c (atJoin spigotref13_Same.b [1, 1, 1, 0, 1, 0, 0, 1, 0, 0, 1]) (spigotref13_Same.S6 i b0 b02 b03 b1 b12 b13)
def spigotref13_Same.S7 (i : Int) (b0 : List Int) (b02 : List Bool) (b03 : Int) (b1 : List Int) (b12 : List Bool) (b13 : Int) : St := ⟨[(2, (.ptr 0 [])), (3, (.ptr 1 [])), (5, (.v (.int .i64) i))], [(0, some (.box (.agg [(.v (.slice (.int .i64)) b0), (.v (.slice .bool) b02), (.v (.int .i64) b03)]))), (1, some (.box (.agg [(.v (.slice (.int .i64)) b1), (.v (.slice .bool) b12), (.v (.int .i64) b13)])))], 2, []⟩
def spigotref13_Same.L7 (i : Int) (b0 : List Int) (b02 : List Bool) (b03 : Int) (b1 : List Int) (b12 : List Bool) (b13 : Int) : Option (Bool × Unit) := res spigotref13_Same.c (atJoin spigotref13_Same.b [1, 1, 0, 1, 0, 0, 1, 0, 0, 1]) (spigotref13_Same.S7 i b0 b02 b03 b1 b12 b13)
theorem spigotref13_Same.spec : FnSpec Tryz.prog globs 118 spigotref13_Same.Fn := spec_of (E := spigotref13_Same.E) (envOk_at tabOk eqOk primsOk (.nil)) mixOk Tryz.func118 (by kernel_rfl)
theorem spigotref13_Same.L1_eq (b0 : List Int) (b02 : List Bool) (b03 : Int) (b1 : List Int) (b12 : List Bool) (b13 : Int) : spigotref13_Same.L1 b0 b02 b03 b1 b12 b13 =
 spigotref13_Same.L2 0 b0 b02 b03 b1 b12 b13 := res_eq (by kernel_rfl)
theorem spigotref13_Same.L2_eq (i : Int) (b0 : List Int) (b02 : List Bool) (b03 : Int) (b1 : List Int) (b12 : List Bool) (b13 : Int) : spigotref13_Same.L2 i b0 b02 b03 b1 b12 b13 =
 bif (decide ((i : Int) < ((List.length b0 : Int)))) then
  spigotref13_Same.L3 i b0 b02 b03 b1 b12 b13
 else
  spigotref13_Same.L4 0 b0 b02 b03 b1 b12 b13 := res_eq (by kernel_rfl)
theorem spigotref13_Same.L3_eq (i : Int) (b0 : List Int) (b02 : List Bool) (b03 : Int) (b1 : List Int) (b12 : List Bool) (b13 : Int) : spigotref13_Same.L3 i b0 b02 b03 b1 b12 b13 =
 bif (decide ((0 : Int) ≤ i ∧ (i : Int) < ((List.length b0 : Int)))) then
  bif (decide ((0 : Int) ≤ i ∧ (i : Int) < ((List.length b1 : Int)))) then
   bif ((List.getD b0 (Int.toNat i) 0) != (List.getD b1 (Int.toNat i) 0)) then
    some (false, ())
   else
    spigotref13_Same.L7 i b0 b02 b03 b1 b12 b13
  else none
 else none := res_eq (by kernel_rfl)
theorem spigotref13_Same.L4_eq (i : Int) (b0 : List Int) (b02 : List Bool) (b03 : Int) (b1 : List Int) (b12 : List Bool) (b13 : Int) : spigotref13_Same.L4 i b0 b02 b03 b1 b12 b13 =
 bif (decide ((i : Int) < ((List.length b02 : Int)))) then
  spigotref13_Same.L5 i b0 b02 b03 b1 b12 b13
 else
  some (true, ()) := res_eq (by kernel_rfl)
theorem spigotref13_Same.L5_eq (i : Int) (b0 : List Int) (b02 : List Bool) (b03 : Int) (b1 : List Int) (b12 : List Bool) (b13 : Int) : spigotref13_Same.L5 i b0 b02 b03 b1 b12 b13 =
 bif (decide ((0 : Int) ≤ i ∧ (i : Int) < ((List.length b02 : Int)))) then
  bif (decide ((0 : Int) ≤ i ∧ (i : Int) < ((List.length b12 : Int)))) then
   bif (!((List.getD b02 (Int.toNat i) false) == (List.getD b12 (Int.toNat i) false))) then
    some (false, ())
   else
    spigotref13_Same.L6 i b0 b02 b03 b1 b12 b13
  else none
 else none := res_eq (by kernel_rfl)
theorem spigotref13_Same.L6_eq (i : Int) (b0 : List Int) (b02 : List Bool) (b03 : Int) (b1 : List Int) (b12 : List Bool) (b13 : Int) : spigotref13_Same.L6 i b0 b02 b03 b1 b12 b13 =
 spigotref13_Same.L4 (IntKind.wrap .i64 (i + 1)) b0 b02 b03 b1 b12 b13 := res_eq (by kernel_rfl)
theorem spigotref13_Same.L7_eq (i : Int) (b0 : List Int) (b02 : List Bool) (b03 : Int) (b1 : List Int) (b12 : List Bool) (b13 : Int) : spigotref13_Same.L7 i b0 b02 b03 b1 b12 b13 =
 spigotref13_Same.L2 (IntKind.wrap .i64 (i + 1)) b0 b02 b03 b1 b12 b13 := res_eq (by kernel_rfl)
theorem spigotref13_Same.F_eq (a : t2.den) (b : t2.den) : spigotref13_Same.F a b =
 bif (a.2.2.1 != b.2.2.1) then
  some (false, ())
 else
  bif (((List.length a.1 : Int)) != ((List.length b.1 : Int))) then
   some (false, ())
  else
   bif (((List.length a.2.1 : Int)) != ((List.length b.2.1 : Int))) then
    some (false, ())
   else
    spigotref13_Same.L1 a.1 a.2.1 a.2.2.1 b.1 b.2.1 b.2.2.1 := by kernel_rfl
/-! ### spigot/spigotref14.Same (119) -/
def spigotref14_Same.sg : Sig := ⟨[.val (.slice t3), .val (.slice t3)], [(.bool, true)]⟩
def spigotref14_Same.E : Env := ⟨tl, fun i => look i [], [], eqs, globs, prims⟩
def spigotref14_Same.c := cxOf spigotref14_Same.E spigotref14_Same.sg Tryz.f119
def spigotref14_Same.b := body Tryz.f119
def spigotref14_Same.Fn : Fun := fnOf spigotref14_Same.E spigotref14_Same.sg Tryz.f119
def spigotref14_Same.F (a b : List t3.den) : Option (Bool × Unit) := spigotref14_Same.Fn.F (a, b, ())
def spigotref14_Same.S1 (a b : List t3.den) : St := ⟨[(0, (.v (.slice t3) a)), (1, (.v (.slice t3) b))], [], 0, []⟩
def spigotref14_Same.L1 (a b : List t3.den) : Option (Bool × Unit) := res spigotref14_Same.c (atJoin spigotref14_Same.b [1, 0, 1]) (spigotref14_Same.S1 a b)
def spigotref14_Same.S2 (a b : List t3.den) (i : Int) : St := ⟨[(0, (.v (.slice t3) a)), (1, (.v (.slice t3) b)), (5, (.v (.int .i64) i))], [], 0, []⟩
def spigotref14_Same.L2 (a b : List t3.den) (i : Int) : Option (Bool × Unit) := res spigotref14_Same.c (atLoop spigotref14_Same.b [1, 1, 0, 1, 0]) (spigotref14_Same.S2 a b i)
def spigotref14_Same.S3 (a b : List t3.den) (i : Int) : St := ⟨[(0, (.v (.slice t3) a)), (1, (.v (.slice t3) b)), (5, (.v (.int .i64) i))], [], 0, []⟩
def spigotref14_Same.L3 (a b : List t3.den) (i : Int) : Option (Bool × Unit) := res spigotref14_Same.c (atJoin spigotref14_Same.b [1, 1, 0, 1, 0, 0, 0, 1]) (spigotref14_Same.S3 a b i)
def spigotref14_Same.S4 (a b : List t3.den) (i : Int) : St := ⟨[(0, (.v (.slice t3) a)), (1, (.v (.slice t3) b)), (5, (.v (.int .i64) i))], [], 0, []⟩
def spigotref14_Same.L4 (a b : List t3.den) (i : Int) : Option (Bool × Unit) := res spigotref14_Same.c (atJoin spigotref14_Same.b [1, 1, 0, 1, 0, 0, 1, 0, 0, 1]) (spigotref14_Same.S4 a b i)
theorem spigotref14_Same.spec : FnSpec Tryz.prog globs 119 spigotref14_Same.Fn := spec_of (E := spigotref14_Same.E) (envOk_at tabOk eqOk primsOk (.nil)) mixOk Tryz.func119 (by kernel_rfl)
theorem spigotref14_Same.L1_eq (a b : List t3.den) : spigotref14_Same.L1 a b =
 spigotref14_Same.L2 a b 0 := res_eq (by kernel_rfl)
theorem spigotref14_Same.L2_eq (a b : List t3.den) (i : Int) : spigotref14_Same.L2 a b i =
 bif (decide ((i : Int) < ((List.length a : Int)))) then
  spigotref14_Same.L3 a b i
 else
  some (true, ()) := res_eq (by kernel_rfl)
theorem spigotref14_Same.L3_eq (a b : List t3.den) (i : Int) : spigotref14_Same.L3 a b i =
 bif (decide ((0 : Int) ≤ i ∧ (i : Int) < ((List.length a : Int)))) then
  bif (decide ((0 : Int) ≤ i ∧ (i : Int) < ((List.length b : Int)))) then
   bif (!(Ty.beq t3 (List.getD a (Int.toNat i) (0, 0, false, ())) (List.getD b (Int.toNat i) (0, 0, false, ())))) then
    some (false, ())
   else
    spigotref14_Same.L4 a b i
  else none
 else none := res_eq (by kernel_rfl)
theorem spigotref14_Same.L4_eq (a b : List t3.den) (i : Int) : spigotref14_Same.L4 a b i =
 spigotref14_Same.L2 a b (IntKind.wrap .i64 (i + 1)) := res_eq (by kernel_rfl)
theorem spigotref14_Same.F_eq (a b : List t3.den) : spigotref14_Same.F a b =
 bif (((List.length a : Int)) != ((List.length b : Int))) then
  some (false, ())
 else
  spigotref14_Same.L1 a b := by kernel_rfl
/-! ### spigot/spigotref16.Same (80) -/
def spigotref16_Same.sg : Sig := ⟨[.val t5, .val t5], [(.bool, true)]⟩
def spigotref16_Same.E : Env := ⟨tl, fun i => look i [(81, spigotref16_SameKeys.Fn), (118, spigotref13_Same.Fn), (119, spigotref14_Same.Fn), (120, spigotref15_Same.Fn)], [], eqs, globs, prims⟩
def spigotref16_Same.c := cxOf spigotref16_Same.E spigotref16_Same.sg Tryz.f80
def spigotref16_Same.b := body Tryz.f80
def spigotref16_Same.Fn : Fun := fnOf spigotref16_Same.E spigotref16_Same.sg Tryz.f80
def spigotref16_Same.F (a : t5.den) (b : t5.den) : Option (Bool × Unit) := spigotref16_Same.Fn.F (a, b, ())
def spigotref16_Same.S1 (b0 : Int) (b02 : List Int) (b03 : List t1.den) (b04 : List Int) (b05 : List Bool) (b06 : Int) (b07 : List t3.den) (b08 b09 : List Int) (b010 b011 b1 : Int) (b12 : List Int) (b13 : List t1.den) (b14 : List Int) (b15 : List Bool) (b16 : Int) (b17 : List t3.den) (b18 b19 : List Int) (b110 b111 : Int) : St := ⟨[(2, (.ptr 0 [])), (3, (.ptr 1 []))], [(0, some (.box (.agg [(.v (.int .i64) b0), (.v (.slice (.int .u32)) b02), (.v (.slice t1) b03), (.agg [(.v (.slice (.int .i64)) b04), (.v (.slice .bool) b05), (.v (.int .i64) b06)]), (.v (.slice t3) b07), (.agg [(.v (.slice (.int .i64)) b08), (.v (.slice (.int .i64)) b09), (.v (.int .i64) b010), (.v (.int .i64) b011)])]))), (1, some (.box (.agg [(.v (.int .i64) b1), (.v (.slice (.int .u32)) b12), (.v (.slice t1) b13), (.agg [(.v (.slice (.int .i64)) b14), (.v (.slice .bool) b15), (.v (.int .i64) b16)]), (.v (.slice t3) b17), (.agg [(.v (.slice (.int .i64)) b18), (.v (.slice (.int .i64)) b19), (.v (.int .i64) b110), (.v (.int .i64) b111)])])))], 2, []⟩
def spigotref16_Same.L1 (b0 : Int) (b02 : List Int) (b03 : List t1.den) (b04 : List Int) (b05 : List Bool) (b06 : Int) (b07 : List t3.den) (b08 b09 : List Int) (b010 b011 b1 : Int) (b12 : List Int) (b13 : List t1.den) (b14 : List Int) (b15 : List Bool) (b16 : Int) (b17 : List t3.den) (b18 b19 : List Int) (b110 b111 : Int) : Option (Bool × Unit) := res spigotref16_Same.c (atJoin spigotref16_Same.b [1, 0, 1]) (spigotref16_Same.S1 b0 b02 b03 b04 b05 b06 b07 b08 b09 b010 b011 b1 b12 b13 b14 b15 b16 b17 b18 b19 b110 b111)
def spigotref16_Same.S2 (i b0 : Int) (b02 : List Int) (b03 : List t1.den) (b04 : List Int) (b05 : List Bool) (b06 : Int) (b07 : List t3.den) (b08 b09 : List Int) (b010 b011 b1 : Int) (b12 : List Int) (b13 : List t1.den) (b14 : List Int) (b15 : List Bool) (b16 : Int) (b17 : List t3.den) (b18 b19 : List Int) (b110 b111 : Int) : St := ⟨[(2, (.ptr 0 [])), (3, (.ptr 1 [])), (5, (.v (.int .i64) i))], [(0, some (.box (.agg [(.v (.int .i64) b0), (.v (.slice (.int .u32)) b02), (.v (.slice t1) b03), (.agg [(.v (.slice (.int .i64)) b04), (.v (.slice .bool) b05), (.v (.int .i64) b06)]), (.v (.slice t3) b07), (.agg [(.v (.slice (.int .i64)) b08), (.v (.slice (.int .i64)) b09), (.v (.int .i64) b010), (.v (.int .i64) b011)])]))), (1, some (.box (.agg [(.v (.int .i64) b1), (.v (.slice (.int .u32)) b12), (.v (.slice t1) b13), (.agg [(.v (.slice (.int .i64)) b14), (.v (.slice .bool) b15), (.v (.int .i64) b16)]), (.v (.slice t3) b17), (.agg [(.v (.slice (.int .i64)) b18), (.v (.slice (.int .i64)) b19), (.v (.int .i64) b110), (.v (.int .i64) b111)])])))], 2, []⟩
def spigotref16_Same.L2 (i b0 : Int) (b02 : List Int) (b03 : List t1.den) (b04 : List Int) (b05 : List Bool) (b06 : Int) (b07 : List t3.den) (b08 b09 : List Int) (b010 b011 b1 : Int) (b12 : List Int) (b13 : List t1.den) (b14 : List Int) (b15 : List Bool) (b16 : Int) (b17 : List t3.den) (b18 b19 : List Int) (b110 b111 : Int) : Option (Bool × Unit) := res spigotref16_Same.c (atLoop spigotref16_Same.b [1, 1, 0, 1, 0]) (spigotref16_Same.S2 i b0 b02 b03 b04 b05 b06 b07 b08 b09 b010 b011 b1 b12 b13 b14 b15 b16 b17 b18 b19 b110 b111)
def spigotref16_Same.S3 (i b0 : Int) (b02 : List Int) (b03 : List t1.den) (b04 : List Int) (b05 : List Bool) (b06 : Int) (b07 : List t3.den) (b08 b09 : List Int) (b010 b011 b1 : Int) (b12 : List Int) (b13 : List t1.den) (b14 : List Int) (b15 : List Bool) (b16 : Int) (b17 : List t3.den) (b18 b19 : List Int) (b110 b111 : Int) : St := ⟨[(2, (.ptr 0 [])), (3, (.ptr 1 [])), (5, (.v (.int .i64) i))], [(0, some (.box (.agg [(.v (.int .i64) b0), (.v (.slice (.int .u32)) b02), (.v (.slice t1) b03), (.agg [(.v (.slice (.int .i64)) b04), (.v (.slice .bool) b05), (.v (.int .i64) b06)]), (.v (.slice t3) b07), (.agg [(.v (.slice (.int .i64)) b08), (.v (.slice (.int .i64)) b09), (.v (.int .i64) b010), (.v (.int .i64) b011)])]))), (1, some (.box (.agg [(.v (.int .i64) b1), (.v (.slice (.int .u32)) b12), (.v (.slice t1) b13), (.agg [(.v (.slice (.int .i64)) b14), (.v (.slice .bool) b15), (.v (.int .i64) b16)]), (.v (.slice t3) b17), (.agg [(.v (.slice (.int .i64)) b18), (.v (.slice (.int .i64)) b19), (.v (.int .i64) b110), (.v (.int .i64) b111)])])))], 2, []⟩
def spigotref16_Same.L3 (i b0 : Int) (b02 : List Int) (b03 : List t1.den) (b04 : List Int) (b05 : List Bool) (b06 : Int) (b07 : List t3.den) (b08 b09 : List Int) (b010 b011 b1 : Int) (b12 : List Int) (b13 : List t1.den) (b14 : List Int) (b15 : List Bool) (b16 : Int) (b17 : List t3.den) (b18 b19 : List Int) (b110 b111 : Int) : Option (Bool × Unit) := res spigotref16_Same.c (atJoin spigotref16_Same.b [1, 1, 0, 1, 0, 0, 0, 1]) (spigotref16_Same.S3 i b0 b02 b03 b04 b05 b06 b07 b08 b09 b010 b011 b1 b12 b13 b14 b15 b16 b17 b18 b19 b110 b111)
def spigotref16_Same.S4 (i b0 : Int) (b02 : List Int) (b03 : List t1.den) (b04 : List Int) (b05 : List Bool) (b06 : Int) (b07 : List t3.den) (b08 b09 : List Int) (b010 b011 b1 : Int) (b12 : List Int) (b13 : List t1.den) (b14 : List Int) (b15 : List Bool) (b16 : Int) (b17 : List t3.den) (b18 b19 : List Int) (b110 b111 : Int) : St := ⟨[(2, (.ptr 0 [])), (3, (.ptr 1 [])), (5, (.v (.int .i64) i))], [(0, some (.box (.agg [(.v (.int .i64) b0), (.v (.slice (.int .u32)) b02), (.v (.slice t1) b03), (.agg [(.v (.slice (.int .i64)) b04), (.v (.slice .bool) b05), (.v (.int .i64) b06)]), (.v (.slice t3) b07), (.agg [(.v (.slice (.int .i64)) b08), (.v (.slice (.int .i64)) b09), (.v (.int .i64) b010), (.v (.int .i64) b011)])]))), (1, some (.box (.agg [(.v (.int .i64) b1), (.v (.slice (.int .u32)) b12), (.v (.slice t1) b13), (.agg [(.v (.slice (.int .i64)) b14), (.v (.slice .bool) b15), (.v (.int .i64) b16)]), (.v (.slice t3) b17), (.agg [(.v (.slice (.int .i64)) b18), (.v (.slice (.int .i64)) b19), (.v (.int .i64) b110), (.v (.int .i64) b111)])])))], 2, []⟩
def spigotref16_Same.L4 (i b0 : Int) (b02 : List Int) (b03 : List t1.den) (b04 : List Int) (b05 : List Bool) (b06 : Int) (b07 : List t3.den) (b08 b09 : List Int) (b010 b011 b1 : Int) (b12 : List Int) (b13 : List t1.den) (b14 : List Int) (b15 : List Bool) (b16 : Int) (b17 : List t3.den) (b18 b19 : List Int) (b110 b111 : Int) : Option (Bool × Unit) := res spigotref16_Same.c (atJoin spigotref16_Same.b [1, 1, 0, 1, 0, 0, 1, 0, 0, 1]) (spigotref16_Same.S4 i b0 b02 b03 b04 b05 b06 b07 b08 b09 b010 b011 b1 b12 b13 b14 b15 b16 b17 b18 b19 b110 b111)
theorem spigotref16_Same.spec : FnSpec Tryz.prog globs 80 spigotref16_Same.Fn := spec_of (E := spigotref16_Same.E) (envOk_at tabOk eqOk primsOk (.cons spigotref16_SameKeys.spec <| .cons spigotref13_Same.spec <| .cons spigotref14_Same.spec <| .cons spigotref15_Same.spec <| .nil)) mixOk Tryz.func80 (by kernel_rfl)
theorem spigotref16_Same.L1_eq (b0 : Int) (b02 : List Int) (b03 : List t1.den) (b04 : List Int) (b05 : List Bool) (b06 : Int) (b07 : List t3.den) (b08 b09 : List Int) (b010 b011 b1 : Int) (b12 : List Int) (b13 : List t1.den) (b14 : List Int) (b15 : List Bool) (b16 : Int) (b17 : List t3.den) (b18 b19 : List Int) (b110 b111 : Int) : spigotref16_Same.L1 b0 b02 b03 b04 b05 b06 b07 b08 b09 b010 b011 b1 b12 b13 b14 b15 b16 b17 b18 b19 b110 b111 =
 spigotref16_Same.L2 0 b0 b02 b03 b04 b05 b06 b07 b08 b09 b010 b011 b1 b12 b13 b14 b15 b16 b17 b18 b19 b110 b111 := res_eq (by kernel_rfl)
theorem spigotref16_Same.L2_eq (i b0 : Int) (b02 : List Int) (b03 : List t1.den) (b04 : List Int) (b05 : List Bool) (b06 : Int) (b07 : List t3.den) (b08 b09 : List Int) (b010 b011 b1 : Int) (b12 : List Int) (b13 : List t1.den) (b14 : List Int) (b15 : List Bool) (b16 : Int) (b17 : List t3.den) (b18 b19 : List Int) (b110 b111 : Int) : spigotref16_Same.L2 i b0 b02 b03 b04 b05 b06 b07 b08 b09 b010 b011 b1 b12 b13 b14 b15 b16 b17 b18 b19 b110 b111 =
 bif (decide ((i : Int) < ((List.length b03 : Int)))) then
  spigotref16_Same.L3 i b0 b02 b03 b04 b05 b06 b07 b08 b09 b010 b011 b1 b12 b13 b14 b15 b16 b17 b18 b19 b110 b111
 else
  some (true, ()) := res_eq (by kernel_rfl)
theorem spigotref16_Same.L3_eq (i b0 : Int) (b02 : List Int) (b03 : List t1.den) (b04 : List Int) (b05 : List Bool) (b06 : Int) (b07 : List t3.den) (b08 b09 : List Int) (b010 b011 b1 : Int) (b12 : List Int) (b13 : List t1.den) (b14 : List Int) (b15 : List Bool) (b16 : Int) (b17 : List t3.den) (b18 b19 : List Int) (b110 b111 : Int) : spigotref16_Same.L3 i b0 b02 b03 b04 b05 b06 b07 b08 b09 b010 b011 b1 b12 b13 b14 b15 b16 b17 b18 b19 b110 b111 =
 bif (decide ((0 : Int) ≤ i ∧ (i : Int) < ((List.length b03 : Int)))) then
  bif (decide ((0 : Int) ≤ i ∧ (i : Int) < ((List.length b13 : Int)))) then
   bif (!(Ty.beq t1 (List.getD b03 (Int.toNat i) ((0, 0, 0, ()), 0, 0, 0, ())) (List.getD b13 (Int.toNat i) ((0, 0, 0, ()), 0, 0, 0, ())))) then
    some (false, ())
   else
    spigotref16_Same.L4 i b0 b02 b03 b04 b05 b06 b07 b08 b09 b010 b011 b1 b12 b13 b14 b15 b16 b17 b18 b19 b110 b111
  else none
 else none := res_eq (by kernel_rfl)
theorem spigotref16_Same.L4_eq (i b0 : Int) (b02 : List Int) (b03 : List t1.den) (b04 : List Int) (b05 : List Bool) (b06 : Int) (b07 : List t3.den) (b08 b09 : List Int) (b010 b011 b1 : Int) (b12 : List Int) (b13 : List t1.den) (b14 : List Int) (b15 : List Bool) (b16 : Int) (b17 : List t3.den) (b18 b19 : List Int) (b110 b111 : Int) : spigotref16_Same.L4 i b0 b02 b03 b04 b05 b06 b07 b08 b09 b010 b011 b1 b12 b13 b14 b15 b16 b17 b18 b19 b110 b111 =
 spigotref16_Same.L2 (IntKind.wrap .i64 (i + 1)) b0 b02 b03 b04 b05 b06 b07 b08 b09 b010 b011 b1 b12 b13 b14 b15 b16 b17 b18 b19 b110 b111 := res_eq (by kernel_rfl)
theorem spigotref16_Same.F_eq (a : t5.den) (b : t5.den) : spigotref16_Same.F a b =
 bif (a.1 != b.1) then
  some (false, ())
 else
  (spigotref16_SameKeys.F a.2.1 b.2.1).bind fun r0 =>
  bif (!r0.1) then
   some (false, ())
  else
   bif (((List.length a.2.2.1 : Int)) != ((List.length b.2.2.1 : Int))) then
    some (false, ())
   else
    (spigotref13_Same.F a.2.2.2.1 b.2.2.2.1).bind fun r1 =>
    bif (!r1.1) then
     some (false, ())
    else
     (spigotref14_Same.F a.2.2.2.2.1 b.2.2.2.2.1).bind fun r2 =>
     bif (!r2.1) then
      some (false, ())
     else
      (spigotref15_Same.F a.2.2.2.2.2.1 b.2.2.2.2.2.1).bind fun r3 =>
      bif (!r3.1) then
       some (false, ())
      else
       spigotref16_Same.L1 a.1 a.2.1 a.2.2.1 a.2.2.2.1.1 a.2.2.2.1.2.1 a.2.2.2.1.2.2.1 a.2.2.2.2.1 a.2.2.2.2.2.1.1 a.2.2.2.2.2.1.2.1 a.2.2.2.2.2.1.2.2.1 a.2.2.2.2.2.1.2.2.2.1 b.1 b.2.1 b.2.2.1 b.2.2.2.1.1 b.2.2.2.1.2.1 b.2.2.2.1.2.2.1 b.2.2.2.2.1 b.2.2.2.2.2.1.1 b.2.2.2.2.2.1.2.1 b.2.2.2.2.2.1.2.2.1 b.2.2.2.2.2.1.2.2.2.1 := by kernel_rfl
/-! ### spigot/spigotref18.Same (54) -/
def spigotref18_Same.sg : Sig := ⟨[.val t7, .val t7], [(.bool, true)]⟩
def spigotref18_Same.E : Env := ⟨tl, fun i => look i [(80, spigotref16_Same.Fn), (81, spigotref16_SameKeys.Fn)], [], eqs, globs, prims⟩
def spigotref18_Same.c := cxOf spigotref18_Same.E spigotref18_Same.sg Tryz.f54
def spigotref18_Same.b := body Tryz.f54
def spigotref18_Same.Fn : Fun := fnOf spigotref18_Same.E spigotref18_Same.sg Tryz.f54
def spigotref18_Same.F (a : t7.den) (b : t7.den) : Option (Bool × Unit) := spigotref18_Same.Fn.F (a, b, ())
theorem spigotref18_Same.spec : FnSpec Tryz.prog globs 54 spigotref18_Same.Fn := spec_of (E := spigotref18_Same.E) (envOk_at tabOk eqOk primsOk (.cons spigotref16_Same.spec <| .cons spigotref16_SameKeys.spec <| .nil)) mixOk Tryz.func54 (by kernel_rfl)
theorem spigotref18_Same.F_eq (a : t7.den) (b : t7.den) : spigotref18_Same.F a b =
 bif (a.1 == b.1) then
  bif (Ty.beq (.arr 3 t0) a.2.1 b.2.1) then
   bif (Ty.beq t1 a.2.2.1 b.2.2.1) then
    (spigotref16_Same.F a.2.2.2.1 b.2.2.2.1).bind fun r0 =>
    bif r0.1 then
     (spigotref16_Same.F a.2.2.2.2.1 b.2.2.2.2.1).bind fun r1 =>
     bif r1.1 then
      (spigotref16_SameKeys.F a.2.2.2.2.2.1 b.2.2.2.2.2.1).bind fun r2 =>
      bif r2.1 then
       some ((Ty.beq t6 a.2.2.2.2.2.2.1 b.2.2.2.2.2.2.1), ())
      else
       some (false, ())
     else
      some (false, ())
    else
     some (false, ())
   else
    some (false, ())
  else
   some (false, ())
 else
  some (false, ()) := by kernel_rfl
/-! ### spigot/spigotref19.Same (30) -/
def spigotref19_Same.sg : Sig := ⟨[.val (.slice t7), .val (.slice t7)], [(.bool, true)]⟩
def spigotref19_Same.E : Env := ⟨tl, fun i => look i [(54, spigotref18_Same.Fn)], [], eqs, globs, prims⟩
def spigotref19_Same.c := cxOf spigotref19_Same.E spigotref19_Same.sg Tryz.f30
def spigotref19_Same.b := body Tryz.f30
def spigotref19_Same.Fn : Fun := fnOf spigotref19_Same.E spigotref19_Same.sg Tryz.f30
def spigotref19_Same.F (a b : List t7.den) : Option (Bool × Unit) := spigotref19_Same.Fn.F (a, b, ())
def spigotref19_Same.S1 (a b : List t7.den) : St := ⟨[(0, (.v (.slice t7) a)), (1, (.v (.slice t7) b))], [], 0, []⟩
def spigotref19_Same.L1 (a b : List t7.den) : Option (Bool × Unit) := res spigotref19_Same.c (atJoin spigotref19_Same.b [1, 0, 1]) (spigotref19_Same.S1 a b)
def spigotref19_Same.S2 (a b : List t7.den) (i : Int) : St := ⟨[(0, (.v (.slice t7) a)), (1, (.v (.slice t7) b)), (5, (.v (.int .i64) i))], [], 0, []⟩
def spigotref19_Same.L2 (a b : List t7.den) (i : Int) : Option (Bool × Unit) := res spigotref19_Same.c (atLoop spigotref19_Same.b [1, 1, 0, 1, 0]) (spigotref19_Same.S2 a b i)
def spigotref19_Same.S3 (a b : List t7.den) (i : Int) : St := ⟨[(0, (.v (.slice t7) a)), (1, (.v (.slice t7) b)), (5, (.v (.int .i64) i))], [], 0, []⟩
def spigotref19_Same.L3 (a b : List t7.den) (i : Int) : Option (Bool × Unit) := res spigotref19_Same.c (atJoin spigotref19_Same.b [1, 1, 0, 1, 0, 0, 0, 1]) (spigotref19_Same.S3 a b i)
def spigotref19_Same.S4 (a b : List t7.den) (i : Int) : St := ⟨[(0, (.v (.slice t7) a)), (1, (.v (.slice t7) b)), (5, (.v (.int .i64) i))], [], 0, []⟩
def spigotref19_Same.L4 (a b : List t7.den) (i : Int) : Option (Bool × Unit) := res spigotref19_Same.c (atJoin spigotref19_Same.b [1, 1, 0, 1, 0, 0, 1, 0, 0, 1]) (spigotref19_Same.S4 a b i)
theorem spigotref19_Same.spec : FnSpec Tryz.prog globs 30 spigotref19_Same.Fn := spec_of (E := spigotref19_Same.E) (envOk_at tabOk eqOk primsOk (.cons spigotref18_Same.spec <| .nil)) mixOk Tryz.func30 (by kernel_rfl)
theorem spigotref19_Same.L1_eq (a b : List t7.den) : spigotref19_Same.L1 a b =
 spigotref19_Same.L2 a b 0 := res_eq (by kernel_rfl)
theorem spigotref19_Same.L2_eq (a b : List t7.den) (i : Int) : spigotref19_Same.L2 a b i =
 bif (decide ((i : Int) < ((List.length a : Int)))) then
  spigotref19_Same.L3 a b i
 else
  some (true, ()) := res_eq (by kernel_rfl)
theorem spigotref19_Same.L3_eq (a b : List t7.den) (i : Int) : spigotref19_Same.L3 a b i =
 bif (decide ((0 : Int) ≤ i ∧ (i : Int) < ((List.length a : Int)))) then
  bif (decide ((0 : Int) ≤ i ∧ (i : Int) < ((List.length b : Int)))) then
   (spigotref18_Same.F (List.getD a (Int.toNat i) d7_) (List.getD b (Int.toNat i) d7_)).bind fun r0 =>
   bif (!r0.1) then
    some (false, ())
   else
    spigotref19_Same.L4 a b i
  else none
 else none := res_eq (by kernel_rfl)
theorem spigotref19_Same.L4_eq (a b : List t7.den) (i : Int) : spigotref19_Same.L4 a b i =
 spigotref19_Same.L2 a b (IntKind.wrap .i64 (i + 1)) := res_eq (by kernel_rfl)
theorem spigotref19_Same.F_eq (a b : List t7.den) : spigotref19_Same.F a b =
 bif (((List.length a : Int)) != ((List.length b : Int))) then
  some (false, ())
 else
  spigotref19_Same.L1 a b := by kernel_rfl
/-! ### spigot/spigotref20.Same (11) -/
def spigotref20_Same.sg : Sig := ⟨[.val t8, .val t8], [(.bool, true)]⟩
def spigotref20_Same.E : Env := ⟨tl, fun i => look i [(30, spigotref19_Same.Fn)], [], eqs, globs, prims⟩
def spigotref20_Same.c := cxOf spigotref20_Same.E spigotref20_Same.sg Tryz.f11
def spigotref20_Same.b := body Tryz.f11
def spigotref20_Same.Fn : Fun := fnOf spigotref20_Same.E spigotref20_Same.sg Tryz.f11
def spigotref20_Same.F (a : t8.den) (b : t8.den) : Option (Bool × Unit) := spigotref20_Same.Fn.F (a, b, ())
theorem spigotref20_Same.spec : FnSpec Tryz.prog globs 11 spigotref20_Same.Fn := spec_of (E := spigotref20_Same.E) (envOk_at tabOk eqOk primsOk (.cons spigotref19_Same.spec <| .nil)) mixOk Tryz.func11 (by kernel_rfl)
theorem spigotref20_Same.F_eq (a : t8.den) (b : t8.den) : spigotref20_Same.F a b =
 bif (a.1 == b.1) then
  bif (Ty.beq (.arr 32 (.int .u8)) a.2.1 b.2.1) then
   bif (Ty.beq (.arr 16 (.int .u32)) a.2.2.1 b.2.2.1) then
    (spigotref19_Same.F a.2.2.2.1 b.2.2.2.1).bind fun r0 =>
    some (r0.1, ())
   else
    some (false, ())
  else
   some (false, ())
 else
  some (false, ()) := by kernel_rfl
/-! ### spigot/registry.Check (84) -/
def registry_Check.sg : Sig := ⟨[.val (.slice t7)], [((.int .i64), true)]⟩
def registry_Check.E : Env := ⟨tl, fun i => look i [(128, part_Check.Fn)], [], eqs, globs, prims⟩
def registry_Check.c := cxOf registry_Check.E registry_Check.sg Tryz.f84
def registry_Check.b := body Tryz.f84
def registry_Check.Fn : Fun := fnOf registry_Check.E registry_Check.sg Tryz.f84
def registry_Check.F (l : List t7.den) : Option (Int × Unit) := registry_Check.Fn.F (l, ())
def registry_Check.S1 (l : List t7.den) : St := ⟨[(0, (.v (.slice t7) l))], [], 0, []⟩
def registry_Check.L1 (l : List t7.den) : Option (Int × Unit) := res registry_Check.c (atJoin registry_Check.b [1, 0, 1]) (registry_Check.S1 l)
def registry_Check.S2 (l : List t7.den) (t9_ t10_ : Int) : St := ⟨[(0, (.v (.slice t7) l)), (8, (.v (.slice t7) l)), (9, (.v (.int .i64) t9_)), (10, (.v (.int .i64) t10_))], [], 0, []⟩
def registry_Check.L2 (l : List t7.den) (t9_ t10_ : Int) : Option (Int × Unit) := res registry_Check.c (atLoop registry_Check.b [1, 1, 0, 1, 0]) (registry_Check.S2 l t9_ t10_)
def registry_Check.S3 (l : List t7.den) (t9_ t10_ : Int) : St := ⟨[(0, (.v (.slice t7) l)), (8, (.v (.slice t7) l)), (9, (.v (.int .i64) t9_)), (10, (.v (.int .i64) t10_))], [], 0, []⟩
def registry_Check.L3 (l : List t7.den) (t9_ t10_ : Int) : Option (Int × Unit) := res registry_Check.c (atJoin registry_Check.b [1, 1, 0, 1, 0, 0, 1, 0]) (registry_Check.S3 l t9_ t10_)
def registry_Check.S4 (l : List t7.den) (t9_ t10_ : Int) : St := ⟨[(0, (.v (.slice t7) l)), (8, (.v (.slice t7) l)), (9, (.v (.int .i64) t9_)), (10, (.v (.int .i64) t10_))], [], 0, []⟩
def registry_Check.L4 (l : List t7.den) (t9_ t10_ : Int) : Option (Int × Unit) := res registry_Check.c (atJoin registry_Check.b [1, 1, 0, 1, 0, 0, 1, 1, 0, 0, 1, 1]) (registry_Check.S4 l t9_ t10_)
theorem registry_Check.spec : FnSpec Tryz.prog globs 84 registry_Check.Fn := spec_of (E := registry_Check.E) (envOk_at tabOk eqOk primsOk (.cons part_Check.spec <| .nil)) mixOk Tryz.func84 (by kernel_rfl)
theorem registry_Check.L1_eq (l : List t7.den) : registry_Check.L1 l =
 registry_Check.L2 l ((List.length l : Int)) 0 := res_eq (by kernel_rfl)
theorem registry_Check.L2_eq (l : List t7.den) (t9_ t10_ : Int) : registry_Check.L2 l t9_ t10_ =
 bif (decide ((t10_ : Int) < t9_)) then
  registry_Check.L3 l t9_ t10_
 else
  some (0, ()) := res_eq (by kernel_rfl)
theorem registry_Check.L3_eq (l : List t7.den) (t9_ t10_ : Int) : registry_Check.L3 l t9_ t10_ =
 bif (decide ((0 : Int) ≤ t10_ ∧ (t10_ : Int) < ((List.length l : Int)))) then
  (part_Check.F (List.getD l (Int.toNat t10_) d7_)).bind fun r0 =>
  bif (r0.1 != 0) then
   some (8, ())
  else
   bif (decide ((t10_ : Int) > 0)) then
    bif (decide ((0 : Int) ≤ (IntKind.wrap .i64 (t10_ - 1)) ∧ ((IntKind.wrap .i64 (t10_ - 1)) : Int) < ((List.length l : Int)))) then
     bif (decide ((((List.getD l (Int.toNat (IntKind.wrap .i64 (t10_ - 1))) d7_).1) : Int) ≥ ((List.getD l (Int.toNat t10_) d7_).1))) then
      some (8, ())
     else
      registry_Check.L4 l t9_ t10_
    else none
   else
    registry_Check.L4 l t9_ t10_
 else none := res_eq (by kernel_rfl)
theorem registry_Check.L4_eq (l : List t7.den) (t9_ t10_ : Int) : registry_Check.L4 l t9_ t10_ =
 registry_Check.L2 l t9_ (IntKind.wrap .i64 (t10_ + 1)) := res_eq (by kernel_rfl)
theorem registry_Check.F_eq (l : List t7.den) : registry_Check.F l =
 bif (decide ((((List.length l : Int)) : Int) > 8)) then
  some (4, ())
 else
  registry_Check.L1 l := by kernel_rfl
/-! ### slices.Max[[]uint32,uint32] (85) -/
def slices_Max.sg : Sig := ⟨[.val (.slice (.int .u32))], [((.int .u32), true)]⟩
def slices_Max.E : Env := ⟨tl, fun i => look i [], [], eqs, globs, prims⟩
def slices_Max.c := cxOf slices_Max.E slices_Max.sg Tryz.f85
def slices_Max.b := body Tryz.f85
def slices_Max.Fn : Fun := fnOf slices_Max.E slices_Max.sg Tryz.f85
def slices_Max.F (x : List Int) : Option (Int × Unit) := slices_Max.Fn.F (x, ())
def slices_Max.S1 (x : List Int) : St := ⟨[(0, (.v (.slice (.int .u32)) x))], [], 0, []⟩
def slices_Max.L1 (x : List Int) : Option (Int × Unit) := res slices_Max.c (atJoin slices_Max.b [1, 0, 1]) (slices_Max.S1 x)
def slices_Max.S2 (x : List Int) (m i : Int) : St := ⟨[(0, (.v (.slice (.int .u32)) x)), (3, (.v (.int .u32) m)), (4, (.v (.int .i64) i))], [], 0, []⟩
def slices_Max.L2 (x : List Int) (m i : Int) : Option (Int × Unit) := res slices_Max.c (atLoop slices_Max.b [1, 1, 1, 0, 1, 0]) (slices_Max.S2 x m i)
def slices_Max.S3 (x : List Int) (m i : Int) : St := ⟨[(0, (.v (.slice (.int .u32)) x)), (3, (.v (.int .u32) m)), (4, (.v (.int .i64) i))], [], 0, []⟩
def slices_Max.L3 (x : List Int) (m i : Int) : Option (Int × Unit) := res slices_Max.c (atJoin slices_Max.b [1, 1, 1, 0, 1, 0, 0, 0, 1]) (slices_Max.S3 x m i)
theorem slices_Max.spec : FnSpec Tryz.prog globs 85 slices_Max.Fn := spec_of (E := slices_Max.E) (envOk_at tabOk eqOk primsOk (.nil)) mixOk Tryz.func85 (by kernel_rfl)
theorem slices_Max.L1_eq (x : List Int) : slices_Max.L1 x =
 bif (decide ((0 : Int) ≤ 0 ∧ (0 : Int) < ((List.length x : Int)))) then
  slices_Max.L2 x (List.getD x (Int.toNat 0) 0) 1
 else none := res_eq (by kernel_rfl)
theorem slices_Max.L2_eq (x : List Int) (m i : Int) : slices_Max.L2 x m i =
 bif (decide ((i : Int) < ((List.length x : Int)))) then
  slices_Max.L3 x m i
 else
  some (m, ()) := res_eq (by kernel_rfl)
theorem slices_Max.L3_eq (x : List Int) (m i : Int) : slices_Max.L3 x m i =
 bif (decide ((0 : Int) ≤ i ∧ (i : Int) < ((List.length x : Int)))) then
  slices_Max.L2 x (max m (List.getD x (Int.toNat i) 0)) (IntKind.wrap .i64 (i + 1))
 else none := res_eq (by kernel_rfl)
theorem slices_Max.F_eq (x : List Int) : slices_Max.F x =
 bif (decide ((((List.length x : Int)) : Int) < 1)) then
  none
 else
  slices_Max.L1 x := by kernel_rfl
/-! ### spigot/admin.late$1 (130) -/
def admin_late_1.sg : Sig := ⟨[.val t1, .io (.int .u64) false], [(.bool, true)]⟩
def admin_late_1.E : Env := ⟨tl, fun i => look i [], [], eqs, globs, prims⟩
def admin_late_1.c := cxOf admin_late_1.E admin_late_1.sg Tryz.f130
def admin_late_1.b := body Tryz.f130
def admin_late_1.Fn : Fun := fnOf admin_late_1.E admin_late_1.sg Tryz.f130
def admin_late_1.F (b : t1.den) (x1 : Int) : Option (Int × Bool × Unit) := admin_late_1.Fn.F (b, x1, ())
theorem admin_late_1.spec : FnSpec Tryz.prog globs 130 admin_late_1.Fn := spec_of (E := admin_late_1.E) (envOk_at tabOk eqOk primsOk (.nil)) mixOk Tryz.func130 (by kernel_rfl)
theorem admin_late_1.F_eq (b : t1.den) (x1 : Int) : admin_late_1.F b x1 =
 some (x1, (decide ((b.2.2.2.1 : Int) > x1)), ()) := by kernel_rfl
/-! ### slices.IndexFunc[[]spigot/api.Bucket,spigot/api.Bucket] (170) -/
def slices_IndexFunc_170.sg : Sig := ⟨[.val (.slice t1), .clo 130 (.int .u64)], [((.int .i64), true)]⟩
def slices_IndexFunc_170.E : Env := ⟨tl, fun i => look i [(130, admin_late_1.Fn)], [], eqs, globs, prims⟩
def slices_IndexFunc_170.c := cxOf slices_IndexFunc_170.E slices_IndexFunc_170.sg Tryz.f170
def slices_IndexFunc_170.b := body Tryz.f170
def slices_IndexFunc_170.Fn : Fun := fnOf slices_IndexFunc_170.E slices_IndexFunc_170.sg Tryz.f170
def slices_IndexFunc_170.F (s : List t1.den) (f : Int) : Option (Int × Int × Unit) := slices_IndexFunc_170.Fn.F (s, f, ())
def slices_IndexFunc_170.S1 (s : List t1.den) (t7_ t8_ b0 : Int) : St := ⟨[(0, (.v (.slice t1) s)), (1, (.fn 130 [(.ptr 0 [])])), (7, (.v (.int .i64) t7_)), (8, (.v (.int .i64) t8_))], [(0, some (.box (.v (.int .u64) b0)))], 1, [(.ptr 0 [])]⟩
def slices_IndexFunc_170.L1 (s : List t1.den) (t7_ t8_ b0 : Int) : Option (Int × Int × Unit) := res slices_IndexFunc_170.c (atLoop slices_IndexFunc_170.b [1, 0, 1, 0]) (slices_IndexFunc_170.S1 s t7_ t8_ b0)
def slices_IndexFunc_170.S2 (s : List t1.den) (t7_ t8_ b0 : Int) : St := ⟨[(0, (.v (.slice t1) s)), (1, (.fn 130 [(.ptr 0 [])])), (7, (.v (.int .i64) t7_)), (8, (.v (.int .i64) t8_))], [(0, some (.box (.v (.int .u64) b0)))], 1, [(.ptr 0 [])]⟩
def slices_IndexFunc_170.L2 (s : List t1.den) (t7_ t8_ b0 : Int) : Option (Int × Int × Unit) := res slices_IndexFunc_170.c (atJoin slices_IndexFunc_170.b [1, 0, 1, 0, 0, 1, 0]) (slices_IndexFunc_170.S2 s t7_ t8_ b0)
def slices_IndexFunc_170.S3 (s : List t1.den) (t7_ t8_ b0 : Int) : St := ⟨[(0, (.v (.slice t1) s)), (1, (.fn 130 [(.ptr 0 [])])), (7, (.v (.int .i64) t7_)), (8, (.v (.int .i64) t8_))], [(0, some (.box (.v (.int .u64) b0)))], 1, [(.ptr 0 [])]⟩
def slices_IndexFunc_170.L3 (s : List t1.den) (t7_ t8_ b0 : Int) : Option (Int × Int × Unit) := res slices_IndexFunc_170.c (atJoin slices_IndexFunc_170.b [1, 0, 1, 0, 0, 1, 1, 0, 0, 1, 1]) (slices_IndexFunc_170.S3 s t7_ t8_ b0)
theorem slices_IndexFunc_170.spec : FnSpec Tryz.prog globs 170 slices_IndexFunc_170.Fn := spec_of (E := slices_IndexFunc_170.E) (envOk_at tabOk eqOk primsOk (.cons admin_late_1.spec <| .nil)) mixOk Tryz.func170 (by kernel_rfl)
theorem slices_IndexFunc_170.L1_eq (s : List t1.den) (t7_ t8_ b0 : Int) : slices_IndexFunc_170.L1 s t7_ t8_ b0 =
 bif (decide ((t8_ : Int) < t7_)) then
  slices_IndexFunc_170.L2 s t7_ t8_ b0
 else
  some (b0, (-1), ()) := res_eq (by kernel_rfl)
theorem slices_IndexFunc_170.L2_eq (s : List t1.den) (t7_ t8_ b0 : Int) : slices_IndexFunc_170.L2 s t7_ t8_ b0 =
 bif (decide ((0 : Int) ≤ t8_ ∧ (t8_ : Int) < ((List.length s : Int)))) then
  (admin_late_1.F (List.getD s (Int.toNat t8_) ((0, 0, 0, ()), 0, 0, 0, ())) b0).bind fun r0 =>
  bif r0.2.1 then
   some (r0.1, t8_, ())
  else
   slices_IndexFunc_170.L3 s t7_ t8_ r0.1
 else none := res_eq (by kernel_rfl)
theorem slices_IndexFunc_170.L3_eq (s : List t1.den) (t7_ t8_ b0 : Int) : slices_IndexFunc_170.L3 s t7_ t8_ b0 =
 slices_IndexFunc_170.L1 s t7_ (IntKind.wrap .i64 (t8_ + 1)) b0 := res_eq (by kernel_rfl)
theorem slices_IndexFunc_170.F_eq (s : List t1.den) (f : Int) : slices_IndexFunc_170.F s f =
 slices_IndexFunc_170.L1 s ((List.length s : Int)) 0 f := by kernel_rfl
/-! ### slices.ContainsFunc[[]spigot/api.Bucket,spigot/api.Bucket] (131) -/
def slices_ContainsFunc_131.sg : Sig := ⟨[.val (.slice t1), .clo 130 (.int .u64)], [(.bool, true)]⟩
def slices_ContainsFunc_131.E : Env := ⟨tl, fun i => look i [(170, slices_IndexFunc_170.Fn), (130, admin_late_1.Fn)], [], eqs, globs, prims⟩
def slices_ContainsFunc_131.c := cxOf slices_ContainsFunc_131.E slices_ContainsFunc_131.sg Tryz.f131
def slices_ContainsFunc_131.b := body Tryz.f131
def slices_ContainsFunc_131.Fn : Fun := fnOf slices_ContainsFunc_131.E slices_ContainsFunc_131.sg Tryz.f131
def slices_ContainsFunc_131.F (s : List t1.den) (f : Int) : Option (Int × Bool × Unit) := slices_ContainsFunc_131.Fn.F (s, f, ())
theorem slices_ContainsFunc_131.spec : FnSpec Tryz.prog globs 131 slices_ContainsFunc_131.Fn := spec_of (E := slices_ContainsFunc_131.E) (envOk_at tabOk eqOk primsOk (.cons slices_IndexFunc_170.spec <| .cons admin_late_1.spec <| .nil)) mixOk Tryz.func131 (by kernel_rfl)
theorem slices_ContainsFunc_131.F_eq (s : List t1.den) (f : Int) : slices_ContainsFunc_131.F s f =
 (slices_IndexFunc_170.F s f).bind fun r0 =>
 some (r0.1, (decide ((r0.2.1 : Int) ≥ 0)), ()) := by kernel_rfl
/-! ### spigot/admin.late (88) -/
def admin_late.sg : Sig := ⟨[.val t7, .val (.int .u64)], [(.bool, true)]⟩
def admin_late.E : Env := ⟨tl, fun i => look i [(130, admin_late_1.Fn), (131, slices_ContainsFunc_131.Fn)], [], eqs, globs, prims⟩
def admin_late.c := cxOf admin_late.E admin_late.sg Tryz.f88
def admin_late.b := body Tryz.f88
def admin_late.Fn : Fun := fnOf admin_late.E admin_late.sg Tryz.f88
def admin_late.F (p : t7.den) (tick : Int) : Option (Bool × Unit) := admin_late.Fn.F (p, tick, ())
theorem admin_late.spec : FnSpec Tryz.prog globs 88 admin_late.Fn := spec_of (E := admin_late.E) (envOk_at tabOk eqOk primsOk (.cons admin_late_1.spec <| .cons slices_ContainsFunc_131.spec <| .nil)) mixOk Tryz.func88 (by kernel_rfl)
theorem admin_late.F_eq (p : t7.den) (tick : Int) : admin_late.F p tick =
 (admin_late_1.F p.2.2.1 tick).bind fun r0 =>
 bif r0.2.1 then
  some (true, ())
 else
  (slices_ContainsFunc_131.F p.2.2.2.1.2.2.1 r0.1).bind fun r1 =>
  bif r1.2.1 then
   some (true, ())
  else
   (slices_ContainsFunc_131.F p.2.2.2.2.1.2.2.1 r1.1).bind fun r2 =>
   some (r2.2.1, ()) := by kernel_rfl
/-! ### spigot/admin.Valid$1 (87) -/
def admin_Valid_1.sg : Sig := ⟨[.val t7, .io t8 false], [(.bool, true)]⟩
def admin_Valid_1.E : Env := ⟨tl, fun i => look i [(88, admin_late.Fn)], [], eqs, globs, prims⟩
def admin_Valid_1.c := cxOf admin_Valid_1.E admin_Valid_1.sg Tryz.f87
def admin_Valid_1.b := body Tryz.f87
def admin_Valid_1.Fn : Fun := fnOf admin_Valid_1.E admin_Valid_1.sg Tryz.f87
def admin_Valid_1.F (p : t7.den) (x1 : t8.den) : Option (t8.den × Bool × Unit) := admin_Valid_1.Fn.F (p, x1, ())
theorem admin_Valid_1.spec : FnSpec Tryz.prog globs 87 admin_Valid_1.Fn := spec_of (E := admin_Valid_1.E) (envOk_at tabOk eqOk primsOk (.cons admin_late.spec <| .nil)) mixOk Tryz.func87 (by kernel_rfl)
theorem admin_Valid_1.F_eq (p : t7.den) (x1 : t8.den) : admin_Valid_1.F p x1 =
 (admin_late.F p x1.1).bind fun r0 =>
 some (x1, r0.1, ()) := by kernel_rfl
/-! ### slices.IndexFunc[[]spigot/api.Part,spigot/api.Part] (129) -/
def slices_IndexFunc_129.sg : Sig := ⟨[.val (.slice t7), .clo 87 t8], [((.int .i64), true)]⟩
def slices_IndexFunc_129.E : Env := ⟨tl, fun i => look i [(87, admin_Valid_1.Fn)], [], eqs, globs, prims⟩
def slices_IndexFunc_129.c := cxOf slices_IndexFunc_129.E slices_IndexFunc_129.sg Tryz.f129
def slices_IndexFunc_129.b := body Tryz.f129
def slices_IndexFunc_129.Fn : Fun := fnOf slices_IndexFunc_129.E slices_IndexFunc_129.sg Tryz.f129
def slices_IndexFunc_129.F (s : List t7.den) (f : t8.den) : Option (t8.den × Int × Unit) := slices_IndexFunc_129.Fn.F (s, f, ())
def slices_IndexFunc_129.S1 (s : List t7.den) (t7_ t8_ b0 : Int) (b02 b03 : List Int) (b04 : List t7.den) : St := ⟨[(0, (.v (.slice t7) s)), (1, (.fn 87 [(.ptr 0 [])])), (7, (.v (.int .i64) t7_)), (8, (.v (.int .i64) t8_))], [(0, some (.box (.agg [(.v (.int .u64) b0), (.v (.arr 32 (.int .u8)) b02), (.v (.arr 16 (.int .u32)) b03), (.v (.slice t7) b04)])))], 1, [(.ptr 0 [])]⟩
def slices_IndexFunc_129.L1 (s : List t7.den) (t7_ t8_ b0 : Int) (b02 b03 : List Int) (b04 : List t7.den) : Option (t8.den × Int × Unit) := res slices_IndexFunc_129.c (atLoop slices_IndexFunc_129.b [1, 0, 1, 0]) (slices_IndexFunc_129.S1 s t7_ t8_ b0 b02 b03 b04)
def slices_IndexFunc_129.S2 (s : List t7.den) (t7_ t8_ b0 : Int) (b02 b03 : List Int) (b04 : List t7.den) : St := ⟨[(0, (.v (.slice t7) s)), (1, (.fn 87 [(.ptr 0 [])])), (7, (.v (.int .i64) t7_)), (8, (.v (.int .i64) t8_))], [(0, some (.box (.agg [(.v (.int .u64) b0), (.v (.arr 32 (.int .u8)) b02), (.v (.arr 16 (.int .u32)) b03), (.v (.slice t7) b04)])))], 1, [(.ptr 0 [])]⟩
def slices_IndexFunc_129.L2 (s : List t7.den) (t7_ t8_ b0 : Int) (b02 b03 : List Int) (b04 : List t7.den) : Option (t8.den × Int × Unit) := res slices_IndexFunc_129.c (atJoin slices_IndexFunc_129.b [1, 0, 1, 0, 0, 1, 0]) (slices_IndexFunc_129.S2 s t7_ t8_ b0 b02 b03 b04)
def slices_IndexFunc_129.S3 (s : List t7.den) (t7_ t8_ b0 : Int) (b02 b03 : List Int) (b04 : List t7.den) : St := ⟨[(0, (.v (.slice t7) s)), (1, (.fn 87 [(.ptr 0 [])])), (7, (.v (.int .i64) t7_)), (8, (.v (.int .i64) t8_))], [(0, some (.box (.agg [(.v (.int .u64) b0), (.v (.arr 32 (.int .u8)) b02), (.v (.arr 16 (.int .u32)) b03), (.v (.slice t7) b04)])))], 1, [(.ptr 0 [])]⟩
def slices_IndexFunc_129.L3 (s : List t7.den) (t7_ t8_ b0 : Int) (b02 b03 : List Int) (b04 : List t7.den) : Option (t8.den × Int × Unit) := res slices_IndexFunc_129.c (atJoin slices_IndexFunc_129.b [1, 0, 1, 0, 0, 1, 1, 0, 0, 1, 1]) (slices_IndexFunc_129.S3 s t7_ t8_ b0 b02 b03 b04)
theorem slices_IndexFunc_129.spec : FnSpec Tryz.prog globs 129 slices_IndexFunc_129.Fn := spec_of (E := slices_IndexFunc_129.E) (envOk_at tabOk eqOk primsOk (.cons admin_Valid_1.spec <| .nil)) mixOk Tryz.func129 (by kernel_rfl)
theorem slices_IndexFunc_129.L1_eq (s : List t7.den) (t7_ t8_ b0 : Int) (b02 b03 : List Int) (b04 : List t7.den) : slices_IndexFunc_129.L1 s t7_ t8_ b0 b02 b03 b04 =
 bif (decide ((t8_ : Int) < t7_)) then
  slices_IndexFunc_129.L2 s t7_ t8_ b0 b02 b03 b04
 else
  some ((b0, b02, b03, b04, ()), (-1), ()) := res_eq (by kernel_rfl)
theorem slices_IndexFunc_129.L2_eq (s : List t7.den) (t7_ t8_ b0 : Int) (b02 b03 : List Int) (b04 : List t7.den) : slices_IndexFunc_129.L2 s t7_ t8_ b0 b02 b03 b04 =
 bif (decide ((0 : Int) ≤ t8_ ∧ (t8_ : Int) < ((List.length s : Int)))) then
  (admin_Valid_1.F (List.getD s (Int.toNat t8_) d7_) (b0, b02, b03, b04, ())).bind fun r0 =>
  bif r0.2.1 then
   some (r0.1, t8_, ())
  else
   slices_IndexFunc_129.L3 s t7_ t8_ r0.1.1 r0.1.2.1 r0.1.2.2.1 r0.1.2.2.2.1
 else none := res_eq (by kernel_rfl)
theorem slices_IndexFunc_129.L3_eq (s : List t7.den) (t7_ t8_ b0 : Int) (b02 b03 : List Int) (b04 : List t7.den) : slices_IndexFunc_129.L3 s t7_ t8_ b0 b02 b03 b04 =
 slices_IndexFunc_129.L1 s t7_ (IntKind.wrap .i64 (t8_ + 1)) b0 b02 b03 b04 := res_eq (by kernel_rfl)
theorem slices_IndexFunc_129.F_eq (s : List t7.den) (f : t8.den) : slices_IndexFunc_129.F s f =
 slices_IndexFunc_129.L1 s ((List.length s : Int)) 0 f.1 f.2.1 f.2.2.1 f.2.2.2.1 := by kernel_rfl
/-! ### slices.ContainsFunc[[]spigot/api.Part,spigot/api.Part] (86) -/
def slices_ContainsFunc_86.sg : Sig := ⟨[.val (.slice t7), .clo 87 t8], [(.bool, true)]⟩
def slices_ContainsFunc_86.E : Env := ⟨tl, fun i => look i [(129, slices_IndexFunc_129.Fn), (87, admin_Valid_1.Fn)], [], eqs, globs, prims⟩
def slices_ContainsFunc_86.c := cxOf slices_ContainsFunc_86.E slices_ContainsFunc_86.sg Tryz.f86
def slices_ContainsFunc_86.b := body Tryz.f86
def slices_ContainsFunc_86.Fn : Fun := fnOf slices_ContainsFunc_86.E slices_ContainsFunc_86.sg Tryz.f86
def slices_ContainsFunc_86.F (s : List t7.den) (f : t8.den) : Option (t8.den × Bool × Unit) := slices_ContainsFunc_86.Fn.F (s, f, ())
theorem slices_ContainsFunc_86.spec : FnSpec Tryz.prog globs 86 slices_ContainsFunc_86.Fn := spec_of (E := slices_ContainsFunc_86.E) (envOk_at tabOk eqOk primsOk (.cons slices_IndexFunc_129.spec <| .cons admin_Valid_1.spec <| .nil)) mixOk Tryz.func86 (by kernel_rfl)
theorem slices_ContainsFunc_86.F_eq (s : List t7.den) (f : t8.den) : slices_ContainsFunc_86.F s f =
 (slices_IndexFunc_129.F s f).bind fun r0 =>
 some (r0.1, (decide ((r0.2.1 : Int) ≥ 0)), ()) := by kernel_rfl
/-! ### spigot/admin.Valid (56) -/
def admin_Valid.sg : Sig := ⟨[.val t8], [((.int .i64), true)]⟩
def admin_Valid.E : Env := ⟨tl, fun i => look i [(84, registry_Check.Fn), (85, slices_Max.Fn), (86, slices_ContainsFunc_86.Fn), (87, admin_Valid_1.Fn)], [], eqs, globs, prims⟩
def admin_Valid.c := cxOf admin_Valid.E admin_Valid.sg Tryz.f56
def admin_Valid.b := body Tryz.f56
def admin_Valid.Fn : Fun := fnOf admin_Valid.E admin_Valid.sg Tryz.f56
def admin_Valid.F (s : t8.den) : Option (Int × Unit) := admin_Valid.Fn.F (s, ())
def admin_Valid.S1 (b0 : Int) (b02 b03 : List Int) (b04 : List t7.den) : St := ⟨[(1, (.ptr 0 []))], [(0, some (.box (.agg [(.v (.int .u64) b0), (.v (.arr 32 (.int .u8)) b02), (.v (.arr 16 (.int .u32)) b03), (.v (.slice t7) b04)])))], 1, []⟩
def admin_Valid.L1 (b0 : Int) (b02 b03 : List Int) (b04 : List t7.den) : Option (Int × Unit) := res admin_Valid.c (atJoin admin_Valid.b [1, 0, 1]) (admin_Valid.S1 b0 b02 b03 b04)
def admin_Valid.S2 : St := ⟨[], [], 0, []⟩
def admin_Valid.L2 : Option (Int × Unit) := res admin_Valid.c (atJoin admin_Valid.b [1, 1, 0, 1]) (admin_Valid.S2)
theorem admin_Valid.spec : FnSpec Tryz.prog globs 56 admin_Valid.Fn := spec_of (E := admin_Valid.E) (envOk_at tabOk eqOk primsOk (.cons registry_Check.spec <| .cons slices_Max.spec <| .cons slices_ContainsFunc_86.spec <| .cons admin_Valid_1.spec <| .nil)) mixOk Tryz.func56 (by kernel_rfl)
theorem admin_Valid.L1_eq (b0 : Int) (b02 b03 : List Int) (b04 : List t7.den) : admin_Valid.L1 b0 b02 b03 b04 =
 bif (decide ((0 : Int) ≤ 0 ∧ (0 : Int) ≤ 16 ∧ (16 : Int) ≤ 16)) then
  (slices_Max.F (List.take ((Int.toNat 16) - (Int.toNat 0)) (List.drop (Int.toNat 0) b03))).bind fun r0 =>
  bif (decide ((r0.1 : Int) > 1000000)) then
   some (8, ())
  else
   (slices_ContainsFunc_86.F b04 (b0, b02, b03, b04, ())).bind fun r1 =>
   bif r1.2.1 then
    some (8, ())
   else
    admin_Valid.L2
 else none := res_eq (by kernel_rfl)
theorem admin_Valid.L2_eq : admin_Valid.L2 =
 some (0, ()) := res_eq (by kernel_rfl)
theorem admin_Valid.F_eq (s : t8.den) : admin_Valid.F s =
 (registry_Check.F s.2.2.2.1).bind fun r0 =>
 bif (r0.1 != 0) then
  some (8, ())
 else
  admin_Valid.L1 s.1 s.2.1 s.2.2.1 s.2.2.2.1 := by kernel_rfl
/-! ### spigot/server.Check (34) -/
def server_Check.sg : Sig := ⟨[.val t8], [((.int .i64), true)]⟩
def server_Check.E : Env := ⟨tl, fun i => look i [(56, admin_Valid.Fn)], [], eqs, globs, prims⟩
def server_Check.c := cxOf server_Check.E server_Check.sg Tryz.f34
def server_Check.b := body Tryz.f34
def server_Check.Fn : Fun := fnOf server_Check.E server_Check.sg Tryz.f34
def server_Check.F (s : t8.den) : Option (Int × Unit) := server_Check.Fn.F (s, ())
theorem server_Check.spec : FnSpec Tryz.prog globs 34 server_Check.Fn := spec_of (E := server_Check.E) (envOk_at tabOk eqOk primsOk (.cons admin_Valid.spec <| .nil)) mixOk Tryz.func34 (by kernel_rfl)
theorem server_Check.F_eq (s : t8.den) : server_Check.F s =
 (admin_Valid.F s).bind fun r0 =>
 some (r0.1, ()) := by kernel_rfl
/-! ### spigot/table.Keys (92) -/
def table_Keys.sg : Sig := ⟨[.val t5], [((.slice (.int .u32)), true), ((.int .i64), true)]⟩
def table_Keys.E : Env := ⟨tl, fun i => look i [(106, table_Check.Fn), (134, lru_List.Fn)], [], eqs, globs, prims⟩
def table_Keys.c := cxOf table_Keys.E table_Keys.sg Tryz.f92
def table_Keys.b := body Tryz.f92
def table_Keys.Fn : Fun := fnOf table_Keys.E table_Keys.sg Tryz.f92
def table_Keys.F (t : t5.den) : Option ((List Int) × Int × Unit) := table_Keys.Fn.F (t, ())
def table_Keys.S1 (b0 : Int) (b02 : List Int) (b03 : List t1.den) (b04 : List Int) (b05 : List Bool) (b06 : Int) (b07 : List t3.den) (b08 b09 : List Int) (b010 b011 : Int) : St := ⟨[(1, (.ptr 0 []))], [(0, some (.box (.agg [(.v (.int .i64) b0), (.v (.slice (.int .u32)) b02), (.v (.slice t1) b03), (.agg [(.v (.slice (.int .i64)) b04), (.v (.slice .bool) b05), (.v (.int .i64) b06)]), (.v (.slice t3) b07), (.agg [(.v (.slice (.int .i64)) b08), (.v (.slice (.int .i64)) b09), (.v (.int .i64) b010), (.v (.int .i64) b011)])])))], 1, []⟩
def table_Keys.L1 (b0 : Int) (b02 : List Int) (b03 : List t1.den) (b04 : List Int) (b05 : List Bool) (b06 : Int) (b07 : List t3.den) (b08 b09 : List Int) (b010 b011 : Int) : Option ((List Int) × Int × Unit) := res table_Keys.c (atJoin table_Keys.b [1, 0, 1, 1]) (table_Keys.S1 b0 b02 b03 b04 b05 b06 b07 b08 b09 b010 b011)
def table_Keys.S2 (t22_ t23_ b0 : Int) (b02 : List Int) (b03 : List t1.den) (b04 : List Int) (b05 : List Bool) (b06 : Int) (b07 : List t3.den) (b08 b09 : List Int) (b010 b011 : Int) (l1 l2 : List Int) : St := ⟨[(1, (.ptr 0 [])), (7, (.sl 1)), (21, (.sl 2)), (22, (.v (.int .i64) t22_)), (23, (.v (.int .i64) t23_))], [(0, some (.box (.agg [(.v (.int .i64) b0), (.v (.slice (.int .u32)) b02), (.v (.slice t1) b03), (.agg [(.v (.slice (.int .i64)) b04), (.v (.slice .bool) b05), (.v (.int .i64) b06)]), (.v (.slice t3) b07), (.agg [(.v (.slice (.int .i64)) b08), (.v (.slice (.int .i64)) b09), (.v (.int .i64) b010), (.v (.int .i64) b011)])]))), (1, some (.row (.int .u32) l1 false)), (2, some (.row (.int .i64) l2 false))], 3, []⟩
def table_Keys.L2 (t22_ t23_ b0 : Int) (b02 : List Int) (b03 : List t1.den) (b04 : List Int) (b05 : List Bool) (b06 : Int) (b07 : List t3.den) (b08 b09 : List Int) (b010 b011 : Int) (l1 l2 : List Int) : Option ((List Int) × Int × Unit) := res table_Keys.c (atLoop table_Keys.b [1, 1, 1, 1, 0, 1, 0]) (table_Keys.S2 t22_ t23_ b0 b02 b03 b04 b05 b06 b07 b08 b09 b010 b011 l1 l2)
def table_Keys.S3 (t22_ t23_ b0 : Int) (b02 : List Int) (b03 : List t1.den) (b04 : List Int) (b05 : List Bool) (b06 : Int) (b07 : List t3.den) (b08 b09 : List Int) (b010 b011 : Int) (l1 l2 : List Int) : St := ⟨[(1, (.ptr 0 [])), (7, (.sl 1)), (21, (.sl 2)), (22, (.v (.int .i64) t22_)), (23, (.v (.int .i64) t23_))], [(0, some (.box (.agg [(.v (.int .i64) b0), (.v (.slice (.int .u32)) b02), (.v (.slice t1) b03), (.agg [(.v (.slice (.int .i64)) b04), (.v (.slice .bool) b05), (.v (.int .i64) b06)]), (.v (.slice t3) b07), (.agg [(.v (.slice (.int .i64)) b08), (.v (.slice (.int .i64)) b09), (.v (.int .i64) b010), (.v (.int .i64) b011)])]))), (1, some (.row (.int .u32) l1 false)), (2, some (.row (.int .i64) l2 false))], 3, []⟩
def table_Keys.L3 (t22_ t23_ b0 : Int) (b02 : List Int) (b03 : List t1.den) (b04 : List Int) (b05 : List Bool) (b06 : Int) (b07 : List t3.den) (b08 b09 : List Int) (b010 b011 : Int) (l1 l2 : List Int) : Option ((List Int) × Int × Unit) := res table_Keys.c (atJoin table_Keys.b [1, 1, 1, 1, 0, 1, 0, 0, 1, 0]) (table_Keys.S3 t22_ t23_ b0 b02 b03 b04 b05 b06 b07 b08 b09 b010 b011 l1 l2)
theorem table_Keys.spec : FnSpec Tryz.prog globs 92 table_Keys.Fn := spec_of (E := table_Keys.E) (envOk_at tabOk eqOk primsOk (.cons table_Check.spec <| .cons lru_List.spec <| .nil)) mixOk Tryz.func92 (by kernel_rfl)
theorem table_Keys.L1_eq (b0 : Int) (b02 : List Int) (b03 : List t1.den) (b04 : List Int) (b05 : List Bool) (b06 : Int) (b07 : List t3.den) (b08 b09 : List Int) (b010 b011 : Int) : table_Keys.L1 b0 b02 b03 b04 b05 b06 b07 b08 b09 b010 b011 =
 (lru_List.F (b08, b09, b010, b011, ())).bind fun r0 =>
 table_Keys.L2 ((List.length r0.1 : Int)) 0 b0 b02 b03 b04 b05 b06 b07 b08 b09 b010 b011 ([] : List Int) r0.1 := res_eq (by kernel_rfl)
theorem table_Keys.L2_eq (t22_ t23_ b0 : Int) (b02 : List Int) (b03 : List t1.den) (b04 : List Int) (b05 : List Bool) (b06 : Int) (b07 : List t3.den) (b08 b09 : List Int) (b010 b011 : Int) (l1 l2 : List Int) : table_Keys.L2 t22_ t23_ b0 b02 b03 b04 b05 b06 b07 b08 b09 b010 b011 l1 l2 =
 bif (decide ((t23_ : Int) < t22_)) then
  table_Keys.L3 t22_ t23_ b0 b02 b03 b04 b05 b06 b07 b08 b09 b010 b011 l1 l2
 else
  some (l1, 0, ()) := res_eq (by kernel_rfl)
theorem table_Keys.L3_eq (t22_ t23_ b0 : Int) (b02 : List Int) (b03 : List t1.den) (b04 : List Int) (b05 : List Bool) (b06 : Int) (b07 : List t3.den) (b08 b09 : List Int) (b010 b011 : Int) (l1 l2 : List Int) : table_Keys.L3 t22_ t23_ b0 b02 b03 b04 b05 b06 b07 b08 b09 b010 b011 l1 l2 =
 bif (decide ((0 : Int) ≤ t23_ ∧ (t23_ : Int) < ((List.length l2 : Int)))) then
  bif (decide ((0 : Int) ≤ (List.getD l2 (Int.toNat t23_) 0) ∧ ((List.getD l2 (Int.toNat t23_) 0) : Int) < ((List.length b02 : Int)))) then
   bif (lim ((List.length l1) + (List.length ([(List.getD b02 (Int.toNat (List.getD l2 (Int.toNat t23_) 0)) 0)] : List Int))) (.int .u32)) then
    table_Keys.L2 t22_ (IntKind.wrap .i64 (t23_ + 1)) b0 b02 b03 b04 b05 b06 b07 b08 b09 b010 b011 (l1 ++ ([(List.getD b02 (Int.toNat (List.getD l2 (Int.toNat t23_) 0)) 0)] : List Int)) l2
   else none
  else none
 else none := res_eq (by kernel_rfl)
theorem table_Keys.F_eq (t : t5.den) : table_Keys.F t =
 (table_Check.F t).bind fun r0 =>
 bif (r0.1 != 0) then
  some (([] : List Int), r0.1, ())
 else
  table_Keys.L1 t.1 t.2.1 t.2.2.1 t.2.2.2.1.1 t.2.2.2.1.2.1 t.2.2.2.1.2.2.1 t.2.2.2.2.1 t.2.2.2.2.2.1.1 t.2.2.2.2.2.1.2.1 t.2.2.2.2.2.1.2.2.1 t.2.2.2.2.2.1.2.2.2.1 := by kernel_rfl
/-! ### spigot/table.Get (93) -/
def table_Get.sg : Sig := ⟨[.val t5, .val (.int .u32)], [(t1, true), ((.int .i64), true)]⟩
def table_Get.E : Env := ⟨tl, fun i => look i [(106, table_Check.Fn), (109, table_place.Fn)], [], eqs, globs, prims⟩
def table_Get.c := cxOf table_Get.E table_Get.sg Tryz.f93
def table_Get.b := body Tryz.f93
def table_Get.Fn : Fun := fnOf table_Get.E table_Get.sg Tryz.f93
def table_Get.F (t : t5.den) (key : Int) : Option (t1.den × Int × Unit) := table_Get.Fn.F (t, key, ())
def table_Get.S1 (key b0 : Int) (b02 : List Int) (b03 : List t1.den) (b04 : List Int) (b05 : List Bool) (b06 : Int) (b07 : List t3.den) (b08 b09 : List Int) (b010 b011 : Int) : St := ⟨[(1, (.v (.int .u32) key)), (2, (.ptr 0 [])), (4, (.ptr 1 []))], [(0, some (.box (.agg [(.v (.int .i64) b0), (.v (.slice (.int .u32)) b02), (.v (.slice t1) b03), (.agg [(.v (.slice (.int .i64)) b04), (.v (.slice .bool) b05), (.v (.int .i64) b06)]), (.v (.slice t3) b07), (.agg [(.v (.slice (.int .i64)) b08), (.v (.slice (.int .i64)) b09), (.v (.int .i64) b010), (.v (.int .i64) b011)])]))), (1, some (.box (.agg [(.agg [(.v (.int .i64) 0), (.v (.int .i64) 0), (.v (.int .i64) 0)]), (.v (.int .i64) 0), (.v (.int .i64) 0), (.v (.int .u64) 0)])))], 2, []⟩
def table_Get.L1 (key b0 : Int) (b02 : List Int) (b03 : List t1.den) (b04 : List Int) (b05 : List Bool) (b06 : Int) (b07 : List t3.den) (b08 b09 : List Int) (b010 b011 : Int) : Option (t1.den × Int × Unit) := res table_Get.c (atJoin table_Get.b [1, 0, 1, 1]) (table_Get.S1 key b0 b02 b03 b04 b05 b06 b07 b08 b09 b010 b011)
def table_Get.S2 (i b0 : Int) (b02 : List Int) (b03 : List t1.den) (b04 : List Int) (b05 : List Bool) (b06 : Int) (b07 : List t3.den) (b08 b09 : List Int) (b010 b011 : Int) : St := ⟨[(2, (.ptr 0 [])), (4, (.ptr 1 [])), (7, (.v (.int .i64) i))], [(0, some (.box (.agg [(.v (.int .i64) b0), (.v (.slice (.int .u32)) b02), (.v (.slice t1) b03), (.agg [(.v (.slice (.int .i64)) b04), (.v (.slice .bool) b05), (.v (.int .i64) b06)]), (.v (.slice t3) b07), (.agg [(.v (.slice (.int .i64)) b08), (.v (.slice (.int .i64)) b09), (.v (.int .i64) b010), (.v (.int .i64) b011)])]))), (1, some (.box (.agg [(.agg [(.v (.int .i64) 0), (.v (.int .i64) 0), (.v (.int .i64) 0)]), (.v (.int .i64) 0), (.v (.int .i64) 0), (.v (.int .u64) 0)])))], 2, []⟩
def table_Get.L2 (i b0 : Int) (b02 : List Int) (b03 : List t1.den) (b04 : List Int) (b05 : List Bool) (b06 : Int) (b07 : List t3.den) (b08 b09 : List Int) (b010 b011 : Int) : Option (t1.den × Int × Unit) := res table_Get.c (atJoin table_Get.b [1, 1, 1, 0, 1]) (table_Get.S2 i b0 b02 b03 b04 b05 b06 b07 b08 b09 b010 b011)
theorem table_Get.spec : FnSpec Tryz.prog globs 93 table_Get.Fn := spec_of (E := table_Get.E) (envOk_at tabOk eqOk primsOk (.cons table_Check.spec <| .cons table_place.spec <| .nil)) mixOk Tryz.func93 (by kernel_rfl)
theorem table_Get.L1_eq (key b0 : Int) (b02 : List Int) (b03 : List t1.den) (b04 : List Int) (b05 : List Bool) (b06 : Int) (b07 : List t3.den) (b08 b09 : List Int) (b010 b011 : Int) : table_Get.L1 key b0 b02 b03 b04 b05 b06 b07 b08 b09 b010 b011 =
 (table_place.F (b0, b02, b03, (b04, b05, b06, ()), b07, (b08, b09, b010, b011, ()), ()) key).bind fun r0 =>
 bif (decide ((r0.1 : Int) < 0)) then
  some (((0, 0, 0, ()), 0, 0, 0, ()), 6, ())
 else
  table_Get.L2 r0.1 b0 b02 b03 b04 b05 b06 b07 b08 b09 b010 b011 := res_eq (by kernel_rfl)
theorem table_Get.L2_eq (i b0 : Int) (b02 : List Int) (b03 : List t1.den) (b04 : List Int) (b05 : List Bool) (b06 : Int) (b07 : List t3.den) (b08 b09 : List Int) (b010 b011 : Int) : table_Get.L2 i b0 b02 b03 b04 b05 b06 b07 b08 b09 b010 b011 =
 bif (decide ((0 : Int) ≤ i ∧ (i : Int) < ((List.length b03 : Int)))) then
  some ((List.getD b03 (Int.toNat i) ((0, 0, 0, ()), 0, 0, 0, ())), 0, ())
 else none := res_eq (by kernel_rfl)
theorem table_Get.F_eq (t : t5.den) (key : Int) : table_Get.F t key =
 (table_Check.F t).bind fun r0 =>
 bif (r0.1 != 0) then
  some (((0, 0, 0, ()), 0, 0, 0, ()), r0.1, ())
 else
  table_Get.L1 key t.1 t.2.1 t.2.2.1 t.2.2.2.1.1 t.2.2.2.1.2.1 t.2.2.2.1.2.2.1 t.2.2.2.2.1 t.2.2.2.2.2.1.1 t.2.2.2.2.2.1.2.1 t.2.2.2.2.2.1.2.2.1 t.2.2.2.2.2.1.2.2.2.1 := by kernel_rfl
/-! ### spigot/refine.held (63) -/
def refine_held.sg : Sig := ⟨[.val t5], [((.slice t9), true)]⟩
def refine_held.E : Env := ⟨tl, fun i => look i [(92, table_Keys.Fn), (93, table_Get.Fn)], [], eqs, globs, prims⟩
def refine_held.c := cxOf refine_held.E refine_held.sg Tryz.f63
def refine_held.b := body Tryz.f63
def refine_held.Fn : Fun := fnOf refine_held.E refine_held.sg Tryz.f63
def refine_held.F (t : t5.den) : Option ((List t9.den) × Unit) := refine_held.Fn.F (t, ())
def refine_held.S1 (t16_ t17_ b0 : Int) (b02 : List Int) (b03 : List t1.den) (b04 : List Int) (b05 : List Bool) (b06 : Int) (b07 : List t3.den) (b08 b09 : List Int) (b010 b011 : Int) (l1 : List t9.den) (l2 : List Int) : St := ⟨[(1, (.ptr 0 [])), (3, (.sl 1)), (15, (.sl 2)), (16, (.v (.int .i64) t16_)), (17, (.v (.int .i64) t17_))], [(0, some (.box (.agg [(.v (.int .i64) b0), (.v (.slice (.int .u32)) b02), (.v (.slice t1) b03), (.agg [(.v (.slice (.int .i64)) b04), (.v (.slice .bool) b05), (.v (.int .i64) b06)]), (.v (.slice t3) b07), (.agg [(.v (.slice (.int .i64)) b08), (.v (.slice (.int .i64)) b09), (.v (.int .i64) b010), (.v (.int .i64) b011)])]))), (1, some (.row t9 l1 false)), (2, some (.row (.int .u32) l2 false))], 3, []⟩
def refine_held.L1 (t16_ t17_ b0 : Int) (b02 : List Int) (b03 : List t1.den) (b04 : List Int) (b05 : List Bool) (b06 : Int) (b07 : List t3.den) (b08 b09 : List Int) (b010 b011 : Int) (l1 : List t9.den) (l2 : List Int) : Option ((List t9.den) × Unit) := res refine_held.c (atLoop refine_held.b [1, 1, 1, 0, 1, 0]) (refine_held.S1 t16_ t17_ b0 b02 b03 b04 b05 b06 b07 b08 b09 b010 b011 l1 l2)
def refine_held.S2 (t16_ t17_ b0 : Int) (b02 : List Int) (b03 : List t1.den) (b04 : List Int) (b05 : List Bool) (b06 : Int) (b07 : List t3.den) (b08 b09 : List Int) (b010 b011 : Int) (l1 : List t9.den) (l2 : List Int) : St := ⟨[(1, (.ptr 0 [])), (3, (.sl 1)), (15, (.sl 2)), (16, (.v (.int .i64) t16_)), (17, (.v (.int .i64) t17_))], [(0, some (.box (.agg [(.v (.int .i64) b0), (.v (.slice (.int .u32)) b02), (.v (.slice t1) b03), (.agg [(.v (.slice (.int .i64)) b04), (.v (.slice .bool) b05), (.v (.int .i64) b06)]), (.v (.slice t3) b07), (.agg [(.v (.slice (.int .i64)) b08), (.v (.slice (.int .i64)) b09), (.v (.int .i64) b010), (.v (.int .i64) b011)])]))), (1, some (.row t9 l1 false)), (2, some (.row (.int .u32) l2 false))], 3, []⟩
def refine_held.L2 (t16_ t17_ b0 : Int) (b02 : List Int) (b03 : List t1.den) (b04 : List Int) (b05 : List Bool) (b06 : Int) (b07 : List t3.den) (b08 b09 : List Int) (b010 b011 : Int) (l1 : List t9.den) (l2 : List Int) : Option ((List t9.den) × Unit) := res refine_held.c (atJoin refine_held.b [1, 1, 1, 0, 1, 0, 0, 1, 0]) (refine_held.S2 t16_ t17_ b0 b02 b03 b04 b05 b06 b07 b08 b09 b010 b011 l1 l2)
theorem refine_held.spec : FnSpec Tryz.prog globs 63 refine_held.Fn := spec_of (E := refine_held.E) (envOk_at tabOk eqOk primsOk (.cons table_Keys.spec <| .cons table_Get.spec <| .nil)) mixOk Tryz.func63 (by kernel_rfl)
theorem refine_held.L1_eq (t16_ t17_ b0 : Int) (b02 : List Int) (b03 : List t1.den) (b04 : List Int) (b05 : List Bool) (b06 : Int) (b07 : List t3.den) (b08 b09 : List Int) (b010 b011 : Int) (l1 : List t9.den) (l2 : List Int) : refine_held.L1 t16_ t17_ b0 b02 b03 b04 b05 b06 b07 b08 b09 b010 b011 l1 l2 =
 bif (decide ((t17_ : Int) < t16_)) then
  refine_held.L2 t16_ t17_ b0 b02 b03 b04 b05 b06 b07 b08 b09 b010 b011 l1 l2
 else
  some (l1, ()) := res_eq (by kernel_rfl)
theorem refine_held.L2_eq (t16_ t17_ b0 : Int) (b02 : List Int) (b03 : List t1.den) (b04 : List Int) (b05 : List Bool) (b06 : Int) (b07 : List t3.den) (b08 b09 : List Int) (b010 b011 : Int) (l1 : List t9.den) (l2 : List Int) : refine_held.L2 t16_ t17_ b0 b02 b03 b04 b05 b06 b07 b08 b09 b010 b011 l1 l2 =
 bif (decide ((0 : Int) ≤ t17_ ∧ (t17_ : Int) < ((List.length l2 : Int)))) then
  (table_Get.F (b0, b02, b03, (b04, b05, b06, ()), b07, (b08, b09, b010, b011, ()), ()) (List.getD l2 (Int.toNat t17_) 0)).bind fun r0 =>
  bif (lim ((List.length l1) + (List.length ([((List.getD l2 (Int.toNat t17_) 0), r0.1, ())] : List t9.den))) t9) then
   refine_held.L1 t16_ (IntKind.wrap .i64 (t17_ + 1)) b0 b02 b03 b04 b05 b06 b07 b08 b09 b010 b011 (l1 ++ ([((List.getD l2 (Int.toNat t17_) 0), r0.1, ())] : List t9.den)) l2
  else none
 else none := res_eq (by kernel_rfl)
theorem refine_held.F_eq (t : t5.den) : refine_held.F t =
 (table_Keys.F t).bind fun r0 =>
 refine_held.L1 ((List.length r0.1 : Int)) 0 t.1 t.2.1 t.2.2.1 t.2.2.2.1.1 t.2.2.2.1.2.1 t.2.2.2.1.2.2.1 t.2.2.2.2.1 t.2.2.2.2.2.1.1 t.2.2.2.2.2.1.2.1 t.2.2.2.2.2.1.2.2.1 t.2.2.2.2.2.1.2.2.2.1 ([] : List t9.den) r0.1 := by kernel_rfl
/-! ### spigot/refine.of (41) -/
def refine_of.sg : Sig := ⟨[.val t8], [(t11, true)]⟩
def refine_of.E : Env := ⟨tl, fun i => look i [(63, refine_held.Fn)], [], eqs, globs, prims⟩
def refine_of.c := cxOf refine_of.E refine_of.sg Tryz.f41
def refine_of.b := body Tryz.f41
def refine_of.Fn : Fun := fnOf refine_of.E refine_of.sg Tryz.f41
def refine_of.F (s : t8.den) : Option (t11.den × Unit) := refine_of.Fn.F (s, ())
def refine_of.S1 (t14_ : List t7.den) (t15_ t16_ : Int) (b0 b02 : List Int) (b1 : Int) (b12 b13 : List Int) (l2 l3 : List t10.den) : St := ⟨[(2, (.ptr 0 [])), (3, (.ptr 1 [])), (14, (.v (.slice t7) t14_)), (15, (.v (.int .i64) t15_)), (16, (.v (.int .i64) t16_))], [(0, some (.box (.agg [(.v (.int .u64) 0), (.v (.arr 32 (.int .u8)) b0), (.v (.arr 16 (.int .u32)) b02), (.sl 2)]))), (1, some (.box (.agg [(.v (.int .u64) b1), (.v (.arr 32 (.int .u8)) b12), (.v (.arr 16 (.int .u32)) b13), (.sl 3)]))), (2, some (.row t10 l2 false)), (3, some (.row t10 l3 false))], 4, []⟩
def refine_of.L1 (t14_ : List t7.den) (t15_ t16_ : Int) (b0 b02 : List Int) (b1 : Int) (b12 b13 : List Int) (l2 l3 : List t10.den) : Option (t11.den × Unit) := res refine_of.c (atLoop refine_of.b [1, 1, 0, 1, 0]) (refine_of.S1 t14_ t15_ t16_ b0 b02 b1 b12 b13 l2 l3)
def refine_of.S2 (t14_ : List t7.den) (t15_ t16_ : Int) (b0 b02 : List Int) (b1 : Int) (b12 b13 : List Int) (l2 l3 : List t10.den) : St := ⟨[(2, (.ptr 0 [])), (3, (.ptr 1 [])), (14, (.v (.slice t7) t14_)), (15, (.v (.int .i64) t15_)), (16, (.v (.int .i64) t16_))], [(0, some (.box (.agg [(.v (.int .u64) 0), (.v (.arr 32 (.int .u8)) b0), (.v (.arr 16 (.int .u32)) b02), (.sl 2)]))), (1, some (.box (.agg [(.v (.int .u64) b1), (.v (.arr 32 (.int .u8)) b12), (.v (.arr 16 (.int .u32)) b13), (.sl 3)]))), (2, some (.row t10 l2 false)), (3, some (.row t10 l3 false))], 4, []⟩
def refine_of.L2 (t14_ : List t7.den) (t15_ t16_ : Int) (b0 b02 : List Int) (b1 : Int) (b12 b13 : List Int) (l2 l3 : List t10.den) : Option (t11.den × Unit) := res refine_of.c (atJoin refine_of.b [1, 1, 0, 1, 0, 0, 1, 0]) (refine_of.S2 t14_ t15_ t16_ b0 b02 b1 b12 b13 l2 l3)
theorem refine_of.spec : FnSpec Tryz.prog globs 41 refine_of.Fn := spec_of (E := refine_of.E) (envOk_at tabOk eqOk primsOk (.cons refine_held.spec <| .nil)) mixOk Tryz.func41 (by kernel_rfl)
theorem refine_of.L1_eq (t14_ : List t7.den) (t15_ t16_ : Int) (b0 b02 : List Int) (b1 : Int) (b12 b13 : List Int) (l2 l3 : List t10.den) : refine_of.L1 t14_ t15_ t16_ b0 b02 b1 b12 b13 l2 l3 =
 bif (decide ((t16_ : Int) < t15_)) then
  refine_of.L2 t14_ t15_ t16_ b0 b02 b1 b12 b13 l2 l3
 else
  some ((b1, b12, b13, l3, ()), ()) := res_eq (by kernel_rfl)
theorem refine_of.L2_eq (t14_ : List t7.den) (t15_ t16_ : Int) (b0 b02 : List Int) (b1 : Int) (b12 b13 : List Int) (l2 l3 : List t10.den) : refine_of.L2 t14_ t15_ t16_ b0 b02 b1 b12 b13 l2 l3 =
 bif (decide ((0 : Int) ≤ t16_ ∧ (t16_ : Int) < ((List.length t14_ : Int)))) then
  (refine_held.F (((((List.getD t14_ (Int.toNat t16_) d7_).2).2).2).1)).bind fun r0 =>
  (refine_held.F ((((((List.getD t14_ (Int.toNat t16_) d7_).2).2).2).2).1)).bind fun r1 =>
  bif (lim (List.length (((((((List.getD t14_ (Int.toNat t16_) d7_).2).2).2).2).2).1)) (.int .u32)) then
   bif (lim ((List.length l3) + (List.length ([((List.getD t14_ (Int.toNat t16_) d7_).1, ((List.getD t14_ (Int.toNat t16_) d7_).2).1, ([(((((List.getD t14_ (Int.toNat t16_) d7_).2).2).2).1).1, ((((((List.getD t14_ (Int.toNat t16_) d7_).2).2).2).2).1).1] : List Int), (((List.getD t14_ (Int.toNat t16_) d7_).2).2).1, r0.1, r1.1, ((((((List.getD t14_ (Int.toNat t16_) d7_).2).2).2).2).2).1, (((((((List.getD t14_ (Int.toNat t16_) d7_).2).2).2).2).2).2).1, ())] : List t10.den))) t10) then
    refine_of.L1 t14_ t15_ (IntKind.wrap .i64 (t16_ + 1)) b0 b02 b1 b12 b13 l2 (l3 ++ ([((List.getD t14_ (Int.toNat t16_) d7_).1, ((List.getD t14_ (Int.toNat t16_) d7_).2).1, ([(((((List.getD t14_ (Int.toNat t16_) d7_).2).2).2).1).1, ((((((List.getD t14_ (Int.toNat t16_) d7_).2).2).2).2).1).1] : List Int), (((List.getD t14_ (Int.toNat t16_) d7_).2).2).1, r0.1, r1.1, ((((((List.getD t14_ (Int.toNat t16_) d7_).2).2).2).2).2).1, (((((((List.getD t14_ (Int.toNat t16_) d7_).2).2).2).2).2).2).1, ())] : List t10.den))
   else none
  else none
 else none := res_eq (by kernel_rfl)
theorem refine_of.F_eq (s : t8.den) : refine_of.F s =
 refine_of.L1 s.2.2.2.1 ((List.length s.2.2.2.1 : Int)) 0 (List.replicate 32 (0 : Int)) (List.replicate 16 (0 : Int)) s.1 s.2.1 s.2.2.1 ([] : List t10.den) ([] : List t10.den) := by kernel_rfl
/-! ### spigot/refine.Of (35) -/
def refine_Of.sg : Sig := ⟨[.val t8], [(t11, true), ((.int .i64), true)]⟩
def refine_Of.E : Env := ⟨tl, fun i => look i [(34, server_Check.Fn), (41, refine_of.Fn)], [], eqs, globs, prims⟩
def refine_Of.c := cxOf refine_Of.E refine_Of.sg Tryz.f35
def refine_Of.b := body Tryz.f35
def refine_Of.Fn : Fun := fnOf refine_Of.E refine_Of.sg Tryz.f35
def refine_Of.F (s : t8.den) : Option (t11.den × Int × Unit) := refine_Of.Fn.F (s, ())
def refine_Of.S1 (b0 : Int) (b02 b03 : List Int) (b04 : List t7.den) (b1 b12 : List Int) (l2 : List t10.den) : St := ⟨[(1, (.ptr 0 [])), (2, (.ptr 1 []))], [(0, some (.box (.agg [(.v (.int .u64) b0), (.v (.arr 32 (.int .u8)) b02), (.v (.arr 16 (.int .u32)) b03), (.v (.slice t7) b04)]))), (1, some (.box (.agg [(.v (.int .u64) 0), (.v (.arr 32 (.int .u8)) b1), (.v (.arr 16 (.int .u32)) b12), (.sl 2)]))), (2, some (.row t10 l2 false))], 3, []⟩
def refine_Of.L1 (b0 : Int) (b02 b03 : List Int) (b04 : List t7.den) (b1 b12 : List Int) (l2 : List t10.den) : Option (t11.den × Int × Unit) := res refine_Of.c (atJoin refine_Of.b [1, 0, 1, 1]) (refine_Of.S1 b0 b02 b03 b04 b1 b12 l2)
theorem refine_Of.spec : FnSpec Tryz.prog globs 35 refine_Of.Fn := spec_of (E := refine_Of.E) (envOk_at tabOk eqOk primsOk (.cons server_Check.spec <| .cons refine_of.spec <| .nil)) mixOk Tryz.func35 (by kernel_rfl)
theorem refine_Of.L1_eq (b0 : Int) (b02 b03 : List Int) (b04 : List t7.den) (b1 b12 : List Int) (l2 : List t10.den) : refine_Of.L1 b0 b02 b03 b04 b1 b12 l2 =
 (refine_of.F (b0, b02, b03, b04, ())).bind fun r0 =>
 some (r0.1, 0, ()) := res_eq (by kernel_rfl)
theorem refine_Of.F_eq (s : t8.den) : refine_Of.F s =
 (server_Check.F s).bind fun r0 =>
 bif (r0.1 != 0) then
  some ((0, (List.replicate 32 (0 : Int)), (List.replicate 16 (0 : Int)), ([] : List t10.den), ()), r0.1, ())
 else
  refine_Of.L1 s.1 s.2.1 s.2.2.1 s.2.2.2.1 (List.replicate 32 (0 : Int)) (List.replicate 16 (0 : Int)) ([] : List t10.den) := by kernel_rfl
/-! ### (*spigot/image.writer).put (36) -/
def image_writer_put.sg : Sig := ⟨[.io t13 true, .val (.int .u64), .val (.int .i64)], []⟩
def image_writer_put.E : Env := ⟨tl, fun i => look i [], [], eqs, globs, prims⟩
def image_writer_put.c := cxOf image_writer_put.E image_writer_put.sg Tryz.f36
def image_writer_put.b := body Tryz.f36
def image_writer_put.Fn : Fun := fnOf image_writer_put.E image_writer_put.sg Tryz.f36
def image_writer_put.F (w : t13.den) (n k : Int) : Option (t13.den × Unit) := image_writer_put.Fn.F (w, n, k, ())
def image_writer_put.S1 (n k : Int) (l1 : List Int) : St := ⟨[(0, (.ptr 0 [])), (1, (.v (.int .u64) n)), (2, (.v (.int .i64) k))], [(0, some (.box (.agg [(.sl 1)]))), (1, some (.row (.int .u8) l1 false))], 2, [(.ptr 0 [])]⟩
def image_writer_put.L1 (n k : Int) (l1 : List Int) : Option (t13.den × Unit) := res image_writer_put.c (atLoop image_writer_put.b [1, 0]) (image_writer_put.S1 n k l1)
def image_writer_put.S2 (n k : Int) (l1 : List Int) : St := ⟨[(0, (.ptr 0 [])), (1, (.v (.int .u64) n)), (2, (.v (.int .i64) k))], [(0, some (.box (.agg [(.sl 1)]))), (1, some (.row (.int .u8) l1 false))], 2, [(.ptr 0 [])]⟩
def image_writer_put.L2 (n k : Int) (l1 : List Int) : Option (t13.den × Unit) := res image_writer_put.c (atJoin image_writer_put.b [1, 0, 0, 0, 1]) (image_writer_put.S2 n k l1)
theorem image_writer_put.spec : FnSpec Tryz.prog globs 36 image_writer_put.Fn := spec_of (E := image_writer_put.E) (envOk_at tabOk eqOk primsOk (.nil)) mixOk Tryz.func36 (by kernel_rfl)
theorem image_writer_put.L1_eq (n k : Int) (l1 : List Int) : image_writer_put.L1 n k l1 =
 bif (decide ((k : Int) ≥ 0)) then
  image_writer_put.L2 n k l1
 else
  some ((l1, ()), ()) := res_eq (by kernel_rfl)
theorem image_writer_put.L2_eq (n k : Int) (l1 : List Int) : image_writer_put.L2 n k l1 =
 bif (decide ((0 : Int) ≤ (IntKind.wrap .i64 (8 * k)))) then
  bif (lim ((List.length l1) + (List.length ([(IntKind.wrap .u8 (Int.fdiv n (2 ^ min (Int.toNat (IntKind.wrap .i64 (8 * k))) (IntKind.bits .u64))))] : List Int))) (.int .u8)) then
   image_writer_put.L1 n (IntKind.wrap .i64 (k - 1)) (l1 ++ ([(IntKind.wrap .u8 (Int.fdiv n (2 ^ min (Int.toNat (IntKind.wrap .i64 (8 * k))) (IntKind.bits .u64))))] : List Int))
  else none
 else none := res_eq (by kernel_rfl)
theorem image_writer_put.F_eq (w : t13.den) (n k : Int) : image_writer_put.F w n k =
 image_writer_put.L1 n (IntKind.wrap .i64 (k - 1)) w.1 := by kernel_rfl
/-! ### (*spigot/image.writer).bucket (57) -/
def image_writer_bucket.sg : Sig := ⟨[.io t13 true, .val t1], []⟩
def image_writer_bucket.E : Env := ⟨tl, fun i => look i [(36, image_writer_put.Fn)], [], eqs, globs, prims⟩
def image_writer_bucket.c := cxOf image_writer_bucket.E image_writer_bucket.sg Tryz.f57
def image_writer_bucket.b := body Tryz.f57
def image_writer_bucket.Fn : Fun := fnOf image_writer_bucket.E image_writer_bucket.sg Tryz.f57
def image_writer_bucket.F (w : t13.den) (b : t1.den) : Option (t13.den × Unit) := image_writer_bucket.Fn.F (w, b, ())
theorem image_writer_bucket.spec : FnSpec Tryz.prog globs 57 image_writer_bucket.Fn := spec_of (E := image_writer_bucket.E) (envOk_at tabOk eqOk primsOk (.cons image_writer_put.spec <| .nil)) mixOk Tryz.func57 (by kernel_rfl)
theorem image_writer_bucket.F_eq (w : t13.den) (b : t1.den) : image_writer_bucket.F w b =
 (image_writer_put.F w (IntKind.wrap .u64 b.2.1) 8).bind fun r0 =>
 (image_writer_put.F r0.1 (IntKind.wrap .u64 b.2.2.1) 8).bind fun r1 =>
 (image_writer_put.F r1.1 b.2.2.2.1 8).bind fun r2 =>
 some (r2.1, ()) := by kernel_rfl
/-! ### (*spigot/image.writer).held (58) -/
def image_writer_held.sg : Sig := ⟨[.io t13 true, .val (.slice t9)], []⟩
def image_writer_held.E : Env := ⟨tl, fun i => look i [(36, image_writer_put.Fn), (57, image_writer_bucket.Fn)], [], eqs, globs, prims⟩
def image_writer_held.c := cxOf image_writer_held.E image_writer_held.sg Tryz.f58
def image_writer_held.b := body Tryz.f58
def image_writer_held.Fn : Fun := fnOf image_writer_held.E image_writer_held.sg Tryz.f58
def image_writer_held.F (w : t13.den) (l : List t9.den) : Option (t13.den × Unit) := image_writer_held.Fn.F (w, l, ())
def image_writer_held.S1 (t11_ : List t9.den) (t12_ t13_ : Int) (l1 : List Int) : St := ⟨[(0, (.ptr 0 [])), (11, (.v (.slice t9) t11_)), (12, (.v (.int .i64) t12_)), (13, (.v (.int .i64) t13_))], [(0, some (.box (.agg [(.sl 1)]))), (1, some (.row (.int .u8) l1 false))], 2, [(.ptr 0 [])]⟩
def image_writer_held.L1 (t11_ : List t9.den) (t12_ t13_ : Int) (l1 : List Int) : Option (t13.den × Unit) := res image_writer_held.c (atLoop image_writer_held.b [1, 1, 0]) (image_writer_held.S1 t11_ t12_ t13_ l1)
def image_writer_held.S2 (t11_ : List t9.den) (t12_ t13_ : Int) (l1 : List Int) : St := ⟨[(0, (.ptr 0 [])), (11, (.v (.slice t9) t11_)), (12, (.v (.int .i64) t12_)), (13, (.v (.int .i64) t13_))], [(0, some (.box (.agg [(.sl 1)]))), (1, some (.row (.int .u8) l1 false))], 2, [(.ptr 0 [])]⟩
def image_writer_held.L2 (t11_ : List t9.den) (t12_ t13_ : Int) (l1 : List Int) : Option (t13.den × Unit) := res image_writer_held.c (atJoin image_writer_held.b [1, 1, 0, 0, 1, 0]) (image_writer_held.S2 t11_ t12_ t13_ l1)
theorem image_writer_held.spec : FnSpec Tryz.prog globs 58 image_writer_held.Fn := spec_of (E := image_writer_held.E) (envOk_at tabOk eqOk primsOk (.cons image_writer_put.spec <| .cons image_writer_bucket.spec <| .nil)) mixOk Tryz.func58 (by kernel_rfl)
theorem image_writer_held.L1_eq (t11_ : List t9.den) (t12_ t13_ : Int) (l1 : List Int) : image_writer_held.L1 t11_ t12_ t13_ l1 =
 bif (decide ((t13_ : Int) < t12_)) then
  image_writer_held.L2 t11_ t12_ t13_ l1
 else
  some ((l1, ()), ()) := res_eq (by kernel_rfl)
theorem image_writer_held.L2_eq (t11_ : List t9.den) (t12_ t13_ : Int) (l1 : List Int) : image_writer_held.L2 t11_ t12_ t13_ l1 =
 bif (decide ((0 : Int) ≤ t13_ ∧ (t13_ : Int) < ((List.length t11_ : Int)))) then
  (image_writer_put.F (l1, ()) (IntKind.wrap .u64 ((List.getD t11_ (Int.toNat t13_) d9_).1)) 4).bind fun r0 =>
  (image_writer_bucket.F r0.1 (((List.getD t11_ (Int.toNat t13_) d9_).2).1)).bind fun r1 =>
  image_writer_held.L1 t11_ t12_ (IntKind.wrap .i64 (t13_ + 1)) r1.1.1
 else none := res_eq (by kernel_rfl)
theorem image_writer_held.F_eq (w : t13.den) (l : List t9.den) : image_writer_held.F w l =
 (image_writer_put.F w (IntKind.wrap .u64 ((List.length l : Int))) 1).bind fun r0 =>
 image_writer_held.L1 l ((List.length l : Int)) 0 r0.1.1 := by kernel_rfl
/-! ### (*spigot/image.writer).account (37) -/
def image_writer_account.sg : Sig := ⟨[.io t13 true, .val t10], []⟩
def image_writer_account.E : Env := ⟨tl, fun i => look i [(36, image_writer_put.Fn), (57, image_writer_bucket.Fn), (58, image_writer_held.Fn)], [], eqs, globs, prims⟩
def image_writer_account.c := cxOf image_writer_account.E image_writer_account.sg Tryz.f37
def image_writer_account.b := body Tryz.f37
def image_writer_account.Fn : Fun := fnOf image_writer_account.E image_writer_account.sg Tryz.f37
def image_writer_account.F (w : t13.den) (a : t10.den) : Option (t13.den × Unit) := image_writer_account.Fn.F (w, a, ())
def image_writer_account.S1 (t14_ : List t0.den) (t15_ b1 : Int) (b12 : List Int) (b13 b14 : Int) (b15 b16 : Int) (b17 b18 : Int) (b19 b110 : List t9.den) (b111 : List Int) (b112 b113 b114 : Int) (l2 : List Int) : St := ⟨[(0, (.ptr 0 [])), (3, (.ptr 1 [])), (14, (.v (.arr 3 t0) t14_)), (15, (.v (.int .i64) t15_))], [(0, some (.box (.agg [(.sl 2)]))), (1, some (.box (.agg [(.v (.int .u32) b1), (.v (.arr 3 t0) t14_), (.v (.arr 2 (.int .i64)) b12), (.agg [(.agg [(.v (.int .i64) b13), (.v (.int .i64) b14), (.v (.int .i64) b15)]), (.v (.int .i64) b16), (.v (.int .i64) b17), (.v (.int .u64) b18)]), (.v (.slice t9) b19), (.v (.slice t9) b110), (.v (.slice (.int .u32)) b111), (.agg [(.v (.int .u64) b112), (.v (.int .u64) b113), (.v (.int .u64) b114)])]))), (2, some (.row (.int .u8) l2 false))], 3, [(.ptr 0 [])]⟩
def image_writer_account.L1 (t14_ : List t0.den) (t15_ b1 : Int) (b12 : List Int) (b13 b14 : Int) (b15 b16 : Int) (b17 b18 : Int) (b19 b110 : List t9.den) (b111 : List Int) (b112 b113 b114 : Int) (l2 : List Int) : Option (t13.den × Unit) := res image_writer_account.c (atLoop image_writer_account.b [1, 1, 0, 1, 0]) (image_writer_account.S1 t14_ t15_ b1 b12 b13 b14 b15 b16 b17 b18 b19 b110 b111 b112 b113 b114 l2)
def image_writer_account.S2 (t14_ : List t0.den) (t15_ b1 : Int) (b12 : List Int) (b13 b14 : Int) (b15 b16 : Int) (b17 b18 : Int) (b19 b110 : List t9.den) (b111 : List Int) (b112 b113 b114 : Int) (l2 : List Int) : St := ⟨[(0, (.ptr 0 [])), (3, (.ptr 1 [])), (14, (.v (.arr 3 t0) t14_)), (15, (.v (.int .i64) t15_))], [(0, some (.box (.agg [(.sl 2)]))), (1, some (.box (.agg [(.v (.int .u32) b1), (.v (.arr 3 t0) t14_), (.v (.arr 2 (.int .i64)) b12), (.agg [(.agg [(.v (.int .i64) b13), (.v (.int .i64) b14), (.v (.int .i64) b15)]), (.v (.int .i64) b16), (.v (.int .i64) b17), (.v (.int .u64) b18)]), (.v (.slice t9) b19), (.v (.slice t9) b110), (.v (.slice (.int .u32)) b111), (.agg [(.v (.int .u64) b112), (.v (.int .u64) b113), (.v (.int .u64) b114)])]))), (2, some (.row (.int .u8) l2 false))], 3, [(.ptr 0 [])]⟩
def image_writer_account.L2 (t14_ : List t0.den) (t15_ b1 : Int) (b12 : List Int) (b13 b14 : Int) (b15 b16 : Int) (b17 b18 : Int) (b19 b110 : List t9.den) (b111 : List Int) (b112 b113 b114 : Int) (l2 : List Int) : Option (t13.den × Unit) := res image_writer_account.c (atJoin image_writer_account.b [1, 1, 0, 1, 0, 0, 1, 0]) (image_writer_account.S2 t14_ t15_ b1 b12 b13 b14 b15 b16 b17 b18 b19 b110 b111 b112 b113 b114 l2)
def image_writer_account.S3 (t65_ : List Int) (t66_ t67_ b1 : Int) (b12 : List t0.den) (b13 : List Int) (b14 b15 : Int) (b16 b17 : Int) (b18 b19 : Int) (b110 b111 : List t9.den) (b112 b113 b114 : Int) (l2 : List Int) : St := ⟨[(0, (.ptr 0 [])), (3, (.ptr 1 [])), (65, (.v (.slice (.int .u32)) t65_)), (66, (.v (.int .i64) t66_)), (67, (.v (.int .i64) t67_))], [(0, some (.box (.agg [(.sl 2)]))), (1, some (.box (.agg [(.v (.int .u32) b1), (.v (.arr 3 t0) b12), (.v (.arr 2 (.int .i64)) b13), (.agg [(.agg [(.v (.int .i64) b14), (.v (.int .i64) b15), (.v (.int .i64) b16)]), (.v (.int .i64) b17), (.v (.int .i64) b18), (.v (.int .u64) b19)]), (.v (.slice t9) b110), (.v (.slice t9) b111), (.v (.slice (.int .u32)) t65_), (.agg [(.v (.int .u64) b112), (.v (.int .u64) b113), (.v (.int .u64) b114)])]))), (2, some (.row (.int .u8) l2 false))], 3, [(.ptr 0 [])]⟩
def image_writer_account.L3 (t65_ : List Int) (t66_ t67_ b1 : Int) (b12 : List t0.den) (b13 : List Int) (b14 b15 : Int) (b16 b17 : Int) (b18 b19 : Int) (b110 b111 : List t9.den) (b112 b113 b114 : Int) (l2 : List Int) : Option (t13.den × Unit) := res image_writer_account.c (atLoop image_writer_account.b [1, 1, 1, 1, 1, 1, 1, 1, 1, 0, 1, 0]) (image_writer_account.S3 t65_ t66_ t67_ b1 b12 b13 b14 b15 b16 b17 b18 b19 b110 b111 b112 b113 b114 l2)
def image_writer_account.S4 (t65_ : List Int) (t66_ t67_ b1 : Int) (b12 : List t0.den) (b13 : List Int) (b14 b15 : Int) (b16 b17 : Int) (b18 b19 : Int) (b110 b111 : List t9.den) (b112 b113 b114 : Int) (l2 : List Int) : St := ⟨[(0, (.ptr 0 [])), (3, (.ptr 1 [])), (65, (.v (.slice (.int .u32)) t65_)), (66, (.v (.int .i64) t66_)), (67, (.v (.int .i64) t67_))], [(0, some (.box (.agg [(.sl 2)]))), (1, some (.box (.agg [(.v (.int .u32) b1), (.v (.arr 3 t0) b12), (.v (.arr 2 (.int .i64)) b13), (.agg [(.agg [(.v (.int .i64) b14), (.v (.int .i64) b15), (.v (.int .i64) b16)]), (.v (.int .i64) b17), (.v (.int .i64) b18), (.v (.int .u64) b19)]), (.v (.slice t9) b110), (.v (.slice t9) b111), (.v (.slice (.int .u32)) t65_), (.agg [(.v (.int .u64) b112), (.v (.int .u64) b113), (.v (.int .u64) b114)])]))), (2, some (.row (.int .u8) l2 false))], 3, [(.ptr 0 [])]⟩
def image_writer_account.L4 (t65_ : List Int) (t66_ t67_ b1 : Int) (b12 : List t0.den) (b13 : List Int) (b14 b15 : Int) (b16 b17 : Int) (b18 b19 : Int) (b110 b111 : List t9.den) (b112 b113 b114 : Int) (l2 : List Int) : Option (t13.den × Unit) := res image_writer_account.c (atJoin image_writer_account.b [1, 1, 1, 1, 1, 1, 1, 1, 1, 0, 1, 0, 0, 1, 0]) (image_writer_account.S4 t65_ t66_ t67_ b1 b12 b13 b14 b15 b16 b17 b18 b19 b110 b111 b112 b113 b114 l2)
theorem image_writer_account.spec : FnSpec Tryz.prog globs 37 image_writer_account.Fn := spec_of (E := image_writer_account.E) (envOk_at tabOk eqOk primsOk (.cons image_writer_put.spec <| .cons image_writer_bucket.spec <| .cons image_writer_held.spec <| .nil)) mixOk Tryz.func37 (by kernel_rfl)
theorem image_writer_account.L1_eq (t14_ : List t0.den) (t15_ b1 : Int) (b12 : List Int) (b13 b14 : Int) (b15 b16 : Int) (b17 b18 : Int) (b19 b110 : List t9.den) (b111 : List Int) (b112 b113 b114 : Int) (l2 : List Int) : image_writer_account.L1 t14_ t15_ b1 b12 b13 b14 b15 b16 b17 b18 b19 b110 b111 b112 b113 b114 l2 =
 bif (decide ((t15_ : Int) < 3)) then
  image_writer_account.L2 t14_ t15_ b1 b12 b13 b14 b15 b16 b17 b18 b19 b110 b111 b112 b113 b114 l2
 else
  bif (decide ((0 : Int) ≤ 0 ∧ (0 : Int) < 2)) then
   (image_writer_put.F (l2, ()) (IntKind.wrap .u64 (List.getD b12 (Int.toNat 0) 0)) 1).bind fun r0 =>
   bif (decide ((0 : Int) ≤ 1 ∧ (1 : Int) < 2)) then
    (image_writer_put.F r0.1 (IntKind.wrap .u64 (List.getD b12 (Int.toNat 1) 0)) 1).bind fun r1 =>
    (image_writer_bucket.F r1.1 ((b13, b14, b15, ()), b16, b17, b18, ())).bind fun r2 =>
    (image_writer_held.F r2.1 b19).bind fun r3 =>
    (image_writer_held.F r3.1 b110).bind fun r4 =>
    (image_writer_put.F r4.1 (IntKind.wrap .u64 ((List.length b111 : Int))) 1).bind fun r5 =>
    image_writer_account.L3 b111 ((List.length b111 : Int)) 0 b1 t14_ b12 b13 b14 b15 b16 b17 b18 b19 b110 b112 b113 b114 r5.1.1
   else none
  else none := res_eq (by kernel_rfl)
theorem image_writer_account.L2_eq (t14_ : List t0.den) (t15_ b1 : Int) (b12 : List Int) (b13 b14 : Int) (b15 b16 : Int) (b17 b18 : Int) (b19 b110 : List t9.den) (b111 : List Int) (b112 b113 b114 : Int) (l2 : List Int) : image_writer_account.L2 t14_ t15_ b1 b12 b13 b14 b15 b16 b17 b18 b19 b110 b111 b112 b113 b114 l2 =
 bif (decide ((0 : Int) ≤ t15_ ∧ (t15_ : Int) < 3)) then
  (image_writer_put.F (l2, ()) (IntKind.wrap .u64 ((List.getD t14_ (Int.toNat t15_) (0, 0, 0, ())).1)) 4).bind fun r0 =>
  (image_writer_put.F r0.1 (IntKind.wrap .u64 (((List.getD t14_ (Int.toNat t15_) (0, 0, 0, ())).2).1)) 4).bind fun r1 =>
  (image_writer_put.F r1.1 (IntKind.wrap .u64 ((((List.getD t14_ (Int.toNat t15_) (0, 0, 0, ())).2).2).1)) 4).bind fun r2 =>
  image_writer_account.L1 t14_ (IntKind.wrap .i64 (t15_ + 1)) b1 b12 b13 b14 b15 b16 b17 b18 b19 b110 b111 b112 b113 b114 r2.1.1
 else none := res_eq (by kernel_rfl)
theorem image_writer_account.L3_eq (t65_ : List Int) (t66_ t67_ b1 : Int) (b12 : List t0.den) (b13 : List Int) (b14 b15 : Int) (b16 b17 : Int) (b18 b19 : Int) (b110 b111 : List t9.den) (b112 b113 b114 : Int) (l2 : List Int) : image_writer_account.L3 t65_ t66_ t67_ b1 b12 b13 b14 b15 b16 b17 b18 b19 b110 b111 b112 b113 b114 l2 =
 bif (decide ((t67_ : Int) < t66_)) then
  image_writer_account.L4 t65_ t66_ t67_ b1 b12 b13 b14 b15 b16 b17 b18 b19 b110 b111 b112 b113 b114 l2
 else
  (image_writer_put.F (l2, ()) b112 8).bind fun r0 =>
  (image_writer_put.F r0.1 b113 8).bind fun r1 =>
  (image_writer_put.F r1.1 b114 8).bind fun r2 =>
  some (r2.1, ()) := res_eq (by kernel_rfl)
theorem image_writer_account.L4_eq (t65_ : List Int) (t66_ t67_ b1 : Int) (b12 : List t0.den) (b13 : List Int) (b14 b15 : Int) (b16 b17 : Int) (b18 b19 : Int) (b110 b111 : List t9.den) (b112 b113 b114 : Int) (l2 : List Int) : image_writer_account.L4 t65_ t66_ t67_ b1 b12 b13 b14 b15 b16 b17 b18 b19 b110 b111 b112 b113 b114 l2 =
 bif (decide ((0 : Int) ≤ t67_ ∧ (t67_ : Int) < ((List.length t65_ : Int)))) then
  (image_writer_put.F (l2, ()) (IntKind.wrap .u64 (List.getD t65_ (Int.toNat t67_) 0)) 4).bind fun r0 =>
  image_writer_account.L3 t65_ t66_ (IntKind.wrap .i64 (t67_ + 1)) b1 b12 b13 b14 b15 b16 b17 b18 b19 b110 b111 b112 b113 b114 r0.1.1
 else none := res_eq (by kernel_rfl)
theorem image_writer_account.F_eq (w : t13.den) (a : t10.den) : image_writer_account.F w a =
 (image_writer_put.F w (IntKind.wrap .u64 a.1) 1).bind fun r0 =>
 image_writer_account.L1 a.2.1 0 a.1 a.2.2.1 a.2.2.2.1.1.1 a.2.2.2.1.1.2.1 a.2.2.2.1.1.2.2.1 a.2.2.2.1.2.1 a.2.2.2.1.2.2.1 a.2.2.2.1.2.2.2.1 a.2.2.2.2.1 a.2.2.2.2.2.1 a.2.2.2.2.2.2.1 a.2.2.2.2.2.2.2.1.1 a.2.2.2.2.2.2.2.1.2.1 a.2.2.2.2.2.2.2.1.2.2.1 r0.1.1 := by kernel_rfl
/-! ### spigot/image.Write (14) -/
def image_Write.sg : Sig := ⟨[.val t8], [((.slice (.int .u8)), true), ((.int .i64), true)]⟩
def image_Write.E : Env := ⟨tl, fun i => look i [(34, server_Check.Fn), (35, refine_Of.Fn), (36, image_writer_put.Fn), (37, image_writer_account.Fn)], [], eqs, globs, prims⟩
def image_Write.c := cxOf image_Write.E image_Write.sg Tryz.f14
def image_Write.b := body Tryz.f14
def image_Write.Fn : Fun := fnOf image_Write.E image_Write.sg Tryz.f14
def image_Write.F (s : t8.den) : Option ((List Int) × Int × Unit) := image_Write.Fn.F (s, ())
def image_Write.S1 (b0 : Int) (b02 b03 : List Int) (b04 : List t7.den) : St := ⟨[(1, (.ptr 0 []))], [(0, some (.box (.agg [(.v (.int .u64) b0), (.v (.arr 32 (.int .u8)) b02), (.v (.arr 16 (.int .u32)) b03), (.v (.slice t7) b04)])))], 1, []⟩
def image_Write.L1 (b0 : Int) (b02 b03 : List Int) (b04 : List t7.den) : Option ((List Int) × Int × Unit) := res image_Write.c (atJoin image_Write.b [1, 0, 1, 1]) (image_Write.S1 b0 b02 b03 b04)
def image_Write.S2 (t32_ : List Int) (t33_ b0 : Int) (b02 : List Int) (l2 : List t10.den) (l3 : List Int) : St := ⟨[(5, (.ptr 0 [])), (7, (.ptr 1 [])), (32, (.v (.arr 16 (.int .u32)) t32_)), (33, (.v (.int .i64) t33_))], [(0, some (.box (.agg [(.v (.int .u64) b0), (.v (.arr 32 (.int .u8)) b02), (.v (.arr 16 (.int .u32)) t32_), (.sl 2)]))), (1, some (.box (.agg [(.sl 3)]))), (2, some (.row t10 l2 false)), (3, some (.row (.int .u8) l3 false))], 4, []⟩
def image_Write.L2 (t32_ : List Int) (t33_ b0 : Int) (b02 : List Int) (l2 : List t10.den) (l3 : List Int) : Option ((List Int) × Int × Unit) := res image_Write.c (atLoop image_Write.b [1, 1, 1, 1, 1, 1, 0, 1, 0]) (image_Write.S2 t32_ t33_ b0 b02 l2 l3)
def image_Write.S3 (t32_ : List Int) (t33_ b0 : Int) (b02 : List Int) (l2 : List t10.den) (l3 : List Int) : St := ⟨[(5, (.ptr 0 [])), (7, (.ptr 1 [])), (32, (.v (.arr 16 (.int .u32)) t32_)), (33, (.v (.int .i64) t33_))], [(0, some (.box (.agg [(.v (.int .u64) b0), (.v (.arr 32 (.int .u8)) b02), (.v (.arr 16 (.int .u32)) t32_), (.sl 2)]))), (1, some (.box (.agg [(.sl 3)]))), (2, some (.row t10 l2 false)), (3, some (.row (.int .u8) l3 false))], 4, []⟩
def image_Write.L3 (t32_ : List Int) (t33_ b0 : Int) (b02 : List Int) (l2 : List t10.den) (l3 : List Int) : Option ((List Int) × Int × Unit) := res image_Write.c (atJoin image_Write.b [1, 1, 1, 1, 1, 1, 0, 1, 0, 0, 1, 0]) (image_Write.S3 t32_ t33_ b0 b02 l2 l3)
def image_Write.S4 (t47_ t48_ : Int) (l1 : List t10.den) (l2 : List Int) : St := ⟨[(7, (.ptr 0 [])), (46, (.sl 1)), (47, (.v (.int .i64) t47_)), (48, (.v (.int .i64) t48_))], [(0, some (.box (.agg [(.sl 2)]))), (1, some (.row t10 l1 false)), (2, some (.row (.int .u8) l2 false))], 3, []⟩
def image_Write.L4 (t47_ t48_ : Int) (l1 : List t10.den) (l2 : List Int) : Option ((List Int) × Int × Unit) := res image_Write.c (atLoop image_Write.b [1, 1, 1, 1, 1, 1, 1, 1, 0, 1, 0]) (image_Write.S4 t47_ t48_ l1 l2)
def image_Write.S5 (t47_ t48_ : Int) (l1 : List t10.den) (l2 : List Int) : St := ⟨[(7, (.ptr 0 [])), (46, (.sl 1)), (47, (.v (.int .i64) t47_)), (48, (.v (.int .i64) t48_))], [(0, some (.box (.agg [(.sl 2)]))), (1, some (.row t10 l1 false)), (2, some (.row (.int .u8) l2 false))], 3, []⟩
def image_Write.L5 (t47_ t48_ : Int) (l1 : List t10.den) (l2 : List Int) : Option ((List Int) × Int × Unit) := res image_Write.c (atJoin image_Write.b [1, 1, 1, 1, 1, 1, 1, 1, 0, 1, 0, 0, 1, 0]) (image_Write.S5 t47_ t48_ l1 l2)
theorem image_Write.spec : FnSpec Tryz.prog globs 14 image_Write.Fn := spec_of (E := image_Write.E) (envOk_at tabOk eqOk primsOk (.cons server_Check.spec <| .cons refine_Of.spec <| .cons image_writer_put.spec <| .cons image_writer_account.spec <| .nil)) mixOk Tryz.func14 (by kernel_rfl)
theorem image_Write.L1_eq (b0 : Int) (b02 b03 : List Int) (b04 : List t7.den) : image_Write.L1 b0 b02 b03 b04 =
 (refine_Of.F (b0, b02, b03, b04, ())).bind fun r0 =>
 (image_writer_put.F (([] : List Int), ()) r0.1.1 8).bind fun r1 =>
 bif (decide ((0 : Int) ≤ 0 ∧ (0 : Int) ≤ 32 ∧ (32 : Int) ≤ 32)) then
  bif (lim ((List.length r1.1.1) + (List.length (List.take ((Int.toNat 32) - (Int.toNat 0)) (List.drop (Int.toNat 0) r0.1.2.1)))) (.int .u8)) then
   image_Write.L2 r0.1.2.2.1 0 r0.1.1 r0.1.2.1 r0.1.2.2.2.1 (r1.1.1 ++ (List.take ((Int.toNat 32) - (Int.toNat 0)) (List.drop (Int.toNat 0) r0.1.2.1)))
  else none
 else none := res_eq (by kernel_rfl)
theorem image_Write.L2_eq (t32_ : List Int) (t33_ b0 : Int) (b02 : List Int) (l2 : List t10.den) (l3 : List Int) : image_Write.L2 t32_ t33_ b0 b02 l2 l3 =
 bif (decide ((t33_ : Int) < 16)) then
  image_Write.L3 t32_ t33_ b0 b02 l2 l3
 else
  (image_writer_put.F (l3, ()) (IntKind.wrap .u64 ((List.length l2 : Int))) 1).bind fun r0 =>
  image_Write.L4 ((List.length l2 : Int)) 0 l2 r0.1.1 := res_eq (by kernel_rfl)
theorem image_Write.L3_eq (t32_ : List Int) (t33_ b0 : Int) (b02 : List Int) (l2 : List t10.den) (l3 : List Int) : image_Write.L3 t32_ t33_ b0 b02 l2 l3 =
 bif (decide ((0 : Int) ≤ t33_ ∧ (t33_ : Int) < 16)) then
  (image_writer_put.F (l3, ()) (IntKind.wrap .u64 (List.getD t32_ (Int.toNat t33_) 0)) 4).bind fun r0 =>
  image_Write.L2 t32_ (IntKind.wrap .i64 (t33_ + 1)) b0 b02 l2 r0.1.1
 else none := res_eq (by kernel_rfl)
theorem image_Write.L4_eq (t47_ t48_ : Int) (l1 : List t10.den) (l2 : List Int) : image_Write.L4 t47_ t48_ l1 l2 =
 bif (decide ((t48_ : Int) < t47_)) then
  image_Write.L5 t47_ t48_ l1 l2
 else
  some (l2, 0, ()) := res_eq (by kernel_rfl)
theorem image_Write.L5_eq (t47_ t48_ : Int) (l1 : List t10.den) (l2 : List Int) : image_Write.L5 t47_ t48_ l1 l2 =
 bif (decide ((0 : Int) ≤ t48_ ∧ (t48_ : Int) < ((List.length l1 : Int)))) then
  (image_writer_account.F (l2, ()) (List.getD l1 (Int.toNat t48_) d10_)).bind fun r0 =>
  image_Write.L4 t47_ (IntKind.wrap .i64 (t48_ + 1)) l1 r0.1.1
 else none := res_eq (by kernel_rfl)
theorem image_Write.F_eq (s : t8.den) : image_Write.F s =
 (server_Check.F s).bind fun r0 =>
 bif (r0.1 != 0) then
  some (([] : List Int), r0.1, ())
 else
  image_Write.L1 s.1 s.2.1 s.2.2.1 s.2.2.2.1 := by kernel_rfl
/-! ### spigot/spigotref18.Limited (60) -/
def spigotref18_Limited.sg : Sig := ⟨[.val (.arr 3 t0)], [(.bool, true)]⟩
def spigotref18_Limited.E : Env := ⟨tl, fun i => look i [(76, spigotref03_CheckLimit.Fn)], [], eqs, globs, prims⟩
def spigotref18_Limited.c := cxOf spigotref18_Limited.E spigotref18_Limited.sg Tryz.f60
def spigotref18_Limited.b := body Tryz.f60
def spigotref18_Limited.Fn : Fun := fnOf spigotref18_Limited.E spigotref18_Limited.sg Tryz.f60
def spigotref18_Limited.F (l : List t0.den) : Option (Bool × Unit) := spigotref18_Limited.Fn.F (l, ())
def spigotref18_Limited.S1 (i : Int) (b0 : List t0.den) : St := ⟨[(1, (.ptr 0 [])), (3, (.v (.int .i64) i))], [(0, some (.box (.v (.arr 3 t0) b0)))], 1, []⟩
def spigotref18_Limited.L1 (i : Int) (b0 : List t0.den) : Option (Bool × Unit) := res spigotref18_Limited.c (atLoop spigotref18_Limited.b [1, 0, 1, 0]) (spigotref18_Limited.S1 i b0)
def spigotref18_Limited.S2 (i : Int) (b0 : List t0.den) : St := ⟨[(1, (.ptr 0 [])), (3, (.v (.int .i64) i))], [(0, some (.box (.v (.arr 3 t0) b0)))], 1, []⟩
def spigotref18_Limited.L2 (i : Int) (b0 : List t0.den) : Option (Bool × Unit) := res spigotref18_Limited.c (atJoin spigotref18_Limited.b [1, 0, 1, 0, 0, 0, 1]) (spigotref18_Limited.S2 i b0)
def spigotref18_Limited.S3 (i : Int) (b0 : List t0.den) : St := ⟨[(1, (.ptr 0 [])), (3, (.v (.int .i64) i))], [(0, some (.box (.v (.arr 3 t0) b0)))], 1, []⟩
def spigotref18_Limited.L3 (i : Int) (b0 : List t0.den) : Option (Bool × Unit) := res spigotref18_Limited.c (atJoin spigotref18_Limited.b [1, 0, 1, 0, 0, 1, 0, 0, 1]) (spigotref18_Limited.S3 i b0)
theorem spigotref18_Limited.spec : FnSpec Tryz.prog globs 60 spigotref18_Limited.Fn := spec_of (E := spigotref18_Limited.E) (envOk_at tabOk eqOk primsOk (.cons spigotref03_CheckLimit.spec <| .nil)) mixOk Tryz.func60 (by kernel_rfl)
theorem spigotref18_Limited.L1_eq (i : Int) (b0 : List t0.den) : spigotref18_Limited.L1 i b0 =
 bif (decide ((i : Int) < 3)) then
  spigotref18_Limited.L2 i b0
 else
  some (true, ()) := res_eq (by kernel_rfl)
theorem spigotref18_Limited.L2_eq (i : Int) (b0 : List t0.den) : spigotref18_Limited.L2 i b0 =
 bif (decide ((0 : Int) ≤ i ∧ (i : Int) < 3)) then
  (spigotref03_CheckLimit.F (List.getD b0 (Int.toNat i) (0, 0, 0, ()))).bind fun r0 =>
  bif (r0.1 != 0) then
   some (false, ())
  else
   spigotref18_Limited.L3 i b0
 else none := res_eq (by kernel_rfl)
theorem spigotref18_Limited.L3_eq (i : Int) (b0 : List t0.den) : spigotref18_Limited.L3 i b0 =
 spigotref18_Limited.L1 (IntKind.wrap .i64 (i + 1)) b0 := res_eq (by kernel_rfl)
theorem spigotref18_Limited.F_eq (l : List t0.den) : spigotref18_Limited.F l =
 spigotref18_Limited.L1 0 l := by kernel_rfl
/-! ### spigot/spigotref18.New (38) -/
def spigotref18_New.sg : Sig := ⟨[.val (.int .u32), .val (.arr 3 t0), .val (.int .i64), .val (.int .i64), .val (.int .u64)], [(t7, true), ((.int .i64), true)]⟩
def spigotref18_New.E : Env := ⟨tl, fun i => look i [(59, spigotref16_New.Fn), (60, spigotref18_Limited.Fn), (61, spigotref03_Full.Fn)], [], eqs, globs, prims⟩
def spigotref18_New.c := cxOf spigotref18_New.E spigotref18_New.sg Tryz.f38
def spigotref18_New.b := body Tryz.f38
def spigotref18_New.Fn : Fun := fnOf spigotref18_New.E spigotref18_New.sg Tryz.f38
def spigotref18_New.F (tenant : Int) (l : List t0.den) (users ends tick : Int) : Option (t7.den × Int × Unit) := spigotref18_New.Fn.F (tenant, l, users, ends, tick, ())
def spigotref18_New.S1 (tenant tick : Int) (b0 b1 : List t0.den) (b2 b22 : Int) (b23 b24 : Int) (b3 b32 : Int) (b33 b34 : Int) (l4 : List Int) (l5 : List t1.den) (l6 : List Int) (l7 : List Bool) (l8 : List t3.den) (l19 : List Int) (l20 : List t1.den) (l21 : List Int) (l22 : List Bool) (l23 : List t3.den) (l24 l25 l26 : List Int) (l27 : List t1.den) (l28 : List Int) (l29 : List Bool) (l30 : List t3.den) (l31 l32 : List Int) : St := ⟨[(0, (.v (.int .u32) tenant)), (4, (.v (.int .u64) tick)), (6, (.ptr 0 [])), (10, (.ptr 1 [])), (12, (.ptr 2 [])), (14, (.ptr 3 []))], [(0, some (.box (.v (.arr 3 t0) b0))), (1, some (.box (.agg [(.v (.int .u32) 0), (.v (.arr 3 t0) b1), (.agg [(.agg [(.v (.int .i64) 0), (.v (.int .i64) 0), (.v (.int .i64) 0)]), (.v (.int .i64) 0), (.v (.int .i64) 0), (.v (.int .u64) 0)]), (.agg [(.v (.int .i64) 0), (.sl 4), (.sl 5), (.agg [(.sl 6), (.sl 7), (.v (.int .i64) 0)]), (.sl 8), (.agg [(.sl 9), (.sl 10), (.v (.int .i64) 0), (.v (.int .i64) 0)])]), (.agg [(.v (.int .i64) 0), (.sl 11), (.sl 12), (.agg [(.sl 13), (.sl 14), (.v (.int .i64) 0)]), (.sl 15), (.agg [(.sl 16), (.sl 17), (.v (.int .i64) 0), (.v (.int .i64) 0)])]), (.sl 18), (.agg [(.v (.int .u64) 0), (.v (.int .u64) 0), (.v (.int .u64) 0)])]))), (2, some (.box (.agg [(.v (.int .i64) b2), (.sl 19), (.sl 20), (.agg [(.sl 21), (.sl 22), (.v (.int .i64) b22)]), (.sl 23), (.agg [(.sl 24), (.sl 25), (.v (.int .i64) b23), (.v (.int .i64) b24)])]))), (3, some (.box (.agg [(.v (.int .i64) b3), (.sl 26), (.sl 27), (.agg [(.sl 28), (.sl 29), (.v (.int .i64) b32)]), (.sl 30), (.agg [(.sl 31), (.sl 32), (.v (.int .i64) b33), (.v (.int .i64) b34)])]))), (4, some (.row (.int .u32) l4 false)), (5, some (.row t1 l5 false)), (6, some (.row (.int .i64) l6 false)), (7, some (.row .bool l7 false)), (8, some (.row t3 l8 false)), (9, some (.row (.int .i64) l6 false)), (10, some (.row (.int .i64) l6 false)), (11, some (.row (.int .u32) l4 false)), (12, some (.row t1 l5 false)), (13, some (.row (.int .i64) l6 false)), (14, some (.row .bool l7 false)), (15, some (.row t3 l8 false)), (16, some (.row (.int .i64) l6 false)), (17, some (.row (.int .i64) l6 false)), (18, some (.row (.int .u32) l4 false)), (19, some (.row (.int .u32) l19 false)), (20, some (.row t1 l20 false)), (21, some (.row (.int .i64) l21 false)), (22, some (.row .bool l22 false)), (23, some (.row t3 l23 false)), (24, some (.row (.int .i64) l24 false)), (25, some (.row (.int .i64) l25 false)), (26, some (.row (.int .u32) l26 false)), (27, some (.row t1 l27 false)), (28, some (.row (.int .i64) l28 false)), (29, some (.row .bool l29 false)), (30, some (.row t3 l30 false)), (31, some (.row (.int .i64) l31 false)), (32, some (.row (.int .i64) l32 false))], 33, []⟩
def spigotref18_New.L1 (tenant tick : Int) (b0 b1 : List t0.den) (b2 b22 : Int) (b23 b24 : Int) (b3 b32 : Int) (b33 b34 : Int) (l4 : List Int) (l5 : List t1.den) (l6 : List Int) (l7 : List Bool) (l8 : List t3.den) (l19 : List Int) (l20 : List t1.den) (l21 : List Int) (l22 : List Bool) (l23 : List t3.den) (l24 l25 l26 : List Int) (l27 : List t1.den) (l28 : List Int) (l29 : List Bool) (l30 : List t3.den) (l31 l32 : List Int) : Option (t7.den × Int × Unit) := res spigotref18_New.c (atJoin spigotref18_New.b [1, 1, 1, 0, 1]) (spigotref18_New.S1 tenant tick b0 b1 b2 b22 b23 b24 b3 b32 b33 b34 l4 l5 l6 l7 l8 l19 l20 l21 l22 l23 l24 l25 l26 l27 l28 l29 l30 l31 l32)
def spigotref18_New.S2 (tenant tick : Int) (b0 b1 : List t0.den) (b2 b22 : Int) (b23 b24 : Int) (b3 b32 : Int) (b33 b34 : Int) (l4 : List Int) (l5 : List t1.den) (l6 : List Int) (l7 : List Bool) (l8 : List t3.den) (l19 : List Int) (l20 : List t1.den) (l21 : List Int) (l22 : List Bool) (l23 : List t3.den) (l24 l25 l26 : List Int) (l27 : List t1.den) (l28 : List Int) (l29 : List Bool) (l30 : List t3.den) (l31 l32 : List Int) : St := ⟨[(0, (.v (.int .u32) tenant)), (4, (.v (.int .u64) tick)), (6, (.ptr 0 [])), (10, (.ptr 1 [])), (12, (.ptr 2 [])), (14, (.ptr 3 []))], [(0, some (.box (.v (.arr 3 t0) b0))), (1, some (.box (.agg [(.v (.int .u32) 0), (.v (.arr 3 t0) b1), (.agg [(.agg [(.v (.int .i64) 0), (.v (.int .i64) 0), (.v (.int .i64) 0)]), (.v (.int .i64) 0), (.v (.int .i64) 0), (.v (.int .u64) 0)]), (.agg [(.v (.int .i64) 0), (.sl 4), (.sl 5), (.agg [(.sl 6), (.sl 7), (.v (.int .i64) 0)]), (.sl 8), (.agg [(.sl 9), (.sl 10), (.v (.int .i64) 0), (.v (.int .i64) 0)])]), (.agg [(.v (.int .i64) 0), (.sl 11), (.sl 12), (.agg [(.sl 13), (.sl 14), (.v (.int .i64) 0)]), (.sl 15), (.agg [(.sl 16), (.sl 17), (.v (.int .i64) 0), (.v (.int .i64) 0)])]), (.sl 18), (.agg [(.v (.int .u64) 0), (.v (.int .u64) 0), (.v (.int .u64) 0)])]))), (2, some (.box (.agg [(.v (.int .i64) b2), (.sl 19), (.sl 20), (.agg [(.sl 21), (.sl 22), (.v (.int .i64) b22)]), (.sl 23), (.agg [(.sl 24), (.sl 25), (.v (.int .i64) b23), (.v (.int .i64) b24)])]))), (3, some (.box (.agg [(.v (.int .i64) b3), (.sl 26), (.sl 27), (.agg [(.sl 28), (.sl 29), (.v (.int .i64) b32)]), (.sl 30), (.agg [(.sl 31), (.sl 32), (.v (.int .i64) b33), (.v (.int .i64) b34)])]))), (4, some (.row (.int .u32) l4 false)), (5, some (.row t1 l5 false)), (6, some (.row (.int .i64) l6 false)), (7, some (.row .bool l7 false)), (8, some (.row t3 l8 false)), (9, some (.row (.int .i64) l6 false)), (10, some (.row (.int .i64) l6 false)), (11, some (.row (.int .u32) l4 false)), (12, some (.row t1 l5 false)), (13, some (.row (.int .i64) l6 false)), (14, some (.row .bool l7 false)), (15, some (.row t3 l8 false)), (16, some (.row (.int .i64) l6 false)), (17, some (.row (.int .i64) l6 false)), (18, some (.row (.int .u32) l4 false)), (19, some (.row (.int .u32) l19 false)), (20, some (.row t1 l20 false)), (21, some (.row (.int .i64) l21 false)), (22, some (.row .bool l22 false)), (23, some (.row t3 l23 false)), (24, some (.row (.int .i64) l24 false)), (25, some (.row (.int .i64) l25 false)), (26, some (.row (.int .u32) l26 false)), (27, some (.row t1 l27 false)), (28, some (.row (.int .i64) l28 false)), (29, some (.row .bool l29 false)), (30, some (.row t3 l30 false)), (31, some (.row (.int .i64) l31 false)), (32, some (.row (.int .i64) l32 false))], 33, []⟩
def spigotref18_New.L2 (tenant tick : Int) (b0 b1 : List t0.den) (b2 b22 : Int) (b23 b24 : Int) (b3 b32 : Int) (b33 b34 : Int) (l4 : List Int) (l5 : List t1.den) (l6 : List Int) (l7 : List Bool) (l8 : List t3.den) (l19 : List Int) (l20 : List t1.den) (l21 : List Int) (l22 : List Bool) (l23 : List t3.den) (l24 l25 l26 : List Int) (l27 : List t1.den) (l28 : List Int) (l29 : List Bool) (l30 : List t3.den) (l31 l32 : List Int) : Option (t7.den × Int × Unit) := res spigotref18_New.c (atJoin spigotref18_New.b [1, 1, 1, 1, 0, 1]) (spigotref18_New.S2 tenant tick b0 b1 b2 b22 b23 b24 b3 b32 b33 b34 l4 l5 l6 l7 l8 l19 l20 l21 l22 l23 l24 l25 l26 l27 l28 l29 l30 l31 l32)
theorem spigotref18_New.spec : FnSpec Tryz.prog globs 38 spigotref18_New.Fn := spec_of (E := spigotref18_New.E) (envOk_at tabOk eqOk primsOk (.cons spigotref16_New.spec <| .cons spigotref18_Limited.spec <| .cons spigotref03_Full.spec <| .nil)) mixOk Tryz.func38 (by kernel_rfl)
theorem spigotref18_New.L1_eq (tenant tick : Int) (b0 b1 : List t0.den) (b2 b22 : Int) (b23 b24 : Int) (b3 b32 : Int) (b33 b34 : Int) (l4 : List Int) (l5 : List t1.den) (l6 : List Int) (l7 : List Bool) (l8 : List t3.den) (l19 : List Int) (l20 : List t1.den) (l21 : List Int) (l22 : List Bool) (l23 : List t3.den) (l24 l25 l26 : List Int) (l27 : List t1.den) (l28 : List Int) (l29 : List Bool) (l30 : List t3.den) (l31 l32 : List Int) : spigotref18_New.L1 tenant tick b0 b1 b2 b22 b23 b24 b3 b32 b33 b34 l4 l5 l6 l7 l8 l19 l20 l21 l22 l23 l24 l25 l26 l27 l28 l29 l30 l31 l32 =
 (spigotref18_Limited.F b0).bind fun r0 =>
 bif (!r0.1) then
  some (d7_, 8, ())
 else
  spigotref18_New.L2 tenant tick b0 b1 b2 b22 b23 b24 b3 b32 b33 b34 l4 l5 l6 l7 l8 l19 l20 l21 l22 l23 l24 l25 l26 l27 l28 l29 l30 l31 l32 := res_eq (by kernel_rfl)
theorem spigotref18_New.L2_eq (tenant tick : Int) (b0 b1 : List t0.den) (b2 b22 : Int) (b23 b24 : Int) (b3 b32 : Int) (b33 b34 : Int) (l4 : List Int) (l5 : List t1.den) (l6 : List Int) (l7 : List Bool) (l8 : List t3.den) (l19 : List Int) (l20 : List t1.den) (l21 : List Int) (l22 : List Bool) (l23 : List t3.den) (l24 l25 l26 : List Int) (l27 : List t1.den) (l28 : List Int) (l29 : List Bool) (l30 : List t3.den) (l31 l32 : List Int) : spigotref18_New.L2 tenant tick b0 b1 b2 b22 b23 b24 b3 b32 b33 b34 l4 l5 l6 l7 l8 l19 l20 l21 l22 l23 l24 l25 l26 l27 l28 l29 l30 l31 l32 =
 bif (decide ((0 : Int) ≤ 0 ∧ (0 : Int) < 3)) then
  (spigotref03_Full.F (List.getD b0 (Int.toNat 0) (0, 0, 0, ())) tick).bind fun r0 =>
  some ((tenant, b0, r0.1, (b2, l19, l20, (l21, l22, b22, ()), l23, (l24, l25, b23, b24, ()), ()), (b3, l26, l27, (l28, l29, b32, ()), l30, (l31, l32, b33, b34, ()), ()), ([] : List Int), (0, 0, 0, ()), ()), 0, ())
 else none := res_eq (by kernel_rfl)
theorem spigotref18_New.F_eq (tenant : Int) (l : List t0.den) (users ends tick : Int) : spigotref18_New.F tenant l users ends tick =
 (spigotref16_New.F users).bind fun r0 =>
 (spigotref16_New.F ends).bind fun r1 =>
 bif (decide ((tenant : Int) ≥ 16)) then
  some (d7_, 2, ())
 else
  bif (r0.2.1 != 0) then
   some (d7_, 2, ())
  else
   bif (r1.2.1 != 0) then
    some (d7_, 2, ())
   else
    spigotref18_New.L1 tenant tick l (List.replicate 3 (0, 0, 0, ())) r0.1.1 r0.1.2.2.2.1.2.2.1 r0.1.2.2.2.2.2.1.2.2.1 r0.1.2.2.2.2.2.1.2.2.2.1 r1.1.1 r1.1.2.2.2.1.2.2.1 r1.1.2.2.2.2.2.1.2.2.1 r1.1.2.2.2.2.2.1.2.2.2.1 ([] : List Int) ([] : List t1.den) ([] : List Int) ([] : List Bool) ([] : List t3.den) r0.1.2.1 r0.1.2.2.1 r0.1.2.2.2.1.1 r0.1.2.2.2.1.2.1 r0.1.2.2.2.2.1 r0.1.2.2.2.2.2.1.1 r0.1.2.2.2.2.2.1.2.1 r1.1.2.1 r1.1.2.2.1 r1.1.2.2.2.1.1 r1.1.2.2.2.1.2.1 r1.1.2.2.2.2.1 r1.1.2.2.2.2.2.1.1 r1.1.2.2.2.2.2.1.2.1 := by kernel_rfl
/-! ### spigot/spigotlaw33.example (16) -/
def spigotlaw33_example.sg : Sig := ⟨[], [(t8, true)]⟩
def spigotlaw33_example.E : Env := ⟨tl, fun i => look i [(38, spigotref18_New.Fn)], [], eqs, globs, prims⟩
def spigotlaw33_example.c := cxOf spigotlaw33_example.E spigotlaw33_example.sg Tryz.f16
def spigotlaw33_example.b := body Tryz.f16
def spigotlaw33_example.Fn : Fun := fnOf spigotlaw33_example.E spigotlaw33_example.sg Tryz.f16
def spigotlaw33_example.F : Option (t8.den × Unit) := spigotlaw33_example.Fn.F ()
theorem spigotlaw33_example.spec : FnSpec Tryz.prog globs 16 spigotlaw33_example.Fn := spec_of (E := spigotlaw33_example.E) (envOk_at tabOk eqOk primsOk (.cons spigotref18_New.spec <| .nil)) mixOk Tryz.func16 (by kernel_rfl)
theorem spigotlaw33_example.F_eq : spigotlaw33_example.F =
 (spigotref18_New.F 3 ([(4, 1, 2, ()), (4, 1, 2, ()), (4, 1, 2, ())] : List t0.den) 2 2 0).bind fun r0 =>
 some ((0, ([7, 0, 0, 0, 0, 0, 0, 0, 0, 0, 0, 0, 0, 0, 0, 0, 0, 0, 0, 0, 0, 0, 0, 0, 0, 0, 0, 0, 0, 0, 0, 0] : List Int), (List.replicate 16 (0 : Int)), ([r0.1] : List t7.den), ()), ()) := by kernel_rfl
/-! ### spigot/image.Size (17) -/
def image_Size.sg : Sig := ⟨[.val t8], [((.int .i64), true), ((.int .i64), true)]⟩
def image_Size.E : Env := ⟨tl, fun i => look i [(14, image_Write.Fn)], [], eqs, globs, prims⟩
def image_Size.c := cxOf image_Size.E image_Size.sg Tryz.f17
def image_Size.b := body Tryz.f17
def image_Size.Fn : Fun := fnOf image_Size.E image_Size.sg Tryz.f17
def image_Size.F (s : t8.den) : Option (Int × Int × Unit) := image_Size.Fn.F (s, ())
theorem image_Size.spec : FnSpec Tryz.prog globs 17 image_Size.Fn := spec_of (E := image_Size.E) (envOk_at tabOk eqOk primsOk (.cons image_Write.spec <| .nil)) mixOk Tryz.func17 (by kernel_rfl)
theorem image_Size.F_eq (s : t8.den) : image_Size.F s =
 (image_Write.F s).bind fun r0 =>
 some (((List.length r0.1 : Int)), r0.2.1, ()) := by kernel_rfl
/-! ### spigot/server.New (31) -/
def server_New.sg : Sig := ⟨[.val (.arr 32 (.int .u8))], [(t8, true)]⟩
def server_New.E : Env := ⟨tl, fun i => look i [], [], eqs, globs, prims⟩
def server_New.c := cxOf server_New.E server_New.sg Tryz.f31
def server_New.b := body Tryz.f31
def server_New.Fn : Fun := fnOf server_New.E server_New.sg Tryz.f31
def server_New.F (seed : List Int) : Option (t8.den × Unit) := server_New.Fn.F (seed, ())
theorem server_New.spec : FnSpec Tryz.prog globs 31 server_New.Fn := spec_of (E := server_New.E) (envOk_at tabOk eqOk primsOk (.nil)) mixOk Tryz.func31 (by kernel_rfl)
theorem server_New.F_eq (seed : List Int) : server_New.F seed =
 some ((0, seed, (List.replicate 16 (0 : Int)), ([] : List t7.den), ()), ()) := by kernel_rfl
/-! ### spigot/spigotlaw33.alive (12) -/
def spigotlaw33_alive.sg : Sig := ⟨[], [(.bool, true)]⟩
def spigotlaw33_alive.E : Env := ⟨tl, fun i => look i [(14, image_Write.Fn), (16, spigotlaw33_example.Fn), (17, image_Size.Fn), (31, server_New.Fn)], [], eqs, globs, prims⟩
def spigotlaw33_alive.c := cxOf spigotlaw33_alive.E spigotlaw33_alive.sg Tryz.f12
def spigotlaw33_alive.b := body Tryz.f12
def spigotlaw33_alive.Fn : Fun := fnOf spigotlaw33_alive.E spigotlaw33_alive.sg Tryz.f12
def spigotlaw33_alive.F : Option (Bool × Unit) := spigotlaw33_alive.Fn.F ()
theorem spigotlaw33_alive.spec : FnSpec Tryz.prog globs 12 spigotlaw33_alive.Fn := spec_of (E := spigotlaw33_alive.E) (envOk_at tabOk eqOk primsOk (.cons image_Write.spec <| .cons spigotlaw33_example.spec <| .cons image_Size.spec <| .cons server_New.spec <| .nil)) mixOk Tryz.func12 (by kernel_rfl)
theorem spigotlaw33_alive.F_eq : spigotlaw33_alive.F =
 (server_New.F ([9, 0, 0, 0, 0, 0, 0, 0, 0, 0, 0, 0, 0, 0, 0, 0, 0, 0, 0, 0, 0, 0, 0, 0, 0, 0, 0, 0, 0, 0, 0, 0] : List Int)).bind fun r0 =>
 (image_Write.F r0.1).bind fun r1 =>
 spigotlaw33_example.F.bind fun r2 =>
 (image_Size.F r2.1).bind fun r3 =>
 bif (r1.2.1 == 0) then
  bif (((List.length r1.1 : Int)) == 105) then
   bif (decide ((0 : Int) ≤ 8 ∧ (8 : Int) < ((List.length r1.1 : Int)))) then
    bif ((List.getD r1.1 (Int.toNat 8) 0) == 9) then
     bif (decide ((0 : Int) ≤ 104 ∧ (104 : Int) < ((List.length r1.1 : Int)))) then
      bif ((List.getD r1.1 (Int.toNat 104) 0) == 0) then
       bif (r3.2.1 == 0) then
        some ((r3.1 == 195), ())
       else
        some (false, ())
      else
       some (false, ())
     else none
    else
     some (false, ())
   else none
  else
   some (false, ())
 else
  some (false, ()) := by kernel_rfl
end
end Go.Proofs.YtkihjakbbcajbaaGreat.PM
