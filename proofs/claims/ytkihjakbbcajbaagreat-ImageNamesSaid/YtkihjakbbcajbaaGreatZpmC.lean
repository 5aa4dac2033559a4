/- Contracts and equations of the functions, printed by a program of this session. -/
import Derived.Test.YtkihjakbbcajbaaGreatTbd
namespace Go.Proofs.YtkihjakbbcajbaaGreat.PM
open Go Go.Proofs
noncomputable section
set_option linter.unusedVariables false
/-! ### (*spigot/image.reader).get (22) -/
def image_reader_get.sg : Sig := ⟨[.io t12 false, .val (.int .i64)], [((.int .u64), true)]⟩
def image_reader_get.E : Env := ⟨tl, fun i => look i [], [], eqs, globs, prims⟩
def image_reader_get.c := cxOf image_reader_get.E image_reader_get.sg Tryz.f22
def image_reader_get.b := body Tryz.f22
def image_reader_get.Fn : Fun := fnOf image_reader_get.E image_reader_get.sg Tryz.f22
def image_reader_get.F (r : t12.den) (k : Int) : Option (t12.den × Int × Unit) := image_reader_get.Fn.F (r, k, ())
def image_reader_get.S1 (k : Int) (b0 : List Int) (b02 : Bool) : St := ⟨[(0, (.ptr 0 [])), (1, (.v (.int .i64) k))], [(0, some (.box (.agg [(.v (.slice (.int .u8)) b0), (.v .bool b02)])))], 1, [(.ptr 0 [])]⟩
def image_reader_get.L1 (k : Int) (b0 : List Int) (b02 : Bool) : Option (t12.den × Int × Unit) := res image_reader_get.c (atJoin image_reader_get.b [1, 0, 1]) (image_reader_get.S1 k b0 b02)
def image_reader_get.S2 (k n : Int) (t26_ : List Int) (t27_ t28_ : Int) (b0 : List Int) (b02 : Bool) : St := ⟨[(0, (.ptr 0 [])), (1, (.v (.int .i64) k)), (5, (.v (.int .u64) n)), (26, (.v (.slice (.int .u8)) t26_)), (27, (.v (.int .i64) t27_)), (28, (.v (.int .i64) t28_))], [(0, some (.box (.agg [(.v (.slice (.int .u8)) b0), (.v .bool b02)])))], 1, [(.ptr 0 [])]⟩
def image_reader_get.L2 (k n : Int) (t26_ : List Int) (t27_ t28_ : Int) (b0 : List Int) (b02 : Bool) : Option (t12.den × Int × Unit) := res image_reader_get.c (atLoop image_reader_get.b [1, 1, 1, 0, 1, 0]) (image_reader_get.S2 k n t26_ t27_ t28_ b0 b02)
def image_reader_get.S3 (k n : Int) (t26_ : List Int) (t27_ t28_ : Int) (b0 : List Int) (b02 : Bool) : St := ⟨[(0, (.ptr 0 [])), (1, (.v (.int .i64) k)), (5, (.v (.int .u64) n)), (26, (.v (.slice (.int .u8)) t26_)), (27, (.v (.int .i64) t27_)), (28, (.v (.int .i64) t28_))], [(0, some (.box (.agg [(.v (.slice (.int .u8)) b0), (.v .bool b02)])))], 1, [(.ptr 0 [])]⟩
def image_reader_get.L3 (k n : Int) (t26_ : List Int) (t27_ t28_ : Int) (b0 : List Int) (b02 : Bool) : Option (t12.den × Int × Unit) := res image_reader_get.c (atJoin image_reader_get.b [1, 1, 1, 0, 1, 0, 0, 1, 0]) (image_reader_get.S3 k n t26_ t27_ t28_ b0 b02)
theorem image_reader_get.spec : FnSpec Tryz.prog globs 22 image_reader_get.Fn := spec_of (E := image_reader_get.E) (envOk_at tabOk eqOk primsOk (.nil)) mixOk Tryz.func22 (by kernel_rfl)
theorem image_reader_get.L1_eq (k : Int) (b0 : List Int) (b02 : Bool) : image_reader_get.L1 k b0 b02 =
 bif (decide ((0 : Int) ≤ 0 ∧ (0 : Int) ≤ k ∧ (k : Int) ≤ ((List.length b0 : Int)))) then
  image_reader_get.L2 k 0 (List.take ((Int.toNat k) - (Int.toNat 0)) (List.drop (Int.toNat 0) b0)) ((List.length (List.take ((Int.toNat k) - (Int.toNat 0)) (List.drop (Int.toNat 0) b0)) : Int)) 0 b0 b02
 else none := res_eq (by kernel_rfl)
theorem image_reader_get.L2_eq (k n : Int) (t26_ : List Int) (t27_ t28_ : Int) (b0 : List Int) (b02 : Bool) : image_reader_get.L2 k n t26_ t27_ t28_ b0 b02 =
 bif (decide ((t28_ : Int) < t27_)) then
  image_reader_get.L3 k n t26_ t27_ t28_ b0 b02
 else
  bif (decide ((0 : Int) ≤ k ∧ (k : Int) ≤ ((List.length b0 : Int)) ∧ (((List.length b0 : Int)) : Int) ≤ ((List.length b0 : Int)))) then
   some (((List.take ((Int.toNat ((List.length b0 : Int))) - (Int.toNat k)) (List.drop (Int.toNat k) b0)), b02, ()), n, ())
  else none := res_eq (by kernel_rfl)
theorem image_reader_get.L3_eq (k n : Int) (t26_ : List Int) (t27_ t28_ : Int) (b0 : List Int) (b02 : Bool) : image_reader_get.L3 k n t26_ t27_ t28_ b0 b02 =
 bif (decide ((0 : Int) ≤ t28_ ∧ (t28_ : Int) < ((List.length t26_ : Int)))) then
  bif (decide ((0 : Int) ≤ 8)) then
   image_reader_get.L2 k (bits .or .u64 (IntKind.wrap .u64 (n * 2 ^ min (Int.toNat 8) (IntKind.bits .u64))) (IntKind.wrap .u64 (List.getD t26_ (Int.toNat t28_) 0))) t26_ t27_ (IntKind.wrap .i64 (t28_ + 1)) b0 b02
  else none
 else none := res_eq (by kernel_rfl)
theorem image_reader_get.F_eq (r : t12.den) (k : Int) : image_reader_get.F r k =
 bif (decide ((((List.length r.1 : Int)) : Int) < k)) then
  some ((([] : List Int), true, ()), 0, ())
 else
  image_reader_get.L1 k r.1 r.2.1 := by kernel_rfl
/-! ### (*spigot/image.reader).bucket (44) -/
def image_reader_bucket.sg : Sig := ⟨[.io t12 false, .val t0], [(t1, true)]⟩
def image_reader_bucket.E : Env := ⟨tl, fun i => look i [(22, image_reader_get.Fn)], [], eqs, globs, prims⟩
def image_reader_bucket.c := cxOf image_reader_bucket.E image_reader_bucket.sg Tryz.f44
def image_reader_bucket.b := body Tryz.f44
def image_reader_bucket.Fn : Fun := fnOf image_reader_bucket.E image_reader_bucket.sg Tryz.f44
def image_reader_bucket.F (r : t12.den) (l : t0.den) : Option (t12.den × t1.den × Unit) := image_reader_bucket.Fn.F (r, l, ())
theorem image_reader_bucket.spec : FnSpec Tryz.prog globs 44 image_reader_bucket.Fn := spec_of (E := image_reader_bucket.E) (envOk_at tabOk eqOk primsOk (.cons image_reader_get.spec <| .nil)) mixOk Tryz.func44 (by kernel_rfl)
theorem image_reader_bucket.F_eq (r : t12.den) (l : t0.den) : image_reader_bucket.F r l =
 (image_reader_get.F r 8).bind fun r0 =>
 (image_reader_get.F r0.1 8).bind fun r1 =>
 (image_reader_get.F r1.1 8).bind fun r2 =>
 some (r2.1, (l, (IntKind.wrap .i64 r0.2.1), (IntKind.wrap .i64 r1.2.1), r2.2.1, ()), ()) := by kernel_rfl
/-! ### (*spigot/image.reader).held (45) -/
def image_reader_held.sg : Sig := ⟨[.io t12 false, .val t0], [((.slice t9), true)]⟩
def image_reader_held.E : Env := ⟨tl, fun i => look i [(22, image_reader_get.Fn), (44, image_reader_bucket.Fn)], [], eqs, globs, prims⟩
def image_reader_held.c := cxOf image_reader_held.E image_reader_held.sg Tryz.f45
def image_reader_held.b := body Tryz.f45
def image_reader_held.Fn : Fun := fnOf image_reader_held.E image_reader_held.sg Tryz.f45
def image_reader_held.F (r : t12.den) (l : t0.den) : Option (t12.den × (List t9.den) × Unit) := image_reader_held.Fn.F (r, l, ())
def image_reader_held.S1 (n : Int) (b0 : List Int) (b02 : Bool) (b1 b12 b13 : Int) (l2 : List t9.den) : St := ⟨[(0, (.ptr 0 [])), (3, (.ptr 1 [])), (5, (.sl 2)), (6, (.v (.int .u64) n))], [(0, some (.box (.agg [(.v (.slice (.int .u8)) b0), (.v .bool b02)]))), (1, some (.box (.agg [(.v (.int .i64) b1), (.v (.int .i64) b12), (.v (.int .i64) b13)]))), (2, some (.row t9 l2 false))], 3, [(.ptr 0 [])]⟩
def image_reader_held.L1 (n : Int) (b0 : List Int) (b02 : Bool) (b1 b12 b13 : Int) (l2 : List t9.den) : Option (t12.den × (List t9.den) × Unit) := res image_reader_held.c (atLoop image_reader_held.b [1, 1, 0, 1, 0]) (image_reader_held.S1 n b0 b02 b1 b12 b13 l2)
def image_reader_held.S2 (n : Int) (b0 : List Int) (b02 : Bool) (b1 b12 b13 : Int) (l2 : List t9.den) : St := ⟨[(0, (.ptr 0 [])), (3, (.ptr 1 [])), (5, (.sl 2)), (6, (.v (.int .u64) n))], [(0, some (.box (.agg [(.v (.slice (.int .u8)) b0), (.v .bool b02)]))), (1, some (.box (.agg [(.v (.int .i64) b1), (.v (.int .i64) b12), (.v (.int .i64) b13)]))), (2, some (.row t9 l2 false))], 3, [(.ptr 0 [])]⟩
def image_reader_held.L2 (n : Int) (b0 : List Int) (b02 : Bool) (b1 b12 b13 : Int) (l2 : List t9.den) : Option (t12.den × (List t9.den) × Unit) := res image_reader_held.c (atJoin image_reader_held.b [1, 1, 0, 1, 0, 0, 0, 1]) (image_reader_held.S2 n b0 b02 b1 b12 b13 l2)
theorem image_reader_held.spec : FnSpec Tryz.prog globs 45 image_reader_held.Fn := spec_of (E := image_reader_held.E) (envOk_at tabOk eqOk primsOk (.cons image_reader_get.spec <| .cons image_reader_bucket.spec <| .nil)) mixOk Tryz.func45 (by kernel_rfl)
theorem image_reader_held.L1_eq (n : Int) (b0 : List Int) (b02 : Bool) (b1 b12 b13 : Int) (l2 : List t9.den) : image_reader_held.L1 n b0 b02 b1 b12 b13 l2 =
 bif (decide ((n : Int) > 0)) then
  bif (!b02) then
   image_reader_held.L2 n b0 b02 b1 b12 b13 l2
  else
   some ((b0, b02, ()), l2, ())
 else
  some ((b0, b02, ()), l2, ()) := res_eq (by kernel_rfl)
theorem image_reader_held.L2_eq (n : Int) (b0 : List Int) (b02 : Bool) (b1 b12 b13 : Int) (l2 : List t9.den) : image_reader_held.L2 n b0 b02 b1 b12 b13 l2 =
 (image_reader_get.F (b0, b02, ()) 4).bind fun r0 =>
 (image_reader_bucket.F r0.1 (b1, b12, b13, ())).bind fun r1 =>
 bif (lim ((List.length l2) + (List.length ([((IntKind.wrap .u32 r0.2.1), r1.2.1, ())] : List t9.den))) t9) then
  image_reader_held.L1 (IntKind.wrap .u64 (n - 1)) r1.1.1 r1.1.2.1 b1 b12 b13 (l2 ++ ([((IntKind.wrap .u32 r0.2.1), r1.2.1, ())] : List t9.den))
 else none := res_eq (by kernel_rfl)
theorem image_reader_held.F_eq (r : t12.den) (l : t0.den) : image_reader_held.F r l =
 (image_reader_get.F r 1).bind fun r0 =>
 image_reader_held.L1 r0.2.1 r0.1.1 r0.1.2.1 l.1 l.2.1 l.2.2.1 ([] : List t9.den) := by kernel_rfl
/-! ### (*spigot/image.reader).account (23) -/
def image_reader_account.sg : Sig := ⟨[.io t12 false], [(t10, true)]⟩
def image_reader_account.E : Env := ⟨tl, fun i => look i [(22, image_reader_get.Fn), (44, image_reader_bucket.Fn), (45, image_reader_held.Fn)], [], eqs, globs, prims⟩
def image_reader_account.c := cxOf image_reader_account.E image_reader_account.sg Tryz.f23
def image_reader_account.b := body Tryz.f23
def image_reader_account.Fn : Fun := fnOf image_reader_account.E image_reader_account.sg Tryz.f23
def image_reader_account.F (r : t12.den) : Option (t12.den × t10.den × Unit) := image_reader_account.Fn.F (r, ())
def image_reader_account.S1 (t12_ : Int) (b0 : List Int) (b02 : Bool) (b1 : List t0.den) (b12 : List Int) (b2 : Int) (b22 : List t0.den) (l3 : List t9.den) (l5 : List Int) : St := ⟨[(0, (.ptr 0 [])), (2, (.ptr 1 [])), (3, (.ptr 2 [])), (12, (.v (.int .i64) t12_))], [(0, some (.box (.agg [(.v (.slice (.int .u8)) b0), (.v .bool b02)]))), (1, some (.box (.agg [(.v (.int .u32) 0), (.v (.arr 3 t0) b1), (.v (.arr 2 (.int .i64)) b12), (.agg [(.agg [(.v (.int .i64) 0), (.v (.int .i64) 0), (.v (.int .i64) 0)]), (.v (.int .i64) 0), (.v (.int .i64) 0), (.v (.int .u64) 0)]), (.sl 3), (.sl 4), (.sl 5), (.agg [(.v (.int .u64) 0), (.v (.int .u64) 0), (.v (.int .u64) 0)])]))), (2, some (.box (.agg [(.v (.int .u32) b2), (.v (.arr 3 t0) b22), (.v (.arr 2 (.int .i64)) b12), (.agg [(.agg [(.v (.int .i64) 0), (.v (.int .i64) 0), (.v (.int .i64) 0)]), (.v (.int .i64) 0), (.v (.int .i64) 0), (.v (.int .u64) 0)]), (.sl 6), (.sl 7), (.sl 8), (.agg [(.v (.int .u64) 0), (.v (.int .u64) 0), (.v (.int .u64) 0)])]))), (3, some (.row t9 l3 false)), (4, some (.row t9 l3 false)), (5, some (.row (.int .u32) l5 false)), (6, some (.row t9 l3 false)), (7, some (.row t9 l3 false)), (8, some (.row (.int .u32) l5 false))], 9, [(.ptr 0 [])]⟩
def image_reader_account.L1 (t12_ : Int) (b0 : List Int) (b02 : Bool) (b1 : List t0.den) (b12 : List Int) (b2 : Int) (b22 : List t0.den) (l3 : List t9.den) (l5 : List Int) : Option (t12.den × t10.den × Unit) := res image_reader_account.c (atLoop image_reader_account.b [1, 1, 0, 1, 0]) (image_reader_account.S1 t12_ b0 b02 b1 b12 b2 b22 l3 l5)
def image_reader_account.S2 (t12_ : Int) (b0 : List Int) (b02 : Bool) (b1 : List t0.den) (b12 : List Int) (b2 : Int) (b22 : List t0.den) (l3 : List t9.den) (l5 : List Int) : St := ⟨[(0, (.ptr 0 [])), (2, (.ptr 1 [])), (3, (.ptr 2 [])), (12, (.v (.int .i64) t12_))], [(0, some (.box (.agg [(.v (.slice (.int .u8)) b0), (.v .bool b02)]))), (1, some (.box (.agg [(.v (.int .u32) 0), (.v (.arr 3 t0) b1), (.v (.arr 2 (.int .i64)) b12), (.agg [(.agg [(.v (.int .i64) 0), (.v (.int .i64) 0), (.v (.int .i64) 0)]), (.v (.int .i64) 0), (.v (.int .i64) 0), (.v (.int .u64) 0)]), (.sl 3), (.sl 4), (.sl 5), (.agg [(.v (.int .u64) 0), (.v (.int .u64) 0), (.v (.int .u64) 0)])]))), (2, some (.box (.agg [(.v (.int .u32) b2), (.v (.arr 3 t0) b22), (.v (.arr 2 (.int .i64)) b12), (.agg [(.agg [(.v (.int .i64) 0), (.v (.int .i64) 0), (.v (.int .i64) 0)]), (.v (.int .i64) 0), (.v (.int .i64) 0), (.v (.int .u64) 0)]), (.sl 6), (.sl 7), (.sl 8), (.agg [(.v (.int .u64) 0), (.v (.int .u64) 0), (.v (.int .u64) 0)])]))), (3, some (.row t9 l3 false)), (4, some (.row t9 l3 false)), (5, some (.row (.int .u32) l5 false)), (6, some (.row t9 l3 false)), (7, some (.row t9 l3 false)), (8, some (.row (.int .u32) l5 false))], 9, [(.ptr 0 [])]⟩
def image_reader_account.L2 (t12_ : Int) (b0 : List Int) (b02 : Bool) (b1 : List t0.den) (b12 : List Int) (b2 : Int) (b22 : List t0.den) (l3 : List t9.den) (l5 : List Int) : Option (t12.den × t10.den × Unit) := res image_reader_account.c (atJoin image_reader_account.b [1, 1, 0, 1, 0, 0, 1, 0]) (image_reader_account.S2 t12_ b0 b02 b1 b12 b2 b22 l3 l5)
def image_reader_account.S3 (t37_ : Int) (b0 : List Int) (b02 : Bool) (b1 : List t0.den) (b12 : List Int) (b2 : Int) (b22 : List t0.den) (b23 : List Int) (l3 : List t9.den) (l5 : List Int) : St := ⟨[(0, (.ptr 0 [])), (2, (.ptr 1 [])), (3, (.ptr 2 [])), (37, (.v (.int .i64) t37_))], [(0, some (.box (.agg [(.v (.slice (.int .u8)) b0), (.v .bool b02)]))), (1, some (.box (.agg [(.v (.int .u32) 0), (.v (.arr 3 t0) b1), (.v (.arr 2 (.int .i64)) b12), (.agg [(.agg [(.v (.int .i64) 0), (.v (.int .i64) 0), (.v (.int .i64) 0)]), (.v (.int .i64) 0), (.v (.int .i64) 0), (.v (.int .u64) 0)]), (.sl 3), (.sl 4), (.sl 5), (.agg [(.v (.int .u64) 0), (.v (.int .u64) 0), (.v (.int .u64) 0)])]))), (2, some (.box (.agg [(.v (.int .u32) b2), (.v (.arr 3 t0) b22), (.v (.arr 2 (.int .i64)) b23), (.agg [(.agg [(.v (.int .i64) 0), (.v (.int .i64) 0), (.v (.int .i64) 0)]), (.v (.int .i64) 0), (.v (.int .i64) 0), (.v (.int .u64) 0)]), (.sl 6), (.sl 7), (.sl 8), (.agg [(.v (.int .u64) 0), (.v (.int .u64) 0), (.v (.int .u64) 0)])]))), (3, some (.row t9 l3 false)), (4, some (.row t9 l3 false)), (5, some (.row (.int .u32) l5 false)), (6, some (.row t9 l3 false)), (7, some (.row t9 l3 false)), (8, some (.row (.int .u32) l5 false))], 9, [(.ptr 0 [])]⟩
def image_reader_account.L3 (t37_ : Int) (b0 : List Int) (b02 : Bool) (b1 : List t0.den) (b12 : List Int) (b2 : Int) (b22 : List t0.den) (b23 : List Int) (l3 : List t9.den) (l5 : List Int) : Option (t12.den × t10.den × Unit) := res image_reader_account.c (atLoop image_reader_account.b [1, 1, 1, 0, 1, 0]) (image_reader_account.S3 t37_ b0 b02 b1 b12 b2 b22 b23 l3 l5)
def image_reader_account.S4 (t37_ : Int) (b0 : List Int) (b02 : Bool) (b1 : List t0.den) (b12 : List Int) (b2 : Int) (b22 : List t0.den) (b23 : List Int) (l3 : List t9.den) (l5 : List Int) : St := ⟨[(0, (.ptr 0 [])), (2, (.ptr 1 [])), (3, (.ptr 2 [])), (37, (.v (.int .i64) t37_))], [(0, some (.box (.agg [(.v (.slice (.int .u8)) b0), (.v .bool b02)]))), (1, some (.box (.agg [(.v (.int .u32) 0), (.v (.arr 3 t0) b1), (.v (.arr 2 (.int .i64)) b12), (.agg [(.agg [(.v (.int .i64) 0), (.v (.int .i64) 0), (.v (.int .i64) 0)]), (.v (.int .i64) 0), (.v (.int .i64) 0), (.v (.int .u64) 0)]), (.sl 3), (.sl 4), (.sl 5), (.agg [(.v (.int .u64) 0), (.v (.int .u64) 0), (.v (.int .u64) 0)])]))), (2, some (.box (.agg [(.v (.int .u32) b2), (.v (.arr 3 t0) b22), (.v (.arr 2 (.int .i64)) b23), (.agg [(.agg [(.v (.int .i64) 0), (.v (.int .i64) 0), (.v (.int .i64) 0)]), (.v (.int .i64) 0), (.v (.int .i64) 0), (.v (.int .u64) 0)]), (.sl 6), (.sl 7), (.sl 8), (.agg [(.v (.int .u64) 0), (.v (.int .u64) 0), (.v (.int .u64) 0)])]))), (3, some (.row t9 l3 false)), (4, some (.row t9 l3 false)), (5, some (.row (.int .u32) l5 false)), (6, some (.row t9 l3 false)), (7, some (.row t9 l3 false)), (8, some (.row (.int .u32) l5 false))], 9, [(.ptr 0 [])]⟩
def image_reader_account.L4 (t37_ : Int) (b0 : List Int) (b02 : Bool) (b1 : List t0.den) (b12 : List Int) (b2 : Int) (b22 : List t0.den) (b23 : List Int) (l3 : List t9.den) (l5 : List Int) : Option (t12.den × t10.den × Unit) := res image_reader_account.c (atJoin image_reader_account.b [1, 1, 1, 0, 1, 0, 0, 1, 0]) (image_reader_account.S4 t37_ b0 b02 b1 b12 b2 b22 b23 l3 l5)
def image_reader_account.S5 (n : Int) (b0 : List Int) (b02 : Bool) (b1 : List t0.den) (b12 : List Int) (b2 : Int) (b22 : List t0.den) (b23 : List Int) (b24 b25 : Int) (b26 b27 : Int) (b28 b29 : Int) (l3 : List t9.den) (l5 : List Int) (l6 l7 : List t9.den) (l8 : List Int) : St := ⟨[(0, (.ptr 0 [])), (2, (.ptr 1 [])), (3, (.ptr 2 [])), (7, (.v (.int .u64) n))], [(0, some (.box (.agg [(.v (.slice (.int .u8)) b0), (.v .bool b02)]))), (1, some (.box (.agg [(.v (.int .u32) 0), (.v (.arr 3 t0) b1), (.v (.arr 2 (.int .i64)) b12), (.agg [(.agg [(.v (.int .i64) 0), (.v (.int .i64) 0), (.v (.int .i64) 0)]), (.v (.int .i64) 0), (.v (.int .i64) 0), (.v (.int .u64) 0)]), (.sl 3), (.sl 4), (.sl 5), (.agg [(.v (.int .u64) 0), (.v (.int .u64) 0), (.v (.int .u64) 0)])]))), (2, some (.box (.agg [(.v (.int .u32) b2), (.v (.arr 3 t0) b22), (.v (.arr 2 (.int .i64)) b23), (.agg [(.agg [(.v (.int .i64) b24), (.v (.int .i64) b25), (.v (.int .i64) b26)]), (.v (.int .i64) b27), (.v (.int .i64) b28), (.v (.int .u64) b29)]), (.sl 6), (.sl 7), (.sl 8), (.agg [(.v (.int .u64) 0), (.v (.int .u64) 0), (.v (.int .u64) 0)])]))), (3, some (.row t9 l3 false)), (4, some (.row t9 l3 false)), (5, some (.row (.int .u32) l5 false)), (6, some (.row t9 l6 false)), (7, some (.row t9 l7 false)), (8, some (.row (.int .u32) l8 false))], 9, [(.ptr 0 [])]⟩
def image_reader_account.L5 (n : Int) (b0 : List Int) (b02 : Bool) (b1 : List t0.den) (b12 : List Int) (b2 : Int) (b22 : List t0.den) (b23 : List Int) (b24 b25 : Int) (b26 b27 : Int) (b28 b29 : Int) (l3 : List t9.den) (l5 : List Int) (l6 l7 : List t9.den) (l8 : List Int) : Option (t12.den × t10.den × Unit) := res image_reader_account.c (atLoop image_reader_account.b [1, 1, 1, 1, 1, 1, 1, 0, 1, 0]) (image_reader_account.S5 n b0 b02 b1 b12 b2 b22 b23 b24 b25 b26 b27 b28 b29 l3 l5 l6 l7 l8)
def image_reader_account.S6 (n : Int) (b0 : List Int) (b02 : Bool) (b1 : List t0.den) (b12 : List Int) (b2 : Int) (b22 : List t0.den) (b23 : List Int) (b24 b25 : Int) (b26 b27 : Int) (b28 b29 : Int) (l3 : List t9.den) (l5 : List Int) (l6 l7 : List t9.den) (l8 : List Int) : St := ⟨[(0, (.ptr 0 [])), (2, (.ptr 1 [])), (3, (.ptr 2 [])), (7, (.v (.int .u64) n))], [(0, some (.box (.agg [(.v (.slice (.int .u8)) b0), (.v .bool b02)]))), (1, some (.box (.agg [(.v (.int .u32) 0), (.v (.arr 3 t0) b1), (.v (.arr 2 (.int .i64)) b12), (.agg [(.agg [(.v (.int .i64) 0), (.v (.int .i64) 0), (.v (.int .i64) 0)]), (.v (.int .i64) 0), (.v (.int .i64) 0), (.v (.int .u64) 0)]), (.sl 3), (.sl 4), (.sl 5), (.agg [(.v (.int .u64) 0), (.v (.int .u64) 0), (.v (.int .u64) 0)])]))), (2, some (.box (.agg [(.v (.int .u32) b2), (.v (.arr 3 t0) b22), (.v (.arr 2 (.int .i64)) b23), (.agg [(.agg [(.v (.int .i64) b24), (.v (.int .i64) b25), (.v (.int .i64) b26)]), (.v (.int .i64) b27), (.v (.int .i64) b28), (.v (.int .u64) b29)]), (.sl 6), (.sl 7), (.sl 8), (.agg [(.v (.int .u64) 0), (.v (.int .u64) 0), (.v (.int .u64) 0)])]))), (3, some (.row t9 l3 false)), (4, some (.row t9 l3 false)), (5, some (.row (.int .u32) l5 false)), (6, some (.row t9 l6 false)), (7, some (.row t9 l7 false)), (8, some (.row (.int .u32) l8 false))], 9, [(.ptr 0 [])]⟩
def image_reader_account.L6 (n : Int) (b0 : List Int) (b02 : Bool) (b1 : List t0.den) (b12 : List Int) (b2 : Int) (b22 : List t0.den) (b23 : List Int) (b24 b25 : Int) (b26 b27 : Int) (b28 b29 : Int) (l3 : List t9.den) (l5 : List Int) (l6 l7 : List t9.den) (l8 : List Int) : Option (t12.den × t10.den × Unit) := res image_reader_account.c (atJoin image_reader_account.b [1, 1, 1, 1, 1, 1, 1, 0, 1, 0, 0, 0, 1]) (image_reader_account.S6 n b0 b02 b1 b12 b2 b22 b23 b24 b25 b26 b27 b28 b29 l3 l5 l6 l7 l8)
theorem image_reader_account.spec : FnSpec Tryz.prog globs 23 image_reader_account.Fn := spec_of (E := image_reader_account.E) (envOk_at tabOk eqOk primsOk (.cons image_reader_get.spec <| .cons image_reader_bucket.spec <| .cons image_reader_held.spec <| .nil)) mixOk Tryz.func23 (by kernel_rfl)
theorem image_reader_account.L1_eq (t12_ : Int) (b0 : List Int) (b02 : Bool) (b1 : List t0.den) (b12 : List Int) (b2 : Int) (b22 : List t0.den) (l3 : List t9.den) (l5 : List Int) : image_reader_account.L1 t12_ b0 b02 b1 b12 b2 b22 l3 l5 =
 bif (decide ((t12_ : Int) < 3)) then
  image_reader_account.L2 t12_ b0 b02 b1 b12 b2 b22 l3 l5
 else
  image_reader_account.L3 0 b0 b02 b1 b12 b2 b22 b12 l3 l5 := res_eq (by kernel_rfl)
theorem image_reader_account.L2_eq (t12_ : Int) (b0 : List Int) (b02 : Bool) (b1 : List t0.den) (b12 : List Int) (b2 : Int) (b22 : List t0.den) (l3 : List t9.den) (l5 : List Int) : image_reader_account.L2 t12_ b0 b02 b1 b12 b2 b22 l3 l5 =
 bif (decide ((0 : Int) ≤ t12_ ∧ (t12_ : Int) < 3)) then
  (image_reader_get.F (b0, b02, ()) 4).bind fun r0 =>
  (image_reader_get.F r0.1 4).bind fun r1 =>
  (image_reader_get.F r1.1 4).bind fun r2 =>
  image_reader_account.L1 (IntKind.wrap .i64 (t12_ + 1)) r2.1.1 r2.1.2.1 b1 b12 b2 (List.set (List.set (List.set b22 (Int.toNat t12_) ((IntKind.wrap .i64 r0.2.1), ((List.getD b22 (Int.toNat t12_) (0, 0, 0, ())).2).1, (((List.getD b22 (Int.toNat t12_) (0, 0, 0, ())).2).2).1, ())) (Int.toNat t12_) ((List.getD (List.set b22 (Int.toNat t12_) ((IntKind.wrap .i64 r0.2.1), ((List.getD b22 (Int.toNat t12_) (0, 0, 0, ())).2).1, (((List.getD b22 (Int.toNat t12_) (0, 0, 0, ())).2).2).1, ())) (Int.toNat t12_) (0, 0, 0, ())).1, (IntKind.wrap .i64 r1.2.1), (((List.getD (List.set b22 (Int.toNat t12_) ((IntKind.wrap .i64 r0.2.1), ((List.getD b22 (Int.toNat t12_) (0, 0, 0, ())).2).1, (((List.getD b22 (Int.toNat t12_) (0, 0, 0, ())).2).2).1, ())) (Int.toNat t12_) (0, 0, 0, ())).2).2).1, ())) (Int.toNat t12_) ((List.getD (List.set (List.set b22 (Int.toNat t12_) ((IntKind.wrap .i64 r0.2.1), ((List.getD b22 (Int.toNat t12_) (0, 0, 0, ())).2).1, (((List.getD b22 (Int.toNat t12_) (0, 0, 0, ())).2).2).1, ())) (Int.toNat t12_) ((List.getD (List.set b22 (Int.toNat t12_) ((IntKind.wrap .i64 r0.2.1), ((List.getD b22 (Int.toNat t12_) (0, 0, 0, ())).2).1, (((List.getD b22 (Int.toNat t12_) (0, 0, 0, ())).2).2).1, ())) (Int.toNat t12_) (0, 0, 0, ())).1, (IntKind.wrap .i64 r1.2.1), (((List.getD (List.set b22 (Int.toNat t12_) ((IntKind.wrap .i64 r0.2.1), ((List.getD b22 (Int.toNat t12_) (0, 0, 0, ())).2).1, (((List.getD b22 (Int.toNat t12_) (0, 0, 0, ())).2).2).1, ())) (Int.toNat t12_) (0, 0, 0, ())).2).2).1, ())) (Int.toNat t12_) (0, 0, 0, ())).1, ((List.getD (List.set (List.set b22 (Int.toNat t12_) ((IntKind.wrap .i64 r0.2.1), ((List.getD b22 (Int.toNat t12_) (0, 0, 0, ())).2).1, (((List.getD b22 (Int.toNat t12_) (0, 0, 0, ())).2).2).1, ())) (Int.toNat t12_) ((List.getD (List.set b22 (Int.toNat t12_) ((IntKind.wrap .i64 r0.2.1), ((List.getD b22 (Int.toNat t12_) (0, 0, 0, ())).2).1, (((List.getD b22 (Int.toNat t12_) (0, 0, 0, ())).2).2).1, ())) (Int.toNat t12_) (0, 0, 0, ())).1, (IntKind.wrap .i64 r1.2.1), (((List.getD (List.set b22 (Int.toNat t12_) ((IntKind.wrap .i64 r0.2.1), ((List.getD b22 (Int.toNat t12_) (0, 0, 0, ())).2).1, (((List.getD b22 (Int.toNat t12_) (0, 0, 0, ())).2).2).1, ())) (Int.toNat t12_) (0, 0, 0, ())).2).2).1, ())) (Int.toNat t12_) (0, 0, 0, ())).2).1, (IntKind.wrap .i64 r2.2.1), ())) l3 l5
 else none := res_eq (by kernel_rfl)
theorem image_reader_account.L3_eq (t37_ : Int) (b0 : List Int) (b02 : Bool) (b1 : List t0.den) (b12 : List Int) (b2 : Int) (b22 : List t0.den) (b23 : List Int) (l3 : List t9.den) (l5 : List Int) : image_reader_account.L3 t37_ b0 b02 b1 b12 b2 b22 b23 l3 l5 =
 bif (decide ((t37_ : Int) < 2)) then
  image_reader_account.L4 t37_ b0 b02 b1 b12 b2 b22 b23 l3 l5
 else
  bif (decide ((0 : Int) ≤ 0 ∧ (0 : Int) < 3)) then
   (image_reader_bucket.F (b0, b02, ()) (List.getD b22 (Int.toNat 0) (0, 0, 0, ()))).bind fun r0 =>
   bif (decide ((0 : Int) ≤ 1 ∧ (1 : Int) < 3)) then
    (image_reader_held.F r0.1 (List.getD b22 (Int.toNat 1) (0, 0, 0, ()))).bind fun r1 =>
    bif (decide ((0 : Int) ≤ 2 ∧ (2 : Int) < 3)) then
     (image_reader_held.F r1.1 (List.getD b22 (Int.toNat 2) (0, 0, 0, ()))).bind fun r2 =>
     (image_reader_get.F r2.1 1).bind fun r3 =>
     image_reader_account.L5 r3.2.1 r3.1.1 r3.1.2.1 b1 b12 b2 b22 b23 r0.2.1.1.1 r0.2.1.1.2.1 r0.2.1.1.2.2.1 r0.2.1.2.1 r0.2.1.2.2.1 r0.2.1.2.2.2.1 l3 l5 r1.2.1 r2.2.1 l5
    else none
   else none
  else none := res_eq (by kernel_rfl)
theorem image_reader_account.L4_eq (t37_ : Int) (b0 : List Int) (b02 : Bool) (b1 : List t0.den) (b12 : List Int) (b2 : Int) (b22 : List t0.den) (b23 : List Int) (l3 : List t9.den) (l5 : List Int) : image_reader_account.L4 t37_ b0 b02 b1 b12 b2 b22 b23 l3 l5 =
 (image_reader_get.F (b0, b02, ()) 1).bind fun r0 =>
 bif (decide ((0 : Int) ≤ t37_ ∧ (t37_ : Int) < 2)) then
  image_reader_account.L3 (IntKind.wrap .i64 (t37_ + 1)) r0.1.1 r0.1.2.1 b1 b12 b2 b22 (List.set b23 (Int.toNat t37_) (IntKind.wrap .i64 r0.2.1)) l3 l5
 else none := res_eq (by kernel_rfl)
theorem image_reader_account.L5_eq (n : Int) (b0 : List Int) (b02 : Bool) (b1 : List t0.den) (b12 : List Int) (b2 : Int) (b22 : List t0.den) (b23 : List Int) (b24 b25 : Int) (b26 b27 : Int) (b28 b29 : Int) (l3 : List t9.den) (l5 : List Int) (l6 l7 : List t9.den) (l8 : List Int) : image_reader_account.L5 n b0 b02 b1 b12 b2 b22 b23 b24 b25 b26 b27 b28 b29 l3 l5 l6 l7 l8 =
 bif (decide ((n : Int) > 0)) then
  bif (!b02) then
   image_reader_account.L6 n b0 b02 b1 b12 b2 b22 b23 b24 b25 b26 b27 b28 b29 l3 l5 l6 l7 l8
  else
   (image_reader_get.F (b0, b02, ()) 8).bind fun r0 =>
   (image_reader_get.F r0.1 8).bind fun r1 =>
   (image_reader_get.F r1.1 8).bind fun r2 =>
   some (r2.1, (b2, b22, b23, ((b24, b25, b26, ()), b27, b28, b29, ()), l6, l7, l8, (r0.2.1, r1.2.1, r2.2.1, ()), ()), ())
 else
  (image_reader_get.F (b0, b02, ()) 8).bind fun r0 =>
  (image_reader_get.F r0.1 8).bind fun r1 =>
  (image_reader_get.F r1.1 8).bind fun r2 =>
  some (r2.1, (b2, b22, b23, ((b24, b25, b26, ()), b27, b28, b29, ()), l6, l7, l8, (r0.2.1, r1.2.1, r2.2.1, ()), ()), ()) := res_eq (by kernel_rfl)
theorem image_reader_account.L6_eq (n : Int) (b0 : List Int) (b02 : Bool) (b1 : List t0.den) (b12 : List Int) (b2 : Int) (b22 : List t0.den) (b23 : List Int) (b24 b25 : Int) (b26 b27 : Int) (b28 b29 : Int) (l3 : List t9.den) (l5 : List Int) (l6 l7 : List t9.den) (l8 : List Int) : image_reader_account.L6 n b0 b02 b1 b12 b2 b22 b23 b24 b25 b26 b27 b28 b29 l3 l5 l6 l7 l8 =
 (image_reader_get.F (b0, b02, ()) 4).bind fun r0 =>
 bif (lim ((List.length l8) + (List.length ([(IntKind.wrap .u32 r0.2.1)] : List Int))) (.int .u32)) then
  image_reader_account.L5 (IntKind.wrap .u64 (n - 1)) r0.1.1 r0.1.2.1 b1 b12 b2 b22 b23 b24 b25 b26 b27 b28 b29 l3 l5 l6 l7 (l8 ++ ([(IntKind.wrap .u32 r0.2.1)] : List Int))
 else none := res_eq (by kernel_rfl)
theorem image_reader_account.F_eq (r : t12.den) : image_reader_account.F r =
 (image_reader_get.F r 1).bind fun r0 =>
 image_reader_account.L1 0 r0.1.1 r0.1.2.1 (List.replicate 3 (0, 0, 0, ())) (List.replicate 2 (0 : Int)) (IntKind.wrap .u32 r0.2.1) (List.replicate 3 (0, 0, 0, ())) ([] : List t9.den) ([] : List Int) := by kernel_rfl
/-! ### spigot/model.Check$1 (68) -/
def model_Check_1.sg : Sig := ⟨[.val (.int .u32)], [(.bool, true)]⟩
def model_Check_1.E : Env := ⟨tl, fun i => look i [], [], eqs, globs, prims⟩
def model_Check_1.c := cxOf model_Check_1.E model_Check_1.sg Tryz.f68
def model_Check_1.b := body Tryz.f68
def model_Check_1.Fn : Fun := fnOf model_Check_1.E model_Check_1.sg Tryz.f68
def model_Check_1.F (e : Int) : Option (Bool × Unit) := model_Check_1.Fn.F (e, ())
theorem model_Check_1.spec : FnSpec Tryz.prog globs 68 model_Check_1.Fn := spec_of (E := model_Check_1.E) (envOk_at tabOk eqOk primsOk (.nil)) mixOk Tryz.func68 (by kernel_rfl)
theorem model_Check_1.F_eq (e : Int) : model_Check_1.F e =
 some ((decide ((e : Int) > 1000000)), ()) := by kernel_rfl
/-! ### slices.IndexFunc[[]uint32,uint32] (97) -/
def slices_IndexFunc_97.sg : Sig := ⟨[.val (.slice (.int .u32)), .fn 68], [((.int .i64), true)]⟩
def slices_IndexFunc_97.E : Env := ⟨tl, fun i => look i [(68, model_Check_1.Fn)], [], eqs, globs, prims⟩
def slices_IndexFunc_97.c := cxOf slices_IndexFunc_97.E slices_IndexFunc_97.sg Tryz.f97
def slices_IndexFunc_97.b := body Tryz.f97
def slices_IndexFunc_97.Fn : Fun := fnOf slices_IndexFunc_97.E slices_IndexFunc_97.sg Tryz.f97
def slices_IndexFunc_97.F (s : List Int) : Option (Int × Unit) := slices_IndexFunc_97.Fn.F (s, ())
def slices_IndexFunc_97.S1 (s : List Int) (t7_ t8_ : Int) : St := ⟨[(0, (.v (.slice (.int .u32)) s)), (1, (.fn 68 [])), (7, (.v (.int .i64) t7_)), (8, (.v (.int .i64) t8_))], [], 0, []⟩
def slices_IndexFunc_97.L1 (s : List Int) (t7_ t8_ : Int) : Option (Int × Unit) := res slices_IndexFunc_97.c (atLoop slices_IndexFunc_97.b [1, 0, 1, 0]) (slices_IndexFunc_97.S1 s t7_ t8_)
def slices_IndexFunc_97.S2 (s : List Int) (t7_ t8_ : Int) : St := ⟨[(0, (.v (.slice (.int .u32)) s)), (1, (.fn 68 [])), (7, (.v (.int .i64) t7_)), (8, (.v (.int .i64) t8_))], [], 0, []⟩
def slices_IndexFunc_97.L2 (s : List Int) (t7_ t8_ : Int) : Option (Int × Unit) := res slices_IndexFunc_97.c (atJoin slices_IndexFunc_97.b [1, 0, 1, 0, 0, 1, 0]) (slices_IndexFunc_97.S2 s t7_ t8_)
def slices_IndexFunc_97.S3 (s : List Int) (t7_ t8_ : Int) : St := ⟨[(0, (.v (.slice (.int .u32)) s)), (1, (.fn 68 [])), (7, (.v (.int .i64) t7_)), (8, (.v (.int .i64) t8_))], [], 0, []⟩
def slices_IndexFunc_97.L3 (s : List Int) (t7_ t8_ : Int) : Option (Int × Unit) := res slices_IndexFunc_97.c (atJoin slices_IndexFunc_97.b [1, 0, 1, 0, 0, 1, 1, 0, 0, 1, 1]) (slices_IndexFunc_97.S3 s t7_ t8_)
theorem slices_IndexFunc_97.spec : FnSpec Tryz.prog globs 97 slices_IndexFunc_97.Fn := spec_of (E := slices_IndexFunc_97.E) (envOk_at tabOk eqOk primsOk (.cons model_Check_1.spec <| .nil)) mixOk Tryz.func97 (by kernel_rfl)
theorem slices_IndexFunc_97.L1_eq (s : List Int) (t7_ t8_ : Int) : slices_IndexFunc_97.L1 s t7_ t8_ =
 bif (decide ((t8_ : Int) < t7_)) then
  slices_IndexFunc_97.L2 s t7_ t8_
 else
  some ((-1), ()) := res_eq (by kernel_rfl)
theorem slices_IndexFunc_97.L2_eq (s : List Int) (t7_ t8_ : Int) : slices_IndexFunc_97.L2 s t7_ t8_ =
 bif (decide ((0 : Int) ≤ t8_ ∧ (t8_ : Int) < ((List.length s : Int)))) then
  (model_Check_1.F (List.getD s (Int.toNat t8_) 0)).bind fun r0 =>
  bif r0.1 then
   some (t8_, ())
  else
   slices_IndexFunc_97.L3 s t7_ t8_
 else none := res_eq (by kernel_rfl)
theorem slices_IndexFunc_97.L3_eq (s : List Int) (t7_ t8_ : Int) : slices_IndexFunc_97.L3 s t7_ t8_ =
 slices_IndexFunc_97.L1 s t7_ (IntKind.wrap .i64 (t8_ + 1)) := res_eq (by kernel_rfl)
theorem slices_IndexFunc_97.F_eq (s : List Int) : slices_IndexFunc_97.F s =
 slices_IndexFunc_97.L1 s ((List.length s : Int)) 0 := by kernel_rfl
/-! ### slices.ContainsFunc[[]uint32,uint32] (67) -/
def slices_ContainsFunc_67.sg : Sig := ⟨[.val (.slice (.int .u32)), .fn 68], [(.bool, true)]⟩
def slices_ContainsFunc_67.E : Env := ⟨tl, fun i => look i [(97, slices_IndexFunc_97.Fn), (68, model_Check_1.Fn)], [], eqs, globs, prims⟩
def slices_ContainsFunc_67.c := cxOf slices_ContainsFunc_67.E slices_ContainsFunc_67.sg Tryz.f67
def slices_ContainsFunc_67.b := body Tryz.f67
def slices_ContainsFunc_67.Fn : Fun := fnOf slices_ContainsFunc_67.E slices_ContainsFunc_67.sg Tryz.f67
def slices_ContainsFunc_67.F (s : List Int) : Option (Bool × Unit) := slices_ContainsFunc_67.Fn.F (s, ())
theorem slices_ContainsFunc_67.spec : FnSpec Tryz.prog globs 67 slices_ContainsFunc_67.Fn := spec_of (E := slices_ContainsFunc_67.E) (envOk_at tabOk eqOk primsOk (.cons slices_IndexFunc_97.spec <| .cons model_Check_1.spec <| .nil)) mixOk Tryz.func67 (by kernel_rfl)
theorem slices_ContainsFunc_67.F_eq (s : List Int) : slices_ContainsFunc_67.F s =
 (slices_IndexFunc_97.F s).bind fun r0 =>
 some ((decide ((r0.1 : Int) ≥ 0)), ()) := by kernel_rfl
/-! ### spigot/model.Check$2 (69) -/
def model_Check_2.sg : Sig := ⟨[.val t9, .io t11 false], [(.bool, true)]⟩
def model_Check_2.E : Env := ⟨tl, fun i => look i [], [], eqs, globs, prims⟩
def model_Check_2.c := cxOf model_Check_2.E model_Check_2.sg Tryz.f69
def model_Check_2.b := body Tryz.f69
def model_Check_2.Fn : Fun := fnOf model_Check_2.E model_Check_2.sg Tryz.f69
def model_Check_2.F (h : t9.den) (x1 : t11.den) : Option (t11.den × Bool × Unit) := model_Check_2.Fn.F (h, x1, ())
theorem model_Check_2.spec : FnSpec Tryz.prog globs 69 model_Check_2.Fn := spec_of (E := model_Check_2.E) (envOk_at tabOk eqOk primsOk (.nil)) mixOk Tryz.func69 (by kernel_rfl)
theorem model_Check_2.F_eq (h : t9.den) (x1 : t11.den) : model_Check_2.F h x1 =
 some (x1, (decide ((h.2.1.2.2.2.1 : Int) > x1.1)), ()) := by kernel_rfl
/-! ### spigot/model.at$1 (173) -/
def model_at_1.sg : Sig := ⟨[.val t9, .io (.int .u32) false], [(.bool, true)]⟩
def model_at_1.E : Env := ⟨tl, fun i => look i [], [], eqs, globs, prims⟩
def model_at_1.c := cxOf model_at_1.E model_at_1.sg Tryz.f173
def model_at_1.b := body Tryz.f173
def model_at_1.Fn : Fun := fnOf model_at_1.E model_at_1.sg Tryz.f173
def model_at_1.F (h : t9.den) (x1 : Int) : Option (Int × Bool × Unit) := model_at_1.Fn.F (h, x1, ())
theorem model_at_1.spec : FnSpec Tryz.prog globs 173 model_at_1.Fn := spec_of (E := model_at_1.E) (envOk_at tabOk eqOk primsOk (.nil)) mixOk Tryz.func173 (by kernel_rfl)
theorem model_at_1.F_eq (h : t9.den) (x1 : Int) : model_at_1.F h x1 =
 some (x1, (h.1 == x1), ()) := by kernel_rfl
/-! ### slices.IndexFunc[[]spigot/api.Held,spigot/api.Held] (1101) -/
def slices_IndexFunc_1101.sg : Sig := ⟨[.val (.slice t9), .clo 173 (.int .u32)], [((.int .i64), true)]⟩
def slices_IndexFunc_1101.E : Env := ⟨tl, fun i => look i [(173, model_at_1.Fn)], [], eqs, globs, prims⟩
def slices_IndexFunc_1101.c := cxOf slices_IndexFunc_1101.E slices_IndexFunc_1101.sg Tryz.f101
def slices_IndexFunc_1101.b := body Tryz.f101
def slices_IndexFunc_1101.Fn : Fun := fnOf slices_IndexFunc_1101.E slices_IndexFunc_1101.sg Tryz.f101
def slices_IndexFunc_1101.F (s : List t9.den) (f : Int) : Option (Int × Int × Unit) := slices_IndexFunc_1101.Fn.F (s, f, ())
def slices_IndexFunc_1101.S1 (s : List t9.den) (t7_ t8_ b0 : Int) : St := ⟨[(0, (.v (.slice t9) s)), (1, (.fn 173 [(.ptr 0 [])])), (7, (.v (.int .i64) t7_)), (8, (.v (.int .i64) t8_))], [(0, some (.box (.v (.int .u32) b0)))], 1, [(.ptr 0 [])]⟩
def slices_IndexFunc_1101.L1 (s : List t9.den) (t7_ t8_ b0 : Int) : Option (Int × Int × Unit) := res slices_IndexFunc_1101.c (atLoop slices_IndexFunc_1101.b [1, 0, 1, 0]) (slices_IndexFunc_1101.S1 s t7_ t8_ b0)
def slices_IndexFunc_1101.S2 (s : List t9.den) (t7_ t8_ b0 : Int) : St := ⟨[(0, (.v (.slice t9) s)), (1, (.fn 173 [(.ptr 0 [])])), (7, (.v (.int .i64) t7_)), (8, (.v (.int .i64) t8_))], [(0, some (.box (.v (.int .u32) b0)))], 1, [(.ptr 0 [])]⟩
def slices_IndexFunc_1101.L2 (s : List t9.den) (t7_ t8_ b0 : Int) : Option (Int × Int × Unit) := res slices_IndexFunc_1101.c (atJoin slices_IndexFunc_1101.b [1, 0, 1, 0, 0, 1, 0]) (slices_IndexFunc_1101.S2 s t7_ t8_ b0)
def slices_IndexFunc_1101.S3 (s : List t9.den) (t7_ t8_ b0 : Int) : St := ⟨[(0, (.v (.slice t9) s)), (1, (.fn 173 [(.ptr 0 [])])), (7, (.v (.int .i64) t7_)), (8, (.v (.int .i64) t8_))], [(0, some (.box (.v (.int .u32) b0)))], 1, [(.ptr 0 [])]⟩
def slices_IndexFunc_1101.L3 (s : List t9.den) (t7_ t8_ b0 : Int) : Option (Int × Int × Unit) := res slices_IndexFunc_1101.c (atJoin slices_IndexFunc_1101.b [1, 0, 1, 0, 0, 1, 1, 0, 0, 1, 1]) (slices_IndexFunc_1101.S3 s t7_ t8_ b0)
theorem slices_IndexFunc_1101.spec : FnSpec Tryz.prog globs 101 slices_IndexFunc_1101.Fn := spec_of (E := slices_IndexFunc_1101.E) (envOk_at tabOk eqOk primsOk (.cons model_at_1.spec <| .nil)) mixOk Tryz.func101 (by kernel_rfl)
theorem slices_IndexFunc_1101.L1_eq (s : List t9.den) (t7_ t8_ b0 : Int) : slices_IndexFunc_1101.L1 s t7_ t8_ b0 =
 bif (decide ((t8_ : Int) < t7_)) then
  slices_IndexFunc_1101.L2 s t7_ t8_ b0
 else
  some (b0, (-1), ()) := res_eq (by kernel_rfl)
theorem slices_IndexFunc_1101.L2_eq (s : List t9.den) (t7_ t8_ b0 : Int) : slices_IndexFunc_1101.L2 s t7_ t8_ b0 =
 bif (decide ((0 : Int) ≤ t8_ ∧ (t8_ : Int) < ((List.length s : Int)))) then
  (model_at_1.F (List.getD s (Int.toNat t8_) d9_) b0).bind fun r0 =>
  bif r0.2.1 then
   some (r0.1, t8_, ())
  else
   slices_IndexFunc_1101.L3 s t7_ t8_ r0.1
 else none := res_eq (by kernel_rfl)
theorem slices_IndexFunc_1101.L3_eq (s : List t9.den) (t7_ t8_ b0 : Int) : slices_IndexFunc_1101.L3 s t7_ t8_ b0 =
 slices_IndexFunc_1101.L1 s t7_ (IntKind.wrap .i64 (t8_ + 1)) b0 := res_eq (by kernel_rfl)
theorem slices_IndexFunc_1101.F_eq (s : List t9.den) (f : Int) : slices_IndexFunc_1101.F s f =
 slices_IndexFunc_1101.L1 s ((List.length s : Int)) 0 f := by kernel_rfl
/-! ### spigot/model.at (137) -/
def model_at.sg : Sig := ⟨[.val (.slice t9), .val (.int .u32)], [((.int .i64), true)]⟩
def model_at.E : Env := ⟨tl, fun i => look i [(173, model_at_1.Fn), (101, slices_IndexFunc_1101.Fn)], [], eqs, globs, prims⟩
def model_at.c := cxOf model_at.E model_at.sg Tryz.f137
def model_at.b := body Tryz.f137
def model_at.Fn : Fun := fnOf model_at.E model_at.sg Tryz.f137
def model_at.F (l : List t9.den) (key : Int) : Option (Int × Unit) := model_at.Fn.F (l, key, ())
theorem model_at.spec : FnSpec Tryz.prog globs 137 model_at.Fn := spec_of (E := model_at.E) (envOk_at tabOk eqOk primsOk (.cons model_at_1.spec <| .cons slices_IndexFunc_1101.spec <| .nil)) mixOk Tryz.func137 (by kernel_rfl)
theorem model_at.F_eq (l : List t9.den) (key : Int) : model_at.F l key =
 (slices_IndexFunc_1101.F l key).bind fun r0 =>
 some (r0.2.1, ()) := by kernel_rfl
/-! ### spigot/model.held (100) -/
def model_held.sg : Sig := ⟨[.val (.slice t9), .val (.int .i64), .val t0, .val (.int .u32)], [(.bool, true)]⟩
def model_held.E : Env := ⟨tl, fun i => look i [(99, bucket_Check.Fn), (137, model_at.Fn)], [], eqs, globs, prims⟩
def model_held.c := cxOf model_held.E model_held.sg Tryz.f100
def model_held.b := body Tryz.f100
def model_held.Fn : Fun := fnOf model_held.E model_held.sg Tryz.f100
def model_held.F (l : List t9.den) (most : Int) (limit : t0.den) (key : Int) : Option (Bool × Unit) := model_held.Fn.F (l, most, limit, key, ())
def model_held.S1 (l : List t9.den) (key b0 : Int) (b02 b03 : Int) : St := ⟨[(0, (.v (.slice t9) l)), (3, (.v (.int .u32) key)), (6, (.ptr 0 []))], [(0, some (.box (.agg [(.v (.int .i64) b0), (.v (.int .i64) b02), (.v (.int .i64) b03)])))], 1, []⟩
def model_held.L1 (l : List t9.den) (key b0 : Int) (b02 b03 : Int) : Option (Bool × Unit) := res model_held.c (atJoin model_held.b [1, 0, 1]) (model_held.S1 l key b0 b02 b03)
def model_held.S2 (l : List t9.den) (key t16_ : Int) (t17_ b0 : Int) (b02 b03 : Int) : St := ⟨[(0, (.v (.slice t9) l)), (3, (.v (.int .u32) key)), (6, (.ptr 0 [])), (15, (.v (.slice t9) l)), (16, (.v (.int .i64) t16_)), (17, (.v (.int .i64) t17_))], [(0, some (.box (.agg [(.v (.int .i64) b0), (.v (.int .i64) b02), (.v (.int .i64) b03)])))], 1, []⟩
def model_held.L2 (l : List t9.den) (key t16_ : Int) (t17_ b0 : Int) (b02 b03 : Int) : Option (Bool × Unit) := res model_held.c (atLoop model_held.b [1, 1, 0, 1, 0]) (model_held.S2 l key t16_ t17_ b0 b02 b03)
def model_held.S3 (l : List t9.den) (key t16_ : Int) (t17_ b0 : Int) (b02 b03 : Int) : St := ⟨[(0, (.v (.slice t9) l)), (3, (.v (.int .u32) key)), (6, (.ptr 0 [])), (15, (.v (.slice t9) l)), (16, (.v (.int .i64) t16_)), (17, (.v (.int .i64) t17_))], [(0, some (.box (.agg [(.v (.int .i64) b0), (.v (.int .i64) b02), (.v (.int .i64) b03)])))], 1, []⟩
def model_held.L3 (l : List t9.den) (key t16_ : Int) (t17_ b0 : Int) (b02 b03 : Int) : Option (Bool × Unit) := res model_held.c (atJoin model_held.b [1, 1, 0, 1, 0, 0, 1, 0]) (model_held.S3 l key t16_ t17_ b0 b02 b03)
def model_held.S4 (l : List t9.den) (key t16_ : Int) (t17_ b0 : Int) (b02 b03 : Int) : St := ⟨[(0, (.v (.slice t9) l)), (3, (.v (.int .u32) key)), (6, (.ptr 0 [])), (15, (.v (.slice t9) l)), (16, (.v (.int .i64) t16_)), (17, (.v (.int .i64) t17_))], [(0, some (.box (.agg [(.v (.int .i64) b0), (.v (.int .i64) b02), (.v (.int .i64) b03)])))], 1, []⟩
def model_held.L4 (l : List t9.den) (key t16_ : Int) (t17_ b0 : Int) (b02 b03 : Int) : Option (Bool × Unit) := res model_held.c (atJoin model_held.b [1, 1, 0, 1, 0, 0, 1, 1, 0, 0, 1, 1]) (model_held.S4 l key t16_ t17_ b0 b02 b03)
theorem model_held.spec : FnSpec Tryz.prog globs 100 model_held.Fn := spec_of (E := model_held.E) (envOk_at tabOk eqOk primsOk (.cons bucket_Check.spec <| .cons model_at.spec <| .nil)) mixOk Tryz.func100 (by kernel_rfl)
theorem model_held.L1_eq (l : List t9.den) (key b0 : Int) (b02 b03 : Int) : model_held.L1 l key b0 b02 b03 =
 model_held.L2 l key ((List.length l : Int)) 0 b0 b02 b03 := res_eq (by kernel_rfl)
theorem model_held.L2_eq (l : List t9.den) (key t16_ : Int) (t17_ b0 : Int) (b02 b03 : Int) : model_held.L2 l key t16_ t17_ b0 b02 b03 =
 bif (decide ((t17_ : Int) < t16_)) then
  model_held.L3 l key t16_ t17_ b0 b02 b03
 else
  some (true, ()) := res_eq (by kernel_rfl)
theorem model_held.L3_eq (l : List t9.den) (key t16_ : Int) (t17_ b0 : Int) (b02 b03 : Int) : model_held.L3 l key t16_ t17_ b0 b02 b03 =
 bif (decide ((0 : Int) ≤ t17_ ∧ (t17_ : Int) < ((List.length l : Int)))) then
  bif (decide ((((List.getD l (Int.toNat t17_) d9_).1) : Int) > key)) then
   some (false, ())
  else
   bif (decide ((0 : Int) ≤ 0 ∧ (0 : Int) ≤ t17_ ∧ (t17_ : Int) ≤ ((List.length l : Int)))) then
    (model_at.F (List.take ((Int.toNat t17_) - (Int.toNat 0)) (List.drop (Int.toNat 0) l)) ((List.getD l (Int.toNat t17_) d9_).1)).bind fun r0 =>
    bif (decide ((r0.1 : Int) ≥ 0)) then
     some (false, ())
    else
     bif (!(Ty.beq t0 ((((List.getD l (Int.toNat t17_) d9_).2).1).1) (b0, b02, b03, ()))) then
      some (false, ())
     else
      (bucket_Check.F (((List.getD l (Int.toNat t17_) d9_).2).1)).bind fun r1 =>
      bif (r1.1 != 0) then
       some (false, ())
      else
       model_held.L4 l key t16_ t17_ b0 b02 b03
   else none
 else none := res_eq (by kernel_rfl)
theorem model_held.L4_eq (l : List t9.den) (key t16_ : Int) (t17_ b0 : Int) (b02 b03 : Int) : model_held.L4 l key t16_ t17_ b0 b02 b03 =
 model_held.L2 l key t16_ (IntKind.wrap .i64 (t17_ + 1)) b0 b02 b03 := res_eq (by kernel_rfl)
theorem model_held.F_eq (l : List t9.den) (most : Int) (limit : t0.den) (key : Int) : model_held.F l most limit key =
 bif (decide ((((List.length l : Int)) : Int) > most)) then
  some (false, ())
 else
  model_held.L1 l key limit.1 limit.2.1 limit.2.2.1 := by kernel_rfl
/-! ### spigot/model.valid (70) -/
def model_valid.sg : Sig := ⟨[.val t10], [(.bool, true)]⟩
def model_valid.E : Env := ⟨tl, fun i => look i [(98, bucket_CheckLimit.Fn), (99, bucket_Check.Fn), (100, model_held.Fn)], [], eqs, globs, prims⟩
def model_valid.c := cxOf model_valid.E model_valid.sg Tryz.f70
def model_valid.b := body Tryz.f70
def model_valid.Fn : Fun := fnOf model_valid.E model_valid.sg Tryz.f70
def model_valid.F (a : t10.den) : Option (Bool × Unit) := model_valid.Fn.F (a, ())
def model_valid.S1 (t7_ : List t0.den) (t8_ b0 : Int) (b02 : List Int) (b03 b04 : Int) (b05 b06 : Int) (b07 b08 : Int) (b09 b010 : List t9.den) (b011 : List Int) (b012 b013 b014 : Int) : St := ⟨[(1, (.ptr 0 [])), (7, (.v (.arr 3 t0) t7_)), (8, (.v (.int .i64) t8_))], [(0, some (.box (.agg [(.v (.int .u32) b0), (.v (.arr 3 t0) t7_), (.v (.arr 2 (.int .i64)) b02), (.agg [(.agg [(.v (.int .i64) b03), (.v (.int .i64) b04), (.v (.int .i64) b05)]), (.v (.int .i64) b06), (.v (.int .i64) b07), (.v (.int .u64) b08)]), (.v (.slice t9) b09), (.v (.slice t9) b010), (.v (.slice (.int .u32)) b011), (.agg [(.v (.int .u64) b012), (.v (.int .u64) b013), (.v (.int .u64) b014)])])))], 1, []⟩
def model_valid.L1 (t7_ : List t0.den) (t8_ b0 : Int) (b02 : List Int) (b03 b04 : Int) (b05 b06 : Int) (b07 b08 : Int) (b09 b010 : List t9.den) (b011 : List Int) (b012 b013 b014 : Int) : Option (Bool × Unit) := res model_valid.c (atLoop model_valid.b [1, 0, 1, 0]) (model_valid.S1 t7_ t8_ b0 b02 b03 b04 b05 b06 b07 b08 b09 b010 b011 b012 b013 b014)
def model_valid.S2 (t7_ : List t0.den) (t8_ b0 : Int) (b02 : List Int) (b03 b04 : Int) (b05 b06 : Int) (b07 b08 : Int) (b09 b010 : List t9.den) (b011 : List Int) (b012 b013 b014 : Int) : St := ⟨[(1, (.ptr 0 [])), (7, (.v (.arr 3 t0) t7_)), (8, (.v (.int .i64) t8_))], [(0, some (.box (.agg [(.v (.int .u32) b0), (.v (.arr 3 t0) t7_), (.v (.arr 2 (.int .i64)) b02), (.agg [(.agg [(.v (.int .i64) b03), (.v (.int .i64) b04), (.v (.int .i64) b05)]), (.v (.int .i64) b06), (.v (.int .i64) b07), (.v (.int .u64) b08)]), (.v (.slice t9) b09), (.v (.slice t9) b010), (.v (.slice (.int .u32)) b011), (.agg [(.v (.int .u64) b012), (.v (.int .u64) b013), (.v (.int .u64) b014)])])))], 1, []⟩
def model_valid.L2 (t7_ : List t0.den) (t8_ b0 : Int) (b02 : List Int) (b03 b04 : Int) (b05 b06 : Int) (b07 b08 : Int) (b09 b010 : List t9.den) (b011 : List Int) (b012 b013 b014 : Int) : Option (Bool × Unit) := res model_valid.c (atJoin model_valid.b [1, 0, 1, 0, 0, 1, 0]) (model_valid.S2 t7_ t8_ b0 b02 b03 b04 b05 b06 b07 b08 b09 b010 b011 b012 b013 b014)
def model_valid.S3 (i b0 : Int) (b02 : List t0.den) (b03 : List Int) (b04 b05 : Int) (b06 b07 : Int) (b08 b09 : Int) (b010 b011 : List t9.den) (b012 : List Int) (b013 b014 b015 : Int) : St := ⟨[(1, (.ptr 0 [])), (5, (.v (.int .i64) i))], [(0, some (.box (.agg [(.v (.int .u32) b0), (.v (.arr 3 t0) b02), (.v (.arr 2 (.int .i64)) b03), (.agg [(.agg [(.v (.int .i64) b04), (.v (.int .i64) b05), (.v (.int .i64) b06)]), (.v (.int .i64) b07), (.v (.int .i64) b08), (.v (.int .u64) b09)]), (.v (.slice t9) b010), (.v (.slice t9) b011), (.v (.slice (.int .u32)) b012), (.agg [(.v (.int .u64) b013), (.v (.int .u64) b014), (.v (.int .u64) b015)])])))], 1, []⟩
def model_valid.L3 (i b0 : Int) (b02 : List t0.den) (b03 : List Int) (b04 b05 : Int) (b06 b07 : Int) (b08 b09 : Int) (b010 b011 : List t9.den) (b012 : List Int) (b013 b014 b015 : Int) : Option (Bool × Unit) := res model_valid.c (atLoop model_valid.b [1, 1, 0, 1, 0]) (model_valid.S3 i b0 b02 b03 b04 b05 b06 b07 b08 b09 b010 b011 b012 b013 b014 b015)
def model_valid.S4 (i b0 : Int) (b02 : List t0.den) (b03 : List Int) (b04 b05 : Int) (b06 b07 : Int) (b08 b09 : Int) (b010 b011 : List t9.den) (b012 : List Int) (b013 b014 b015 : Int) : St := ⟨[(1, (.ptr 0 [])), (5, (.v (.int .i64) i))], [(0, some (.box (.agg [(.v (.int .u32) b0), (.v (.arr 3 t0) b02), (.v (.arr 2 (.int .i64)) b03), (.agg [(.agg [(.v (.int .i64) b04), (.v (.int .i64) b05), (.v (.int .i64) b06)]), (.v (.int .i64) b07), (.v (.int .i64) b08), (.v (.int .u64) b09)]), (.v (.slice t9) b010), (.v (.slice t9) b011), (.v (.slice (.int .u32)) b012), (.agg [(.v (.int .u64) b013), (.v (.int .u64) b014), (.v (.int .u64) b015)])])))], 1, []⟩
def model_valid.L4 (i b0 : Int) (b02 : List t0.den) (b03 : List Int) (b04 b05 : Int) (b06 b07 : Int) (b08 b09 : Int) (b010 b011 : List t9.den) (b012 : List Int) (b013 b014 b015 : Int) : Option (Bool × Unit) := res model_valid.c (atJoin model_valid.b [1, 1, 0, 1, 0, 0, 0, 1]) (model_valid.S4 i b0 b02 b03 b04 b05 b06 b07 b08 b09 b010 b011 b012 b013 b014 b015)
def model_valid.S5 (b0 : Int) (b02 : List t0.den) (b03 : List Int) (b04 b05 : Int) (b06 b07 : Int) (b08 b09 : Int) (b010 b011 : List t9.den) (b012 : List Int) (b013 b014 b015 : Int) : St := ⟨[(1, (.ptr 0 []))], [(0, some (.box (.agg [(.v (.int .u32) b0), (.v (.arr 3 t0) b02), (.v (.arr 2 (.int .i64)) b03), (.agg [(.agg [(.v (.int .i64) b04), (.v (.int .i64) b05), (.v (.int .i64) b06)]), (.v (.int .i64) b07), (.v (.int .i64) b08), (.v (.int .u64) b09)]), (.v (.slice t9) b010), (.v (.slice t9) b011), (.v (.slice (.int .u32)) b012), (.agg [(.v (.int .u64) b013), (.v (.int .u64) b014), (.v (.int .u64) b015)])])))], 1, []⟩
def model_valid.L5 (b0 : Int) (b02 : List t0.den) (b03 : List Int) (b04 b05 : Int) (b06 b07 : Int) (b08 b09 : Int) (b010 b011 : List t9.den) (b012 : List Int) (b013 b014 b015 : Int) : Option (Bool × Unit) := res model_valid.c (atJoin model_valid.b [1, 1, 1, 0, 1]) (model_valid.S5 b0 b02 b03 b04 b05 b06 b07 b08 b09 b010 b011 b012 b013 b014 b015)
def model_valid.S6 (i b0 : Int) (b02 : List t0.den) (b03 : List Int) (b04 b05 : Int) (b06 b07 : Int) (b08 b09 : Int) (b010 b011 : List t9.den) (b012 : List Int) (b013 b014 b015 : Int) : St := ⟨[(1, (.ptr 0 [])), (5, (.v (.int .i64) i))], [(0, some (.box (.agg [(.v (.int .u32) b0), (.v (.arr 3 t0) b02), (.v (.arr 2 (.int .i64)) b03), (.agg [(.agg [(.v (.int .i64) b04), (.v (.int .i64) b05), (.v (.int .i64) b06)]), (.v (.int .i64) b07), (.v (.int .i64) b08), (.v (.int .u64) b09)]), (.v (.slice t9) b010), (.v (.slice t9) b011), (.v (.slice (.int .u32)) b012), (.agg [(.v (.int .u64) b013), (.v (.int .u64) b014), (.v (.int .u64) b015)])])))], 1, []⟩
def model_valid.L6 (i b0 : Int) (b02 : List t0.den) (b03 : List Int) (b04 b05 : Int) (b06 b07 : Int) (b08 b09 : Int) (b010 b011 : List t9.den) (b012 : List Int) (b013 b014 b015 : Int) : Option (Bool × Unit) := res model_valid.c (atJoin model_valid.b [1, 1, 0, 1, 0, 0, 1, 0, 0, 1]) (model_valid.S6 i b0 b02 b03 b04 b05 b06 b07 b08 b09 b010 b011 b012 b013 b014 b015)
def model_valid.S7 (t7_ : List t0.den) (t8_ b0 : Int) (b02 : List Int) (b03 b04 : Int) (b05 b06 : Int) (b07 b08 : Int) (b09 b010 : List t9.den) (b011 : List Int) (b012 b013 b014 : Int) : St := ⟨[(1, (.ptr 0 [])), (7, (.v (.arr 3 t0) t7_)), (8, (.v (.int .i64) t8_))], [(0, some (.box (.agg [(.v (.int .u32) b0), (.v (.arr 3 t0) t7_), (.v (.arr 2 (.int .i64)) b02), (.agg [(.agg [(.v (.int .i64) b03), (.v (.int .i64) b04), (.v (.int .i64) b05)]), (.v (.int .i64) b06), (.v (.int .i64) b07), (.v (.int .u64) b08)]), (.v (.slice t9) b09), (.v (.slice t9) b010), (.v (.slice (.int .u32)) b011), (.agg [(.v (.int .u64) b012), (.v (.int .u64) b013), (.v (.int .u64) b014)])])))], 1, []⟩
def model_valid.L7 (t7_ : List t0.den) (t8_ b0 : Int) (b02 : List Int) (b03 b04 : Int) (b05 b06 : Int) (b07 b08 : Int) (b09 b010 : List t9.den) (b011 : List Int) (b012 b013 b014 : Int) : Option (Bool × Unit) := res model_valid.c (atJoin model_valid.b [1, 0, 1, 0, 0, 1, 1, 0, 0, 1, 1]) (model_valid.S7 t7_ t8_ b0 b02 b03 b04 b05 b06 b07 b08 b09 b010 b011 b012 b013 b014)
theorem model_valid.spec : FnSpec Tryz.prog globs 70 model_valid.Fn := spec_of (E := model_valid.E) (envOk_at tabOk eqOk primsOk (.cons bucket_CheckLimit.spec <| .cons bucket_Check.spec <| .cons model_held.spec <| .nil)) mixOk Tryz.func70 (by kernel_rfl)
theorem model_valid.L1_eq (t7_ : List t0.den) (t8_ b0 : Int) (b02 : List Int) (b03 b04 : Int) (b05 b06 : Int) (b07 b08 : Int) (b09 b010 : List t9.den) (b011 : List Int) (b012 b013 b014 : Int) : model_valid.L1 t7_ t8_ b0 b02 b03 b04 b05 b06 b07 b08 b09 b010 b011 b012 b013 b014 =
 bif (decide ((t8_ : Int) < 3)) then
  model_valid.L2 t7_ t8_ b0 b02 b03 b04 b05 b06 b07 b08 b09 b010 b011 b012 b013 b014
 else
  model_valid.L3 1 b0 t7_ b02 b03 b04 b05 b06 b07 b08 b09 b010 b011 b012 b013 b014 := res_eq (by kernel_rfl)
theorem model_valid.L2_eq (t7_ : List t0.den) (t8_ b0 : Int) (b02 : List Int) (b03 b04 : Int) (b05 b06 : Int) (b07 b08 : Int) (b09 b010 : List t9.den) (b011 : List Int) (b012 b013 b014 : Int) : model_valid.L2 t7_ t8_ b0 b02 b03 b04 b05 b06 b07 b08 b09 b010 b011 b012 b013 b014 =
 bif (decide ((0 : Int) ≤ t8_ ∧ (t8_ : Int) < 3)) then
  (bucket_CheckLimit.F (List.getD t7_ (Int.toNat t8_) (0, 0, 0, ()))).bind fun r0 =>
  bif (r0.1 != 0) then
   some (false, ())
  else
   bif (decide ((t8_ : Int) < 2)) then
    bif (decide ((0 : Int) ≤ t8_ ∧ (t8_ : Int) < 2)) then
     bif (decide (((List.getD b02 (Int.toNat t8_) 0) : Int) < 1)) then
      some (false, ())
     else
      bif (decide ((0 : Int) ≤ t8_ ∧ (t8_ : Int) < 2)) then
       bif (decide (((List.getD b02 (Int.toNat t8_) 0) : Int) > 8)) then
        some (false, ())
       else
        model_valid.L7 t7_ t8_ b0 b02 b03 b04 b05 b06 b07 b08 b09 b010 b011 b012 b013 b014
      else none
    else none
   else
    model_valid.L7 t7_ t8_ b0 b02 b03 b04 b05 b06 b07 b08 b09 b010 b011 b012 b013 b014
 else none := res_eq (by kernel_rfl)
theorem model_valid.L3_eq (i b0 : Int) (b02 : List t0.den) (b03 : List Int) (b04 b05 : Int) (b06 b07 : Int) (b08 b09 : Int) (b010 b011 : List t9.den) (b012 : List Int) (b013 b014 b015 : Int) : model_valid.L3 i b0 b02 b03 b04 b05 b06 b07 b08 b09 b010 b011 b012 b013 b014 b015 =
 bif (decide ((i : Int) < ((List.length b012 : Int)))) then
  model_valid.L4 i b0 b02 b03 b04 b05 b06 b07 b08 b09 b010 b011 b012 b013 b014 b015
 else
  bif (decide ((b0 : Int) ≥ 16)) then
   some (false, ())
  else
   bif (decide ((((List.length b012 : Int)) : Int) > 8)) then
    some (false, ())
   else
    bif (decide ((0 : Int) ≤ 0 ∧ (0 : Int) < 3)) then
     bif (!(Ty.beq t0 (b04, b05, b06, ()) (List.getD b02 (Int.toNat 0) (0, 0, 0, ())))) then
      some (false, ())
     else
      (bucket_Check.F ((b04, b05, b06, ()), b07, b08, b09, ())).bind fun r0 =>
      bif (r0.1 != 0) then
       some (false, ())
      else
       model_valid.L5 b0 b02 b03 b04 b05 b06 b07 b08 b09 b010 b011 b012 b013 b014 b015
    else none := res_eq (by kernel_rfl)
theorem model_valid.L4_eq (i b0 : Int) (b02 : List t0.den) (b03 : List Int) (b04 b05 : Int) (b06 b07 : Int) (b08 b09 : Int) (b010 b011 : List t9.den) (b012 : List Int) (b013 b014 b015 : Int) : model_valid.L4 i b0 b02 b03 b04 b05 b06 b07 b08 b09 b010 b011 b012 b013 b014 b015 =
 bif (decide ((0 : Int) ≤ i ∧ (i : Int) < ((List.length b012 : Int)))) then
  bif (decide ((0 : Int) ≤ (IntKind.wrap .i64 (i - 1)) ∧ ((IntKind.wrap .i64 (i - 1)) : Int) < ((List.length b012 : Int)))) then
   bif (decide (((List.getD b012 (Int.toNat i) 0) : Int) ≤ (List.getD b012 (Int.toNat (IntKind.wrap .i64 (i - 1))) 0))) then
    some (false, ())
   else
    model_valid.L6 i b0 b02 b03 b04 b05 b06 b07 b08 b09 b010 b011 b012 b013 b014 b015
  else none
 else none := res_eq (by kernel_rfl)
theorem model_valid.L5_eq (b0 : Int) (b02 : List t0.den) (b03 : List Int) (b04 b05 : Int) (b06 b07 : Int) (b08 b09 : Int) (b010 b011 : List t9.den) (b012 : List Int) (b013 b014 b015 : Int) : model_valid.L5 b0 b02 b03 b04 b05 b06 b07 b08 b09 b010 b011 b012 b013 b014 b015 =
 bif (decide ((0 : Int) ≤ 0 ∧ (0 : Int) < 2)) then
  bif (decide ((0 : Int) ≤ 1 ∧ (1 : Int) < 3)) then
   (model_held.F b010 (List.getD b03 (Int.toNat 0) 0) (List.getD b02 (Int.toNat 1) (0, 0, 0, ())) 4294967295).bind fun r0 =>
   bif r0.1 then
    bif (decide ((0 : Int) ≤ 1 ∧ (1 : Int) < 2)) then
     bif (decide ((0 : Int) ≤ 2 ∧ (2 : Int) < 3)) then
      (model_held.F b011 (List.getD b03 (Int.toNat 1) 0) (List.getD b02 (Int.toNat 2) (0, 0, 0, ())) 65535).bind fun r1 =>
      some (r1.1, ())
     else none
    else none
   else
    some (false, ())
  else none
 else none := res_eq (by kernel_rfl)
theorem model_valid.L6_eq (i b0 : Int) (b02 : List t0.den) (b03 : List Int) (b04 b05 : Int) (b06 b07 : Int) (b08 b09 : Int) (b010 b011 : List t9.den) (b012 : List Int) (b013 b014 b015 : Int) : model_valid.L6 i b0 b02 b03 b04 b05 b06 b07 b08 b09 b010 b011 b012 b013 b014 b015 =
 model_valid.L3 (IntKind.wrap .i64 (i + 1)) b0 b02 b03 b04 b05 b06 b07 b08 b09 b010 b011 b012 b013 b014 b015 := res_eq (by kernel_rfl)
theorem model_valid.L7_eq (t7_ : List t0.den) (t8_ b0 : Int) (b02 : List Int) (b03 b04 : Int) (b05 b06 : Int) (b07 b08 : Int) (b09 b010 : List t9.den) (b011 : List Int) (b012 b013 b014 : Int) : model_valid.L7 t7_ t8_ b0 b02 b03 b04 b05 b06 b07 b08 b09 b010 b011 b012 b013 b014 =
 model_valid.L1 t7_ (IntKind.wrap .i64 (t8_ + 1)) b0 b02 b03 b04 b05 b06 b07 b08 b09 b010 b011 b012 b013 b014 := res_eq (by kernel_rfl)
theorem model_valid.F_eq (a : t10.den) : model_valid.F a =
 model_valid.L1 a.2.1 0 a.1 a.2.2.1 a.2.2.2.1.1.1 a.2.2.2.1.1.2.1 a.2.2.2.1.1.2.2.1 a.2.2.2.1.2.1 a.2.2.2.1.2.2.1 a.2.2.2.1.2.2.2.1 a.2.2.2.2.1 a.2.2.2.2.2.1 a.2.2.2.2.2.2.1 a.2.2.2.2.2.2.2.1.1 a.2.2.2.2.2.2.2.1.2.1 a.2.2.2.2.2.2.2.1.2.2.1 := by kernel_rfl
/-! ### slices.IndexFunc[[]spigot/api.Held,spigot/api.Held] (101) -/
def slices_IndexFunc_101.sg : Sig := ⟨[.val (.slice t9), .clo 69 t11], [((.int .i64), true)]⟩
def slices_IndexFunc_101.E : Env := ⟨tl, fun i => look i [(69, model_Check_2.Fn)], [], eqs, globs, prims⟩
def slices_IndexFunc_101.c := cxOf slices_IndexFunc_101.E slices_IndexFunc_101.sg Tryz.f101
def slices_IndexFunc_101.b := body Tryz.f101
def slices_IndexFunc_101.Fn : Fun := fnOf slices_IndexFunc_101.E slices_IndexFunc_101.sg Tryz.f101
def slices_IndexFunc_101.F (s : List t9.den) (f : t11.den) : Option (t11.den × Int × Unit) := slices_IndexFunc_101.Fn.F (s, f, ())
def slices_IndexFunc_101.S1 (s : List t9.den) (t7_ t8_ b0 : Int) (b02 b03 : List Int) (b04 : List t10.den) : St := ⟨[(0, (.v (.slice t9) s)), (1, (.fn 69 [(.ptr 0 [])])), (7, (.v (.int .i64) t7_)), (8, (.v (.int .i64) t8_))], [(0, some (.box (.agg [(.v (.int .u64) b0), (.v (.arr 32 (.int .u8)) b02), (.v (.arr 16 (.int .u32)) b03), (.v (.slice t10) b04)])))], 1, [(.ptr 0 [])]⟩
def slices_IndexFunc_101.L1 (s : List t9.den) (t7_ t8_ b0 : Int) (b02 b03 : List Int) (b04 : List t10.den) : Option (t11.den × Int × Unit) := res slices_IndexFunc_101.c (atLoop slices_IndexFunc_101.b [1, 0, 1, 0]) (slices_IndexFunc_101.S1 s t7_ t8_ b0 b02 b03 b04)
def slices_IndexFunc_101.S2 (s : List t9.den) (t7_ t8_ b0 : Int) (b02 b03 : List Int) (b04 : List t10.den) : St := ⟨[(0, (.v (.slice t9) s)), (1, (.fn 69 [(.ptr 0 [])])), (7, (.v (.int .i64) t7_)), (8, (.v (.int .i64) t8_))], [(0, some (.box (.agg [(.v (.int .u64) b0), (.v (.arr 32 (.int .u8)) b02), (.v (.arr 16 (.int .u32)) b03), (.v (.slice t10) b04)])))], 1, [(.ptr 0 [])]⟩
def slices_IndexFunc_101.L2 (s : List t9.den) (t7_ t8_ b0 : Int) (b02 b03 : List Int) (b04 : List t10.den) : Option (t11.den × Int × Unit) := res slices_IndexFunc_101.c (atJoin slices_IndexFunc_101.b [1, 0, 1, 0, 0, 1, 0]) (slices_IndexFunc_101.S2 s t7_ t8_ b0 b02 b03 b04)
def slices_IndexFunc_101.S3 (s : List t9.den) (t7_ t8_ b0 : Int) (b02 b03 : List Int) (b04 : List t10.den) : St := ⟨[(0, (.v (.slice t9) s)), (1, (.fn 69 [(.ptr 0 [])])), (7, (.v (.int .i64) t7_)), (8, (.v (.int .i64) t8_))], [(0, some (.box (.agg [(.v (.int .u64) b0), (.v (.arr 32 (.int .u8)) b02), (.v (.arr 16 (.int .u32)) b03), (.v (.slice t10) b04)])))], 1, [(.ptr 0 [])]⟩
def slices_IndexFunc_101.L3 (s : List t9.den) (t7_ t8_ b0 : Int) (b02 b03 : List Int) (b04 : List t10.den) : Option (t11.den × Int × Unit) := res slices_IndexFunc_101.c (atJoin slices_IndexFunc_101.b [1, 0, 1, 0, 0, 1, 1, 0, 0, 1, 1]) (slices_IndexFunc_101.S3 s t7_ t8_ b0 b02 b03 b04)
theorem slices_IndexFunc_101.spec : FnSpec Tryz.prog globs 101 slices_IndexFunc_101.Fn := spec_of (E := slices_IndexFunc_101.E) (envOk_at tabOk eqOk primsOk (.cons model_Check_2.spec <| .nil)) mixOk Tryz.func101 (by kernel_rfl)
theorem slices_IndexFunc_101.L1_eq (s : List t9.den) (t7_ t8_ b0 : Int) (b02 b03 : List Int) (b04 : List t10.den) : slices_IndexFunc_101.L1 s t7_ t8_ b0 b02 b03 b04 =
 bif (decide ((t8_ : Int) < t7_)) then
  slices_IndexFunc_101.L2 s t7_ t8_ b0 b02 b03 b04
 else
  some ((b0, b02, b03, b04, ()), (-1), ()) := res_eq (by kernel_rfl)
theorem slices_IndexFunc_101.L2_eq (s : List t9.den) (t7_ t8_ b0 : Int) (b02 b03 : List Int) (b04 : List t10.den) : slices_IndexFunc_101.L2 s t7_ t8_ b0 b02 b03 b04 =
 bif (decide ((0 : Int) ≤ t8_ ∧ (t8_ : Int) < ((List.length s : Int)))) then
  (model_Check_2.F (List.getD s (Int.toNat t8_) d9_) (b0, b02, b03, b04, ())).bind fun r0 =>
  bif r0.2.1 then
   some (r0.1, t8_, ())
  else
   slices_IndexFunc_101.L3 s t7_ t8_ r0.1.1 r0.1.2.1 r0.1.2.2.1 r0.1.2.2.2.1
 else none := res_eq (by kernel_rfl)
theorem slices_IndexFunc_101.L3_eq (s : List t9.den) (t7_ t8_ b0 : Int) (b02 b03 : List Int) (b04 : List t10.den) : slices_IndexFunc_101.L3 s t7_ t8_ b0 b02 b03 b04 =
 slices_IndexFunc_101.L1 s t7_ (IntKind.wrap .i64 (t8_ + 1)) b0 b02 b03 b04 := res_eq (by kernel_rfl)
theorem slices_IndexFunc_101.F_eq (s : List t9.den) (f : t11.den) : slices_IndexFunc_101.F s f =
 slices_IndexFunc_101.L1 s ((List.length s : Int)) 0 f.1 f.2.1 f.2.2.1 f.2.2.2.1 := by kernel_rfl
/-! ### slices.ContainsFunc[[]spigot/api.Held,spigot/api.Held] (71) -/
def slices_ContainsFunc_71.sg : Sig := ⟨[.val (.slice t9), .clo 69 t11], [(.bool, true)]⟩
def slices_ContainsFunc_71.E : Env := ⟨tl, fun i => look i [(101, slices_IndexFunc_101.Fn), (69, model_Check_2.Fn)], [], eqs, globs, prims⟩
def slices_ContainsFunc_71.c := cxOf slices_ContainsFunc_71.E slices_ContainsFunc_71.sg Tryz.f71
def slices_ContainsFunc_71.b := body Tryz.f71
def slices_ContainsFunc_71.Fn : Fun := fnOf slices_ContainsFunc_71.E slices_ContainsFunc_71.sg Tryz.f71
def slices_ContainsFunc_71.F (s : List t9.den) (f : t11.den) : Option (t11.den × Bool × Unit) := slices_ContainsFunc_71.Fn.F (s, f, ())
theorem slices_ContainsFunc_71.spec : FnSpec Tryz.prog globs 71 slices_ContainsFunc_71.Fn := spec_of (E := slices_ContainsFunc_71.E) (envOk_at tabOk eqOk primsOk (.cons slices_IndexFunc_101.spec <| .cons model_Check_2.spec <| .nil)) mixOk Tryz.func71 (by kernel_rfl)
theorem slices_ContainsFunc_71.F_eq (s : List t9.den) (f : t11.den) : slices_ContainsFunc_71.F s f =
 (slices_IndexFunc_101.F s f).bind fun r0 =>
 some (r0.1, (decide ((r0.2.1 : Int) ≥ 0)), ()) := by kernel_rfl
/-! ### spigot/model.Check (46) -/
def model_Check.sg : Sig := ⟨[.val t11], [((.int .i64), true)]⟩
def model_Check.E : Env := ⟨tl, fun i => look i [(67, slices_ContainsFunc_67.Fn), (68, model_Check_1.Fn), (69, model_Check_2.Fn), (70, model_valid.Fn), (71, slices_ContainsFunc_71.Fn)], [], eqs, globs, prims⟩
def model_Check.c := cxOf model_Check.E model_Check.sg Tryz.f46
def model_Check.b := body Tryz.f46
def model_Check.Fn : Fun := fnOf model_Check.E model_Check.sg Tryz.f46
def model_Check.F (m : t11.den) : Option (Int × Unit) := model_Check.Fn.F (m, ())
def model_Check.S1 (b0 : Int) (b02 b03 : List Int) (b04 : List t10.den) : St := ⟨[(1, (.ptr 0 []))], [(0, some (.box (.agg [(.v (.int .u64) b0), (.v (.arr 32 (.int .u8)) b02), (.v (.arr 16 (.int .u32)) b03), (.v (.slice t10) b04)])))], 1, []⟩
def model_Check.L1 (b0 : Int) (b02 b03 : List Int) (b04 : List t10.den) : Option (Int × Unit) := res model_Check.c (atJoin model_Check.b [1, 0, 1]) (model_Check.S1 b0 b02 b03 b04)
def model_Check.S2 (t17_ : List t10.den) (t18_ t19_ b0 : Int) (b02 b03 : List Int) (b04 : List t10.den) : St := ⟨[(1, (.ptr 0 [])), (3, (.fn 69 [(.ptr 0 [])])), (17, (.v (.slice t10) t17_)), (18, (.v (.int .i64) t18_)), (19, (.v (.int .i64) t19_))], [(0, some (.box (.agg [(.v (.int .u64) b0), (.v (.arr 32 (.int .u8)) b02), (.v (.arr 16 (.int .u32)) b03), (.v (.slice t10) b04)])))], 1, []⟩
def model_Check.L2 (t17_ : List t10.den) (t18_ t19_ b0 : Int) (b02 b03 : List Int) (b04 : List t10.den) : Option (Int × Unit) := res model_Check.c (atLoop model_Check.b [1, 1, 1, 0, 1, 0]) (model_Check.S2 t17_ t18_ t19_ b0 b02 b03 b04)
def model_Check.S3 (t17_ : List t10.den) (t18_ t19_ b0 : Int) (b02 b03 : List Int) (b04 : List t10.den) : St := ⟨[(1, (.ptr 0 [])), (3, (.fn 69 [(.ptr 0 [])])), (17, (.v (.slice t10) t17_)), (18, (.v (.int .i64) t18_)), (19, (.v (.int .i64) t19_))], [(0, some (.box (.agg [(.v (.int .u64) b0), (.v (.arr 32 (.int .u8)) b02), (.v (.arr 16 (.int .u32)) b03), (.v (.slice t10) b04)])))], 1, []⟩
def model_Check.L3 (t17_ : List t10.den) (t18_ t19_ b0 : Int) (b02 b03 : List Int) (b04 : List t10.den) : Option (Int × Unit) := res model_Check.c (atJoin model_Check.b [1, 1, 1, 0, 1, 0, 0, 1, 0]) (model_Check.S3 t17_ t18_ t19_ b0 b02 b03 b04)
def model_Check.S4 (t17_ : List t10.den) (t18_ t19_ b0 : Int) (b02 b03 : List Int) (b04 : List t10.den) : St := ⟨[(1, (.ptr 0 [])), (3, (.fn 69 [(.ptr 0 [])])), (17, (.v (.slice t10) t17_)), (18, (.v (.int .i64) t18_)), (19, (.v (.int .i64) t19_))], [(0, some (.box (.agg [(.v (.int .u64) b0), (.v (.arr 32 (.int .u8)) b02), (.v (.arr 16 (.int .u32)) b03), (.v (.slice t10) b04)])))], 1, []⟩
def model_Check.L4 (t17_ : List t10.den) (t18_ t19_ b0 : Int) (b02 b03 : List Int) (b04 : List t10.den) : Option (Int × Unit) := res model_Check.c (atJoin model_Check.b [1, 1, 1, 0, 1, 0, 0, 1, 1, 0, 0, 1, 1]) (model_Check.S4 t17_ t18_ t19_ b0 b02 b03 b04)
theorem model_Check.spec : FnSpec Tryz.prog globs 46 model_Check.Fn := spec_of (E := model_Check.E) (envOk_at tabOk eqOk primsOk (.cons slices_ContainsFunc_67.spec <| .cons model_Check_1.spec <| .cons model_Check_2.spec <| .cons model_valid.spec <| .cons slices_ContainsFunc_71.spec <| .nil)) mixOk Tryz.func46 (by kernel_rfl)
theorem model_Check.L1_eq (b0 : Int) (b02 b03 : List Int) (b04 : List t10.den) : model_Check.L1 b0 b02 b03 b04 =
 model_Check.L2 b04 ((List.length b04 : Int)) 0 b0 b02 b03 b04 := res_eq (by kernel_rfl)
theorem model_Check.L2_eq (t17_ : List t10.den) (t18_ t19_ b0 : Int) (b02 b03 : List Int) (b04 : List t10.den) : model_Check.L2 t17_ t18_ t19_ b0 b02 b03 b04 =
 bif (decide ((t19_ : Int) < t18_)) then
  model_Check.L3 t17_ t18_ t19_ b0 b02 b03 b04
 else
  some (0, ()) := res_eq (by kernel_rfl)
theorem model_Check.L3_eq (t17_ : List t10.den) (t18_ t19_ b0 : Int) (b02 b03 : List Int) (b04 : List t10.den) : model_Check.L3 t17_ t18_ t19_ b0 b02 b03 b04 =
 bif (decide ((0 : Int) ≤ t19_ ∧ (t19_ : Int) < ((List.length t17_ : Int)))) then
  (model_valid.F (List.getD t17_ (Int.toNat t19_) d10_)).bind fun r0 =>
  bif (!r0.1) then
   some (8, ())
  else
   bif (decide (((((((((((List.getD t17_ (Int.toNat t19_) d10_).2).2).2).1).2).2).2).1) : Int) > b0)) then
    some (8, ())
   else
    (slices_ContainsFunc_71.F ((((((List.getD t17_ (Int.toNat t19_) d10_).2).2).2).2).1) (b0, b02, b03, b04, ())).bind fun r1 =>
    bif r1.2.1 then
     some (8, ())
    else
     (slices_ContainsFunc_71.F (((((((List.getD t17_ (Int.toNat t19_) d10_).2).2).2).2).2).1) r1.1).bind fun r2 =>
     bif r2.2.1 then
      some (8, ())
     else
      bif (decide ((t19_ : Int) > 0)) then
       bif (decide ((0 : Int) ≤ (IntKind.wrap .i64 (t19_ - 1)) ∧ ((IntKind.wrap .i64 (t19_ - 1)) : Int) < ((List.length r2.1.2.2.2.1 : Int)))) then
        bif (decide ((((List.getD r2.1.2.2.2.1 (Int.toNat (IntKind.wrap .i64 (t19_ - 1))) d10_).1) : Int) ≥ ((List.getD t17_ (Int.toNat t19_) d10_).1))) then
         some (8, ())
        else
         model_Check.L4 t17_ t18_ t19_ r2.1.1 r2.1.2.1 r2.1.2.2.1 r2.1.2.2.2.1
       else none
      else
       model_Check.L4 t17_ t18_ t19_ r2.1.1 r2.1.2.1 r2.1.2.2.1 r2.1.2.2.2.1
 else none := res_eq (by kernel_rfl)
theorem model_Check.L4_eq (t17_ : List t10.den) (t18_ t19_ b0 : Int) (b02 b03 : List Int) (b04 : List t10.den) : model_Check.L4 t17_ t18_ t19_ b0 b02 b03 b04 =
 model_Check.L2 t17_ t18_ (IntKind.wrap .i64 (t19_ + 1)) b0 b02 b03 b04 := res_eq (by kernel_rfl)
theorem model_Check.F_eq (m : t11.den) : model_Check.F m =
 bif (decide ((((List.length m.2.2.2.1 : Int)) : Int) > 8)) then
  some (8, ())
 else
  bif (decide ((0 : Int) ≤ 0 ∧ (0 : Int) ≤ 16 ∧ (16 : Int) ≤ 16)) then
   (slices_ContainsFunc_67.F (List.take ((Int.toNat 16) - (Int.toNat 0)) (List.drop (Int.toNat 0) m.2.2.1))).bind fun r0 =>
   bif r0.1 then
    some (8, ())
   else
    model_Check.L1 m.1 m.2.1 m.2.2.1 m.2.2.2.1
  else none := by kernel_rfl
/-! ### spigot/refine.Build (24) -/
def refine_Build.sg : Sig := ⟨[.val t11], [(t8, true), ((.int .i64), true)]⟩
def refine_Build.E : Env := ⟨tl, fun i => look i [(46, model_Check.Fn), (47, refine_tabled.Fn)], [], eqs, globs, prims⟩
def refine_Build.c := cxOf refine_Build.E refine_Build.sg Tryz.f24
def refine_Build.b := body Tryz.f24
def refine_Build.Fn : Fun := fnOf refine_Build.E refine_Build.sg Tryz.f24
def refine_Build.F (m : t11.den) : Option (t8.den × Int × Unit) := refine_Build.Fn.F (m, ())
def refine_Build.S1 (b0 : Int) (b02 b03 : List Int) (b04 : List t10.den) (b1 b12 : List Int) (l2 : List t7.den) : St := ⟨[(1, (.ptr 0 [])), (2, (.ptr 1 []))], [(0, some (.box (.agg [(.v (.int .u64) b0), (.v (.arr 32 (.int .u8)) b02), (.v (.arr 16 (.int .u32)) b03), (.v (.slice t10) b04)]))), (1, some (.box (.agg [(.v (.int .u64) 0), (.v (.arr 32 (.int .u8)) b1), (.v (.arr 16 (.int .u32)) b12), (.sl 2)]))), (2, some (.row t7 l2 false))], 3, []⟩
def refine_Build.L1 (b0 : Int) (b02 b03 : List Int) (b04 : List t10.den) (b1 b12 : List Int) (l2 : List t7.den) : Option (t8.den × Int × Unit) := res refine_Build.c (atJoin refine_Build.b [1, 0, 1, 1]) (refine_Build.S1 b0 b02 b03 b04 b1 b12 l2)
def refine_Build.S2 (t22_ : List t10.den) (t23_ t24_ : Int) (b0 b02 : List Int) (b1 : Int) (b12 b13 : List Int) (l2 l3 : List t7.den) : St := ⟨[(2, (.ptr 0 [])), (5, (.ptr 1 [])), (22, (.v (.slice t10) t22_)), (23, (.v (.int .i64) t23_)), (24, (.v (.int .i64) t24_))], [(0, some (.box (.agg [(.v (.int .u64) 0), (.v (.arr 32 (.int .u8)) b0), (.v (.arr 16 (.int .u32)) b02), (.sl 2)]))), (1, some (.box (.agg [(.v (.int .u64) b1), (.v (.arr 32 (.int .u8)) b12), (.v (.arr 16 (.int .u32)) b13), (.sl 3)]))), (2, some (.row t7 l2 false)), (3, some (.row t7 l3 false))], 4, []⟩
def refine_Build.L2 (t22_ : List t10.den) (t23_ t24_ : Int) (b0 b02 : List Int) (b1 : Int) (b12 b13 : List Int) (l2 l3 : List t7.den) : Option (t8.den × Int × Unit) := res refine_Build.c (atLoop refine_Build.b [1, 1, 1, 0, 1, 0]) (refine_Build.S2 t22_ t23_ t24_ b0 b02 b1 b12 b13 l2 l3)
def refine_Build.S3 (t22_ : List t10.den) (t23_ t24_ : Int) (b0 b02 : List Int) (b1 : Int) (b12 b13 : List Int) (l2 l3 : List t7.den) : St := ⟨[(2, (.ptr 0 [])), (5, (.ptr 1 [])), (22, (.v (.slice t10) t22_)), (23, (.v (.int .i64) t23_)), (24, (.v (.int .i64) t24_))], [(0, some (.box (.agg [(.v (.int .u64) 0), (.v (.arr 32 (.int .u8)) b0), (.v (.arr 16 (.int .u32)) b02), (.sl 2)]))), (1, some (.box (.agg [(.v (.int .u64) b1), (.v (.arr 32 (.int .u8)) b12), (.v (.arr 16 (.int .u32)) b13), (.sl 3)]))), (2, some (.row t7 l2 false)), (3, some (.row t7 l3 false))], 4, []⟩
def refine_Build.L3 (t22_ : List t10.den) (t23_ t24_ : Int) (b0 b02 : List Int) (b1 : Int) (b12 b13 : List Int) (l2 l3 : List t7.den) : Option (t8.den × Int × Unit) := res refine_Build.c (atJoin refine_Build.b [1, 1, 1, 0, 1, 0, 0, 1, 0]) (refine_Build.S3 t22_ t23_ t24_ b0 b02 b1 b12 b13 l2 l3)
theorem refine_Build.spec : FnSpec Tryz.prog globs 24 refine_Build.Fn := spec_of (E := refine_Build.E) (envOk_at tabOk eqOk primsOk (.cons model_Check.spec <| .cons refine_tabled.spec <| .nil)) mixOk Tryz.func24 (by kernel_rfl)
theorem refine_Build.L1_eq (b0 : Int) (b02 b03 : List Int) (b04 : List t10.den) (b1 b12 : List Int) (l2 : List t7.den) : refine_Build.L1 b0 b02 b03 b04 b1 b12 l2 =
 refine_Build.L2 b04 ((List.length b04 : Int)) 0 b1 b12 b0 b02 b03 l2 ([] : List t7.den) := res_eq (by kernel_rfl)
theorem refine_Build.L2_eq (t22_ : List t10.den) (t23_ t24_ : Int) (b0 b02 : List Int) (b1 : Int) (b12 b13 : List Int) (l2 l3 : List t7.den) : refine_Build.L2 t22_ t23_ t24_ b0 b02 b1 b12 b13 l2 l3 =
 bif (decide ((t24_ : Int) < t23_)) then
  refine_Build.L3 t22_ t23_ t24_ b0 b02 b1 b12 b13 l2 l3
 else
  some ((b1, b12, b13, l3, ()), 0, ()) := res_eq (by kernel_rfl)
theorem refine_Build.L3_eq (t22_ : List t10.den) (t23_ t24_ : Int) (b0 b02 : List Int) (b1 : Int) (b12 b13 : List Int) (l2 l3 : List t7.den) : refine_Build.L3 t22_ t23_ t24_ b0 b02 b1 b12 b13 l2 l3 =
 bif (decide ((0 : Int) ≤ t24_ ∧ (t24_ : Int) < ((List.length t22_ : Int)))) then
  bif (decide ((0 : Int) ≤ 0 ∧ (0 : Int) < 2)) then
   bif (decide ((0 : Int) ≤ 1 ∧ (1 : Int) < 3)) then
    (refine_tabled.F ((((((List.getD t22_ (Int.toNat t24_) d10_).2).2).2).2).1) (List.getD ((((List.getD t22_ (Int.toNat t24_) d10_).2).2).1) (Int.toNat 0) 0) (List.getD (((List.getD t22_ (Int.toNat t24_) d10_).2).1) (Int.toNat 1) (0, 0, 0, ()))).bind fun r0 =>
    bif (decide ((0 : Int) ≤ 1 ∧ (1 : Int) < 2)) then
     bif (decide ((0 : Int) ≤ 2 ∧ (2 : Int) < 3)) then
      (refine_tabled.F (((((((List.getD t22_ (Int.toNat t24_) d10_).2).2).2).2).2).1) (List.getD ((((List.getD t22_ (Int.toNat t24_) d10_).2).2).1) (Int.toNat 1) 0) (List.getD (((List.getD t22_ (Int.toNat t24_) d10_).2).1) (Int.toNat 2) (0, 0, 0, ()))).bind fun r1 =>
      bif (lim (List.length ((((((((List.getD t22_ (Int.toNat t24_) d10_).2).2).2).2).2).2).1)) (.int .u32)) then
       bif (lim ((List.length l3) + (List.length ([((List.getD t22_ (Int.toNat t24_) d10_).1, ((List.getD t22_ (Int.toNat t24_) d10_).2).1, ((((List.getD t22_ (Int.toNat t24_) d10_).2).2).2).1, r0.1, r1.1, (((((((List.getD t22_ (Int.toNat t24_) d10_).2).2).2).2).2).2).1, ((((((((List.getD t22_ (Int.toNat t24_) d10_).2).2).2).2).2).2).2).1, ())] : List t7.den))) t7) then
        refine_Build.L2 t22_ t23_ (IntKind.wrap .i64 (t24_ + 1)) b0 b02 b1 b12 b13 l2 (l3 ++ ([((List.getD t22_ (Int.toNat t24_) d10_).1, ((List.getD t22_ (Int.toNat t24_) d10_).2).1, ((((List.getD t22_ (Int.toNat t24_) d10_).2).2).2).1, r0.1, r1.1, (((((((List.getD t22_ (Int.toNat t24_) d10_).2).2).2).2).2).2).1, ((((((((List.getD t22_ (Int.toNat t24_) d10_).2).2).2).2).2).2).2).1, ())] : List t7.den))
       else none
      else none
     else none
    else none
   else none
  else none
 else none := res_eq (by kernel_rfl)
theorem refine_Build.F_eq (m : t11.den) : refine_Build.F m =
 (model_Check.F m).bind fun r0 =>
 bif (r0.1 != 0) then
  some ((0, (List.replicate 32 (0 : Int)), (List.replicate 16 (0 : Int)), ([] : List t7.den), ()), r0.1, ())
 else
  refine_Build.L1 m.1 m.2.1 m.2.2.1 m.2.2.2.1 (List.replicate 32 (0 : Int)) (List.replicate 16 (0 : Int)) ([] : List t7.den) := by kernel_rfl
/-! ### spigot/image.Parse (7) -/
def image_Parse.sg : Sig := ⟨[.val (.slice (.int .u8))], [(t8, true), ((.int .i64), true)]⟩
def image_Parse.E : Env := ⟨tl, fun i => look i [(22, image_reader_get.Fn), (23, image_reader_account.Fn), (24, refine_Build.Fn)], [], eqs, globs, prims⟩
def image_Parse.c := cxOf image_Parse.E image_Parse.sg Tryz.f7
def image_Parse.b := body Tryz.f7
def image_Parse.Fn : Fun := fnOf image_Parse.E image_Parse.sg Tryz.f7
def image_Parse.F (b : List Int) : Option (t8.den × Int × Unit) := image_Parse.Fn.F (b, ())
def image_Parse.S1 (b b0 b02 : List Int) (l1 : List t7.den) : St := ⟨[(0, (.v (.slice (.int .u8)) b)), (2, (.ptr 0 []))], [(0, some (.box (.agg [(.v (.int .u64) 0), (.v (.arr 32 (.int .u8)) b0), (.v (.arr 16 (.int .u32)) b02), (.sl 1)]))), (1, some (.row t7 l1 false))], 2, []⟩
def image_Parse.L1 (b b0 b02 : List Int) (l1 : List t7.den) : Option (t8.den × Int × Unit) := res image_Parse.c (atJoin image_Parse.b [1, 0, 1]) (image_Parse.S1 b b0 b02 l1)
def image_Parse.S2 (t21_ : Int) (b0 b02 b1 : List Int) (b12 : Bool) (b2 : Int) (b22 b23 : List Int) (l3 : List t7.den) (l4 : List t10.den) : St := ⟨[(2, (.ptr 0 [])), (4, (.ptr 1 [])), (5, (.ptr 2 [])), (21, (.v (.int .i64) t21_))], [(0, some (.box (.agg [(.v (.int .u64) 0), (.v (.arr 32 (.int .u8)) b0), (.v (.arr 16 (.int .u32)) b02), (.sl 3)]))), (1, some (.box (.agg [(.v (.slice (.int .u8)) b1), (.v .bool b12)]))), (2, some (.box (.agg [(.v (.int .u64) b2), (.v (.arr 32 (.int .u8)) b22), (.v (.arr 16 (.int .u32)) b23), (.sl 4)]))), (3, some (.row t7 l3 false)), (4, some (.row t10 l4 false))], 5, []⟩
def image_Parse.L2 (t21_ : Int) (b0 b02 b1 : List Int) (b12 : Bool) (b2 : Int) (b22 b23 : List Int) (l3 : List t7.den) (l4 : List t10.den) : Option (t8.den × Int × Unit) := res image_Parse.c (atLoop image_Parse.b [1, 1, 1, 1, 0, 1, 0]) (image_Parse.S2 t21_ b0 b02 b1 b12 b2 b22 b23 l3 l4)
def image_Parse.S3 (t21_ : Int) (b0 b02 b1 : List Int) (b12 : Bool) (b2 : Int) (b22 b23 : List Int) (l3 : List t7.den) (l4 : List t10.den) : St := ⟨[(2, (.ptr 0 [])), (4, (.ptr 1 [])), (5, (.ptr 2 [])), (21, (.v (.int .i64) t21_))], [(0, some (.box (.agg [(.v (.int .u64) 0), (.v (.arr 32 (.int .u8)) b0), (.v (.arr 16 (.int .u32)) b02), (.sl 3)]))), (1, some (.box (.agg [(.v (.slice (.int .u8)) b1), (.v .bool b12)]))), (2, some (.box (.agg [(.v (.int .u64) b2), (.v (.arr 32 (.int .u8)) b22), (.v (.arr 16 (.int .u32)) b23), (.sl 4)]))), (3, some (.row t7 l3 false)), (4, some (.row t10 l4 false))], 5, []⟩
def image_Parse.L3 (t21_ : Int) (b0 b02 b1 : List Int) (b12 : Bool) (b2 : Int) (b22 b23 : List Int) (l3 : List t7.den) (l4 : List t10.den) : Option (t8.den × Int × Unit) := res image_Parse.c (atJoin image_Parse.b [1, 1, 1, 1, 0, 1, 0, 0, 1, 0]) (image_Parse.S3 t21_ b0 b02 b1 b12 b2 b22 b23 l3 l4)
def image_Parse.S4 (t31_ : Int) (b0 b02 b1 : List Int) (b12 : Bool) (b2 : Int) (b22 b23 : List Int) (l3 : List t7.den) (l4 : List t10.den) : St := ⟨[(2, (.ptr 0 [])), (4, (.ptr 1 [])), (5, (.ptr 2 [])), (31, (.v (.int .i64) t31_))], [(0, some (.box (.agg [(.v (.int .u64) 0), (.v (.arr 32 (.int .u8)) b0), (.v (.arr 16 (.int .u32)) b02), (.sl 3)]))), (1, some (.box (.agg [(.v (.slice (.int .u8)) b1), (.v .bool b12)]))), (2, some (.box (.agg [(.v (.int .u64) b2), (.v (.arr 32 (.int .u8)) b22), (.v (.arr 16 (.int .u32)) b23), (.sl 4)]))), (3, some (.row t7 l3 false)), (4, some (.row t10 l4 false))], 5, []⟩
def image_Parse.L4 (t31_ : Int) (b0 b02 b1 : List Int) (b12 : Bool) (b2 : Int) (b22 b23 : List Int) (l3 : List t7.den) (l4 : List t10.den) : Option (t8.den × Int × Unit) := res image_Parse.c (atLoop image_Parse.b [1, 1, 1, 1, 1, 0, 1, 0]) (image_Parse.S4 t31_ b0 b02 b1 b12 b2 b22 b23 l3 l4)
def image_Parse.S5 (t31_ : Int) (b0 b02 b1 : List Int) (b12 : Bool) (b2 : Int) (b22 b23 : List Int) (l3 : List t7.den) (l4 : List t10.den) : St := ⟨[(2, (.ptr 0 [])), (4, (.ptr 1 [])), (5, (.ptr 2 [])), (31, (.v (.int .i64) t31_))], [(0, some (.box (.agg [(.v (.int .u64) 0), (.v (.arr 32 (.int .u8)) b0), (.v (.arr 16 (.int .u32)) b02), (.sl 3)]))), (1, some (.box (.agg [(.v (.slice (.int .u8)) b1), (.v .bool b12)]))), (2, some (.box (.agg [(.v (.int .u64) b2), (.v (.arr 32 (.int .u8)) b22), (.v (.arr 16 (.int .u32)) b23), (.sl 4)]))), (3, some (.row t7 l3 false)), (4, some (.row t10 l4 false))], 5, []⟩
def image_Parse.L5 (t31_ : Int) (b0 b02 b1 : List Int) (b12 : Bool) (b2 : Int) (b22 b23 : List Int) (l3 : List t7.den) (l4 : List t10.den) : Option (t8.den × Int × Unit) := res image_Parse.c (atJoin image_Parse.b [1, 1, 1, 1, 1, 0, 1, 0, 0, 1, 0]) (image_Parse.S5 t31_ b0 b02 b1 b12 b2 b22 b23 l3 l4)
def image_Parse.S6 (n : Int) (b0 b02 b1 : List Int) (b12 : Bool) (b2 : Int) (b22 b23 : List Int) (l3 : List t7.den) (l4 : List t10.den) : St := ⟨[(2, (.ptr 0 [])), (4, (.ptr 1 [])), (5, (.ptr 2 [])), (8, (.v (.int .u64) n))], [(0, some (.box (.agg [(.v (.int .u64) 0), (.v (.arr 32 (.int .u8)) b0), (.v (.arr 16 (.int .u32)) b02), (.sl 3)]))), (1, some (.box (.agg [(.v (.slice (.int .u8)) b1), (.v .bool b12)]))), (2, some (.box (.agg [(.v (.int .u64) b2), (.v (.arr 32 (.int .u8)) b22), (.v (.arr 16 (.int .u32)) b23), (.sl 4)]))), (3, some (.row t7 l3 false)), (4, some (.row t10 l4 false))], 5, []⟩
def image_Parse.L6 (n : Int) (b0 b02 b1 : List Int) (b12 : Bool) (b2 : Int) (b22 b23 : List Int) (l3 : List t7.den) (l4 : List t10.den) : Option (t8.den × Int × Unit) := res image_Parse.c (atLoop image_Parse.b [1, 1, 1, 1, 1, 1, 0, 1, 0]) (image_Parse.S6 n b0 b02 b1 b12 b2 b22 b23 l3 l4)
def image_Parse.S7 (n : Int) (b0 b02 b1 : List Int) (b12 : Bool) (b2 : Int) (b22 b23 : List Int) (l3 : List t7.den) (l4 : List t10.den) : St := ⟨[(2, (.ptr 0 [])), (4, (.ptr 1 [])), (5, (.ptr 2 [])), (8, (.v (.int .u64) n))], [(0, some (.box (.agg [(.v (.int .u64) 0), (.v (.arr 32 (.int .u8)) b0), (.v (.arr 16 (.int .u32)) b02), (.sl 3)]))), (1, some (.box (.agg [(.v (.slice (.int .u8)) b1), (.v .bool b12)]))), (2, some (.box (.agg [(.v (.int .u64) b2), (.v (.arr 32 (.int .u8)) b22), (.v (.arr 16 (.int .u32)) b23), (.sl 4)]))), (3, some (.row t7 l3 false)), (4, some (.row t10 l4 false))], 5, []⟩
def image_Parse.L7 (n : Int) (b0 b02 b1 : List Int) (b12 : Bool) (b2 : Int) (b22 b23 : List Int) (l3 : List t7.den) (l4 : List t10.den) : Option (t8.den × Int × Unit) := res image_Parse.c (atJoin image_Parse.b [1, 1, 1, 1, 1, 1, 0, 1, 0, 0, 0, 1]) (image_Parse.S7 n b0 b02 b1 b12 b2 b22 b23 l3 l4)
def image_Parse.S8 (b0 b02 : List Int) (b1 : Int) (b12 b13 : List Int) (l2 : List t7.den) (l3 : List t10.den) : St := ⟨[(2, (.ptr 0 [])), (5, (.ptr 1 []))], [(0, some (.box (.agg [(.v (.int .u64) 0), (.v (.arr 32 (.int .u8)) b0), (.v (.arr 16 (.int .u32)) b02), (.sl 2)]))), (1, some (.box (.agg [(.v (.int .u64) b1), (.v (.arr 32 (.int .u8)) b12), (.v (.arr 16 (.int .u32)) b13), (.sl 3)]))), (2, some (.row t7 l2 false)), (3, some (.row t10 l3 false))], 4, []⟩
def image_Parse.L8 (b0 b02 : List Int) (b1 : Int) (b12 b13 : List Int) (l2 : List t7.den) (l3 : List t10.den) : Option (t8.den × Int × Unit) := res image_Parse.c (atJoin image_Parse.b [1, 1, 1, 1, 1, 1, 1, 0, 1]) (image_Parse.S8 b0 b02 b1 b12 b13 l2 l3)
def image_Parse.S9 (b0 b02 : List Int) (b1 : Int) (b12 b13 : List Int) (l2 l3 : List t7.den) : St := ⟨[(2, (.ptr 0 [])), (9, (.ptr 1 []))], [(0, some (.box (.agg [(.v (.int .u64) 0), (.v (.arr 32 (.int .u8)) b0), (.v (.arr 16 (.int .u32)) b02), (.sl 2)]))), (1, some (.box (.agg [(.v (.int .u64) b1), (.v (.arr 32 (.int .u8)) b12), (.v (.arr 16 (.int .u32)) b13), (.sl 3)]))), (2, some (.row t7 l2 false)), (3, some (.row t7 l3 false))], 4, []⟩
def image_Parse.L9 (b0 b02 : List Int) (b1 : Int) (b12 b13 : List Int) (l2 l3 : List t7.den) : Option (t8.den × Int × Unit) := res image_Parse.c (atJoin image_Parse.b [1, 1, 1, 1, 1, 1, 1, 1, 1, 0, 1]) (image_Parse.S9 b0 b02 b1 b12 b13 l2 l3)
theorem image_Parse.spec : FnSpec Tryz.prog globs 7 image_Parse.Fn := spec_of (E := image_Parse.E) (envOk_at tabOk eqOk primsOk (.cons image_reader_get.spec <| .cons image_reader_account.spec <| .cons refine_Build.spec <| .nil)) mixOk Tryz.func7 (by kernel_rfl)
theorem image_Parse.L1_eq (b b0 b02 : List Int) (l1 : List t7.den) : image_Parse.L1 b b0 b02 l1 =
 (image_reader_get.F (b, false, ()) 8).bind fun r0 =>
 image_Parse.L2 0 b0 b02 r0.1.1 r0.1.2.1 r0.2.1 (List.replicate 32 (0 : Int)) (List.replicate 16 (0 : Int)) l1 ([] : List t10.den) := res_eq (by kernel_rfl)
theorem image_Parse.L2_eq (t21_ : Int) (b0 b02 b1 : List Int) (b12 : Bool) (b2 : Int) (b22 b23 : List Int) (l3 : List t7.den) (l4 : List t10.den) : image_Parse.L2 t21_ b0 b02 b1 b12 b2 b22 b23 l3 l4 =
 bif (decide ((t21_ : Int) < 32)) then
  image_Parse.L3 t21_ b0 b02 b1 b12 b2 b22 b23 l3 l4
 else
  image_Parse.L4 0 b0 b02 b1 b12 b2 b22 b23 l3 l4 := res_eq (by kernel_rfl)
theorem image_Parse.L3_eq (t21_ : Int) (b0 b02 b1 : List Int) (b12 : Bool) (b2 : Int) (b22 b23 : List Int) (l3 : List t7.den) (l4 : List t10.den) : image_Parse.L3 t21_ b0 b02 b1 b12 b2 b22 b23 l3 l4 =
 (image_reader_get.F (b1, b12, ()) 1).bind fun r0 =>
 bif (decide ((0 : Int) ≤ t21_ ∧ (t21_ : Int) < 32)) then
  image_Parse.L2 (IntKind.wrap .i64 (t21_ + 1)) b0 b02 r0.1.1 r0.1.2.1 b2 (List.set b22 (Int.toNat t21_) (IntKind.wrap .u8 r0.2.1)) b23 l3 l4
 else none := res_eq (by kernel_rfl)
theorem image_Parse.L4_eq (t31_ : Int) (b0 b02 b1 : List Int) (b12 : Bool) (b2 : Int) (b22 b23 : List Int) (l3 : List t7.den) (l4 : List t10.den) : image_Parse.L4 t31_ b0 b02 b1 b12 b2 b22 b23 l3 l4 =
 bif (decide ((t31_ : Int) < 16)) then
  image_Parse.L5 t31_ b0 b02 b1 b12 b2 b22 b23 l3 l4
 else
  (image_reader_get.F (b1, b12, ()) 1).bind fun r0 =>
  image_Parse.L6 r0.2.1 b0 b02 r0.1.1 r0.1.2.1 b2 b22 b23 l3 l4 := res_eq (by kernel_rfl)
theorem image_Parse.L5_eq (t31_ : Int) (b0 b02 b1 : List Int) (b12 : Bool) (b2 : Int) (b22 b23 : List Int) (l3 : List t7.den) (l4 : List t10.den) : image_Parse.L5 t31_ b0 b02 b1 b12 b2 b22 b23 l3 l4 =
 (image_reader_get.F (b1, b12, ()) 4).bind fun r0 =>
 bif (decide ((0 : Int) ≤ t31_ ∧ (t31_ : Int) < 16)) then
  image_Parse.L4 (IntKind.wrap .i64 (t31_ + 1)) b0 b02 r0.1.1 r0.1.2.1 b2 b22 (List.set b23 (Int.toNat t31_) (IntKind.wrap .u32 r0.2.1)) l3 l4
 else none := res_eq (by kernel_rfl)
theorem image_Parse.L6_eq (n : Int) (b0 b02 b1 : List Int) (b12 : Bool) (b2 : Int) (b22 b23 : List Int) (l3 : List t7.den) (l4 : List t10.den) : image_Parse.L6 n b0 b02 b1 b12 b2 b22 b23 l3 l4 =
 bif (decide ((n : Int) > 0)) then
  bif (!b12) then
   image_Parse.L7 n b0 b02 b1 b12 b2 b22 b23 l3 l4
  else
   bif b12 then
    some ((0, (List.replicate 32 (0 : Int)), (List.replicate 16 (0 : Int)), ([] : List t7.den), ()), 12, ())
   else
    bif (decide ((((List.length b1 : Int)) : Int) > 0)) then
     some ((0, (List.replicate 32 (0 : Int)), (List.replicate 16 (0 : Int)), ([] : List t7.den), ()), 12, ())
    else
     image_Parse.L8 b0 b02 b2 b22 b23 l3 l4
 else
  bif b12 then
   some ((0, (List.replicate 32 (0 : Int)), (List.replicate 16 (0 : Int)), ([] : List t7.den), ()), 12, ())
  else
   bif (decide ((((List.length b1 : Int)) : Int) > 0)) then
    some ((0, (List.replicate 32 (0 : Int)), (List.replicate 16 (0 : Int)), ([] : List t7.den), ()), 12, ())
   else
    image_Parse.L8 b0 b02 b2 b22 b23 l3 l4 := res_eq (by kernel_rfl)
theorem image_Parse.L7_eq (n : Int) (b0 b02 b1 : List Int) (b12 : Bool) (b2 : Int) (b22 b23 : List Int) (l3 : List t7.den) (l4 : List t10.den) : image_Parse.L7 n b0 b02 b1 b12 b2 b22 b23 l3 l4 =
 (image_reader_account.F (b1, b12, ())).bind fun r0 =>
 bif (lim ((List.length l4) + (List.length ([r0.2.1] : List t10.den))) t10) then
  image_Parse.L6 (IntKind.wrap .u64 (n - 1)) b0 b02 r0.1.1 r0.1.2.1 b2 b22 b23 l3 (l4 ++ ([r0.2.1] : List t10.den))
 else none := res_eq (by kernel_rfl)
theorem image_Parse.L8_eq (b0 b02 : List Int) (b1 : Int) (b12 b13 : List Int) (l2 : List t7.den) (l3 : List t10.den) : image_Parse.L8 b0 b02 b1 b12 b13 l2 l3 =
 (refine_Build.F (b1, b12, b13, l3, ())).bind fun r0 =>
 bif (r0.2.1 != 0) then
  some ((0, (List.replicate 32 (0 : Int)), (List.replicate 16 (0 : Int)), ([] : List t7.den), ()), 12, ())
 else
  image_Parse.L9 b0 b02 r0.1.1 r0.1.2.1 r0.1.2.2.1 l2 r0.1.2.2.2.1 := res_eq (by kernel_rfl)
theorem image_Parse.L9_eq (b0 b02 : List Int) (b1 : Int) (b12 b13 : List Int) (l2 l3 : List t7.den) : image_Parse.L9 b0 b02 b1 b12 b13 l2 l3 =
 some ((b1, b12, b13, l3, ()), 0, ()) := res_eq (by kernel_rfl)
theorem image_Parse.F_eq (b : List Int) : image_Parse.F b =
 bif (decide ((((List.length b : Int)) : Int) > 5000)) then
  some ((0, (List.replicate 32 (0 : Int)), (List.replicate 16 (0 : Int)), ([] : List t7.den), ()), 4, ())
 else
  image_Parse.L1 b (List.replicate 32 (0 : Int)) (List.replicate 16 (0 : Int)) ([] : List t7.den) := by kernel_rfl
/-! ### spigot/spigotref03.CheckLimit (76) -/
def spigotref03_CheckLimit.sg : Sig := ⟨[.val t0], [((.int .i64), true)]⟩
def spigotref03_CheckLimit.E : Env := ⟨tl, fun i => look i [], [], eqs, globs, prims⟩
def spigotref03_CheckLimit.c := cxOf spigotref03_CheckLimit.E spigotref03_CheckLimit.sg Tryz.f76
def spigotref03_CheckLimit.b := body Tryz.f76
def spigotref03_CheckLimit.Fn : Fun := fnOf spigotref03_CheckLimit.E spigotref03_CheckLimit.sg Tryz.f76
def spigotref03_CheckLimit.F (l : t0.den) : Option (Int × Unit) := spigotref03_CheckLimit.Fn.F (l, ())
def spigotref03_CheckLimit.S1 : St := ⟨[], [], 0, []⟩
def spigotref03_CheckLimit.L1 : Option (Int × Unit) := res spigotref03_CheckLimit.c (atJoin spigotref03_CheckLimit.b [1, 0, 1]) (spigotref03_CheckLimit.S1)
theorem spigotref03_CheckLimit.spec : FnSpec Tryz.prog globs 76 spigotref03_CheckLimit.Fn := spec_of (E := spigotref03_CheckLimit.E) (envOk_at tabOk eqOk primsOk (.nil)) mixOk Tryz.func76 (by kernel_rfl)
theorem spigotref03_CheckLimit.L1_eq : spigotref03_CheckLimit.L1 =
 some (0, ()) := res_eq (by kernel_rfl)
theorem spigotref03_CheckLimit.F_eq (l : t0.den) : spigotref03_CheckLimit.F l =
 bif (decide ((l.1 : Int) < 1)) then
  some (8, ())
 else
  bif (decide ((l.1 : Int) > 1000000000)) then
   some (8, ())
  else
   bif (decide ((l.2.1 : Int) < 0)) then
    some (8, ())
   else
    bif (decide ((l.2.1 : Int) > 1000000000)) then
     some (8, ())
    else
     bif (decide ((l.2.2.1 : Int) < 1)) then
      some (8, ())
     else
      bif (decide ((l.2.2.1 : Int) > 1000000000)) then
       some (8, ())
      else
       spigotref03_CheckLimit.L1 := by kernel_rfl
/-! ### spigot/spigotref13.New (89) -/
def spigotref13_New.sg : Sig := ⟨[.val (.int .i64)], [(t2, true), ((.int .i64), true)]⟩
def spigotref13_New.E : Env := ⟨tl, fun i => look i [], [], eqs, globs, prims⟩
def spigotref13_New.c := cxOf spigotref13_New.E spigotref13_New.sg Tryz.f89
def spigotref13_New.b := body Tryz.f89
def spigotref13_New.Fn : Fun := fnOf spigotref13_New.E spigotref13_New.sg Tryz.f89
def spigotref13_New.F (n : Int) : Option (t2.den × Int × Unit) := spigotref13_New.Fn.F (n, ())
def spigotref13_New.S1 (n : Int) (l1 : List Int) (l2 : List Bool) : St := ⟨[(0, (.v (.int .i64) n)), (2, (.ptr 0 []))], [(0, some (.box (.agg [(.sl 1), (.sl 2), (.v (.int .i64) 0)]))), (1, some (.row (.int .i64) l1 false)), (2, some (.row .bool l2 false))], 3, []⟩
def spigotref13_New.L1 (n : Int) (l1 : List Int) (l2 : List Bool) : Option (t2.den × Int × Unit) := res spigotref13_New.c (atJoin spigotref13_New.b [1, 0, 1]) (spigotref13_New.S1 n l1 l2)
def spigotref13_New.S2 (n i : Int) (l2 : List Int) (l3 : List Bool) (l4 : List Int) (l5 : List Bool) : St := ⟨[(0, (.v (.int .i64) n)), (2, (.ptr 0 [])), (4, (.ptr 1 [])), (5, (.v (.int .i64) i))], [(0, some (.box (.agg [(.sl 2), (.sl 3), (.v (.int .i64) 0)]))), (1, some (.box (.agg [(.sl 4), (.sl 5), (.v (.int .i64) 0)]))), (2, some (.row (.int .i64) l2 false)), (3, some (.row .bool l3 false)), (4, some (.row (.int .i64) l4 false)), (5, some (.row .bool l5 false))], 6, []⟩
def spigotref13_New.L2 (n i : Int) (l2 : List Int) (l3 : List Bool) (l4 : List Int) (l5 : List Bool) : Option (t2.den × Int × Unit) := res spigotref13_New.c (atLoop spigotref13_New.b [1, 1, 1, 0, 1, 0]) (spigotref13_New.S2 n i l2 l3 l4 l5)
def spigotref13_New.S3 (n i : Int) (l2 : List Int) (l3 : List Bool) (l4 : List Int) (l5 : List Bool) : St := ⟨[(0, (.v (.int .i64) n)), (2, (.ptr 0 [])), (4, (.ptr 1 [])), (5, (.v (.int .i64) i))], [(0, some (.box (.agg [(.sl 2), (.sl 3), (.v (.int .i64) 0)]))), (1, some (.box (.agg [(.sl 4), (.sl 5), (.v (.int .i64) 0)]))), (2, some (.row (.int .i64) l2 false)), (3, some (.row .bool l3 false)), (4, some (.row (.int .i64) l4 false)), (5, some (.row .bool l5 false))], 6, []⟩
def spigotref13_New.L3 (n i : Int) (l2 : List Int) (l3 : List Bool) (l4 : List Int) (l5 : List Bool) : Option (t2.den × Int × Unit) := res spigotref13_New.c (atJoin spigotref13_New.b [1, 1, 1, 0, 1, 0, 0, 0, 1]) (spigotref13_New.S3 n i l2 l3 l4 l5)
def spigotref13_New.S4 (n i : Int) (l2 : List Int) (l3 : List Bool) (l4 : List Int) (l5 : List Bool) : St := ⟨[(0, (.v (.int .i64) n)), (2, (.ptr 0 [])), (4, (.ptr 1 [])), (5, (.v (.int .i64) i))], [(0, some (.box (.agg [(.sl 2), (.sl 3), (.v (.int .i64) 0)]))), (1, some (.box (.agg [(.sl 4), (.sl 5), (.v (.int .i64) 0)]))), (2, some (.row (.int .i64) l2 false)), (3, some (.row .bool l3 false)), (4, some (.row (.int .i64) l4 false)), (5, some (.row .bool l5 false))], 6, []⟩
def spigotref13_New.L4 (n i : Int) (l2 : List Int) (l3 : List Bool) (l4 : List Int) (l5 : List Bool) : Option (t2.den × Int × Unit) := res spigotref13_New.c (atJoin spigotref13_New.b [1, 1, 1, 0, 1, 0, 0, 1, 0, 0, 0, 1]) (spigotref13_New.S4 n i l2 l3 l4 l5)
theorem spigotref13_New.spec : FnSpec Tryz.prog globs 89 spigotref13_New.Fn := spec_of (E := spigotref13_New.E) (envOk_at tabOk eqOk primsOk (.nil)) mixOk Tryz.func89 (by kernel_rfl)
theorem spigotref13_New.L1_eq (n : Int) (l1 : List Int) (l2 : List Bool) : spigotref13_New.L1 n l1 l2 =
 spigotref13_New.L2 n 0 l1 l2 ([] : List Int) ([] : List Bool) := res_eq (by kernel_rfl)
theorem spigotref13_New.L2_eq (n i : Int) (l2 : List Int) (l3 : List Bool) (l4 : List Int) (l5 : List Bool) : spigotref13_New.L2 n i l2 l3 l4 l5 =
 bif (decide ((i : Int) < n)) then
  spigotref13_New.L3 n i l2 l3 l4 l5
 else
  some ((l4, l5, 0, ()), 0, ()) := res_eq (by kernel_rfl)
theorem spigotref13_New.L3_eq (n i : Int) (l2 : List Int) (l3 : List Bool) (l4 : List Int) (l5 : List Bool) : spigotref13_New.L3 n i l2 l3 l4 l5 =
 bif (decide (((IntKind.wrap .i64 (i + 1)) : Int) < n)) then
  bif (lim ((List.length l4) + (List.length ([(IntKind.wrap .i64 (i + 1))] : List Int))) (.int .i64)) then
   spigotref13_New.L4 n i l2 l3 (l4 ++ ([(IntKind.wrap .i64 (i + 1))] : List Int)) l5
  else none
 else
  bif (lim ((List.length l4) + (List.length ([(-1)] : List Int))) (.int .i64)) then
   spigotref13_New.L4 n i l2 l3 (l4 ++ ([(-1)] : List Int)) l5
  else none := res_eq (by kernel_rfl)
theorem spigotref13_New.L4_eq (n i : Int) (l2 : List Int) (l3 : List Bool) (l4 : List Int) (l5 : List Bool) : spigotref13_New.L4 n i l2 l3 l4 l5 =
 bif (lim ((List.length l5) + (List.length ([false] : List Bool))) .bool) then
  spigotref13_New.L2 n (IntKind.wrap .i64 (i + 1)) l2 l3 l4 (l5 ++ ([false] : List Bool))
 else none := res_eq (by kernel_rfl)
theorem spigotref13_New.F_eq (n : Int) : spigotref13_New.F n =
 bif (decide ((n : Int) < 1)) then
  some ((([] : List Int), ([] : List Bool), 0, ()), 2, ())
 else
  bif (decide ((n : Int) > 16)) then
   some ((([] : List Int), ([] : List Bool), 0, ()), 2, ())
  else
   spigotref13_New.L1 n ([] : List Int) ([] : List Bool) := by kernel_rfl
/-! ### spigot/spigotref15.Made (132) -/
def spigotref15_Made.sg : Sig := ⟨[.val (.int .i64), .val (.slice (.int .i64))], [(t4, true)]⟩
def spigotref15_Made.E : Env := ⟨tl, fun i => look i [], [], eqs, globs, prims⟩
def spigotref15_Made.c := cxOf spigotref15_Made.E spigotref15_Made.sg Tryz.f132
def spigotref15_Made.b := body Tryz.f132
def spigotref15_Made.Fn : Fun := fnOf spigotref15_Made.E spigotref15_Made.sg Tryz.f132
def spigotref15_Made.F (n : Int) (l : List Int) : Option (t4.den × Unit) := spigotref15_Made.Fn.F (n, l, ())
def spigotref15_Made.S1 (n : Int) (l : List Int) (i : Int) (l2 l4 : List Int) : St := ⟨[(0, (.v (.int .i64) n)), (1, (.v (.slice (.int .i64)) l)), (4, (.ptr 0 [])), (5, (.ptr 1 [])), (6, (.v (.int .i64) i))], [(0, some (.box (.agg [(.sl 2), (.sl 3), (.v (.int .i64) 0), (.v (.int .i64) 0)]))), (1, some (.box (.agg [(.sl 4), (.sl 5), (.v (.int .i64) (-1)), (.v (.int .i64) (-1))]))), (2, some (.row (.int .i64) l2 false)), (3, some (.row (.int .i64) l2 false)), (4, some (.row (.int .i64) l4 false)), (5, some (.row (.int .i64) l4 false))], 6, []⟩
def spigotref15_Made.L1 (n : Int) (l : List Int) (i : Int) (l2 l4 : List Int) : Option (t4.den × Unit) := res spigotref15_Made.c (atLoop spigotref15_Made.b [1, 1, 0, 1, 0]) (spigotref15_Made.S1 n l i l2 l4)
def spigotref15_Made.S2 (n : Int) (l : List Int) (i : Int) (l2 l4 : List Int) : St := ⟨[(0, (.v (.int .i64) n)), (1, (.v (.slice (.int .i64)) l)), (4, (.ptr 0 [])), (5, (.ptr 1 [])), (6, (.v (.int .i64) i))], [(0, some (.box (.agg [(.sl 2), (.sl 3), (.v (.int .i64) 0), (.v (.int .i64) 0)]))), (1, some (.box (.agg [(.sl 4), (.sl 5), (.v (.int .i64) (-1)), (.v (.int .i64) (-1))]))), (2, some (.row (.int .i64) l2 false)), (3, some (.row (.int .i64) l2 false)), (4, some (.row (.int .i64) l4 false)), (5, some (.row (.int .i64) l4 false))], 6, []⟩
def spigotref15_Made.L2 (n : Int) (l : List Int) (i : Int) (l2 l4 : List Int) : Option (t4.den × Unit) := res spigotref15_Made.c (atJoin spigotref15_Made.b [1, 1, 0, 1, 0, 0, 0, 1]) (spigotref15_Made.S2 n l i l2 l4)
def spigotref15_Made.S3 (l : List Int) (i b1 b12 : Int) (l2 l4 l5 : List Int) : St := ⟨[(1, (.v (.slice (.int .i64)) l)), (4, (.ptr 0 [])), (5, (.ptr 1 [])), (7, (.v (.int .i64) i))], [(0, some (.box (.agg [(.sl 2), (.sl 3), (.v (.int .i64) 0), (.v (.int .i64) 0)]))), (1, some (.box (.agg [(.sl 4), (.sl 5), (.v (.int .i64) b1), (.v (.int .i64) b12)]))), (2, some (.row (.int .i64) l2 false)), (3, some (.row (.int .i64) l2 false)), (4, some (.row (.int .i64) l4 false)), (5, some (.row (.int .i64) l5 false))], 6, []⟩
def spigotref15_Made.L3 (l : List Int) (i b1 b12 : Int) (l2 l4 l5 : List Int) : Option (t4.den × Unit) := res spigotref15_Made.c (atLoop spigotref15_Made.b [1, 1, 1, 0, 1, 0]) (spigotref15_Made.S3 l i b1 b12 l2 l4 l5)
def spigotref15_Made.S4 (l : List Int) (i b1 b12 : Int) (l2 l4 l5 : List Int) : St := ⟨[(1, (.v (.slice (.int .i64)) l)), (4, (.ptr 0 [])), (5, (.ptr 1 [])), (7, (.v (.int .i64) i))], [(0, some (.box (.agg [(.sl 2), (.sl 3), (.v (.int .i64) 0), (.v (.int .i64) 0)]))), (1, some (.box (.agg [(.sl 4), (.sl 5), (.v (.int .i64) b1), (.v (.int .i64) b12)]))), (2, some (.row (.int .i64) l2 false)), (3, some (.row (.int .i64) l2 false)), (4, some (.row (.int .i64) l4 false)), (5, some (.row (.int .i64) l5 false))], 6, []⟩
def spigotref15_Made.L4 (l : List Int) (i b1 b12 : Int) (l2 l4 l5 : List Int) : Option (t4.den × Unit) := res spigotref15_Made.c (atJoin spigotref15_Made.b [1, 1, 1, 0, 1, 0, 0, 0, 1]) (spigotref15_Made.S4 l i b1 b12 l2 l4 l5)
def spigotref15_Made.S5 (l : List Int) (i b1 b12 : Int) (l2 l4 l5 : List Int) : St := ⟨[(1, (.v (.slice (.int .i64)) l)), (4, (.ptr 0 [])), (5, (.ptr 1 [])), (7, (.v (.int .i64) i))], [(0, some (.box (.agg [(.sl 2), (.sl 3), (.v (.int .i64) 0), (.v (.int .i64) 0)]))), (1, some (.box (.agg [(.sl 4), (.sl 5), (.v (.int .i64) b1), (.v (.int .i64) b12)]))), (2, some (.row (.int .i64) l2 false)), (3, some (.row (.int .i64) l2 false)), (4, some (.row (.int .i64) l4 false)), (5, some (.row (.int .i64) l5 false))], 6, []⟩
def spigotref15_Made.L5 (l : List Int) (i b1 b12 : Int) (l2 l4 l5 : List Int) : Option (t4.den × Unit) := res spigotref15_Made.c (atJoin spigotref15_Made.b [1, 1, 1, 0, 1, 0, 0, 1, 0, 0, 0, 1]) (spigotref15_Made.S5 l i b1 b12 l2 l4 l5)
theorem spigotref15_Made.spec : FnSpec Tryz.prog globs 132 spigotref15_Made.Fn := spec_of (E := spigotref15_Made.E) (envOk_at tabOk eqOk primsOk (.nil)) mixOk Tryz.func132 (by kernel_rfl)
theorem spigotref15_Made.L1_eq (n : Int) (l : List Int) (i : Int) (l2 l4 : List Int) : spigotref15_Made.L1 n l i l2 l4 =
 bif (decide ((i : Int) < n)) then
  spigotref15_Made.L2 n l i l2 l4
 else
  spigotref15_Made.L3 l 0 (-1) (-1) l2 l4 l4 := res_eq (by kernel_rfl)
theorem spigotref15_Made.L2_eq (n : Int) (l : List Int) (i : Int) (l2 l4 : List Int) : spigotref15_Made.L2 n l i l2 l4 =
 bif (lim ((List.length l4) + (List.length ([(-1)] : List Int))) (.int .i64)) then
  bif (lim ((List.length l4) + (List.length ([(-1)] : List Int))) (.int .i64)) then
   spigotref15_Made.L1 n l (IntKind.wrap .i64 (i + 1)) l2 (l4 ++ ([(-1)] : List Int))
  else none
 else none := res_eq (by kernel_rfl)
theorem spigotref15_Made.L3_eq (l : List Int) (i b1 b12 : Int) (l2 l4 l5 : List Int) : spigotref15_Made.L3 l i b1 b12 l2 l4 l5 =
 bif (decide ((i : Int) < ((List.length l : Int)))) then
  spigotref15_Made.L4 l i b1 b12 l2 l4 l5
 else
  some ((l4, l5, b1, b12, ()), ()) := res_eq (by kernel_rfl)
theorem spigotref15_Made.L4_eq (l : List Int) (i b1 b12 : Int) (l2 l4 l5 : List Int) : spigotref15_Made.L4 l i b1 b12 l2 l4 l5 =
 bif (i == 0) then
  bif (decide ((0 : Int) ≤ i ∧ (i : Int) < ((List.length l : Int)))) then
   spigotref15_Made.L5 l i (List.getD l (Int.toNat i) 0) b12 l2 l4 l5
  else none
 else
  bif (decide ((0 : Int) ≤ i ∧ (i : Int) < ((List.length l : Int)))) then
   bif (decide ((0 : Int) ≤ (IntKind.wrap .i64 (i - 1)) ∧ ((IntKind.wrap .i64 (i - 1)) : Int) < ((List.length l : Int)))) then
    bif (decide ((0 : Int) ≤ (List.getD l (Int.toNat i) 0) ∧ ((List.getD l (Int.toNat i) 0) : Int) < ((List.length l4 : Int)))) then
     bif (decide ((0 : Int) ≤ (IntKind.wrap .i64 (i - 1)) ∧ ((IntKind.wrap .i64 (i - 1)) : Int) < ((List.length l : Int)))) then
      bif (decide ((0 : Int) ≤ i ∧ (i : Int) < ((List.length l : Int)))) then
       bif (decide ((0 : Int) ≤ (List.getD l (Int.toNat (IntKind.wrap .i64 (i - 1))) 0) ∧ ((List.getD l (Int.toNat (IntKind.wrap .i64 (i - 1))) 0) : Int) < ((List.length l5 : Int)))) then
        spigotref15_Made.L5 l i b1 b12 l2 (List.set l4 (Int.toNat (List.getD l (Int.toNat i) 0)) (List.getD l (Int.toNat (IntKind.wrap .i64 (i - 1))) 0)) (List.set l5 (Int.toNat (List.getD l (Int.toNat (IntKind.wrap .i64 (i - 1))) 0)) (List.getD l (Int.toNat i) 0))
       else none
      else none
     else none
    else none
   else none
  else none := res_eq (by kernel_rfl)
theorem spigotref15_Made.L5_eq (l : List Int) (i b1 b12 : Int) (l2 l4 l5 : List Int) : spigotref15_Made.L5 l i b1 b12 l2 l4 l5 =
 bif (decide ((0 : Int) ≤ i ∧ (i : Int) < ((List.length l : Int)))) then
  spigotref15_Made.L3 l (IntKind.wrap .i64 (i + 1)) b1 (List.getD l (Int.toNat i) 0) l2 l4 l5
 else none := res_eq (by kernel_rfl)
theorem spigotref15_Made.F_eq (n : Int) (l : List Int) : spigotref15_Made.F n l =
 spigotref15_Made.L1 n l 0 ([] : List Int) ([] : List Int) := by kernel_rfl
/-! ### spigot/spigotref15.New (90) -/
def spigotref15_New.sg : Sig := ⟨[.val (.int .i64)], [(t4, true), ((.int .i64), true)]⟩
def spigotref15_New.E : Env := ⟨tl, fun i => look i [(132, spigotref15_Made.Fn)], [], eqs, globs, prims⟩
def spigotref15_New.c := cxOf spigotref15_New.E spigotref15_New.sg Tryz.f90
def spigotref15_New.b := body Tryz.f90
def spigotref15_New.Fn : Fun := fnOf spigotref15_New.E spigotref15_New.sg Tryz.f90
def spigotref15_New.F (n : Int) : Option (t4.den × Int × Unit) := spigotref15_New.Fn.F (n, ())
def spigotref15_New.S1 (n : Int) (l1 : List Int) : St := ⟨[(0, (.v (.int .i64) n)), (2, (.ptr 0 []))], [(0, some (.box (.agg [(.sl 1), (.sl 2), (.v (.int .i64) 0), (.v (.int .i64) 0)]))), (1, some (.row (.int .i64) l1 false)), (2, some (.row (.int .i64) l1 false))], 3, []⟩
def spigotref15_New.L1 (n : Int) (l1 : List Int) : Option (t4.den × Int × Unit) := res spigotref15_New.c (atJoin spigotref15_New.b [1, 0, 1]) (spigotref15_New.S1 n l1)
theorem spigotref15_New.spec : FnSpec Tryz.prog globs 90 spigotref15_New.Fn := spec_of (E := spigotref15_New.E) (envOk_at tabOk eqOk primsOk (.cons spigotref15_Made.spec <| .nil)) mixOk Tryz.func90 (by kernel_rfl)
theorem spigotref15_New.L1_eq (n : Int) (l1 : List Int) : spigotref15_New.L1 n l1 =
 (spigotref15_Made.F n ([] : List Int)).bind fun r0 =>
 some (r0.1, 0, ()) := res_eq (by kernel_rfl)
theorem spigotref15_New.F_eq (n : Int) : spigotref15_New.F n =
 bif (decide ((n : Int) < 1)) then
  some ((([] : List Int), ([] : List Int), 0, 0, ()), 2, ())
 else
  bif (decide ((n : Int) > 16)) then
   some ((([] : List Int), ([] : List Int), 0, 0, ()), 2, ())
  else
   spigotref15_New.L1 n ([] : List Int) := by kernel_rfl
/-! ### spigot/spigotref16.New (59) -/
def spigotref16_New.sg : Sig := ⟨[.val (.int .i64)], [(t5, true), ((.int .i64), true)]⟩
def spigotref16_New.E : Env := ⟨tl, fun i => look i [(89, spigotref13_New.Fn), (90, spigotref15_New.Fn)], [], eqs, globs, prims⟩
def spigotref16_New.c := cxOf spigotref16_New.E spigotref16_New.sg Tryz.f59
def spigotref16_New.b := body Tryz.f59
def spigotref16_New.Fn : Fun := fnOf spigotref16_New.E spigotref16_New.sg Tryz.f59
def spigotref16_New.F (n : Int) : Option (t5.den × Int × Unit) := spigotref16_New.Fn.F (n, ())
def spigotref16_New.S1 (n : Int) (l1 : List Int) (l2 : List t1.den) (l3 : List Int) (l4 : List Bool) (l5 : List t3.den) : St := ⟨[(0, (.v (.int .i64) n)), (2, (.ptr 0 []))], [(0, some (.box (.agg [(.v (.int .i64) 0), (.sl 1), (.sl 2), (.agg [(.sl 3), (.sl 4), (.v (.int .i64) 0)]), (.sl 5), (.agg [(.sl 6), (.sl 7), (.v (.int .i64) 0), (.v (.int .i64) 0)])]))), (1, some (.row (.int .u32) l1 false)), (2, some (.row t1 l2 false)), (3, some (.row (.int .i64) l3 false)), (4, some (.row .bool l4 false)), (5, some (.row t3 l5 false)), (6, some (.row (.int .i64) l3 false)), (7, some (.row (.int .i64) l3 false))], 8, []⟩
def spigotref16_New.L1 (n : Int) (l1 : List Int) (l2 : List t1.den) (l3 : List Int) (l4 : List Bool) (l5 : List t3.den) : Option (t5.den × Int × Unit) := res spigotref16_New.c (atJoin spigotref16_New.b [1, 0, 1]) (spigotref16_New.S1 n l1 l2 l3 l4 l5)
theorem spigotref16_New.spec : FnSpec Tryz.prog globs 59 spigotref16_New.Fn := spec_of (E := spigotref16_New.E) (envOk_at tabOk eqOk primsOk (.cons spigotref13_New.spec <| .cons spigotref15_New.spec <| .nil)) mixOk Tryz.func59 (by kernel_rfl)
theorem spigotref16_New.L1_eq (n : Int) (l1 : List Int) (l2 : List t1.den) (l3 : List Int) (l4 : List Bool) (l5 : List t3.den) : spigotref16_New.L1 n l1 l2 l3 l4 l5 =
 bif (decide ((0 : Int) ≤ n ∧ (n : Int) ≤ n) && (lim (Int.toNat n) (.int .u32))) then
  bif (decide ((0 : Int) ≤ n ∧ (n : Int) ≤ n) && (lim (Int.toNat n) t1)) then
   bif (decide ((0 : Int) ≤ 16 ∧ (16 : Int) ≤ 16) && (lim (Int.toNat 16) t3)) then
    (spigotref13_New.F n).bind fun r0 =>
    (spigotref15_New.F n).bind fun r1 =>
    some ((n, (List.replicate (Int.toNat n) (0 : Int)), (List.replicate (Int.toNat n) ((0, 0, 0, ()), 0, 0, 0, ())), r0.1, (List.replicate (Int.toNat 16) (0, 0, false, ())), r1.1, ()), 0, ())
   else none
  else none
 else none := res_eq (by kernel_rfl)
theorem spigotref16_New.F_eq (n : Int) : spigotref16_New.F n =
 bif (decide ((n : Int) < 1)) then
  some ((0, ([] : List Int), ([] : List t1.den), (([] : List Int), ([] : List Bool), 0, ()), ([] : List t3.den), (([] : List Int), ([] : List Int), 0, 0, ()), ()), 2, ())
 else
  bif (decide ((n : Int) > 8)) then
   some ((0, ([] : List Int), ([] : List t1.den), (([] : List Int), ([] : List Bool), 0, ()), ([] : List t3.den), (([] : List Int), ([] : List Int), 0, 0, ()), ()), 2, ())
  else
   spigotref16_New.L1 n ([] : List Int) ([] : List t1.den) ([] : List Int) ([] : List Bool) ([] : List t3.den) := by kernel_rfl
/-! ### spigot/spigotref03.Full (61) -/
def spigotref03_Full.sg : Sig := ⟨[.val t0, .val (.int .u64)], [(t1, true), ((.int .i64), true)]⟩
def spigotref03_Full.E : Env := ⟨tl, fun i => look i [(76, spigotref03_CheckLimit.Fn)], [], eqs, globs, prims⟩
def spigotref03_Full.c := cxOf spigotref03_Full.E spigotref03_Full.sg Tryz.f61
def spigotref03_Full.b := body Tryz.f61
def spigotref03_Full.Fn : Fun := fnOf spigotref03_Full.E spigotref03_Full.sg Tryz.f61
def spigotref03_Full.F (l : t0.den) (at_ : Int) : Option (t1.den × Int × Unit) := spigotref03_Full.Fn.F (l, at_, ())
def spigotref03_Full.S1 (at_ b0 : Int) (b02 b03 : Int) : St := ⟨[(1, (.v (.int .u64) at_)), (2, (.ptr 0 [])), (4, (.ptr 1 []))], [(0, some (.box (.agg [(.v (.int .i64) b0), (.v (.int .i64) b02), (.v (.int .i64) b03)]))), (1, some (.box (.agg [(.agg [(.v (.int .i64) 0), (.v (.int .i64) 0), (.v (.int .i64) 0)]), (.v (.int .i64) 0), (.v (.int .i64) 0), (.v (.int .u64) 0)])))], 2, []⟩
def spigotref03_Full.L1 (at_ b0 : Int) (b02 b03 : Int) : Option (t1.den × Int × Unit) := res spigotref03_Full.c (atJoin spigotref03_Full.b [1, 0, 1]) (spigotref03_Full.S1 at_ b0 b02 b03)
theorem spigotref03_Full.spec : FnSpec Tryz.prog globs 61 spigotref03_Full.Fn := spec_of (E := spigotref03_Full.E) (envOk_at tabOk eqOk primsOk (.cons spigotref03_CheckLimit.spec <| .nil)) mixOk Tryz.func61 (by kernel_rfl)
theorem spigotref03_Full.L1_eq (at_ b0 : Int) (b02 b03 : Int) : spigotref03_Full.L1 at_ b0 b02 b03 =
 some (((b0, b02, b03, ()), b0, 0, at_, ()), 0, ()) := res_eq (by kernel_rfl)
theorem spigotref03_Full.F_eq (l : t0.den) (at_ : Int) : spigotref03_Full.F l at_ =
 (spigotref03_CheckLimit.F l).bind fun r0 =>
 bif (r0.1 != 0) then
  (spigotref03_CheckLimit.F l).bind fun r1 =>
  some (((0, 0, 0, ()), 0, 0, 0, ()), r1.1, ())
 else
  spigotref03_Full.L1 at_ l.1 l.2.1 l.2.2.1 := by kernel_rfl
/-! ### spigot/spigotref15.SameInts (164) -/
def spigotref15_SameInts.sg : Sig := ⟨[.val (.slice (.int .i64)), .val (.slice (.int .i64))], [(.bool, true)]⟩
def spigotref15_SameInts.E : Env := ⟨tl, fun i => look i [], [], eqs, globs, prims⟩
def spigotref15_SameInts.c := cxOf spigotref15_SameInts.E spigotref15_SameInts.sg Tryz.f164
def spigotref15_SameInts.b := body Tryz.f164
def spigotref15_SameInts.Fn : Fun := fnOf spigotref15_SameInts.E spigotref15_SameInts.sg Tryz.f164
def spigotref15_SameInts.F (a b : List Int) : Option (Bool × Unit) := spigotref15_SameInts.Fn.F (a, b, ())
def spigotref15_SameInts.S1 (a b : List Int) : St := ⟨[(0, (.v (.slice (.int .i64)) a)), (1, (.v (.slice (.int .i64)) b))], [], 0, []⟩
def spigotref15_SameInts.L1 (a b : List Int) : Option (Bool × Unit) := res spigotref15_SameInts.c (atJoin spigotref15_SameInts.b [1, 0, 1]) (spigotref15_SameInts.S1 a b)
def spigotref15_SameInts.S2 (a b : List Int) (i : Int) : St := ⟨[(0, (.v (.slice (.int .i64)) a)), (1, (.v (.slice (.int .i64)) b)), (5, (.v (.int .i64) i))], [], 0, []⟩
def spigotref15_SameInts.L2 (a b : List Int) (i : Int) : Option (Bool × Unit) := res spigotref15_SameInts.c (atLoop spigotref15_SameInts.b [1, 1, 0, 1, 0]) (spigotref15_SameInts.S2 a b i)
def spigotref15_SameInts.S3 (a b : List Int) (i : Int) : St := ⟨[(0, (.v (.slice (.int .i64)) a)), (1, (.v (.slice (.int .i64)) b)), (5, (.v (.int .i64) i))], [], 0, []⟩
def spigotref15_SameInts.L3 (a b : List Int) (i : Int) : Option (Bool × Unit) := res spigotref15_SameInts.c (atJoin spigotref15_SameInts.b [1, 1, 0, 1, 0, 0, 0, 1]) (spigotref15_SameInts.S3 a b i)
def spigotref15_SameInts.S4 (a b : List Int) (i : Int) : St := ⟨[(0, (.v (.slice (.int .i64)) a)), (1, (.v (.slice (.int .i64)) b)), (5, (.v (.int .i64) i))], [], 0, []⟩
def spigotref15_SameInts.L4 (a b : List Int) (i : Int) : Option (Bool × Unit) := res spigotref15_SameInts.c (atJoin spigotref15_SameInts.b [1, 1, 0, 1, 0, 0, 1, 0, 0, 1]) (spigotref15_SameInts.S4 a b i)
theorem spigotref15_SameInts.spec : FnSpec Tryz.prog globs 164 spigotref15_SameInts.Fn := spec_of (E := spigotref15_SameInts.E) (envOk_at tabOk eqOk primsOk (.nil)) mixOk Tryz.func164 (by kernel_rfl)
theorem spigotref15_SameInts.L1_eq (a b : List Int) : spigotref15_SameInts.L1 a b =
 spigotref15_SameInts.L2 a b 0 := res_eq (by kernel_rfl)
theorem spigotref15_SameInts.L2_eq (a b : List Int) (i : Int) : spigotref15_SameInts.L2 a b i =
 bif (decide ((i : Int) < ((List.length a : Int)))) then
  spigotref15_SameInts.L3 a b i
 else
  some (true, ()) := res_eq (by kernel_rfl)
theorem spigotref15_SameInts.L3_eq (a b : List Int) (i : Int) : spigotref15_SameInts.L3 a b i =
 bif (decide ((0 : Int) ≤ i ∧ (i : Int) < ((List.length a : Int)))) then
  bif (decide ((0 : Int) ≤ i ∧ (i : Int) < ((List.length b : Int)))) then
   bif ((List.getD a (Int.toNat i) 0) != (List.getD b (Int.toNat i) 0)) then
    some (false, ())
   else
    spigotref15_SameInts.L4 a b i
  else none
 else none := res_eq (by kernel_rfl)
theorem spigotref15_SameInts.L4_eq (a b : List Int) (i : Int) : spigotref15_SameInts.L4 a b i =
 spigotref15_SameInts.L2 a b (IntKind.wrap .i64 (i + 1)) := res_eq (by kernel_rfl)
theorem spigotref15_SameInts.F_eq (a b : List Int) : spigotref15_SameInts.F a b =
 bif (((List.length a : Int)) != ((List.length b : Int))) then
  some (false, ())
 else
  spigotref15_SameInts.L1 a b := by kernel_rfl
/-! ### spigot/spigotref15.Same (120) -/
def spigotref15_Same.sg : Sig := ⟨[.val t4, .val t4], [(.bool, true)]⟩
def spigotref15_Same.E : Env := ⟨tl, fun i => look i [(164, spigotref15_SameInts.Fn)], [], eqs, globs, prims⟩
def spigotref15_Same.c := cxOf spigotref15_Same.E spigotref15_Same.sg Tryz.f120
def spigotref15_Same.b := body Tryz.f120
def spigotref15_Same.Fn : Fun := fnOf spigotref15_Same.E spigotref15_Same.sg Tryz.f120
def spigotref15_Same.F (a : t4.den) (b : t4.den) : Option (Bool × Unit) := spigotref15_Same.Fn.F (a, b, ())
theorem spigotref15_Same.spec : FnSpec Tryz.prog globs 120 spigotref15_Same.Fn := spec_of (E := spigotref15_Same.E) (envOk_at tabOk eqOk primsOk (.cons spigotref15_SameInts.spec <| .nil)) mixOk Tryz.func120 (by kernel_rfl)
theorem spigotref15_Same.F_eq (a : t4.den) (b : t4.den) : spigotref15_Same.F a b =
 (spigotref15_SameInts.F a.1 b.1).bind fun r0 =>
 bif r0.1 then
  (spigotref15_SameInts.F a.2.1 b.2.1).bind fun r1 =>
  bif r1.1 then
   bif (a.2.2.1 == b.2.2.1) then
    some ((a.2.2.2.1 == b.2.2.2.1), ())
   else
    some (false, ())
  else
   some (false, ())
 else
  some (false, ()) := by kernel_rfl
end
end Go.Proofs.YtkihjakbbcajbaaGreat.PM
