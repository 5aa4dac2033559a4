/- Contracts and equations of the functions, printed by a program of this session. -/
import Derived.Test.YtkihjakbbcajbaaGreatTbd
namespace Go.Proofs.YtkihjakbbcajbaaGreat.PM
open Go Go.Proofs
noncomputable section
set_option linter.unusedVariables false
def ak.sg:Sig:=⟨[.io t12 false,.val (.int .i64)],[((.int .u64),true)]⟩
def ak.E:Env:=⟨tl,fun i=>look i [],[],eqs,globs,prims⟩
def ak.c:=cxOf ak.E ak.sg Tryz.f22
def ak.b:=body Tryz.f22
def ak.Fn:Fun:=fnOf ak.E ak.sg Tryz.f22
def ak.F (r:t12.den) (k:Int):Option (t12.den × Int × Unit):=ak.Fn.F (r,k,())
def ak.L1 (k:Int) (b0:List Int) (b02:Bool):Option (t12.den × Int × Unit):=res ak.c (atJoin ak.b [1,0,1]) ⟨[(0,(.ptr 0 [])),(1,(.v (.int .i64) k))],[(0,some (.box (.agg [(.v (.slice (.int .u8)) b0),(.v .bool b02)])))],1,[(.ptr 0 [])]⟩
def ak.L2 (k n:Int) (t26_:List Int) (t27_ t28_:Int) (b0:List Int) (b02:Bool):Option (t12.den × Int × Unit):=res ak.c (atLoop ak.b [1,1,1,0,1,0]) ⟨[(0,(.ptr 0 [])),(1,(.v (.int .i64) k)),(5,(.v (.int .u64) n)),(26,(.v (.slice (.int .u8)) t26_)),(27,(.v (.int .i64) t27_)),(28,(.v (.int .i64) t28_))],[(0,some (.box (.agg [(.v (.slice (.int .u8)) b0),(.v .bool b02)])))],1,[(.ptr 0 [])]⟩
def ak.L3 (k n:Int) (t26_:List Int) (t27_ t28_:Int) (b0:List Int) (b02:Bool):Option (t12.den × Int × Unit):=res ak.c (atJoin ak.b [1,1,1,0,1,0,0,1,0]) ⟨[(0,(.ptr 0 [])),(1,(.v (.int .i64) k)),(5,(.v (.int .u64) n)),(26,(.v (.slice (.int .u8)) t26_)),(27,(.v (.int .i64) t27_)),(28,(.v (.int .i64) t28_))],[(0,some (.box (.agg [(.v (.slice (.int .u8)) b0),(.v .bool b02)])))],1,[(.ptr 0 [])]⟩
theorem ak.spec:FnSpec Tryz.prog globs 22 ak.Fn:=spec_of (E:=ak.E) (envOk_at tabOk eqOk primsOk (.nil)) mixOk Tryz.func22 (by kernel_rfl)
theorem ak.L1_eq (k b0 b02):ak.L1 k b0 b02=
 bif (decide ((0:Int)≤0∧(0:Int)≤k∧(k:Int)≤((List.length b0:Int)))) then
  ak.L2 k 0 (List.take ((Int.toNat k) - (Int.toNat 0)) (List.drop (Int.toNat 0) b0)) ((List.length (List.take ((Int.toNat k) - (Int.toNat 0)) (List.drop (Int.toNat 0) b0)):Int)) 0 b0 b02
 else none:=res_eq (by kernel_rfl)
theorem ak.L2_eq (k n t26_ t27_ t28_ b0 b02):ak.L2 k n t26_ t27_ t28_ b0 b02=
 bif (decide ((t28_:Int)<t27_)) then
  ak.L3 k n t26_ t27_ t28_ b0 b02
 else
  bif (decide ((0:Int)≤k∧(k:Int)≤((List.length b0:Int))∧(((List.length b0:Int)):Int)≤((List.length b0:Int)))) then
   some (((List.take ((Int.toNat ((List.length b0:Int))) - (Int.toNat k)) (List.drop (Int.toNat k) b0)),b02,()),n,())
  else none:=res_eq (by kernel_rfl)
theorem ak.L3_eq (k n t26_ t27_ t28_ b0 b02):ak.L3 k n t26_ t27_ t28_ b0 b02=
 bif (decide ((0:Int)≤t28_∧(t28_:Int)<((List.length t26_:Int)))) then
  bif (decide ((0:Int)≤8)) then
   ak.L2 k (bits .or .u64 (IntKind.wrap .u64 (n*2 ^ min (Int.toNat 8) (IntKind.bits .u64))) (IntKind.wrap .u64 (List.getD t26_ (Int.toNat t28_) 0))) t26_ t27_ (IntKind.wrap .i64 (t28_+1)) b0 b02
  else none
 else none:=res_eq (by kernel_rfl)
theorem ak.F_eq (r k):ak.F r k=
 bif (decide ((((List.length r.1:Int)):Int)<k)) then
  some ((([]:List Int),true,()),0,())
 else
  ak.L1 k r.1 r.2.1:=by kernel_rfl
def eh.sg:Sig:=⟨[.io t12 false,.val t0],[(t1,true)]⟩
def eh.E:Env:=⟨tl,fun i=>look i [(22,ak.Fn)],[],eqs,globs,prims⟩
def eh.Fn:Fun:=fnOf eh.E eh.sg Tryz.f44
def eh.F (r:t12.den) (l:t0.den):Option (t12.den × t1.den × Unit):=eh.Fn.F (r,l,())
theorem eh.spec:FnSpec Tryz.prog globs 44 eh.Fn:=spec_of (E:=eh.E) (envOk_at tabOk eqOk primsOk (.cons ak.spec<|.nil)) mixOk Tryz.func44 (by kernel_rfl)
theorem eh.F_eq (r l):eh.F r l=
 (ak.F r 8).bind fun r0=>
 (ak.F r0.1 8).bind fun r1=>
 (ak.F r1.1 8).bind fun r2=>
 some (r2.1,(l,(IntKind.wrap .i64 r0.2.1),(IntKind.wrap .i64 r1.2.1),r2.2.1,()),()):=by kernel_rfl
def cj.sg:Sig:=⟨[.io t12 false,.val t0],[((.slice t9),true)]⟩
def cj.E:Env:=⟨tl,fun i=>look i [(22,ak.Fn),(44,eh.Fn)],[],eqs,globs,prims⟩
def cj.c:=cxOf cj.E cj.sg Tryz.f45
def cj.b:=body Tryz.f45
def cj.Fn:Fun:=fnOf cj.E cj.sg Tryz.f45
def cj.F (r:t12.den) (l:t0.den):Option (t12.den × (List t9.den) × Unit):=cj.Fn.F (r,l,())
def cj.L1 (n:Int) (b0:List Int) (b02:Bool) (b1 b12 b13:Int) (l2:List t9.den):Option (t12.den × (List t9.den) × Unit):=res cj.c (atLoop cj.b [1,1,0,1,0]) ⟨[(0,(.ptr 0 [])),(3,(.ptr 1 [])),(5,(.sl 2)),(6,(.v (.int .u64) n))],[(0,some (.box (.agg [(.v (.slice (.int .u8)) b0),(.v .bool b02)]))),(1,some (.box (.agg [(.v (.int .i64) b1),(.v (.int .i64) b12),(.v (.int .i64) b13)]))),(2,some (.row t9 l2 false))],3,[(.ptr 0 [])]⟩
def cj.L2 (n:Int) (b0:List Int) (b02:Bool) (b1 b12 b13:Int) (l2:List t9.den):Option (t12.den × (List t9.den) × Unit):=res cj.c (atJoin cj.b [1,1,0,1,0,0,0,1]) ⟨[(0,(.ptr 0 [])),(3,(.ptr 1 [])),(5,(.sl 2)),(6,(.v (.int .u64) n))],[(0,some (.box (.agg [(.v (.slice (.int .u8)) b0),(.v .bool b02)]))),(1,some (.box (.agg [(.v (.int .i64) b1),(.v (.int .i64) b12),(.v (.int .i64) b13)]))),(2,some (.row t9 l2 false))],3,[(.ptr 0 [])]⟩
theorem cj.spec:FnSpec Tryz.prog globs 45 cj.Fn:=spec_of (E:=cj.E) (envOk_at tabOk eqOk primsOk (.cons ak.spec<|.cons eh.spec<|.nil)) mixOk Tryz.func45 (by kernel_rfl)
theorem cj.L1_eq (n b0 b02 b1 b12 b13 l2):cj.L1 n b0 b02 b1 b12 b13 l2=
 bif (decide ((n:Int)>0)) then
  bif (!b02) then
   cj.L2 n b0 b02 b1 b12 b13 l2
  else
   some ((b0,b02,()),l2,())
 else
  some ((b0,b02,()),l2,()):=res_eq (by kernel_rfl)
theorem cj.L2_eq (n b0 b02 b1 b12 b13 l2):cj.L2 n b0 b02 b1 b12 b13 l2=
 (ak.F (b0,b02,()) 4).bind fun r0=>
 (eh.F r0.1 (b1,b12,b13,())).bind fun r1=>
 bif (lim ((List.length l2)+(List.length ([((IntKind.wrap .u32 r0.2.1),r1.2.1,())]:List t9.den))) t9) then
  cj.L1 (IntKind.wrap .u64 (n - 1)) r1.1.1 r1.1.2.1 b1 b12 b13 (l2++([((IntKind.wrap .u32 r0.2.1),r1.2.1,())]:List t9.den))
 else none:=res_eq (by kernel_rfl)
theorem cj.F_eq (r l):cj.F r l=
 (ak.F r 1).bind fun r0=>
 cj.L1 r0.2.1 r0.1.1 r0.1.2.1 l.1 l.2.1 l.2.2.1 ([]:List t9.den):=by kernel_rfl
def ag.sg:Sig:=⟨[.io t12 false],[(t10,true)]⟩
def ag.E:Env:=⟨tl,fun i=>look i [(22,ak.Fn),(44,eh.Fn),(45,cj.Fn)],[],eqs,globs,prims⟩
def ag.c:=cxOf ag.E ag.sg Tryz.f23
def ag.b:=body Tryz.f23
def ag.Fn:Fun:=fnOf ag.E ag.sg Tryz.f23
def ag.F (r:t12.den):Option (t12.den × t10.den × Unit):=ag.Fn.F (r,())
def ag.L1 (t12_:Int) (b0:List Int) (b02:Bool) (b1:List t0.den) (b12:List Int) (b2:Int) (b22:List t0.den) (l3:List t9.den) (l5:List Int):Option (t12.den × t10.den × Unit):=res ag.c (atLoop ag.b [1,1,0,1,0]) ⟨[(0,(.ptr 0 [])),(2,(.ptr 1 [])),(3,(.ptr 2 [])),(12,(.v (.int .i64) t12_))],[(0,some (.box (.agg [(.v (.slice (.int .u8)) b0),(.v .bool b02)]))),(1,some (.box (.agg [(.v (.int .u32) 0),(.v (.arr 3 t0) b1),(.v (.arr 2 (.int .i64)) b12),(.agg [(.agg [(.v (.int .i64) 0),(.v (.int .i64) 0),(.v (.int .i64) 0)]),(.v (.int .i64) 0),(.v (.int .i64) 0),(.v (.int .u64) 0)]),(.sl 3),(.sl 4),(.sl 5),(.agg [(.v (.int .u64) 0),(.v (.int .u64) 0),(.v (.int .u64) 0)])]))),(2,some (.box (.agg [(.v (.int .u32) b2),(.v (.arr 3 t0) b22),(.v (.arr 2 (.int .i64)) b12),(.agg [(.agg [(.v (.int .i64) 0),(.v (.int .i64) 0),(.v (.int .i64) 0)]),(.v (.int .i64) 0),(.v (.int .i64) 0),(.v (.int .u64) 0)]),(.sl 6),(.sl 7),(.sl 8),(.agg [(.v (.int .u64) 0),(.v (.int .u64) 0),(.v (.int .u64) 0)])]))),(3,some (.row t9 l3 false)),(4,some (.row t9 l3 false)),(5,some (.row (.int .u32) l5 false)),(6,some (.row t9 l3 false)),(7,some (.row t9 l3 false)),(8,some (.row (.int .u32) l5 false))],9,[(.ptr 0 [])]⟩
def ag.L2 (t12_:Int) (b0:List Int) (b02:Bool) (b1:List t0.den) (b12:List Int) (b2:Int) (b22:List t0.den) (l3:List t9.den) (l5:List Int):Option (t12.den × t10.den × Unit):=res ag.c (atJoin ag.b [1,1,0,1,0,0,1,0]) ⟨[(0,(.ptr 0 [])),(2,(.ptr 1 [])),(3,(.ptr 2 [])),(12,(.v (.int .i64) t12_))],[(0,some (.box (.agg [(.v (.slice (.int .u8)) b0),(.v .bool b02)]))),(1,some (.box (.agg [(.v (.int .u32) 0),(.v (.arr 3 t0) b1),(.v (.arr 2 (.int .i64)) b12),(.agg [(.agg [(.v (.int .i64) 0),(.v (.int .i64) 0),(.v (.int .i64) 0)]),(.v (.int .i64) 0),(.v (.int .i64) 0),(.v (.int .u64) 0)]),(.sl 3),(.sl 4),(.sl 5),(.agg [(.v (.int .u64) 0),(.v (.int .u64) 0),(.v (.int .u64) 0)])]))),(2,some (.box (.agg [(.v (.int .u32) b2),(.v (.arr 3 t0) b22),(.v (.arr 2 (.int .i64)) b12),(.agg [(.agg [(.v (.int .i64) 0),(.v (.int .i64) 0),(.v (.int .i64) 0)]),(.v (.int .i64) 0),(.v (.int .i64) 0),(.v (.int .u64) 0)]),(.sl 6),(.sl 7),(.sl 8),(.agg [(.v (.int .u64) 0),(.v (.int .u64) 0),(.v (.int .u64) 0)])]))),(3,some (.row t9 l3 false)),(4,some (.row t9 l3 false)),(5,some (.row (.int .u32) l5 false)),(6,some (.row t9 l3 false)),(7,some (.row t9 l3 false)),(8,some (.row (.int .u32) l5 false))],9,[(.ptr 0 [])]⟩
def ag.L3 (t37_:Int) (b0:List Int) (b02:Bool) (b1:List t0.den) (b12:List Int) (b2:Int) (b22:List t0.den) (b23:List Int) (l3:List t9.den) (l5:List Int):Option (t12.den × t10.den × Unit):=res ag.c (atLoop ag.b [1,1,1,0,1,0]) ⟨[(0,(.ptr 0 [])),(2,(.ptr 1 [])),(3,(.ptr 2 [])),(37,(.v (.int .i64) t37_))],[(0,some (.box (.agg [(.v (.slice (.int .u8)) b0),(.v .bool b02)]))),(1,some (.box (.agg [(.v (.int .u32) 0),(.v (.arr 3 t0) b1),(.v (.arr 2 (.int .i64)) b12),(.agg [(.agg [(.v (.int .i64) 0),(.v (.int .i64) 0),(.v (.int .i64) 0)]),(.v (.int .i64) 0),(.v (.int .i64) 0),(.v (.int .u64) 0)]),(.sl 3),(.sl 4),(.sl 5),(.agg [(.v (.int .u64) 0),(.v (.int .u64) 0),(.v (.int .u64) 0)])]))),(2,some (.box (.agg [(.v (.int .u32) b2),(.v (.arr 3 t0) b22),(.v (.arr 2 (.int .i64)) b23),(.agg [(.agg [(.v (.int .i64) 0),(.v (.int .i64) 0),(.v (.int .i64) 0)]),(.v (.int .i64) 0),(.v (.int .i64) 0),(.v (.int .u64) 0)]),(.sl 6),(.sl 7),(.sl 8),(.agg [(.v (.int .u64) 0),(.v (.int .u64) 0),(.v (.int .u64) 0)])]))),(3,some (.row t9 l3 false)),(4,some (.row t9 l3 false)),(5,some (.row (.int .u32) l5 false)),(6,some (.row t9 l3 false)),(7,some (.row t9 l3 false)),(8,some (.row (.int .u32) l5 false))],9,[(.ptr 0 [])]⟩
def ag.L4 (t37_:Int) (b0:List Int) (b02:Bool) (b1:List t0.den) (b12:List Int) (b2:Int) (b22:List t0.den) (b23:List Int) (l3:List t9.den) (l5:List Int):Option (t12.den × t10.den × Unit):=res ag.c (atJoin ag.b [1,1,1,0,1,0,0,1,0]) ⟨[(0,(.ptr 0 [])),(2,(.ptr 1 [])),(3,(.ptr 2 [])),(37,(.v (.int .i64) t37_))],[(0,some (.box (.agg [(.v (.slice (.int .u8)) b0),(.v .bool b02)]))),(1,some (.box (.agg [(.v (.int .u32) 0),(.v (.arr 3 t0) b1),(.v (.arr 2 (.int .i64)) b12),(.agg [(.agg [(.v (.int .i64) 0),(.v (.int .i64) 0),(.v (.int .i64) 0)]),(.v (.int .i64) 0),(.v (.int .i64) 0),(.v (.int .u64) 0)]),(.sl 3),(.sl 4),(.sl 5),(.agg [(.v (.int .u64) 0),(.v (.int .u64) 0),(.v (.int .u64) 0)])]))),(2,some (.box (.agg [(.v (.int .u32) b2),(.v (.arr 3 t0) b22),(.v (.arr 2 (.int .i64)) b23),(.agg [(.agg [(.v (.int .i64) 0),(.v (.int .i64) 0),(.v (.int .i64) 0)]),(.v (.int .i64) 0),(.v (.int .i64) 0),(.v (.int .u64) 0)]),(.sl 6),(.sl 7),(.sl 8),(.agg [(.v (.int .u64) 0),(.v (.int .u64) 0),(.v (.int .u64) 0)])]))),(3,some (.row t9 l3 false)),(4,some (.row t9 l3 false)),(5,some (.row (.int .u32) l5 false)),(6,some (.row t9 l3 false)),(7,some (.row t9 l3 false)),(8,some (.row (.int .u32) l5 false))],9,[(.ptr 0 [])]⟩
def ag.L5 (n:Int) (b0:List Int) (b02:Bool) (b1:List t0.den) (b12:List Int) (b2:Int) (b22:List t0.den) (b23:List Int) (b24 b25:Int) (b26 b27:Int) (b28 b29:Int) (l3:List t9.den) (l5:List Int) (l6 l7:List t9.den) (l8:List Int):Option (t12.den × t10.den × Unit):=res ag.c (atLoop ag.b [1,1,1,1,1,1,1,0,1,0]) ⟨[(0,(.ptr 0 [])),(2,(.ptr 1 [])),(3,(.ptr 2 [])),(7,(.v (.int .u64) n))],[(0,some (.box (.agg [(.v (.slice (.int .u8)) b0),(.v .bool b02)]))),(1,some (.box (.agg [(.v (.int .u32) 0),(.v (.arr 3 t0) b1),(.v (.arr 2 (.int .i64)) b12),(.agg [(.agg [(.v (.int .i64) 0),(.v (.int .i64) 0),(.v (.int .i64) 0)]),(.v (.int .i64) 0),(.v (.int .i64) 0),(.v (.int .u64) 0)]),(.sl 3),(.sl 4),(.sl 5),(.agg [(.v (.int .u64) 0),(.v (.int .u64) 0),(.v (.int .u64) 0)])]))),(2,some (.box (.agg [(.v (.int .u32) b2),(.v (.arr 3 t0) b22),(.v (.arr 2 (.int .i64)) b23),(.agg [(.agg [(.v (.int .i64) b24),(.v (.int .i64) b25),(.v (.int .i64) b26)]),(.v (.int .i64) b27),(.v (.int .i64) b28),(.v (.int .u64) b29)]),(.sl 6),(.sl 7),(.sl 8),(.agg [(.v (.int .u64) 0),(.v (.int .u64) 0),(.v (.int .u64) 0)])]))),(3,some (.row t9 l3 false)),(4,some (.row t9 l3 false)),(5,some (.row (.int .u32) l5 false)),(6,some (.row t9 l6 false)),(7,some (.row t9 l7 false)),(8,some (.row (.int .u32) l8 false))],9,[(.ptr 0 [])]⟩
def ag.L6 (n:Int) (b0:List Int) (b02:Bool) (b1:List t0.den) (b12:List Int) (b2:Int) (b22:List t0.den) (b23:List Int) (b24 b25:Int) (b26 b27:Int) (b28 b29:Int) (l3:List t9.den) (l5:List Int) (l6 l7:List t9.den) (l8:List Int):Option (t12.den × t10.den × Unit):=res ag.c (atJoin ag.b [1,1,1,1,1,1,1,0,1,0,0,0,1]) ⟨[(0,(.ptr 0 [])),(2,(.ptr 1 [])),(3,(.ptr 2 [])),(7,(.v (.int .u64) n))],[(0,some (.box (.agg [(.v (.slice (.int .u8)) b0),(.v .bool b02)]))),(1,some (.box (.agg [(.v (.int .u32) 0),(.v (.arr 3 t0) b1),(.v (.arr 2 (.int .i64)) b12),(.agg [(.agg [(.v (.int .i64) 0),(.v (.int .i64) 0),(.v (.int .i64) 0)]),(.v (.int .i64) 0),(.v (.int .i64) 0),(.v (.int .u64) 0)]),(.sl 3),(.sl 4),(.sl 5),(.agg [(.v (.int .u64) 0),(.v (.int .u64) 0),(.v (.int .u64) 0)])]))),(2,some (.box (.agg [(.v (.int .u32) b2),(.v (.arr 3 t0) b22),(.v (.arr 2 (.int .i64)) b23),(.agg [(.agg [(.v (.int .i64) b24),(.v (.int .i64) b25),(.v (.int .i64) b26)]),(.v (.int .i64) b27),(.v (.int .i64) b28),(.v (.int .u64) b29)]),(.sl 6),(.sl 7),(.sl 8),(.agg [(.v (.int .u64) 0),(.v (.int .u64) 0),(.v (.int .u64) 0)])]))),(3,some (.row t9 l3 false)),(4,some (.row t9 l3 false)),(5,some (.row (.int .u32) l5 false)),(6,some (.row t9 l6 false)),(7,some (.row t9 l7 false)),(8,some (.row (.int .u32) l8 false))],9,[(.ptr 0 [])]⟩
theorem ag.spec:FnSpec Tryz.prog globs 23 ag.Fn:=spec_of (E:=ag.E) (envOk_at tabOk eqOk primsOk (.cons ak.spec<|.cons eh.spec<|.cons cj.spec<|.nil)) mixOk Tryz.func23 (by kernel_rfl)
theorem ag.L1_eq (t12_ b0 b02 b1 b12 b2 b22 l3 l5):ag.L1 t12_ b0 b02 b1 b12 b2 b22 l3 l5=
 bif (decide ((t12_:Int)<3)) then
  ag.L2 t12_ b0 b02 b1 b12 b2 b22 l3 l5
 else
  ag.L3 0 b0 b02 b1 b12 b2 b22 b12 l3 l5:=res_eq (by kernel_rfl)
theorem ag.L2_eq (t12_ b0 b02 b1 b12 b2 b22 l3 l5):ag.L2 t12_ b0 b02 b1 b12 b2 b22 l3 l5=
 bif (decide ((0:Int)≤t12_∧(t12_:Int)<3)) then
  (ak.F (b0,b02,()) 4).bind fun r0=>
  (ak.F r0.1 4).bind fun r1=>
  (ak.F r1.1 4).bind fun r2=>
  ag.L1 (IntKind.wrap .i64 (t12_+1)) r2.1.1 r2.1.2.1 b1 b12 b2 (List.set (List.set (List.set b22 (Int.toNat t12_) ((IntKind.wrap .i64 r0.2.1),((List.getD b22 (Int.toNat t12_) (0,0,0,())).2).1,(((List.getD b22 (Int.toNat t12_) (0,0,0,())).2).2).1,())) (Int.toNat t12_) ((List.getD (List.set b22 (Int.toNat t12_) ((IntKind.wrap .i64 r0.2.1),((List.getD b22 (Int.toNat t12_) (0,0,0,())).2).1,(((List.getD b22 (Int.toNat t12_) (0,0,0,())).2).2).1,())) (Int.toNat t12_) (0,0,0,())).1,(IntKind.wrap .i64 r1.2.1),(((List.getD (List.set b22 (Int.toNat t12_) ((IntKind.wrap .i64 r0.2.1),((List.getD b22 (Int.toNat t12_) (0,0,0,())).2).1,(((List.getD b22 (Int.toNat t12_) (0,0,0,())).2).2).1,())) (Int.toNat t12_) (0,0,0,())).2).2).1,())) (Int.toNat t12_) ((List.getD (List.set (List.set b22 (Int.toNat t12_) ((IntKind.wrap .i64 r0.2.1),((List.getD b22 (Int.toNat t12_) (0,0,0,())).2).1,(((List.getD b22 (Int.toNat t12_) (0,0,0,())).2).2).1,())) (Int.toNat t12_) ((List.getD (List.set b22 (Int.toNat t12_) ((IntKind.wrap .i64 r0.2.1),((List.getD b22 (Int.toNat t12_) (0,0,0,())).2).1,(((List.getD b22 (Int.toNat t12_) (0,0,0,())).2).2).1,())) (Int.toNat t12_) (0,0,0,())).1,(IntKind.wrap .i64 r1.2.1),(((List.getD (List.set b22 (Int.toNat t12_) ((IntKind.wrap .i64 r0.2.1),((List.getD b22 (Int.toNat t12_) (0,0,0,())).2).1,(((List.getD b22 (Int.toNat t12_) (0,0,0,())).2).2).1,())) (Int.toNat t12_) (0,0,0,())).2).2).1,())) (Int.toNat t12_) (0,0,0,())).1,((List.getD (List.set (List.set b22 (Int.toNat t12_) ((IntKind.wrap .i64 r0.2.1),((List.getD b22 (Int.toNat t12_) (0,0,0,())).2).1,(((List.getD b22 (Int.toNat t12_) (0,0,0,())).2).2).1,())) (Int.toNat t12_) ((List.getD (List.set b22 (Int.toNat t12_) ((IntKind.wrap .i64 r0.2.1),((List.getD b22 (Int.toNat t12_) (0,0,0,())).2).1,(((List.getD b22 (Int.toNat t12_) (0,0,0,())).2).2).1,())) (Int.toNat t12_) (0,0,0,())).1,(IntKind.wrap .i64 r1.2.1),(((List.getD (List.set b22 (Int.toNat t12_) ((IntKind.wrap .i64 r0.2.1),((List.getD b22 (Int.toNat t12_) (0,0,0,())).2).1,(((List.getD b22 (Int.toNat t12_) (0,0,0,())).2).2).1,())) (Int.toNat t12_) (0,0,0,())).2).2).1,())) (Int.toNat t12_) (0,0,0,())).2).1,(IntKind.wrap .i64 r2.2.1),())) l3 l5
 else none:=res_eq (by kernel_rfl)
theorem ag.L3_eq (t37_ b0 b02 b1 b12 b2 b22 b23 l3 l5):ag.L3 t37_ b0 b02 b1 b12 b2 b22 b23 l3 l5=
 bif (decide ((t37_:Int)<2)) then
  ag.L4 t37_ b0 b02 b1 b12 b2 b22 b23 l3 l5
 else
  bif (decide ((0:Int)≤0∧(0:Int)<3)) then
   (eh.F (b0,b02,()) (List.getD b22 (Int.toNat 0) (0,0,0,()))).bind fun r0=>
   bif (decide ((0:Int)≤1∧(1:Int)<3)) then
    (cj.F r0.1 (List.getD b22 (Int.toNat 1) (0,0,0,()))).bind fun r1=>
    bif (decide ((0:Int)≤2∧(2:Int)<3)) then
     (cj.F r1.1 (List.getD b22 (Int.toNat 2) (0,0,0,()))).bind fun r2=>
     (ak.F r2.1 1).bind fun r3=>
     ag.L5 r3.2.1 r3.1.1 r3.1.2.1 b1 b12 b2 b22 b23 r0.2.1.1.1 r0.2.1.1.2.1 r0.2.1.1.2.2.1 r0.2.1.2.1 r0.2.1.2.2.1 r0.2.1.2.2.2.1 l3 l5 r1.2.1 r2.2.1 l5
    else none
   else none
  else none:=res_eq (by kernel_rfl)
theorem ag.L4_eq (t37_ b0 b02 b1 b12 b2 b22 b23 l3 l5):ag.L4 t37_ b0 b02 b1 b12 b2 b22 b23 l3 l5=
 (ak.F (b0,b02,()) 1).bind fun r0=>
 bif (decide ((0:Int)≤t37_∧(t37_:Int)<2)) then
  ag.L3 (IntKind.wrap .i64 (t37_+1)) r0.1.1 r0.1.2.1 b1 b12 b2 b22 (List.set b23 (Int.toNat t37_) (IntKind.wrap .i64 r0.2.1)) l3 l5
 else none:=res_eq (by kernel_rfl)
theorem ag.L5_eq (n b0 b02 b1 b12 b2 b22 b23 b24 b25 b26 b27 b28 b29 l3 l5 l6 l7 l8):ag.L5 n b0 b02 b1 b12 b2 b22 b23 b24 b25 b26 b27 b28 b29 l3 l5 l6 l7 l8=
 bif (decide ((n:Int)>0)) then
  bif (!b02) then
   ag.L6 n b0 b02 b1 b12 b2 b22 b23 b24 b25 b26 b27 b28 b29 l3 l5 l6 l7 l8
  else
   (ak.F (b0,b02,()) 8).bind fun r0=>
   (ak.F r0.1 8).bind fun r1=>
   (ak.F r1.1 8).bind fun r2=>
   some (r2.1,(b2,b22,b23,((b24,b25,b26,()),b27,b28,b29,()),l6,l7,l8,(r0.2.1,r1.2.1,r2.2.1,()),()),())
 else
  (ak.F (b0,b02,()) 8).bind fun r0=>
  (ak.F r0.1 8).bind fun r1=>
  (ak.F r1.1 8).bind fun r2=>
  some (r2.1,(b2,b22,b23,((b24,b25,b26,()),b27,b28,b29,()),l6,l7,l8,(r0.2.1,r1.2.1,r2.2.1,()),()),()):=res_eq (by kernel_rfl)
theorem ag.L6_eq (n b0 b02 b1 b12 b2 b22 b23 b24 b25 b26 b27 b28 b29 l3 l5 l6 l7 l8):ag.L6 n b0 b02 b1 b12 b2 b22 b23 b24 b25 b26 b27 b28 b29 l3 l5 l6 l7 l8=
 (ak.F (b0,b02,()) 4).bind fun r0=>
 bif (lim ((List.length l8)+(List.length ([(IntKind.wrap .u32 r0.2.1)]:List Int))) (.int .u32)) then
  ag.L5 (IntKind.wrap .u64 (n - 1)) r0.1.1 r0.1.2.1 b1 b12 b2 b22 b23 b24 b25 b26 b27 b28 b29 l3 l5 l6 l7 (l8++([(IntKind.wrap .u32 r0.2.1)]:List Int))
 else none:=res_eq (by kernel_rfl)
theorem ag.F_eq (r):ag.F r=
 (ak.F r 1).bind fun r0=>
 ag.L1 0 r0.1.1 r0.1.2.1 (List.replicate 3 (0,0,0,())) (List.replicate 2 (0:Int)) (IntKind.wrap .u32 r0.2.1) (List.replicate 3 (0,0,0,())) ([]:List t9.den) ([]:List Int):=by kernel_rfl
def fe.sg:Sig:=⟨[.val (.int .u32)],[(.bool,true)]⟩
def fe.E:Env:=⟨tl,fun i=>look i [],[],eqs,globs,prims⟩
def fe.Fn:Fun:=fnOf fe.E fe.sg Tryz.f68
def fe.F (e:Int):Option (Bool × Unit):=fe.Fn.F (e,())
theorem fe.spec:FnSpec Tryz.prog globs 68 fe.Fn:=spec_of (E:=fe.E) (envOk_at tabOk eqOk primsOk (.nil)) mixOk Tryz.func68 (by kernel_rfl)
theorem fe.F_eq (e):fe.F e=
 some ((decide ((e:Int)>1000000)),()):=by kernel_rfl
def bo.sg:Sig:=⟨[.val (.slice (.int .u32)),.fn 68],[((.int .i64),true)]⟩
def bo.E:Env:=⟨tl,fun i=>look i [(68,fe.Fn)],[],eqs,globs,prims⟩
def bo.c:=cxOf bo.E bo.sg Tryz.f97
def bo.b:=body Tryz.f97
def bo.Fn:Fun:=fnOf bo.E bo.sg Tryz.f97
def bo.F (s:List Int):Option (Int × Unit):=bo.Fn.F (s,())
def bo.L1 (s:List Int) (t7_ t8_:Int):Option (Int × Unit):=res bo.c (atLoop bo.b [1,0,1,0]) ⟨[(0,(.v (.slice (.int .u32)) s)),(1,(.fn 68 [])),(7,(.v (.int .i64) t7_)),(8,(.v (.int .i64) t8_))],[],0,[]⟩
def bo.L2 (s:List Int) (t7_ t8_:Int):Option (Int × Unit):=res bo.c (atJoin bo.b [1,0,1,0,0,1,0]) ⟨[(0,(.v (.slice (.int .u32)) s)),(1,(.fn 68 [])),(7,(.v (.int .i64) t7_)),(8,(.v (.int .i64) t8_))],[],0,[]⟩
def bo.L3 (s:List Int) (t7_ t8_:Int):Option (Int × Unit):=res bo.c (atJoin bo.b [1,0,1,0,0,1,1,0,0,1,1]) ⟨[(0,(.v (.slice (.int .u32)) s)),(1,(.fn 68 [])),(7,(.v (.int .i64) t7_)),(8,(.v (.int .i64) t8_))],[],0,[]⟩
theorem bo.spec:FnSpec Tryz.prog globs 97 bo.Fn:=spec_of (E:=bo.E) (envOk_at tabOk eqOk primsOk (.cons fe.spec<|.nil)) mixOk Tryz.func97 (by kernel_rfl)
theorem bo.L1_eq (s t7_ t8_):bo.L1 s t7_ t8_=
 bif (decide ((t8_:Int)<t7_)) then
  bo.L2 s t7_ t8_
 else
  some ((-1),()):=res_eq (by kernel_rfl)
theorem bo.L2_eq (s t7_ t8_):bo.L2 s t7_ t8_=
 bif (decide ((0:Int)≤t8_∧(t8_:Int)<((List.length s:Int)))) then
  (fe.F (List.getD s (Int.toNat t8_) 0)).bind fun r0=>
  bif r0.1 then
   some (t8_,())
  else
   bo.L3 s t7_ t8_
 else none:=res_eq (by kernel_rfl)
theorem bo.L3_eq (s t7_ t8_):bo.L3 s t7_ t8_=
 bo.L1 s t7_ (IntKind.wrap .i64 (t8_+1)):=res_eq (by kernel_rfl)
theorem bo.F_eq (s):bo.F s=
 bo.L1 s ((List.length s:Int)) 0:=by kernel_rfl
def dz.sg:Sig:=⟨[.val (.slice (.int .u32)),.fn 68],[(.bool,true)]⟩
def dz.E:Env:=⟨tl,fun i=>look i [(97,bo.Fn),(68,fe.Fn)],[],eqs,globs,prims⟩
def dz.Fn:Fun:=fnOf dz.E dz.sg Tryz.f67
def dz.F (s:List Int):Option (Bool × Unit):=dz.Fn.F (s,())
theorem dz.spec:FnSpec Tryz.prog globs 67 dz.Fn:=spec_of (E:=dz.E) (envOk_at tabOk eqOk primsOk (.cons bo.spec<|.cons fe.spec<|.nil)) mixOk Tryz.func67 (by kernel_rfl)
theorem dz.F_eq (s):dz.F s=
 (bo.F s).bind fun r0=>
 some ((decide ((r0.1:Int)≥0)),()):=by kernel_rfl
def fd.sg:Sig:=⟨[.val t9,.io t11 false],[(.bool,true)]⟩
def fd.E:Env:=⟨tl,fun i=>look i [],[],eqs,globs,prims⟩
def fd.Fn:Fun:=fnOf fd.E fd.sg Tryz.f69
def fd.F (h:t9.den) (x1:t11.den):Option (t11.den × Bool × Unit):=fd.Fn.F (h,x1,())
theorem fd.spec:FnSpec Tryz.prog globs 69 fd.Fn:=spec_of (E:=fd.E) (envOk_at tabOk eqOk primsOk (.nil)) mixOk Tryz.func69 (by kernel_rfl)
theorem fd.F_eq (h x1):fd.F h x1=
 some (x1,(decide ((h.2.1.2.2.2.1:Int)>x1.1)),()):=by kernel_rfl
def fv.sg:Sig:=⟨[.val t9,.io (.int .u32) false],[(.bool,true)]⟩
def fv.E:Env:=⟨tl,fun i=>look i [],[],eqs,globs,prims⟩
def fv.Fn:Fun:=fnOf fv.E fv.sg Tryz.f173
def fv.F (h:t9.den) (x1:Int):Option (Int × Bool × Unit):=fv.Fn.F (h,x1,())
theorem fv.spec:FnSpec Tryz.prog globs 173 fv.Fn:=spec_of (E:=fv.E) (envOk_at tabOk eqOk primsOk (.nil)) mixOk Tryz.func173 (by kernel_rfl)
theorem fv.F_eq (h x1):fv.F h x1=
 some (x1,(h.1==x1),()):=by kernel_rfl
def ba.sg:Sig:=⟨[.val (.slice t9),.clo 173 (.int .u32)],[((.int .i64),true)]⟩
def ba.E:Env:=⟨tl,fun i=>look i [(173,fv.Fn)],[],eqs,globs,prims⟩
def ba.c:=cxOf ba.E ba.sg Tryz.f101
def ba.b:=body Tryz.f101
def ba.Fn:Fun:=fnOf ba.E ba.sg Tryz.f101
def ba.F (s:List t9.den) (f:Int):Option (Int × Int × Unit):=ba.Fn.F (s,f,())
def ba.L1 (s:List t9.den) (t7_ t8_ b0:Int):Option (Int × Int × Unit):=res ba.c (atLoop ba.b [1,0,1,0]) ⟨[(0,(.v (.slice t9) s)),(1,(.fn 173 [(.ptr 0 [])])),(7,(.v (.int .i64) t7_)),(8,(.v (.int .i64) t8_))],[(0,some (.box (.v (.int .u32) b0)))],1,[(.ptr 0 [])]⟩
def ba.L2 (s:List t9.den) (t7_ t8_ b0:Int):Option (Int × Int × Unit):=res ba.c (atJoin ba.b [1,0,1,0,0,1,0]) ⟨[(0,(.v (.slice t9) s)),(1,(.fn 173 [(.ptr 0 [])])),(7,(.v (.int .i64) t7_)),(8,(.v (.int .i64) t8_))],[(0,some (.box (.v (.int .u32) b0)))],1,[(.ptr 0 [])]⟩
def ba.L3 (s:List t9.den) (t7_ t8_ b0:Int):Option (Int × Int × Unit):=res ba.c (atJoin ba.b [1,0,1,0,0,1,1,0,0,1,1]) ⟨[(0,(.v (.slice t9) s)),(1,(.fn 173 [(.ptr 0 [])])),(7,(.v (.int .i64) t7_)),(8,(.v (.int .i64) t8_))],[(0,some (.box (.v (.int .u32) b0)))],1,[(.ptr 0 [])]⟩
theorem ba.spec:FnSpec Tryz.prog globs 101 ba.Fn:=spec_of (E:=ba.E) (envOk_at tabOk eqOk primsOk (.cons fv.spec<|.nil)) mixOk Tryz.func101 (by kernel_rfl)
theorem ba.L1_eq (s t7_ t8_ b0):ba.L1 s t7_ t8_ b0=
 bif (decide ((t8_:Int)<t7_)) then
  ba.L2 s t7_ t8_ b0
 else
  some (b0,(-1),()):=res_eq (by kernel_rfl)
theorem ba.L2_eq (s t7_ t8_ b0):ba.L2 s t7_ t8_ b0=
 bif (decide ((0:Int)≤t8_∧(t8_:Int)<((List.length s:Int)))) then
  (fv.F (List.getD s (Int.toNat t8_) d9_) b0).bind fun r0=>
  bif r0.2.1 then
   some (r0.1,t8_,())
  else
   ba.L3 s t7_ t8_ r0.1
 else none:=res_eq (by kernel_rfl)
theorem ba.L3_eq (s t7_ t8_ b0):ba.L3 s t7_ t8_ b0=
 ba.L1 s t7_ (IntKind.wrap .i64 (t8_+1)) b0:=res_eq (by kernel_rfl)
theorem ba.F_eq (s f):ba.F s f=
 ba.L1 s ((List.length s:Int)) 0 f:=by kernel_rfl
def ge.sg:Sig:=⟨[.val (.slice t9),.val (.int .u32)],[((.int .i64),true)]⟩
def ge.E:Env:=⟨tl,fun i=>look i [(173,fv.Fn),(101,ba.Fn)],[],eqs,globs,prims⟩
def ge.Fn:Fun:=fnOf ge.E ge.sg Tryz.f137
def ge.F (l:List t9.den) (key:Int):Option (Int × Unit):=ge.Fn.F (l,key,())
theorem ge.spec:FnSpec Tryz.prog globs 137 ge.Fn:=spec_of (E:=ge.E) (envOk_at tabOk eqOk primsOk (.cons fv.spec<|.cons ba.spec<|.nil)) mixOk Tryz.func137 (by kernel_rfl)
theorem ge.F_eq (l key):ge.F l key=
 (ba.F l key).bind fun r0=>
 some (r0.2.1,()):=by kernel_rfl
def da.sg:Sig:=⟨[.val (.slice t9),.val (.int .i64),.val t0,.val (.int .u32)],[(.bool,true)]⟩
def da.E:Env:=⟨tl,fun i=>look i [(99,d9.Fn),(137,ge.Fn)],[],eqs,globs,prims⟩
def da.c:=cxOf da.E da.sg Tryz.f100
def da.b:=body Tryz.f100
def da.Fn:Fun:=fnOf da.E da.sg Tryz.f100
def da.F (l:List t9.den) (most:Int) (limit:t0.den) (key:Int):Option (Bool × Unit):=da.Fn.F (l,most,limit,key,())
def da.L1 (l:List t9.den) (key b0:Int) (b02 b03:Int):Option (Bool × Unit):=res da.c (atJoin da.b [1,0,1]) ⟨[(0,(.v (.slice t9) l)),(3,(.v (.int .u32) key)),(6,(.ptr 0 []))],[(0,some (.box (.agg [(.v (.int .i64) b0),(.v (.int .i64) b02),(.v (.int .i64) b03)])))],1,[]⟩
def da.L2 (l:List t9.den) (key t16_:Int) (t17_ b0:Int) (b02 b03:Int):Option (Bool × Unit):=res da.c (atLoop da.b [1,1,0,1,0]) ⟨[(0,(.v (.slice t9) l)),(3,(.v (.int .u32) key)),(6,(.ptr 0 [])),(15,(.v (.slice t9) l)),(16,(.v (.int .i64) t16_)),(17,(.v (.int .i64) t17_))],[(0,some (.box (.agg [(.v (.int .i64) b0),(.v (.int .i64) b02),(.v (.int .i64) b03)])))],1,[]⟩
def da.L3 (l:List t9.den) (key t16_:Int) (t17_ b0:Int) (b02 b03:Int):Option (Bool × Unit):=res da.c (atJoin da.b [1,1,0,1,0,0,1,0]) ⟨[(0,(.v (.slice t9) l)),(3,(.v (.int .u32) key)),(6,(.ptr 0 [])),(15,(.v (.slice t9) l)),(16,(.v (.int .i64) t16_)),(17,(.v (.int .i64) t17_))],[(0,some (.box (.agg [(.v (.int .i64) b0),(.v (.int .i64) b02),(.v (.int .i64) b03)])))],1,[]⟩
def da.L4 (l:List t9.den) (key t16_:Int) (t17_ b0:Int) (b02 b03:Int):Option (Bool × Unit):=res da.c (atJoin da.b [1,1,0,1,0,0,1,1,0,0,1,1]) ⟨[(0,(.v (.slice t9) l)),(3,(.v (.int .u32) key)),(6,(.ptr 0 [])),(15,(.v (.slice t9) l)),(16,(.v (.int .i64) t16_)),(17,(.v (.int .i64) t17_))],[(0,some (.box (.agg [(.v (.int .i64) b0),(.v (.int .i64) b02),(.v (.int .i64) b03)])))],1,[]⟩
theorem da.spec:FnSpec Tryz.prog globs 100 da.Fn:=spec_of (E:=da.E) (envOk_at tabOk eqOk primsOk (.cons d9.spec<|.cons ge.spec<|.nil)) mixOk Tryz.func100 (by kernel_rfl)
theorem da.L1_eq (l key b0 b02 b03):da.L1 l key b0 b02 b03=
 da.L2 l key ((List.length l:Int)) 0 b0 b02 b03:=res_eq (by kernel_rfl)
theorem da.L2_eq (l key t16_ t17_ b0 b02 b03):da.L2 l key t16_ t17_ b0 b02 b03=
 bif (decide ((t17_:Int)<t16_)) then
  da.L3 l key t16_ t17_ b0 b02 b03
 else
  some (true,()):=res_eq (by kernel_rfl)
theorem da.L3_eq (l key t16_ t17_ b0 b02 b03):da.L3 l key t16_ t17_ b0 b02 b03=
 bif (decide ((0:Int)≤t17_∧(t17_:Int)<((List.length l:Int)))) then
  bif (decide ((((List.getD l (Int.toNat t17_) d9_).1):Int)>key)) then
   some (false,())
  else
   bif (decide ((0:Int)≤0∧(0:Int)≤t17_∧(t17_:Int)≤((List.length l:Int)))) then
    (ge.F (List.take ((Int.toNat t17_) - (Int.toNat 0)) (List.drop (Int.toNat 0) l)) ((List.getD l (Int.toNat t17_) d9_).1)).bind fun r0=>
    bif (decide ((r0.1:Int)≥0)) then
     some (false,())
    else
     bif (!(Ty.beq t0 ((((List.getD l (Int.toNat t17_) d9_).2).1).1) (b0,b02,b03,()))) then
      some (false,())
     else
      (d9.F (((List.getD l (Int.toNat t17_) d9_).2).1)).bind fun r1=>
      bif (r1.1 !=0) then
       some (false,())
      else
       da.L4 l key t16_ t17_ b0 b02 b03
   else none
 else none:=res_eq (by kernel_rfl)
theorem da.L4_eq (l key t16_ t17_ b0 b02 b03):da.L4 l key t16_ t17_ b0 b02 b03=
 da.L2 l key t16_ (IntKind.wrap .i64 (t17_+1)) b0 b02 b03:=res_eq (by kernel_rfl)
theorem da.F_eq (l most limit key):da.F l most limit key=
 bif (decide ((((List.length l:Int)):Int)>most)) then
  some (false,())
 else
  da.L1 l key limit.1 limit.2.1 limit.2.2.1:=by kernel_rfl
def bq.sg:Sig:=⟨[.val t10],[(.bool,true)]⟩
def bq.E:Env:=⟨tl,fun i=>look i [(98,cy.Fn),(99,d9.Fn),(100,da.Fn)],[],eqs,globs,prims⟩
def bq.c:=cxOf bq.E bq.sg Tryz.f70
def bq.b:=body Tryz.f70
def bq.Fn:Fun:=fnOf bq.E bq.sg Tryz.f70
def bq.F (a:t10.den):Option (Bool × Unit):=bq.Fn.F (a,())
def bq.L1 (t7_:List t0.den) (t8_ b0:Int) (b02:List Int) (b03 b04:Int) (b05 b06:Int) (b07 b08:Int) (b09 b010:List t9.den) (b011:List Int) (b012 b013 b014:Int):Option (Bool × Unit):=res bq.c (atLoop bq.b [1,0,1,0]) ⟨[(1,(.ptr 0 [])),(7,(.v (.arr 3 t0) t7_)),(8,(.v (.int .i64) t8_))],[(0,some (.box (.agg [(.v (.int .u32) b0),(.v (.arr 3 t0) t7_),(.v (.arr 2 (.int .i64)) b02),(.agg [(.agg [(.v (.int .i64) b03),(.v (.int .i64) b04),(.v (.int .i64) b05)]),(.v (.int .i64) b06),(.v (.int .i64) b07),(.v (.int .u64) b08)]),(.v (.slice t9) b09),(.v (.slice t9) b010),(.v (.slice (.int .u32)) b011),(.agg [(.v (.int .u64) b012),(.v (.int .u64) b013),(.v (.int .u64) b014)])])))],1,[]⟩
def bq.L2 (t7_:List t0.den) (t8_ b0:Int) (b02:List Int) (b03 b04:Int) (b05 b06:Int) (b07 b08:Int) (b09 b010:List t9.den) (b011:List Int) (b012 b013 b014:Int):Option (Bool × Unit):=res bq.c (atJoin bq.b [1,0,1,0,0,1,0]) ⟨[(1,(.ptr 0 [])),(7,(.v (.arr 3 t0) t7_)),(8,(.v (.int .i64) t8_))],[(0,some (.box (.agg [(.v (.int .u32) b0),(.v (.arr 3 t0) t7_),(.v (.arr 2 (.int .i64)) b02),(.agg [(.agg [(.v (.int .i64) b03),(.v (.int .i64) b04),(.v (.int .i64) b05)]),(.v (.int .i64) b06),(.v (.int .i64) b07),(.v (.int .u64) b08)]),(.v (.slice t9) b09),(.v (.slice t9) b010),(.v (.slice (.int .u32)) b011),(.agg [(.v (.int .u64) b012),(.v (.int .u64) b013),(.v (.int .u64) b014)])])))],1,[]⟩
def bq.L3 (i b0:Int) (b02:List t0.den) (b03:List Int) (b04 b05:Int) (b06 b07:Int) (b08 b09:Int) (b010 b011:List t9.den) (b012:List Int) (b013 b014 b015:Int):Option (Bool × Unit):=res bq.c (atLoop bq.b [1,1,0,1,0]) ⟨[(1,(.ptr 0 [])),(5,(.v (.int .i64) i))],[(0,some (.box (.agg [(.v (.int .u32) b0),(.v (.arr 3 t0) b02),(.v (.arr 2 (.int .i64)) b03),(.agg [(.agg [(.v (.int .i64) b04),(.v (.int .i64) b05),(.v (.int .i64) b06)]),(.v (.int .i64) b07),(.v (.int .i64) b08),(.v (.int .u64) b09)]),(.v (.slice t9) b010),(.v (.slice t9) b011),(.v (.slice (.int .u32)) b012),(.agg [(.v (.int .u64) b013),(.v (.int .u64) b014),(.v (.int .u64) b015)])])))],1,[]⟩
def bq.L4 (i b0:Int) (b02:List t0.den) (b03:List Int) (b04 b05:Int) (b06 b07:Int) (b08 b09:Int) (b010 b011:List t9.den) (b012:List Int) (b013 b014 b015:Int):Option (Bool × Unit):=res bq.c (atJoin bq.b [1,1,0,1,0,0,0,1]) ⟨[(1,(.ptr 0 [])),(5,(.v (.int .i64) i))],[(0,some (.box (.agg [(.v (.int .u32) b0),(.v (.arr 3 t0) b02),(.v (.arr 2 (.int .i64)) b03),(.agg [(.agg [(.v (.int .i64) b04),(.v (.int .i64) b05),(.v (.int .i64) b06)]),(.v (.int .i64) b07),(.v (.int .i64) b08),(.v (.int .u64) b09)]),(.v (.slice t9) b010),(.v (.slice t9) b011),(.v (.slice (.int .u32)) b012),(.agg [(.v (.int .u64) b013),(.v (.int .u64) b014),(.v (.int .u64) b015)])])))],1,[]⟩
def bq.L5 (b0:Int) (b02:List t0.den) (b03:List Int) (b04 b05:Int) (b06 b07:Int) (b08 b09:Int) (b010 b011:List t9.den) (b012:List Int) (b013 b014 b015:Int):Option (Bool × Unit):=res bq.c (atJoin bq.b [1,1,1,0,1]) ⟨[(1,(.ptr 0 []))],[(0,some (.box (.agg [(.v (.int .u32) b0),(.v (.arr 3 t0) b02),(.v (.arr 2 (.int .i64)) b03),(.agg [(.agg [(.v (.int .i64) b04),(.v (.int .i64) b05),(.v (.int .i64) b06)]),(.v (.int .i64) b07),(.v (.int .i64) b08),(.v (.int .u64) b09)]),(.v (.slice t9) b010),(.v (.slice t9) b011),(.v (.slice (.int .u32)) b012),(.agg [(.v (.int .u64) b013),(.v (.int .u64) b014),(.v (.int .u64) b015)])])))],1,[]⟩
def bq.L6 (i b0:Int) (b02:List t0.den) (b03:List Int) (b04 b05:Int) (b06 b07:Int) (b08 b09:Int) (b010 b011:List t9.den) (b012:List Int) (b013 b014 b015:Int):Option (Bool × Unit):=res bq.c (atJoin bq.b [1,1,0,1,0,0,1,0,0,1]) ⟨[(1,(.ptr 0 [])),(5,(.v (.int .i64) i))],[(0,some (.box (.agg [(.v (.int .u32) b0),(.v (.arr 3 t0) b02),(.v (.arr 2 (.int .i64)) b03),(.agg [(.agg [(.v (.int .i64) b04),(.v (.int .i64) b05),(.v (.int .i64) b06)]),(.v (.int .i64) b07),(.v (.int .i64) b08),(.v (.int .u64) b09)]),(.v (.slice t9) b010),(.v (.slice t9) b011),(.v (.slice (.int .u32)) b012),(.agg [(.v (.int .u64) b013),(.v (.int .u64) b014),(.v (.int .u64) b015)])])))],1,[]⟩
def bq.L7 (t7_:List t0.den) (t8_ b0:Int) (b02:List Int) (b03 b04:Int) (b05 b06:Int) (b07 b08:Int) (b09 b010:List t9.den) (b011:List Int) (b012 b013 b014:Int):Option (Bool × Unit):=res bq.c (atJoin bq.b [1,0,1,0,0,1,1,0,0,1,1]) ⟨[(1,(.ptr 0 [])),(7,(.v (.arr 3 t0) t7_)),(8,(.v (.int .i64) t8_))],[(0,some (.box (.agg [(.v (.int .u32) b0),(.v (.arr 3 t0) t7_),(.v (.arr 2 (.int .i64)) b02),(.agg [(.agg [(.v (.int .i64) b03),(.v (.int .i64) b04),(.v (.int .i64) b05)]),(.v (.int .i64) b06),(.v (.int .i64) b07),(.v (.int .u64) b08)]),(.v (.slice t9) b09),(.v (.slice t9) b010),(.v (.slice (.int .u32)) b011),(.agg [(.v (.int .u64) b012),(.v (.int .u64) b013),(.v (.int .u64) b014)])])))],1,[]⟩
theorem bq.spec:FnSpec Tryz.prog globs 70 bq.Fn:=spec_of (E:=bq.E) (envOk_at tabOk eqOk primsOk (.cons cy.spec<|.cons d9.spec<|.cons da.spec<|.nil)) mixOk Tryz.func70 (by kernel_rfl)
theorem bq.L1_eq (t7_ t8_ b0 b02 b03 b04 b05 b06 b07 b08 b09 b010 b011 b012 b013 b014):bq.L1 t7_ t8_ b0 b02 b03 b04 b05 b06 b07 b08 b09 b010 b011 b012 b013 b014=
 bif (decide ((t8_:Int)<3)) then
  bq.L2 t7_ t8_ b0 b02 b03 b04 b05 b06 b07 b08 b09 b010 b011 b012 b013 b014
 else
  bq.L3 1 b0 t7_ b02 b03 b04 b05 b06 b07 b08 b09 b010 b011 b012 b013 b014:=res_eq (by kernel_rfl)
theorem bq.L2_eq (t7_ t8_ b0 b02 b03 b04 b05 b06 b07 b08 b09 b010 b011 b012 b013 b014):bq.L2 t7_ t8_ b0 b02 b03 b04 b05 b06 b07 b08 b09 b010 b011 b012 b013 b014=
 bif (decide ((0:Int)≤t8_∧(t8_:Int)<3)) then
  (cy.F (List.getD t7_ (Int.toNat t8_) (0,0,0,()))).bind fun r0=>
  bif (r0.1 !=0) then
   some (false,())
  else
   bif (decide ((t8_:Int)<2)) then
    bif (decide ((0:Int)≤t8_∧(t8_:Int)<2)) then
     bif (decide (((List.getD b02 (Int.toNat t8_) 0):Int)<1)) then
      some (false,())
     else
      bif (decide ((0:Int)≤t8_∧(t8_:Int)<2)) then
       bif (decide (((List.getD b02 (Int.toNat t8_) 0):Int)>8)) then
        some (false,())
       else
        bq.L7 t7_ t8_ b0 b02 b03 b04 b05 b06 b07 b08 b09 b010 b011 b012 b013 b014
      else none
    else none
   else
    bq.L7 t7_ t8_ b0 b02 b03 b04 b05 b06 b07 b08 b09 b010 b011 b012 b013 b014
 else none:=res_eq (by kernel_rfl)
theorem bq.L3_eq (i b0 b02 b03 b04 b05 b06 b07 b08 b09 b010 b011 b012 b013 b014 b015):bq.L3 i b0 b02 b03 b04 b05 b06 b07 b08 b09 b010 b011 b012 b013 b014 b015=
 bif (decide ((i:Int)<((List.length b012:Int)))) then
  bq.L4 i b0 b02 b03 b04 b05 b06 b07 b08 b09 b010 b011 b012 b013 b014 b015
 else
  bif (decide ((b0:Int)≥16)) then
   some (false,())
  else
   bif (decide ((((List.length b012:Int)):Int)>8)) then
    some (false,())
   else
    bif (decide ((0:Int)≤0∧(0:Int)<3)) then
     bif (!(Ty.beq t0 (b04,b05,b06,()) (List.getD b02 (Int.toNat 0) (0,0,0,())))) then
      some (false,())
     else
      (d9.F ((b04,b05,b06,()),b07,b08,b09,())).bind fun r0=>
      bif (r0.1 !=0) then
       some (false,())
      else
       bq.L5 b0 b02 b03 b04 b05 b06 b07 b08 b09 b010 b011 b012 b013 b014 b015
    else none:=res_eq (by kernel_rfl)
theorem bq.L4_eq (i b0 b02 b03 b04 b05 b06 b07 b08 b09 b010 b011 b012 b013 b014 b015):bq.L4 i b0 b02 b03 b04 b05 b06 b07 b08 b09 b010 b011 b012 b013 b014 b015=
 bif (decide ((0:Int)≤i∧(i:Int)<((List.length b012:Int)))) then
  bif (decide ((0:Int)≤(IntKind.wrap .i64 (i - 1))∧((IntKind.wrap .i64 (i - 1)):Int)<((List.length b012:Int)))) then
   bif (decide (((List.getD b012 (Int.toNat i) 0):Int)≤(List.getD b012 (Int.toNat (IntKind.wrap .i64 (i - 1))) 0))) then
    some (false,())
   else
    bq.L6 i b0 b02 b03 b04 b05 b06 b07 b08 b09 b010 b011 b012 b013 b014 b015
  else none
 else none:=res_eq (by kernel_rfl)
theorem bq.L5_eq (b0 b02 b03 b04 b05 b06 b07 b08 b09 b010 b011 b012 b013 b014 b015):bq.L5 b0 b02 b03 b04 b05 b06 b07 b08 b09 b010 b011 b012 b013 b014 b015=
 bif (decide ((0:Int)≤0∧(0:Int)<2)) then
  bif (decide ((0:Int)≤1∧(1:Int)<3)) then
   (da.F b010 (List.getD b03 (Int.toNat 0) 0) (List.getD b02 (Int.toNat 1) (0,0,0,())) 4294967295).bind fun r0=>
   bif r0.1 then
    bif (decide ((0:Int)≤1∧(1:Int)<2)) then
     bif (decide ((0:Int)≤2∧(2:Int)<3)) then
      (da.F b011 (List.getD b03 (Int.toNat 1) 0) (List.getD b02 (Int.toNat 2) (0,0,0,())) 65535).bind fun r1=>
      some (r1.1,())
     else none
    else none
   else
    some (false,())
  else none
 else none:=res_eq (by kernel_rfl)
theorem bq.L6_eq (i b0 b02 b03 b04 b05 b06 b07 b08 b09 b010 b011 b012 b013 b014 b015):bq.L6 i b0 b02 b03 b04 b05 b06 b07 b08 b09 b010 b011 b012 b013 b014 b015=
 bq.L3 (IntKind.wrap .i64 (i+1)) b0 b02 b03 b04 b05 b06 b07 b08 b09 b010 b011 b012 b013 b014 b015:=res_eq (by kernel_rfl)
theorem bq.L7_eq (t7_ t8_ b0 b02 b03 b04 b05 b06 b07 b08 b09 b010 b011 b012 b013 b014):bq.L7 t7_ t8_ b0 b02 b03 b04 b05 b06 b07 b08 b09 b010 b011 b012 b013 b014=
 bq.L1 t7_ (IntKind.wrap .i64 (t8_+1)) b0 b02 b03 b04 b05 b06 b07 b08 b09 b010 b011 b012 b013 b014:=res_eq (by kernel_rfl)
theorem bq.F_eq (a):bq.F a=
 bq.L1 a.2.1 0 a.1 a.2.2.1 a.2.2.2.1.1.1 a.2.2.2.1.1.2.1 a.2.2.2.1.1.2.2.1 a.2.2.2.1.2.1 a.2.2.2.1.2.2.1 a.2.2.2.1.2.2.2.1 a.2.2.2.2.1 a.2.2.2.2.2.1 a.2.2.2.2.2.2.1 a.2.2.2.2.2.2.2.1.1 a.2.2.2.2.2.2.2.1.2.1 a.2.2.2.2.2.2.2.1.2.2.1:=by kernel_rfl
def bi.sg:Sig:=⟨[.val (.slice t9),.clo 69 t11],[((.int .i64),true)]⟩
def bi.E:Env:=⟨tl,fun i=>look i [(69,fd.Fn)],[],eqs,globs,prims⟩
def bi.c:=cxOf bi.E bi.sg Tryz.f101
def bi.b:=body Tryz.f101
def bi.Fn:Fun:=fnOf bi.E bi.sg Tryz.f101
def bi.F (s:List t9.den) (f:t11.den):Option (t11.den × Int × Unit):=bi.Fn.F (s,f,())
def bi.L1 (s:List t9.den) (t7_ t8_ b0:Int) (b02 b03:List Int) (b04:List t10.den):Option (t11.den × Int × Unit):=res bi.c (atLoop bi.b [1,0,1,0]) ⟨[(0,(.v (.slice t9) s)),(1,(.fn 69 [(.ptr 0 [])])),(7,(.v (.int .i64) t7_)),(8,(.v (.int .i64) t8_))],[(0,some (.box (.agg [(.v (.int .u64) b0),(.v (.arr 32 (.int .u8)) b02),(.v (.arr 16 (.int .u32)) b03),(.v (.slice t10) b04)])))],1,[(.ptr 0 [])]⟩
def bi.L2 (s:List t9.den) (t7_ t8_ b0:Int) (b02 b03:List Int) (b04:List t10.den):Option (t11.den × Int × Unit):=res bi.c (atJoin bi.b [1,0,1,0,0,1,0]) ⟨[(0,(.v (.slice t9) s)),(1,(.fn 69 [(.ptr 0 [])])),(7,(.v (.int .i64) t7_)),(8,(.v (.int .i64) t8_))],[(0,some (.box (.agg [(.v (.int .u64) b0),(.v (.arr 32 (.int .u8)) b02),(.v (.arr 16 (.int .u32)) b03),(.v (.slice t10) b04)])))],1,[(.ptr 0 [])]⟩
def bi.L3 (s:List t9.den) (t7_ t8_ b0:Int) (b02 b03:List Int) (b04:List t10.den):Option (t11.den × Int × Unit):=res bi.c (atJoin bi.b [1,0,1,0,0,1,1,0,0,1,1]) ⟨[(0,(.v (.slice t9) s)),(1,(.fn 69 [(.ptr 0 [])])),(7,(.v (.int .i64) t7_)),(8,(.v (.int .i64) t8_))],[(0,some (.box (.agg [(.v (.int .u64) b0),(.v (.arr 32 (.int .u8)) b02),(.v (.arr 16 (.int .u32)) b03),(.v (.slice t10) b04)])))],1,[(.ptr 0 [])]⟩
theorem bi.spec:FnSpec Tryz.prog globs 101 bi.Fn:=spec_of (E:=bi.E) (envOk_at tabOk eqOk primsOk (.cons fd.spec<|.nil)) mixOk Tryz.func101 (by kernel_rfl)
theorem bi.L1_eq (s t7_ t8_ b0 b02 b03 b04):bi.L1 s t7_ t8_ b0 b02 b03 b04=
 bif (decide ((t8_:Int)<t7_)) then
  bi.L2 s t7_ t8_ b0 b02 b03 b04
 else
  some ((b0,b02,b03,b04,()),(-1),()):=res_eq (by kernel_rfl)
theorem bi.L2_eq (s t7_ t8_ b0 b02 b03 b04):bi.L2 s t7_ t8_ b0 b02 b03 b04=
 bif (decide ((0:Int)≤t8_∧(t8_:Int)<((List.length s:Int)))) then
  (fd.F (List.getD s (Int.toNat t8_) d9_) (b0,b02,b03,b04,())).bind fun r0=>
  bif r0.2.1 then
   some (r0.1,t8_,())
  else
   bi.L3 s t7_ t8_ r0.1.1 r0.1.2.1 r0.1.2.2.1 r0.1.2.2.2.1
 else none:=res_eq (by kernel_rfl)
theorem bi.L3_eq (s t7_ t8_ b0 b02 b03 b04):bi.L3 s t7_ t8_ b0 b02 b03 b04=
 bi.L1 s t7_ (IntKind.wrap .i64 (t8_+1)) b0 b02 b03 b04:=res_eq (by kernel_rfl)
theorem bi.F_eq (s f):bi.F s f=
 bi.L1 s ((List.length s:Int)) 0 f.1 f.2.1 f.2.2.1 f.2.2.2.1:=by kernel_rfl
def du.sg:Sig:=⟨[.val (.slice t9),.clo 69 t11],[(.bool,true)]⟩
def du.E:Env:=⟨tl,fun i=>look i [(101,bi.Fn),(69,fd.Fn)],[],eqs,globs,prims⟩
def du.Fn:Fun:=fnOf du.E du.sg Tryz.f71
def du.F (s:List t9.den) (f:t11.den):Option (t11.den × Bool × Unit):=du.Fn.F (s,f,())
theorem du.spec:FnSpec Tryz.prog globs 71 du.Fn:=spec_of (E:=du.E) (envOk_at tabOk eqOk primsOk (.cons bi.spec<|.cons fd.spec<|.nil)) mixOk Tryz.func71 (by kernel_rfl)
theorem du.F_eq (s f):du.F s f=
 (bi.F s f).bind fun r0=>
 some (r0.1,(decide ((r0.2.1:Int)≥0)),()):=by kernel_rfl
def cx.sg:Sig:=⟨[.val t11],[((.int .i64),true)]⟩
def cx.E:Env:=⟨tl,fun i=>look i [(67,dz.Fn),(68,fe.Fn),(69,fd.Fn),(70,bq.Fn),(71,du.Fn)],[],eqs,globs,prims⟩
def cx.c:=cxOf cx.E cx.sg Tryz.f46
def cx.b:=body Tryz.f46
def cx.Fn:Fun:=fnOf cx.E cx.sg Tryz.f46
def cx.F (m:t11.den):Option (Int × Unit):=cx.Fn.F (m,())
def cx.L1 (b0:Int) (b02 b03:List Int) (b04:List t10.den):Option (Int × Unit):=res cx.c (atJoin cx.b [1,0,1]) ⟨[(1,(.ptr 0 []))],[(0,some (.box (.agg [(.v (.int .u64) b0),(.v (.arr 32 (.int .u8)) b02),(.v (.arr 16 (.int .u32)) b03),(.v (.slice t10) b04)])))],1,[]⟩
def cx.L2 (t17_:List t10.den) (t18_ t19_ b0:Int) (b02 b03:List Int) (b04:List t10.den):Option (Int × Unit):=res cx.c (atLoop cx.b [1,1,1,0,1,0]) ⟨[(1,(.ptr 0 [])),(3,(.fn 69 [(.ptr 0 [])])),(17,(.v (.slice t10) t17_)),(18,(.v (.int .i64) t18_)),(19,(.v (.int .i64) t19_))],[(0,some (.box (.agg [(.v (.int .u64) b0),(.v (.arr 32 (.int .u8)) b02),(.v (.arr 16 (.int .u32)) b03),(.v (.slice t10) b04)])))],1,[]⟩
def cx.L3 (t17_:List t10.den) (t18_ t19_ b0:Int) (b02 b03:List Int) (b04:List t10.den):Option (Int × Unit):=res cx.c (atJoin cx.b [1,1,1,0,1,0,0,1,0]) ⟨[(1,(.ptr 0 [])),(3,(.fn 69 [(.ptr 0 [])])),(17,(.v (.slice t10) t17_)),(18,(.v (.int .i64) t18_)),(19,(.v (.int .i64) t19_))],[(0,some (.box (.agg [(.v (.int .u64) b0),(.v (.arr 32 (.int .u8)) b02),(.v (.arr 16 (.int .u32)) b03),(.v (.slice t10) b04)])))],1,[]⟩
def cx.L4 (t17_:List t10.den) (t18_ t19_ b0:Int) (b02 b03:List Int) (b04:List t10.den):Option (Int × Unit):=res cx.c (atJoin cx.b [1,1,1,0,1,0,0,1,1,0,0,1,1]) ⟨[(1,(.ptr 0 [])),(3,(.fn 69 [(.ptr 0 [])])),(17,(.v (.slice t10) t17_)),(18,(.v (.int .i64) t18_)),(19,(.v (.int .i64) t19_))],[(0,some (.box (.agg [(.v (.int .u64) b0),(.v (.arr 32 (.int .u8)) b02),(.v (.arr 16 (.int .u32)) b03),(.v (.slice t10) b04)])))],1,[]⟩
theorem cx.spec:FnSpec Tryz.prog globs 46 cx.Fn:=spec_of (E:=cx.E) (envOk_at tabOk eqOk primsOk (.cons dz.spec<|.cons fe.spec<|.cons fd.spec<|.cons bq.spec<|.cons du.spec<|.nil)) mixOk Tryz.func46 (by kernel_rfl)
theorem cx.L1_eq (b0 b02 b03 b04):cx.L1 b0 b02 b03 b04=
 cx.L2 b04 ((List.length b04:Int)) 0 b0 b02 b03 b04:=res_eq (by kernel_rfl)
theorem cx.L2_eq (t17_ t18_ t19_ b0 b02 b03 b04):cx.L2 t17_ t18_ t19_ b0 b02 b03 b04=
 bif (decide ((t19_:Int)<t18_)) then
  cx.L3 t17_ t18_ t19_ b0 b02 b03 b04
 else
  some (0,()):=res_eq (by kernel_rfl)
theorem cx.L3_eq (t17_ t18_ t19_ b0 b02 b03 b04):cx.L3 t17_ t18_ t19_ b0 b02 b03 b04=
 bif (decide ((0:Int)≤t19_∧(t19_:Int)<((List.length t17_:Int)))) then
  (bq.F (List.getD t17_ (Int.toNat t19_) d10_)).bind fun r0=>
  bif (!r0.1) then
   some (8,())
  else
   bif (decide (((((((((((List.getD t17_ (Int.toNat t19_) d10_).2).2).2).1).2).2).2).1):Int)>b0)) then
    some (8,())
   else
    (du.F ((((((List.getD t17_ (Int.toNat t19_) d10_).2).2).2).2).1) (b0,b02,b03,b04,())).bind fun r1=>
    bif r1.2.1 then
     some (8,())
    else
     (du.F (((((((List.getD t17_ (Int.toNat t19_) d10_).2).2).2).2).2).1) r1.1).bind fun r2=>
     bif r2.2.1 then
      some (8,())
     else
      bif (decide ((t19_:Int)>0)) then
       bif (decide ((0:Int)≤(IntKind.wrap .i64 (t19_ - 1))∧((IntKind.wrap .i64 (t19_ - 1)):Int)<((List.length r2.1.2.2.2.1:Int)))) then
        bif (decide ((((List.getD r2.1.2.2.2.1 (Int.toNat (IntKind.wrap .i64 (t19_ - 1))) d10_).1):Int)≥((List.getD t17_ (Int.toNat t19_) d10_).1))) then
         some (8,())
        else
         cx.L4 t17_ t18_ t19_ r2.1.1 r2.1.2.1 r2.1.2.2.1 r2.1.2.2.2.1
       else none
      else
       cx.L4 t17_ t18_ t19_ r2.1.1 r2.1.2.1 r2.1.2.2.1 r2.1.2.2.2.1
 else none:=res_eq (by kernel_rfl)
theorem cx.L4_eq (t17_ t18_ t19_ b0 b02 b03 b04):cx.L4 t17_ t18_ t19_ b0 b02 b03 b04=
 cx.L2 t17_ t18_ (IntKind.wrap .i64 (t19_+1)) b0 b02 b03 b04:=res_eq (by kernel_rfl)
theorem cx.F_eq (m):cx.F m=
 bif (decide ((((List.length m.2.2.2.1:Int)):Int)>8)) then
  some (8,())
 else
  bif (decide ((0:Int)≤0∧(0:Int)≤16∧(16:Int)≤16)) then
   (dz.F (List.take ((Int.toNat 16) - (Int.toNat 0)) (List.drop (Int.toNat 0) m.2.2.1))).bind fun r0=>
   bif r0.1 then
    some (8,())
   else
    cx.L1 m.1 m.2.1 m.2.2.1 m.2.2.2.1
  else none:=by kernel_rfl
def cz.sg:Sig:=⟨[.val t11],[(t8,true),((.int .i64),true)]⟩
def cz.E:Env:=⟨tl,fun i=>look i [(46,cx.Fn),(47,cd.Fn)],[],eqs,globs,prims⟩
def cz.c:=cxOf cz.E cz.sg Tryz.f24
def cz.b:=body Tryz.f24
def cz.Fn:Fun:=fnOf cz.E cz.sg Tryz.f24
def cz.F (m:t11.den):Option (t8.den × Int × Unit):=cz.Fn.F (m,())
def cz.L1 (b0:Int) (b02 b03:List Int) (b04:List t10.den) (b1 b12:List Int) (l2:List t7.den):Option (t8.den × Int × Unit):=res cz.c (atJoin cz.b [1,0,1,1]) ⟨[(1,(.ptr 0 [])),(2,(.ptr 1 []))],[(0,some (.box (.agg [(.v (.int .u64) b0),(.v (.arr 32 (.int .u8)) b02),(.v (.arr 16 (.int .u32)) b03),(.v (.slice t10) b04)]))),(1,some (.box (.agg [(.v (.int .u64) 0),(.v (.arr 32 (.int .u8)) b1),(.v (.arr 16 (.int .u32)) b12),(.sl 2)]))),(2,some (.row t7 l2 false))],3,[]⟩
def cz.L2 (t22_:List t10.den) (t23_ t24_:Int) (b0 b02:List Int) (b1:Int) (b12 b13:List Int) (l2 l3:List t7.den):Option (t8.den × Int × Unit):=res cz.c (atLoop cz.b [1,1,1,0,1,0]) ⟨[(2,(.ptr 0 [])),(5,(.ptr 1 [])),(22,(.v (.slice t10) t22_)),(23,(.v (.int .i64) t23_)),(24,(.v (.int .i64) t24_))],[(0,some (.box (.agg [(.v (.int .u64) 0),(.v (.arr 32 (.int .u8)) b0),(.v (.arr 16 (.int .u32)) b02),(.sl 2)]))),(1,some (.box (.agg [(.v (.int .u64) b1),(.v (.arr 32 (.int .u8)) b12),(.v (.arr 16 (.int .u32)) b13),(.sl 3)]))),(2,some (.row t7 l2 false)),(3,some (.row t7 l3 false))],4,[]⟩
def cz.L3 (t22_:List t10.den) (t23_ t24_:Int) (b0 b02:List Int) (b1:Int) (b12 b13:List Int) (l2 l3:List t7.den):Option (t8.den × Int × Unit):=res cz.c (atJoin cz.b [1,1,1,0,1,0,0,1,0]) ⟨[(2,(.ptr 0 [])),(5,(.ptr 1 [])),(22,(.v (.slice t10) t22_)),(23,(.v (.int .i64) t23_)),(24,(.v (.int .i64) t24_))],[(0,some (.box (.agg [(.v (.int .u64) 0),(.v (.arr 32 (.int .u8)) b0),(.v (.arr 16 (.int .u32)) b02),(.sl 2)]))),(1,some (.box (.agg [(.v (.int .u64) b1),(.v (.arr 32 (.int .u8)) b12),(.v (.arr 16 (.int .u32)) b13),(.sl 3)]))),(2,some (.row t7 l2 false)),(3,some (.row t7 l3 false))],4,[]⟩
theorem cz.spec:FnSpec Tryz.prog globs 24 cz.Fn:=spec_of (E:=cz.E) (envOk_at tabOk eqOk primsOk (.cons cx.spec<|.cons cd.spec<|.nil)) mixOk Tryz.func24 (by kernel_rfl)
theorem cz.L1_eq (b0 b02 b03 b04 b1 b12 l2):cz.L1 b0 b02 b03 b04 b1 b12 l2=
 cz.L2 b04 ((List.length b04:Int)) 0 b1 b12 b0 b02 b03 l2 ([]:List t7.den):=res_eq (by kernel_rfl)
theorem cz.L2_eq (t22_ t23_ t24_ b0 b02 b1 b12 b13 l2 l3):cz.L2 t22_ t23_ t24_ b0 b02 b1 b12 b13 l2 l3=
 bif (decide ((t24_:Int)<t23_)) then
  cz.L3 t22_ t23_ t24_ b0 b02 b1 b12 b13 l2 l3
 else
  some ((b1,b12,b13,l3,()),0,()):=res_eq (by kernel_rfl)
theorem cz.L3_eq (t22_ t23_ t24_ b0 b02 b1 b12 b13 l2 l3):cz.L3 t22_ t23_ t24_ b0 b02 b1 b12 b13 l2 l3=
 bif (decide ((0:Int)≤t24_∧(t24_:Int)<((List.length t22_:Int)))) then
  bif (decide ((0:Int)≤0∧(0:Int)<2)) then
   bif (decide ((0:Int)≤1∧(1:Int)<3)) then
    (cd.F ((((((List.getD t22_ (Int.toNat t24_) d10_).2).2).2).2).1) (List.getD ((((List.getD t22_ (Int.toNat t24_) d10_).2).2).1) (Int.toNat 0) 0) (List.getD (((List.getD t22_ (Int.toNat t24_) d10_).2).1) (Int.toNat 1) (0,0,0,()))).bind fun r0=>
    bif (decide ((0:Int)≤1∧(1:Int)<2)) then
     bif (decide ((0:Int)≤2∧(2:Int)<3)) then
      (cd.F (((((((List.getD t22_ (Int.toNat t24_) d10_).2).2).2).2).2).1) (List.getD ((((List.getD t22_ (Int.toNat t24_) d10_).2).2).1) (Int.toNat 1) 0) (List.getD (((List.getD t22_ (Int.toNat t24_) d10_).2).1) (Int.toNat 2) (0,0,0,()))).bind fun r1=>
      bif (lim (List.length ((((((((List.getD t22_ (Int.toNat t24_) d10_).2).2).2).2).2).2).1)) (.int .u32)) then
       bif (lim ((List.length l3)+(List.length ([((List.getD t22_ (Int.toNat t24_) d10_).1,((List.getD t22_ (Int.toNat t24_) d10_).2).1,((((List.getD t22_ (Int.toNat t24_) d10_).2).2).2).1,r0.1,r1.1,(((((((List.getD t22_ (Int.toNat t24_) d10_).2).2).2).2).2).2).1,((((((((List.getD t22_ (Int.toNat t24_) d10_).2).2).2).2).2).2).2).1,())]:List t7.den))) t7) then
        cz.L2 t22_ t23_ (IntKind.wrap .i64 (t24_+1)) b0 b02 b1 b12 b13 l2 (l3++([((List.getD t22_ (Int.toNat t24_) d10_).1,((List.getD t22_ (Int.toNat t24_) d10_).2).1,((((List.getD t22_ (Int.toNat t24_) d10_).2).2).2).1,r0.1,r1.1,(((((((List.getD t22_ (Int.toNat t24_) d10_).2).2).2).2).2).2).1,((((((((List.getD t22_ (Int.toNat t24_) d10_).2).2).2).2).2).2).2).1,())]:List t7.den))
       else none
      else none
     else none
    else none
   else none
  else none
 else none:=res_eq (by kernel_rfl)
theorem cz.F_eq (m):cz.F m=
 (cx.F m).bind fun r0=>
 bif (r0.1 !=0) then
  some ((0,(List.replicate 32 (0:Int)),(List.replicate 16 (0:Int)),([]:List t7.den),()),r0.1,())
 else
  cz.L1 m.1 m.2.1 m.2.2.1 m.2.2.2.1 (List.replicate 32 (0:Int)) (List.replicate 16 (0:Int)) ([]:List t7.den):=by kernel_rfl
def aq.sg:Sig:=⟨[.val (.slice (.int .u8))],[(t8,true),((.int .i64),true)]⟩
def aq.E:Env:=⟨tl,fun i=>look i [(22,ak.Fn),(23,ag.Fn),(24,cz.Fn)],[],eqs,globs,prims⟩
def aq.c:=cxOf aq.E aq.sg Tryz.f7
def aq.b:=body Tryz.f7
def aq.Fn:Fun:=fnOf aq.E aq.sg Tryz.f7
def aq.F (b:List Int):Option (t8.den × Int × Unit):=aq.Fn.F (b,())
def aq.L1 (b b0 b02:List Int) (l1:List t7.den):Option (t8.den × Int × Unit):=res aq.c (atJoin aq.b [1,0,1]) ⟨[(0,(.v (.slice (.int .u8)) b)),(2,(.ptr 0 []))],[(0,some (.box (.agg [(.v (.int .u64) 0),(.v (.arr 32 (.int .u8)) b0),(.v (.arr 16 (.int .u32)) b02),(.sl 1)]))),(1,some (.row t7 l1 false))],2,[]⟩
def aq.L2 (t21_:Int) (b0 b02 b1:List Int) (b12:Bool) (b2:Int) (b22 b23:List Int) (l3:List t7.den) (l4:List t10.den):Option (t8.den × Int × Unit):=res aq.c (atLoop aq.b [1,1,1,1,0,1,0]) ⟨[(2,(.ptr 0 [])),(4,(.ptr 1 [])),(5,(.ptr 2 [])),(21,(.v (.int .i64) t21_))],[(0,some (.box (.agg [(.v (.int .u64) 0),(.v (.arr 32 (.int .u8)) b0),(.v (.arr 16 (.int .u32)) b02),(.sl 3)]))),(1,some (.box (.agg [(.v (.slice (.int .u8)) b1),(.v .bool b12)]))),(2,some (.box (.agg [(.v (.int .u64) b2),(.v (.arr 32 (.int .u8)) b22),(.v (.arr 16 (.int .u32)) b23),(.sl 4)]))),(3,some (.row t7 l3 false)),(4,some (.row t10 l4 false))],5,[]⟩
def aq.L3 (t21_:Int) (b0 b02 b1:List Int) (b12:Bool) (b2:Int) (b22 b23:List Int) (l3:List t7.den) (l4:List t10.den):Option (t8.den × Int × Unit):=res aq.c (atJoin aq.b [1,1,1,1,0,1,0,0,1,0]) ⟨[(2,(.ptr 0 [])),(4,(.ptr 1 [])),(5,(.ptr 2 [])),(21,(.v (.int .i64) t21_))],[(0,some (.box (.agg [(.v (.int .u64) 0),(.v (.arr 32 (.int .u8)) b0),(.v (.arr 16 (.int .u32)) b02),(.sl 3)]))),(1,some (.box (.agg [(.v (.slice (.int .u8)) b1),(.v .bool b12)]))),(2,some (.box (.agg [(.v (.int .u64) b2),(.v (.arr 32 (.int .u8)) b22),(.v (.arr 16 (.int .u32)) b23),(.sl 4)]))),(3,some (.row t7 l3 false)),(4,some (.row t10 l4 false))],5,[]⟩
def aq.L4 (t31_:Int) (b0 b02 b1:List Int) (b12:Bool) (b2:Int) (b22 b23:List Int) (l3:List t7.den) (l4:List t10.den):Option (t8.den × Int × Unit):=res aq.c (atLoop aq.b [1,1,1,1,1,0,1,0]) ⟨[(2,(.ptr 0 [])),(4,(.ptr 1 [])),(5,(.ptr 2 [])),(31,(.v (.int .i64) t31_))],[(0,some (.box (.agg [(.v (.int .u64) 0),(.v (.arr 32 (.int .u8)) b0),(.v (.arr 16 (.int .u32)) b02),(.sl 3)]))),(1,some (.box (.agg [(.v (.slice (.int .u8)) b1),(.v .bool b12)]))),(2,some (.box (.agg [(.v (.int .u64) b2),(.v (.arr 32 (.int .u8)) b22),(.v (.arr 16 (.int .u32)) b23),(.sl 4)]))),(3,some (.row t7 l3 false)),(4,some (.row t10 l4 false))],5,[]⟩
def aq.L5 (t31_:Int) (b0 b02 b1:List Int) (b12:Bool) (b2:Int) (b22 b23:List Int) (l3:List t7.den) (l4:List t10.den):Option (t8.den × Int × Unit):=res aq.c (atJoin aq.b [1,1,1,1,1,0,1,0,0,1,0]) ⟨[(2,(.ptr 0 [])),(4,(.ptr 1 [])),(5,(.ptr 2 [])),(31,(.v (.int .i64) t31_))],[(0,some (.box (.agg [(.v (.int .u64) 0),(.v (.arr 32 (.int .u8)) b0),(.v (.arr 16 (.int .u32)) b02),(.sl 3)]))),(1,some (.box (.agg [(.v (.slice (.int .u8)) b1),(.v .bool b12)]))),(2,some (.box (.agg [(.v (.int .u64) b2),(.v (.arr 32 (.int .u8)) b22),(.v (.arr 16 (.int .u32)) b23),(.sl 4)]))),(3,some (.row t7 l3 false)),(4,some (.row t10 l4 false))],5,[]⟩
def aq.L6 (n:Int) (b0 b02 b1:List Int) (b12:Bool) (b2:Int) (b22 b23:List Int) (l3:List t7.den) (l4:List t10.den):Option (t8.den × Int × Unit):=res aq.c (atLoop aq.b [1,1,1,1,1,1,0,1,0]) ⟨[(2,(.ptr 0 [])),(4,(.ptr 1 [])),(5,(.ptr 2 [])),(8,(.v (.int .u64) n))],[(0,some (.box (.agg [(.v (.int .u64) 0),(.v (.arr 32 (.int .u8)) b0),(.v (.arr 16 (.int .u32)) b02),(.sl 3)]))),(1,some (.box (.agg [(.v (.slice (.int .u8)) b1),(.v .bool b12)]))),(2,some (.box (.agg [(.v (.int .u64) b2),(.v (.arr 32 (.int .u8)) b22),(.v (.arr 16 (.int .u32)) b23),(.sl 4)]))),(3,some (.row t7 l3 false)),(4,some (.row t10 l4 false))],5,[]⟩
def aq.L7 (n:Int) (b0 b02 b1:List Int) (b12:Bool) (b2:Int) (b22 b23:List Int) (l3:List t7.den) (l4:List t10.den):Option (t8.den × Int × Unit):=res aq.c (atJoin aq.b [1,1,1,1,1,1,0,1,0,0,0,1]) ⟨[(2,(.ptr 0 [])),(4,(.ptr 1 [])),(5,(.ptr 2 [])),(8,(.v (.int .u64) n))],[(0,some (.box (.agg [(.v (.int .u64) 0),(.v (.arr 32 (.int .u8)) b0),(.v (.arr 16 (.int .u32)) b02),(.sl 3)]))),(1,some (.box (.agg [(.v (.slice (.int .u8)) b1),(.v .bool b12)]))),(2,some (.box (.agg [(.v (.int .u64) b2),(.v (.arr 32 (.int .u8)) b22),(.v (.arr 16 (.int .u32)) b23),(.sl 4)]))),(3,some (.row t7 l3 false)),(4,some (.row t10 l4 false))],5,[]⟩
def aq.L8 (b0 b02:List Int) (b1:Int) (b12 b13:List Int) (l2:List t7.den) (l3:List t10.den):Option (t8.den × Int × Unit):=res aq.c (atJoin aq.b [1,1,1,1,1,1,1,0,1]) ⟨[(2,(.ptr 0 [])),(5,(.ptr 1 []))],[(0,some (.box (.agg [(.v (.int .u64) 0),(.v (.arr 32 (.int .u8)) b0),(.v (.arr 16 (.int .u32)) b02),(.sl 2)]))),(1,some (.box (.agg [(.v (.int .u64) b1),(.v (.arr 32 (.int .u8)) b12),(.v (.arr 16 (.int .u32)) b13),(.sl 3)]))),(2,some (.row t7 l2 false)),(3,some (.row t10 l3 false))],4,[]⟩
def aq.L9 (b0 b02:List Int) (b1:Int) (b12 b13:List Int) (l2 l3:List t7.den):Option (t8.den × Int × Unit):=res aq.c (atJoin aq.b [1,1,1,1,1,1,1,1,1,0,1]) ⟨[(2,(.ptr 0 [])),(9,(.ptr 1 []))],[(0,some (.box (.agg [(.v (.int .u64) 0),(.v (.arr 32 (.int .u8)) b0),(.v (.arr 16 (.int .u32)) b02),(.sl 2)]))),(1,some (.box (.agg [(.v (.int .u64) b1),(.v (.arr 32 (.int .u8)) b12),(.v (.arr 16 (.int .u32)) b13),(.sl 3)]))),(2,some (.row t7 l2 false)),(3,some (.row t7 l3 false))],4,[]⟩
theorem aq.spec:FnSpec Tryz.prog globs 7 aq.Fn:=spec_of (E:=aq.E) (envOk_at tabOk eqOk primsOk (.cons ak.spec<|.cons ag.spec<|.cons cz.spec<|.nil)) mixOk Tryz.func7 (by kernel_rfl)
theorem aq.L1_eq (b b0 b02 l1):aq.L1 b b0 b02 l1=
 (ak.F (b,false,()) 8).bind fun r0=>
 aq.L2 0 b0 b02 r0.1.1 r0.1.2.1 r0.2.1 (List.replicate 32 (0:Int)) (List.replicate 16 (0:Int)) l1 ([]:List t10.den):=res_eq (by kernel_rfl)
theorem aq.L2_eq (t21_ b0 b02 b1 b12 b2 b22 b23 l3 l4):aq.L2 t21_ b0 b02 b1 b12 b2 b22 b23 l3 l4=
 bif (decide ((t21_:Int)<32)) then
  aq.L3 t21_ b0 b02 b1 b12 b2 b22 b23 l3 l4
 else
  aq.L4 0 b0 b02 b1 b12 b2 b22 b23 l3 l4:=res_eq (by kernel_rfl)
theorem aq.L3_eq (t21_ b0 b02 b1 b12 b2 b22 b23 l3 l4):aq.L3 t21_ b0 b02 b1 b12 b2 b22 b23 l3 l4=
 (ak.F (b1,b12,()) 1).bind fun r0=>
 bif (decide ((0:Int)≤t21_∧(t21_:Int)<32)) then
  aq.L2 (IntKind.wrap .i64 (t21_+1)) b0 b02 r0.1.1 r0.1.2.1 b2 (List.set b22 (Int.toNat t21_) (IntKind.wrap .u8 r0.2.1)) b23 l3 l4
 else none:=res_eq (by kernel_rfl)
theorem aq.L4_eq (t31_ b0 b02 b1 b12 b2 b22 b23 l3 l4):aq.L4 t31_ b0 b02 b1 b12 b2 b22 b23 l3 l4=
 bif (decide ((t31_:Int)<16)) then
  aq.L5 t31_ b0 b02 b1 b12 b2 b22 b23 l3 l4
 else
  (ak.F (b1,b12,()) 1).bind fun r0=>
  aq.L6 r0.2.1 b0 b02 r0.1.1 r0.1.2.1 b2 b22 b23 l3 l4:=res_eq (by kernel_rfl)
theorem aq.L5_eq (t31_ b0 b02 b1 b12 b2 b22 b23 l3 l4):aq.L5 t31_ b0 b02 b1 b12 b2 b22 b23 l3 l4=
 (ak.F (b1,b12,()) 4).bind fun r0=>
 bif (decide ((0:Int)≤t31_∧(t31_:Int)<16)) then
  aq.L4 (IntKind.wrap .i64 (t31_+1)) b0 b02 r0.1.1 r0.1.2.1 b2 b22 (List.set b23 (Int.toNat t31_) (IntKind.wrap .u32 r0.2.1)) l3 l4
 else none:=res_eq (by kernel_rfl)
theorem aq.L6_eq (n b0 b02 b1 b12 b2 b22 b23 l3 l4):aq.L6 n b0 b02 b1 b12 b2 b22 b23 l3 l4=
 bif (decide ((n:Int)>0)) then
  bif (!b12) then
   aq.L7 n b0 b02 b1 b12 b2 b22 b23 l3 l4
  else
   bif b12 then
    some ((0,(List.replicate 32 (0:Int)),(List.replicate 16 (0:Int)),([]:List t7.den),()),12,())
   else
    bif (decide ((((List.length b1:Int)):Int)>0)) then
     some ((0,(List.replicate 32 (0:Int)),(List.replicate 16 (0:Int)),([]:List t7.den),()),12,())
    else
     aq.L8 b0 b02 b2 b22 b23 l3 l4
 else
  bif b12 then
   some ((0,(List.replicate 32 (0:Int)),(List.replicate 16 (0:Int)),([]:List t7.den),()),12,())
  else
   bif (decide ((((List.length b1:Int)):Int)>0)) then
    some ((0,(List.replicate 32 (0:Int)),(List.replicate 16 (0:Int)),([]:List t7.den),()),12,())
   else
    aq.L8 b0 b02 b2 b22 b23 l3 l4:=res_eq (by kernel_rfl)
theorem aq.L7_eq (n b0 b02 b1 b12 b2 b22 b23 l3 l4):aq.L7 n b0 b02 b1 b12 b2 b22 b23 l3 l4=
 (ag.F (b1,b12,())).bind fun r0=>
 bif (lim ((List.length l4)+(List.length ([r0.2.1]:List t10.den))) t10) then
  aq.L6 (IntKind.wrap .u64 (n - 1)) b0 b02 r0.1.1 r0.1.2.1 b2 b22 b23 l3 (l4++([r0.2.1]:List t10.den))
 else none:=res_eq (by kernel_rfl)
theorem aq.L8_eq (b0 b02 b1 b12 b13 l2 l3):aq.L8 b0 b02 b1 b12 b13 l2 l3=
 (cz.F (b1,b12,b13,l3,())).bind fun r0=>
 bif (r0.2.1 !=0) then
  some ((0,(List.replicate 32 (0:Int)),(List.replicate 16 (0:Int)),([]:List t7.den),()),12,())
 else
  aq.L9 b0 b02 r0.1.1 r0.1.2.1 r0.1.2.2.1 l2 r0.1.2.2.2.1:=res_eq (by kernel_rfl)
theorem aq.L9_eq (b0 b02 b1 b12 b13 l2 l3):aq.L9 b0 b02 b1 b12 b13 l2 l3=
 some ((b1,b12,b13,l3,()),0,()):=res_eq (by kernel_rfl)
theorem aq.F_eq (b):aq.F b=
 bif (decide ((((List.length b:Int)):Int)>5000)) then
  some ((0,(List.replicate 32 (0:Int)),(List.replicate 16 (0:Int)),([]:List t7.den),()),4,())
 else
  aq.L1 b (List.replicate 32 (0:Int)) (List.replicate 16 (0:Int)) ([]:List t7.den):=by kernel_rfl
def a9.sg:Sig:=⟨[.io t12 false,.val (.int .i64)],[((.int .u64),true)]⟩
def a9.E:Env:=⟨tl,fun i=>look i [],[],eqs,globs,prims⟩
def a9.c:=cxOf a9.E a9.sg Tryz.f25
def a9.b:=body Tryz.f25
def a9.Fn:Fun:=fnOf a9.E a9.sg Tryz.f25
def a9.F (r:t12.den) (k:Int):Option (t12.den × Int × Unit):=a9.Fn.F (r,k,())
def a9.L1 (k:Int) (b0:List Int) (b02:Bool):Option (t12.den × Int × Unit):=res a9.c (atJoin a9.b [1,0,1]) ⟨[(0,(.ptr 0 [])),(1,(.v (.int .i64) k))],[(0,some (.box (.agg [(.v (.slice (.int .u8)) b0),(.v .bool b02)])))],1,[(.ptr 0 [])]⟩
def a9.L2 (k n i:Int) (b0:List Int) (b02:Bool):Option (t12.den × Int × Unit):=res a9.c (atLoop a9.b [1,1,1,0,1,0]) ⟨[(0,(.ptr 0 [])),(1,(.v (.int .i64) k)),(5,(.v (.int .u64) n)),(6,(.v (.int .i64) i))],[(0,some (.box (.agg [(.v (.slice (.int .u8)) b0),(.v .bool b02)])))],1,[(.ptr 0 [])]⟩
def a9.L3 (k n i:Int) (b0:List Int) (b02:Bool):Option (t12.den × Int × Unit):=res a9.c (atJoin a9.b [1,1,1,0,1,0,0,0,1]) ⟨[(0,(.ptr 0 [])),(1,(.v (.int .i64) k)),(5,(.v (.int .u64) n)),(6,(.v (.int .i64) i))],[(0,some (.box (.agg [(.v (.slice (.int .u8)) b0),(.v .bool b02)])))],1,[(.ptr 0 [])]⟩
theorem a9.spec:FnSpec Tryz.prog globs 25 a9.Fn:=spec_of (E:=a9.E) (envOk_at tabOk eqOk primsOk (.nil)) mixOk Tryz.func25 (by kernel_rfl)
theorem a9.L1_eq (k b0 b02):a9.L1 k b0 b02=
 a9.L2 k 0 0 b0 b02:=res_eq (by kernel_rfl)
theorem a9.L2_eq (k n i b0 b02):a9.L2 k n i b0 b02=
 bif (decide ((i:Int)<k)) then
  a9.L3 k n i b0 b02
 else
  bif (decide ((0:Int)≤k∧(k:Int)≤((List.length b0:Int))∧(((List.length b0:Int)):Int)≤((List.length b0:Int)))) then
   some (((List.take ((Int.toNat ((List.length b0:Int))) - (Int.toNat k)) (List.drop (Int.toNat k) b0)),b02,()),n,())
  else none:=res_eq (by kernel_rfl)
theorem a9.L3_eq (k n i b0 b02):a9.L3 k n i b0 b02=
 bif (decide ((0:Int)≤8)) then
  bif (decide ((0:Int)≤i∧(i:Int)<((List.length b0:Int)))) then
   a9.L2 k (IntKind.wrap .u64 ((IntKind.wrap .u64 (n*2 ^ min (Int.toNat 8) (IntKind.bits .u64)))+(IntKind.wrap .u64 (List.getD b0 (Int.toNat i) 0)))) (IntKind.wrap .i64 (i+1)) b0 b02
  else none
 else none:=res_eq (by kernel_rfl)
theorem a9.F_eq (r k):a9.F r k=
 bif (decide ((((List.length r.1:Int)):Int)<k)) then
  some ((r.1,true,()),0,())
 else
  a9.L1 k r.1 r.2.1:=by kernel_rfl
def dd.sg:Sig:=⟨[.io t12 false,.val t0],[(t1,true)]⟩
def dd.E:Env:=⟨tl,fun i=>look i [(25,a9.Fn)],[],eqs,globs,prims⟩
def dd.Fn:Fun:=fnOf dd.E dd.sg Tryz.f49
def dd.F (r:t12.den) (l:t0.den):Option (t12.den × t1.den × Unit):=dd.Fn.F (r,l,())
theorem dd.spec:FnSpec Tryz.prog globs 49 dd.Fn:=spec_of (E:=dd.E) (envOk_at tabOk eqOk primsOk (.cons a9.spec<|.nil)) mixOk Tryz.func49 (by kernel_rfl)
theorem dd.F_eq (r l):dd.F r l=
 (a9.F r 8).bind fun r0=>
 (a9.F r0.1 8).bind fun r1=>
 (a9.F r1.1 8).bind fun r2=>
 some (r2.1,(l,(IntKind.wrap .i64 r0.2.1),(IntKind.wrap .i64 r1.2.1),r2.2.1,()),()):=by kernel_rfl
def bg.sg:Sig:=⟨[.io t12 false,.val t0],[((.slice t9),true)]⟩
def bg.E:Env:=⟨tl,fun i=>look i [(25,a9.Fn),(49,dd.Fn)],[],eqs,globs,prims⟩
def bg.c:=cxOf bg.E bg.sg Tryz.f50
def bg.b:=body Tryz.f50
def bg.Fn:Fun:=fnOf bg.E bg.sg Tryz.f50
def bg.F (r:t12.den) (l:t0.den):Option (t12.den × (List t9.den) × Unit):=bg.Fn.F (r,l,())
def bg.L1 (n i:Int) (b0:List Int) (b02:Bool) (b1 b12 b13:Int) (l2:List t9.den):Option (t12.den × (List t9.den) × Unit):=res bg.c (atLoop bg.b [1,1,1,0,1,0]) ⟨[(0,(.ptr 0 [])),(3,(.ptr 1 [])),(5,(.sl 2)),(6,(.v (.int .i64) n)),(7,(.v (.int .i64) i))],[(0,some (.box (.agg [(.v (.slice (.int .u8)) b0),(.v .bool b02)]))),(1,some (.box (.agg [(.v (.int .i64) b1),(.v (.int .i64) b12),(.v (.int .i64) b13)]))),(2,some (.row t9 l2 false))],3,[(.ptr 0 [])]⟩
def bg.L2 (n i:Int) (b0:List Int) (b02:Bool) (b1 b12 b13:Int) (l2:List t9.den):Option (t12.den × (List t9.den) × Unit):=res bg.c (atJoin bg.b [1,1,1,0,1,0,0,0,1]) ⟨[(0,(.ptr 0 [])),(3,(.ptr 1 [])),(5,(.sl 2)),(6,(.v (.int .i64) n)),(7,(.v (.int .i64) i))],[(0,some (.box (.agg [(.v (.slice (.int .u8)) b0),(.v .bool b02)]))),(1,some (.box (.agg [(.v (.int .i64) b1),(.v (.int .i64) b12),(.v (.int .i64) b13)]))),(2,some (.row t9 l2 false))],3,[(.ptr 0 [])]⟩
theorem bg.spec:FnSpec Tryz.prog globs 50 bg.Fn:=spec_of (E:=bg.E) (envOk_at tabOk eqOk primsOk (.cons a9.spec<|.cons dd.spec<|.nil)) mixOk Tryz.func50 (by kernel_rfl)
theorem bg.L1_eq (n i b0 b02 b1 b12 b13 l2):bg.L1 n i b0 b02 b1 b12 b13 l2=
 bif (decide ((i:Int)<n)) then
  bif (!b02) then
   bg.L2 n i b0 b02 b1 b12 b13 l2
  else
   some ((b0,b02,()),l2,())
 else
  some ((b0,b02,()),l2,()):=res_eq (by kernel_rfl)
theorem bg.L2_eq (n i b0 b02 b1 b12 b13 l2):bg.L2 n i b0 b02 b1 b12 b13 l2=
 (a9.F (b0,b02,()) 4).bind fun r0=>
 (dd.F r0.1 (b1,b12,b13,())).bind fun r1=>
 bif (lim ((List.length l2)+(List.length ([((IntKind.wrap .u32 r0.2.1),r1.2.1,())]:List t9.den))) t9) then
  bg.L1 n (IntKind.wrap .i64 (i+1)) r1.1.1 r1.1.2.1 b1 b12 b13 (l2++([((IntKind.wrap .u32 r0.2.1),r1.2.1,())]:List t9.den))
 else none:=res_eq (by kernel_rfl)
theorem bg.F_eq (r l):bg.F r l=
 (a9.F r 1).bind fun r0=>
 bg.L1 (IntKind.wrap .i64 r0.2.1) 0 r0.1.1 r0.1.2.1 l.1 l.2.1 l.2.2.1 ([]:List t9.den):=by kernel_rfl
def af.sg:Sig:=⟨[.io t12 false],[(t10,true)]⟩
def af.E:Env:=⟨tl,fun i=>look i [(25,a9.Fn),(49,dd.Fn),(50,bg.Fn)],[],eqs,globs,prims⟩
def af.c:=cxOf af.E af.sg Tryz.f26
def af.b:=body Tryz.f26
def af.Fn:Fun:=fnOf af.E af.sg Tryz.f26
def af.F (r:t12.den):Option (t12.den × t10.den × Unit):=af.Fn.F (r,())
def af.L1 (i:Int) (b0:List Int) (b02:Bool) (b1:List t0.den) (b12:List Int) (b2:Int) (b22:List t0.den) (l3:List t9.den) (l5:List Int):Option (t12.den × t10.den × Unit):=res af.c (atLoop af.b [1,1,0,1,0]) ⟨[(0,(.ptr 0 [])),(2,(.ptr 1 [])),(3,(.ptr 2 [])),(4,(.v (.int .i64) i))],[(0,some (.box (.agg [(.v (.slice (.int .u8)) b0),(.v .bool b02)]))),(1,some (.box (.agg [(.v (.int .u32) 0),(.v (.arr 3 t0) b1),(.v (.arr 2 (.int .i64)) b12),(.agg [(.agg [(.v (.int .i64) 0),(.v (.int .i64) 0),(.v (.int .i64) 0)]),(.v (.int .i64) 0),(.v (.int .i64) 0),(.v (.int .u64) 0)]),(.sl 3),(.sl 4),(.sl 5),(.agg [(.v (.int .u64) 0),(.v (.int .u64) 0),(.v (.int .u64) 0)])]))),(2,some (.box (.agg [(.v (.int .u32) b2),(.v (.arr 3 t0) b22),(.v (.arr 2 (.int .i64)) b12),(.agg [(.agg [(.v (.int .i64) 0),(.v (.int .i64) 0),(.v (.int .i64) 0)]),(.v (.int .i64) 0),(.v (.int .i64) 0),(.v (.int .u64) 0)]),(.sl 6),(.sl 7),(.sl 8),(.agg [(.v (.int .u64) 0),(.v (.int .u64) 0),(.v (.int .u64) 0)])]))),(3,some (.row t9 l3 false)),(4,some (.row t9 l3 false)),(5,some (.row (.int .u32) l5 false)),(6,some (.row t9 l3 false)),(7,some (.row t9 l3 false)),(8,some (.row (.int .u32) l5 false))],9,[(.ptr 0 [])]⟩
def af.L2 (i:Int) (b0:List Int) (b02:Bool) (b1:List t0.den) (b12:List Int) (b2:Int) (b22:List t0.den) (l3:List t9.den) (l5:List Int):Option (t12.den × t10.den × Unit):=res af.c (atJoin af.b [1,1,0,1,0,0,0,1]) ⟨[(0,(.ptr 0 [])),(2,(.ptr 1 [])),(3,(.ptr 2 [])),(4,(.v (.int .i64) i))],[(0,some (.box (.agg [(.v (.slice (.int .u8)) b0),(.v .bool b02)]))),(1,some (.box (.agg [(.v (.int .u32) 0),(.v (.arr 3 t0) b1),(.v (.arr 2 (.int .i64)) b12),(.agg [(.agg [(.v (.int .i64) 0),(.v (.int .i64) 0),(.v (.int .i64) 0)]),(.v (.int .i64) 0),(.v (.int .i64) 0),(.v (.int .u64) 0)]),(.sl 3),(.sl 4),(.sl 5),(.agg [(.v (.int .u64) 0),(.v (.int .u64) 0),(.v (.int .u64) 0)])]))),(2,some (.box (.agg [(.v (.int .u32) b2),(.v (.arr 3 t0) b22),(.v (.arr 2 (.int .i64)) b12),(.agg [(.agg [(.v (.int .i64) 0),(.v (.int .i64) 0),(.v (.int .i64) 0)]),(.v (.int .i64) 0),(.v (.int .i64) 0),(.v (.int .u64) 0)]),(.sl 6),(.sl 7),(.sl 8),(.agg [(.v (.int .u64) 0),(.v (.int .u64) 0),(.v (.int .u64) 0)])]))),(3,some (.row t9 l3 false)),(4,some (.row t9 l3 false)),(5,some (.row (.int .u32) l5 false)),(6,some (.row t9 l3 false)),(7,some (.row t9 l3 false)),(8,some (.row (.int .u32) l5 false))],9,[(.ptr 0 [])]⟩
def af.L3 (n i:Int) (b0:List Int) (b02:Bool) (b1:List t0.den) (b12:List Int) (b2:Int) (b22:List t0.den) (b23:List Int) (b24 b25:Int) (b26 b27:Int) (b28 b29:Int) (l3:List t9.den) (l5:List Int) (l6 l7:List t9.den) (l8:List Int):Option (t12.den × t10.den × Unit):=res af.c (atLoop af.b [1,1,1,1,1,1,1,1,1,0,1,0]) ⟨[(0,(.ptr 0 [])),(2,(.ptr 1 [])),(3,(.ptr 2 [])),(7,(.v (.int .i64) n)),(8,(.v (.int .i64) i))],[(0,some (.box (.agg [(.v (.slice (.int .u8)) b0),(.v .bool b02)]))),(1,some (.box (.agg [(.v (.int .u32) 0),(.v (.arr 3 t0) b1),(.v (.arr 2 (.int .i64)) b12),(.agg [(.agg [(.v (.int .i64) 0),(.v (.int .i64) 0),(.v (.int .i64) 0)]),(.v (.int .i64) 0),(.v (.int .i64) 0),(.v (.int .u64) 0)]),(.sl 3),(.sl 4),(.sl 5),(.agg [(.v (.int .u64) 0),(.v (.int .u64) 0),(.v (.int .u64) 0)])]))),(2,some (.box (.agg [(.v (.int .u32) b2),(.v (.arr 3 t0) b22),(.v (.arr 2 (.int .i64)) b23),(.agg [(.agg [(.v (.int .i64) b24),(.v (.int .i64) b25),(.v (.int .i64) b26)]),(.v (.int .i64) b27),(.v (.int .i64) b28),(.v (.int .u64) b29)]),(.sl 6),(.sl 7),(.sl 8),(.agg [(.v (.int .u64) 0),(.v (.int .u64) 0),(.v (.int .u64) 0)])]))),(3,some (.row t9 l3 false)),(4,some (.row t9 l3 false)),(5,some (.row (.int .u32) l5 false)),(6,some (.row t9 l6 false)),(7,some (.row t9 l7 false)),(8,some (.row (.int .u32) l8 false))],9,[(.ptr 0 [])]⟩
def af.L4 (n i:Int) (b0:List Int) (b02:Bool) (b1:List t0.den) (b12:List Int) (b2:Int) (b22:List t0.den) (b23:List Int) (b24 b25:Int) (b26 b27:Int) (b28 b29:Int) (l3:List t9.den) (l5:List Int) (l6 l7:List t9.den) (l8:List Int):Option (t12.den × t10.den × Unit):=res af.c (atJoin af.b [1,1,1,1,1,1,1,1,1,0,1,0,0,0,1]) ⟨[(0,(.ptr 0 [])),(2,(.ptr 1 [])),(3,(.ptr 2 [])),(7,(.v (.int .i64) n)),(8,(.v (.int .i64) i))],[(0,some (.box (.agg [(.v (.slice (.int .u8)) b0),(.v .bool b02)]))),(1,some (.box (.agg [(.v (.int .u32) 0),(.v (.arr 3 t0) b1),(.v (.arr 2 (.int .i64)) b12),(.agg [(.agg [(.v (.int .i64) 0),(.v (.int .i64) 0),(.v (.int .i64) 0)]),(.v (.int .i64) 0),(.v (.int .i64) 0),(.v (.int .u64) 0)]),(.sl 3),(.sl 4),(.sl 5),(.agg [(.v (.int .u64) 0),(.v (.int .u64) 0),(.v (.int .u64) 0)])]))),(2,some (.box (.agg [(.v (.int .u32) b2),(.v (.arr 3 t0) b22),(.v (.arr 2 (.int .i64)) b23),(.agg [(.agg [(.v (.int .i64) b24),(.v (.int .i64) b25),(.v (.int .i64) b26)]),(.v (.int .i64) b27),(.v (.int .i64) b28),(.v (.int .u64) b29)]),(.sl 6),(.sl 7),(.sl 8),(.agg [(.v (.int .u64) 0),(.v (.int .u64) 0),(.v (.int .u64) 0)])]))),(3,some (.row t9 l3 false)),(4,some (.row t9 l3 false)),(5,some (.row (.int .u32) l5 false)),(6,some (.row t9 l6 false)),(7,some (.row t9 l7 false)),(8,some (.row (.int .u32) l8 false))],9,[(.ptr 0 [])]⟩
theorem af.spec:FnSpec Tryz.prog globs 26 af.Fn:=spec_of (E:=af.E) (envOk_at tabOk eqOk primsOk (.cons a9.spec<|.cons dd.spec<|.cons bg.spec<|.nil)) mixOk Tryz.func26 (by kernel_rfl)
theorem af.L1_eq (i b0 b02 b1 b12 b2 b22 l3 l5):af.L1 i b0 b02 b1 b12 b2 b22 l3 l5=
 bif (decide ((i:Int)<3)) then
  af.L2 i b0 b02 b1 b12 b2 b22 l3 l5
 else
  (a9.F (b0,b02,()) 1).bind fun r0=>
  bif (decide ((0:Int)≤0∧(0:Int)<2)) then
   (a9.F r0.1 1).bind fun r1=>
   bif (decide ((0:Int)≤1∧(1:Int)<2)) then
    bif (decide ((0:Int)≤0∧(0:Int)<3)) then
     (dd.F r1.1 (List.getD b22 (Int.toNat 0) (0,0,0,()))).bind fun r2=>
     bif (decide ((0:Int)≤1∧(1:Int)<3)) then
      (bg.F r2.1 (List.getD b22 (Int.toNat 1) (0,0,0,()))).bind fun r3=>
      bif (decide ((0:Int)≤2∧(2:Int)<3)) then
       (bg.F r3.1 (List.getD b22 (Int.toNat 2) (0,0,0,()))).bind fun r4=>
       (a9.F r4.1 1).bind fun r5=>
       af.L3 (IntKind.wrap .i64 r5.2.1) 0 r5.1.1 r5.1.2.1 b1 b12 b2 b22 (List.set (List.set b12 (Int.toNat 0) (IntKind.wrap .i64 r0.2.1)) (Int.toNat 1) (IntKind.wrap .i64 r1.2.1)) r2.2.1.1.1 r2.2.1.1.2.1 r2.2.1.1.2.2.1 r2.2.1.2.1 r2.2.1.2.2.1 r2.2.1.2.2.2.1 l3 l5 r3.2.1 r4.2.1 l5
      else none
     else none
    else none
   else none
  else none:=res_eq (by kernel_rfl)
theorem af.L2_eq (i b0 b02 b1 b12 b2 b22 l3 l5):af.L2 i b0 b02 b1 b12 b2 b22 l3 l5=
 (a9.F (b0,b02,()) 4).bind fun r0=>
 (a9.F r0.1 4).bind fun r1=>
 (a9.F r1.1 4).bind fun r2=>
 bif (decide ((0:Int)≤i∧(i:Int)<3)) then
  af.L1 (IntKind.wrap .i64 (i+1)) r2.1.1 r2.1.2.1 b1 b12 b2 (List.set b22 (Int.toNat i) ((IntKind.wrap .i64 r0.2.1),(IntKind.wrap .i64 r1.2.1),(IntKind.wrap .i64 r2.2.1),())) l3 l5
 else none:=res_eq (by kernel_rfl)
theorem af.L3_eq (n i b0 b02 b1 b12 b2 b22 b23 b24 b25 b26 b27 b28 b29 l3 l5 l6 l7 l8):af.L3 n i b0 b02 b1 b12 b2 b22 b23 b24 b25 b26 b27 b28 b29 l3 l5 l6 l7 l8=
 bif (decide ((i:Int)<n)) then
  bif (!b02) then
   af.L4 n i b0 b02 b1 b12 b2 b22 b23 b24 b25 b26 b27 b28 b29 l3 l5 l6 l7 l8
  else
   (a9.F (b0,b02,()) 8).bind fun r0=>
   (a9.F r0.1 8).bind fun r1=>
   (a9.F r1.1 8).bind fun r2=>
   some (r2.1,(b2,b22,b23,((b24,b25,b26,()),b27,b28,b29,()),l6,l7,l8,(r0.2.1,r1.2.1,r2.2.1,()),()),())
 else
  (a9.F (b0,b02,()) 8).bind fun r0=>
  (a9.F r0.1 8).bind fun r1=>
  (a9.F r1.1 8).bind fun r2=>
  some (r2.1,(b2,b22,b23,((b24,b25,b26,()),b27,b28,b29,()),l6,l7,l8,(r0.2.1,r1.2.1,r2.2.1,()),()),()):=res_eq (by kernel_rfl)
theorem af.L4_eq (n i b0 b02 b1 b12 b2 b22 b23 b24 b25 b26 b27 b28 b29 l3 l5 l6 l7 l8):af.L4 n i b0 b02 b1 b12 b2 b22 b23 b24 b25 b26 b27 b28 b29 l3 l5 l6 l7 l8=
 (a9.F (b0,b02,()) 4).bind fun r0=>
 bif (lim ((List.length l8)+(List.length ([(IntKind.wrap .u32 r0.2.1)]:List Int))) (.int .u32)) then
  af.L3 n (IntKind.wrap .i64 (i+1)) r0.1.1 r0.1.2.1 b1 b12 b2 b22 b23 b24 b25 b26 b27 b28 b29 l3 l5 l6 l7 (l8++([(IntKind.wrap .u32 r0.2.1)]:List Int))
 else none:=res_eq (by kernel_rfl)
theorem af.F_eq (r):af.F r=
 (a9.F r 1).bind fun r0=>
 af.L1 0 r0.1.1 r0.1.2.1 (List.replicate 3 (0,0,0,())) (List.replicate 2 (0:Int)) (IntKind.wrap .u32 r0.2.1) (List.replicate 3 (0,0,0,())) ([]:List t9.den) ([]:List Int):=by kernel_rfl
def bn.sg:Sig:=⟨[.val t0],[((.int .i64),true)]⟩
def bn.E:Env:=⟨tl,fun i=>look i [],[],eqs,globs,prims⟩
def bn.c:=cxOf bn.E bn.sg Tryz.f76
def bn.b:=body Tryz.f76
def bn.Fn:Fun:=fnOf bn.E bn.sg Tryz.f76
def bn.F (l:t0.den):Option (Int × Unit):=bn.Fn.F (l,())
def bn.L1:Option (Int × Unit):=res bn.c (atJoin bn.b [1,0,1]) ⟨[],[],0,[]⟩
theorem bn.spec:FnSpec Tryz.prog globs 76 bn.Fn:=spec_of (E:=bn.E) (envOk_at tabOk eqOk primsOk (.nil)) mixOk Tryz.func76 (by kernel_rfl)
theorem bn.L1_eq:bn.L1=
 some (0,()):=res_eq (by kernel_rfl)
theorem bn.F_eq (l):bn.F l=
 bif (decide ((l.1:Int)<1)) then
  some (8,())
 else
  bif (decide ((l.1:Int)>1000000000)) then
   some (8,())
  else
   bif (decide ((l.2.1:Int)<0)) then
    some (8,())
   else
    bif (decide ((l.2.1:Int)>1000000000)) then
     some (8,())
    else
     bif (decide ((l.2.2.1:Int)<1)) then
      some (8,())
     else
      bif (decide ((l.2.2.1:Int)>1000000000)) then
       some (8,())
      else
       bn.L1:=by kernel_rfl
def cm.sg:Sig:=⟨[.val t1],[((.int .i64),true)]⟩
def cm.E:Env:=⟨tl,fun i=>look i [(76,bn.Fn)],[],eqs,globs,prims⟩
def cm.c:=cxOf cm.E cm.sg Tryz.f77
def cm.b:=body Tryz.f77
def cm.Fn:Fun:=fnOf cm.E cm.sg Tryz.f77
def cm.F (b:t1.den):Option (Int × Unit):=cm.Fn.F (b,())
def cm.L1:Option (Int × Unit):=res cm.c (atJoin cm.b [1,0,1]) ⟨[],[],0,[]⟩
theorem cm.spec:FnSpec Tryz.prog globs 77 cm.Fn:=spec_of (E:=cm.E) (envOk_at tabOk eqOk primsOk (.cons bn.spec<|.nil)) mixOk Tryz.func77 (by kernel_rfl)
theorem cm.L1_eq:cm.L1=
 some (0,()):=res_eq (by kernel_rfl)
theorem cm.F_eq (b):cm.F b=
 (bn.F b.1).bind fun r0=>
 bif (r0.1 !=0) then
  some (8,())
 else
  bif (decide ((b.2.1:Int)<0)) then
   some (8,())
  else
   bif (decide ((b.2.1:Int)>b.1.1)) then
    some (8,())
   else
    bif (decide ((b.2.2.1:Int)<0)) then
     some (8,())
    else
     bif (decide ((b.2.2.1:Int)≥b.1.2.2.1)) then
      some (8,())
     else
      bif (b.2.1==b.1.1) then
       bif (b.2.2.1 !=0) then
        some (8,())
       else
        cm.L1
      else
       cm.L1:=by kernel_rfl
def co.sg:Sig:=⟨[.val (.slice t9),.val (.int .u32)],[((.int .i64),true)]⟩
def co.E:Env:=⟨tl,fun i=>look i [],[],eqs,globs,prims⟩
def co.c:=cxOf co.E co.sg Tryz.f115
def co.b:=body Tryz.f115
def co.Fn:Fun:=fnOf co.E co.sg Tryz.f115
def co.F (l:List t9.den) (key:Int):Option (Int × Unit):=co.Fn.F (l,key,())
def co.L1 (l:List t9.den) (key i:Int):Option (Int × Unit):=res co.c (atLoop co.b [1,0,1,0]) ⟨[(0,(.v (.slice t9) l)),(1,(.v (.int .u32) key)),(5,(.v (.int .i64) i))],[],0,[]⟩
def co.L2 (l:List t9.den) (key i:Int):Option (Int × Unit):=res co.c (atJoin co.b [1,0,1,0,0,0,1]) ⟨[(0,(.v (.slice t9) l)),(1,(.v (.int .u32) key)),(5,(.v (.int .i64) i))],[],0,[]⟩
def co.L3 (l:List t9.den) (key i:Int):Option (Int × Unit):=res co.c (atJoin co.b [1,0,1,0,0,1,0,0,1]) ⟨[(0,(.v (.slice t9) l)),(1,(.v (.int .u32) key)),(5,(.v (.int .i64) i))],[],0,[]⟩
theorem co.spec:FnSpec Tryz.prog globs 115 co.Fn:=spec_of (E:=co.E) (envOk_at tabOk eqOk primsOk (.nil)) mixOk Tryz.func115 (by kernel_rfl)
theorem co.L1_eq (l key i):co.L1 l key i=
 bif (decide ((i:Int)<((List.length l:Int)))) then
  co.L2 l key i
 else
  some ((-1),()):=res_eq (by kernel_rfl)
theorem co.L2_eq (l key i):co.L2 l key i=
 bif (decide ((0:Int)≤i∧(i:Int)<((List.length l:Int)))) then
  bif ((List.getD l (Int.toNat i) d9_).1==key) then
   some (i,())
  else
   co.L3 l key i
 else none:=res_eq (by kernel_rfl)
theorem co.L3_eq (l key i):co.L3 l key i=
 co.L1 l key (IntKind.wrap .i64 (i+1)):=res_eq (by kernel_rfl)
theorem co.F_eq (l key):co.F l key=
 co.L1 l key 0:=by kernel_rfl
def cg.sg:Sig:=⟨[.val (.slice t9),.val (.int .i64),.val t0,.val (.int .u32)],[(.bool,true)]⟩
def cg.E:Env:=⟨tl,fun i=>look i [(77,cm.Fn),(115,co.Fn)],[],eqs,globs,prims⟩
def cg.c:=cxOf cg.E cg.sg Tryz.f78
def cg.b:=body Tryz.f78
def cg.Fn:Fun:=fnOf cg.E cg.sg Tryz.f78
def cg.F (l:List t9.den) (most:Int) (limit:t0.den) (key:Int):Option (Bool × Unit):=cg.Fn.F (l,most,limit,key,())
def cg.L1 (l:List t9.den) (most key:Int) (i b0:Int) (b02 b03:Int):Option (Bool × Unit):=res cg.c (atLoop cg.b [1,0,1,0]) ⟨[(0,(.v (.slice t9) l)),(1,(.v (.int .i64) most)),(3,(.v (.int .u32) key)),(6,(.ptr 0 [])),(9,(.v (.int .i64) i))],[(0,some (.box (.agg [(.v (.int .i64) b0),(.v (.int .i64) b02),(.v (.int .i64) b03)])))],1,[]⟩
def cg.L2 (l:List t9.den) (most key:Int) (i b0:Int) (b02 b03:Int):Option (Bool × Unit):=res cg.c (atJoin cg.b [1,0,1,0,0,0,1]) ⟨[(0,(.v (.slice t9) l)),(1,(.v (.int .i64) most)),(3,(.v (.int .u32) key)),(6,(.ptr 0 [])),(9,(.v (.int .i64) i))],[(0,some (.box (.agg [(.v (.int .i64) b0),(.v (.int .i64) b02),(.v (.int .i64) b03)])))],1,[]⟩
def cg.L3 (l:List t9.den) (most key:Int) (i b0:Int) (b02 b03:Int):Option (Bool × Unit):=res cg.c (atJoin cg.b [1,0,1,0,0,1,0,0,1]) ⟨[(0,(.v (.slice t9) l)),(1,(.v (.int .i64) most)),(3,(.v (.int .u32) key)),(6,(.ptr 0 [])),(9,(.v (.int .i64) i))],[(0,some (.box (.agg [(.v (.int .i64) b0),(.v (.int .i64) b02),(.v (.int .i64) b03)])))],1,[]⟩
theorem cg.spec:FnSpec Tryz.prog globs 78 cg.Fn:=spec_of (E:=cg.E) (envOk_at tabOk eqOk primsOk (.cons cm.spec<|.cons co.spec<|.nil)) mixOk Tryz.func78 (by kernel_rfl)
theorem cg.L1_eq (l most key i b0 b02 b03):cg.L1 l most key i b0 b02 b03=
 bif (decide ((i:Int)<((List.length l:Int)))) then
  cg.L2 l most key i b0 b02 b03
 else
  some ((decide ((((List.length l:Int)):Int)≤most)),()):=res_eq (by kernel_rfl)
theorem cg.L2_eq (l most key i b0 b02 b03):cg.L2 l most key i b0 b02 b03=
 bif (decide ((0:Int)≤i∧(i:Int)<((List.length l:Int)))) then
  (co.F l ((List.getD l (Int.toNat i) d9_).1)).bind fun r0=>
  bif (r0.1 !=i) then
   some (false,())
  else
   bif (decide ((0:Int)≤i∧(i:Int)<((List.length l:Int)))) then
    bif (decide ((((List.getD l (Int.toNat i) d9_).1):Int)>key)) then
     some (false,())
    else
     bif (decide ((0:Int)≤i∧(i:Int)<((List.length l:Int)))) then
      (cm.F (((List.getD l (Int.toNat i) d9_).2).1)).bind fun r1=>
      bif (r1.1 !=0) then
       some (false,())
      else
       bif (decide ((0:Int)≤i∧(i:Int)<((List.length l:Int)))) then
        bif (!(Ty.beq t0 ((((List.getD l (Int.toNat i) d9_).2).1).1) (b0,b02,b03,()))) then
         some (false,())
        else
         cg.L3 l most key i b0 b02 b03
       else none
     else none
   else none
 else none:=res_eq (by kernel_rfl)
theorem cg.L3_eq (l most key i b0 b02 b03):cg.L3 l most key i b0 b02 b03=
 cg.L1 l most key (IntKind.wrap .i64 (i+1)) b0 b02 b03:=res_eq (by kernel_rfl)
theorem cg.F_eq (l most limit key):cg.F l most limit key=
 cg.L1 l most key 0 limit.1 limit.2.1 limit.2.2.1:=by kernel_rfl
def ai.sg:Sig:=⟨[.val t10],[(.bool,true)]⟩
def ai.E:Env:=⟨tl,fun i=>look i [(76,bn.Fn),(77,cm.Fn),(78,cg.Fn)],[],eqs,globs,prims⟩
def ai.c:=cxOf ai.E ai.sg Tryz.f51
def ai.b:=body Tryz.f51
def ai.Fn:Fun:=fnOf ai.E ai.sg Tryz.f51
def ai.F (a:t10.den):Option (Bool × Unit):=ai.Fn.F (a,())
def ai.L1 (b0:Int) (b02:List t0.den) (b03:List Int) (b04 b05:Int) (b06 b07:Int) (b08 b09:Int) (b010 b011:List t9.den) (b012:List Int) (b013 b014 b015:Int):Option (Bool × Unit):=res ai.c (atJoin ai.b [1,0,1]) ⟨[(1,(.ptr 0 []))],[(0,some (.box (.agg [(.v (.int .u32) b0),(.v (.arr 3 t0) b02),(.v (.arr 2 (.int .i64)) b03),(.agg [(.agg [(.v (.int .i64) b04),(.v (.int .i64) b05),(.v (.int .i64) b06)]),(.v (.int .i64) b07),(.v (.int .i64) b08),(.v (.int .u64) b09)]),(.v (.slice t9) b010),(.v (.slice t9) b011),(.v (.slice (.int .u32)) b012),(.agg [(.v (.int .u64) b013),(.v (.int .u64) b014),(.v (.int .u64) b015)])])))],1,[]⟩
def ai.L2 (i b0:Int) (b02:List t0.den) (b03:List Int) (b04 b05:Int) (b06 b07:Int) (b08 b09:Int) (b010 b011:List t9.den) (b012:List Int) (b013 b014 b015:Int):Option (Bool × Unit):=res ai.c (atLoop ai.b [1,1,0,1,0]) ⟨[(1,(.ptr 0 [])),(3,(.v (.int .i64) i))],[(0,some (.box (.agg [(.v (.int .u32) b0),(.v (.arr 3 t0) b02),(.v (.arr 2 (.int .i64)) b03),(.agg [(.agg [(.v (.int .i64) b04),(.v (.int .i64) b05),(.v (.int .i64) b06)]),(.v (.int .i64) b07),(.v (.int .i64) b08),(.v (.int .u64) b09)]),(.v (.slice t9) b010),(.v (.slice t9) b011),(.v (.slice (.int .u32)) b012),(.agg [(.v (.int .u64) b013),(.v (.int .u64) b014),(.v (.int .u64) b015)])])))],1,[]⟩
def ai.L3 (i b0:Int) (b02:List t0.den) (b03:List Int) (b04 b05:Int) (b06 b07:Int) (b08 b09:Int) (b010 b011:List t9.den) (b012:List Int) (b013 b014 b015:Int):Option (Bool × Unit):=res ai.c (atJoin ai.b [1,1,0,1,0,0,0,1]) ⟨[(1,(.ptr 0 [])),(3,(.v (.int .i64) i))],[(0,some (.box (.agg [(.v (.int .u32) b0),(.v (.arr 3 t0) b02),(.v (.arr 2 (.int .i64)) b03),(.agg [(.agg [(.v (.int .i64) b04),(.v (.int .i64) b05),(.v (.int .i64) b06)]),(.v (.int .i64) b07),(.v (.int .i64) b08),(.v (.int .u64) b09)]),(.v (.slice t9) b010),(.v (.slice t9) b011),(.v (.slice (.int .u32)) b012),(.agg [(.v (.int .u64) b013),(.v (.int .u64) b014),(.v (.int .u64) b015)])])))],1,[]⟩
def ai.L4 (i b0:Int) (b02:List t0.den) (b03:List Int) (b04 b05:Int) (b06 b07:Int) (b08 b09:Int) (b010 b011:List t9.den) (b012:List Int) (b013 b014 b015:Int):Option (Bool × Unit):=res ai.c (atLoop ai.b [1,1,1,0,1,0]) ⟨[(1,(.ptr 0 [])),(4,(.v (.int .i64) i))],[(0,some (.box (.agg [(.v (.int .u32) b0),(.v (.arr 3 t0) b02),(.v (.arr 2 (.int .i64)) b03),(.agg [(.agg [(.v (.int .i64) b04),(.v (.int .i64) b05),(.v (.int .i64) b06)]),(.v (.int .i64) b07),(.v (.int .i64) b08),(.v (.int .u64) b09)]),(.v (.slice t9) b010),(.v (.slice t9) b011),(.v (.slice (.int .u32)) b012),(.agg [(.v (.int .u64) b013),(.v (.int .u64) b014),(.v (.int .u64) b015)])])))],1,[]⟩
def ai.L5 (i b0:Int) (b02:List t0.den) (b03:List Int) (b04 b05:Int) (b06 b07:Int) (b08 b09:Int) (b010 b011:List t9.den) (b012:List Int) (b013 b014 b015:Int):Option (Bool × Unit):=res ai.c (atJoin ai.b [1,1,1,0,1,0,0,0,1]) ⟨[(1,(.ptr 0 [])),(4,(.v (.int .i64) i))],[(0,some (.box (.agg [(.v (.int .u32) b0),(.v (.arr 3 t0) b02),(.v (.arr 2 (.int .i64)) b03),(.agg [(.agg [(.v (.int .i64) b04),(.v (.int .i64) b05),(.v (.int .i64) b06)]),(.v (.int .i64) b07),(.v (.int .i64) b08),(.v (.int .u64) b09)]),(.v (.slice t9) b010),(.v (.slice t9) b011),(.v (.slice (.int .u32)) b012),(.agg [(.v (.int .u64) b013),(.v (.int .u64) b014),(.v (.int .u64) b015)])])))],1,[]⟩
def ai.L6 (b0:Int) (b02:List t0.den) (b03:List Int) (b04 b05:Int) (b06 b07:Int) (b08 b09:Int) (b010 b011:List t9.den) (b012:List Int) (b013 b014 b015:Int):Option (Bool × Unit):=res ai.c (atJoin ai.b [1,1,1,1,0,1]) ⟨[(1,(.ptr 0 []))],[(0,some (.box (.agg [(.v (.int .u32) b0),(.v (.arr 3 t0) b02),(.v (.arr 2 (.int .i64)) b03),(.agg [(.agg [(.v (.int .i64) b04),(.v (.int .i64) b05),(.v (.int .i64) b06)]),(.v (.int .i64) b07),(.v (.int .i64) b08),(.v (.int .u64) b09)]),(.v (.slice t9) b010),(.v (.slice t9) b011),(.v (.slice (.int .u32)) b012),(.agg [(.v (.int .u64) b013),(.v (.int .u64) b014),(.v (.int .u64) b015)])])))],1,[]⟩
def ai.L7 (i b0:Int) (b02:List t0.den) (b03:List Int) (b04 b05:Int) (b06 b07:Int) (b08 b09:Int) (b010 b011:List t9.den) (b012:List Int) (b013 b014 b015:Int):Option (Bool × Unit):=res ai.c (atJoin ai.b [1,1,1,0,1,0,0,1,0,0,1]) ⟨[(1,(.ptr 0 [])),(4,(.v (.int .i64) i))],[(0,some (.box (.agg [(.v (.int .u32) b0),(.v (.arr 3 t0) b02),(.v (.arr 2 (.int .i64)) b03),(.agg [(.agg [(.v (.int .i64) b04),(.v (.int .i64) b05),(.v (.int .i64) b06)]),(.v (.int .i64) b07),(.v (.int .i64) b08),(.v (.int .u64) b09)]),(.v (.slice t9) b010),(.v (.slice t9) b011),(.v (.slice (.int .u32)) b012),(.agg [(.v (.int .u64) b013),(.v (.int .u64) b014),(.v (.int .u64) b015)])])))],1,[]⟩
def ai.L8 (i b0:Int) (b02:List t0.den) (b03:List Int) (b04 b05:Int) (b06 b07:Int) (b08 b09:Int) (b010 b011:List t9.den) (b012:List Int) (b013 b014 b015:Int):Option (Bool × Unit):=res ai.c (atJoin ai.b [1,1,0,1,0,0,1,0,0,1]) ⟨[(1,(.ptr 0 [])),(3,(.v (.int .i64) i))],[(0,some (.box (.agg [(.v (.int .u32) b0),(.v (.arr 3 t0) b02),(.v (.arr 2 (.int .i64)) b03),(.agg [(.agg [(.v (.int .i64) b04),(.v (.int .i64) b05),(.v (.int .i64) b06)]),(.v (.int .i64) b07),(.v (.int .i64) b08),(.v (.int .u64) b09)]),(.v (.slice t9) b010),(.v (.slice t9) b011),(.v (.slice (.int .u32)) b012),(.agg [(.v (.int .u64) b013),(.v (.int .u64) b014),(.v (.int .u64) b015)])])))],1,[]⟩
theorem ai.spec:FnSpec Tryz.prog globs 51 ai.Fn:=spec_of (E:=ai.E) (envOk_at tabOk eqOk primsOk (.cons bn.spec<|.cons cm.spec<|.cons cg.spec<|.nil)) mixOk Tryz.func51 (by kernel_rfl)
theorem ai.L1_eq (b0 b02 b03 b04 b05 b06 b07 b08 b09 b010 b011 b012 b013 b014 b015):ai.L1 b0 b02 b03 b04 b05 b06 b07 b08 b09 b010 b011 b012 b013 b014 b015=
 ai.L2 0 b0 b02 b03 b04 b05 b06 b07 b08 b09 b010 b011 b012 b013 b014 b015:=res_eq (by kernel_rfl)
theorem ai.L2_eq (i b0 b02 b03 b04 b05 b06 b07 b08 b09 b010 b011 b012 b013 b014 b015):ai.L2 i b0 b02 b03 b04 b05 b06 b07 b08 b09 b010 b011 b012 b013 b014 b015=
 bif (decide ((i:Int)<3)) then
  ai.L3 i b0 b02 b03 b04 b05 b06 b07 b08 b09 b010 b011 b012 b013 b014 b015
 else
  ai.L4 1 b0 b02 b03 b04 b05 b06 b07 b08 b09 b010 b011 b012 b013 b014 b015:=res_eq (by kernel_rfl)
theorem ai.L3_eq (i b0 b02 b03 b04 b05 b06 b07 b08 b09 b010 b011 b012 b013 b014 b015):ai.L3 i b0 b02 b03 b04 b05 b06 b07 b08 b09 b010 b011 b012 b013 b014 b015=
 bif (decide ((0:Int)≤i∧(i:Int)<3)) then
  (bn.F (List.getD b02 (Int.toNat i) (0,0,0,()))).bind fun r0=>
  bif (r0.1 !=0) then
   some (false,())
  else
   bif (decide ((i:Int)<2)) then
    bif (decide ((0:Int)≤i∧(i:Int)<2)) then
     bif (decide (((List.getD b03 (Int.toNat i) 0):Int)<1)) then
      some (false,())
     else
      bif (decide ((0:Int)≤i∧(i:Int)<2)) then
       bif (decide (((List.getD b03 (Int.toNat i) 0):Int)>8)) then
        some (false,())
       else
        ai.L8 i b0 b02 b03 b04 b05 b06 b07 b08 b09 b010 b011 b012 b013 b014 b015
      else none
    else none
   else
    ai.L8 i b0 b02 b03 b04 b05 b06 b07 b08 b09 b010 b011 b012 b013 b014 b015
 else none:=res_eq (by kernel_rfl)
theorem ai.L4_eq (i b0 b02 b03 b04 b05 b06 b07 b08 b09 b010 b011 b012 b013 b014 b015):ai.L4 i b0 b02 b03 b04 b05 b06 b07 b08 b09 b010 b011 b012 b013 b014 b015=
 bif (decide ((i:Int)<((List.length b012:Int)))) then
  ai.L5 i b0 b02 b03 b04 b05 b06 b07 b08 b09 b010 b011 b012 b013 b014 b015
 else
  (cm.F ((b04,b05,b06,()),b07,b08,b09,())).bind fun r0=>
  bif (r0.1 !=0) then
   some (false,())
  else
   bif (decide ((0:Int)≤0∧(0:Int)<3)) then
    bif (!(Ty.beq t0 (b04,b05,b06,()) (List.getD b02 (Int.toNat 0) (0,0,0,())))) then
     some (false,())
    else
     ai.L6 b0 b02 b03 b04 b05 b06 b07 b08 b09 b010 b011 b012 b013 b014 b015
   else none:=res_eq (by kernel_rfl)
theorem ai.L5_eq (i b0 b02 b03 b04 b05 b06 b07 b08 b09 b010 b011 b012 b013 b014 b015):ai.L5 i b0 b02 b03 b04 b05 b06 b07 b08 b09 b010 b011 b012 b013 b014 b015=
 bif (decide ((0:Int)≤(IntKind.wrap .i64 (i - 1))∧((IntKind.wrap .i64 (i - 1)):Int)<((List.length b012:Int)))) then
  bif (decide ((0:Int)≤i∧(i:Int)<((List.length b012:Int)))) then
   bif (decide (((List.getD b012 (Int.toNat (IntKind.wrap .i64 (i - 1))) 0):Int)≥(List.getD b012 (Int.toNat i) 0))) then
    some (false,())
   else
    ai.L7 i b0 b02 b03 b04 b05 b06 b07 b08 b09 b010 b011 b012 b013 b014 b015
  else none
 else none:=res_eq (by kernel_rfl)
theorem ai.L6_eq (b0 b02 b03 b04 b05 b06 b07 b08 b09 b010 b011 b012 b013 b014 b015):ai.L6 b0 b02 b03 b04 b05 b06 b07 b08 b09 b010 b011 b012 b013 b014 b015=
 bif (decide ((0:Int)≤0∧(0:Int)<2)) then
  bif (decide ((0:Int)≤1∧(1:Int)<3)) then
   (cg.F b010 (List.getD b03 (Int.toNat 0) 0) (List.getD b02 (Int.toNat 1) (0,0,0,())) 4294967295).bind fun r0=>
   bif r0.1 then
    bif (decide ((0:Int)≤1∧(1:Int)<2)) then
     bif (decide ((0:Int)≤2∧(2:Int)<3)) then
      (cg.F b011 (List.getD b03 (Int.toNat 1) 0) (List.getD b02 (Int.toNat 2) (0,0,0,())) 65535).bind fun r1=>
      some (r1.1,())
     else none
    else none
   else
    some (false,())
  else none
 else none:=res_eq (by kernel_rfl)
theorem ai.L7_eq (i b0 b02 b03 b04 b05 b06 b07 b08 b09 b010 b011 b012 b013 b014 b015):ai.L7 i b0 b02 b03 b04 b05 b06 b07 b08 b09 b010 b011 b012 b013 b014 b015=
 ai.L4 (IntKind.wrap .i64 (i+1)) b0 b02 b03 b04 b05 b06 b07 b08 b09 b010 b011 b012 b013 b014 b015:=res_eq (by kernel_rfl)
theorem ai.L8_eq (i b0 b02 b03 b04 b05 b06 b07 b08 b09 b010 b011 b012 b013 b014 b015):ai.L8 i b0 b02 b03 b04 b05 b06 b07 b08 b09 b010 b011 b012 b013 b014 b015=
 ai.L2 (IntKind.wrap .i64 (i+1)) b0 b02 b03 b04 b05 b06 b07 b08 b09 b010 b011 b012 b013 b014 b015:=res_eq (by kernel_rfl)
theorem ai.F_eq (a):ai.F a=
 bif (decide ((a.1:Int)≥16)) then
  some (false,())
 else
  bif (decide ((((List.length a.2.2.2.2.2.2.1:Int)):Int)>8)) then
   some (false,())
  else
   ai.L1 a.1 a.2.1 a.2.2.1 a.2.2.2.1.1.1 a.2.2.2.1.1.2.1 a.2.2.2.1.1.2.2.1 a.2.2.2.1.2.1 a.2.2.2.1.2.2.1 a.2.2.2.1.2.2.2.1 a.2.2.2.2.1 a.2.2.2.2.2.1 a.2.2.2.2.2.2.1 a.2.2.2.2.2.2.2.1.1 a.2.2.2.2.2.2.2.1.2.1 a.2.2.2.2.2.2.2.1.2.2.1:=by kernel_rfl
def b9.sg:Sig:=⟨[.val t10,.val (.int .u64)],[(.bool,true)]⟩
def b9.E:Env:=⟨tl,fun i=>look i [],[],eqs,globs,prims⟩
def b9.c:=cxOf b9.E b9.sg Tryz.f52
def b9.b:=body Tryz.f52
def b9.Fn:Fun:=fnOf b9.E b9.sg Tryz.f52
def b9.F (a:t10.den) (tick:Int):Option (Bool × Unit):=b9.Fn.F (a,tick,())
def b9.L1 (tick:Int) (late:Bool) (i b0:Int) (b02:List t0.den) (b03:List Int) (b04 b05:Int) (b06 b07:Int) (b08 b09:Int) (b010 b011:List t9.den) (b012:List Int) (b013 b014 b015:Int):Option (Bool × Unit):=res b9.c (atLoop b9.b [1,1,0,1,0]) ⟨[(1,(.v (.int .u64) tick)),(2,(.ptr 0 [])),(5,(.v .bool late)),(6,(.v (.int .i64) i))],[(0,some (.box (.agg [(.v (.int .u32) b0),(.v (.arr 3 t0) b02),(.v (.arr 2 (.int .i64)) b03),(.agg [(.agg [(.v (.int .i64) b04),(.v (.int .i64) b05),(.v (.int .i64) b06)]),(.v (.int .i64) b07),(.v (.int .i64) b08),(.v (.int .u64) b09)]),(.v (.slice t9) b010),(.v (.slice t9) b011),(.v (.slice (.int .u32)) b012),(.agg [(.v (.int .u64) b013),(.v (.int .u64) b014),(.v (.int .u64) b015)])])))],1,[]⟩
def b9.L2 (tick:Int) (late:Bool) (i b0:Int) (b02:List t0.den) (b03:List Int) (b04 b05:Int) (b06 b07:Int) (b08 b09:Int) (b010 b011:List t9.den) (b012:List Int) (b013 b014 b015:Int):Option (Bool × Unit):=res b9.c (atJoin b9.b [1,1,0,1,0,0,0,1]) ⟨[(1,(.v (.int .u64) tick)),(2,(.ptr 0 [])),(5,(.v .bool late)),(6,(.v (.int .i64) i))],[(0,some (.box (.agg [(.v (.int .u32) b0),(.v (.arr 3 t0) b02),(.v (.arr 2 (.int .i64)) b03),(.agg [(.agg [(.v (.int .i64) b04),(.v (.int .i64) b05),(.v (.int .i64) b06)]),(.v (.int .i64) b07),(.v (.int .i64) b08),(.v (.int .u64) b09)]),(.v (.slice t9) b010),(.v (.slice t9) b011),(.v (.slice (.int .u32)) b012),(.agg [(.v (.int .u64) b013),(.v (.int .u64) b014),(.v (.int .u64) b015)])])))],1,[]⟩
def b9.L3 (tick:Int) (late:Bool) (i b0:Int) (b02:List t0.den) (b03:List Int) (b04 b05:Int) (b06 b07:Int) (b08 b09:Int) (b010 b011:List t9.den) (b012:List Int) (b013 b014 b015:Int):Option (Bool × Unit):=res b9.c (atLoop b9.b [1,1,1,0,1,0]) ⟨[(1,(.v (.int .u64) tick)),(2,(.ptr 0 [])),(5,(.v .bool late)),(7,(.v (.int .i64) i))],[(0,some (.box (.agg [(.v (.int .u32) b0),(.v (.arr 3 t0) b02),(.v (.arr 2 (.int .i64)) b03),(.agg [(.agg [(.v (.int .i64) b04),(.v (.int .i64) b05),(.v (.int .i64) b06)]),(.v (.int .i64) b07),(.v (.int .i64) b08),(.v (.int .u64) b09)]),(.v (.slice t9) b010),(.v (.slice t9) b011),(.v (.slice (.int .u32)) b012),(.agg [(.v (.int .u64) b013),(.v (.int .u64) b014),(.v (.int .u64) b015)])])))],1,[]⟩
def b9.L4 (tick:Int) (late:Bool) (i b0:Int) (b02:List t0.den) (b03:List Int) (b04 b05:Int) (b06 b07:Int) (b08 b09:Int) (b010 b011:List t9.den) (b012:List Int) (b013 b014 b015:Int):Option (Bool × Unit):=res b9.c (atJoin b9.b [1,1,1,0,1,0,0,0,1]) ⟨[(1,(.v (.int .u64) tick)),(2,(.ptr 0 [])),(5,(.v .bool late)),(7,(.v (.int .i64) i))],[(0,some (.box (.agg [(.v (.int .u32) b0),(.v (.arr 3 t0) b02),(.v (.arr 2 (.int .i64)) b03),(.agg [(.agg [(.v (.int .i64) b04),(.v (.int .i64) b05),(.v (.int .i64) b06)]),(.v (.int .i64) b07),(.v (.int .i64) b08),(.v (.int .u64) b09)]),(.v (.slice t9) b010),(.v (.slice t9) b011),(.v (.slice (.int .u32)) b012),(.agg [(.v (.int .u64) b013),(.v (.int .u64) b014),(.v (.int .u64) b015)])])))],1,[]⟩
theorem b9.spec:FnSpec Tryz.prog globs 52 b9.Fn:=spec_of (E:=b9.E) (envOk_at tabOk eqOk primsOk (.nil)) mixOk Tryz.func52 (by kernel_rfl)
theorem b9.L1_eq (tick late i b0 b02 b03 b04 b05 b06 b07 b08 b09 b010 b011 b012 b013 b014 b015):b9.L1 tick late i b0 b02 b03 b04 b05 b06 b07 b08 b09 b010 b011 b012 b013 b014 b015=
 bif (decide ((i:Int)<((List.length b010:Int)))) then
  b9.L2 tick late i b0 b02 b03 b04 b05 b06 b07 b08 b09 b010 b011 b012 b013 b014 b015
 else
  b9.L3 tick late 0 b0 b02 b03 b04 b05 b06 b07 b08 b09 b010 b011 b012 b013 b014 b015:=res_eq (by kernel_rfl)
theorem b9.L2_eq (tick late i b0 b02 b03 b04 b05 b06 b07 b08 b09 b010 b011 b012 b013 b014 b015):b9.L2 tick late i b0 b02 b03 b04 b05 b06 b07 b08 b09 b010 b011 b012 b013 b014 b015=
 bif late then
  b9.L1 tick true (IntKind.wrap .i64 (i+1)) b0 b02 b03 b04 b05 b06 b07 b08 b09 b010 b011 b012 b013 b014 b015
 else
  bif (decide ((0:Int)≤i∧(i:Int)<((List.length b010:Int)))) then
   b9.L1 tick (decide (((((((((List.getD b010 (Int.toNat i) d9_).2).1).2).2).2).1):Int)>tick)) (IntKind.wrap .i64 (i+1)) b0 b02 b03 b04 b05 b06 b07 b08 b09 b010 b011 b012 b013 b014 b015
  else none:=res_eq (by kernel_rfl)
theorem b9.L3_eq (tick late i b0 b02 b03 b04 b05 b06 b07 b08 b09 b010 b011 b012 b013 b014 b015):b9.L3 tick late i b0 b02 b03 b04 b05 b06 b07 b08 b09 b010 b011 b012 b013 b014 b015=
 bif (decide ((i:Int)<((List.length b011:Int)))) then
  b9.L4 tick late i b0 b02 b03 b04 b05 b06 b07 b08 b09 b010 b011 b012 b013 b014 b015
 else
  some (late,()):=res_eq (by kernel_rfl)
theorem b9.L4_eq (tick late i b0 b02 b03 b04 b05 b06 b07 b08 b09 b010 b011 b012 b013 b014 b015):b9.L4 tick late i b0 b02 b03 b04 b05 b06 b07 b08 b09 b010 b011 b012 b013 b014 b015=
 bif late then
  b9.L3 tick true (IntKind.wrap .i64 (i+1)) b0 b02 b03 b04 b05 b06 b07 b08 b09 b010 b011 b012 b013 b014 b015
 else
  bif (decide ((0:Int)≤i∧(i:Int)<((List.length b011:Int)))) then
   b9.L3 tick (decide (((((((((List.getD b011 (Int.toNat i) d9_).2).1).2).2).2).1):Int)>tick)) (IntKind.wrap .i64 (i+1)) b0 b02 b03 b04 b05 b06 b07 b08 b09 b010 b011 b012 b013 b014 b015
  else none:=res_eq (by kernel_rfl)
theorem b9.F_eq (a tick):b9.F a tick=
 b9.L1 tick (decide ((a.2.2.2.1.2.2.2.1:Int)>tick)) 0 a.1 a.2.1 a.2.2.1 a.2.2.2.1.1.1 a.2.2.2.1.1.2.1 a.2.2.2.1.1.2.2.1 a.2.2.2.1.2.1 a.2.2.2.1.2.2.1 a.2.2.2.1.2.2.2.1 a.2.2.2.2.1 a.2.2.2.2.2.1 a.2.2.2.2.2.2.1 a.2.2.2.2.2.2.2.1.1 a.2.2.2.2.2.2.2.1.2.1 a.2.2.2.2.2.2.2.1.2.2.1:=by kernel_rfl
def ah.sg:Sig:=⟨[.val t11],[((.int .i64),true)]⟩
def ah.E:Env:=⟨tl,fun i=>look i [(51,ai.Fn),(52,b9.Fn)],[],eqs,globs,prims⟩
def ah.c:=cxOf ah.E ah.sg Tryz.f27
def ah.b:=body Tryz.f27
def ah.Fn:Fun:=fnOf ah.E ah.sg Tryz.f27
def ah.F (m:t11.den):Option (Int × Unit):=ah.Fn.F (m,())
def ah.L1 (b0:Int) (b02 b03:List Int) (b04:List t10.den):Option (Int × Unit):=res ah.c (atJoin ah.b [1,0,1]) ⟨[(1,(.ptr 0 []))],[(0,some (.box (.agg [(.v (.int .u64) b0),(.v (.arr 32 (.int .u8)) b02),(.v (.arr 16 (.int .u32)) b03),(.v (.slice t10) b04)])))],1,[]⟩
def ah.L2 (i b0:Int) (b02 b03:List Int) (b04:List t10.den):Option (Int × Unit):=res ah.c (atLoop ah.b [1,1,0,1,0]) ⟨[(1,(.ptr 0 [])),(3,(.v (.int .i64) i))],[(0,some (.box (.agg [(.v (.int .u64) b0),(.v (.arr 32 (.int .u8)) b02),(.v (.arr 16 (.int .u32)) b03),(.v (.slice t10) b04)])))],1,[]⟩
def ah.L3 (i b0:Int) (b02 b03:List Int) (b04:List t10.den):Option (Int × Unit):=res ah.c (atJoin ah.b [1,1,0,1,0,0,0,1]) ⟨[(1,(.ptr 0 [])),(3,(.v (.int .i64) i))],[(0,some (.box (.agg [(.v (.int .u64) b0),(.v (.arr 32 (.int .u8)) b02),(.v (.arr 16 (.int .u32)) b03),(.v (.slice t10) b04)])))],1,[]⟩
def ah.L4 (i b0:Int) (b02 b03:List Int) (b04:List t10.den):Option (Int × Unit):=res ah.c (atLoop ah.b [1,1,1,0,1,0]) ⟨[(1,(.ptr 0 [])),(4,(.v (.int .i64) i))],[(0,some (.box (.agg [(.v (.int .u64) b0),(.v (.arr 32 (.int .u8)) b02),(.v (.arr 16 (.int .u32)) b03),(.v (.slice t10) b04)])))],1,[]⟩
def ah.L5 (i b0:Int) (b02 b03:List Int) (b04:List t10.den):Option (Int × Unit):=res ah.c (atJoin ah.b [1,1,1,0,1,0,0,0,1]) ⟨[(1,(.ptr 0 [])),(4,(.v (.int .i64) i))],[(0,some (.box (.agg [(.v (.int .u64) b0),(.v (.arr 32 (.int .u8)) b02),(.v (.arr 16 (.int .u32)) b03),(.v (.slice t10) b04)])))],1,[]⟩
def ah.L6 (i b0:Int) (b02 b03:List Int) (b04:List t10.den):Option (Int × Unit):=res ah.c (atJoin ah.b [1,1,1,0,1,0,0,1,0,0,1]) ⟨[(1,(.ptr 0 [])),(4,(.v (.int .i64) i))],[(0,some (.box (.agg [(.v (.int .u64) b0),(.v (.arr 32 (.int .u8)) b02),(.v (.arr 16 (.int .u32)) b03),(.v (.slice t10) b04)])))],1,[]⟩
def ah.L7 (i b0:Int) (b02 b03:List Int) (b04:List t10.den):Option (Int × Unit):=res ah.c (atJoin ah.b [1,1,0,1,0,0,1,0,0,1]) ⟨[(1,(.ptr 0 [])),(3,(.v (.int .i64) i))],[(0,some (.box (.agg [(.v (.int .u64) b0),(.v (.arr 32 (.int .u8)) b02),(.v (.arr 16 (.int .u32)) b03),(.v (.slice t10) b04)])))],1,[]⟩
theorem ah.spec:FnSpec Tryz.prog globs 27 ah.Fn:=spec_of (E:=ah.E) (envOk_at tabOk eqOk primsOk (.cons ai.spec<|.cons b9.spec<|.nil)) mixOk Tryz.func27 (by kernel_rfl)
theorem ah.L1_eq (b0 b02 b03 b04):ah.L1 b0 b02 b03 b04=
 ah.L2 0 b0 b02 b03 b04:=res_eq (by kernel_rfl)
theorem ah.L2_eq (i b0 b02 b03 b04):ah.L2 i b0 b02 b03 b04=
 bif (decide ((i:Int)<((List.length b04:Int)))) then
  ah.L3 i b0 b02 b03 b04
 else
  ah.L4 0 b0 b02 b03 b04:=res_eq (by kernel_rfl)
theorem ah.L3_eq (i b0 b02 b03 b04):ah.L3 i b0 b02 b03 b04=
 bif (decide ((0:Int)≤i∧(i:Int)<((List.length b04:Int)))) then
  (ai.F (List.getD b04 (Int.toNat i) d10_)).bind fun r0=>
  bif (!r0.1) then
   some (8,())
  else
   bif (decide ((0:Int)≤i∧(i:Int)<((List.length b04:Int)))) then
    (b9.F (List.getD b04 (Int.toNat i) d10_) b0).bind fun r1=>
    bif r1.1 then
     some (8,())
    else
     bif (decide ((i:Int)>0)) then
      bif (decide ((0:Int)≤(IntKind.wrap .i64 (i - 1))∧((IntKind.wrap .i64 (i - 1)):Int)<((List.length b04:Int)))) then
       bif (decide ((0:Int)≤i∧(i:Int)<((List.length b04:Int)))) then
        bif (decide ((((List.getD b04 (Int.toNat (IntKind.wrap .i64 (i - 1))) d10_).1):Int)≥((List.getD b04 (Int.toNat i) d10_).1))) then
         some (8,())
        else
         ah.L7 i b0 b02 b03 b04
       else none
      else none
     else
      ah.L7 i b0 b02 b03 b04
   else none
 else none:=res_eq (by kernel_rfl)
theorem ah.L4_eq (i b0 b02 b03 b04):ah.L4 i b0 b02 b03 b04=
 bif (decide ((i:Int)<16)) then
  ah.L5 i b0 b02 b03 b04
 else
  some (0,()):=res_eq (by kernel_rfl)
theorem ah.L5_eq (i b0 b02 b03 b04):ah.L5 i b0 b02 b03 b04=
 bif (decide ((0:Int)≤i∧(i:Int)<16)) then
  bif (decide (((List.getD b03 (Int.toNat i) 0):Int)>1000000)) then
   some (8,())
  else
   ah.L6 i b0 b02 b03 b04
 else none:=res_eq (by kernel_rfl)
theorem ah.L6_eq (i b0 b02 b03 b04):ah.L6 i b0 b02 b03 b04=
 ah.L4 (IntKind.wrap .i64 (i+1)) b0 b02 b03 b04:=res_eq (by kernel_rfl)
theorem ah.L7_eq (i b0 b02 b03 b04):ah.L7 i b0 b02 b03 b04=
 ah.L2 (IntKind.wrap .i64 (i+1)) b0 b02 b03 b04:=res_eq (by kernel_rfl)
theorem ah.F_eq (m):ah.F m=
 bif (decide ((((List.length m.2.2.2.1:Int)):Int)>8)) then
  some (8,())
 else
  ah.L1 m.1 m.2.1 m.2.2.1 m.2.2.2.1:=by kernel_rfl
def bw.sg:Sig:=⟨[.val (.int .i64)],[(t2,true),((.int .i64),true)]⟩
def bw.E:Env:=⟨tl,fun i=>look i [],[],eqs,globs,prims⟩
def bw.c:=cxOf bw.E bw.sg Tryz.f89
def bw.b:=body Tryz.f89
def bw.Fn:Fun:=fnOf bw.E bw.sg Tryz.f89
def bw.F (n:Int):Option (t2.den × Int × Unit):=bw.Fn.F (n,())
def bw.L1 (n:Int) (l1:List Int) (l2:List Bool):Option (t2.den × Int × Unit):=res bw.c (atJoin bw.b [1,0,1]) ⟨[(0,(.v (.int .i64) n)),(2,(.ptr 0 []))],[(0,some (.box (.agg [(.sl 1),(.sl 2),(.v (.int .i64) 0)]))),(1,some (.row (.int .i64) l1 false)),(2,some (.row .bool l2 false))],3,[]⟩
def bw.L2 (n i:Int) (l2:List Int) (l3:List Bool) (l4:List Int) (l5:List Bool):Option (t2.den × Int × Unit):=res bw.c (atLoop bw.b [1,1,1,0,1,0]) ⟨[(0,(.v (.int .i64) n)),(2,(.ptr 0 [])),(4,(.ptr 1 [])),(5,(.v (.int .i64) i))],[(0,some (.box (.agg [(.sl 2),(.sl 3),(.v (.int .i64) 0)]))),(1,some (.box (.agg [(.sl 4),(.sl 5),(.v (.int .i64) 0)]))),(2,some (.row (.int .i64) l2 false)),(3,some (.row .bool l3 false)),(4,some (.row (.int .i64) l4 false)),(5,some (.row .bool l5 false))],6,[]⟩
def bw.L3 (n i:Int) (l2:List Int) (l3:List Bool) (l4:List Int) (l5:List Bool):Option (t2.den × Int × Unit):=res bw.c (atJoin bw.b [1,1,1,0,1,0,0,0,1]) ⟨[(0,(.v (.int .i64) n)),(2,(.ptr 0 [])),(4,(.ptr 1 [])),(5,(.v (.int .i64) i))],[(0,some (.box (.agg [(.sl 2),(.sl 3),(.v (.int .i64) 0)]))),(1,some (.box (.agg [(.sl 4),(.sl 5),(.v (.int .i64) 0)]))),(2,some (.row (.int .i64) l2 false)),(3,some (.row .bool l3 false)),(4,some (.row (.int .i64) l4 false)),(5,some (.row .bool l5 false))],6,[]⟩
def bw.L4 (n i:Int) (l2:List Int) (l3:List Bool) (l4:List Int) (l5:List Bool):Option (t2.den × Int × Unit):=res bw.c (atJoin bw.b [1,1,1,0,1,0,0,1,0,0,0,1]) ⟨[(0,(.v (.int .i64) n)),(2,(.ptr 0 [])),(4,(.ptr 1 [])),(5,(.v (.int .i64) i))],[(0,some (.box (.agg [(.sl 2),(.sl 3),(.v (.int .i64) 0)]))),(1,some (.box (.agg [(.sl 4),(.sl 5),(.v (.int .i64) 0)]))),(2,some (.row (.int .i64) l2 false)),(3,some (.row .bool l3 false)),(4,some (.row (.int .i64) l4 false)),(5,some (.row .bool l5 false))],6,[]⟩
theorem bw.spec:FnSpec Tryz.prog globs 89 bw.Fn:=spec_of (E:=bw.E) (envOk_at tabOk eqOk primsOk (.nil)) mixOk Tryz.func89 (by kernel_rfl)
theorem bw.L1_eq (n l1 l2):bw.L1 n l1 l2=
 bw.L2 n 0 l1 l2 ([]:List Int) ([]:List Bool):=res_eq (by kernel_rfl)
theorem bw.L2_eq (n i l2 l3 l4 l5):bw.L2 n i l2 l3 l4 l5=
 bif (decide ((i:Int)<n)) then
  bw.L3 n i l2 l3 l4 l5
 else
  some ((l4,l5,0,()),0,()):=res_eq (by kernel_rfl)
theorem bw.L3_eq (n i l2 l3 l4 l5):bw.L3 n i l2 l3 l4 l5=
 bif (decide (((IntKind.wrap .i64 (i+1)):Int)<n)) then
  bif (lim ((List.length l4)+(List.length ([(IntKind.wrap .i64 (i+1))]:List Int))) (.int .i64)) then
   bw.L4 n i l2 l3 (l4++([(IntKind.wrap .i64 (i+1))]:List Int)) l5
  else none
 else
  bif (lim ((List.length l4)+(List.length ([(-1)]:List Int))) (.int .i64)) then
   bw.L4 n i l2 l3 (l4++([(-1)]:List Int)) l5
  else none:=res_eq (by kernel_rfl)
theorem bw.L4_eq (n i l2 l3 l4 l5):bw.L4 n i l2 l3 l4 l5=
 bif (lim ((List.length l5)+(List.length ([false]:List Bool))) .bool) then
  bw.L2 n (IntKind.wrap .i64 (i+1)) l2 l3 l4 (l5++([false]:List Bool))
 else none:=res_eq (by kernel_rfl)
theorem bw.F_eq (n):bw.F n=
 bif (decide ((n:Int)<1)) then
  some ((([]:List Int),([]:List Bool),0,()),2,())
 else
  bif (decide ((n:Int)>16)) then
   some ((([]:List Int),([]:List Bool),0,()),2,())
  else
   bw.L1 n ([]:List Int) ([]:List Bool):=by kernel_rfl
def al.sg:Sig:=⟨[.val (.int .i64),.val (.slice (.int .i64))],[(t4,true)]⟩
def al.E:Env:=⟨tl,fun i=>look i [],[],eqs,globs,prims⟩
def al.c:=cxOf al.E al.sg Tryz.f132
def al.b:=body Tryz.f132
def al.Fn:Fun:=fnOf al.E al.sg Tryz.f132
def al.F (n:Int) (l:List Int):Option (t4.den × Unit):=al.Fn.F (n,l,())
def al.L1 (n:Int) (l:List Int) (i:Int) (l2 l4:List Int):Option (t4.den × Unit):=res al.c (atLoop al.b [1,1,0,1,0]) ⟨[(0,(.v (.int .i64) n)),(1,(.v (.slice (.int .i64)) l)),(4,(.ptr 0 [])),(5,(.ptr 1 [])),(6,(.v (.int .i64) i))],[(0,some (.box (.agg [(.sl 2),(.sl 3),(.v (.int .i64) 0),(.v (.int .i64) 0)]))),(1,some (.box (.agg [(.sl 4),(.sl 5),(.v (.int .i64) (-1)),(.v (.int .i64) (-1))]))),(2,some (.row (.int .i64) l2 false)),(3,some (.row (.int .i64) l2 false)),(4,some (.row (.int .i64) l4 false)),(5,some (.row (.int .i64) l4 false))],6,[]⟩
def al.L2 (n:Int) (l:List Int) (i:Int) (l2 l4:List Int):Option (t4.den × Unit):=res al.c (atJoin al.b [1,1,0,1,0,0,0,1]) ⟨[(0,(.v (.int .i64) n)),(1,(.v (.slice (.int .i64)) l)),(4,(.ptr 0 [])),(5,(.ptr 1 [])),(6,(.v (.int .i64) i))],[(0,some (.box (.agg [(.sl 2),(.sl 3),(.v (.int .i64) 0),(.v (.int .i64) 0)]))),(1,some (.box (.agg [(.sl 4),(.sl 5),(.v (.int .i64) (-1)),(.v (.int .i64) (-1))]))),(2,some (.row (.int .i64) l2 false)),(3,some (.row (.int .i64) l2 false)),(4,some (.row (.int .i64) l4 false)),(5,some (.row (.int .i64) l4 false))],6,[]⟩
def al.L3 (l:List Int) (i b1 b12:Int) (l2 l4 l5:List Int):Option (t4.den × Unit):=res al.c (atLoop al.b [1,1,1,0,1,0]) ⟨[(1,(.v (.slice (.int .i64)) l)),(4,(.ptr 0 [])),(5,(.ptr 1 [])),(7,(.v (.int .i64) i))],[(0,some (.box (.agg [(.sl 2),(.sl 3),(.v (.int .i64) 0),(.v (.int .i64) 0)]))),(1,some (.box (.agg [(.sl 4),(.sl 5),(.v (.int .i64) b1),(.v (.int .i64) b12)]))),(2,some (.row (.int .i64) l2 false)),(3,some (.row (.int .i64) l2 false)),(4,some (.row (.int .i64) l4 false)),(5,some (.row (.int .i64) l5 false))],6,[]⟩
def al.L4 (l:List Int) (i b1 b12:Int) (l2 l4 l5:List Int):Option (t4.den × Unit):=res al.c (atJoin al.b [1,1,1,0,1,0,0,0,1]) ⟨[(1,(.v (.slice (.int .i64)) l)),(4,(.ptr 0 [])),(5,(.ptr 1 [])),(7,(.v (.int .i64) i))],[(0,some (.box (.agg [(.sl 2),(.sl 3),(.v (.int .i64) 0),(.v (.int .i64) 0)]))),(1,some (.box (.agg [(.sl 4),(.sl 5),(.v (.int .i64) b1),(.v (.int .i64) b12)]))),(2,some (.row (.int .i64) l2 false)),(3,some (.row (.int .i64) l2 false)),(4,some (.row (.int .i64) l4 false)),(5,some (.row (.int .i64) l5 false))],6,[]⟩
def al.L5 (l:List Int) (i b1 b12:Int) (l2 l4 l5:List Int):Option (t4.den × Unit):=res al.c (atJoin al.b [1,1,1,0,1,0,0,1,0,0,0,1]) ⟨[(1,(.v (.slice (.int .i64)) l)),(4,(.ptr 0 [])),(5,(.ptr 1 [])),(7,(.v (.int .i64) i))],[(0,some (.box (.agg [(.sl 2),(.sl 3),(.v (.int .i64) 0),(.v (.int .i64) 0)]))),(1,some (.box (.agg [(.sl 4),(.sl 5),(.v (.int .i64) b1),(.v (.int .i64) b12)]))),(2,some (.row (.int .i64) l2 false)),(3,some (.row (.int .i64) l2 false)),(4,some (.row (.int .i64) l4 false)),(5,some (.row (.int .i64) l5 false))],6,[]⟩
theorem al.spec:FnSpec Tryz.prog globs 132 al.Fn:=spec_of (E:=al.E) (envOk_at tabOk eqOk primsOk (.nil)) mixOk Tryz.func132 (by kernel_rfl)
theorem al.L1_eq (n l i l2 l4):al.L1 n l i l2 l4=
 bif (decide ((i:Int)<n)) then
  al.L2 n l i l2 l4
 else
  al.L3 l 0 (-1) (-1) l2 l4 l4:=res_eq (by kernel_rfl)
theorem al.L2_eq (n l i l2 l4):al.L2 n l i l2 l4=
 bif (lim ((List.length l4)+(List.length ([(-1)]:List Int))) (.int .i64)) then
  bif (lim ((List.length l4)+(List.length ([(-1)]:List Int))) (.int .i64)) then
   al.L1 n l (IntKind.wrap .i64 (i+1)) l2 (l4++([(-1)]:List Int))
  else none
 else none:=res_eq (by kernel_rfl)
theorem al.L3_eq (l i b1 b12 l2 l4 l5):al.L3 l i b1 b12 l2 l4 l5=
 bif (decide ((i:Int)<((List.length l:Int)))) then
  al.L4 l i b1 b12 l2 l4 l5
 else
  some ((l4,l5,b1,b12,()),()):=res_eq (by kernel_rfl)
theorem al.L4_eq (l i b1 b12 l2 l4 l5):al.L4 l i b1 b12 l2 l4 l5=
 bif (i==0) then
  bif (decide ((0:Int)≤i∧(i:Int)<((List.length l:Int)))) then
   al.L5 l i (List.getD l (Int.toNat i) 0) b12 l2 l4 l5
  else none
 else
  bif (decide ((0:Int)≤i∧(i:Int)<((List.length l:Int)))) then
   bif (decide ((0:Int)≤(IntKind.wrap .i64 (i - 1))∧((IntKind.wrap .i64 (i - 1)):Int)<((List.length l:Int)))) then
    bif (decide ((0:Int)≤(List.getD l (Int.toNat i) 0)∧((List.getD l (Int.toNat i) 0):Int)<((List.length l4:Int)))) then
     bif (decide ((0:Int)≤(IntKind.wrap .i64 (i - 1))∧((IntKind.wrap .i64 (i - 1)):Int)<((List.length l:Int)))) then
      bif (decide ((0:Int)≤i∧(i:Int)<((List.length l:Int)))) then
       bif (decide ((0:Int)≤(List.getD l (Int.toNat (IntKind.wrap .i64 (i - 1))) 0)∧((List.getD l (Int.toNat (IntKind.wrap .i64 (i - 1))) 0):Int)<((List.length l5:Int)))) then
        al.L5 l i b1 b12 l2 (List.set l4 (Int.toNat (List.getD l (Int.toNat i) 0)) (List.getD l (Int.toNat (IntKind.wrap .i64 (i - 1))) 0)) (List.set l5 (Int.toNat (List.getD l (Int.toNat (IntKind.wrap .i64 (i - 1))) 0)) (List.getD l (Int.toNat i) 0))
       else none
      else none
     else none
    else none
   else none
  else none:=res_eq (by kernel_rfl)
theorem al.L5_eq (l i b1 b12 l2 l4 l5):al.L5 l i b1 b12 l2 l4 l5=
 bif (decide ((0:Int)≤i∧(i:Int)<((List.length l:Int)))) then
  al.L3 l (IntKind.wrap .i64 (i+1)) b1 (List.getD l (Int.toNat i) 0) l2 l4 l5
 else none:=res_eq (by kernel_rfl)
theorem al.F_eq (n l):al.F n l=
 al.L1 n l 0 ([]:List Int) ([]:List Int):=by kernel_rfl
def dr.sg:Sig:=⟨[.val (.int .i64)],[(t4,true),((.int .i64),true)]⟩
def dr.E:Env:=⟨tl,fun i=>look i [(132,al.Fn)],[],eqs,globs,prims⟩
def dr.c:=cxOf dr.E dr.sg Tryz.f90
def dr.b:=body Tryz.f90
def dr.Fn:Fun:=fnOf dr.E dr.sg Tryz.f90
def dr.F (n:Int):Option (t4.den × Int × Unit):=dr.Fn.F (n,())
def dr.L1 (n:Int) (l1:List Int):Option (t4.den × Int × Unit):=res dr.c (atJoin dr.b [1,0,1]) ⟨[(0,(.v (.int .i64) n)),(2,(.ptr 0 []))],[(0,some (.box (.agg [(.sl 1),(.sl 2),(.v (.int .i64) 0),(.v (.int .i64) 0)]))),(1,some (.row (.int .i64) l1 false)),(2,some (.row (.int .i64) l1 false))],3,[]⟩
theorem dr.spec:FnSpec Tryz.prog globs 90 dr.Fn:=spec_of (E:=dr.E) (envOk_at tabOk eqOk primsOk (.cons al.spec<|.nil)) mixOk Tryz.func90 (by kernel_rfl)
theorem dr.L1_eq (n l1):dr.L1 n l1=
 (al.F n ([]:List Int)).bind fun r0=>
 some (r0.1,0,()):=res_eq (by kernel_rfl)
theorem dr.F_eq (n):dr.F n=
 bif (decide ((n:Int)<1)) then
  some ((([]:List Int),([]:List Int),0,0,()),2,())
 else
  bif (decide ((n:Int)>16)) then
   some ((([]:List Int),([]:List Int),0,0,()),2,())
  else
   dr.L1 n ([]:List Int):=by kernel_rfl
def dt.sg:Sig:=⟨[.val (.int .i64)],[(t5,true),((.int .i64),true)]⟩
def dt.E:Env:=⟨tl,fun i=>look i [(89,bw.Fn),(90,dr.Fn)],[],eqs,globs,prims⟩
def dt.c:=cxOf dt.E dt.sg Tryz.f59
def dt.b:=body Tryz.f59
def dt.Fn:Fun:=fnOf dt.E dt.sg Tryz.f59
def dt.F (n:Int):Option (t5.den × Int × Unit):=dt.Fn.F (n,())
def dt.L1 (n:Int) (l1:List Int) (l2:List t1.den) (l3:List Int) (l4:List Bool) (l5:List t3.den):Option (t5.den × Int × Unit):=res dt.c (atJoin dt.b [1,0,1]) ⟨[(0,(.v (.int .i64) n)),(2,(.ptr 0 []))],[(0,some (.box (.agg [(.v (.int .i64) 0),(.sl 1),(.sl 2),(.agg [(.sl 3),(.sl 4),(.v (.int .i64) 0)]),(.sl 5),(.agg [(.sl 6),(.sl 7),(.v (.int .i64) 0),(.v (.int .i64) 0)])]))),(1,some (.row (.int .u32) l1 false)),(2,some (.row t1 l2 false)),(3,some (.row (.int .i64) l3 false)),(4,some (.row .bool l4 false)),(5,some (.row t3 l5 false)),(6,some (.row (.int .i64) l3 false)),(7,some (.row (.int .i64) l3 false))],8,[]⟩
theorem dt.spec:FnSpec Tryz.prog globs 59 dt.Fn:=spec_of (E:=dt.E) (envOk_at tabOk eqOk primsOk (.cons bw.spec<|.cons dr.spec<|.nil)) mixOk Tryz.func59 (by kernel_rfl)
theorem dt.L1_eq (n l1 l2 l3 l4 l5):dt.L1 n l1 l2 l3 l4 l5=
 bif (decide ((0:Int)≤n∧(n:Int)≤n) && (lim (Int.toNat n) (.int .u32))) then
  bif (decide ((0:Int)≤n∧(n:Int)≤n) && (lim (Int.toNat n) t1)) then
   bif (decide ((0:Int)≤16∧(16:Int)≤16) && (lim (Int.toNat 16) t3)) then
    (bw.F n).bind fun r0=>
    (dr.F n).bind fun r1=>
    some ((n,(List.replicate (Int.toNat n) (0:Int)),(List.replicate (Int.toNat n) ((0,0,0,()),0,0,0,())),r0.1,(List.replicate (Int.toNat 16) (0,0,false,())),r1.1,()),0,())
   else none
  else none
 else none:=res_eq (by kernel_rfl)
theorem dt.F_eq (n):dt.F n=
 bif (decide ((n:Int)<1)) then
  some ((0,([]:List Int),([]:List t1.den),(([]:List Int),([]:List Bool),0,()),([]:List t3.den),(([]:List Int),([]:List Int),0,0,()),()),2,())
 else
  bif (decide ((n:Int)>8)) then
   some ((0,([]:List Int),([]:List t1.den),(([]:List Int),([]:List Bool),0,()),([]:List t3.den),(([]:List Int),([]:List Int),0,0,()),()),2,())
  else
   dt.L1 n ([]:List Int) ([]:List t1.den) ([]:List Int) ([]:List Bool) ([]:List t3.den):=by kernel_rfl
def dm.sg:Sig:=⟨[.val t0,.val (.int .u64)],[(t1,true),((.int .i64),true)]⟩
def dm.E:Env:=⟨tl,fun i=>look i [(76,bn.Fn)],[],eqs,globs,prims⟩
def dm.c:=cxOf dm.E dm.sg Tryz.f61
def dm.b:=body Tryz.f61
def dm.Fn:Fun:=fnOf dm.E dm.sg Tryz.f61
def dm.F (l:t0.den) (at_:Int):Option (t1.den × Int × Unit):=dm.Fn.F (l,at_,())
def dm.L1 (at_ b0:Int) (b02 b03:Int):Option (t1.den × Int × Unit):=res dm.c (atJoin dm.b [1,0,1]) ⟨[(1,(.v (.int .u64) at_)),(2,(.ptr 0 [])),(4,(.ptr 1 []))],[(0,some (.box (.agg [(.v (.int .i64) b0),(.v (.int .i64) b02),(.v (.int .i64) b03)]))),(1,some (.box (.agg [(.agg [(.v (.int .i64) 0),(.v (.int .i64) 0),(.v (.int .i64) 0)]),(.v (.int .i64) 0),(.v (.int .i64) 0),(.v (.int .u64) 0)])))],2,[]⟩
theorem dm.spec:FnSpec Tryz.prog globs 61 dm.Fn:=spec_of (E:=dm.E) (envOk_at tabOk eqOk primsOk (.cons bn.spec<|.nil)) mixOk Tryz.func61 (by kernel_rfl)
theorem dm.L1_eq (at_ b0 b02 b03):dm.L1 at_ b0 b02 b03=
 some (((b0,b02,b03,()),b0,0,at_,()),0,()):=res_eq (by kernel_rfl)
theorem dm.F_eq (l at_):dm.F l at_=
 (bn.F l).bind fun r0=>
 bif (r0.1 !=0) then
  (bn.F l).bind fun r1=>
  some (((0,0,0,()),0,0,0,()),r1.1,())
 else
  dm.L1 at_ l.1 l.2.1 l.2.2.1:=by kernel_rfl
def ce.sg:Sig:=⟨[.val (.slice (.int .i64)),.val (.int .i64)],[(.bool,true)]⟩
def ce.E:Env:=⟨tl,fun i=>look i [],[],eqs,globs,prims⟩
def ce.c:=cxOf ce.E ce.sg Tryz.f127
def ce.b:=body Tryz.f127
def ce.Fn:Fun:=fnOf ce.E ce.sg Tryz.f127
def ce.F (l:List Int) (n:Int):Option (Bool × Unit):=ce.Fn.F (l,n,())
def ce.L1 (l:List Int) (n i:Int):Option (Bool × Unit):=res ce.c (atLoop ce.b [1,0,1,0]) ⟨[(0,(.v (.slice (.int .i64)) l)),(1,(.v (.int .i64) n)),(5,(.v (.int .i64) i))],[],0,[]⟩
def ce.L2 (l:List Int) (n i:Int):Option (Bool × Unit):=res ce.c (atJoin ce.b [1,0,1,0,0,0,1]) ⟨[(0,(.v (.slice (.int .i64)) l)),(1,(.v (.int .i64) n)),(5,(.v (.int .i64) i))],[],0,[]⟩
def ce.L3 (l:List Int) (n i:Int):Option (Bool × Unit):=res ce.c (atJoin ce.b [1,0,1,0,0,1,0,0,1]) ⟨[(0,(.v (.slice (.int .i64)) l)),(1,(.v (.int .i64) n)),(5,(.v (.int .i64) i))],[],0,[]⟩
theorem ce.spec:FnSpec Tryz.prog globs 127 ce.Fn:=spec_of (E:=ce.E) (envOk_at tabOk eqOk primsOk (.nil)) mixOk Tryz.func127 (by kernel_rfl)
theorem ce.L1_eq (l n i):ce.L1 l n i=
 bif (decide ((i:Int)<((List.length l:Int)))) then
  ce.L2 l n i
 else
  some (false,()):=res_eq (by kernel_rfl)
theorem ce.L2_eq (l n i):ce.L2 l n i=
 bif (decide ((0:Int)≤i∧(i:Int)<((List.length l:Int)))) then
  bif ((List.getD l (Int.toNat i) 0)==n) then
   some (true,())
  else
   ce.L3 l n i
 else none:=res_eq (by kernel_rfl)
theorem ce.L3_eq (l n i):ce.L3 l n i=
 ce.L1 l n (IntKind.wrap .i64 (i+1)):=res_eq (by kernel_rfl)
theorem ce.F_eq (l n):ce.F l n=
 ce.L1 l n 0:=by kernel_rfl
def bu.sg:Sig:=⟨[.val t2],[((.slice (.int .i64)),true),(.bool,true)]⟩
def bu.E:Env:=⟨tl,fun i=>look i [(127,ce.Fn)],[],eqs,globs,prims⟩
def bu.c:=cxOf bu.E bu.sg Tryz.f165
def bu.b:=body Tryz.f165
def bu.Fn:Fun:=fnOf bu.E bu.sg Tryz.f165
def bu.F (a:t2.den):Option ((List Int) × Bool × Unit):=bu.Fn.F (a,())
def bu.L1 (i:Int) (b0:List Int) (b02:List Bool) (b03:Int) (l1:List Int):Option ((List Int) × Bool × Unit):=res bu.c (atLoop bu.b [1,1,0,1,0]) ⟨[(1,(.ptr 0 [])),(4,(.sl 1)),(5,(.v (.int .i64) i))],[(0,some (.box (.agg [(.v (.slice (.int .i64)) b0),(.v (.slice .bool) b02),(.v (.int .i64) b03)]))),(1,some (.row (.int .i64) l1 false))],2,[]⟩
def bu.L2 (i:Int) (b0:List Int) (b02:List Bool) (b03:Int) (l1:List Int):Option ((List Int) × Bool × Unit):=res bu.c (atJoin bu.b [1,1,0,1,0,0,0,1]) ⟨[(1,(.ptr 0 [])),(4,(.sl 1)),(5,(.v (.int .i64) i))],[(0,some (.box (.agg [(.v (.slice (.int .i64)) b0),(.v (.slice .bool) b02),(.v (.int .i64) b03)]))),(1,some (.row (.int .i64) l1 false))],2,[]⟩
def bu.L3 (i:Int) (b0:List Int) (b02:List Bool) (b03:Int) (l1:List Int):Option ((List Int) × Bool × Unit):=res bu.c (atJoin bu.b [1,1,0,1,0,0,1,0,0,0,1]) ⟨[(1,(.ptr 0 [])),(4,(.sl 1)),(5,(.v (.int .i64) i))],[(0,some (.box (.agg [(.v (.slice (.int .i64)) b0),(.v (.slice .bool) b02),(.v (.int .i64) b03)]))),(1,some (.row (.int .i64) l1 false))],2,[]⟩
theorem bu.spec:FnSpec Tryz.prog globs 165 bu.Fn:=spec_of (E:=bu.E) (envOk_at tabOk eqOk primsOk (.cons ce.spec<|.nil)) mixOk Tryz.func165 (by kernel_rfl)
theorem bu.L1_eq (i b0 b02 b03 l1):bu.L1 i b0 b02 b03 l1=
 bif (i !=(-1)) then
  bu.L2 i b0 b02 b03 l1
 else
  some (l1,true,()):=res_eq (by kernel_rfl)
theorem bu.L2_eq (i b0 b02 b03 l1):bu.L2 i b0 b02 b03 l1=
 bif (decide ((i:Int)<0)) then
  some (([]:List Int),false,())
 else
  bif (decide ((i:Int)≥((List.length b0:Int)))) then
   some (([]:List Int),false,())
  else
   (ce.F l1 i).bind fun r0=>
   bif r0.1 then
    some (([]:List Int),false,())
   else
    bu.L3 i b0 b02 b03 l1:=res_eq (by kernel_rfl)
theorem bu.L3_eq (i b0 b02 b03 l1):bu.L3 i b0 b02 b03 l1=
 bif (lim ((List.length l1)+(List.length ([i]:List Int))) (.int .i64)) then
  bif (decide ((0:Int)≤i∧(i:Int)<((List.length b0:Int)))) then
   bu.L1 (List.getD b0 (Int.toNat i) 0) b0 b02 b03 (l1++([i]:List Int))
  else none
 else none:=res_eq (by kernel_rfl)
theorem bu.F_eq (a):bu.F a=
 bu.L1 a.2.2.1 a.1 a.2.1 a.2.2.1 ([]:List Int):=by kernel_rfl
def ao.sg:Sig:=⟨[.val t2],[((.int .i64),true)]⟩
def ao.E:Env:=⟨tl,fun i=>look i [(127,ce.Fn),(165,bu.Fn)],[],eqs,globs,prims⟩
def ao.c:=cxOf ao.E ao.sg Tryz.f121
def ao.b:=body Tryz.f121
def ao.Fn:Fun:=fnOf ao.E ao.sg Tryz.f121
def ao.F (a:t2.den):Option (Int × Unit):=ao.Fn.F (a,())
def ao.L1 (b0:List Int) (b02:List Bool) (b03:Int):Option (Int × Unit):=res ao.c (atJoin ao.b [1,0,1]) ⟨[(1,(.ptr 0 []))],[(0,some (.box (.agg [(.v (.slice (.int .i64)) b0),(.v (.slice .bool) b02),(.v (.int .i64) b03)])))],1,[]⟩
def ao.L2 (b0:List Int) (b02:List Bool) (b03:Int) (l1:List Int):Option (Int × Unit):=res ao.c (atJoin ao.b [1,1,1,0,1]) ⟨[(1,(.ptr 0 [])),(3,(.sl 1))],[(0,some (.box (.agg [(.v (.slice (.int .i64)) b0),(.v (.slice .bool) b02),(.v (.int .i64) b03)]))),(1,some (.row (.int .i64) l1 false))],2,[]⟩
def ao.L3 (i:Int) (b0:List Int) (b02:List Bool) (b03:Int) (l1:List Int):Option (Int × Unit):=res ao.c (atLoop ao.b [1,1,1,1,0,1,0]) ⟨[(1,(.ptr 0 [])),(3,(.sl 1)),(5,(.v (.int .i64) i))],[(0,some (.box (.agg [(.v (.slice (.int .i64)) b0),(.v (.slice .bool) b02),(.v (.int .i64) b03)]))),(1,some (.row (.int .i64) l1 false))],2,[]⟩
def ao.L4 (i:Int) (b0:List Int) (b02:List Bool) (b03:Int) (l1:List Int):Option (Int × Unit):=res ao.c (atJoin ao.b [1,1,1,1,0,1,0,0,0,1]) ⟨[(1,(.ptr 0 [])),(3,(.sl 1)),(5,(.v (.int .i64) i))],[(0,some (.box (.agg [(.v (.slice (.int .i64)) b0),(.v (.slice .bool) b02),(.v (.int .i64) b03)]))),(1,some (.row (.int .i64) l1 false))],2,[]⟩
def ao.L5 (i:Int) (b0:List Int) (b02:List Bool) (b03:Int) (l1:List Int):Option (Int × Unit):=res ao.c (atJoin ao.b [1,1,1,1,0,1,0,0,1,0,0,1]) ⟨[(1,(.ptr 0 [])),(3,(.sl 1)),(5,(.v (.int .i64) i))],[(0,some (.box (.agg [(.v (.slice (.int .i64)) b0),(.v (.slice .bool) b02),(.v (.int .i64) b03)]))),(1,some (.row (.int .i64) l1 false))],2,[]⟩
theorem ao.spec:FnSpec Tryz.prog globs 121 ao.Fn:=spec_of (E:=ao.E) (envOk_at tabOk eqOk primsOk (.cons ce.spec<|.cons bu.spec<|.nil)) mixOk Tryz.func121 (by kernel_rfl)
theorem ao.L1_eq (b0 b02 b03):ao.L1 b0 b02 b03=
 (bu.F (b0,b02,b03,())).bind fun r0=>
 bif (!r0.2.1) then
  some (8,())
 else
  ao.L2 b0 b02 b03 r0.1:=res_eq (by kernel_rfl)
theorem ao.L2_eq (b0 b02 b03 l1):ao.L2 b0 b02 b03 l1=
 ao.L3 0 b0 b02 b03 l1:=res_eq (by kernel_rfl)
theorem ao.L3_eq (i b0 b02 b03 l1):ao.L3 i b0 b02 b03 l1=
 bif (decide ((i:Int)<((List.length b02:Int)))) then
  ao.L4 i b0 b02 b03 l1
 else
  some (0,()):=res_eq (by kernel_rfl)
theorem ao.L4_eq (i b0 b02 b03 l1):ao.L4 i b0 b02 b03 l1=
 bif (decide ((0:Int)≤i∧(i:Int)<((List.length b02:Int)))) then
  (ce.F l1 i).bind fun r0=>
  bif ((List.getD b02 (Int.toNat i) false)==r0.1) then
   some (8,())
  else
   bif (decide ((0:Int)≤i∧(i:Int)<((List.length b02:Int)))) then
    bif (List.getD b02 (Int.toNat i) false) then
     bif (decide ((0:Int)≤i∧(i:Int)<((List.length b0:Int)))) then
      bif ((List.getD b0 (Int.toNat i) 0) !=(-1)) then
       some (8,())
      else
       ao.L5 i b0 b02 b03 l1
     else none
    else
     ao.L5 i b0 b02 b03 l1
   else none
 else none:=res_eq (by kernel_rfl)
theorem ao.L5_eq (i b0 b02 b03 l1):ao.L5 i b0 b02 b03 l1=
 ao.L3 (IntKind.wrap .i64 (i+1)) b0 b02 b03 l1:=res_eq (by kernel_rfl)
theorem ao.F_eq (a):ao.F a=
 bif (decide ((((List.length a.1:Int)):Int)<1)) then
  some (8,())
 else
  bif (decide ((((List.length a.1:Int)):Int)>16)) then
   some (8,())
  else
   bif (((List.length a.2.1:Int)) !=((List.length a.1:Int))) then
    some (8,())
   else
    ao.L1 a.1 a.2.1 a.2.2.1:=by kernel_rfl
def bh.sg:Sig:=⟨[.val (.slice t3)],[((.int .i64),true)]⟩
def bh.E:Env:=⟨tl,fun i=>look i [],[],eqs,globs,prims⟩
def bh.c:=cxOf bh.E bh.sg Tryz.f125
def bh.b:=body Tryz.f125
def bh.Fn:Fun:=fnOf bh.E bh.sg Tryz.f125
def bh.F (x:List t3.den):Option (Int × Unit):=bh.Fn.F (x,())
def bh.L1 (x:List t3.den) (n i:Int):Option (Int × Unit):=res bh.c (atLoop bh.b [1,1,0,1,0]) ⟨[(0,(.v (.slice t3) x)),(3,(.v (.int .i64) n)),(4,(.v (.int .i64) i))],[],0,[]⟩
def bh.L2 (x:List t3.den) (n i:Int):Option (Int × Unit):=res bh.c (atJoin bh.b [1,1,0,1,0,0,0,1]) ⟨[(0,(.v (.slice t3) x)),(3,(.v (.int .i64) n)),(4,(.v (.int .i64) i))],[],0,[]⟩
def bh.L3 (x:List t3.den) (n i:Int):Option (Int × Unit):=res bh.c (atJoin bh.b [1,1,0,1,0,0,1,0,0,1]) ⟨[(0,(.v (.slice t3) x)),(3,(.v (.int .i64) n)),(4,(.v (.int .i64) i))],[],0,[]⟩
theorem bh.spec:FnSpec Tryz.prog globs 125 bh.Fn:=spec_of (E:=bh.E) (envOk_at tabOk eqOk primsOk (.nil)) mixOk Tryz.func125 (by kernel_rfl)
theorem bh.L1_eq (x n i):bh.L1 x n i=
 bif (decide ((i:Int)<((List.length x:Int)))) then
  bh.L2 x n i
 else
  some (n,()):=res_eq (by kernel_rfl)
theorem bh.L2_eq (x n i):bh.L2 x n i=
 bif (decide ((0:Int)≤i∧(i:Int)<((List.length x:Int)))) then
  bif (((List.getD x (Int.toNat i) (0,0,false,())).2).2).1 then
   bh.L3 x (IntKind.wrap .i64 (n+1)) i
  else
   bh.L3 x n i
 else none:=res_eq (by kernel_rfl)
theorem bh.L3_eq (x n i):bh.L3 x n i=
 bh.L1 x n (IntKind.wrap .i64 (i+1)):=res_eq (by kernel_rfl)
theorem bh.F_eq (x):bh.F x=
 bh.L1 x 0 0:=by kernel_rfl
def cc.sg:Sig:=⟨[.val (.slice t3),.val (.int .u32)],[((.int .i64),true)]⟩
def cc.E:Env:=⟨tl,fun i=>look i [],[],eqs,globs,prims⟩
def cc.c:=cxOf cc.E cc.sg Tryz.f166
def cc.b:=body Tryz.f166
def cc.Fn:Fun:=fnOf cc.E cc.sg Tryz.f166
def cc.F (x:List t3.den) (key:Int):Option (Int × Unit):=cc.Fn.F (x,key,())
def cc.L1 (x:List t3.den) (key i:Int):Option (Int × Unit):=res cc.c (atLoop cc.b [1,0,1,0]) ⟨[(0,(.v (.slice t3) x)),(1,(.v (.int .u32) key)),(5,(.v (.int .i64) i))],[],0,[]⟩
def cc.L2 (x:List t3.den) (key i:Int):Option (Int × Unit):=res cc.c (atJoin cc.b [1,0,1,0,0,0,1]) ⟨[(0,(.v (.slice t3) x)),(1,(.v (.int .u32) key)),(5,(.v (.int .i64) i))],[],0,[]⟩
def cc.L3 (x:List t3.den) (key i:Int):Option (Int × Unit):=res cc.c (atJoin cc.b [1,0,1,0,0,1,0,0,1]) ⟨[(0,(.v (.slice t3) x)),(1,(.v (.int .u32) key)),(5,(.v (.int .i64) i))],[],0,[]⟩
theorem cc.spec:FnSpec Tryz.prog globs 166 cc.Fn:=spec_of (E:=cc.E) (envOk_at tabOk eqOk primsOk (.nil)) mixOk Tryz.func166 (by kernel_rfl)
theorem cc.L1_eq (x key i):cc.L1 x key i=
 bif (decide ((i:Int)<((List.length x:Int)))) then
  cc.L2 x key i
 else
  some ((-1),()):=res_eq (by kernel_rfl)
theorem cc.L2_eq (x key i):cc.L2 x key i=
 bif (decide ((0:Int)≤i∧(i:Int)<((List.length x:Int)))) then
  bif (((List.getD x (Int.toNat i) (0,0,false,())).2).2).1 then
   bif (decide ((0:Int)≤i∧(i:Int)<((List.length x:Int)))) then
    bif ((List.getD x (Int.toNat i) (0,0,false,())).1==key) then
     some (i,())
    else
     cc.L3 x key i
   else none
  else
   cc.L3 x key i
 else none:=res_eq (by kernel_rfl)
theorem cc.L3_eq (x key i):cc.L3 x key i=
 cc.L1 x key (IntKind.wrap .i64 (i+1)):=res_eq (by kernel_rfl)
theorem cc.F_eq (x key):cc.F x key=
 cc.L1 x key 0:=by kernel_rfl
def em.sg:Sig:=⟨[.val (.int .u32)],[((.int .i64),true)]⟩
def em.E:Env:=⟨tl,fun i=>look i [],[],eqs,globs,prims⟩
def em.Fn:Fun:=fnOf em.E em.sg Tryz.f167
def em.F (key:Int):Option (Int × Unit):=em.Fn.F (key,())
theorem em.spec:FnSpec Tryz.prog globs 167 em.Fn:=spec_of (E:=em.E) (envOk_at tabOk eqOk primsOk (.nil)) mixOk Tryz.func167 (by kernel_rfl)
theorem em.F_eq (key):em.F key=
 bif (decide ((4294967296:Int)≠0)) then
  bif (decide ((268435456:Int)≠0)) then
   some ((IntKind.wrap .i64 (IntKind.wrap .u64 (Int.tdiv (Int.tmod (IntKind.wrap .u64 ((IntKind.wrap .u64 key)*2654435769)) 4294967296) 268435456))),())
  else none
 else none:=by kernel_rfl
def ab.sg:Sig:=⟨[.val (.slice t3)],[((.int .i64),true)]⟩
def ab.E:Env:=⟨tl,fun i=>look i [(125,bh.Fn),(166,cc.Fn),(167,em.Fn)],[],eqs,globs,prims⟩
def ab.c:=cxOf ab.E ab.sg Tryz.f122
def ab.b:=body Tryz.f122
def ab.Fn:Fun:=fnOf ab.E ab.sg Tryz.f122
def ab.F (x:List t3.den):Option (Int × Unit):=ab.Fn.F (x,())
def ab.L1 (x:List t3.den):Option (Int × Unit):=res ab.c (atJoin ab.b [1,0,1]) ⟨[(0,(.v (.slice t3) x))],[],0,[]⟩
def ab.L2 (x:List t3.den) (i:Int):Option (Int × Unit):=res ab.c (atLoop ab.b [1,1,0,1,0]) ⟨[(0,(.v (.slice t3) x)),(3,(.v (.int .i64) i))],[],0,[]⟩
def ab.L3 (x:List t3.den) (i:Int):Option (Int × Unit):=res ab.c (atJoin ab.b [1,1,0,1,0,0,0,1]) ⟨[(0,(.v (.slice t3) x)),(3,(.v (.int .i64) i))],[],0,[]⟩
def ab.L4 (x:List t3.den) (i:Int):Option (Int × Unit):=res ab.c (atJoin ab.b [1,1,0,1,0,0,1,0,0,0,1,0,0,1]) ⟨[(0,(.v (.slice t3) x)),(3,(.v (.int .i64) i))],[],0,[]⟩
def ab.L5 (x:List t3.den) (i:Int):Option (Int × Unit):=res ab.c (atJoin ab.b [1,1,0,1,0,0,1,0,0,0,1]) ⟨[(0,(.v (.slice t3) x)),(3,(.v (.int .i64) i))],[],0,[]⟩
def ab.L6 (x:List t3.den) (i:Int):Option (Int × Unit):=res ab.c (atJoin ab.b [1,1,0,1,0,0,1,0,0,1,0,1]) ⟨[(0,(.v (.slice t3) x)),(3,(.v (.int .i64) i))],[],0,[]⟩
def ab.L7 (x:List t3.den) (i k:Int):Option (Int × Unit):=res ab.c (atLoop ab.b [1,1,0,1,0,0,1,0,0,1,1,1,0]) ⟨[(0,(.v (.slice t3) x)),(3,(.v (.int .i64) i)),(4,(.v (.int .i64) k))],[],0,[]⟩
def ab.L8 (x:List t3.den) (i k:Int):Option (Int × Unit):=res ab.c (atJoin ab.b [1,1,0,1,0,0,1,0,0,1,1,1,0,0,0,1]) ⟨[(0,(.v (.slice t3) x)),(3,(.v (.int .i64) i)),(4,(.v (.int .i64) k))],[],0,[]⟩
def ab.L9 (x:List t3.den) (i k:Int):Option (Int × Unit):=res ab.c (atJoin ab.b [1,1,0,1,0,0,1,0,0,1,1,1,0,0,1,0,0,1]) ⟨[(0,(.v (.slice t3) x)),(3,(.v (.int .i64) i)),(4,(.v (.int .i64) k))],[],0,[]⟩
theorem ab.spec:FnSpec Tryz.prog globs 122 ab.Fn:=spec_of (E:=ab.E) (envOk_at tabOk eqOk primsOk (.cons bh.spec<|.cons cc.spec<|.cons em.spec<|.nil)) mixOk Tryz.func122 (by kernel_rfl)
theorem ab.L1_eq (x):ab.L1 x=
 ab.L2 x 0:=res_eq (by kernel_rfl)
theorem ab.L2_eq (x i):ab.L2 x i=
 bif (decide ((i:Int)<16)) then
  ab.L3 x i
 else
  some (0,()):=res_eq (by kernel_rfl)
theorem ab.L3_eq (x i):ab.L3 x i=
 bif (decide ((0:Int)≤i∧(i:Int)<((List.length x:Int)))) then
  bif (!((((List.getD x (Int.toNat i) (0,0,false,())).2).2).1)) then
   bif (decide ((0:Int)≤i∧(i:Int)<((List.length x:Int)))) then
    bif (!(Ty.beq t3 (List.getD x (Int.toNat i) (0,0,false,())) (0,0,false,()))) then
     some (8,())
    else
     ab.L4 x i
   else none
  else
   ab.L5 x i
 else none:=res_eq (by kernel_rfl)
theorem ab.L4_eq (x i):ab.L4 x i=
 ab.L2 x (IntKind.wrap .i64 (i+1)):=res_eq (by kernel_rfl)
theorem ab.L5_eq (x i):ab.L5 x i=
 bif (decide ((0:Int)≤i∧(i:Int)<((List.length x:Int)))) then
  bif (decide (((((List.getD x (Int.toNat i) (0,0,false,())).2).1):Int)<0)) then
   some (8,())
  else
   bif (decide ((0:Int)≤i∧(i:Int)<((List.length x:Int)))) then
    bif (decide (((((List.getD x (Int.toNat i) (0,0,false,())).2).1):Int)≥16)) then
     some (8,())
    else
     bif (decide ((0:Int)≤i∧(i:Int)<((List.length x:Int)))) then
      (cc.F x ((List.getD x (Int.toNat i) (0,0,false,())).1)).bind fun r0=>
      bif (r0.1 !=i) then
       some (8,())
      else
       ab.L6 x i
     else none
   else none
 else none:=res_eq (by kernel_rfl)
theorem ab.L6_eq (x i):ab.L6 x i=
 bif (decide ((0:Int)≤i∧(i:Int)<((List.length x:Int)))) then
  (em.F ((List.getD x (Int.toNat i) (0,0,false,())).1)).bind fun r0=>
  ab.L7 x i r0.1
 else none:=res_eq (by kernel_rfl)
theorem ab.L7_eq (x i k):ab.L7 x i k=
 bif (k !=i) then
  ab.L8 x i k
 else
  ab.L2 x (IntKind.wrap .i64 (i+1)):=res_eq (by kernel_rfl)
theorem ab.L8_eq (x i k):ab.L8 x i k=
 bif (decide ((0:Int)≤k∧(k:Int)<((List.length x:Int)))) then
  bif (!((((List.getD x (Int.toNat k) (0,0,false,())).2).2).1)) then
   some (8,())
  else
   ab.L9 x i k
 else none:=res_eq (by kernel_rfl)
theorem ab.L9_eq (x i k):ab.L9 x i k=
 bif (decide ((16:Int)≠0)) then
  ab.L7 x i (Int.tmod (IntKind.wrap .i64 (k+1)) 16)
 else none:=res_eq (by kernel_rfl)
theorem ab.F_eq (x):ab.F x=
 bif (((List.length x:Int)) !=16) then
  some (8,())
 else
  (bh.F x).bind fun r0=>
  bif (decide ((r0.1:Int)>12)) then
   some (8,())
  else
   ab.L1 x:=by kernel_rfl
def ay.sg:Sig:=⟨[.val (.slice (.int .i64)),.val (.slice (.int .i64))],[(.bool,true)]⟩
def ay.E:Env:=⟨tl,fun i=>look i [],[],eqs,globs,prims⟩
def ay.c:=cxOf ay.E ay.sg Tryz.f164
def ay.b:=body Tryz.f164
def ay.Fn:Fun:=fnOf ay.E ay.sg Tryz.f164
def ay.F (a b:List Int):Option (Bool × Unit):=ay.Fn.F (a,b,())
def ay.L1 (a b:List Int):Option (Bool × Unit):=res ay.c (atJoin ay.b [1,0,1]) ⟨[(0,(.v (.slice (.int .i64)) a)),(1,(.v (.slice (.int .i64)) b))],[],0,[]⟩
def ay.L2 (a b:List Int) (i:Int):Option (Bool × Unit):=res ay.c (atLoop ay.b [1,1,0,1,0]) ⟨[(0,(.v (.slice (.int .i64)) a)),(1,(.v (.slice (.int .i64)) b)),(5,(.v (.int .i64) i))],[],0,[]⟩
def ay.L3 (a b:List Int) (i:Int):Option (Bool × Unit):=res ay.c (atJoin ay.b [1,1,0,1,0,0,0,1]) ⟨[(0,(.v (.slice (.int .i64)) a)),(1,(.v (.slice (.int .i64)) b)),(5,(.v (.int .i64) i))],[],0,[]⟩
def ay.L4 (a b:List Int) (i:Int):Option (Bool × Unit):=res ay.c (atJoin ay.b [1,1,0,1,0,0,1,0,0,1]) ⟨[(0,(.v (.slice (.int .i64)) a)),(1,(.v (.slice (.int .i64)) b)),(5,(.v (.int .i64) i))],[],0,[]⟩
theorem ay.spec:FnSpec Tryz.prog globs 164 ay.Fn:=spec_of (E:=ay.E) (envOk_at tabOk eqOk primsOk (.nil)) mixOk Tryz.func164 (by kernel_rfl)
theorem ay.L1_eq (a b):ay.L1 a b=
 ay.L2 a b 0:=res_eq (by kernel_rfl)
theorem ay.L2_eq (a b i):ay.L2 a b i=
 bif (decide ((i:Int)<((List.length a:Int)))) then
  ay.L3 a b i
 else
  some (true,()):=res_eq (by kernel_rfl)
theorem ay.L3_eq (a b i):ay.L3 a b i=
 bif (decide ((0:Int)≤i∧(i:Int)<((List.length a:Int)))) then
  bif (decide ((0:Int)≤i∧(i:Int)<((List.length b:Int)))) then
   bif ((List.getD a (Int.toNat i) 0) !=(List.getD b (Int.toNat i) 0)) then
    some (false,())
   else
    ay.L4 a b i
  else none
 else none:=res_eq (by kernel_rfl)
theorem ay.L4_eq (a b i):ay.L4 a b i=
 ay.L2 a b (IntKind.wrap .i64 (i+1)):=res_eq (by kernel_rfl)
theorem ay.F_eq (a b):ay.F a b=
 bif (((List.length a:Int)) !=((List.length b:Int))) then
  some (false,())
 else
  ay.L1 a b:=by kernel_rfl
def ew.sg:Sig:=⟨[.val t4,.val t4],[(.bool,true)]⟩
def ew.E:Env:=⟨tl,fun i=>look i [(164,ay.Fn)],[],eqs,globs,prims⟩
def ew.Fn:Fun:=fnOf ew.E ew.sg Tryz.f120
def ew.F (a:t4.den) (b:t4.den):Option (Bool × Unit):=ew.Fn.F (a,b,())
theorem ew.spec:FnSpec Tryz.prog globs 120 ew.Fn:=spec_of (E:=ew.E) (envOk_at tabOk eqOk primsOk (.cons ay.spec<|.nil)) mixOk Tryz.func120 (by kernel_rfl)
theorem ew.F_eq (a b):ew.F a b=
 (ay.F a.1 b.1).bind fun r0=>
 bif r0.1 then
  (ay.F a.2.1 b.2.1).bind fun r1=>
  bif r1.1 then
   bif (a.2.2.1==b.2.2.1) then
    some ((a.2.2.2.1==b.2.2.2.1),())
   else
    some (false,())
  else
   some (false,())
 else
  some (false,()):=by kernel_rfl
def bp.sg:Sig:=⟨[.val t4],[((.slice (.int .i64)),true),(.bool,true)]⟩
def bp.E:Env:=⟨tl,fun i=>look i [(127,ce.Fn)],[],eqs,globs,prims⟩
def bp.c:=cxOf bp.E bp.sg Tryz.f124
def bp.b:=body Tryz.f124
def bp.Fn:Fun:=fnOf bp.E bp.sg Tryz.f124
def bp.F (o:t4.den):Option ((List Int) × Bool × Unit):=bp.Fn.F (o,())
def bp.L1 (i:Int) (b0 b02:List Int) (b03 b04:Int) (l1:List Int):Option ((List Int) × Bool × Unit):=res bp.c (atLoop bp.b [1,1,0,1,0]) ⟨[(1,(.ptr 0 [])),(4,(.sl 1)),(5,(.v (.int .i64) i))],[(0,some (.box (.agg [(.v (.slice (.int .i64)) b0),(.v (.slice (.int .i64)) b02),(.v (.int .i64) b03),(.v (.int .i64) b04)]))),(1,some (.row (.int .i64) l1 false))],2,[]⟩
def bp.L2 (i:Int) (b0 b02:List Int) (b03 b04:Int) (l1:List Int):Option ((List Int) × Bool × Unit):=res bp.c (atJoin bp.b [1,1,0,1,0,0,0,1]) ⟨[(1,(.ptr 0 [])),(4,(.sl 1)),(5,(.v (.int .i64) i))],[(0,some (.box (.agg [(.v (.slice (.int .i64)) b0),(.v (.slice (.int .i64)) b02),(.v (.int .i64) b03),(.v (.int .i64) b04)]))),(1,some (.row (.int .i64) l1 false))],2,[]⟩
def bp.L3 (i:Int) (b0 b02:List Int) (b03 b04:Int) (l1:List Int):Option ((List Int) × Bool × Unit):=res bp.c (atJoin bp.b [1,1,0,1,0,0,1,0,0,0,1]) ⟨[(1,(.ptr 0 [])),(4,(.sl 1)),(5,(.v (.int .i64) i))],[(0,some (.box (.agg [(.v (.slice (.int .i64)) b0),(.v (.slice (.int .i64)) b02),(.v (.int .i64) b03),(.v (.int .i64) b04)]))),(1,some (.row (.int .i64) l1 false))],2,[]⟩
theorem bp.spec:FnSpec Tryz.prog globs 124 bp.Fn:=spec_of (E:=bp.E) (envOk_at tabOk eqOk primsOk (.cons ce.spec<|.nil)) mixOk Tryz.func124 (by kernel_rfl)
theorem bp.L1_eq (i b0 b02 b03 b04 l1):bp.L1 i b0 b02 b03 b04 l1=
 bif (i !=(-1)) then
  bp.L2 i b0 b02 b03 b04 l1
 else
  some (l1,true,()):=res_eq (by kernel_rfl)
theorem bp.L2_eq (i b0 b02 b03 b04 l1):bp.L2 i b0 b02 b03 b04 l1=
 bif (decide ((i:Int)<0)) then
  some (([]:List Int),false,())
 else
  bif (decide ((i:Int)≥((List.length b02:Int)))) then
   some (([]:List Int),false,())
  else
   (ce.F l1 i).bind fun r0=>
   bif r0.1 then
    some (([]:List Int),false,())
   else
    bp.L3 i b0 b02 b03 b04 l1:=res_eq (by kernel_rfl)
theorem bp.L3_eq (i b0 b02 b03 b04 l1):bp.L3 i b0 b02 b03 b04 l1=
 bif (lim ((List.length l1)+(List.length ([i]:List Int))) (.int .i64)) then
  bif (decide ((0:Int)≤i∧(i:Int)<((List.length b02:Int)))) then
   bp.L1 (List.getD b02 (Int.toNat i) 0) b0 b02 b03 b04 (l1++([i]:List Int))
  else none
 else none:=res_eq (by kernel_rfl)
theorem bp.F_eq (o):bp.F o=
 bp.L1 o.2.2.1 o.1 o.2.1 o.2.2.1 o.2.2.2.1 ([]:List Int):=by kernel_rfl
def cp.sg:Sig:=⟨[.val t4],[((.int .i64),true)]⟩
def cp.E:Env:=⟨tl,fun i=>look i [(120,ew.Fn),(124,bp.Fn),(132,al.Fn)],[],eqs,globs,prims⟩
def cp.c:=cxOf cp.E cp.sg Tryz.f123
def cp.b:=body Tryz.f123
def cp.Fn:Fun:=fnOf cp.E cp.sg Tryz.f123
def cp.F (o:t4.den):Option (Int × Unit):=cp.Fn.F (o,())
def cp.L1 (b0 b02:List Int) (b03 b04:Int):Option (Int × Unit):=res cp.c (atJoin cp.b [1,0,1]) ⟨[(1,(.ptr 0 []))],[(0,some (.box (.agg [(.v (.slice (.int .i64)) b0),(.v (.slice (.int .i64)) b02),(.v (.int .i64) b03),(.v (.int .i64) b04)])))],1,[]⟩
def cp.L2:Option (Int × Unit):=res cp.c (atJoin cp.b [1,1,1,0,1]) ⟨[],[],0,[]⟩
theorem cp.spec:FnSpec Tryz.prog globs 123 cp.Fn:=spec_of (E:=cp.E) (envOk_at tabOk eqOk primsOk (.cons ew.spec<|.cons bp.spec<|.cons al.spec<|.nil)) mixOk Tryz.func123 (by kernel_rfl)
theorem cp.L1_eq (b0 b02 b03 b04):cp.L1 b0 b02 b03 b04=
 (bp.F (b0,b02,b03,b04,())).bind fun r0=>
 bif (!r0.2.1) then
  some (8,())
 else
  (al.F ((List.length b0:Int)) r0.1).bind fun r1=>
  (ew.F (b0,b02,b03,b04,()) r1.1).bind fun r2=>
  bif (!r2.1) then
   some (8,())
  else
   cp.L2:=res_eq (by kernel_rfl)
theorem cp.L2_eq:cp.L2=
 some (0,()):=res_eq (by kernel_rfl)
theorem cp.F_eq (o):cp.F o=
 bif (decide ((((List.length o.1:Int)):Int)<1)) then
  some (8,())
 else
  bif (decide ((((List.length o.1:Int)):Int)>16)) then
   some (8,())
  else
   bif (((List.length o.2.1:Int)) !=((List.length o.1:Int))) then
    some (8,())
   else
    cp.L1 o.1 o.2.1 o.2.2.1 o.2.2.2.1:=by kernel_rfl
def bl.sg:Sig:=⟨[.val (.slice t3),.val (.int .i64),.val (.int .u32)],[((.int .i64),true),(.bool,true)]⟩
def bl.E:Env:=⟨tl,fun i=>look i [],[],eqs,globs,prims⟩
def bl.c:=cxOf bl.E bl.sg Tryz.f126
def bl.b:=body Tryz.f126
def bl.Fn:Fun:=fnOf bl.E bl.sg Tryz.f126
def bl.F (x:List t3.den) (place key:Int):Option (Int × Bool × Unit):=bl.Fn.F (x,place,key,())
def bl.L1 (x:List t3.den) (place key n:Int) (same:Bool) (i:Int):Option (Int × Bool × Unit):=res bl.c (atLoop bl.b [1,1,0,1,0]) ⟨[(0,(.v (.slice t3) x)),(1,(.v (.int .i64) place)),(2,(.v (.int .u32) key)),(8,(.v (.int .i64) n)),(9,(.v .bool same)),(10,(.v (.int .i64) i))],[],0,[]⟩
def bl.L2 (x:List t3.den) (place key n:Int) (same:Bool) (i:Int):Option (Int × Bool × Unit):=res bl.c (atJoin bl.b [1,1,0,1,0,0,0,1]) ⟨[(0,(.v (.slice t3) x)),(1,(.v (.int .i64) place)),(2,(.v (.int .u32) key)),(8,(.v (.int .i64) n)),(9,(.v .bool same)),(10,(.v (.int .i64) i))],[],0,[]⟩
def bl.L3 (x:List t3.den) (place key n:Int) (same:Bool) (i:Int):Option (Int × Bool × Unit):=res bl.c (atJoin bl.b [1,1,0,1,0,0,1,0,0,1]) ⟨[(0,(.v (.slice t3) x)),(1,(.v (.int .i64) place)),(2,(.v (.int .u32) key)),(8,(.v (.int .i64) n)),(9,(.v .bool same)),(10,(.v (.int .i64) i))],[],0,[]⟩
theorem bl.spec:FnSpec Tryz.prog globs 126 bl.Fn:=spec_of (E:=bl.E) (envOk_at tabOk eqOk primsOk (.nil)) mixOk Tryz.func126 (by kernel_rfl)
theorem bl.L1_eq (x place key n same i):bl.L1 x place key n same i=
 bif (decide ((i:Int)<((List.length x:Int)))) then
  bl.L2 x place key n same i
 else
  some (n,same,()):=res_eq (by kernel_rfl)
theorem bl.L2_eq (x place key n same i):bl.L2 x place key n same i=
 bif (decide ((0:Int)≤i∧(i:Int)<((List.length x:Int)))) then
  bif (((List.getD x (Int.toNat i) (0,0,false,())).2).2).1 then
   bif (decide ((0:Int)≤i∧(i:Int)<((List.length x:Int)))) then
    bif (((List.getD x (Int.toNat i) (0,0,false,())).2).1==place) then
     bif same then
      bif (decide ((0:Int)≤i∧(i:Int)<((List.length x:Int)))) then
       bl.L3 x place key (IntKind.wrap .i64 (n+1)) ((List.getD x (Int.toNat i) (0,0,false,())).1==key) i
      else none
     else
      bl.L3 x place key (IntKind.wrap .i64 (n+1)) false i
    else
     bl.L3 x place key n same i
   else none
  else
   bl.L3 x place key n same i
 else none:=res_eq (by kernel_rfl)
theorem bl.L3_eq (x place key n same i):bl.L3 x place key n same i=
 bl.L1 x place key n same (IntKind.wrap .i64 (i+1)):=res_eq (by kernel_rfl)
theorem bl.F_eq (x place key):bl.F x place key=
 bl.L1 x place key 0 true 0:=by kernel_rfl
def ae.sg:Sig:=⟨[.val t5],[((.int .i64),true)]⟩
def ae.E:Env:=⟨tl,fun i=>look i [(77,cm.Fn),(121,ao.Fn),(122,ab.Fn),(123,cp.Fn),(124,bp.Fn),(125,bh.Fn),(126,bl.Fn),(127,ce.Fn)],[],eqs,globs,prims⟩
def ae.c:=cxOf ae.E ae.sg Tryz.f82
def ae.b:=body Tryz.f82
def ae.Fn:Fun:=fnOf ae.E ae.sg Tryz.f82
def ae.F (t:t5.den):Option (Int × Unit):=ae.Fn.F (t,())
def ae.L1 (b0:Int) (b02:List Int) (b03:List t1.den) (b04:List Int) (b05:List Bool) (b06:Int) (b07:List t3.den) (b08 b09:List Int) (b010 b011:Int):Option (Int × Unit):=res ae.c (atJoin ae.b [1,0,1]) ⟨[(1,(.ptr 0 []))],[(0,some (.box (.agg [(.v (.int .i64) b0),(.v (.slice (.int .u32)) b02),(.v (.slice t1) b03),(.agg [(.v (.slice (.int .i64)) b04),(.v (.slice .bool) b05),(.v (.int .i64) b06)]),(.v (.slice t3) b07),(.agg [(.v (.slice (.int .i64)) b08),(.v (.slice (.int .i64)) b09),(.v (.int .i64) b010),(.v (.int .i64) b011)])])))],1,[]⟩
def ae.L2 (b0:Int) (b02:List Int) (b03:List t1.den) (b04:List Int) (b05:List Bool) (b06:Int) (b07:List t3.den) (b08 b09:List Int) (b010 b011:Int):Option (Int × Unit):=res ae.c (atJoin ae.b [1,1,0,1]) ⟨[(1,(.ptr 0 []))],[(0,some (.box (.agg [(.v (.int .i64) b0),(.v (.slice (.int .u32)) b02),(.v (.slice t1) b03),(.agg [(.v (.slice (.int .i64)) b04),(.v (.slice .bool) b05),(.v (.int .i64) b06)]),(.v (.slice t3) b07),(.agg [(.v (.slice (.int .i64)) b08),(.v (.slice (.int .i64)) b09),(.v (.int .i64) b010),(.v (.int .i64) b011)])])))],1,[]⟩
def ae.L3 (b0:Int) (b02:List Int) (b03:List t1.den) (b04:List Int) (b05:List Bool) (b06:Int) (b07:List t3.den) (b08 b09:List Int) (b010 b011:Int) (l1:List Int):Option (Int × Unit):=res ae.c (atJoin ae.b [1,1,1,1,0,1]) ⟨[(1,(.ptr 0 [])),(3,(.sl 1))],[(0,some (.box (.agg [(.v (.int .i64) b0),(.v (.slice (.int .u32)) b02),(.v (.slice t1) b03),(.agg [(.v (.slice (.int .i64)) b04),(.v (.slice .bool) b05),(.v (.int .i64) b06)]),(.v (.slice t3) b07),(.agg [(.v (.slice (.int .i64)) b08),(.v (.slice (.int .i64)) b09),(.v (.int .i64) b010),(.v (.int .i64) b011)])]))),(1,some (.row (.int .i64) l1 false))],2,[]⟩
def ae.L4 (i b0:Int) (b02:List Int) (b03:List t1.den) (b04:List Int) (b05:List Bool) (b06:Int) (b07:List t3.den) (b08 b09:List Int) (b010 b011:Int) (l1:List Int):Option (Int × Unit):=res ae.c (atLoop ae.b [1,1,1,1,1,0,1,0]) ⟨[(1,(.ptr 0 [])),(3,(.sl 1)),(5,(.v (.int .i64) i))],[(0,some (.box (.agg [(.v (.int .i64) b0),(.v (.slice (.int .u32)) b02),(.v (.slice t1) b03),(.agg [(.v (.slice (.int .i64)) b04),(.v (.slice .bool) b05),(.v (.int .i64) b06)]),(.v (.slice t3) b07),(.agg [(.v (.slice (.int .i64)) b08),(.v (.slice (.int .i64)) b09),(.v (.int .i64) b010),(.v (.int .i64) b011)])]))),(1,some (.row (.int .i64) l1 false))],2,[]⟩
def ae.L5 (i b0:Int) (b02:List Int) (b03:List t1.den) (b04:List Int) (b05:List Bool) (b06:Int) (b07:List t3.den) (b08 b09:List Int) (b010 b011:Int) (l1:List Int):Option (Int × Unit):=res ae.c (atJoin ae.b [1,1,1,1,1,0,1,0,0,0,1]) ⟨[(1,(.ptr 0 [])),(3,(.sl 1)),(5,(.v (.int .i64) i))],[(0,some (.box (.agg [(.v (.int .i64) b0),(.v (.slice (.int .u32)) b02),(.v (.slice t1) b03),(.agg [(.v (.slice (.int .i64)) b04),(.v (.slice .bool) b05),(.v (.int .i64) b06)]),(.v (.slice t3) b07),(.agg [(.v (.slice (.int .i64)) b08),(.v (.slice (.int .i64)) b09),(.v (.int .i64) b010),(.v (.int .i64) b011)])]))),(1,some (.row (.int .i64) l1 false))],2,[]⟩
def ae.L6 (i b0:Int) (b02:List Int) (b03:List t1.den) (b04:List Int) (b05:List Bool) (b06:Int) (b07:List t3.den) (b08 b09:List Int) (b010 b011:Int) (l1:List Int):Option (Int × Unit):=res ae.c (atJoin ae.b [1,1,1,1,1,0,1,0,0,1,0,0,1,0,1]) ⟨[(1,(.ptr 0 [])),(3,(.sl 1)),(5,(.v (.int .i64) i))],[(0,some (.box (.agg [(.v (.int .i64) b0),(.v (.slice (.int .u32)) b02),(.v (.slice t1) b03),(.agg [(.v (.slice (.int .i64)) b04),(.v (.slice .bool) b05),(.v (.int .i64) b06)]),(.v (.slice t3) b07),(.agg [(.v (.slice (.int .i64)) b08),(.v (.slice (.int .i64)) b09),(.v (.int .i64) b010),(.v (.int .i64) b011)])]))),(1,some (.row (.int .i64) l1 false))],2,[]⟩
def ae.L7 (i b0:Int) (b02:List Int) (b03:List t1.den) (b04:List Int) (b05:List Bool) (b06:Int) (b07:List t3.den) (b08 b09:List Int) (b010 b011:Int) (l1:List Int):Option (Int × Unit):=res ae.c (atJoin ae.b [1,1,1,1,1,0,1,0,0,1,0,0,1,1,0,1]) ⟨[(1,(.ptr 0 [])),(3,(.sl 1)),(5,(.v (.int .i64) i))],[(0,some (.box (.agg [(.v (.int .i64) b0),(.v (.slice (.int .u32)) b02),(.v (.slice t1) b03),(.agg [(.v (.slice (.int .i64)) b04),(.v (.slice .bool) b05),(.v (.int .i64) b06)]),(.v (.slice t3) b07),(.agg [(.v (.slice (.int .i64)) b08),(.v (.slice (.int .i64)) b09),(.v (.int .i64) b010),(.v (.int .i64) b011)])]))),(1,some (.row (.int .i64) l1 false))],2,[]⟩
def ae.L8 (i b0:Int) (b02:List Int) (b03:List t1.den) (b04:List Int) (b05:List Bool) (b06:Int) (b07:List t3.den) (b08 b09:List Int) (b010 b011:Int) (l1:List Int):Option (Int × Unit):=res ae.c (atJoin ae.b [1,1,1,1,1,0,1,0,0,1,0,0,1,1,1,1]) ⟨[(1,(.ptr 0 [])),(3,(.sl 1)),(5,(.v (.int .i64) i))],[(0,some (.box (.agg [(.v (.int .i64) b0),(.v (.slice (.int .u32)) b02),(.v (.slice t1) b03),(.agg [(.v (.slice (.int .i64)) b04),(.v (.slice .bool) b05),(.v (.int .i64) b06)]),(.v (.slice t3) b07),(.agg [(.v (.slice (.int .i64)) b08),(.v (.slice (.int .i64)) b09),(.v (.int .i64) b010),(.v (.int .i64) b011)])]))),(1,some (.row (.int .i64) l1 false))],2,[]⟩
theorem ae.spec:FnSpec Tryz.prog globs 82 ae.Fn:=spec_of (E:=ae.E) (envOk_at tabOk eqOk primsOk (.cons cm.spec<|.cons ao.spec<|.cons ab.spec<|.cons cp.spec<|.cons bp.spec<|.cons bh.spec<|.cons bl.spec<|.cons ce.spec<|.nil)) mixOk Tryz.func82 (by kernel_rfl)
theorem ae.L1_eq (b0 b02 b03 b04 b05 b06 b07 b08 b09 b010 b011):ae.L1 b0 b02 b03 b04 b05 b06 b07 b08 b09 b010 b011=
 (ao.F (b04,b05,b06,())).bind fun r0=>
 bif (r0.1 !=0) then
  some (8,())
 else
  (ab.F b07).bind fun r1=>
  bif (r1.1 !=0) then
   some (8,())
  else
   (cp.F (b08,b09,b010,b011,())).bind fun r2=>
   bif (r2.1 !=0) then
    some (8,())
   else
    ae.L2 b0 b02 b03 b04 b05 b06 b07 b08 b09 b010 b011:=res_eq (by kernel_rfl)
theorem ae.L2_eq (b0 b02 b03 b04 b05 b06 b07 b08 b09 b010 b011):ae.L2 b0 b02 b03 b04 b05 b06 b07 b08 b09 b010 b011=
 (bp.F (b08,b09,b010,b011,())).bind fun r0=>
 (bh.F b07).bind fun r1=>
 bif (r1.1 !=((List.length r0.1:Int))) then
  some (8,())
 else
  ae.L3 b0 b02 b03 b04 b05 b06 b07 b08 b09 b010 b011 r0.1:=res_eq (by kernel_rfl)
theorem ae.L3_eq (b0 b02 b03 b04 b05 b06 b07 b08 b09 b010 b011 l1):ae.L3 b0 b02 b03 b04 b05 b06 b07 b08 b09 b010 b011 l1=
 ae.L4 0 b0 b02 b03 b04 b05 b06 b07 b08 b09 b010 b011 l1:=res_eq (by kernel_rfl)
theorem ae.L4_eq (i b0 b02 b03 b04 b05 b06 b07 b08 b09 b010 b011 l1):ae.L4 i b0 b02 b03 b04 b05 b06 b07 b08 b09 b010 b011 l1=
 bif (decide ((i:Int)<b0)) then
  ae.L5 i b0 b02 b03 b04 b05 b06 b07 b08 b09 b010 b011 l1
 else
  some (0,()):=res_eq (by kernel_rfl)
theorem ae.L5_eq (i b0 b02 b03 b04 b05 b06 b07 b08 b09 b010 b011 l1):ae.L5 i b0 b02 b03 b04 b05 b06 b07 b08 b09 b010 b011 l1=
 bif (decide ((0:Int)≤i∧(i:Int)<((List.length b02:Int)))) then
  (bl.F b07 i (List.getD b02 (Int.toNat i) 0)).bind fun r0=>
  bif (decide ((0:Int)≤i∧(i:Int)<((List.length b05:Int)))) then
   (ce.F l1 i).bind fun r1=>
   bif (!((List.getD b05 (Int.toNat i) false)==r1.1)) then
    some (8,())
   else
    bif (decide ((0:Int)≤i∧(i:Int)<((List.length b05:Int)))) then
     bif (!((List.getD b05 (Int.toNat i) false)==(r0.1==1))) then
      some (8,())
     else
      bif (!r0.2.1) then
       some (8,())
      else
       ae.L6 i b0 b02 b03 b04 b05 b06 b07 b08 b09 b010 b011 l1
    else none
  else none
 else none:=res_eq (by kernel_rfl)
theorem ae.L6_eq (i b0 b02 b03 b04 b05 b06 b07 b08 b09 b010 b011 l1):ae.L6 i b0 b02 b03 b04 b05 b06 b07 b08 b09 b010 b011 l1=
 bif (decide ((0:Int)≤i∧(i:Int)<((List.length b05:Int)))) then
  bif (List.getD b05 (Int.toNat i) false) then
   bif (decide ((0:Int)≤i∧(i:Int)<((List.length b03:Int)))) then
    (cm.F (List.getD b03 (Int.toNat i) ((0,0,0,()),0,0,0,()))).bind fun r0=>
    bif (r0.1 !=0) then
     some (8,())
    else
     ae.L7 i b0 b02 b03 b04 b05 b06 b07 b08 b09 b010 b011 l1
   else none
  else
   ae.L7 i b0 b02 b03 b04 b05 b06 b07 b08 b09 b010 b011 l1
 else none:=res_eq (by kernel_rfl)
theorem ae.L7_eq (i b0 b02 b03 b04 b05 b06 b07 b08 b09 b010 b011 l1):ae.L7 i b0 b02 b03 b04 b05 b06 b07 b08 b09 b010 b011 l1=
 bif (decide ((0:Int)≤i∧(i:Int)<((List.length b05:Int)))) then
  bif (!(List.getD b05 (Int.toNat i) false)) then
   bif (decide ((0:Int)≤i∧(i:Int)<((List.length b02:Int)))) then
    bif ((List.getD b02 (Int.toNat i) 0) !=0) then
     some (8,())
    else
     bif (decide ((0:Int)≤i∧(i:Int)<((List.length b03:Int)))) then
      bif (!(Ty.beq t1 (List.getD b03 (Int.toNat i) ((0,0,0,()),0,0,0,())) ((0,0,0,()),0,0,0,()))) then
       some (8,())
      else
       ae.L8 i b0 b02 b03 b04 b05 b06 b07 b08 b09 b010 b011 l1
     else none
   else none
  else
   ae.L8 i b0 b02 b03 b04 b05 b06 b07 b08 b09 b010 b011 l1
 else none:=res_eq (by kernel_rfl)
theorem ae.L8_eq (i b0 b02 b03 b04 b05 b06 b07 b08 b09 b010 b011 l1):ae.L8 i b0 b02 b03 b04 b05 b06 b07 b08 b09 b010 b011 l1=
 ae.L4 (IntKind.wrap .i64 (i+1)) b0 b02 b03 b04 b05 b06 b07 b08 b09 b010 b011 l1:=res_eq (by kernel_rfl)
theorem ae.F_eq (t):ae.F t=
 bif (decide ((t.1:Int)<1)) then
  some (8,())
 else
  bif (decide ((t.1:Int)>8)) then
   some (8,())
  else
   bif (((List.length t.2.1:Int)) !=t.1) then
    some (8,())
   else
    bif (((List.length t.2.2.1:Int)) !=t.1) then
     some (8,())
    else
     bif (((List.length t.2.2.2.1.1:Int)) !=t.1) then
      some (8,())
     else
      bif (((List.length t.2.2.2.2.2.1.1:Int)) !=t.1) then
       some (8,())
      else
       ae.L1 t.1 t.2.1 t.2.2.1 t.2.2.2.1.1 t.2.2.2.1.2.1 t.2.2.2.1.2.2.1 t.2.2.2.2.1 t.2.2.2.2.2.1.1 t.2.2.2.2.2.1.2.1 t.2.2.2.2.2.1.2.2.1 t.2.2.2.2.2.1.2.2.2.1:=by kernel_rfl
def ej.sg:Sig:=⟨[.val t2],[(t2,true)]⟩
def ej.E:Env:=⟨tl,fun i=>look i [],[],eqs,globs,prims⟩
def ej.Fn:Fun:=fnOf ej.E ej.sg Tryz.f135
def ej.F (a:t2.den):Option (t2.den × Unit):=ej.Fn.F (a,())
theorem ej.spec:FnSpec Tryz.prog globs 135 ej.Fn:=spec_of (E:=ej.E) (envOk_at tabOk eqOk primsOk (.nil)) mixOk Tryz.func135 (by kernel_rfl)
theorem ej.F_eq (a):ej.F a=
 bif (lim ((List.length ([]:List Int))+(List.length a.1)) (.int .i64)) then
  bif (lim ((List.length ([]:List Bool))+(List.length a.2.1)) .bool) then
   some (((([]:List Int)++a.1),(([]:List Bool)++a.2.1),a.2.2.1,()),())
  else none
 else none:=by kernel_rfl
def fg.sg:Sig:=⟨[.val t4],[(t4,true)]⟩
def fg.E:Env:=⟨tl,fun i=>look i [],[],eqs,globs,prims⟩
def fg.Fn:Fun:=fnOf fg.E fg.sg Tryz.f136
def fg.F (o:t4.den):Option (t4.den × Unit):=fg.Fn.F (o,())
theorem fg.spec:FnSpec Tryz.prog globs 136 fg.Fn:=spec_of (E:=fg.E) (envOk_at tabOk eqOk primsOk (.nil)) mixOk Tryz.func136 (by kernel_rfl)
theorem fg.F_eq (o):fg.F o=
 bif (lim ((List.length ([]:List Int))+(List.length o.1)) (.int .i64)) then
  bif (lim ((List.length ([]:List Int))+(List.length o.2.1)) (.int .i64)) then
   some (((([]:List Int)++o.1),(([]:List Int)++o.2.1),o.2.2.1,o.2.2.2.1,()),())
  else none
 else none:=by kernel_rfl
def eo.sg:Sig:=⟨[.val t5],[(t5,true)]⟩
def eo.E:Env:=⟨tl,fun i=>look i [(135,ej.Fn),(136,fg.Fn)],[],eqs,globs,prims⟩
def eo.Fn:Fun:=fnOf eo.E eo.sg Tryz.f96
def eo.F (t:t5.den):Option (t5.den × Unit):=eo.Fn.F (t,())
theorem eo.spec:FnSpec Tryz.prog globs 96 eo.Fn:=spec_of (E:=eo.E) (envOk_at tabOk eqOk primsOk (.cons ej.spec<|.cons fg.spec<|.nil)) mixOk Tryz.func96 (by kernel_rfl)
theorem eo.F_eq (t):eo.F t=
 bif (lim ((List.length ([]:List Int))+(List.length t.2.1)) (.int .u32)) then
  bif (lim ((List.length ([]:List t1.den))+(List.length t.2.2.1)) t1) then
   (ej.F t.2.2.2.1).bind fun r0=>
   bif (lim ((List.length ([]:List t3.den))+(List.length t.2.2.2.2.1)) t3) then
    (fg.F t.2.2.2.2.2.1).bind fun r1=>
    some ((t.1,(([]:List Int)++t.2.1),(([]:List t1.den)++t.2.2.1),r0.1,(([]:List t3.den)++t.2.2.2.2.1),r1.1,()),())
   else none
  else none
 else none:=by kernel_rfl
def bm.sg:Sig:=⟨[.val t5,.val (.int .u32)],[((.int .i64),true)]⟩
def bm.E:Env:=⟨tl,fun i=>look i [],[],eqs,globs,prims⟩
def bm.c:=cxOf bm.E bm.sg Tryz.f157
def bm.b:=body Tryz.f157
def bm.Fn:Fun:=fnOf bm.E bm.sg Tryz.f157
def bm.F (t:t5.den) (key:Int):Option (Int × Unit):=bm.Fn.F (t,key,())
def bm.L1 (key i b0:Int) (b02:List Int) (b03:List t1.den) (b04:List Int) (b05:List Bool) (b06:Int) (b07:List t3.den) (b08 b09:List Int) (b010 b011:Int):Option (Int × Unit):=res bm.c (atLoop bm.b [1,0,1,0]) ⟨[(1,(.v (.int .u32) key)),(2,(.ptr 0 [])),(5,(.v (.int .i64) i))],[(0,some (.box (.agg [(.v (.int .i64) b0),(.v (.slice (.int .u32)) b02),(.v (.slice t1) b03),(.agg [(.v (.slice (.int .i64)) b04),(.v (.slice .bool) b05),(.v (.int .i64) b06)]),(.v (.slice t3) b07),(.agg [(.v (.slice (.int .i64)) b08),(.v (.slice (.int .i64)) b09),(.v (.int .i64) b010),(.v (.int .i64) b011)])])))],1,[]⟩
def bm.L2 (key i b0:Int) (b02:List Int) (b03:List t1.den) (b04:List Int) (b05:List Bool) (b06:Int) (b07:List t3.den) (b08 b09:List Int) (b010 b011:Int):Option (Int × Unit):=res bm.c (atJoin bm.b [1,0,1,0,0,0,1]) ⟨[(1,(.v (.int .u32) key)),(2,(.ptr 0 [])),(5,(.v (.int .i64) i))],[(0,some (.box (.agg [(.v (.int .i64) b0),(.v (.slice (.int .u32)) b02),(.v (.slice t1) b03),(.agg [(.v (.slice (.int .i64)) b04),(.v (.slice .bool) b05),(.v (.int .i64) b06)]),(.v (.slice t3) b07),(.agg [(.v (.slice (.int .i64)) b08),(.v (.slice (.int .i64)) b09),(.v (.int .i64) b010),(.v (.int .i64) b011)])])))],1,[]⟩
def bm.L3 (key i b0:Int) (b02:List Int) (b03:List t1.den) (b04:List Int) (b05:List Bool) (b06:Int) (b07:List t3.den) (b08 b09:List Int) (b010 b011:Int):Option (Int × Unit):=res bm.c (atJoin bm.b [1,0,1,0,0,1,0,0,1]) ⟨[(1,(.v (.int .u32) key)),(2,(.ptr 0 [])),(5,(.v (.int .i64) i))],[(0,some (.box (.agg [(.v (.int .i64) b0),(.v (.slice (.int .u32)) b02),(.v (.slice t1) b03),(.agg [(.v (.slice (.int .i64)) b04),(.v (.slice .bool) b05),(.v (.int .i64) b06)]),(.v (.slice t3) b07),(.agg [(.v (.slice (.int .i64)) b08),(.v (.slice (.int .i64)) b09),(.v (.int .i64) b010),(.v (.int .i64) b011)])])))],1,[]⟩
theorem bm.spec:FnSpec Tryz.prog globs 157 bm.Fn:=spec_of (E:=bm.E) (envOk_at tabOk eqOk primsOk (.nil)) mixOk Tryz.func157 (by kernel_rfl)
theorem bm.L1_eq (key i b0 b02 b03 b04 b05 b06 b07 b08 b09 b010 b011):bm.L1 key i b0 b02 b03 b04 b05 b06 b07 b08 b09 b010 b011=
 bif (decide ((i:Int)<b0)) then
  bm.L2 key i b0 b02 b03 b04 b05 b06 b07 b08 b09 b010 b011
 else
  some ((-1),()):=res_eq (by kernel_rfl)
theorem bm.L2_eq (key i b0 b02 b03 b04 b05 b06 b07 b08 b09 b010 b011):bm.L2 key i b0 b02 b03 b04 b05 b06 b07 b08 b09 b010 b011=
 bif (decide ((0:Int)≤i∧(i:Int)<((List.length b05:Int)))) then
  bif (List.getD b05 (Int.toNat i) false) then
   bif (decide ((0:Int)≤i∧(i:Int)<((List.length b02:Int)))) then
    bif ((List.getD b02 (Int.toNat i) 0)==key) then
     some (i,())
    else
     bm.L3 key i b0 b02 b03 b04 b05 b06 b07 b08 b09 b010 b011
   else none
  else
   bm.L3 key i b0 b02 b03 b04 b05 b06 b07 b08 b09 b010 b011
 else none:=res_eq (by kernel_rfl)
theorem bm.L3_eq (key i b0 b02 b03 b04 b05 b06 b07 b08 b09 b010 b011):bm.L3 key i b0 b02 b03 b04 b05 b06 b07 b08 b09 b010 b011=
 bm.L1 key (IntKind.wrap .i64 (i+1)) b0 b02 b03 b04 b05 b06 b07 b08 b09 b010 b011:=res_eq (by kernel_rfl)
theorem bm.F_eq (t key):bm.F t key=
 bm.L1 key 0 t.1 t.2.1 t.2.2.1 t.2.2.2.1.1 t.2.2.2.1.2.1 t.2.2.2.1.2.2.1 t.2.2.2.2.1 t.2.2.2.2.2.1.1 t.2.2.2.2.2.1.2.1 t.2.2.2.2.2.1.2.2.1 t.2.2.2.2.2.1.2.2.2.1:=by kernel_rfl
def cv.sg:Sig:=⟨[.val t4,.val (.int .i64)],[((.int .i64),true)]⟩
def cv.E:Env:=⟨tl,fun i=>look i [(123,cp.Fn)],[],eqs,globs,prims⟩
def cv.c:=cxOf cv.E cv.sg Tryz.f178
def cv.b:=body Tryz.f178
def cv.Fn:Fun:=fnOf cv.E cv.sg Tryz.f178
def cv.F (o:t4.den) (place:Int):Option (Int × Unit):=cv.Fn.F (o,place,())
def cv.L1 (place:Int) (b0 b02:List Int) (b03 b04:Int):Option (Int × Unit):=res cv.c (atJoin cv.b [1,0,1]) ⟨[(1,(.v (.int .i64) place)),(2,(.ptr 0 []))],[(0,some (.box (.agg [(.v (.slice (.int .i64)) b0),(.v (.slice (.int .i64)) b02),(.v (.int .i64) b03),(.v (.int .i64) b04)])))],1,[]⟩
def cv.L2:Option (Int × Unit):=res cv.c (atJoin cv.b [1,1,0,1]) ⟨[],[],0,[]⟩
theorem cv.spec:FnSpec Tryz.prog globs 178 cv.Fn:=spec_of (E:=cv.E) (envOk_at tabOk eqOk primsOk (.cons cp.spec<|.nil)) mixOk Tryz.func178 (by kernel_rfl)
theorem cv.L1_eq (place b0 b02 b03 b04):cv.L1 place b0 b02 b03 b04=
 bif (decide ((place:Int)<0)) then
  some (2,())
 else
  bif (decide ((place:Int)≥((List.length b0:Int)))) then
   some (2,())
  else
   cv.L2:=res_eq (by kernel_rfl)
theorem cv.L2_eq:cv.L2=
 some (0,()):=res_eq (by kernel_rfl)
theorem cv.F_eq (o place):cv.F o place=
 (cp.F o).bind fun r0=>
 bif (r0.1 !=0) then
  (cp.F o).bind fun r1=>
  some (r1.1,())
 else
  cv.L1 place o.1 o.2.1 o.2.2.1 o.2.2.2.1:=by kernel_rfl
def bd.sg:Sig:=⟨[.val (.slice (.int .i64)),.val (.int .i64)],[((.slice (.int .i64)),true)]⟩
def bd.E:Env:=⟨tl,fun i=>look i [],[],eqs,globs,prims⟩
def bd.c:=cxOf bd.E bd.sg Tryz.f179
def bd.b:=body Tryz.f179
def bd.Fn:Fun:=fnOf bd.E bd.sg Tryz.f179
def bd.F (l:List Int) (n:Int):Option ((List Int) × Unit):=bd.Fn.F (l,n,())
def bd.L1 (l:List Int) (n i:Int) (l0:List Int):Option ((List Int) × Unit):=res bd.c (atLoop bd.b [1,1,0,1,0]) ⟨[(0,(.v (.slice (.int .i64)) l)),(1,(.v (.int .i64) n)),(5,(.sl 0)),(6,(.v (.int .i64) i))],[(0,some (.row (.int .i64) l0 false))],1,[]⟩
def bd.L2 (l:List Int) (n i:Int) (l0:List Int):Option ((List Int) × Unit):=res bd.c (atJoin bd.b [1,1,0,1,0,0,0,1]) ⟨[(0,(.v (.slice (.int .i64)) l)),(1,(.v (.int .i64) n)),(5,(.sl 0)),(6,(.v (.int .i64) i))],[(0,some (.row (.int .i64) l0 false))],1,[]⟩
def bd.L3 (l:List Int) (n i:Int) (l0:List Int):Option ((List Int) × Unit):=res bd.c (atJoin bd.b [1,1,0,1,0,0,1,0,0,1]) ⟨[(0,(.v (.slice (.int .i64)) l)),(1,(.v (.int .i64) n)),(5,(.sl 0)),(6,(.v (.int .i64) i))],[(0,some (.row (.int .i64) l0 false))],1,[]⟩
theorem bd.spec:FnSpec Tryz.prog globs 179 bd.Fn:=spec_of (E:=bd.E) (envOk_at tabOk eqOk primsOk (.nil)) mixOk Tryz.func179 (by kernel_rfl)
theorem bd.L1_eq (l n i l0):bd.L1 l n i l0=
 bif (decide ((i:Int)<((List.length l:Int)))) then
  bd.L2 l n i l0
 else
  some (l0,()):=res_eq (by kernel_rfl)
theorem bd.L2_eq (l n i l0):bd.L2 l n i l0=
 bif (decide ((0:Int)≤i∧(i:Int)<((List.length l:Int)))) then
  bif ((List.getD l (Int.toNat i) 0) !=n) then
   bif (decide ((0:Int)≤i∧(i:Int)<((List.length l:Int)))) then
    bif (lim ((List.length l0)+(List.length ([(List.getD l (Int.toNat i) 0)]:List Int))) (.int .i64)) then
     bd.L3 l n i (l0++([(List.getD l (Int.toNat i) 0)]:List Int))
    else none
   else none
  else
   bd.L3 l n i l0
 else none:=res_eq (by kernel_rfl)
theorem bd.L3_eq (l n i l0):bd.L3 l n i l0=
 bd.L1 l n (IntKind.wrap .i64 (i+1)) l0:=res_eq (by kernel_rfl)
theorem bd.F_eq (l n):bd.F l n=
 bd.L1 l n 0 ([]:List Int):=by kernel_rfl
def dc.sg:Sig:=⟨[.val t4,.val (.int .i64)],[(t4,true),((.int .i64),true)]⟩
def dc.E:Env:=⟨tl,fun i=>look i [(124,bp.Fn),(132,al.Fn),(178,cv.Fn),(179,bd.Fn)],[],eqs,globs,prims⟩
def dc.c:=cxOf dc.E dc.sg Tryz.f158
def dc.b:=body Tryz.f158
def dc.Fn:Fun:=fnOf dc.E dc.sg Tryz.f158
def dc.F (o:t4.den) (place:Int):Option (t4.den × Int × Unit):=dc.Fn.F (o,place,())
def dc.L1 (place:Int) (b0 b02:List Int) (b03 b04:Int) (l2:List Int):Option (t4.den × Int × Unit):=res dc.c (atJoin dc.b [1,0,1]) ⟨[(1,(.v (.int .i64) place)),(2,(.ptr 0 [])),(4,(.ptr 1 []))],[(0,some (.box (.agg [(.v (.slice (.int .i64)) b0),(.v (.slice (.int .i64)) b02),(.v (.int .i64) b03),(.v (.int .i64) b04)]))),(1,some (.box (.agg [(.sl 2),(.sl 3),(.v (.int .i64) 0),(.v (.int .i64) 0)]))),(2,some (.row (.int .i64) l2 false)),(3,some (.row (.int .i64) l2 false))],4,[]⟩
theorem dc.spec:FnSpec Tryz.prog globs 158 dc.Fn:=spec_of (E:=dc.E) (envOk_at tabOk eqOk primsOk (.cons bp.spec<|.cons al.spec<|.cons cv.spec<|.cons bd.spec<|.nil)) mixOk Tryz.func158 (by kernel_rfl)
theorem dc.L1_eq (place b0 b02 b03 b04 l2):dc.L1 place b0 b02 b03 b04 l2=
 (bp.F (b0,b02,b03,b04,())).bind fun r0=>
 (bd.F r0.1 place).bind fun r1=>
 bif (lim ((List.length ([place]:List Int))+(List.length r1.1)) (.int .i64)) then
  (al.F ((List.length b0:Int)) (([place]:List Int)++r1.1)).bind fun r2=>
  some (r2.1,0,())
 else none:=res_eq (by kernel_rfl)
theorem dc.F_eq (o place):dc.F o place=
 (cv.F o place).bind fun r0=>
 bif (r0.1 !=0) then
  (cv.F o place).bind fun r1=>
  some ((([]:List Int),([]:List Int),0,0,()),r1.1,())
 else
  dc.L1 place o.1 o.2.1 o.2.2.1 o.2.2.2.1 ([]:List Int):=by kernel_rfl
end
end Go.Proofs.YtkihjakbbcajbaaGreat.PM
