/- Contracts and equations of the functions, printed by a program of this session. -/
import Derived.Test.YtkihjakbbcajbaaGreatTbd
namespace Go.Proofs.YtkihjakbbcajbaaGreat.PM
open Go Go.Proofs
noncomputable section
set_option linter.unusedVariables false
def ai.sg:Sig:=⟨[.io t12 false,.val (.int .i64)],[((.int .u64),true)]⟩
def ai.E:Env:=⟨tl,fun i=>look i [],[],eqs,globs,prims⟩
def ai.c:=cxOf ai.E ai.sg Tryz.f22
def ai.b:=body Tryz.f22
def ai.Fn:Fun:=fnOf ai.E ai.sg Tryz.f22
def ai.F (r:t12.den) (k:Int):Option (t12.den × Int × Unit):=ai.Fn.F (r,k,())
def ai.L1 (k:Int) (b0:List Int) (b02:Bool):Option (t12.den × Int × Unit):=res ai.c (atJoin ai.b [1,0,1]) ⟨[(0,(.ptr 0 [])),(1,(.v (.int .i64) k))],[(0,some (.box (.agg [(.v (.slice (.int .u8)) b0),(.v .bool b02)])))],1,[(.ptr 0 [])]⟩
def ai.L2 (k n:Int) (t26_:List Int) (t27_ t28_:Int) (b0:List Int) (b02:Bool):Option (t12.den × Int × Unit):=res ai.c (atLoop ai.b [1,1,1,0,1,0]) ⟨[(0,(.ptr 0 [])),(1,(.v (.int .i64) k)),(5,(.v (.int .u64) n)),(26,(.v (.slice (.int .u8)) t26_)),(27,(.v (.int .i64) t27_)),(28,(.v (.int .i64) t28_))],[(0,some (.box (.agg [(.v (.slice (.int .u8)) b0),(.v .bool b02)])))],1,[(.ptr 0 [])]⟩
def ai.L3 (k n:Int) (t26_:List Int) (t27_ t28_:Int) (b0:List Int) (b02:Bool):Option (t12.den × Int × Unit):=res ai.c (atJoin ai.b [1,1,1,0,1,0,0,1,0]) ⟨[(0,(.ptr 0 [])),(1,(.v (.int .i64) k)),(5,(.v (.int .u64) n)),(26,(.v (.slice (.int .u8)) t26_)),(27,(.v (.int .i64) t27_)),(28,(.v (.int .i64) t28_))],[(0,some (.box (.agg [(.v (.slice (.int .u8)) b0),(.v .bool b02)])))],1,[(.ptr 0 [])]⟩
theorem ai.spec:FnSpec Tryz.prog globs 22 ai.Fn:=spec_of (E:=ai.E) (envOk_at tabOk eqOk primsOk (.nil)) mixOk Tryz.func22 (by kernel_rfl)
theorem ai.L1_eq (k b0 b02):ai.L1 k b0 b02=
 bif (decide ((0:Int)≤0∧(0:Int)≤k∧(k:Int)≤((List.length b0:Int)))) then
  ai.L2 k 0 (List.take ((Int.toNat k) - (Int.toNat 0)) (List.drop (Int.toNat 0) b0)) ((List.length (List.take ((Int.toNat k) - (Int.toNat 0)) (List.drop (Int.toNat 0) b0)):Int)) 0 b0 b02
 else none:=res_eq (by kernel_rfl)
theorem ai.L2_eq (k n t26_ t27_ t28_ b0 b02):ai.L2 k n t26_ t27_ t28_ b0 b02=
 bif (decide ((t28_:Int)<t27_)) then
  ai.L3 k n t26_ t27_ t28_ b0 b02
 else
  bif (decide ((0:Int)≤k∧(k:Int)≤((List.length b0:Int))∧(((List.length b0:Int)):Int)≤((List.length b0:Int)))) then
   some (((List.take ((Int.toNat ((List.length b0:Int))) - (Int.toNat k)) (List.drop (Int.toNat k) b0)),b02,()),n,())
  else none:=res_eq (by kernel_rfl)
theorem ai.L3_eq (k n t26_ t27_ t28_ b0 b02):ai.L3 k n t26_ t27_ t28_ b0 b02=
 bif (decide ((0:Int)≤t28_∧(t28_:Int)<((List.length t26_:Int)))) then
  bif (decide ((0:Int)≤8)) then
   ai.L2 k (bits .or .u64 (IntKind.wrap .u64 (n*2 ^ min (Int.toNat 8) (IntKind.bits .u64))) (IntKind.wrap .u64 (List.getD t26_ (Int.toNat t28_) 0))) t26_ t27_ (IntKind.wrap .i64 (t28_+1)) b0 b02
  else none
 else none:=res_eq (by kernel_rfl)
theorem ai.F_eq (r k):ai.F r k=
 bif (decide ((((List.length r.1:Int)):Int)<k)) then
  some ((([]:List Int),true,()),0,())
 else
  ai.L1 k r.1 r.2.1:=by kernel_rfl
def eo.sg:Sig:=⟨[.io t12 false,.val t0],[(t1,true)]⟩
def eo.E:Env:=⟨tl,fun i=>look i [(22,ai.Fn)],[],eqs,globs,prims⟩
def eo.Fn:Fun:=fnOf eo.E eo.sg Tryz.f44
def eo.F (r:t12.den) (l:t0.den):Option (t12.den × t1.den × Unit):=eo.Fn.F (r,l,())
theorem eo.spec:FnSpec Tryz.prog globs 44 eo.Fn:=spec_of (E:=eo.E) (envOk_at tabOk eqOk primsOk (.cons ai.spec<|.nil)) mixOk Tryz.func44 (by kernel_rfl)
theorem eo.F_eq (r l):eo.F r l=
 (ai.F r 8).bind fun r0=>
 (ai.F r0.1 8).bind fun r1=>
 (ai.F r1.1 8).bind fun r2=>
 some (r2.1,(l,(IntKind.wrap .i64 r0.2.1),(IntKind.wrap .i64 r1.2.1),r2.2.1,()),()):=by kernel_rfl
def cq.sg:Sig:=⟨[.io t12 false,.val t0],[((.slice t9),true)]⟩
def cq.E:Env:=⟨tl,fun i=>look i [(22,ai.Fn),(44,eo.Fn)],[],eqs,globs,prims⟩
def cq.c:=cxOf cq.E cq.sg Tryz.f45
def cq.b:=body Tryz.f45
def cq.Fn:Fun:=fnOf cq.E cq.sg Tryz.f45
def cq.F (r:t12.den) (l:t0.den):Option (t12.den × (List t9.den) × Unit):=cq.Fn.F (r,l,())
def cq.L1 (n:Int) (b0:List Int) (b02:Bool) (b1 b12 b13:Int) (l2:List t9.den):Option (t12.den × (List t9.den) × Unit):=res cq.c (atLoop cq.b [1,1,0,1,0]) ⟨[(0,(.ptr 0 [])),(3,(.ptr 1 [])),(5,(.sl 2)),(6,(.v (.int .u64) n))],[(0,some (.box (.agg [(.v (.slice (.int .u8)) b0),(.v .bool b02)]))),(1,some (.box (.agg [(.v (.int .i64) b1),(.v (.int .i64) b12),(.v (.int .i64) b13)]))),(2,some (.row t9 l2 false))],3,[(.ptr 0 [])]⟩
def cq.L2 (n:Int) (b0:List Int) (b02:Bool) (b1 b12 b13:Int) (l2:List t9.den):Option (t12.den × (List t9.den) × Unit):=res cq.c (atJoin cq.b [1,1,0,1,0,0,0,1]) ⟨[(0,(.ptr 0 [])),(3,(.ptr 1 [])),(5,(.sl 2)),(6,(.v (.int .u64) n))],[(0,some (.box (.agg [(.v (.slice (.int .u8)) b0),(.v .bool b02)]))),(1,some (.box (.agg [(.v (.int .i64) b1),(.v (.int .i64) b12),(.v (.int .i64) b13)]))),(2,some (.row t9 l2 false))],3,[(.ptr 0 [])]⟩
theorem cq.spec:FnSpec Tryz.prog globs 45 cq.Fn:=spec_of (E:=cq.E) (envOk_at tabOk eqOk primsOk (.cons ai.spec<|.cons eo.spec<|.nil)) mixOk Tryz.func45 (by kernel_rfl)
theorem cq.L1_eq (n b0 b02 b1 b12 b13 l2):cq.L1 n b0 b02 b1 b12 b13 l2=
 bif (decide ((n:Int)>0)) then
  bif (!b02) then
   cq.L2 n b0 b02 b1 b12 b13 l2
  else
   some ((b0,b02,()),l2,())
 else
  some ((b0,b02,()),l2,()):=res_eq (by kernel_rfl)
theorem cq.L2_eq (n b0 b02 b1 b12 b13 l2):cq.L2 n b0 b02 b1 b12 b13 l2=
 (ai.F (b0,b02,()) 4).bind fun r0=>
 (eo.F r0.1 (b1,b12,b13,())).bind fun r1=>
 bif (lim ((List.length l2)+(List.length ([((IntKind.wrap .u32 r0.2.1),r1.2.1,())]:List t9.den))) t9) then
  cq.L1 (IntKind.wrap .u64 (n - 1)) r1.1.1 r1.1.2.1 b1 b12 b13 (l2++([((IntKind.wrap .u32 r0.2.1),r1.2.1,())]:List t9.den))
 else none:=res_eq (by kernel_rfl)
theorem cq.F_eq (r l):cq.F r l=
 (ai.F r 1).bind fun r0=>
 cq.L1 r0.2.1 r0.1.1 r0.1.2.1 l.1 l.2.1 l.2.2.1 ([]:List t9.den):=by kernel_rfl
def ab.sg:Sig:=⟨[.io t12 false],[(t10,true)]⟩
def ab.E:Env:=⟨tl,fun i=>look i [(22,ai.Fn),(44,eo.Fn),(45,cq.Fn)],[],eqs,globs,prims⟩
def ab.c:=cxOf ab.E ab.sg Tryz.f23
def ab.b:=body Tryz.f23
def ab.Fn:Fun:=fnOf ab.E ab.sg Tryz.f23
def ab.F (r:t12.den):Option (t12.den × t10.den × Unit):=ab.Fn.F (r,())
def ab.L1 (t12_:Int) (b0:List Int) (b02:Bool) (b1:List t0.den) (b12:List Int) (b2:Int) (b22:List t0.den) (l3:List t9.den) (l5:List Int):Option (t12.den × t10.den × Unit):=res ab.c (atLoop ab.b [1,1,0,1,0]) ⟨[(0,(.ptr 0 [])),(2,(.ptr 1 [])),(3,(.ptr 2 [])),(12,(.v (.int .i64) t12_))],[(0,some (.box (.agg [(.v (.slice (.int .u8)) b0),(.v .bool b02)]))),(1,some (.box (.agg [(.v (.int .u32) 0),(.v (.arr 3 t0) b1),(.v (.arr 2 (.int .i64)) b12),(.agg [(.agg [(.v (.int .i64) 0),(.v (.int .i64) 0),(.v (.int .i64) 0)]),(.v (.int .i64) 0),(.v (.int .i64) 0),(.v (.int .u64) 0)]),(.sl 3),(.sl 4),(.sl 5),(.agg [(.v (.int .u64) 0),(.v (.int .u64) 0),(.v (.int .u64) 0)])]))),(2,some (.box (.agg [(.v (.int .u32) b2),(.v (.arr 3 t0) b22),(.v (.arr 2 (.int .i64)) b12),(.agg [(.agg [(.v (.int .i64) 0),(.v (.int .i64) 0),(.v (.int .i64) 0)]),(.v (.int .i64) 0),(.v (.int .i64) 0),(.v (.int .u64) 0)]),(.sl 6),(.sl 7),(.sl 8),(.agg [(.v (.int .u64) 0),(.v (.int .u64) 0),(.v (.int .u64) 0)])]))),(3,some (.row t9 l3 false)),(4,some (.row t9 l3 false)),(5,some (.row (.int .u32) l5 false)),(6,some (.row t9 l3 false)),(7,some (.row t9 l3 false)),(8,some (.row (.int .u32) l5 false))],9,[(.ptr 0 [])]⟩
def ab.L2 (t12_:Int) (b0:List Int) (b02:Bool) (b1:List t0.den) (b12:List Int) (b2:Int) (b22:List t0.den) (l3:List t9.den) (l5:List Int):Option (t12.den × t10.den × Unit):=res ab.c (atJoin ab.b [1,1,0,1,0,0,1,0]) ⟨[(0,(.ptr 0 [])),(2,(.ptr 1 [])),(3,(.ptr 2 [])),(12,(.v (.int .i64) t12_))],[(0,some (.box (.agg [(.v (.slice (.int .u8)) b0),(.v .bool b02)]))),(1,some (.box (.agg [(.v (.int .u32) 0),(.v (.arr 3 t0) b1),(.v (.arr 2 (.int .i64)) b12),(.agg [(.agg [(.v (.int .i64) 0),(.v (.int .i64) 0),(.v (.int .i64) 0)]),(.v (.int .i64) 0),(.v (.int .i64) 0),(.v (.int .u64) 0)]),(.sl 3),(.sl 4),(.sl 5),(.agg [(.v (.int .u64) 0),(.v (.int .u64) 0),(.v (.int .u64) 0)])]))),(2,some (.box (.agg [(.v (.int .u32) b2),(.v (.arr 3 t0) b22),(.v (.arr 2 (.int .i64)) b12),(.agg [(.agg [(.v (.int .i64) 0),(.v (.int .i64) 0),(.v (.int .i64) 0)]),(.v (.int .i64) 0),(.v (.int .i64) 0),(.v (.int .u64) 0)]),(.sl 6),(.sl 7),(.sl 8),(.agg [(.v (.int .u64) 0),(.v (.int .u64) 0),(.v (.int .u64) 0)])]))),(3,some (.row t9 l3 false)),(4,some (.row t9 l3 false)),(5,some (.row (.int .u32) l5 false)),(6,some (.row t9 l3 false)),(7,some (.row t9 l3 false)),(8,some (.row (.int .u32) l5 false))],9,[(.ptr 0 [])]⟩
def ab.L3 (t37_:Int) (b0:List Int) (b02:Bool) (b1:List t0.den) (b12:List Int) (b2:Int) (b22:List t0.den) (b23:List Int) (l3:List t9.den) (l5:List Int):Option (t12.den × t10.den × Unit):=res ab.c (atLoop ab.b [1,1,1,0,1,0]) ⟨[(0,(.ptr 0 [])),(2,(.ptr 1 [])),(3,(.ptr 2 [])),(37,(.v (.int .i64) t37_))],[(0,some (.box (.agg [(.v (.slice (.int .u8)) b0),(.v .bool b02)]))),(1,some (.box (.agg [(.v (.int .u32) 0),(.v (.arr 3 t0) b1),(.v (.arr 2 (.int .i64)) b12),(.agg [(.agg [(.v (.int .i64) 0),(.v (.int .i64) 0),(.v (.int .i64) 0)]),(.v (.int .i64) 0),(.v (.int .i64) 0),(.v (.int .u64) 0)]),(.sl 3),(.sl 4),(.sl 5),(.agg [(.v (.int .u64) 0),(.v (.int .u64) 0),(.v (.int .u64) 0)])]))),(2,some (.box (.agg [(.v (.int .u32) b2),(.v (.arr 3 t0) b22),(.v (.arr 2 (.int .i64)) b23),(.agg [(.agg [(.v (.int .i64) 0),(.v (.int .i64) 0),(.v (.int .i64) 0)]),(.v (.int .i64) 0),(.v (.int .i64) 0),(.v (.int .u64) 0)]),(.sl 6),(.sl 7),(.sl 8),(.agg [(.v (.int .u64) 0),(.v (.int .u64) 0),(.v (.int .u64) 0)])]))),(3,some (.row t9 l3 false)),(4,some (.row t9 l3 false)),(5,some (.row (.int .u32) l5 false)),(6,some (.row t9 l3 false)),(7,some (.row t9 l3 false)),(8,some (.row (.int .u32) l5 false))],9,[(.ptr 0 [])]⟩
def ab.L4 (t37_:Int) (b0:List Int) (b02:Bool) (b1:List t0.den) (b12:List Int) (b2:Int) (b22:List t0.den) (b23:List Int) (l3:List t9.den) (l5:List Int):Option (t12.den × t10.den × Unit):=res ab.c (atJoin ab.b [1,1,1,0,1,0,0,1,0]) ⟨[(0,(.ptr 0 [])),(2,(.ptr 1 [])),(3,(.ptr 2 [])),(37,(.v (.int .i64) t37_))],[(0,some (.box (.agg [(.v (.slice (.int .u8)) b0),(.v .bool b02)]))),(1,some (.box (.agg [(.v (.int .u32) 0),(.v (.arr 3 t0) b1),(.v (.arr 2 (.int .i64)) b12),(.agg [(.agg [(.v (.int .i64) 0),(.v (.int .i64) 0),(.v (.int .i64) 0)]),(.v (.int .i64) 0),(.v (.int .i64) 0),(.v (.int .u64) 0)]),(.sl 3),(.sl 4),(.sl 5),(.agg [(.v (.int .u64) 0),(.v (.int .u64) 0),(.v (.int .u64) 0)])]))),(2,some (.box (.agg [(.v (.int .u32) b2),(.v (.arr 3 t0) b22),(.v (.arr 2 (.int .i64)) b23),(.agg [(.agg [(.v (.int .i64) 0),(.v (.int .i64) 0),(.v (.int .i64) 0)]),(.v (.int .i64) 0),(.v (.int .i64) 0),(.v (.int .u64) 0)]),(.sl 6),(.sl 7),(.sl 8),(.agg [(.v (.int .u64) 0),(.v (.int .u64) 0),(.v (.int .u64) 0)])]))),(3,some (.row t9 l3 false)),(4,some (.row t9 l3 false)),(5,some (.row (.int .u32) l5 false)),(6,some (.row t9 l3 false)),(7,some (.row t9 l3 false)),(8,some (.row (.int .u32) l5 false))],9,[(.ptr 0 [])]⟩
def ab.L5 (n:Int) (b0:List Int) (b02:Bool) (b1:List t0.den) (b12:List Int) (b2:Int) (b22:List t0.den) (b23:List Int) (b24 b25:Int) (b26 b27:Int) (b28 b29:Int) (l3:List t9.den) (l5:List Int) (l6 l7:List t9.den) (l8:List Int):Option (t12.den × t10.den × Unit):=res ab.c (atLoop ab.b [1,1,1,1,1,1,1,0,1,0]) ⟨[(0,(.ptr 0 [])),(2,(.ptr 1 [])),(3,(.ptr 2 [])),(7,(.v (.int .u64) n))],[(0,some (.box (.agg [(.v (.slice (.int .u8)) b0),(.v .bool b02)]))),(1,some (.box (.agg [(.v (.int .u32) 0),(.v (.arr 3 t0) b1),(.v (.arr 2 (.int .i64)) b12),(.agg [(.agg [(.v (.int .i64) 0),(.v (.int .i64) 0),(.v (.int .i64) 0)]),(.v (.int .i64) 0),(.v (.int .i64) 0),(.v (.int .u64) 0)]),(.sl 3),(.sl 4),(.sl 5),(.agg [(.v (.int .u64) 0),(.v (.int .u64) 0),(.v (.int .u64) 0)])]))),(2,some (.box (.agg [(.v (.int .u32) b2),(.v (.arr 3 t0) b22),(.v (.arr 2 (.int .i64)) b23),(.agg [(.agg [(.v (.int .i64) b24),(.v (.int .i64) b25),(.v (.int .i64) b26)]),(.v (.int .i64) b27),(.v (.int .i64) b28),(.v (.int .u64) b29)]),(.sl 6),(.sl 7),(.sl 8),(.agg [(.v (.int .u64) 0),(.v (.int .u64) 0),(.v (.int .u64) 0)])]))),(3,some (.row t9 l3 false)),(4,some (.row t9 l3 false)),(5,some (.row (.int .u32) l5 false)),(6,some (.row t9 l6 false)),(7,some (.row t9 l7 false)),(8,some (.row (.int .u32) l8 false))],9,[(.ptr 0 [])]⟩
def ab.L6 (n:Int) (b0:List Int) (b02:Bool) (b1:List t0.den) (b12:List Int) (b2:Int) (b22:List t0.den) (b23:List Int) (b24 b25:Int) (b26 b27:Int) (b28 b29:Int) (l3:List t9.den) (l5:List Int) (l6 l7:List t9.den) (l8:List Int):Option (t12.den × t10.den × Unit):=res ab.c (atJoin ab.b [1,1,1,1,1,1,1,0,1,0,0,0,1]) ⟨[(0,(.ptr 0 [])),(2,(.ptr 1 [])),(3,(.ptr 2 [])),(7,(.v (.int .u64) n))],[(0,some (.box (.agg [(.v (.slice (.int .u8)) b0),(.v .bool b02)]))),(1,some (.box (.agg [(.v (.int .u32) 0),(.v (.arr 3 t0) b1),(.v (.arr 2 (.int .i64)) b12),(.agg [(.agg [(.v (.int .i64) 0),(.v (.int .i64) 0),(.v (.int .i64) 0)]),(.v (.int .i64) 0),(.v (.int .i64) 0),(.v (.int .u64) 0)]),(.sl 3),(.sl 4),(.sl 5),(.agg [(.v (.int .u64) 0),(.v (.int .u64) 0),(.v (.int .u64) 0)])]))),(2,some (.box (.agg [(.v (.int .u32) b2),(.v (.arr 3 t0) b22),(.v (.arr 2 (.int .i64)) b23),(.agg [(.agg [(.v (.int .i64) b24),(.v (.int .i64) b25),(.v (.int .i64) b26)]),(.v (.int .i64) b27),(.v (.int .i64) b28),(.v (.int .u64) b29)]),(.sl 6),(.sl 7),(.sl 8),(.agg [(.v (.int .u64) 0),(.v (.int .u64) 0),(.v (.int .u64) 0)])]))),(3,some (.row t9 l3 false)),(4,some (.row t9 l3 false)),(5,some (.row (.int .u32) l5 false)),(6,some (.row t9 l6 false)),(7,some (.row t9 l7 false)),(8,some (.row (.int .u32) l8 false))],9,[(.ptr 0 [])]⟩
theorem ab.spec:FnSpec Tryz.prog globs 23 ab.Fn:=spec_of (E:=ab.E) (envOk_at tabOk eqOk primsOk (.cons ai.spec<|.cons eo.spec<|.cons cq.spec<|.nil)) mixOk Tryz.func23 (by kernel_rfl)
theorem ab.L1_eq (t12_ b0 b02 b1 b12 b2 b22 l3 l5):ab.L1 t12_ b0 b02 b1 b12 b2 b22 l3 l5=
 bif (decide ((t12_:Int)<3)) then
  ab.L2 t12_ b0 b02 b1 b12 b2 b22 l3 l5
 else
  ab.L3 0 b0 b02 b1 b12 b2 b22 b12 l3 l5:=res_eq (by kernel_rfl)
theorem ab.L2_eq (t12_ b0 b02 b1 b12 b2 b22 l3 l5):ab.L2 t12_ b0 b02 b1 b12 b2 b22 l3 l5=
 bif (decide ((0:Int)≤t12_∧(t12_:Int)<3)) then
  (ai.F (b0,b02,()) 4).bind fun r0=>
  (ai.F r0.1 4).bind fun r1=>
  (ai.F r1.1 4).bind fun r2=>
  ab.L1 (IntKind.wrap .i64 (t12_+1)) r2.1.1 r2.1.2.1 b1 b12 b2 (List.set (List.set (List.set b22 (Int.toNat t12_) ((IntKind.wrap .i64 r0.2.1),((List.getD b22 (Int.toNat t12_) (0,0,0,())).2).1,(((List.getD b22 (Int.toNat t12_) (0,0,0,())).2).2).1,())) (Int.toNat t12_) ((List.getD (List.set b22 (Int.toNat t12_) ((IntKind.wrap .i64 r0.2.1),((List.getD b22 (Int.toNat t12_) (0,0,0,())).2).1,(((List.getD b22 (Int.toNat t12_) (0,0,0,())).2).2).1,())) (Int.toNat t12_) (0,0,0,())).1,(IntKind.wrap .i64 r1.2.1),(((List.getD (List.set b22 (Int.toNat t12_) ((IntKind.wrap .i64 r0.2.1),((List.getD b22 (Int.toNat t12_) (0,0,0,())).2).1,(((List.getD b22 (Int.toNat t12_) (0,0,0,())).2).2).1,())) (Int.toNat t12_) (0,0,0,())).2).2).1,())) (Int.toNat t12_) ((List.getD (List.set (List.set b22 (Int.toNat t12_) ((IntKind.wrap .i64 r0.2.1),((List.getD b22 (Int.toNat t12_) (0,0,0,())).2).1,(((List.getD b22 (Int.toNat t12_) (0,0,0,())).2).2).1,())) (Int.toNat t12_) ((List.getD (List.set b22 (Int.toNat t12_) ((IntKind.wrap .i64 r0.2.1),((List.getD b22 (Int.toNat t12_) (0,0,0,())).2).1,(((List.getD b22 (Int.toNat t12_) (0,0,0,())).2).2).1,())) (Int.toNat t12_) (0,0,0,())).1,(IntKind.wrap .i64 r1.2.1),(((List.getD (List.set b22 (Int.toNat t12_) ((IntKind.wrap .i64 r0.2.1),((List.getD b22 (Int.toNat t12_) (0,0,0,())).2).1,(((List.getD b22 (Int.toNat t12_) (0,0,0,())).2).2).1,())) (Int.toNat t12_) (0,0,0,())).2).2).1,())) (Int.toNat t12_) (0,0,0,())).1,((List.getD (List.set (List.set b22 (Int.toNat t12_) ((IntKind.wrap .i64 r0.2.1),((List.getD b22 (Int.toNat t12_) (0,0,0,())).2).1,(((List.getD b22 (Int.toNat t12_) (0,0,0,())).2).2).1,())) (Int.toNat t12_) ((List.getD (List.set b22 (Int.toNat t12_) ((IntKind.wrap .i64 r0.2.1),((List.getD b22 (Int.toNat t12_) (0,0,0,())).2).1,(((List.getD b22 (Int.toNat t12_) (0,0,0,())).2).2).1,())) (Int.toNat t12_) (0,0,0,())).1,(IntKind.wrap .i64 r1.2.1),(((List.getD (List.set b22 (Int.toNat t12_) ((IntKind.wrap .i64 r0.2.1),((List.getD b22 (Int.toNat t12_) (0,0,0,())).2).1,(((List.getD b22 (Int.toNat t12_) (0,0,0,())).2).2).1,())) (Int.toNat t12_) (0,0,0,())).2).2).1,())) (Int.toNat t12_) (0,0,0,())).2).1,(IntKind.wrap .i64 r2.2.1),())) l3 l5
 else none:=res_eq (by kernel_rfl)
theorem ab.L3_eq (t37_ b0 b02 b1 b12 b2 b22 b23 l3 l5):ab.L3 t37_ b0 b02 b1 b12 b2 b22 b23 l3 l5=
 bif (decide ((t37_:Int)<2)) then
  ab.L4 t37_ b0 b02 b1 b12 b2 b22 b23 l3 l5
 else
  bif (decide ((0:Int)≤0∧(0:Int)<3)) then
   (eo.F (b0,b02,()) (List.getD b22 (Int.toNat 0) (0,0,0,()))).bind fun r0=>
   bif (decide ((0:Int)≤1∧(1:Int)<3)) then
    (cq.F r0.1 (List.getD b22 (Int.toNat 1) (0,0,0,()))).bind fun r1=>
    bif (decide ((0:Int)≤2∧(2:Int)<3)) then
     (cq.F r1.1 (List.getD b22 (Int.toNat 2) (0,0,0,()))).bind fun r2=>
     (ai.F r2.1 1).bind fun r3=>
     ab.L5 r3.2.1 r3.1.1 r3.1.2.1 b1 b12 b2 b22 b23 r0.2.1.1.1 r0.2.1.1.2.1 r0.2.1.1.2.2.1 r0.2.1.2.1 r0.2.1.2.2.1 r0.2.1.2.2.2.1 l3 l5 r1.2.1 r2.2.1 l5
    else none
   else none
  else none:=res_eq (by kernel_rfl)
theorem ab.L4_eq (t37_ b0 b02 b1 b12 b2 b22 b23 l3 l5):ab.L4 t37_ b0 b02 b1 b12 b2 b22 b23 l3 l5=
 (ai.F (b0,b02,()) 1).bind fun r0=>
 bif (decide ((0:Int)≤t37_∧(t37_:Int)<2)) then
  ab.L3 (IntKind.wrap .i64 (t37_+1)) r0.1.1 r0.1.2.1 b1 b12 b2 b22 (List.set b23 (Int.toNat t37_) (IntKind.wrap .i64 r0.2.1)) l3 l5
 else none:=res_eq (by kernel_rfl)
theorem ab.L5_eq (n b0 b02 b1 b12 b2 b22 b23 b24 b25 b26 b27 b28 b29 l3 l5 l6 l7 l8):ab.L5 n b0 b02 b1 b12 b2 b22 b23 b24 b25 b26 b27 b28 b29 l3 l5 l6 l7 l8=
 bif (decide ((n:Int)>0)) then
  bif (!b02) then
   ab.L6 n b0 b02 b1 b12 b2 b22 b23 b24 b25 b26 b27 b28 b29 l3 l5 l6 l7 l8
  else
   (ai.F (b0,b02,()) 8).bind fun r0=>
   (ai.F r0.1 8).bind fun r1=>
   (ai.F r1.1 8).bind fun r2=>
   some (r2.1,(b2,b22,b23,((b24,b25,b26,()),b27,b28,b29,()),l6,l7,l8,(r0.2.1,r1.2.1,r2.2.1,()),()),())
 else
  (ai.F (b0,b02,()) 8).bind fun r0=>
  (ai.F r0.1 8).bind fun r1=>
  (ai.F r1.1 8).bind fun r2=>
  some (r2.1,(b2,b22,b23,((b24,b25,b26,()),b27,b28,b29,()),l6,l7,l8,(r0.2.1,r1.2.1,r2.2.1,()),()),()):=res_eq (by kernel_rfl)
theorem ab.L6_eq (n b0 b02 b1 b12 b2 b22 b23 b24 b25 b26 b27 b28 b29 l3 l5 l6 l7 l8):ab.L6 n b0 b02 b1 b12 b2 b22 b23 b24 b25 b26 b27 b28 b29 l3 l5 l6 l7 l8=
 (ai.F (b0,b02,()) 4).bind fun r0=>
 bif (lim ((List.length l8)+(List.length ([(IntKind.wrap .u32 r0.2.1)]:List Int))) (.int .u32)) then
  ab.L5 (IntKind.wrap .u64 (n - 1)) r0.1.1 r0.1.2.1 b1 b12 b2 b22 b23 b24 b25 b26 b27 b28 b29 l3 l5 l6 l7 (l8++([(IntKind.wrap .u32 r0.2.1)]:List Int))
 else none:=res_eq (by kernel_rfl)
theorem ab.F_eq (r):ab.F r=
 (ai.F r 1).bind fun r0=>
 ab.L1 0 r0.1.1 r0.1.2.1 (List.replicate 3 (0,0,0,())) (List.replicate 2 (0:Int)) (IntKind.wrap .u32 r0.2.1) (List.replicate 3 (0,0,0,())) ([]:List t9.den) ([]:List Int):=by kernel_rfl
def fr.sg:Sig:=⟨[.val (.int .u32)],[(.bool,true)]⟩
def fr.E:Env:=⟨tl,fun i=>look i [],[],eqs,globs,prims⟩
def fr.Fn:Fun:=fnOf fr.E fr.sg Tryz.f68
def fr.F (e:Int):Option (Bool × Unit):=fr.Fn.F (e,())
theorem fr.spec:FnSpec Tryz.prog globs 68 fr.Fn:=spec_of (E:=fr.E) (envOk_at tabOk eqOk primsOk (.nil)) mixOk Tryz.func68 (by kernel_rfl)
theorem fr.F_eq (e):fr.F e=
 some ((decide ((e:Int)>1000000)),()):=by kernel_rfl
def bu.sg:Sig:=⟨[.val (.slice (.int .u32)),.fn 68],[((.int .i64),true)]⟩
def bu.E:Env:=⟨tl,fun i=>look i [(68,fr.Fn)],[],eqs,globs,prims⟩
def bu.c:=cxOf bu.E bu.sg Tryz.f97
def bu.b:=body Tryz.f97
def bu.Fn:Fun:=fnOf bu.E bu.sg Tryz.f97
def bu.F (s:List Int):Option (Int × Unit):=bu.Fn.F (s,())
def bu.L1 (s:List Int) (t7_ t8_:Int):Option (Int × Unit):=res bu.c (atLoop bu.b [1,0,1,0]) ⟨[(0,(.v (.slice (.int .u32)) s)),(1,(.fn 68 [])),(7,(.v (.int .i64) t7_)),(8,(.v (.int .i64) t8_))],[],0,[]⟩
def bu.L2 (s:List Int) (t7_ t8_:Int):Option (Int × Unit):=res bu.c (atJoin bu.b [1,0,1,0,0,1,0]) ⟨[(0,(.v (.slice (.int .u32)) s)),(1,(.fn 68 [])),(7,(.v (.int .i64) t7_)),(8,(.v (.int .i64) t8_))],[],0,[]⟩
def bu.L3 (s:List Int) (t7_ t8_:Int):Option (Int × Unit):=res bu.c (atJoin bu.b [1,0,1,0,0,1,1,0,0,1,1]) ⟨[(0,(.v (.slice (.int .u32)) s)),(1,(.fn 68 [])),(7,(.v (.int .i64) t7_)),(8,(.v (.int .i64) t8_))],[],0,[]⟩
theorem bu.spec:FnSpec Tryz.prog globs 97 bu.Fn:=spec_of (E:=bu.E) (envOk_at tabOk eqOk primsOk (.cons fr.spec<|.nil)) mixOk Tryz.func97 (by kernel_rfl)
theorem bu.L1_eq (s t7_ t8_):bu.L1 s t7_ t8_=
 bif (decide ((t8_:Int)<t7_)) then
  bu.L2 s t7_ t8_
 else
  some ((-1),()):=res_eq (by kernel_rfl)
theorem bu.L2_eq (s t7_ t8_):bu.L2 s t7_ t8_=
 bif (decide ((0:Int)≤t8_∧(t8_:Int)<((List.length s:Int)))) then
  (fr.F (List.getD s (Int.toNat t8_) 0)).bind fun r0=>
  bif r0.1 then
   some (t8_,())
  else
   bu.L3 s t7_ t8_
 else none:=res_eq (by kernel_rfl)
theorem bu.L3_eq (s t7_ t8_):bu.L3 s t7_ t8_=
 bu.L1 s t7_ (IntKind.wrap .i64 (t8_+1)):=res_eq (by kernel_rfl)
theorem bu.F_eq (s):bu.F s=
 bu.L1 s ((List.length s:Int)) 0:=by kernel_rfl
def ej.sg:Sig:=⟨[.val (.slice (.int .u32)),.fn 68],[(.bool,true)]⟩
def ej.E:Env:=⟨tl,fun i=>look i [(97,bu.Fn),(68,fr.Fn)],[],eqs,globs,prims⟩
def ej.Fn:Fun:=fnOf ej.E ej.sg Tryz.f67
def ej.F (s:List Int):Option (Bool × Unit):=ej.Fn.F (s,())
theorem ej.spec:FnSpec Tryz.prog globs 67 ej.Fn:=spec_of (E:=ej.E) (envOk_at tabOk eqOk primsOk (.cons bu.spec<|.cons fr.spec<|.nil)) mixOk Tryz.func67 (by kernel_rfl)
theorem ej.F_eq (s):ej.F s=
 (bu.F s).bind fun r0=>
 some ((decide ((r0.1:Int)≥0)),()):=by kernel_rfl
def fo.sg:Sig:=⟨[.val t9,.io t11 false],[(.bool,true)]⟩
def fo.E:Env:=⟨tl,fun i=>look i [],[],eqs,globs,prims⟩
def fo.Fn:Fun:=fnOf fo.E fo.sg Tryz.f69
def fo.F (h:t9.den) (x1:t11.den):Option (t11.den × Bool × Unit):=fo.Fn.F (h,x1,())
theorem fo.spec:FnSpec Tryz.prog globs 69 fo.Fn:=spec_of (E:=fo.E) (envOk_at tabOk eqOk primsOk (.nil)) mixOk Tryz.func69 (by kernel_rfl)
theorem fo.F_eq (h x1):fo.F h x1=
 some (x1,(decide ((h.2.1.2.2.2.1:Int)>x1.1)),()):=by kernel_rfl
def gc.sg:Sig:=⟨[.val t9,.io (.int .u32) false],[(.bool,true)]⟩
def gc.E:Env:=⟨tl,fun i=>look i [],[],eqs,globs,prims⟩
def gc.Fn:Fun:=fnOf gc.E gc.sg Tryz.f173
def gc.F (h:t9.den) (x1:Int):Option (Int × Bool × Unit):=gc.Fn.F (h,x1,())
theorem gc.spec:FnSpec Tryz.prog globs 173 gc.Fn:=spec_of (E:=gc.E) (envOk_at tabOk eqOk primsOk (.nil)) mixOk Tryz.func173 (by kernel_rfl)
theorem gc.F_eq (h x1):gc.F h x1=
 some (x1,(h.1==x1),()):=by kernel_rfl
def b9.sg:Sig:=⟨[.val (.slice t9),.clo 173 (.int .u32)],[((.int .i64),true)]⟩
def b9.E:Env:=⟨tl,fun i=>look i [(173,gc.Fn)],[],eqs,globs,prims⟩
def b9.c:=cxOf b9.E b9.sg Tryz.f101
def b9.b:=body Tryz.f101
def b9.Fn:Fun:=fnOf b9.E b9.sg Tryz.f101
def b9.F (s:List t9.den) (f:Int):Option (Int × Int × Unit):=b9.Fn.F (s,f,())
def b9.L1 (s:List t9.den) (t7_ t8_ b0:Int):Option (Int × Int × Unit):=res b9.c (atLoop b9.b [1,0,1,0]) ⟨[(0,(.v (.slice t9) s)),(1,(.fn 173 [(.ptr 0 [])])),(7,(.v (.int .i64) t7_)),(8,(.v (.int .i64) t8_))],[(0,some (.box (.v (.int .u32) b0)))],1,[(.ptr 0 [])]⟩
def b9.L2 (s:List t9.den) (t7_ t8_ b0:Int):Option (Int × Int × Unit):=res b9.c (atJoin b9.b [1,0,1,0,0,1,0]) ⟨[(0,(.v (.slice t9) s)),(1,(.fn 173 [(.ptr 0 [])])),(7,(.v (.int .i64) t7_)),(8,(.v (.int .i64) t8_))],[(0,some (.box (.v (.int .u32) b0)))],1,[(.ptr 0 [])]⟩
def b9.L3 (s:List t9.den) (t7_ t8_ b0:Int):Option (Int × Int × Unit):=res b9.c (atJoin b9.b [1,0,1,0,0,1,1,0,0,1,1]) ⟨[(0,(.v (.slice t9) s)),(1,(.fn 173 [(.ptr 0 [])])),(7,(.v (.int .i64) t7_)),(8,(.v (.int .i64) t8_))],[(0,some (.box (.v (.int .u32) b0)))],1,[(.ptr 0 [])]⟩
theorem b9.spec:FnSpec Tryz.prog globs 101 b9.Fn:=spec_of (E:=b9.E) (envOk_at tabOk eqOk primsOk (.cons gc.spec<|.nil)) mixOk Tryz.func101 (by kernel_rfl)
theorem b9.L1_eq (s t7_ t8_ b0):b9.L1 s t7_ t8_ b0=
 bif (decide ((t8_:Int)<t7_)) then
  b9.L2 s t7_ t8_ b0
 else
  some (b0,(-1),()):=res_eq (by kernel_rfl)
theorem b9.L2_eq (s t7_ t8_ b0):b9.L2 s t7_ t8_ b0=
 bif (decide ((0:Int)≤t8_∧(t8_:Int)<((List.length s:Int)))) then
  (gc.F (List.getD s (Int.toNat t8_) d9_) b0).bind fun r0=>
  bif r0.2.1 then
   some (r0.1,t8_,())
  else
   b9.L3 s t7_ t8_ r0.1
 else none:=res_eq (by kernel_rfl)
theorem b9.L3_eq (s t7_ t8_ b0):b9.L3 s t7_ t8_ b0=
 b9.L1 s t7_ (IntKind.wrap .i64 (t8_+1)) b0:=res_eq (by kernel_rfl)
theorem b9.F_eq (s f):b9.F s f=
 b9.L1 s ((List.length s:Int)) 0 f:=by kernel_rfl
def gj.sg:Sig:=⟨[.val (.slice t9),.val (.int .u32)],[((.int .i64),true)]⟩
def gj.E:Env:=⟨tl,fun i=>look i [(173,gc.Fn),(101,b9.Fn)],[],eqs,globs,prims⟩
def gj.Fn:Fun:=fnOf gj.E gj.sg Tryz.f137
def gj.F (l:List t9.den) (key:Int):Option (Int × Unit):=gj.Fn.F (l,key,())
theorem gj.spec:FnSpec Tryz.prog globs 137 gj.Fn:=spec_of (E:=gj.E) (envOk_at tabOk eqOk primsOk (.cons gc.spec<|.cons b9.spec<|.nil)) mixOk Tryz.func137 (by kernel_rfl)
theorem gj.F_eq (l key):gj.F l key=
 (b9.F l key).bind fun r0=>
 some (r0.2.1,()):=by kernel_rfl
def db.sg:Sig:=⟨[.val (.slice t9),.val (.int .i64),.val t0,.val (.int .u32)],[(.bool,true)]⟩
def db.E:Env:=⟨tl,fun i=>look i [(99,cx.Fn),(137,gj.Fn)],[],eqs,globs,prims⟩
def db.c:=cxOf db.E db.sg Tryz.f100
def db.b:=body Tryz.f100
def db.Fn:Fun:=fnOf db.E db.sg Tryz.f100
def db.F (l:List t9.den) (most:Int) (limit:t0.den) (key:Int):Option (Bool × Unit):=db.Fn.F (l,most,limit,key,())
def db.L1 (l:List t9.den) (key b0:Int) (b02 b03:Int):Option (Bool × Unit):=res db.c (atJoin db.b [1,0,1]) ⟨[(0,(.v (.slice t9) l)),(3,(.v (.int .u32) key)),(6,(.ptr 0 []))],[(0,some (.box (.agg [(.v (.int .i64) b0),(.v (.int .i64) b02),(.v (.int .i64) b03)])))],1,[]⟩
def db.L2 (l:List t9.den) (key t16_:Int) (t17_ b0:Int) (b02 b03:Int):Option (Bool × Unit):=res db.c (atLoop db.b [1,1,0,1,0]) ⟨[(0,(.v (.slice t9) l)),(3,(.v (.int .u32) key)),(6,(.ptr 0 [])),(15,(.v (.slice t9) l)),(16,(.v (.int .i64) t16_)),(17,(.v (.int .i64) t17_))],[(0,some (.box (.agg [(.v (.int .i64) b0),(.v (.int .i64) b02),(.v (.int .i64) b03)])))],1,[]⟩
def db.L3 (l:List t9.den) (key t16_:Int) (t17_ b0:Int) (b02 b03:Int):Option (Bool × Unit):=res db.c (atJoin db.b [1,1,0,1,0,0,1,0]) ⟨[(0,(.v (.slice t9) l)),(3,(.v (.int .u32) key)),(6,(.ptr 0 [])),(15,(.v (.slice t9) l)),(16,(.v (.int .i64) t16_)),(17,(.v (.int .i64) t17_))],[(0,some (.box (.agg [(.v (.int .i64) b0),(.v (.int .i64) b02),(.v (.int .i64) b03)])))],1,[]⟩
def db.L4 (l:List t9.den) (key t16_:Int) (t17_ b0:Int) (b02 b03:Int):Option (Bool × Unit):=res db.c (atJoin db.b [1,1,0,1,0,0,1,1,0,0,1,1]) ⟨[(0,(.v (.slice t9) l)),(3,(.v (.int .u32) key)),(6,(.ptr 0 [])),(15,(.v (.slice t9) l)),(16,(.v (.int .i64) t16_)),(17,(.v (.int .i64) t17_))],[(0,some (.box (.agg [(.v (.int .i64) b0),(.v (.int .i64) b02),(.v (.int .i64) b03)])))],1,[]⟩
theorem db.spec:FnSpec Tryz.prog globs 100 db.Fn:=spec_of (E:=db.E) (envOk_at tabOk eqOk primsOk (.cons cx.spec<|.cons gj.spec<|.nil)) mixOk Tryz.func100 (by kernel_rfl)
theorem db.L1_eq (l key b0 b02 b03):db.L1 l key b0 b02 b03=
 db.L2 l key ((List.length l:Int)) 0 b0 b02 b03:=res_eq (by kernel_rfl)
theorem db.L2_eq (l key t16_ t17_ b0 b02 b03):db.L2 l key t16_ t17_ b0 b02 b03=
 bif (decide ((t17_:Int)<t16_)) then
  db.L3 l key t16_ t17_ b0 b02 b03
 else
  some (true,()):=res_eq (by kernel_rfl)
theorem db.L3_eq (l key t16_ t17_ b0 b02 b03):db.L3 l key t16_ t17_ b0 b02 b03=
 bif (decide ((0:Int)≤t17_∧(t17_:Int)<((List.length l:Int)))) then
  bif (decide ((((List.getD l (Int.toNat t17_) d9_).1):Int)>key)) then
   some (false,())
  else
   bif (decide ((0:Int)≤0∧(0:Int)≤t17_∧(t17_:Int)≤((List.length l:Int)))) then
    (gj.F (List.take ((Int.toNat t17_) - (Int.toNat 0)) (List.drop (Int.toNat 0) l)) ((List.getD l (Int.toNat t17_) d9_).1)).bind fun r0=>
    bif (decide ((r0.1:Int)≥0)) then
     some (false,())
    else
     bif (!(Ty.beq t0 ((((List.getD l (Int.toNat t17_) d9_).2).1).1) (b0,b02,b03,()))) then
      some (false,())
     else
      (cx.F (((List.getD l (Int.toNat t17_) d9_).2).1)).bind fun r1=>
      bif (r1.1 !=0) then
       some (false,())
      else
       db.L4 l key t16_ t17_ b0 b02 b03
   else none
 else none:=res_eq (by kernel_rfl)
theorem db.L4_eq (l key t16_ t17_ b0 b02 b03):db.L4 l key t16_ t17_ b0 b02 b03=
 db.L2 l key t16_ (IntKind.wrap .i64 (t17_+1)) b0 b02 b03:=res_eq (by kernel_rfl)
theorem db.F_eq (l most limit key):db.F l most limit key=
 bif (decide ((((List.length l:Int)):Int)>most)) then
  some (false,())
 else
  db.L1 l key limit.1 limit.2.1 limit.2.2.1:=by kernel_rfl
def bv.sg:Sig:=⟨[.val t10],[(.bool,true)]⟩
def bv.E:Env:=⟨tl,fun i=>look i [(98,cw.Fn),(99,cx.Fn),(100,db.Fn)],[],eqs,globs,prims⟩
def bv.c:=cxOf bv.E bv.sg Tryz.f70
def bv.b:=body Tryz.f70
def bv.Fn:Fun:=fnOf bv.E bv.sg Tryz.f70
def bv.F (a:t10.den):Option (Bool × Unit):=bv.Fn.F (a,())
def bv.L1 (t7_:List t0.den) (t8_ b0:Int) (b02:List Int) (b03 b04:Int) (b05 b06:Int) (b07 b08:Int) (b09 b010:List t9.den) (b011:List Int) (b012 b013 b014:Int):Option (Bool × Unit):=res bv.c (atLoop bv.b [1,0,1,0]) ⟨[(1,(.ptr 0 [])),(7,(.v (.arr 3 t0) t7_)),(8,(.v (.int .i64) t8_))],[(0,some (.box (.agg [(.v (.int .u32) b0),(.v (.arr 3 t0) t7_),(.v (.arr 2 (.int .i64)) b02),(.agg [(.agg [(.v (.int .i64) b03),(.v (.int .i64) b04),(.v (.int .i64) b05)]),(.v (.int .i64) b06),(.v (.int .i64) b07),(.v (.int .u64) b08)]),(.v (.slice t9) b09),(.v (.slice t9) b010),(.v (.slice (.int .u32)) b011),(.agg [(.v (.int .u64) b012),(.v (.int .u64) b013),(.v (.int .u64) b014)])])))],1,[]⟩
def bv.L2 (t7_:List t0.den) (t8_ b0:Int) (b02:List Int) (b03 b04:Int) (b05 b06:Int) (b07 b08:Int) (b09 b010:List t9.den) (b011:List Int) (b012 b013 b014:Int):Option (Bool × Unit):=res bv.c (atJoin bv.b [1,0,1,0,0,1,0]) ⟨[(1,(.ptr 0 [])),(7,(.v (.arr 3 t0) t7_)),(8,(.v (.int .i64) t8_))],[(0,some (.box (.agg [(.v (.int .u32) b0),(.v (.arr 3 t0) t7_),(.v (.arr 2 (.int .i64)) b02),(.agg [(.agg [(.v (.int .i64) b03),(.v (.int .i64) b04),(.v (.int .i64) b05)]),(.v (.int .i64) b06),(.v (.int .i64) b07),(.v (.int .u64) b08)]),(.v (.slice t9) b09),(.v (.slice t9) b010),(.v (.slice (.int .u32)) b011),(.agg [(.v (.int .u64) b012),(.v (.int .u64) b013),(.v (.int .u64) b014)])])))],1,[]⟩
def bv.L3 (i b0:Int) (b02:List t0.den) (b03:List Int) (b04 b05:Int) (b06 b07:Int) (b08 b09:Int) (b010 b011:List t9.den) (b012:List Int) (b013 b014 b015:Int):Option (Bool × Unit):=res bv.c (atLoop bv.b [1,1,0,1,0]) ⟨[(1,(.ptr 0 [])),(5,(.v (.int .i64) i))],[(0,some (.box (.agg [(.v (.int .u32) b0),(.v (.arr 3 t0) b02),(.v (.arr 2 (.int .i64)) b03),(.agg [(.agg [(.v (.int .i64) b04),(.v (.int .i64) b05),(.v (.int .i64) b06)]),(.v (.int .i64) b07),(.v (.int .i64) b08),(.v (.int .u64) b09)]),(.v (.slice t9) b010),(.v (.slice t9) b011),(.v (.slice (.int .u32)) b012),(.agg [(.v (.int .u64) b013),(.v (.int .u64) b014),(.v (.int .u64) b015)])])))],1,[]⟩
def bv.L4 (i b0:Int) (b02:List t0.den) (b03:List Int) (b04 b05:Int) (b06 b07:Int) (b08 b09:Int) (b010 b011:List t9.den) (b012:List Int) (b013 b014 b015:Int):Option (Bool × Unit):=res bv.c (atJoin bv.b [1,1,0,1,0,0,0,1]) ⟨[(1,(.ptr 0 [])),(5,(.v (.int .i64) i))],[(0,some (.box (.agg [(.v (.int .u32) b0),(.v (.arr 3 t0) b02),(.v (.arr 2 (.int .i64)) b03),(.agg [(.agg [(.v (.int .i64) b04),(.v (.int .i64) b05),(.v (.int .i64) b06)]),(.v (.int .i64) b07),(.v (.int .i64) b08),(.v (.int .u64) b09)]),(.v (.slice t9) b010),(.v (.slice t9) b011),(.v (.slice (.int .u32)) b012),(.agg [(.v (.int .u64) b013),(.v (.int .u64) b014),(.v (.int .u64) b015)])])))],1,[]⟩
def bv.L5 (b0:Int) (b02:List t0.den) (b03:List Int) (b04 b05:Int) (b06 b07:Int) (b08 b09:Int) (b010 b011:List t9.den) (b012:List Int) (b013 b014 b015:Int):Option (Bool × Unit):=res bv.c (atJoin bv.b [1,1,1,0,1]) ⟨[(1,(.ptr 0 []))],[(0,some (.box (.agg [(.v (.int .u32) b0),(.v (.arr 3 t0) b02),(.v (.arr 2 (.int .i64)) b03),(.agg [(.agg [(.v (.int .i64) b04),(.v (.int .i64) b05),(.v (.int .i64) b06)]),(.v (.int .i64) b07),(.v (.int .i64) b08),(.v (.int .u64) b09)]),(.v (.slice t9) b010),(.v (.slice t9) b011),(.v (.slice (.int .u32)) b012),(.agg [(.v (.int .u64) b013),(.v (.int .u64) b014),(.v (.int .u64) b015)])])))],1,[]⟩
def bv.L6 (i b0:Int) (b02:List t0.den) (b03:List Int) (b04 b05:Int) (b06 b07:Int) (b08 b09:Int) (b010 b011:List t9.den) (b012:List Int) (b013 b014 b015:Int):Option (Bool × Unit):=res bv.c (atJoin bv.b [1,1,0,1,0,0,1,0,0,1]) ⟨[(1,(.ptr 0 [])),(5,(.v (.int .i64) i))],[(0,some (.box (.agg [(.v (.int .u32) b0),(.v (.arr 3 t0) b02),(.v (.arr 2 (.int .i64)) b03),(.agg [(.agg [(.v (.int .i64) b04),(.v (.int .i64) b05),(.v (.int .i64) b06)]),(.v (.int .i64) b07),(.v (.int .i64) b08),(.v (.int .u64) b09)]),(.v (.slice t9) b010),(.v (.slice t9) b011),(.v (.slice (.int .u32)) b012),(.agg [(.v (.int .u64) b013),(.v (.int .u64) b014),(.v (.int .u64) b015)])])))],1,[]⟩
def bv.L7 (t7_:List t0.den) (t8_ b0:Int) (b02:List Int) (b03 b04:Int) (b05 b06:Int) (b07 b08:Int) (b09 b010:List t9.den) (b011:List Int) (b012 b013 b014:Int):Option (Bool × Unit):=res bv.c (atJoin bv.b [1,0,1,0,0,1,1,0,0,1,1]) ⟨[(1,(.ptr 0 [])),(7,(.v (.arr 3 t0) t7_)),(8,(.v (.int .i64) t8_))],[(0,some (.box (.agg [(.v (.int .u32) b0),(.v (.arr 3 t0) t7_),(.v (.arr 2 (.int .i64)) b02),(.agg [(.agg [(.v (.int .i64) b03),(.v (.int .i64) b04),(.v (.int .i64) b05)]),(.v (.int .i64) b06),(.v (.int .i64) b07),(.v (.int .u64) b08)]),(.v (.slice t9) b09),(.v (.slice t9) b010),(.v (.slice (.int .u32)) b011),(.agg [(.v (.int .u64) b012),(.v (.int .u64) b013),(.v (.int .u64) b014)])])))],1,[]⟩
theorem bv.spec:FnSpec Tryz.prog globs 70 bv.Fn:=spec_of (E:=bv.E) (envOk_at tabOk eqOk primsOk (.cons cw.spec<|.cons cx.spec<|.cons db.spec<|.nil)) mixOk Tryz.func70 (by kernel_rfl)
theorem bv.L1_eq (t7_ t8_ b0 b02 b03 b04 b05 b06 b07 b08 b09 b010 b011 b012 b013 b014):bv.L1 t7_ t8_ b0 b02 b03 b04 b05 b06 b07 b08 b09 b010 b011 b012 b013 b014=
 bif (decide ((t8_:Int)<3)) then
  bv.L2 t7_ t8_ b0 b02 b03 b04 b05 b06 b07 b08 b09 b010 b011 b012 b013 b014
 else
  bv.L3 1 b0 t7_ b02 b03 b04 b05 b06 b07 b08 b09 b010 b011 b012 b013 b014:=res_eq (by kernel_rfl)
theorem bv.L2_eq (t7_ t8_ b0 b02 b03 b04 b05 b06 b07 b08 b09 b010 b011 b012 b013 b014):bv.L2 t7_ t8_ b0 b02 b03 b04 b05 b06 b07 b08 b09 b010 b011 b012 b013 b014=
 bif (decide ((0:Int)≤t8_∧(t8_:Int)<3)) then
  (cw.F (List.getD t7_ (Int.toNat t8_) (0,0,0,()))).bind fun r0=>
  bif (r0.1 !=0) then
   some (false,())
  else
   bif (decide ((t8_:Int)<2)) then
    bif (decide ((0:Int)≤t8_∧(t8_:Int)<2)) then
     bif (decide (((List.getD b02 (Int.toNat t8_) 0):Int)<1)) then
      some (false,())
     else
      bif (decide ((0:Int)≤t8_∧(t8_:Int)<2)) then
       bif (decide (((List.getD b02 (Int.toNat t8_) 0):Int)>8)) then
        some (false,())
       else
        bv.L7 t7_ t8_ b0 b02 b03 b04 b05 b06 b07 b08 b09 b010 b011 b012 b013 b014
      else none
    else none
   else
    bv.L7 t7_ t8_ b0 b02 b03 b04 b05 b06 b07 b08 b09 b010 b011 b012 b013 b014
 else none:=res_eq (by kernel_rfl)
theorem bv.L3_eq (i b0 b02 b03 b04 b05 b06 b07 b08 b09 b010 b011 b012 b013 b014 b015):bv.L3 i b0 b02 b03 b04 b05 b06 b07 b08 b09 b010 b011 b012 b013 b014 b015=
 bif (decide ((i:Int)<((List.length b012:Int)))) then
  bv.L4 i b0 b02 b03 b04 b05 b06 b07 b08 b09 b010 b011 b012 b013 b014 b015
 else
  bif (decide ((b0:Int)≥16)) then
   some (false,())
  else
   bif (decide ((((List.length b012:Int)):Int)>8)) then
    some (false,())
   else
    bif (decide ((0:Int)≤0∧(0:Int)<3)) then
     bif (!(Ty.beq t0 (b04,b05,b06,()) (List.getD b02 (Int.toNat 0) (0,0,0,())))) then
      some (false,())
     else
      (cx.F ((b04,b05,b06,()),b07,b08,b09,())).bind fun r0=>
      bif (r0.1 !=0) then
       some (false,())
      else
       bv.L5 b0 b02 b03 b04 b05 b06 b07 b08 b09 b010 b011 b012 b013 b014 b015
    else none:=res_eq (by kernel_rfl)
theorem bv.L4_eq (i b0 b02 b03 b04 b05 b06 b07 b08 b09 b010 b011 b012 b013 b014 b015):bv.L4 i b0 b02 b03 b04 b05 b06 b07 b08 b09 b010 b011 b012 b013 b014 b015=
 bif (decide ((0:Int)≤i∧(i:Int)<((List.length b012:Int)))) then
  bif (decide ((0:Int)≤(IntKind.wrap .i64 (i - 1))∧((IntKind.wrap .i64 (i - 1)):Int)<((List.length b012:Int)))) then
   bif (decide (((List.getD b012 (Int.toNat i) 0):Int)≤(List.getD b012 (Int.toNat (IntKind.wrap .i64 (i - 1))) 0))) then
    some (false,())
   else
    bv.L6 i b0 b02 b03 b04 b05 b06 b07 b08 b09 b010 b011 b012 b013 b014 b015
  else none
 else none:=res_eq (by kernel_rfl)
theorem bv.L5_eq (b0 b02 b03 b04 b05 b06 b07 b08 b09 b010 b011 b012 b013 b014 b015):bv.L5 b0 b02 b03 b04 b05 b06 b07 b08 b09 b010 b011 b012 b013 b014 b015=
 bif (decide ((0:Int)≤0∧(0:Int)<2)) then
  bif (decide ((0:Int)≤1∧(1:Int)<3)) then
   (db.F b010 (List.getD b03 (Int.toNat 0) 0) (List.getD b02 (Int.toNat 1) (0,0,0,())) 4294967295).bind fun r0=>
   bif r0.1 then
    bif (decide ((0:Int)≤1∧(1:Int)<2)) then
     bif (decide ((0:Int)≤2∧(2:Int)<3)) then
      (db.F b011 (List.getD b03 (Int.toNat 1) 0) (List.getD b02 (Int.toNat 2) (0,0,0,())) 65535).bind fun r1=>
      some (r1.1,())
     else none
    else none
   else
    some (false,())
  else none
 else none:=res_eq (by kernel_rfl)
theorem bv.L6_eq (i b0 b02 b03 b04 b05 b06 b07 b08 b09 b010 b011 b012 b013 b014 b015):bv.L6 i b0 b02 b03 b04 b05 b06 b07 b08 b09 b010 b011 b012 b013 b014 b015=
 bv.L3 (IntKind.wrap .i64 (i+1)) b0 b02 b03 b04 b05 b06 b07 b08 b09 b010 b011 b012 b013 b014 b015:=res_eq (by kernel_rfl)
theorem bv.L7_eq (t7_ t8_ b0 b02 b03 b04 b05 b06 b07 b08 b09 b010 b011 b012 b013 b014):bv.L7 t7_ t8_ b0 b02 b03 b04 b05 b06 b07 b08 b09 b010 b011 b012 b013 b014=
 bv.L1 t7_ (IntKind.wrap .i64 (t8_+1)) b0 b02 b03 b04 b05 b06 b07 b08 b09 b010 b011 b012 b013 b014:=res_eq (by kernel_rfl)
theorem bv.F_eq (a):bv.F a=
 bv.L1 a.2.1 0 a.1 a.2.2.1 a.2.2.2.1.1.1 a.2.2.2.1.1.2.1 a.2.2.2.1.1.2.2.1 a.2.2.2.1.2.1 a.2.2.2.1.2.2.1 a.2.2.2.1.2.2.2.1 a.2.2.2.2.1 a.2.2.2.2.2.1 a.2.2.2.2.2.2.1 a.2.2.2.2.2.2.2.1.1 a.2.2.2.2.2.2.2.1.2.1 a.2.2.2.2.2.2.2.1.2.2.1:=by kernel_rfl
def bj.sg:Sig:=⟨[.val (.slice t9),.clo 69 t11],[((.int .i64),true)]⟩
def bj.E:Env:=⟨tl,fun i=>look i [(69,fo.Fn)],[],eqs,globs,prims⟩
def bj.c:=cxOf bj.E bj.sg Tryz.f101
def bj.b:=body Tryz.f101
def bj.Fn:Fun:=fnOf bj.E bj.sg Tryz.f101
def bj.F (s:List t9.den) (f:t11.den):Option (t11.den × Int × Unit):=bj.Fn.F (s,f,())
def bj.L1 (s:List t9.den) (t7_ t8_ b0:Int) (b02 b03:List Int) (b04:List t10.den):Option (t11.den × Int × Unit):=res bj.c (atLoop bj.b [1,0,1,0]) ⟨[(0,(.v (.slice t9) s)),(1,(.fn 69 [(.ptr 0 [])])),(7,(.v (.int .i64) t7_)),(8,(.v (.int .i64) t8_))],[(0,some (.box (.agg [(.v (.int .u64) b0),(.v (.arr 32 (.int .u8)) b02),(.v (.arr 16 (.int .u32)) b03),(.v (.slice t10) b04)])))],1,[(.ptr 0 [])]⟩
def bj.L2 (s:List t9.den) (t7_ t8_ b0:Int) (b02 b03:List Int) (b04:List t10.den):Option (t11.den × Int × Unit):=res bj.c (atJoin bj.b [1,0,1,0,0,1,0]) ⟨[(0,(.v (.slice t9) s)),(1,(.fn 69 [(.ptr 0 [])])),(7,(.v (.int .i64) t7_)),(8,(.v (.int .i64) t8_))],[(0,some (.box (.agg [(.v (.int .u64) b0),(.v (.arr 32 (.int .u8)) b02),(.v (.arr 16 (.int .u32)) b03),(.v (.slice t10) b04)])))],1,[(.ptr 0 [])]⟩
def bj.L3 (s:List t9.den) (t7_ t8_ b0:Int) (b02 b03:List Int) (b04:List t10.den):Option (t11.den × Int × Unit):=res bj.c (atJoin bj.b [1,0,1,0,0,1,1,0,0,1,1]) ⟨[(0,(.v (.slice t9) s)),(1,(.fn 69 [(.ptr 0 [])])),(7,(.v (.int .i64) t7_)),(8,(.v (.int .i64) t8_))],[(0,some (.box (.agg [(.v (.int .u64) b0),(.v (.arr 32 (.int .u8)) b02),(.v (.arr 16 (.int .u32)) b03),(.v (.slice t10) b04)])))],1,[(.ptr 0 [])]⟩
theorem bj.spec:FnSpec Tryz.prog globs 101 bj.Fn:=spec_of (E:=bj.E) (envOk_at tabOk eqOk primsOk (.cons fo.spec<|.nil)) mixOk Tryz.func101 (by kernel_rfl)
theorem bj.L1_eq (s t7_ t8_ b0 b02 b03 b04):bj.L1 s t7_ t8_ b0 b02 b03 b04=
 bif (decide ((t8_:Int)<t7_)) then
  bj.L2 s t7_ t8_ b0 b02 b03 b04
 else
  some ((b0,b02,b03,b04,()),(-1),()):=res_eq (by kernel_rfl)
theorem bj.L2_eq (s t7_ t8_ b0 b02 b03 b04):bj.L2 s t7_ t8_ b0 b02 b03 b04=
 bif (decide ((0:Int)≤t8_∧(t8_:Int)<((List.length s:Int)))) then
  (fo.F (List.getD s (Int.toNat t8_) d9_) (b0,b02,b03,b04,())).bind fun r0=>
  bif r0.2.1 then
   some (r0.1,t8_,())
  else
   bj.L3 s t7_ t8_ r0.1.1 r0.1.2.1 r0.1.2.2.1 r0.1.2.2.2.1
 else none:=res_eq (by kernel_rfl)
theorem bj.L3_eq (s t7_ t8_ b0 b02 b03 b04):bj.L3 s t7_ t8_ b0 b02 b03 b04=
 bj.L1 s t7_ (IntKind.wrap .i64 (t8_+1)) b0 b02 b03 b04:=res_eq (by kernel_rfl)
theorem bj.F_eq (s f):bj.F s f=
 bj.L1 s ((List.length s:Int)) 0 f.1 f.2.1 f.2.2.1 f.2.2.2.1:=by kernel_rfl
def ed.sg:Sig:=⟨[.val (.slice t9),.clo 69 t11],[(.bool,true)]⟩
def ed.E:Env:=⟨tl,fun i=>look i [(101,bj.Fn),(69,fo.Fn)],[],eqs,globs,prims⟩
def ed.Fn:Fun:=fnOf ed.E ed.sg Tryz.f71
def ed.F (s:List t9.den) (f:t11.den):Option (t11.den × Bool × Unit):=ed.Fn.F (s,f,())
theorem ed.spec:FnSpec Tryz.prog globs 71 ed.Fn:=spec_of (E:=ed.E) (envOk_at tabOk eqOk primsOk (.cons bj.spec<|.cons fo.spec<|.nil)) mixOk Tryz.func71 (by kernel_rfl)
theorem ed.F_eq (s f):ed.F s f=
 (bj.F s f).bind fun r0=>
 some (r0.1,(decide ((r0.2.1:Int)≥0)),()):=by kernel_rfl
def cy.sg:Sig:=⟨[.val t11],[((.int .i64),true)]⟩
def cy.E:Env:=⟨tl,fun i=>look i [(67,ej.Fn),(68,fr.Fn),(69,fo.Fn),(70,bv.Fn),(71,ed.Fn)],[],eqs,globs,prims⟩
def cy.c:=cxOf cy.E cy.sg Tryz.f46
def cy.b:=body Tryz.f46
def cy.Fn:Fun:=fnOf cy.E cy.sg Tryz.f46
def cy.F (m:t11.den):Option (Int × Unit):=cy.Fn.F (m,())
def cy.L1 (b0:Int) (b02 b03:List Int) (b04:List t10.den):Option (Int × Unit):=res cy.c (atJoin cy.b [1,0,1]) ⟨[(1,(.ptr 0 []))],[(0,some (.box (.agg [(.v (.int .u64) b0),(.v (.arr 32 (.int .u8)) b02),(.v (.arr 16 (.int .u32)) b03),(.v (.slice t10) b04)])))],1,[]⟩
def cy.L2 (t17_:List t10.den) (t18_ t19_ b0:Int) (b02 b03:List Int) (b04:List t10.den):Option (Int × Unit):=res cy.c (atLoop cy.b [1,1,1,0,1,0]) ⟨[(1,(.ptr 0 [])),(3,(.fn 69 [(.ptr 0 [])])),(17,(.v (.slice t10) t17_)),(18,(.v (.int .i64) t18_)),(19,(.v (.int .i64) t19_))],[(0,some (.box (.agg [(.v (.int .u64) b0),(.v (.arr 32 (.int .u8)) b02),(.v (.arr 16 (.int .u32)) b03),(.v (.slice t10) b04)])))],1,[]⟩
def cy.L3 (t17_:List t10.den) (t18_ t19_ b0:Int) (b02 b03:List Int) (b04:List t10.den):Option (Int × Unit):=res cy.c (atJoin cy.b [1,1,1,0,1,0,0,1,0]) ⟨[(1,(.ptr 0 [])),(3,(.fn 69 [(.ptr 0 [])])),(17,(.v (.slice t10) t17_)),(18,(.v (.int .i64) t18_)),(19,(.v (.int .i64) t19_))],[(0,some (.box (.agg [(.v (.int .u64) b0),(.v (.arr 32 (.int .u8)) b02),(.v (.arr 16 (.int .u32)) b03),(.v (.slice t10) b04)])))],1,[]⟩
def cy.L4 (t17_:List t10.den) (t18_ t19_ b0:Int) (b02 b03:List Int) (b04:List t10.den):Option (Int × Unit):=res cy.c (atJoin cy.b [1,1,1,0,1,0,0,1,1,0,0,1,1]) ⟨[(1,(.ptr 0 [])),(3,(.fn 69 [(.ptr 0 [])])),(17,(.v (.slice t10) t17_)),(18,(.v (.int .i64) t18_)),(19,(.v (.int .i64) t19_))],[(0,some (.box (.agg [(.v (.int .u64) b0),(.v (.arr 32 (.int .u8)) b02),(.v (.arr 16 (.int .u32)) b03),(.v (.slice t10) b04)])))],1,[]⟩
theorem cy.spec:FnSpec Tryz.prog globs 46 cy.Fn:=spec_of (E:=cy.E) (envOk_at tabOk eqOk primsOk (.cons ej.spec<|.cons fr.spec<|.cons fo.spec<|.cons bv.spec<|.cons ed.spec<|.nil)) mixOk Tryz.func46 (by kernel_rfl)
theorem cy.L1_eq (b0 b02 b03 b04):cy.L1 b0 b02 b03 b04=
 cy.L2 b04 ((List.length b04:Int)) 0 b0 b02 b03 b04:=res_eq (by kernel_rfl)
theorem cy.L2_eq (t17_ t18_ t19_ b0 b02 b03 b04):cy.L2 t17_ t18_ t19_ b0 b02 b03 b04=
 bif (decide ((t19_:Int)<t18_)) then
  cy.L3 t17_ t18_ t19_ b0 b02 b03 b04
 else
  some (0,()):=res_eq (by kernel_rfl)
theorem cy.L3_eq (t17_ t18_ t19_ b0 b02 b03 b04):cy.L3 t17_ t18_ t19_ b0 b02 b03 b04=
 bif (decide ((0:Int)≤t19_∧(t19_:Int)<((List.length t17_:Int)))) then
  (bv.F (List.getD t17_ (Int.toNat t19_) d10_)).bind fun r0=>
  bif (!r0.1) then
   some (8,())
  else
   bif (decide (((((((((((List.getD t17_ (Int.toNat t19_) d10_).2).2).2).1).2).2).2).1):Int)>b0)) then
    some (8,())
   else
    (ed.F ((((((List.getD t17_ (Int.toNat t19_) d10_).2).2).2).2).1) (b0,b02,b03,b04,())).bind fun r1=>
    bif r1.2.1 then
     some (8,())
    else
     (ed.F (((((((List.getD t17_ (Int.toNat t19_) d10_).2).2).2).2).2).1) r1.1).bind fun r2=>
     bif r2.2.1 then
      some (8,())
     else
      bif (decide ((t19_:Int)>0)) then
       bif (decide ((0:Int)≤(IntKind.wrap .i64 (t19_ - 1))∧((IntKind.wrap .i64 (t19_ - 1)):Int)<((List.length r2.1.2.2.2.1:Int)))) then
        bif (decide ((((List.getD r2.1.2.2.2.1 (Int.toNat (IntKind.wrap .i64 (t19_ - 1))) d10_).1):Int)≥((List.getD t17_ (Int.toNat t19_) d10_).1))) then
         some (8,())
        else
         cy.L4 t17_ t18_ t19_ r2.1.1 r2.1.2.1 r2.1.2.2.1 r2.1.2.2.2.1
       else none
      else
       cy.L4 t17_ t18_ t19_ r2.1.1 r2.1.2.1 r2.1.2.2.1 r2.1.2.2.2.1
 else none:=res_eq (by kernel_rfl)
theorem cy.L4_eq (t17_ t18_ t19_ b0 b02 b03 b04):cy.L4 t17_ t18_ t19_ b0 b02 b03 b04=
 cy.L2 t17_ t18_ (IntKind.wrap .i64 (t19_+1)) b0 b02 b03 b04:=res_eq (by kernel_rfl)
theorem cy.F_eq (m):cy.F m=
 bif (decide ((((List.length m.2.2.2.1:Int)):Int)>8)) then
  some (8,())
 else
  bif (decide ((0:Int)≤0∧(0:Int)≤16∧(16:Int)≤16)) then
   (ej.F (List.take ((Int.toNat 16) - (Int.toNat 0)) (List.drop (Int.toNat 0) m.2.2.1))).bind fun r0=>
   bif r0.1 then
    some (8,())
   else
    cy.L1 m.1 m.2.1 m.2.2.1 m.2.2.2.1
  else none:=by kernel_rfl
def cv.sg:Sig:=⟨[.val t11],[(t8,true),((.int .i64),true)]⟩
def cv.E:Env:=⟨tl,fun i=>look i [(46,cy.Fn),(47,ce.Fn)],[],eqs,globs,prims⟩
def cv.c:=cxOf cv.E cv.sg Tryz.f24
def cv.b:=body Tryz.f24
def cv.Fn:Fun:=fnOf cv.E cv.sg Tryz.f24
def cv.F (m:t11.den):Option (t8.den × Int × Unit):=cv.Fn.F (m,())
def cv.L1 (b0:Int) (b02 b03:List Int) (b04:List t10.den) (b1 b12:List Int) (l2:List t7.den):Option (t8.den × Int × Unit):=res cv.c (atJoin cv.b [1,0,1,1]) ⟨[(1,(.ptr 0 [])),(2,(.ptr 1 []))],[(0,some (.box (.agg [(.v (.int .u64) b0),(.v (.arr 32 (.int .u8)) b02),(.v (.arr 16 (.int .u32)) b03),(.v (.slice t10) b04)]))),(1,some (.box (.agg [(.v (.int .u64) 0),(.v (.arr 32 (.int .u8)) b1),(.v (.arr 16 (.int .u32)) b12),(.sl 2)]))),(2,some (.row t7 l2 false))],3,[]⟩
def cv.L2 (t22_:List t10.den) (t23_ t24_:Int) (b0 b02:List Int) (b1:Int) (b12 b13:List Int) (l2 l3:List t7.den):Option (t8.den × Int × Unit):=res cv.c (atLoop cv.b [1,1,1,0,1,0]) ⟨[(2,(.ptr 0 [])),(5,(.ptr 1 [])),(22,(.v (.slice t10) t22_)),(23,(.v (.int .i64) t23_)),(24,(.v (.int .i64) t24_))],[(0,some (.box (.agg [(.v (.int .u64) 0),(.v (.arr 32 (.int .u8)) b0),(.v (.arr 16 (.int .u32)) b02),(.sl 2)]))),(1,some (.box (.agg [(.v (.int .u64) b1),(.v (.arr 32 (.int .u8)) b12),(.v (.arr 16 (.int .u32)) b13),(.sl 3)]))),(2,some (.row t7 l2 false)),(3,some (.row t7 l3 false))],4,[]⟩
def cv.L3 (t22_:List t10.den) (t23_ t24_:Int) (b0 b02:List Int) (b1:Int) (b12 b13:List Int) (l2 l3:List t7.den):Option (t8.den × Int × Unit):=res cv.c (atJoin cv.b [1,1,1,0,1,0,0,1,0]) ⟨[(2,(.ptr 0 [])),(5,(.ptr 1 [])),(22,(.v (.slice t10) t22_)),(23,(.v (.int .i64) t23_)),(24,(.v (.int .i64) t24_))],[(0,some (.box (.agg [(.v (.int .u64) 0),(.v (.arr 32 (.int .u8)) b0),(.v (.arr 16 (.int .u32)) b02),(.sl 2)]))),(1,some (.box (.agg [(.v (.int .u64) b1),(.v (.arr 32 (.int .u8)) b12),(.v (.arr 16 (.int .u32)) b13),(.sl 3)]))),(2,some (.row t7 l2 false)),(3,some (.row t7 l3 false))],4,[]⟩
theorem cv.spec:FnSpec Tryz.prog globs 24 cv.Fn:=spec_of (E:=cv.E) (envOk_at tabOk eqOk primsOk (.cons cy.spec<|.cons ce.spec<|.nil)) mixOk Tryz.func24 (by kernel_rfl)
theorem cv.L1_eq (b0 b02 b03 b04 b1 b12 l2):cv.L1 b0 b02 b03 b04 b1 b12 l2=
 cv.L2 b04 ((List.length b04:Int)) 0 b1 b12 b0 b02 b03 l2 ([]:List t7.den):=res_eq (by kernel_rfl)
theorem cv.L2_eq (t22_ t23_ t24_ b0 b02 b1 b12 b13 l2 l3):cv.L2 t22_ t23_ t24_ b0 b02 b1 b12 b13 l2 l3=
 bif (decide ((t24_:Int)<t23_)) then
  cv.L3 t22_ t23_ t24_ b0 b02 b1 b12 b13 l2 l3
 else
  some ((b1,b12,b13,l3,()),0,()):=res_eq (by kernel_rfl)
theorem cv.L3_eq (t22_ t23_ t24_ b0 b02 b1 b12 b13 l2 l3):cv.L3 t22_ t23_ t24_ b0 b02 b1 b12 b13 l2 l3=
 bif (decide ((0:Int)≤t24_∧(t24_:Int)<((List.length t22_:Int)))) then
  bif (decide ((0:Int)≤0∧(0:Int)<2)) then
   bif (decide ((0:Int)≤1∧(1:Int)<3)) then
    (ce.F ((((((List.getD t22_ (Int.toNat t24_) d10_).2).2).2).2).1) (List.getD ((((List.getD t22_ (Int.toNat t24_) d10_).2).2).1) (Int.toNat 0) 0) (List.getD (((List.getD t22_ (Int.toNat t24_) d10_).2).1) (Int.toNat 1) (0,0,0,()))).bind fun r0=>
    bif (decide ((0:Int)≤1∧(1:Int)<2)) then
     bif (decide ((0:Int)≤2∧(2:Int)<3)) then
      (ce.F (((((((List.getD t22_ (Int.toNat t24_) d10_).2).2).2).2).2).1) (List.getD ((((List.getD t22_ (Int.toNat t24_) d10_).2).2).1) (Int.toNat 1) 0) (List.getD (((List.getD t22_ (Int.toNat t24_) d10_).2).1) (Int.toNat 2) (0,0,0,()))).bind fun r1=>
      bif (lim (List.length ((((((((List.getD t22_ (Int.toNat t24_) d10_).2).2).2).2).2).2).1)) (.int .u32)) then
       bif (lim ((List.length l3)+(List.length ([((List.getD t22_ (Int.toNat t24_) d10_).1,((List.getD t22_ (Int.toNat t24_) d10_).2).1,((((List.getD t22_ (Int.toNat t24_) d10_).2).2).2).1,r0.1,r1.1,(((((((List.getD t22_ (Int.toNat t24_) d10_).2).2).2).2).2).2).1,((((((((List.getD t22_ (Int.toNat t24_) d10_).2).2).2).2).2).2).2).1,())]:List t7.den))) t7) then
        cv.L2 t22_ t23_ (IntKind.wrap .i64 (t24_+1)) b0 b02 b1 b12 b13 l2 (l3++([((List.getD t22_ (Int.toNat t24_) d10_).1,((List.getD t22_ (Int.toNat t24_) d10_).2).1,((((List.getD t22_ (Int.toNat t24_) d10_).2).2).2).1,r0.1,r1.1,(((((((List.getD t22_ (Int.toNat t24_) d10_).2).2).2).2).2).2).1,((((((((List.getD t22_ (Int.toNat t24_) d10_).2).2).2).2).2).2).2).1,())]:List t7.den))
       else none
      else none
     else none
    else none
   else none
  else none
 else none:=res_eq (by kernel_rfl)
theorem cv.F_eq (m):cv.F m=
 (cy.F m).bind fun r0=>
 bif (r0.1 !=0) then
  some ((0,(List.replicate 32 (0:Int)),(List.replicate 16 (0:Int)),([]:List t7.den),()),r0.1,())
 else
  cv.L1 m.1 m.2.1 m.2.2.1 m.2.2.2.1 (List.replicate 32 (0:Int)) (List.replicate 16 (0:Int)) ([]:List t7.den):=by kernel_rfl
def am.sg:Sig:=⟨[.val (.slice (.int .u8))],[(t8,true),((.int .i64),true)]⟩
def am.E:Env:=⟨tl,fun i=>look i [(22,ai.Fn),(23,ab.Fn),(24,cv.Fn)],[],eqs,globs,prims⟩
def am.c:=cxOf am.E am.sg Tryz.f7
def am.b:=body Tryz.f7
def am.Fn:Fun:=fnOf am.E am.sg Tryz.f7
def am.F (b:List Int):Option (t8.den × Int × Unit):=am.Fn.F (b,())
def am.L1 (b b0 b02:List Int) (l1:List t7.den):Option (t8.den × Int × Unit):=res am.c (atJoin am.b [1,0,1]) ⟨[(0,(.v (.slice (.int .u8)) b)),(2,(.ptr 0 []))],[(0,some (.box (.agg [(.v (.int .u64) 0),(.v (.arr 32 (.int .u8)) b0),(.v (.arr 16 (.int .u32)) b02),(.sl 1)]))),(1,some (.row t7 l1 false))],2,[]⟩
def am.L2 (t21_:Int) (b0 b02 b1:List Int) (b12:Bool) (b2:Int) (b22 b23:List Int) (l3:List t7.den) (l4:List t10.den):Option (t8.den × Int × Unit):=res am.c (atLoop am.b [1,1,1,1,0,1,0]) ⟨[(2,(.ptr 0 [])),(4,(.ptr 1 [])),(5,(.ptr 2 [])),(21,(.v (.int .i64) t21_))],[(0,some (.box (.agg [(.v (.int .u64) 0),(.v (.arr 32 (.int .u8)) b0),(.v (.arr 16 (.int .u32)) b02),(.sl 3)]))),(1,some (.box (.agg [(.v (.slice (.int .u8)) b1),(.v .bool b12)]))),(2,some (.box (.agg [(.v (.int .u64) b2),(.v (.arr 32 (.int .u8)) b22),(.v (.arr 16 (.int .u32)) b23),(.sl 4)]))),(3,some (.row t7 l3 false)),(4,some (.row t10 l4 false))],5,[]⟩
def am.L3 (t21_:Int) (b0 b02 b1:List Int) (b12:Bool) (b2:Int) (b22 b23:List Int) (l3:List t7.den) (l4:List t10.den):Option (t8.den × Int × Unit):=res am.c (atJoin am.b [1,1,1,1,0,1,0,0,1,0]) ⟨[(2,(.ptr 0 [])),(4,(.ptr 1 [])),(5,(.ptr 2 [])),(21,(.v (.int .i64) t21_))],[(0,some (.box (.agg [(.v (.int .u64) 0),(.v (.arr 32 (.int .u8)) b0),(.v (.arr 16 (.int .u32)) b02),(.sl 3)]))),(1,some (.box (.agg [(.v (.slice (.int .u8)) b1),(.v .bool b12)]))),(2,some (.box (.agg [(.v (.int .u64) b2),(.v (.arr 32 (.int .u8)) b22),(.v (.arr 16 (.int .u32)) b23),(.sl 4)]))),(3,some (.row t7 l3 false)),(4,some (.row t10 l4 false))],5,[]⟩
def am.L4 (t31_:Int) (b0 b02 b1:List Int) (b12:Bool) (b2:Int) (b22 b23:List Int) (l3:List t7.den) (l4:List t10.den):Option (t8.den × Int × Unit):=res am.c (atLoop am.b [1,1,1,1,1,0,1,0]) ⟨[(2,(.ptr 0 [])),(4,(.ptr 1 [])),(5,(.ptr 2 [])),(31,(.v (.int .i64) t31_))],[(0,some (.box (.agg [(.v (.int .u64) 0),(.v (.arr 32 (.int .u8)) b0),(.v (.arr 16 (.int .u32)) b02),(.sl 3)]))),(1,some (.box (.agg [(.v (.slice (.int .u8)) b1),(.v .bool b12)]))),(2,some (.box (.agg [(.v (.int .u64) b2),(.v (.arr 32 (.int .u8)) b22),(.v (.arr 16 (.int .u32)) b23),(.sl 4)]))),(3,some (.row t7 l3 false)),(4,some (.row t10 l4 false))],5,[]⟩
def am.L5 (t31_:Int) (b0 b02 b1:List Int) (b12:Bool) (b2:Int) (b22 b23:List Int) (l3:List t7.den) (l4:List t10.den):Option (t8.den × Int × Unit):=res am.c (atJoin am.b [1,1,1,1,1,0,1,0,0,1,0]) ⟨[(2,(.ptr 0 [])),(4,(.ptr 1 [])),(5,(.ptr 2 [])),(31,(.v (.int .i64) t31_))],[(0,some (.box (.agg [(.v (.int .u64) 0),(.v (.arr 32 (.int .u8)) b0),(.v (.arr 16 (.int .u32)) b02),(.sl 3)]))),(1,some (.box (.agg [(.v (.slice (.int .u8)) b1),(.v .bool b12)]))),(2,some (.box (.agg [(.v (.int .u64) b2),(.v (.arr 32 (.int .u8)) b22),(.v (.arr 16 (.int .u32)) b23),(.sl 4)]))),(3,some (.row t7 l3 false)),(4,some (.row t10 l4 false))],5,[]⟩
def am.L6 (n:Int) (b0 b02 b1:List Int) (b12:Bool) (b2:Int) (b22 b23:List Int) (l3:List t7.den) (l4:List t10.den):Option (t8.den × Int × Unit):=res am.c (atLoop am.b [1,1,1,1,1,1,0,1,0]) ⟨[(2,(.ptr 0 [])),(4,(.ptr 1 [])),(5,(.ptr 2 [])),(8,(.v (.int .u64) n))],[(0,some (.box (.agg [(.v (.int .u64) 0),(.v (.arr 32 (.int .u8)) b0),(.v (.arr 16 (.int .u32)) b02),(.sl 3)]))),(1,some (.box (.agg [(.v (.slice (.int .u8)) b1),(.v .bool b12)]))),(2,some (.box (.agg [(.v (.int .u64) b2),(.v (.arr 32 (.int .u8)) b22),(.v (.arr 16 (.int .u32)) b23),(.sl 4)]))),(3,some (.row t7 l3 false)),(4,some (.row t10 l4 false))],5,[]⟩
def am.L7 (n:Int) (b0 b02 b1:List Int) (b12:Bool) (b2:Int) (b22 b23:List Int) (l3:List t7.den) (l4:List t10.den):Option (t8.den × Int × Unit):=res am.c (atJoin am.b [1,1,1,1,1,1,0,1,0,0,0,1]) ⟨[(2,(.ptr 0 [])),(4,(.ptr 1 [])),(5,(.ptr 2 [])),(8,(.v (.int .u64) n))],[(0,some (.box (.agg [(.v (.int .u64) 0),(.v (.arr 32 (.int .u8)) b0),(.v (.arr 16 (.int .u32)) b02),(.sl 3)]))),(1,some (.box (.agg [(.v (.slice (.int .u8)) b1),(.v .bool b12)]))),(2,some (.box (.agg [(.v (.int .u64) b2),(.v (.arr 32 (.int .u8)) b22),(.v (.arr 16 (.int .u32)) b23),(.sl 4)]))),(3,some (.row t7 l3 false)),(4,some (.row t10 l4 false))],5,[]⟩
def am.L8 (b0 b02:List Int) (b1:Int) (b12 b13:List Int) (l2:List t7.den) (l3:List t10.den):Option (t8.den × Int × Unit):=res am.c (atJoin am.b [1,1,1,1,1,1,1,0,1]) ⟨[(2,(.ptr 0 [])),(5,(.ptr 1 []))],[(0,some (.box (.agg [(.v (.int .u64) 0),(.v (.arr 32 (.int .u8)) b0),(.v (.arr 16 (.int .u32)) b02),(.sl 2)]))),(1,some (.box (.agg [(.v (.int .u64) b1),(.v (.arr 32 (.int .u8)) b12),(.v (.arr 16 (.int .u32)) b13),(.sl 3)]))),(2,some (.row t7 l2 false)),(3,some (.row t10 l3 false))],4,[]⟩
def am.L9 (b0 b02:List Int) (b1:Int) (b12 b13:List Int) (l2 l3:List t7.den):Option (t8.den × Int × Unit):=res am.c (atJoin am.b [1,1,1,1,1,1,1,1,1,0,1]) ⟨[(2,(.ptr 0 [])),(9,(.ptr 1 []))],[(0,some (.box (.agg [(.v (.int .u64) 0),(.v (.arr 32 (.int .u8)) b0),(.v (.arr 16 (.int .u32)) b02),(.sl 2)]))),(1,some (.box (.agg [(.v (.int .u64) b1),(.v (.arr 32 (.int .u8)) b12),(.v (.arr 16 (.int .u32)) b13),(.sl 3)]))),(2,some (.row t7 l2 false)),(3,some (.row t7 l3 false))],4,[]⟩
theorem am.spec:FnSpec Tryz.prog globs 7 am.Fn:=spec_of (E:=am.E) (envOk_at tabOk eqOk primsOk (.cons ai.spec<|.cons ab.spec<|.cons cv.spec<|.nil)) mixOk Tryz.func7 (by kernel_rfl)
theorem am.L1_eq (b b0 b02 l1):am.L1 b b0 b02 l1=
 (ai.F (b,false,()) 8).bind fun r0=>
 am.L2 0 b0 b02 r0.1.1 r0.1.2.1 r0.2.1 (List.replicate 32 (0:Int)) (List.replicate 16 (0:Int)) l1 ([]:List t10.den):=res_eq (by kernel_rfl)
theorem am.L2_eq (t21_ b0 b02 b1 b12 b2 b22 b23 l3 l4):am.L2 t21_ b0 b02 b1 b12 b2 b22 b23 l3 l4=
 bif (decide ((t21_:Int)<32)) then
  am.L3 t21_ b0 b02 b1 b12 b2 b22 b23 l3 l4
 else
  am.L4 0 b0 b02 b1 b12 b2 b22 b23 l3 l4:=res_eq (by kernel_rfl)
theorem am.L3_eq (t21_ b0 b02 b1 b12 b2 b22 b23 l3 l4):am.L3 t21_ b0 b02 b1 b12 b2 b22 b23 l3 l4=
 (ai.F (b1,b12,()) 1).bind fun r0=>
 bif (decide ((0:Int)≤t21_∧(t21_:Int)<32)) then
  am.L2 (IntKind.wrap .i64 (t21_+1)) b0 b02 r0.1.1 r0.1.2.1 b2 (List.set b22 (Int.toNat t21_) (IntKind.wrap .u8 r0.2.1)) b23 l3 l4
 else none:=res_eq (by kernel_rfl)
theorem am.L4_eq (t31_ b0 b02 b1 b12 b2 b22 b23 l3 l4):am.L4 t31_ b0 b02 b1 b12 b2 b22 b23 l3 l4=
 bif (decide ((t31_:Int)<16)) then
  am.L5 t31_ b0 b02 b1 b12 b2 b22 b23 l3 l4
 else
  (ai.F (b1,b12,()) 1).bind fun r0=>
  am.L6 r0.2.1 b0 b02 r0.1.1 r0.1.2.1 b2 b22 b23 l3 l4:=res_eq (by kernel_rfl)
theorem am.L5_eq (t31_ b0 b02 b1 b12 b2 b22 b23 l3 l4):am.L5 t31_ b0 b02 b1 b12 b2 b22 b23 l3 l4=
 (ai.F (b1,b12,()) 4).bind fun r0=>
 bif (decide ((0:Int)≤t31_∧(t31_:Int)<16)) then
  am.L4 (IntKind.wrap .i64 (t31_+1)) b0 b02 r0.1.1 r0.1.2.1 b2 b22 (List.set b23 (Int.toNat t31_) (IntKind.wrap .u32 r0.2.1)) l3 l4
 else none:=res_eq (by kernel_rfl)
theorem am.L6_eq (n b0 b02 b1 b12 b2 b22 b23 l3 l4):am.L6 n b0 b02 b1 b12 b2 b22 b23 l3 l4=
 bif (decide ((n:Int)>0)) then
  bif (!b12) then
   am.L7 n b0 b02 b1 b12 b2 b22 b23 l3 l4
  else
   bif b12 then
    some ((0,(List.replicate 32 (0:Int)),(List.replicate 16 (0:Int)),([]:List t7.den),()),12,())
   else
    bif (decide ((((List.length b1:Int)):Int)>0)) then
     some ((0,(List.replicate 32 (0:Int)),(List.replicate 16 (0:Int)),([]:List t7.den),()),12,())
    else
     am.L8 b0 b02 b2 b22 b23 l3 l4
 else
  bif b12 then
   some ((0,(List.replicate 32 (0:Int)),(List.replicate 16 (0:Int)),([]:List t7.den),()),12,())
  else
   bif (decide ((((List.length b1:Int)):Int)>0)) then
    some ((0,(List.replicate 32 (0:Int)),(List.replicate 16 (0:Int)),([]:List t7.den),()),12,())
   else
    am.L8 b0 b02 b2 b22 b23 l3 l4:=res_eq (by kernel_rfl)
theorem am.L7_eq (n b0 b02 b1 b12 b2 b22 b23 l3 l4):am.L7 n b0 b02 b1 b12 b2 b22 b23 l3 l4=
 (ab.F (b1,b12,())).bind fun r0=>
 bif (lim ((List.length l4)+(List.length ([r0.2.1]:List t10.den))) t10) then
  am.L6 (IntKind.wrap .u64 (n - 1)) b0 b02 r0.1.1 r0.1.2.1 b2 b22 b23 l3 (l4++([r0.2.1]:List t10.den))
 else none:=res_eq (by kernel_rfl)
theorem am.L8_eq (b0 b02 b1 b12 b13 l2 l3):am.L8 b0 b02 b1 b12 b13 l2 l3=
 (cv.F (b1,b12,b13,l3,())).bind fun r0=>
 bif (r0.2.1 !=0) then
  some ((0,(List.replicate 32 (0:Int)),(List.replicate 16 (0:Int)),([]:List t7.den),()),12,())
 else
  am.L9 b0 b02 r0.1.1 r0.1.2.1 r0.1.2.2.1 l2 r0.1.2.2.2.1:=res_eq (by kernel_rfl)
theorem am.L9_eq (b0 b02 b1 b12 b13 l2 l3):am.L9 b0 b02 b1 b12 b13 l2 l3=
 some ((b1,b12,b13,l3,()),0,()):=res_eq (by kernel_rfl)
theorem am.F_eq (b):am.F b=
 bif (decide ((((List.length b:Int)):Int)>5000)) then
  some ((0,(List.replicate 32 (0:Int)),(List.replicate 16 (0:Int)),([]:List t7.den),()),4,())
 else
  am.L1 b (List.replicate 32 (0:Int)) (List.replicate 16 (0:Int)) ([]:List t7.den):=by kernel_rfl
def au.sg:Sig:=⟨[.io t12 false,.val (.int .i64)],[((.int .u64),true)]⟩
def au.E:Env:=⟨tl,fun i=>look i [],[],eqs,globs,prims⟩
def au.c:=cxOf au.E au.sg Tryz.f25
def au.b:=body Tryz.f25
def au.Fn:Fun:=fnOf au.E au.sg Tryz.f25
def au.F (r:t12.den) (k:Int):Option (t12.den × Int × Unit):=au.Fn.F (r,k,())
def au.L1 (k:Int) (b0:List Int) (b02:Bool):Option (t12.den × Int × Unit):=res au.c (atJoin au.b [1,0,1]) ⟨[(0,(.ptr 0 [])),(1,(.v (.int .i64) k))],[(0,some (.box (.agg [(.v (.slice (.int .u8)) b0),(.v .bool b02)])))],1,[(.ptr 0 [])]⟩
def au.L2 (k n i:Int) (b0:List Int) (b02:Bool):Option (t12.den × Int × Unit):=res au.c (atLoop au.b [1,1,1,0,1,0]) ⟨[(0,(.ptr 0 [])),(1,(.v (.int .i64) k)),(5,(.v (.int .u64) n)),(6,(.v (.int .i64) i))],[(0,some (.box (.agg [(.v (.slice (.int .u8)) b0),(.v .bool b02)])))],1,[(.ptr 0 [])]⟩
def au.L3 (k n i:Int) (b0:List Int) (b02:Bool):Option (t12.den × Int × Unit):=res au.c (atJoin au.b [1,1,1,0,1,0,0,0,1]) ⟨[(0,(.ptr 0 [])),(1,(.v (.int .i64) k)),(5,(.v (.int .u64) n)),(6,(.v (.int .i64) i))],[(0,some (.box (.agg [(.v (.slice (.int .u8)) b0),(.v .bool b02)])))],1,[(.ptr 0 [])]⟩
theorem au.L1_eq (k b0 b02):au.L1 k b0 b02=
 au.L2 k 0 0 b0 b02:=res_eq (by kernel_rfl)
theorem au.L2_eq (k n i b0 b02):au.L2 k n i b0 b02=
 bif (decide ((i:Int)<k)) then
  au.L3 k n i b0 b02
 else
  bif (decide ((0:Int)≤k∧(k:Int)≤((List.length b0:Int))∧(((List.length b0:Int)):Int)≤((List.length b0:Int)))) then
   some (((List.take ((Int.toNat ((List.length b0:Int))) - (Int.toNat k)) (List.drop (Int.toNat k) b0)),b02,()),n,())
  else none:=res_eq (by kernel_rfl)
theorem au.L3_eq (k n i b0 b02):au.L3 k n i b0 b02=
 bif (decide ((0:Int)≤8)) then
  bif (decide ((0:Int)≤i∧(i:Int)<((List.length b0:Int)))) then
   au.L2 k (IntKind.wrap .u64 ((IntKind.wrap .u64 (n*2 ^ min (Int.toNat 8) (IntKind.bits .u64)))+(IntKind.wrap .u64 (List.getD b0 (Int.toNat i) 0)))) (IntKind.wrap .i64 (i+1)) b0 b02
  else none
 else none:=res_eq (by kernel_rfl)
theorem au.F_eq (r k):au.F r k=
 bif (decide ((((List.length r.1:Int)):Int)<k)) then
  some ((r.1,true,()),0,())
 else
  au.L1 k r.1 r.2.1:=by kernel_rfl
def cf.sg:Sig:=⟨[.val t0],[((.int .i64),true)]⟩
def cf.E:Env:=⟨tl,fun i=>look i [],[],eqs,globs,prims⟩
def cf.c:=cxOf cf.E cf.sg Tryz.f76
def cf.b:=body Tryz.f76
def cf.Fn:Fun:=fnOf cf.E cf.sg Tryz.f76
def cf.F (l:t0.den):Option (Int × Unit):=cf.Fn.F (l,())
def cf.L1:Option (Int × Unit):=res cf.c (atJoin cf.b [1,0,1]) ⟨[],[],0,[]⟩
theorem cf.spec:FnSpec Tryz.prog globs 76 cf.Fn:=spec_of (E:=cf.E) (envOk_at tabOk eqOk primsOk (.nil)) mixOk Tryz.func76 (by kernel_rfl)
theorem cf.L1_eq:cf.L1=
 some (0,()):=res_eq (by kernel_rfl)
theorem cf.F_eq (l):cf.F l=
 bif (decide ((l.1:Int)<1)) then
  some (8,())
 else
  bif (decide ((l.1:Int)>1000000000)) then
   some (8,())
  else
   bif (decide ((l.2.1:Int)<0)) then
    some (8,())
   else
    bif (decide ((l.2.1:Int)>1000000000)) then
     some (8,())
    else
     bif (decide ((l.2.2.1:Int)<1)) then
      some (8,())
     else
      bif (decide ((l.2.2.1:Int)>1000000000)) then
       some (8,())
      else
       cf.L1:=by kernel_rfl
def da.sg:Sig:=⟨[.val t1],[((.int .i64),true)]⟩
def da.E:Env:=⟨tl,fun i=>look i [(76,cf.Fn)],[],eqs,globs,prims⟩
def da.c:=cxOf da.E da.sg Tryz.f77
def da.b:=body Tryz.f77
def da.Fn:Fun:=fnOf da.E da.sg Tryz.f77
def da.F (b:t1.den):Option (Int × Unit):=da.Fn.F (b,())
def da.L1:Option (Int × Unit):=res da.c (atJoin da.b [1,0,1]) ⟨[],[],0,[]⟩
theorem da.spec:FnSpec Tryz.prog globs 77 da.Fn:=spec_of (E:=da.E) (envOk_at tabOk eqOk primsOk (.cons cf.spec<|.nil)) mixOk Tryz.func77 (by kernel_rfl)
theorem da.L1_eq:da.L1=
 some (0,()):=res_eq (by kernel_rfl)
theorem da.F_eq (b):da.F b=
 (cf.F b.1).bind fun r0=>
 bif (r0.1 !=0) then
  some (8,())
 else
  bif (decide ((b.2.1:Int)<0)) then
   some (8,())
  else
   bif (decide ((b.2.1:Int)>b.1.1)) then
    some (8,())
   else
    bif (decide ((b.2.2.1:Int)<0)) then
     some (8,())
    else
     bif (decide ((b.2.2.1:Int)≥b.1.2.2.1)) then
      some (8,())
     else
      bif (b.2.1==b.1.1) then
       bif (b.2.2.1 !=0) then
        some (8,())
       else
        da.L1
      else
       da.L1:=by kernel_rfl
def bz.sg:Sig:=⟨[.val (.int .i64)],[(t2,true),((.int .i64),true)]⟩
def bz.E:Env:=⟨tl,fun i=>look i [],[],eqs,globs,prims⟩
def bz.c:=cxOf bz.E bz.sg Tryz.f89
def bz.b:=body Tryz.f89
def bz.Fn:Fun:=fnOf bz.E bz.sg Tryz.f89
def bz.F (n:Int):Option (t2.den × Int × Unit):=bz.Fn.F (n,())
def bz.L1 (n:Int) (l1:List Int) (l2:List Bool):Option (t2.den × Int × Unit):=res bz.c (atJoin bz.b [1,0,1]) ⟨[(0,(.v (.int .i64) n)),(2,(.ptr 0 []))],[(0,some (.box (.agg [(.sl 1),(.sl 2),(.v (.int .i64) 0)]))),(1,some (.row (.int .i64) l1 false)),(2,some (.row .bool l2 false))],3,[]⟩
def bz.L2 (n i:Int) (l2:List Int) (l3:List Bool) (l4:List Int) (l5:List Bool):Option (t2.den × Int × Unit):=res bz.c (atLoop bz.b [1,1,1,0,1,0]) ⟨[(0,(.v (.int .i64) n)),(2,(.ptr 0 [])),(4,(.ptr 1 [])),(5,(.v (.int .i64) i))],[(0,some (.box (.agg [(.sl 2),(.sl 3),(.v (.int .i64) 0)]))),(1,some (.box (.agg [(.sl 4),(.sl 5),(.v (.int .i64) 0)]))),(2,some (.row (.int .i64) l2 false)),(3,some (.row .bool l3 false)),(4,some (.row (.int .i64) l4 false)),(5,some (.row .bool l5 false))],6,[]⟩
def bz.L3 (n i:Int) (l2:List Int) (l3:List Bool) (l4:List Int) (l5:List Bool):Option (t2.den × Int × Unit):=res bz.c (atJoin bz.b [1,1,1,0,1,0,0,0,1]) ⟨[(0,(.v (.int .i64) n)),(2,(.ptr 0 [])),(4,(.ptr 1 [])),(5,(.v (.int .i64) i))],[(0,some (.box (.agg [(.sl 2),(.sl 3),(.v (.int .i64) 0)]))),(1,some (.box (.agg [(.sl 4),(.sl 5),(.v (.int .i64) 0)]))),(2,some (.row (.int .i64) l2 false)),(3,some (.row .bool l3 false)),(4,some (.row (.int .i64) l4 false)),(5,some (.row .bool l5 false))],6,[]⟩
def bz.L4 (n i:Int) (l2:List Int) (l3:List Bool) (l4:List Int) (l5:List Bool):Option (t2.den × Int × Unit):=res bz.c (atJoin bz.b [1,1,1,0,1,0,0,1,0,0,0,1]) ⟨[(0,(.v (.int .i64) n)),(2,(.ptr 0 [])),(4,(.ptr 1 [])),(5,(.v (.int .i64) i))],[(0,some (.box (.agg [(.sl 2),(.sl 3),(.v (.int .i64) 0)]))),(1,some (.box (.agg [(.sl 4),(.sl 5),(.v (.int .i64) 0)]))),(2,some (.row (.int .i64) l2 false)),(3,some (.row .bool l3 false)),(4,some (.row (.int .i64) l4 false)),(5,some (.row .bool l5 false))],6,[]⟩
theorem bz.spec:FnSpec Tryz.prog globs 89 bz.Fn:=spec_of (E:=bz.E) (envOk_at tabOk eqOk primsOk (.nil)) mixOk Tryz.func89 (by kernel_rfl)
theorem bz.L1_eq (n l1 l2):bz.L1 n l1 l2=
 bz.L2 n 0 l1 l2 ([]:List Int) ([]:List Bool):=res_eq (by kernel_rfl)
theorem bz.L2_eq (n i l2 l3 l4 l5):bz.L2 n i l2 l3 l4 l5=
 bif (decide ((i:Int)<n)) then
  bz.L3 n i l2 l3 l4 l5
 else
  some ((l4,l5,0,()),0,()):=res_eq (by kernel_rfl)
theorem bz.L3_eq (n i l2 l3 l4 l5):bz.L3 n i l2 l3 l4 l5=
 bif (decide (((IntKind.wrap .i64 (i+1)):Int)<n)) then
  bif (lim ((List.length l4)+(List.length ([(IntKind.wrap .i64 (i+1))]:List Int))) (.int .i64)) then
   bz.L4 n i l2 l3 (l4++([(IntKind.wrap .i64 (i+1))]:List Int)) l5
  else none
 else
  bif (lim ((List.length l4)+(List.length ([(-1)]:List Int))) (.int .i64)) then
   bz.L4 n i l2 l3 (l4++([(-1)]:List Int)) l5
  else none:=res_eq (by kernel_rfl)
theorem bz.L4_eq (n i l2 l3 l4 l5):bz.L4 n i l2 l3 l4 l5=
 bif (lim ((List.length l5)+(List.length ([false]:List Bool))) .bool) then
  bz.L2 n (IntKind.wrap .i64 (i+1)) l2 l3 l4 (l5++([false]:List Bool))
 else none:=res_eq (by kernel_rfl)
theorem bz.F_eq (n):bz.F n=
 bif (decide ((n:Int)<1)) then
  some ((([]:List Int),([]:List Bool),0,()),2,())
 else
  bif (decide ((n:Int)>16)) then
   some ((([]:List Int),([]:List Bool),0,()),2,())
  else
   bz.L1 n ([]:List Int) ([]:List Bool):=by kernel_rfl
def aq.sg:Sig:=⟨[.val (.int .i64),.val (.slice (.int .i64))],[(t4,true)]⟩
def aq.E:Env:=⟨tl,fun i=>look i [],[],eqs,globs,prims⟩
def aq.c:=cxOf aq.E aq.sg Tryz.f132
def aq.b:=body Tryz.f132
def aq.Fn:Fun:=fnOf aq.E aq.sg Tryz.f132
def aq.F (n:Int) (l:List Int):Option (t4.den × Unit):=aq.Fn.F (n,l,())
def aq.L1 (n:Int) (l:List Int) (i:Int) (l2 l4:List Int):Option (t4.den × Unit):=res aq.c (atLoop aq.b [1,1,0,1,0]) ⟨[(0,(.v (.int .i64) n)),(1,(.v (.slice (.int .i64)) l)),(4,(.ptr 0 [])),(5,(.ptr 1 [])),(6,(.v (.int .i64) i))],[(0,some (.box (.agg [(.sl 2),(.sl 3),(.v (.int .i64) 0),(.v (.int .i64) 0)]))),(1,some (.box (.agg [(.sl 4),(.sl 5),(.v (.int .i64) (-1)),(.v (.int .i64) (-1))]))),(2,some (.row (.int .i64) l2 false)),(3,some (.row (.int .i64) l2 false)),(4,some (.row (.int .i64) l4 false)),(5,some (.row (.int .i64) l4 false))],6,[]⟩
def aq.L2 (n:Int) (l:List Int) (i:Int) (l2 l4:List Int):Option (t4.den × Unit):=res aq.c (atJoin aq.b [1,1,0,1,0,0,0,1]) ⟨[(0,(.v (.int .i64) n)),(1,(.v (.slice (.int .i64)) l)),(4,(.ptr 0 [])),(5,(.ptr 1 [])),(6,(.v (.int .i64) i))],[(0,some (.box (.agg [(.sl 2),(.sl 3),(.v (.int .i64) 0),(.v (.int .i64) 0)]))),(1,some (.box (.agg [(.sl 4),(.sl 5),(.v (.int .i64) (-1)),(.v (.int .i64) (-1))]))),(2,some (.row (.int .i64) l2 false)),(3,some (.row (.int .i64) l2 false)),(4,some (.row (.int .i64) l4 false)),(5,some (.row (.int .i64) l4 false))],6,[]⟩
def aq.L3 (l:List Int) (i b1 b12:Int) (l2 l4 l5:List Int):Option (t4.den × Unit):=res aq.c (atLoop aq.b [1,1,1,0,1,0]) ⟨[(1,(.v (.slice (.int .i64)) l)),(4,(.ptr 0 [])),(5,(.ptr 1 [])),(7,(.v (.int .i64) i))],[(0,some (.box (.agg [(.sl 2),(.sl 3),(.v (.int .i64) 0),(.v (.int .i64) 0)]))),(1,some (.box (.agg [(.sl 4),(.sl 5),(.v (.int .i64) b1),(.v (.int .i64) b12)]))),(2,some (.row (.int .i64) l2 false)),(3,some (.row (.int .i64) l2 false)),(4,some (.row (.int .i64) l4 false)),(5,some (.row (.int .i64) l5 false))],6,[]⟩
def aq.L4 (l:List Int) (i b1 b12:Int) (l2 l4 l5:List Int):Option (t4.den × Unit):=res aq.c (atJoin aq.b [1,1,1,0,1,0,0,0,1]) ⟨[(1,(.v (.slice (.int .i64)) l)),(4,(.ptr 0 [])),(5,(.ptr 1 [])),(7,(.v (.int .i64) i))],[(0,some (.box (.agg [(.sl 2),(.sl 3),(.v (.int .i64) 0),(.v (.int .i64) 0)]))),(1,some (.box (.agg [(.sl 4),(.sl 5),(.v (.int .i64) b1),(.v (.int .i64) b12)]))),(2,some (.row (.int .i64) l2 false)),(3,some (.row (.int .i64) l2 false)),(4,some (.row (.int .i64) l4 false)),(5,some (.row (.int .i64) l5 false))],6,[]⟩
def aq.L5 (l:List Int) (i b1 b12:Int) (l2 l4 l5:List Int):Option (t4.den × Unit):=res aq.c (atJoin aq.b [1,1,1,0,1,0,0,1,0,0,0,1]) ⟨[(1,(.v (.slice (.int .i64)) l)),(4,(.ptr 0 [])),(5,(.ptr 1 [])),(7,(.v (.int .i64) i))],[(0,some (.box (.agg [(.sl 2),(.sl 3),(.v (.int .i64) 0),(.v (.int .i64) 0)]))),(1,some (.box (.agg [(.sl 4),(.sl 5),(.v (.int .i64) b1),(.v (.int .i64) b12)]))),(2,some (.row (.int .i64) l2 false)),(3,some (.row (.int .i64) l2 false)),(4,some (.row (.int .i64) l4 false)),(5,some (.row (.int .i64) l5 false))],6,[]⟩
theorem aq.spec:FnSpec Tryz.prog globs 132 aq.Fn:=spec_of (E:=aq.E) (envOk_at tabOk eqOk primsOk (.nil)) mixOk Tryz.func132 (by kernel_rfl)
theorem aq.L1_eq (n l i l2 l4):aq.L1 n l i l2 l4=
 bif (decide ((i:Int)<n)) then
  aq.L2 n l i l2 l4
 else
  aq.L3 l 0 (-1) (-1) l2 l4 l4:=res_eq (by kernel_rfl)
theorem aq.L2_eq (n l i l2 l4):aq.L2 n l i l2 l4=
 bif (lim ((List.length l4)+(List.length ([(-1)]:List Int))) (.int .i64)) then
  bif (lim ((List.length l4)+(List.length ([(-1)]:List Int))) (.int .i64)) then
   aq.L1 n l (IntKind.wrap .i64 (i+1)) l2 (l4++([(-1)]:List Int))
  else none
 else none:=res_eq (by kernel_rfl)
theorem aq.L3_eq (l i b1 b12 l2 l4 l5):aq.L3 l i b1 b12 l2 l4 l5=
 bif (decide ((i:Int)<((List.length l:Int)))) then
  aq.L4 l i b1 b12 l2 l4 l5
 else
  some ((l4,l5,b1,b12,()),()):=res_eq (by kernel_rfl)
theorem aq.L4_eq (l i b1 b12 l2 l4 l5):aq.L4 l i b1 b12 l2 l4 l5=
 bif (i==0) then
  bif (decide ((0:Int)≤i∧(i:Int)<((List.length l:Int)))) then
   aq.L5 l i (List.getD l (Int.toNat i) 0) b12 l2 l4 l5
  else none
 else
  bif (decide ((0:Int)≤i∧(i:Int)<((List.length l:Int)))) then
   bif (decide ((0:Int)≤(IntKind.wrap .i64 (i - 1))∧((IntKind.wrap .i64 (i - 1)):Int)<((List.length l:Int)))) then
    bif (decide ((0:Int)≤(List.getD l (Int.toNat i) 0)∧((List.getD l (Int.toNat i) 0):Int)<((List.length l4:Int)))) then
     bif (decide ((0:Int)≤(IntKind.wrap .i64 (i - 1))∧((IntKind.wrap .i64 (i - 1)):Int)<((List.length l:Int)))) then
      bif (decide ((0:Int)≤i∧(i:Int)<((List.length l:Int)))) then
       bif (decide ((0:Int)≤(List.getD l (Int.toNat (IntKind.wrap .i64 (i - 1))) 0)∧((List.getD l (Int.toNat (IntKind.wrap .i64 (i - 1))) 0):Int)<((List.length l5:Int)))) then
        aq.L5 l i b1 b12 l2 (List.set l4 (Int.toNat (List.getD l (Int.toNat i) 0)) (List.getD l (Int.toNat (IntKind.wrap .i64 (i - 1))) 0)) (List.set l5 (Int.toNat (List.getD l (Int.toNat (IntKind.wrap .i64 (i - 1))) 0)) (List.getD l (Int.toNat i) 0))
       else none
      else none
     else none
    else none
   else none
  else none:=res_eq (by kernel_rfl)
theorem aq.L5_eq (l i b1 b12 l2 l4 l5):aq.L5 l i b1 b12 l2 l4 l5=
 bif (decide ((0:Int)≤i∧(i:Int)<((List.length l:Int)))) then
  aq.L3 l (IntKind.wrap .i64 (i+1)) b1 (List.getD l (Int.toNat i) 0) l2 l4 l5
 else none:=res_eq (by kernel_rfl)
theorem aq.F_eq (n l):aq.F n l=
 aq.L1 n l 0 ([]:List Int) ([]:List Int):=by kernel_rfl
def dy.sg:Sig:=⟨[.val (.int .i64)],[(t4,true),((.int .i64),true)]⟩
def dy.E:Env:=⟨tl,fun i=>look i [(132,aq.Fn)],[],eqs,globs,prims⟩
def dy.c:=cxOf dy.E dy.sg Tryz.f90
def dy.b:=body Tryz.f90
def dy.Fn:Fun:=fnOf dy.E dy.sg Tryz.f90
def dy.F (n:Int):Option (t4.den × Int × Unit):=dy.Fn.F (n,())
def dy.L1 (n:Int) (l1:List Int):Option (t4.den × Int × Unit):=res dy.c (atJoin dy.b [1,0,1]) ⟨[(0,(.v (.int .i64) n)),(2,(.ptr 0 []))],[(0,some (.box (.agg [(.sl 1),(.sl 2),(.v (.int .i64) 0),(.v (.int .i64) 0)]))),(1,some (.row (.int .i64) l1 false)),(2,some (.row (.int .i64) l1 false))],3,[]⟩
theorem dy.spec:FnSpec Tryz.prog globs 90 dy.Fn:=spec_of (E:=dy.E) (envOk_at tabOk eqOk primsOk (.cons aq.spec<|.nil)) mixOk Tryz.func90 (by kernel_rfl)
theorem dy.L1_eq (n l1):dy.L1 n l1=
 (aq.F n ([]:List Int)).bind fun r0=>
 some (r0.1,0,()):=res_eq (by kernel_rfl)
theorem dy.F_eq (n):dy.F n=
 bif (decide ((n:Int)<1)) then
  some ((([]:List Int),([]:List Int),0,0,()),2,())
 else
  bif (decide ((n:Int)>16)) then
   some ((([]:List Int),([]:List Int),0,0,()),2,())
  else
   dy.L1 n ([]:List Int):=by kernel_rfl
def dt.sg:Sig:=⟨[.val (.int .i64)],[(t5,true),((.int .i64),true)]⟩
def dt.E:Env:=⟨tl,fun i=>look i [(89,bz.Fn),(90,dy.Fn)],[],eqs,globs,prims⟩
def dt.c:=cxOf dt.E dt.sg Tryz.f59
def dt.b:=body Tryz.f59
def dt.Fn:Fun:=fnOf dt.E dt.sg Tryz.f59
def dt.F (n:Int):Option (t5.den × Int × Unit):=dt.Fn.F (n,())
def dt.L1 (n:Int) (l1:List Int) (l2:List t1.den) (l3:List Int) (l4:List Bool) (l5:List t3.den):Option (t5.den × Int × Unit):=res dt.c (atJoin dt.b [1,0,1]) ⟨[(0,(.v (.int .i64) n)),(2,(.ptr 0 []))],[(0,some (.box (.agg [(.v (.int .i64) 0),(.sl 1),(.sl 2),(.agg [(.sl 3),(.sl 4),(.v (.int .i64) 0)]),(.sl 5),(.agg [(.sl 6),(.sl 7),(.v (.int .i64) 0),(.v (.int .i64) 0)])]))),(1,some (.row (.int .u32) l1 false)),(2,some (.row t1 l2 false)),(3,some (.row (.int .i64) l3 false)),(4,some (.row .bool l4 false)),(5,some (.row t3 l5 false)),(6,some (.row (.int .i64) l3 false)),(7,some (.row (.int .i64) l3 false))],8,[]⟩
theorem dt.spec:FnSpec Tryz.prog globs 59 dt.Fn:=spec_of (E:=dt.E) (envOk_at tabOk eqOk primsOk (.cons bz.spec<|.cons dy.spec<|.nil)) mixOk Tryz.func59 (by kernel_rfl)
theorem dt.L1_eq (n l1 l2 l3 l4 l5):dt.L1 n l1 l2 l3 l4 l5=
 bif (decide ((0:Int)≤n∧(n:Int)≤n) && (lim (Int.toNat n) (.int .u32))) then
  bif (decide ((0:Int)≤n∧(n:Int)≤n) && (lim (Int.toNat n) t1)) then
   bif (decide ((0:Int)≤16∧(16:Int)≤16) && (lim (Int.toNat 16) t3)) then
    (bz.F n).bind fun r0=>
    (dy.F n).bind fun r1=>
    some ((n,(List.replicate (Int.toNat n) (0:Int)),(List.replicate (Int.toNat n) ((0,0,0,()),0,0,0,())),r0.1,(List.replicate (Int.toNat 16) (0,0,false,())),r1.1,()),0,())
   else none
  else none
 else none:=res_eq (by kernel_rfl)
theorem dt.F_eq (n):dt.F n=
 bif (decide ((n:Int)<1)) then
  some ((0,([]:List Int),([]:List t1.den),(([]:List Int),([]:List Bool),0,()),([]:List t3.den),(([]:List Int),([]:List Int),0,0,()),()),2,())
 else
  bif (decide ((n:Int)>8)) then
   some ((0,([]:List Int),([]:List t1.den),(([]:List Int),([]:List Bool),0,()),([]:List t3.den),(([]:List Int),([]:List Int),0,0,()),()),2,())
  else
   dt.L1 n ([]:List Int) ([]:List t1.den) ([]:List Int) ([]:List Bool) ([]:List t3.den):=by kernel_rfl
def dm.sg:Sig:=⟨[.val t0,.val (.int .u64)],[(t1,true),((.int .i64),true)]⟩
def dm.E:Env:=⟨tl,fun i=>look i [(76,cf.Fn)],[],eqs,globs,prims⟩
def dm.c:=cxOf dm.E dm.sg Tryz.f61
def dm.b:=body Tryz.f61
def dm.Fn:Fun:=fnOf dm.E dm.sg Tryz.f61
def dm.F (l:t0.den) (at_:Int):Option (t1.den × Int × Unit):=dm.Fn.F (l,at_,())
def dm.L1 (at_ b0:Int) (b02 b03:Int):Option (t1.den × Int × Unit):=res dm.c (atJoin dm.b [1,0,1]) ⟨[(1,(.v (.int .u64) at_)),(2,(.ptr 0 [])),(4,(.ptr 1 []))],[(0,some (.box (.agg [(.v (.int .i64) b0),(.v (.int .i64) b02),(.v (.int .i64) b03)]))),(1,some (.box (.agg [(.agg [(.v (.int .i64) 0),(.v (.int .i64) 0),(.v (.int .i64) 0)]),(.v (.int .i64) 0),(.v (.int .i64) 0),(.v (.int .u64) 0)])))],2,[]⟩
theorem dm.spec:FnSpec Tryz.prog globs 61 dm.Fn:=spec_of (E:=dm.E) (envOk_at tabOk eqOk primsOk (.cons cf.spec<|.nil)) mixOk Tryz.func61 (by kernel_rfl)
theorem dm.L1_eq (at_ b0 b02 b03):dm.L1 at_ b0 b02 b03=
 some (((b0,b02,b03,()),b0,0,at_,()),0,()):=res_eq (by kernel_rfl)
theorem dm.F_eq (l at_):dm.F l at_=
 (cf.F l).bind fun r0=>
 bif (r0.1 !=0) then
  (cf.F l).bind fun r1=>
  some (((0,0,0,()),0,0,0,()),r1.1,())
 else
  dm.L1 at_ l.1 l.2.1 l.2.2.1:=by kernel_rfl
def ch.sg:Sig:=⟨[.val (.slice (.int .i64)),.val (.int .i64)],[(.bool,true)]⟩
def ch.E:Env:=⟨tl,fun i=>look i [],[],eqs,globs,prims⟩
def ch.c:=cxOf ch.E ch.sg Tryz.f127
def ch.b:=body Tryz.f127
def ch.Fn:Fun:=fnOf ch.E ch.sg Tryz.f127
def ch.F (l:List Int) (n:Int):Option (Bool × Unit):=ch.Fn.F (l,n,())
def ch.L1 (l:List Int) (n i:Int):Option (Bool × Unit):=res ch.c (atLoop ch.b [1,0,1,0]) ⟨[(0,(.v (.slice (.int .i64)) l)),(1,(.v (.int .i64) n)),(5,(.v (.int .i64) i))],[],0,[]⟩
def ch.L2 (l:List Int) (n i:Int):Option (Bool × Unit):=res ch.c (atJoin ch.b [1,0,1,0,0,0,1]) ⟨[(0,(.v (.slice (.int .i64)) l)),(1,(.v (.int .i64) n)),(5,(.v (.int .i64) i))],[],0,[]⟩
def ch.L3 (l:List Int) (n i:Int):Option (Bool × Unit):=res ch.c (atJoin ch.b [1,0,1,0,0,1,0,0,1]) ⟨[(0,(.v (.slice (.int .i64)) l)),(1,(.v (.int .i64) n)),(5,(.v (.int .i64) i))],[],0,[]⟩
theorem ch.spec:FnSpec Tryz.prog globs 127 ch.Fn:=spec_of (E:=ch.E) (envOk_at tabOk eqOk primsOk (.nil)) mixOk Tryz.func127 (by kernel_rfl)
theorem ch.L1_eq (l n i):ch.L1 l n i=
 bif (decide ((i:Int)<((List.length l:Int)))) then
  ch.L2 l n i
 else
  some (false,()):=res_eq (by kernel_rfl)
theorem ch.L2_eq (l n i):ch.L2 l n i=
 bif (decide ((0:Int)≤i∧(i:Int)<((List.length l:Int)))) then
  bif ((List.getD l (Int.toNat i) 0)==n) then
   some (true,())
  else
   ch.L3 l n i
 else none:=res_eq (by kernel_rfl)
theorem ch.L3_eq (l n i):ch.L3 l n i=
 ch.L1 l n (IntKind.wrap .i64 (i+1)):=res_eq (by kernel_rfl)
theorem ch.F_eq (l n):ch.F l n=
 ch.L1 l n 0:=by kernel_rfl
def ci.sg:Sig:=⟨[.val t2],[((.slice (.int .i64)),true),(.bool,true)]⟩
def ci.E:Env:=⟨tl,fun i=>look i [(127,ch.Fn)],[],eqs,globs,prims⟩
def ci.c:=cxOf ci.E ci.sg Tryz.f165
def ci.b:=body Tryz.f165
def ci.Fn:Fun:=fnOf ci.E ci.sg Tryz.f165
def ci.F (a:t2.den):Option ((List Int) × Bool × Unit):=ci.Fn.F (a,())
def ci.L1 (i:Int) (b0:List Int) (b02:List Bool) (b03:Int) (l1:List Int):Option ((List Int) × Bool × Unit):=res ci.c (atLoop ci.b [1,1,0,1,0]) ⟨[(1,(.ptr 0 [])),(4,(.sl 1)),(5,(.v (.int .i64) i))],[(0,some (.box (.agg [(.v (.slice (.int .i64)) b0),(.v (.slice .bool) b02),(.v (.int .i64) b03)]))),(1,some (.row (.int .i64) l1 false))],2,[]⟩
def ci.L2 (i:Int) (b0:List Int) (b02:List Bool) (b03:Int) (l1:List Int):Option ((List Int) × Bool × Unit):=res ci.c (atJoin ci.b [1,1,0,1,0,0,0,1]) ⟨[(1,(.ptr 0 [])),(4,(.sl 1)),(5,(.v (.int .i64) i))],[(0,some (.box (.agg [(.v (.slice (.int .i64)) b0),(.v (.slice .bool) b02),(.v (.int .i64) b03)]))),(1,some (.row (.int .i64) l1 false))],2,[]⟩
def ci.L3 (i:Int) (b0:List Int) (b02:List Bool) (b03:Int) (l1:List Int):Option ((List Int) × Bool × Unit):=res ci.c (atJoin ci.b [1,1,0,1,0,0,1,0,0,0,1]) ⟨[(1,(.ptr 0 [])),(4,(.sl 1)),(5,(.v (.int .i64) i))],[(0,some (.box (.agg [(.v (.slice (.int .i64)) b0),(.v (.slice .bool) b02),(.v (.int .i64) b03)]))),(1,some (.row (.int .i64) l1 false))],2,[]⟩
theorem ci.spec:FnSpec Tryz.prog globs 165 ci.Fn:=spec_of (E:=ci.E) (envOk_at tabOk eqOk primsOk (.cons ch.spec<|.nil)) mixOk Tryz.func165 (by kernel_rfl)
theorem ci.L1_eq (i b0 b02 b03 l1):ci.L1 i b0 b02 b03 l1=
 bif (i !=(-1)) then
  ci.L2 i b0 b02 b03 l1
 else
  some (l1,true,()):=res_eq (by kernel_rfl)
theorem ci.L2_eq (i b0 b02 b03 l1):ci.L2 i b0 b02 b03 l1=
 bif (decide ((i:Int)<0)) then
  some (([]:List Int),false,())
 else
  bif (decide ((i:Int)≥((List.length b0:Int)))) then
   some (([]:List Int),false,())
  else
   (ch.F l1 i).bind fun r0=>
   bif r0.1 then
    some (([]:List Int),false,())
   else
    ci.L3 i b0 b02 b03 l1:=res_eq (by kernel_rfl)
theorem ci.L3_eq (i b0 b02 b03 l1):ci.L3 i b0 b02 b03 l1=
 bif (lim ((List.length l1)+(List.length ([i]:List Int))) (.int .i64)) then
  bif (decide ((0:Int)≤i∧(i:Int)<((List.length b0:Int)))) then
   ci.L1 (List.getD b0 (Int.toNat i) 0) b0 b02 b03 (l1++([i]:List Int))
  else none
 else none:=res_eq (by kernel_rfl)
theorem ci.F_eq (a):ci.F a=
 ci.L1 a.2.2.1 a.1 a.2.1 a.2.2.1 ([]:List Int):=by kernel_rfl
def ay.sg:Sig:=⟨[.val t2],[((.int .i64),true)]⟩
def ay.E:Env:=⟨tl,fun i=>look i [(127,ch.Fn),(165,ci.Fn)],[],eqs,globs,prims⟩
def ay.c:=cxOf ay.E ay.sg Tryz.f121
def ay.b:=body Tryz.f121
def ay.Fn:Fun:=fnOf ay.E ay.sg Tryz.f121
def ay.F (a:t2.den):Option (Int × Unit):=ay.Fn.F (a,())
def ay.L1 (b0:List Int) (b02:List Bool) (b03:Int):Option (Int × Unit):=res ay.c (atJoin ay.b [1,0,1]) ⟨[(1,(.ptr 0 []))],[(0,some (.box (.agg [(.v (.slice (.int .i64)) b0),(.v (.slice .bool) b02),(.v (.int .i64) b03)])))],1,[]⟩
def ay.L2 (b0:List Int) (b02:List Bool) (b03:Int) (l1:List Int):Option (Int × Unit):=res ay.c (atJoin ay.b [1,1,1,0,1]) ⟨[(1,(.ptr 0 [])),(3,(.sl 1))],[(0,some (.box (.agg [(.v (.slice (.int .i64)) b0),(.v (.slice .bool) b02),(.v (.int .i64) b03)]))),(1,some (.row (.int .i64) l1 false))],2,[]⟩
def ay.L3 (i:Int) (b0:List Int) (b02:List Bool) (b03:Int) (l1:List Int):Option (Int × Unit):=res ay.c (atLoop ay.b [1,1,1,1,0,1,0]) ⟨[(1,(.ptr 0 [])),(3,(.sl 1)),(5,(.v (.int .i64) i))],[(0,some (.box (.agg [(.v (.slice (.int .i64)) b0),(.v (.slice .bool) b02),(.v (.int .i64) b03)]))),(1,some (.row (.int .i64) l1 false))],2,[]⟩
def ay.L4 (i:Int) (b0:List Int) (b02:List Bool) (b03:Int) (l1:List Int):Option (Int × Unit):=res ay.c (atJoin ay.b [1,1,1,1,0,1,0,0,0,1]) ⟨[(1,(.ptr 0 [])),(3,(.sl 1)),(5,(.v (.int .i64) i))],[(0,some (.box (.agg [(.v (.slice (.int .i64)) b0),(.v (.slice .bool) b02),(.v (.int .i64) b03)]))),(1,some (.row (.int .i64) l1 false))],2,[]⟩
def ay.L5 (i:Int) (b0:List Int) (b02:List Bool) (b03:Int) (l1:List Int):Option (Int × Unit):=res ay.c (atJoin ay.b [1,1,1,1,0,1,0,0,1,0,0,1]) ⟨[(1,(.ptr 0 [])),(3,(.sl 1)),(5,(.v (.int .i64) i))],[(0,some (.box (.agg [(.v (.slice (.int .i64)) b0),(.v (.slice .bool) b02),(.v (.int .i64) b03)]))),(1,some (.row (.int .i64) l1 false))],2,[]⟩
theorem ay.spec:FnSpec Tryz.prog globs 121 ay.Fn:=spec_of (E:=ay.E) (envOk_at tabOk eqOk primsOk (.cons ch.spec<|.cons ci.spec<|.nil)) mixOk Tryz.func121 (by kernel_rfl)
theorem ay.L1_eq (b0 b02 b03):ay.L1 b0 b02 b03=
 (ci.F (b0,b02,b03,())).bind fun r0=>
 bif (!r0.2.1) then
  some (8,())
 else
  ay.L2 b0 b02 b03 r0.1:=res_eq (by kernel_rfl)
theorem ay.L2_eq (b0 b02 b03 l1):ay.L2 b0 b02 b03 l1=
 ay.L3 0 b0 b02 b03 l1:=res_eq (by kernel_rfl)
theorem ay.L3_eq (i b0 b02 b03 l1):ay.L3 i b0 b02 b03 l1=
 bif (decide ((i:Int)<((List.length b02:Int)))) then
  ay.L4 i b0 b02 b03 l1
 else
  some (0,()):=res_eq (by kernel_rfl)
theorem ay.L4_eq (i b0 b02 b03 l1):ay.L4 i b0 b02 b03 l1=
 bif (decide ((0:Int)≤i∧(i:Int)<((List.length b02:Int)))) then
  (ch.F l1 i).bind fun r0=>
  bif ((List.getD b02 (Int.toNat i) false)==r0.1) then
   some (8,())
  else
   bif (decide ((0:Int)≤i∧(i:Int)<((List.length b02:Int)))) then
    bif (List.getD b02 (Int.toNat i) false) then
     bif (decide ((0:Int)≤i∧(i:Int)<((List.length b0:Int)))) then
      bif ((List.getD b0 (Int.toNat i) 0) !=(-1)) then
       some (8,())
      else
       ay.L5 i b0 b02 b03 l1
     else none
    else
     ay.L5 i b0 b02 b03 l1
   else none
 else none:=res_eq (by kernel_rfl)
theorem ay.L5_eq (i b0 b02 b03 l1):ay.L5 i b0 b02 b03 l1=
 ay.L3 (IntKind.wrap .i64 (i+1)) b0 b02 b03 l1:=res_eq (by kernel_rfl)
theorem ay.F_eq (a):ay.F a=
 bif (decide ((((List.length a.1:Int)):Int)<1)) then
  some (8,())
 else
  bif (decide ((((List.length a.1:Int)):Int)>16)) then
   some (8,())
  else
   bif (((List.length a.2.1:Int)) !=((List.length a.1:Int))) then
    some (8,())
   else
    ay.L1 a.1 a.2.1 a.2.2.1:=by kernel_rfl
def bn.sg:Sig:=⟨[.val (.slice t3)],[((.int .i64),true)]⟩
def bn.E:Env:=⟨tl,fun i=>look i [],[],eqs,globs,prims⟩
def bn.c:=cxOf bn.E bn.sg Tryz.f125
def bn.b:=body Tryz.f125
def bn.Fn:Fun:=fnOf bn.E bn.sg Tryz.f125
def bn.F (x:List t3.den):Option (Int × Unit):=bn.Fn.F (x,())
def bn.L1 (x:List t3.den) (n i:Int):Option (Int × Unit):=res bn.c (atLoop bn.b [1,1,0,1,0]) ⟨[(0,(.v (.slice t3) x)),(3,(.v (.int .i64) n)),(4,(.v (.int .i64) i))],[],0,[]⟩
def bn.L2 (x:List t3.den) (n i:Int):Option (Int × Unit):=res bn.c (atJoin bn.b [1,1,0,1,0,0,0,1]) ⟨[(0,(.v (.slice t3) x)),(3,(.v (.int .i64) n)),(4,(.v (.int .i64) i))],[],0,[]⟩
def bn.L3 (x:List t3.den) (n i:Int):Option (Int × Unit):=res bn.c (atJoin bn.b [1,1,0,1,0,0,1,0,0,1]) ⟨[(0,(.v (.slice t3) x)),(3,(.v (.int .i64) n)),(4,(.v (.int .i64) i))],[],0,[]⟩
theorem bn.spec:FnSpec Tryz.prog globs 125 bn.Fn:=spec_of (E:=bn.E) (envOk_at tabOk eqOk primsOk (.nil)) mixOk Tryz.func125 (by kernel_rfl)
theorem bn.L1_eq (x n i):bn.L1 x n i=
 bif (decide ((i:Int)<((List.length x:Int)))) then
  bn.L2 x n i
 else
  some (n,()):=res_eq (by kernel_rfl)
theorem bn.L2_eq (x n i):bn.L2 x n i=
 bif (decide ((0:Int)≤i∧(i:Int)<((List.length x:Int)))) then
  bif (((List.getD x (Int.toNat i) (0,0,false,())).2).2).1 then
   bn.L3 x (IntKind.wrap .i64 (n+1)) i
  else
   bn.L3 x n i
 else none:=res_eq (by kernel_rfl)
theorem bn.L3_eq (x n i):bn.L3 x n i=
 bn.L1 x n (IntKind.wrap .i64 (i+1)):=res_eq (by kernel_rfl)
theorem bn.F_eq (x):bn.F x=
 bn.L1 x 0 0:=by kernel_rfl
def co.sg:Sig:=⟨[.val (.slice t3),.val (.int .u32)],[((.int .i64),true)]⟩
def co.E:Env:=⟨tl,fun i=>look i [],[],eqs,globs,prims⟩
def co.c:=cxOf co.E co.sg Tryz.f166
def co.b:=body Tryz.f166
def co.Fn:Fun:=fnOf co.E co.sg Tryz.f166
def co.F (x:List t3.den) (key:Int):Option (Int × Unit):=co.Fn.F (x,key,())
def co.L1 (x:List t3.den) (key i:Int):Option (Int × Unit):=res co.c (atLoop co.b [1,0,1,0]) ⟨[(0,(.v (.slice t3) x)),(1,(.v (.int .u32) key)),(5,(.v (.int .i64) i))],[],0,[]⟩
def co.L2 (x:List t3.den) (key i:Int):Option (Int × Unit):=res co.c (atJoin co.b [1,0,1,0,0,0,1]) ⟨[(0,(.v (.slice t3) x)),(1,(.v (.int .u32) key)),(5,(.v (.int .i64) i))],[],0,[]⟩
def co.L3 (x:List t3.den) (key i:Int):Option (Int × Unit):=res co.c (atJoin co.b [1,0,1,0,0,1,0,0,1]) ⟨[(0,(.v (.slice t3) x)),(1,(.v (.int .u32) key)),(5,(.v (.int .i64) i))],[],0,[]⟩
theorem co.spec:FnSpec Tryz.prog globs 166 co.Fn:=spec_of (E:=co.E) (envOk_at tabOk eqOk primsOk (.nil)) mixOk Tryz.func166 (by kernel_rfl)
theorem co.L1_eq (x key i):co.L1 x key i=
 bif (decide ((i:Int)<((List.length x:Int)))) then
  co.L2 x key i
 else
  some ((-1),()):=res_eq (by kernel_rfl)
theorem co.L2_eq (x key i):co.L2 x key i=
 bif (decide ((0:Int)≤i∧(i:Int)<((List.length x:Int)))) then
  bif (((List.getD x (Int.toNat i) (0,0,false,())).2).2).1 then
   bif (decide ((0:Int)≤i∧(i:Int)<((List.length x:Int)))) then
    bif ((List.getD x (Int.toNat i) (0,0,false,())).1==key) then
     some (i,())
    else
     co.L3 x key i
   else none
  else
   co.L3 x key i
 else none:=res_eq (by kernel_rfl)
theorem co.L3_eq (x key i):co.L3 x key i=
 co.L1 x key (IntKind.wrap .i64 (i+1)):=res_eq (by kernel_rfl)
theorem co.F_eq (x key):co.F x key=
 co.L1 x key 0:=by kernel_rfl
def fi.sg:Sig:=⟨[.val (.int .u32)],[((.int .i64),true)]⟩
def fi.E:Env:=⟨tl,fun i=>look i [],[],eqs,globs,prims⟩
def fi.Fn:Fun:=fnOf fi.E fi.sg Tryz.f167
def fi.F (key:Int):Option (Int × Unit):=fi.Fn.F (key,())
theorem fi.spec:FnSpec Tryz.prog globs 167 fi.Fn:=spec_of (E:=fi.E) (envOk_at tabOk eqOk primsOk (.nil)) mixOk Tryz.func167 (by kernel_rfl)
theorem fi.F_eq (key):fi.F key=
 bif (decide ((4294967296:Int)≠0)) then
  bif (decide ((268435456:Int)≠0)) then
   some ((IntKind.wrap .i64 (IntKind.wrap .u64 (Int.tdiv (Int.tmod (IntKind.wrap .u64 ((IntKind.wrap .u64 key)*2654435769)) 4294967296) 268435456))),())
  else none
 else none:=by kernel_rfl
def aa.sg:Sig:=⟨[.val (.slice t3)],[((.int .i64),true)]⟩
def aa.E:Env:=⟨tl,fun i=>look i [(125,bn.Fn),(166,co.Fn),(167,fi.Fn)],[],eqs,globs,prims⟩
def aa.c:=cxOf aa.E aa.sg Tryz.f122
def aa.b:=body Tryz.f122
def aa.Fn:Fun:=fnOf aa.E aa.sg Tryz.f122
def aa.F (x:List t3.den):Option (Int × Unit):=aa.Fn.F (x,())
def aa.L1 (x:List t3.den):Option (Int × Unit):=res aa.c (atJoin aa.b [1,0,1]) ⟨[(0,(.v (.slice t3) x))],[],0,[]⟩
def aa.L2 (x:List t3.den) (i:Int):Option (Int × Unit):=res aa.c (atLoop aa.b [1,1,0,1,0]) ⟨[(0,(.v (.slice t3) x)),(3,(.v (.int .i64) i))],[],0,[]⟩
def aa.L3 (x:List t3.den) (i:Int):Option (Int × Unit):=res aa.c (atJoin aa.b [1,1,0,1,0,0,0,1]) ⟨[(0,(.v (.slice t3) x)),(3,(.v (.int .i64) i))],[],0,[]⟩
def aa.L4 (x:List t3.den) (i:Int):Option (Int × Unit):=res aa.c (atJoin aa.b [1,1,0,1,0,0,1,0,0,0,1,0,0,1]) ⟨[(0,(.v (.slice t3) x)),(3,(.v (.int .i64) i))],[],0,[]⟩
def aa.L5 (x:List t3.den) (i:Int):Option (Int × Unit):=res aa.c (atJoin aa.b [1,1,0,1,0,0,1,0,0,0,1]) ⟨[(0,(.v (.slice t3) x)),(3,(.v (.int .i64) i))],[],0,[]⟩
def aa.L6 (x:List t3.den) (i:Int):Option (Int × Unit):=res aa.c (atJoin aa.b [1,1,0,1,0,0,1,0,0,1,0,1]) ⟨[(0,(.v (.slice t3) x)),(3,(.v (.int .i64) i))],[],0,[]⟩
def aa.L7 (x:List t3.den) (i k:Int):Option (Int × Unit):=res aa.c (atLoop aa.b [1,1,0,1,0,0,1,0,0,1,1,1,0]) ⟨[(0,(.v (.slice t3) x)),(3,(.v (.int .i64) i)),(4,(.v (.int .i64) k))],[],0,[]⟩
def aa.L8 (x:List t3.den) (i k:Int):Option (Int × Unit):=res aa.c (atJoin aa.b [1,1,0,1,0,0,1,0,0,1,1,1,0,0,0,1]) ⟨[(0,(.v (.slice t3) x)),(3,(.v (.int .i64) i)),(4,(.v (.int .i64) k))],[],0,[]⟩
def aa.L9 (x:List t3.den) (i k:Int):Option (Int × Unit):=res aa.c (atJoin aa.b [1,1,0,1,0,0,1,0,0,1,1,1,0,0,1,0,0,1]) ⟨[(0,(.v (.slice t3) x)),(3,(.v (.int .i64) i)),(4,(.v (.int .i64) k))],[],0,[]⟩
theorem aa.spec:FnSpec Tryz.prog globs 122 aa.Fn:=spec_of (E:=aa.E) (envOk_at tabOk eqOk primsOk (.cons bn.spec<|.cons co.spec<|.cons fi.spec<|.nil)) mixOk Tryz.func122 (by kernel_rfl)
theorem aa.L1_eq (x):aa.L1 x=
 aa.L2 x 0:=res_eq (by kernel_rfl)
theorem aa.L2_eq (x i):aa.L2 x i=
 bif (decide ((i:Int)<16)) then
  aa.L3 x i
 else
  some (0,()):=res_eq (by kernel_rfl)
theorem aa.L3_eq (x i):aa.L3 x i=
 bif (decide ((0:Int)≤i∧(i:Int)<((List.length x:Int)))) then
  bif (!((((List.getD x (Int.toNat i) (0,0,false,())).2).2).1)) then
   bif (decide ((0:Int)≤i∧(i:Int)<((List.length x:Int)))) then
    bif (!(Ty.beq t3 (List.getD x (Int.toNat i) (0,0,false,())) (0,0,false,()))) then
     some (8,())
    else
     aa.L4 x i
   else none
  else
   aa.L5 x i
 else none:=res_eq (by kernel_rfl)
theorem aa.L4_eq (x i):aa.L4 x i=
 aa.L2 x (IntKind.wrap .i64 (i+1)):=res_eq (by kernel_rfl)
theorem aa.L5_eq (x i):aa.L5 x i=
 bif (decide ((0:Int)≤i∧(i:Int)<((List.length x:Int)))) then
  bif (decide (((((List.getD x (Int.toNat i) (0,0,false,())).2).1):Int)<0)) then
   some (8,())
  else
   bif (decide ((0:Int)≤i∧(i:Int)<((List.length x:Int)))) then
    bif (decide (((((List.getD x (Int.toNat i) (0,0,false,())).2).1):Int)≥16)) then
     some (8,())
    else
     bif (decide ((0:Int)≤i∧(i:Int)<((List.length x:Int)))) then
      (co.F x ((List.getD x (Int.toNat i) (0,0,false,())).1)).bind fun r0=>
      bif (r0.1 !=i) then
       some (8,())
      else
       aa.L6 x i
     else none
   else none
 else none:=res_eq (by kernel_rfl)
theorem aa.L6_eq (x i):aa.L6 x i=
 bif (decide ((0:Int)≤i∧(i:Int)<((List.length x:Int)))) then
  (fi.F ((List.getD x (Int.toNat i) (0,0,false,())).1)).bind fun r0=>
  aa.L7 x i r0.1
 else none:=res_eq (by kernel_rfl)
theorem aa.L7_eq (x i k):aa.L7 x i k=
 bif (k !=i) then
  aa.L8 x i k
 else
  aa.L2 x (IntKind.wrap .i64 (i+1)):=res_eq (by kernel_rfl)
theorem aa.L8_eq (x i k):aa.L8 x i k=
 bif (decide ((0:Int)≤k∧(k:Int)<((List.length x:Int)))) then
  bif (!((((List.getD x (Int.toNat k) (0,0,false,())).2).2).1)) then
   some (8,())
  else
   aa.L9 x i k
 else none:=res_eq (by kernel_rfl)
theorem aa.L9_eq (x i k):aa.L9 x i k=
 bif (decide ((16:Int)≠0)) then
  aa.L7 x i (Int.tmod (IntKind.wrap .i64 (k+1)) 16)
 else none:=res_eq (by kernel_rfl)
theorem aa.F_eq (x):aa.F x=
 bif (((List.length x:Int)) !=16) then
  some (8,())
 else
  (bn.F x).bind fun r0=>
  bif (decide ((r0.1:Int)>12)) then
   some (8,())
  else
   aa.L1 x:=by kernel_rfl
def ax.sg:Sig:=⟨[.val (.slice (.int .i64)),.val (.slice (.int .i64))],[(.bool,true)]⟩
def ax.E:Env:=⟨tl,fun i=>look i [],[],eqs,globs,prims⟩
def ax.c:=cxOf ax.E ax.sg Tryz.f164
def ax.b:=body Tryz.f164
def ax.Fn:Fun:=fnOf ax.E ax.sg Tryz.f164
def ax.F (a b:List Int):Option (Bool × Unit):=ax.Fn.F (a,b,())
def ax.L1 (a b:List Int):Option (Bool × Unit):=res ax.c (atJoin ax.b [1,0,1]) ⟨[(0,(.v (.slice (.int .i64)) a)),(1,(.v (.slice (.int .i64)) b))],[],0,[]⟩
def ax.L2 (a b:List Int) (i:Int):Option (Bool × Unit):=res ax.c (atLoop ax.b [1,1,0,1,0]) ⟨[(0,(.v (.slice (.int .i64)) a)),(1,(.v (.slice (.int .i64)) b)),(5,(.v (.int .i64) i))],[],0,[]⟩
def ax.L3 (a b:List Int) (i:Int):Option (Bool × Unit):=res ax.c (atJoin ax.b [1,1,0,1,0,0,0,1]) ⟨[(0,(.v (.slice (.int .i64)) a)),(1,(.v (.slice (.int .i64)) b)),(5,(.v (.int .i64) i))],[],0,[]⟩
def ax.L4 (a b:List Int) (i:Int):Option (Bool × Unit):=res ax.c (atJoin ax.b [1,1,0,1,0,0,1,0,0,1]) ⟨[(0,(.v (.slice (.int .i64)) a)),(1,(.v (.slice (.int .i64)) b)),(5,(.v (.int .i64) i))],[],0,[]⟩
theorem ax.spec:FnSpec Tryz.prog globs 164 ax.Fn:=spec_of (E:=ax.E) (envOk_at tabOk eqOk primsOk (.nil)) mixOk Tryz.func164 (by kernel_rfl)
theorem ax.L1_eq (a b):ax.L1 a b=
 ax.L2 a b 0:=res_eq (by kernel_rfl)
theorem ax.L2_eq (a b i):ax.L2 a b i=
 bif (decide ((i:Int)<((List.length a:Int)))) then
  ax.L3 a b i
 else
  some (true,()):=res_eq (by kernel_rfl)
theorem ax.L3_eq (a b i):ax.L3 a b i=
 bif (decide ((0:Int)≤i∧(i:Int)<((List.length a:Int)))) then
  bif (decide ((0:Int)≤i∧(i:Int)<((List.length b:Int)))) then
   bif ((List.getD a (Int.toNat i) 0) !=(List.getD b (Int.toNat i) 0)) then
    some (false,())
   else
    ax.L4 a b i
  else none
 else none:=res_eq (by kernel_rfl)
theorem ax.L4_eq (a b i):ax.L4 a b i=
 ax.L2 a b (IntKind.wrap .i64 (i+1)):=res_eq (by kernel_rfl)
theorem ax.F_eq (a b):ax.F a b=
 bif (((List.length a:Int)) !=((List.length b:Int))) then
  some (false,())
 else
  ax.L1 a b:=by kernel_rfl
def fb.sg:Sig:=⟨[.val t4,.val t4],[(.bool,true)]⟩
def fb.E:Env:=⟨tl,fun i=>look i [(164,ax.Fn)],[],eqs,globs,prims⟩
def fb.Fn:Fun:=fnOf fb.E fb.sg Tryz.f120
def fb.F (a:t4.den) (b:t4.den):Option (Bool × Unit):=fb.Fn.F (a,b,())
theorem fb.spec:FnSpec Tryz.prog globs 120 fb.Fn:=spec_of (E:=fb.E) (envOk_at tabOk eqOk primsOk (.cons ax.spec<|.nil)) mixOk Tryz.func120 (by kernel_rfl)
theorem fb.F_eq (a b):fb.F a b=
 (ax.F a.1 b.1).bind fun r0=>
 bif r0.1 then
  (ax.F a.2.1 b.2.1).bind fun r1=>
  bif r1.1 then
   bif (a.2.2.1==b.2.2.1) then
    some ((a.2.2.2.1==b.2.2.2.1),())
   else
    some (false,())
  else
   some (false,())
 else
  some (false,()):=by kernel_rfl
def cg.sg:Sig:=⟨[.val t4],[((.slice (.int .i64)),true),(.bool,true)]⟩
def cg.E:Env:=⟨tl,fun i=>look i [(127,ch.Fn)],[],eqs,globs,prims⟩
def cg.c:=cxOf cg.E cg.sg Tryz.f124
def cg.b:=body Tryz.f124
def cg.Fn:Fun:=fnOf cg.E cg.sg Tryz.f124
def cg.F (o:t4.den):Option ((List Int) × Bool × Unit):=cg.Fn.F (o,())
def cg.L1 (i:Int) (b0 b02:List Int) (b03 b04:Int) (l1:List Int):Option ((List Int) × Bool × Unit):=res cg.c (atLoop cg.b [1,1,0,1,0]) ⟨[(1,(.ptr 0 [])),(4,(.sl 1)),(5,(.v (.int .i64) i))],[(0,some (.box (.agg [(.v (.slice (.int .i64)) b0),(.v (.slice (.int .i64)) b02),(.v (.int .i64) b03),(.v (.int .i64) b04)]))),(1,some (.row (.int .i64) l1 false))],2,[]⟩
def cg.L2 (i:Int) (b0 b02:List Int) (b03 b04:Int) (l1:List Int):Option ((List Int) × Bool × Unit):=res cg.c (atJoin cg.b [1,1,0,1,0,0,0,1]) ⟨[(1,(.ptr 0 [])),(4,(.sl 1)),(5,(.v (.int .i64) i))],[(0,some (.box (.agg [(.v (.slice (.int .i64)) b0),(.v (.slice (.int .i64)) b02),(.v (.int .i64) b03),(.v (.int .i64) b04)]))),(1,some (.row (.int .i64) l1 false))],2,[]⟩
def cg.L3 (i:Int) (b0 b02:List Int) (b03 b04:Int) (l1:List Int):Option ((List Int) × Bool × Unit):=res cg.c (atJoin cg.b [1,1,0,1,0,0,1,0,0,0,1]) ⟨[(1,(.ptr 0 [])),(4,(.sl 1)),(5,(.v (.int .i64) i))],[(0,some (.box (.agg [(.v (.slice (.int .i64)) b0),(.v (.slice (.int .i64)) b02),(.v (.int .i64) b03),(.v (.int .i64) b04)]))),(1,some (.row (.int .i64) l1 false))],2,[]⟩
theorem cg.spec:FnSpec Tryz.prog globs 124 cg.Fn:=spec_of (E:=cg.E) (envOk_at tabOk eqOk primsOk (.cons ch.spec<|.nil)) mixOk Tryz.func124 (by kernel_rfl)
theorem cg.L1_eq (i b0 b02 b03 b04 l1):cg.L1 i b0 b02 b03 b04 l1=
 bif (i !=(-1)) then
  cg.L2 i b0 b02 b03 b04 l1
 else
  some (l1,true,()):=res_eq (by kernel_rfl)
theorem cg.L2_eq (i b0 b02 b03 b04 l1):cg.L2 i b0 b02 b03 b04 l1=
 bif (decide ((i:Int)<0)) then
  some (([]:List Int),false,())
 else
  bif (decide ((i:Int)≥((List.length b02:Int)))) then
   some (([]:List Int),false,())
  else
   (ch.F l1 i).bind fun r0=>
   bif r0.1 then
    some (([]:List Int),false,())
   else
    cg.L3 i b0 b02 b03 b04 l1:=res_eq (by kernel_rfl)
theorem cg.L3_eq (i b0 b02 b03 b04 l1):cg.L3 i b0 b02 b03 b04 l1=
 bif (lim ((List.length l1)+(List.length ([i]:List Int))) (.int .i64)) then
  bif (decide ((0:Int)≤i∧(i:Int)<((List.length b02:Int)))) then
   cg.L1 (List.getD b02 (Int.toNat i) 0) b0 b02 b03 b04 (l1++([i]:List Int))
  else none
 else none:=res_eq (by kernel_rfl)
theorem cg.F_eq (o):cg.F o=
 cg.L1 o.2.2.1 o.1 o.2.1 o.2.2.1 o.2.2.2.1 ([]:List Int):=by kernel_rfl
def cz.sg:Sig:=⟨[.val t4],[((.int .i64),true)]⟩
def cz.E:Env:=⟨tl,fun i=>look i [(120,fb.Fn),(124,cg.Fn),(132,aq.Fn)],[],eqs,globs,prims⟩
def cz.c:=cxOf cz.E cz.sg Tryz.f123
def cz.b:=body Tryz.f123
def cz.Fn:Fun:=fnOf cz.E cz.sg Tryz.f123
def cz.F (o:t4.den):Option (Int × Unit):=cz.Fn.F (o,())
def cz.L1 (b0 b02:List Int) (b03 b04:Int):Option (Int × Unit):=res cz.c (atJoin cz.b [1,0,1]) ⟨[(1,(.ptr 0 []))],[(0,some (.box (.agg [(.v (.slice (.int .i64)) b0),(.v (.slice (.int .i64)) b02),(.v (.int .i64) b03),(.v (.int .i64) b04)])))],1,[]⟩
def cz.L2:Option (Int × Unit):=res cz.c (atJoin cz.b [1,1,1,0,1]) ⟨[],[],0,[]⟩
theorem cz.spec:FnSpec Tryz.prog globs 123 cz.Fn:=spec_of (E:=cz.E) (envOk_at tabOk eqOk primsOk (.cons fb.spec<|.cons cg.spec<|.cons aq.spec<|.nil)) mixOk Tryz.func123 (by kernel_rfl)
theorem cz.L1_eq (b0 b02 b03 b04):cz.L1 b0 b02 b03 b04=
 (cg.F (b0,b02,b03,b04,())).bind fun r0=>
 bif (!r0.2.1) then
  some (8,())
 else
  (aq.F ((List.length b0:Int)) r0.1).bind fun r1=>
  (fb.F (b0,b02,b03,b04,()) r1.1).bind fun r2=>
  bif (!r2.1) then
   some (8,())
  else
   cz.L2:=res_eq (by kernel_rfl)
theorem cz.L2_eq:cz.L2=
 some (0,()):=res_eq (by kernel_rfl)
theorem cz.F_eq (o):cz.F o=
 bif (decide ((((List.length o.1:Int)):Int)<1)) then
  some (8,())
 else
  bif (decide ((((List.length o.1:Int)):Int)>16)) then
   some (8,())
  else
   bif (((List.length o.2.1:Int)) !=((List.length o.1:Int))) then
    some (8,())
   else
    cz.L1 o.1 o.2.1 o.2.2.1 o.2.2.2.1:=by kernel_rfl
def bq.sg:Sig:=⟨[.val (.slice t3),.val (.int .i64),.val (.int .u32)],[((.int .i64),true),(.bool,true)]⟩
def bq.E:Env:=⟨tl,fun i=>look i [],[],eqs,globs,prims⟩
def bq.c:=cxOf bq.E bq.sg Tryz.f126
def bq.b:=body Tryz.f126
def bq.Fn:Fun:=fnOf bq.E bq.sg Tryz.f126
def bq.F (x:List t3.den) (place key:Int):Option (Int × Bool × Unit):=bq.Fn.F (x,place,key,())
def bq.L1 (x:List t3.den) (place key n:Int) (same:Bool) (i:Int):Option (Int × Bool × Unit):=res bq.c (atLoop bq.b [1,1,0,1,0]) ⟨[(0,(.v (.slice t3) x)),(1,(.v (.int .i64) place)),(2,(.v (.int .u32) key)),(8,(.v (.int .i64) n)),(9,(.v .bool same)),(10,(.v (.int .i64) i))],[],0,[]⟩
def bq.L2 (x:List t3.den) (place key n:Int) (same:Bool) (i:Int):Option (Int × Bool × Unit):=res bq.c (atJoin bq.b [1,1,0,1,0,0,0,1]) ⟨[(0,(.v (.slice t3) x)),(1,(.v (.int .i64) place)),(2,(.v (.int .u32) key)),(8,(.v (.int .i64) n)),(9,(.v .bool same)),(10,(.v (.int .i64) i))],[],0,[]⟩
def bq.L3 (x:List t3.den) (place key n:Int) (same:Bool) (i:Int):Option (Int × Bool × Unit):=res bq.c (atJoin bq.b [1,1,0,1,0,0,1,0,0,1]) ⟨[(0,(.v (.slice t3) x)),(1,(.v (.int .i64) place)),(2,(.v (.int .u32) key)),(8,(.v (.int .i64) n)),(9,(.v .bool same)),(10,(.v (.int .i64) i))],[],0,[]⟩
theorem bq.spec:FnSpec Tryz.prog globs 126 bq.Fn:=spec_of (E:=bq.E) (envOk_at tabOk eqOk primsOk (.nil)) mixOk Tryz.func126 (by kernel_rfl)
theorem bq.L1_eq (x place key n same i):bq.L1 x place key n same i=
 bif (decide ((i:Int)<((List.length x:Int)))) then
  bq.L2 x place key n same i
 else
  some (n,same,()):=res_eq (by kernel_rfl)
theorem bq.L2_eq (x place key n same i):bq.L2 x place key n same i=
 bif (decide ((0:Int)≤i∧(i:Int)<((List.length x:Int)))) then
  bif (((List.getD x (Int.toNat i) (0,0,false,())).2).2).1 then
   bif (decide ((0:Int)≤i∧(i:Int)<((List.length x:Int)))) then
    bif (((List.getD x (Int.toNat i) (0,0,false,())).2).1==place) then
     bif same then
      bif (decide ((0:Int)≤i∧(i:Int)<((List.length x:Int)))) then
       bq.L3 x place key (IntKind.wrap .i64 (n+1)) ((List.getD x (Int.toNat i) (0,0,false,())).1==key) i
      else none
     else
      bq.L3 x place key (IntKind.wrap .i64 (n+1)) false i
    else
     bq.L3 x place key n same i
   else none
  else
   bq.L3 x place key n same i
 else none:=res_eq (by kernel_rfl)
theorem bq.L3_eq (x place key n same i):bq.L3 x place key n same i=
 bq.L1 x place key n same (IntKind.wrap .i64 (i+1)):=res_eq (by kernel_rfl)
theorem bq.F_eq (x place key):bq.F x place key=
 bq.L1 x place key 0 true 0:=by kernel_rfl
def ae.sg:Sig:=⟨[.val t5],[((.int .i64),true)]⟩
def ae.E:Env:=⟨tl,fun i=>look i [(77,da.Fn),(121,ay.Fn),(122,aa.Fn),(123,cz.Fn),(124,cg.Fn),(125,bn.Fn),(126,bq.Fn),(127,ch.Fn)],[],eqs,globs,prims⟩
def ae.c:=cxOf ae.E ae.sg Tryz.f82
def ae.b:=body Tryz.f82
def ae.Fn:Fun:=fnOf ae.E ae.sg Tryz.f82
def ae.F (t:t5.den):Option (Int × Unit):=ae.Fn.F (t,())
def ae.L1 (b0:Int) (b02:List Int) (b03:List t1.den) (b04:List Int) (b05:List Bool) (b06:Int) (b07:List t3.den) (b08 b09:List Int) (b010 b011:Int):Option (Int × Unit):=res ae.c (atJoin ae.b [1,0,1]) ⟨[(1,(.ptr 0 []))],[(0,some (.box (.agg [(.v (.int .i64) b0),(.v (.slice (.int .u32)) b02),(.v (.slice t1) b03),(.agg [(.v (.slice (.int .i64)) b04),(.v (.slice .bool) b05),(.v (.int .i64) b06)]),(.v (.slice t3) b07),(.agg [(.v (.slice (.int .i64)) b08),(.v (.slice (.int .i64)) b09),(.v (.int .i64) b010),(.v (.int .i64) b011)])])))],1,[]⟩
def ae.L2 (b0:Int) (b02:List Int) (b03:List t1.den) (b04:List Int) (b05:List Bool) (b06:Int) (b07:List t3.den) (b08 b09:List Int) (b010 b011:Int):Option (Int × Unit):=res ae.c (atJoin ae.b [1,1,0,1]) ⟨[(1,(.ptr 0 []))],[(0,some (.box (.agg [(.v (.int .i64) b0),(.v (.slice (.int .u32)) b02),(.v (.slice t1) b03),(.agg [(.v (.slice (.int .i64)) b04),(.v (.slice .bool) b05),(.v (.int .i64) b06)]),(.v (.slice t3) b07),(.agg [(.v (.slice (.int .i64)) b08),(.v (.slice (.int .i64)) b09),(.v (.int .i64) b010),(.v (.int .i64) b011)])])))],1,[]⟩
def ae.L3 (b0:Int) (b02:List Int) (b03:List t1.den) (b04:List Int) (b05:List Bool) (b06:Int) (b07:List t3.den) (b08 b09:List Int) (b010 b011:Int) (l1:List Int):Option (Int × Unit):=res ae.c (atJoin ae.b [1,1,1,1,0,1]) ⟨[(1,(.ptr 0 [])),(3,(.sl 1))],[(0,some (.box (.agg [(.v (.int .i64) b0),(.v (.slice (.int .u32)) b02),(.v (.slice t1) b03),(.agg [(.v (.slice (.int .i64)) b04),(.v (.slice .bool) b05),(.v (.int .i64) b06)]),(.v (.slice t3) b07),(.agg [(.v (.slice (.int .i64)) b08),(.v (.slice (.int .i64)) b09),(.v (.int .i64) b010),(.v (.int .i64) b011)])]))),(1,some (.row (.int .i64) l1 false))],2,[]⟩
def ae.L4 (i b0:Int) (b02:List Int) (b03:List t1.den) (b04:List Int) (b05:List Bool) (b06:Int) (b07:List t3.den) (b08 b09:List Int) (b010 b011:Int) (l1:List Int):Option (Int × Unit):=res ae.c (atLoop ae.b [1,1,1,1,1,0,1,0]) ⟨[(1,(.ptr 0 [])),(3,(.sl 1)),(5,(.v (.int .i64) i))],[(0,some (.box (.agg [(.v (.int .i64) b0),(.v (.slice (.int .u32)) b02),(.v (.slice t1) b03),(.agg [(.v (.slice (.int .i64)) b04),(.v (.slice .bool) b05),(.v (.int .i64) b06)]),(.v (.slice t3) b07),(.agg [(.v (.slice (.int .i64)) b08),(.v (.slice (.int .i64)) b09),(.v (.int .i64) b010),(.v (.int .i64) b011)])]))),(1,some (.row (.int .i64) l1 false))],2,[]⟩
def ae.L5 (i b0:Int) (b02:List Int) (b03:List t1.den) (b04:List Int) (b05:List Bool) (b06:Int) (b07:List t3.den) (b08 b09:List Int) (b010 b011:Int) (l1:List Int):Option (Int × Unit):=res ae.c (atJoin ae.b [1,1,1,1,1,0,1,0,0,0,1]) ⟨[(1,(.ptr 0 [])),(3,(.sl 1)),(5,(.v (.int .i64) i))],[(0,some (.box (.agg [(.v (.int .i64) b0),(.v (.slice (.int .u32)) b02),(.v (.slice t1) b03),(.agg [(.v (.slice (.int .i64)) b04),(.v (.slice .bool) b05),(.v (.int .i64) b06)]),(.v (.slice t3) b07),(.agg [(.v (.slice (.int .i64)) b08),(.v (.slice (.int .i64)) b09),(.v (.int .i64) b010),(.v (.int .i64) b011)])]))),(1,some (.row (.int .i64) l1 false))],2,[]⟩
def ae.L6 (i b0:Int) (b02:List Int) (b03:List t1.den) (b04:List Int) (b05:List Bool) (b06:Int) (b07:List t3.den) (b08 b09:List Int) (b010 b011:Int) (l1:List Int):Option (Int × Unit):=res ae.c (atJoin ae.b [1,1,1,1,1,0,1,0,0,1,0,0,1,0,1]) ⟨[(1,(.ptr 0 [])),(3,(.sl 1)),(5,(.v (.int .i64) i))],[(0,some (.box (.agg [(.v (.int .i64) b0),(.v (.slice (.int .u32)) b02),(.v (.slice t1) b03),(.agg [(.v (.slice (.int .i64)) b04),(.v (.slice .bool) b05),(.v (.int .i64) b06)]),(.v (.slice t3) b07),(.agg [(.v (.slice (.int .i64)) b08),(.v (.slice (.int .i64)) b09),(.v (.int .i64) b010),(.v (.int .i64) b011)])]))),(1,some (.row (.int .i64) l1 false))],2,[]⟩
def ae.L7 (i b0:Int) (b02:List Int) (b03:List t1.den) (b04:List Int) (b05:List Bool) (b06:Int) (b07:List t3.den) (b08 b09:List Int) (b010 b011:Int) (l1:List Int):Option (Int × Unit):=res ae.c (atJoin ae.b [1,1,1,1,1,0,1,0,0,1,0,0,1,1,0,1]) ⟨[(1,(.ptr 0 [])),(3,(.sl 1)),(5,(.v (.int .i64) i))],[(0,some (.box (.agg [(.v (.int .i64) b0),(.v (.slice (.int .u32)) b02),(.v (.slice t1) b03),(.agg [(.v (.slice (.int .i64)) b04),(.v (.slice .bool) b05),(.v (.int .i64) b06)]),(.v (.slice t3) b07),(.agg [(.v (.slice (.int .i64)) b08),(.v (.slice (.int .i64)) b09),(.v (.int .i64) b010),(.v (.int .i64) b011)])]))),(1,some (.row (.int .i64) l1 false))],2,[]⟩
def ae.L8 (i b0:Int) (b02:List Int) (b03:List t1.den) (b04:List Int) (b05:List Bool) (b06:Int) (b07:List t3.den) (b08 b09:List Int) (b010 b011:Int) (l1:List Int):Option (Int × Unit):=res ae.c (atJoin ae.b [1,1,1,1,1,0,1,0,0,1,0,0,1,1,1,1]) ⟨[(1,(.ptr 0 [])),(3,(.sl 1)),(5,(.v (.int .i64) i))],[(0,some (.box (.agg [(.v (.int .i64) b0),(.v (.slice (.int .u32)) b02),(.v (.slice t1) b03),(.agg [(.v (.slice (.int .i64)) b04),(.v (.slice .bool) b05),(.v (.int .i64) b06)]),(.v (.slice t3) b07),(.agg [(.v (.slice (.int .i64)) b08),(.v (.slice (.int .i64)) b09),(.v (.int .i64) b010),(.v (.int .i64) b011)])]))),(1,some (.row (.int .i64) l1 false))],2,[]⟩
theorem ae.spec:FnSpec Tryz.prog globs 82 ae.Fn:=spec_of (E:=ae.E) (envOk_at tabOk eqOk primsOk (.cons da.spec<|.cons ay.spec<|.cons aa.spec<|.cons cz.spec<|.cons cg.spec<|.cons bn.spec<|.cons bq.spec<|.cons ch.spec<|.nil)) mixOk Tryz.func82 (by kernel_rfl)
theorem ae.L1_eq (b0 b02 b03 b04 b05 b06 b07 b08 b09 b010 b011):ae.L1 b0 b02 b03 b04 b05 b06 b07 b08 b09 b010 b011=
 (ay.F (b04,b05,b06,())).bind fun r0=>
 bif (r0.1 !=0) then
  some (8,())
 else
  (aa.F b07).bind fun r1=>
  bif (r1.1 !=0) then
   some (8,())
  else
   (cz.F (b08,b09,b010,b011,())).bind fun r2=>
   bif (r2.1 !=0) then
    some (8,())
   else
    ae.L2 b0 b02 b03 b04 b05 b06 b07 b08 b09 b010 b011:=res_eq (by kernel_rfl)
theorem ae.L2_eq (b0 b02 b03 b04 b05 b06 b07 b08 b09 b010 b011):ae.L2 b0 b02 b03 b04 b05 b06 b07 b08 b09 b010 b011=
 (cg.F (b08,b09,b010,b011,())).bind fun r0=>
 (bn.F b07).bind fun r1=>
 bif (r1.1 !=((List.length r0.1:Int))) then
  some (8,())
 else
  ae.L3 b0 b02 b03 b04 b05 b06 b07 b08 b09 b010 b011 r0.1:=res_eq (by kernel_rfl)
theorem ae.L3_eq (b0 b02 b03 b04 b05 b06 b07 b08 b09 b010 b011 l1):ae.L3 b0 b02 b03 b04 b05 b06 b07 b08 b09 b010 b011 l1=
 ae.L4 0 b0 b02 b03 b04 b05 b06 b07 b08 b09 b010 b011 l1:=res_eq (by kernel_rfl)
theorem ae.L4_eq (i b0 b02 b03 b04 b05 b06 b07 b08 b09 b010 b011 l1):ae.L4 i b0 b02 b03 b04 b05 b06 b07 b08 b09 b010 b011 l1=
 bif (decide ((i:Int)<b0)) then
  ae.L5 i b0 b02 b03 b04 b05 b06 b07 b08 b09 b010 b011 l1
 else
  some (0,()):=res_eq (by kernel_rfl)
theorem ae.L5_eq (i b0 b02 b03 b04 b05 b06 b07 b08 b09 b010 b011 l1):ae.L5 i b0 b02 b03 b04 b05 b06 b07 b08 b09 b010 b011 l1=
 bif (decide ((0:Int)≤i∧(i:Int)<((List.length b02:Int)))) then
  (bq.F b07 i (List.getD b02 (Int.toNat i) 0)).bind fun r0=>
  bif (decide ((0:Int)≤i∧(i:Int)<((List.length b05:Int)))) then
   (ch.F l1 i).bind fun r1=>
   bif (!((List.getD b05 (Int.toNat i) false)==r1.1)) then
    some (8,())
   else
    bif (decide ((0:Int)≤i∧(i:Int)<((List.length b05:Int)))) then
     bif (!((List.getD b05 (Int.toNat i) false)==(r0.1==1))) then
      some (8,())
     else
      bif (!r0.2.1) then
       some (8,())
      else
       ae.L6 i b0 b02 b03 b04 b05 b06 b07 b08 b09 b010 b011 l1
    else none
  else none
 else none:=res_eq (by kernel_rfl)
theorem ae.L6_eq (i b0 b02 b03 b04 b05 b06 b07 b08 b09 b010 b011 l1):ae.L6 i b0 b02 b03 b04 b05 b06 b07 b08 b09 b010 b011 l1=
 bif (decide ((0:Int)≤i∧(i:Int)<((List.length b05:Int)))) then
  bif (List.getD b05 (Int.toNat i) false) then
   bif (decide ((0:Int)≤i∧(i:Int)<((List.length b03:Int)))) then
    (da.F (List.getD b03 (Int.toNat i) ((0,0,0,()),0,0,0,()))).bind fun r0=>
    bif (r0.1 !=0) then
     some (8,())
    else
     ae.L7 i b0 b02 b03 b04 b05 b06 b07 b08 b09 b010 b011 l1
   else none
  else
   ae.L7 i b0 b02 b03 b04 b05 b06 b07 b08 b09 b010 b011 l1
 else none:=res_eq (by kernel_rfl)
theorem ae.L7_eq (i b0 b02 b03 b04 b05 b06 b07 b08 b09 b010 b011 l1):ae.L7 i b0 b02 b03 b04 b05 b06 b07 b08 b09 b010 b011 l1=
 bif (decide ((0:Int)≤i∧(i:Int)<((List.length b05:Int)))) then
  bif (!(List.getD b05 (Int.toNat i) false)) then
   bif (decide ((0:Int)≤i∧(i:Int)<((List.length b02:Int)))) then
    bif ((List.getD b02 (Int.toNat i) 0) !=0) then
     some (8,())
    else
     bif (decide ((0:Int)≤i∧(i:Int)<((List.length b03:Int)))) then
      bif (!(Ty.beq t1 (List.getD b03 (Int.toNat i) ((0,0,0,()),0,0,0,())) ((0,0,0,()),0,0,0,()))) then
       some (8,())
      else
       ae.L8 i b0 b02 b03 b04 b05 b06 b07 b08 b09 b010 b011 l1
     else none
   else none
  else
   ae.L8 i b0 b02 b03 b04 b05 b06 b07 b08 b09 b010 b011 l1
 else none:=res_eq (by kernel_rfl)
theorem ae.L8_eq (i b0 b02 b03 b04 b05 b06 b07 b08 b09 b010 b011 l1):ae.L8 i b0 b02 b03 b04 b05 b06 b07 b08 b09 b010 b011 l1=
 ae.L4 (IntKind.wrap .i64 (i+1)) b0 b02 b03 b04 b05 b06 b07 b08 b09 b010 b011 l1:=res_eq (by kernel_rfl)
theorem ae.F_eq (t):ae.F t=
 bif (decide ((t.1:Int)<1)) then
  some (8,())
 else
  bif (decide ((t.1:Int)>8)) then
   some (8,())
  else
   bif (((List.length t.2.1:Int)) !=t.1) then
    some (8,())
   else
    bif (((List.length t.2.2.1:Int)) !=t.1) then
     some (8,())
    else
     bif (((List.length t.2.2.2.1.1:Int)) !=t.1) then
      some (8,())
     else
      bif (((List.length t.2.2.2.2.2.1.1:Int)) !=t.1) then
       some (8,())
      else
       ae.L1 t.1 t.2.1 t.2.2.1 t.2.2.2.1.1 t.2.2.2.1.2.1 t.2.2.2.1.2.2.1 t.2.2.2.2.1 t.2.2.2.2.2.1.1 t.2.2.2.2.2.1.2.1 t.2.2.2.2.2.1.2.2.1 t.2.2.2.2.2.1.2.2.2.1:=by kernel_rfl
end
end Go.Proofs.YtkihjakbbcajbaaGreat.PM
