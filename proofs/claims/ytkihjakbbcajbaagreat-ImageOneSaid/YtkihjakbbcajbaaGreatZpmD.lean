/- Contracts and equations of the functions, printed by a program of this session: part 2. -/
import Derived.Test.YtkihjakbbcajbaaGreatZpmC
namespace Go.Proofs.YtkihjakbbcajbaaGreat.PM
open Go Go.Proofs
noncomputable section
set_option linter.unusedVariables false
def ij.sg:Sig:=⟨[.val (.slice (.int .u8)),.val (.slice (.int .u8))],[(.bool,true)]⟩
def ij.E:Env:=⟨tl,fun i=>look i [],[],eqs,globs,prims⟩
def ij.Fn:Fun:=fnOf ij.E ij.sg Tryz.f29
def ij.F (a b:List Int):Option (Bool × Unit):=ij.Fn.F (a,b,())
theorem ij.spec:FnSpec Tryz.prog globs 29 ij.Fn:=spec_of (E:=ij.E) (envOk_at tabOk eqOk primsOk (.nil)) mixOk Tryz.func29 (by kernel_rfl)
theorem ij.F_eq (a b):ij.F a b=
 some ((decide ((List.map (fun n=>UInt8.ofNat (Int.toNat n)) a)=(List.map (fun n=>UInt8.ofNat (Int.toNat n)) b))),()):=by kernel_rfl
def fk.sg:Sig:=⟨[.val (.slice (.int .u8)),.val (.slice (.int .u8))],[(.bool,true),((.int .i64),true)]⟩
def fk.E:Env:=⟨tl,fun i=>look i [(7,ao.Fn),(29,ij.Fn)],[],eqs,globs,prims⟩
def fk.c:=cxOf fk.E fk.sg Tryz.f9
def fk.b:=body Tryz.f9
def fk.Fn:Fun:=fnOf fk.E fk.sg Tryz.f9
def fk.F (a b:List Int):Option (Bool × Int × Unit):=fk.Fn.F (a,b,())
def fk.L1 (a b:List Int):Option (Bool × Int × Unit):=res fk.c (atJoin fk.b [1,0,1,1]) ⟨[(0,(.v (.slice (.int .u8)) a)),(1,(.v (.slice (.int .u8)) b))],[],0,[]⟩
def fk.L2 (a b:List Int):Option (Bool × Int × Unit):=res fk.c (atJoin fk.b [1,1,0,1,1]) ⟨[(0,(.v (.slice (.int .u8)) a)),(1,(.v (.slice (.int .u8)) b))],[],0,[]⟩
theorem fk.spec:FnSpec Tryz.prog globs 9 fk.Fn:=spec_of (E:=fk.E) (envOk_at tabOk eqOk primsOk (.cons ao.spec<|.cons ij.spec<|.nil)) mixOk Tryz.func9 (by kernel_rfl)
theorem fk.L1_eq (a b):fk.L1 a b=
 (ao.F b).bind fun r0=>
 bif (r0.2.1 !=0) then
  some (false,r0.2.1,())
 else
  fk.L2 a b:=res_eq (by kernel_rfl)
theorem fk.L2_eq (a b):fk.L2 a b=
 bif (decide ((0:Int)≤8∧(8:Int)≤((List.length a:Int))∧(((List.length a:Int)):Int)≤((List.length a:Int)))) then
  bif (decide ((0:Int)≤8∧(8:Int)≤((List.length b:Int))∧(((List.length b:Int)):Int)≤((List.length b:Int)))) then
   (ij.F (List.take ((Int.toNat ((List.length a:Int))) - (Int.toNat 8)) (List.drop (Int.toNat 8) a)) (List.take ((Int.toNat ((List.length b:Int))) - (Int.toNat 8)) (List.drop (Int.toNat 8) b))).bind fun r0=>
   some (r0.1,0,())
  else none
 else none:=res_eq (by kernel_rfl)
theorem fk.F_eq (a b):fk.F a b=
 (ao.F a).bind fun r0=>
 bif (r0.2.1 !=0) then
  some (false,r0.2.1,())
 else
  fk.L1 a b:=by kernel_rfl
def av.sg:Sig:=⟨[.val (.slice (.int .u32)),.val (.slice (.int .u32))],[(.bool,true)]⟩
def av.E:Env:=⟨tl,fun i=>look i [],[],eqs,globs,prims⟩
def av.c:=cxOf av.E av.sg Tryz.f81
def av.b:=body Tryz.f81
def av.Fn:Fun:=fnOf av.E av.sg Tryz.f81
def av.F (a b:List Int):Option (Bool × Unit):=av.Fn.F (a,b,())
def av.L1 (a b:List Int):Option (Bool × Unit):=res av.c (atJoin av.b [1,0,1]) ⟨[(0,(.v (.slice (.int .u32)) a)),(1,(.v (.slice (.int .u32)) b))],[],0,[]⟩
def av.L2 (a b:List Int) (i:Int):Option (Bool × Unit):=res av.c (atLoop av.b [1,1,0,1,0]) ⟨[(0,(.v (.slice (.int .u32)) a)),(1,(.v (.slice (.int .u32)) b)),(5,(.v (.int .i64) i))],[],0,[]⟩
def av.L3 (a b:List Int) (i:Int):Option (Bool × Unit):=res av.c (atJoin av.b [1,1,0,1,0,0,0,1]) ⟨[(0,(.v (.slice (.int .u32)) a)),(1,(.v (.slice (.int .u32)) b)),(5,(.v (.int .i64) i))],[],0,[]⟩
def av.L4 (a b:List Int) (i:Int):Option (Bool × Unit):=res av.c (atJoin av.b [1,1,0,1,0,0,1,0,0,1]) ⟨[(0,(.v (.slice (.int .u32)) a)),(1,(.v (.slice (.int .u32)) b)),(5,(.v (.int .i64) i))],[],0,[]⟩
theorem av.spec:FnSpec Tryz.prog globs 81 av.Fn:=spec_of (E:=av.E) (envOk_at tabOk eqOk primsOk (.nil)) mixOk Tryz.func81 (by kernel_rfl)
theorem av.L1_eq (a b):av.L1 a b=
 av.L2 a b 0:=res_eq (by kernel_rfl)
theorem av.L2_eq (a b i):av.L2 a b i=
 bif (decide ((i:Int)<((List.length a:Int)))) then
  av.L3 a b i
 else
  some (true,()):=res_eq (by kernel_rfl)
theorem av.L3_eq (a b i):av.L3 a b i=
 bif (decide ((0:Int)≤i∧(i:Int)<((List.length a:Int)))) then
  bif (decide ((0:Int)≤i∧(i:Int)<((List.length b:Int)))) then
   bif ((List.getD a (Int.toNat i) 0) !=(List.getD b (Int.toNat i) 0)) then
    some (false,())
   else
    av.L4 a b i
  else none
 else none:=res_eq (by kernel_rfl)
theorem av.L4_eq (a b i):av.L4 a b i=
 av.L2 a b (IntKind.wrap .i64 (i+1)):=res_eq (by kernel_rfl)
theorem av.F_eq (a b):av.F a b=
 bif (((List.length a:Int)) !=((List.length b:Int))) then
  some (false,())
 else
  av.L1 a b:=by kernel_rfl
def aj.sg:Sig:=⟨[.val t2,.val t2],[(.bool,true)]⟩
def aj.E:Env:=⟨tl,fun i=>look i [],[],eqs,globs,prims⟩
def aj.c:=cxOf aj.E aj.sg Tryz.f118
def aj.b:=body Tryz.f118
def aj.Fn:Fun:=fnOf aj.E aj.sg Tryz.f118
def aj.F (a:t2.den) (b:t2.den):Option (Bool × Unit):=aj.Fn.F (a,b,())
def aj.L1 (b0:List Int) (b02:List Bool) (b03:Int) (b1:List Int) (b12:List Bool) (b13:Int):Option (Bool × Unit):=res aj.c (atJoin aj.b [1,0,1]) ⟨[(2,(.ptr 0 [])),(3,(.ptr 1 []))],[(0,some (.box (.agg [(.v (.slice (.int .i64)) b0),(.v (.slice .bool) b02),(.v (.int .i64) b03)]))),(1,some (.box (.agg [(.v (.slice (.int .i64)) b1),(.v (.slice .bool) b12),(.v (.int .i64) b13)])))],2,[]⟩
def aj.L2 (i:Int) (b0:List Int) (b02:List Bool) (b03:Int) (b1:List Int) (b12:List Bool) (b13:Int):Option (Bool × Unit):=res aj.c (atLoop aj.b [1,1,0,1,0]) ⟨[(2,(.ptr 0 [])),(3,(.ptr 1 [])),(5,(.v (.int .i64) i))],[(0,some (.box (.agg [(.v (.slice (.int .i64)) b0),(.v (.slice .bool) b02),(.v (.int .i64) b03)]))),(1,some (.box (.agg [(.v (.slice (.int .i64)) b1),(.v (.slice .bool) b12),(.v (.int .i64) b13)])))],2,[]⟩
def aj.L3 (i:Int) (b0:List Int) (b02:List Bool) (b03:Int) (b1:List Int) (b12:List Bool) (b13:Int):Option (Bool × Unit):=res aj.c (atJoin aj.b [1,1,0,1,0,0,0,1]) ⟨[(2,(.ptr 0 [])),(3,(.ptr 1 [])),(5,(.v (.int .i64) i))],[(0,some (.box (.agg [(.v (.slice (.int .i64)) b0),(.v (.slice .bool) b02),(.v (.int .i64) b03)]))),(1,some (.box (.agg [(.v (.slice (.int .i64)) b1),(.v (.slice .bool) b12),(.v (.int .i64) b13)])))],2,[]⟩
def aj.L4 (i:Int) (b0:List Int) (b02:List Bool) (b03:Int) (b1:List Int) (b12:List Bool) (b13:Int):Option (Bool × Unit):=res aj.c (atLoop aj.b [1,1,1,0,1,0]) ⟨[(2,(.ptr 0 [])),(3,(.ptr 1 [])),(6,(.v (.int .i64) i))],[(0,some (.box (.agg [(.v (.slice (.int .i64)) b0),(.v (.slice .bool) b02),(.v (.int .i64) b03)]))),(1,some (.box (.agg [(.v (.slice (.int .i64)) b1),(.v (.slice .bool) b12),(.v (.int .i64) b13)])))],2,[]⟩
def aj.L5 (i:Int) (b0:List Int) (b02:List Bool) (b03:Int) (b1:List Int) (b12:List Bool) (b13:Int):Option (Bool × Unit):=res aj.c (atJoin aj.b [1,1,1,0,1,0,0,0,1]) ⟨[(2,(.ptr 0 [])),(3,(.ptr 1 [])),(6,(.v (.int .i64) i))],[(0,some (.box (.agg [(.v (.slice (.int .i64)) b0),(.v (.slice .bool) b02),(.v (.int .i64) b03)]))),(1,some (.box (.agg [(.v (.slice (.int .i64)) b1),(.v (.slice .bool) b12),(.v (.int .i64) b13)])))],2,[]⟩
def aj.L6 (i:Int) (b0:List Int) (b02:List Bool) (b03:Int) (b1:List Int) (b12:List Bool) (b13:Int):Option (Bool × Unit):=res aj.c (atJoin aj.b [1,1,1,0,1,0,0,1,0,0,1]) ⟨[(2,(.ptr 0 [])),(3,(.ptr 1 [])),(6,(.v (.int .i64) i))],[(0,some (.box (.agg [(.v (.slice (.int .i64)) b0),(.v (.slice .bool) b02),(.v (.int .i64) b03)]))),(1,some (.box (.agg [(.v (.slice (.int .i64)) b1),(.v (.slice .bool) b12),(.v (.int .i64) b13)])))],2,[]⟩
def aj.L7 (i:Int) (b0:List Int) (b02:List Bool) (b03:Int) (b1:List Int) (b12:List Bool) (b13:Int):Option (Bool × Unit):=res aj.c (atJoin aj.b [1,1,0,1,0,0,1,0,0,1]) ⟨[(2,(.ptr 0 [])),(3,(.ptr 1 [])),(5,(.v (.int .i64) i))],[(0,some (.box (.agg [(.v (.slice (.int .i64)) b0),(.v (.slice .bool) b02),(.v (.int .i64) b03)]))),(1,some (.box (.agg [(.v (.slice (.int .i64)) b1),(.v (.slice .bool) b12),(.v (.int .i64) b13)])))],2,[]⟩
theorem aj.spec:FnSpec Tryz.prog globs 118 aj.Fn:=spec_of (E:=aj.E) (envOk_at tabOk eqOk primsOk (.nil)) mixOk Tryz.func118 (by kernel_rfl)
theorem aj.L1_eq (b0 b02 b03 b1 b12 b13):aj.L1 b0 b02 b03 b1 b12 b13=
 aj.L2 0 b0 b02 b03 b1 b12 b13:=res_eq (by kernel_rfl)
theorem aj.L2_eq (i b0 b02 b03 b1 b12 b13):aj.L2 i b0 b02 b03 b1 b12 b13=
 bif (decide ((i:Int)<((List.length b0:Int)))) then
  aj.L3 i b0 b02 b03 b1 b12 b13
 else
  aj.L4 0 b0 b02 b03 b1 b12 b13:=res_eq (by kernel_rfl)
theorem aj.L3_eq (i b0 b02 b03 b1 b12 b13):aj.L3 i b0 b02 b03 b1 b12 b13=
 bif (decide ((0:Int)≤i∧(i:Int)<((List.length b0:Int)))) then
  bif (decide ((0:Int)≤i∧(i:Int)<((List.length b1:Int)))) then
   bif ((List.getD b0 (Int.toNat i) 0) !=(List.getD b1 (Int.toNat i) 0)) then
    some (false,())
   else
    aj.L7 i b0 b02 b03 b1 b12 b13
  else none
 else none:=res_eq (by kernel_rfl)
theorem aj.L4_eq (i b0 b02 b03 b1 b12 b13):aj.L4 i b0 b02 b03 b1 b12 b13=
 bif (decide ((i:Int)<((List.length b02:Int)))) then
  aj.L5 i b0 b02 b03 b1 b12 b13
 else
  some (true,()):=res_eq (by kernel_rfl)
theorem aj.L5_eq (i b0 b02 b03 b1 b12 b13):aj.L5 i b0 b02 b03 b1 b12 b13=
 bif (decide ((0:Int)≤i∧(i:Int)<((List.length b02:Int)))) then
  bif (decide ((0:Int)≤i∧(i:Int)<((List.length b12:Int)))) then
   bif (!((List.getD b02 (Int.toNat i) false)==(List.getD b12 (Int.toNat i) false))) then
    some (false,())
   else
    aj.L6 i b0 b02 b03 b1 b12 b13
  else none
 else none:=res_eq (by kernel_rfl)
theorem aj.L6_eq (i b0 b02 b03 b1 b12 b13):aj.L6 i b0 b02 b03 b1 b12 b13=
 aj.L4 (IntKind.wrap .i64 (i+1)) b0 b02 b03 b1 b12 b13:=res_eq (by kernel_rfl)
theorem aj.L7_eq (i b0 b02 b03 b1 b12 b13):aj.L7 i b0 b02 b03 b1 b12 b13=
 aj.L2 (IntKind.wrap .i64 (i+1)) b0 b02 b03 b1 b12 b13:=res_eq (by kernel_rfl)
theorem aj.F_eq (a b):aj.F a b=
 bif (a.2.2.1 !=b.2.2.1) then
  some (false,())
 else
  bif (((List.length a.1:Int)) !=((List.length b.1:Int))) then
   some (false,())
  else
   bif (((List.length a.2.1:Int)) !=((List.length b.2.1:Int))) then
    some (false,())
   else
    aj.L1 a.1 a.2.1 a.2.2.1 b.1 b.2.1 b.2.2.1:=by kernel_rfl
def cc.sg:Sig:=⟨[.val (.slice t3),.val (.slice t3)],[(.bool,true)]⟩
def cc.E:Env:=⟨tl,fun i=>look i [],[],eqs,globs,prims⟩
def cc.c:=cxOf cc.E cc.sg Tryz.f119
def cc.b:=body Tryz.f119
def cc.Fn:Fun:=fnOf cc.E cc.sg Tryz.f119
def cc.F (a b:List t3.den):Option (Bool × Unit):=cc.Fn.F (a,b,())
def cc.L1 (a b:List t3.den):Option (Bool × Unit):=res cc.c (atJoin cc.b [1,0,1]) ⟨[(0,(.v (.slice t3) a)),(1,(.v (.slice t3) b))],[],0,[]⟩
def cc.L2 (a b:List t3.den) (i:Int):Option (Bool × Unit):=res cc.c (atLoop cc.b [1,1,0,1,0]) ⟨[(0,(.v (.slice t3) a)),(1,(.v (.slice t3) b)),(5,(.v (.int .i64) i))],[],0,[]⟩
def cc.L3 (a b:List t3.den) (i:Int):Option (Bool × Unit):=res cc.c (atJoin cc.b [1,1,0,1,0,0,0,1]) ⟨[(0,(.v (.slice t3) a)),(1,(.v (.slice t3) b)),(5,(.v (.int .i64) i))],[],0,[]⟩
def cc.L4 (a b:List t3.den) (i:Int):Option (Bool × Unit):=res cc.c (atJoin cc.b [1,1,0,1,0,0,1,0,0,1]) ⟨[(0,(.v (.slice t3) a)),(1,(.v (.slice t3) b)),(5,(.v (.int .i64) i))],[],0,[]⟩
theorem cc.spec:FnSpec Tryz.prog globs 119 cc.Fn:=spec_of (E:=cc.E) (envOk_at tabOk eqOk primsOk (.nil)) mixOk Tryz.func119 (by kernel_rfl)
theorem cc.L1_eq (a b):cc.L1 a b=
 cc.L2 a b 0:=res_eq (by kernel_rfl)
theorem cc.L2_eq (a b i):cc.L2 a b i=
 bif (decide ((i:Int)<((List.length a:Int)))) then
  cc.L3 a b i
 else
  some (true,()):=res_eq (by kernel_rfl)
theorem cc.L3_eq (a b i):cc.L3 a b i=
 bif (decide ((0:Int)≤i∧(i:Int)<((List.length a:Int)))) then
  bif (decide ((0:Int)≤i∧(i:Int)<((List.length b:Int)))) then
   bif (!(Ty.beq t3 (List.getD a (Int.toNat i) (0,0,false,())) (List.getD b (Int.toNat i) (0,0,false,())))) then
    some (false,())
   else
    cc.L4 a b i
  else none
 else none:=res_eq (by kernel_rfl)
theorem cc.L4_eq (a b i):cc.L4 a b i=
 cc.L2 a b (IntKind.wrap .i64 (i+1)):=res_eq (by kernel_rfl)
theorem cc.F_eq (a b):cc.F a b=
 bif (((List.length a:Int)) !=((List.length b:Int))) then
  some (false,())
 else
  cc.L1 a b:=by kernel_rfl
def bz.sg:Sig:=⟨[.val t5,.val t5],[(.bool,true)]⟩
def bz.E:Env:=⟨tl,fun i=>look i [(81,av.Fn),(118,aj.Fn),(119,cc.Fn),(120,fv.Fn)],[],eqs,globs,prims⟩
def bz.c:=cxOf bz.E bz.sg Tryz.f80
def bz.b:=body Tryz.f80
def bz.Fn:Fun:=fnOf bz.E bz.sg Tryz.f80
def bz.F (a:t5.den) (b:t5.den):Option (Bool × Unit):=bz.Fn.F (a,b,())
def bz.L1 (b0:Int) (b02:List Int) (b03:List t1.den) (b04:List Int) (b05:List Bool) (b06:Int) (b07:List t3.den) (b08 b09:List Int) (b010 b011 b1:Int) (b12:List Int) (b13:List t1.den) (b14:List Int) (b15:List Bool) (b16:Int) (b17:List t3.den) (b18 b19:List Int) (b110 b111:Int):Option (Bool × Unit):=res bz.c (atJoin bz.b [1,0,1]) ⟨[(2,(.ptr 0 [])),(3,(.ptr 1 []))],[(0,some (.box (.agg [(.v (.int .i64) b0),(.v (.slice (.int .u32)) b02),(.v (.slice t1) b03),(.agg [(.v (.slice (.int .i64)) b04),(.v (.slice .bool) b05),(.v (.int .i64) b06)]),(.v (.slice t3) b07),(.agg [(.v (.slice (.int .i64)) b08),(.v (.slice (.int .i64)) b09),(.v (.int .i64) b010),(.v (.int .i64) b011)])]))),(1,some (.box (.agg [(.v (.int .i64) b1),(.v (.slice (.int .u32)) b12),(.v (.slice t1) b13),(.agg [(.v (.slice (.int .i64)) b14),(.v (.slice .bool) b15),(.v (.int .i64) b16)]),(.v (.slice t3) b17),(.agg [(.v (.slice (.int .i64)) b18),(.v (.slice (.int .i64)) b19),(.v (.int .i64) b110),(.v (.int .i64) b111)])])))],2,[]⟩
def bz.L2 (i b0:Int) (b02:List Int) (b03:List t1.den) (b04:List Int) (b05:List Bool) (b06:Int) (b07:List t3.den) (b08 b09:List Int) (b010 b011 b1:Int) (b12:List Int) (b13:List t1.den) (b14:List Int) (b15:List Bool) (b16:Int) (b17:List t3.den) (b18 b19:List Int) (b110 b111:Int):Option (Bool × Unit):=res bz.c (atLoop bz.b [1,1,0,1,0]) ⟨[(2,(.ptr 0 [])),(3,(.ptr 1 [])),(5,(.v (.int .i64) i))],[(0,some (.box (.agg [(.v (.int .i64) b0),(.v (.slice (.int .u32)) b02),(.v (.slice t1) b03),(.agg [(.v (.slice (.int .i64)) b04),(.v (.slice .bool) b05),(.v (.int .i64) b06)]),(.v (.slice t3) b07),(.agg [(.v (.slice (.int .i64)) b08),(.v (.slice (.int .i64)) b09),(.v (.int .i64) b010),(.v (.int .i64) b011)])]))),(1,some (.box (.agg [(.v (.int .i64) b1),(.v (.slice (.int .u32)) b12),(.v (.slice t1) b13),(.agg [(.v (.slice (.int .i64)) b14),(.v (.slice .bool) b15),(.v (.int .i64) b16)]),(.v (.slice t3) b17),(.agg [(.v (.slice (.int .i64)) b18),(.v (.slice (.int .i64)) b19),(.v (.int .i64) b110),(.v (.int .i64) b111)])])))],2,[]⟩
def bz.L3 (i b0:Int) (b02:List Int) (b03:List t1.den) (b04:List Int) (b05:List Bool) (b06:Int) (b07:List t3.den) (b08 b09:List Int) (b010 b011 b1:Int) (b12:List Int) (b13:List t1.den) (b14:List Int) (b15:List Bool) (b16:Int) (b17:List t3.den) (b18 b19:List Int) (b110 b111:Int):Option (Bool × Unit):=res bz.c (atJoin bz.b [1,1,0,1,0,0,0,1]) ⟨[(2,(.ptr 0 [])),(3,(.ptr 1 [])),(5,(.v (.int .i64) i))],[(0,some (.box (.agg [(.v (.int .i64) b0),(.v (.slice (.int .u32)) b02),(.v (.slice t1) b03),(.agg [(.v (.slice (.int .i64)) b04),(.v (.slice .bool) b05),(.v (.int .i64) b06)]),(.v (.slice t3) b07),(.agg [(.v (.slice (.int .i64)) b08),(.v (.slice (.int .i64)) b09),(.v (.int .i64) b010),(.v (.int .i64) b011)])]))),(1,some (.box (.agg [(.v (.int .i64) b1),(.v (.slice (.int .u32)) b12),(.v (.slice t1) b13),(.agg [(.v (.slice (.int .i64)) b14),(.v (.slice .bool) b15),(.v (.int .i64) b16)]),(.v (.slice t3) b17),(.agg [(.v (.slice (.int .i64)) b18),(.v (.slice (.int .i64)) b19),(.v (.int .i64) b110),(.v (.int .i64) b111)])])))],2,[]⟩
def bz.L4 (i b0:Int) (b02:List Int) (b03:List t1.den) (b04:List Int) (b05:List Bool) (b06:Int) (b07:List t3.den) (b08 b09:List Int) (b010 b011 b1:Int) (b12:List Int) (b13:List t1.den) (b14:List Int) (b15:List Bool) (b16:Int) (b17:List t3.den) (b18 b19:List Int) (b110 b111:Int):Option (Bool × Unit):=res bz.c (atJoin bz.b [1,1,0,1,0,0,1,0,0,1]) ⟨[(2,(.ptr 0 [])),(3,(.ptr 1 [])),(5,(.v (.int .i64) i))],[(0,some (.box (.agg [(.v (.int .i64) b0),(.v (.slice (.int .u32)) b02),(.v (.slice t1) b03),(.agg [(.v (.slice (.int .i64)) b04),(.v (.slice .bool) b05),(.v (.int .i64) b06)]),(.v (.slice t3) b07),(.agg [(.v (.slice (.int .i64)) b08),(.v (.slice (.int .i64)) b09),(.v (.int .i64) b010),(.v (.int .i64) b011)])]))),(1,some (.box (.agg [(.v (.int .i64) b1),(.v (.slice (.int .u32)) b12),(.v (.slice t1) b13),(.agg [(.v (.slice (.int .i64)) b14),(.v (.slice .bool) b15),(.v (.int .i64) b16)]),(.v (.slice t3) b17),(.agg [(.v (.slice (.int .i64)) b18),(.v (.slice (.int .i64)) b19),(.v (.int .i64) b110),(.v (.int .i64) b111)])])))],2,[]⟩
theorem bz.spec:FnSpec Tryz.prog globs 80 bz.Fn:=spec_of (E:=bz.E) (envOk_at tabOk eqOk primsOk (.cons av.spec<|.cons aj.spec<|.cons cc.spec<|.cons fv.spec<|.nil)) mixOk Tryz.func80 (by kernel_rfl)
theorem bz.L1_eq (b0 b02 b03 b04 b05 b06 b07 b08 b09 b010 b011 b1 b12 b13 b14 b15 b16 b17 b18 b19 b110 b111):bz.L1 b0 b02 b03 b04 b05 b06 b07 b08 b09 b010 b011 b1 b12 b13 b14 b15 b16 b17 b18 b19 b110 b111=
 bz.L2 0 b0 b02 b03 b04 b05 b06 b07 b08 b09 b010 b011 b1 b12 b13 b14 b15 b16 b17 b18 b19 b110 b111:=res_eq (by kernel_rfl)
theorem bz.L2_eq (i b0 b02 b03 b04 b05 b06 b07 b08 b09 b010 b011 b1 b12 b13 b14 b15 b16 b17 b18 b19 b110 b111):bz.L2 i b0 b02 b03 b04 b05 b06 b07 b08 b09 b010 b011 b1 b12 b13 b14 b15 b16 b17 b18 b19 b110 b111=
 bif (decide ((i:Int)<((List.length b03:Int)))) then
  bz.L3 i b0 b02 b03 b04 b05 b06 b07 b08 b09 b010 b011 b1 b12 b13 b14 b15 b16 b17 b18 b19 b110 b111
 else
  some (true,()):=res_eq (by kernel_rfl)
theorem bz.L3_eq (i b0 b02 b03 b04 b05 b06 b07 b08 b09 b010 b011 b1 b12 b13 b14 b15 b16 b17 b18 b19 b110 b111):bz.L3 i b0 b02 b03 b04 b05 b06 b07 b08 b09 b010 b011 b1 b12 b13 b14 b15 b16 b17 b18 b19 b110 b111=
 bif (decide ((0:Int)≤i∧(i:Int)<((List.length b03:Int)))) then
  bif (decide ((0:Int)≤i∧(i:Int)<((List.length b13:Int)))) then
   bif (!(Ty.beq t1 (List.getD b03 (Int.toNat i) ((0,0,0,()),0,0,0,())) (List.getD b13 (Int.toNat i) ((0,0,0,()),0,0,0,())))) then
    some (false,())
   else
    bz.L4 i b0 b02 b03 b04 b05 b06 b07 b08 b09 b010 b011 b1 b12 b13 b14 b15 b16 b17 b18 b19 b110 b111
  else none
 else none:=res_eq (by kernel_rfl)
theorem bz.L4_eq (i b0 b02 b03 b04 b05 b06 b07 b08 b09 b010 b011 b1 b12 b13 b14 b15 b16 b17 b18 b19 b110 b111):bz.L4 i b0 b02 b03 b04 b05 b06 b07 b08 b09 b010 b011 b1 b12 b13 b14 b15 b16 b17 b18 b19 b110 b111=
 bz.L2 (IntKind.wrap .i64 (i+1)) b0 b02 b03 b04 b05 b06 b07 b08 b09 b010 b011 b1 b12 b13 b14 b15 b16 b17 b18 b19 b110 b111:=res_eq (by kernel_rfl)
theorem bz.F_eq (a b):bz.F a b=
 bif (a.1 !=b.1) then
  some (false,())
 else
  (av.F a.2.1 b.2.1).bind fun r0=>
  bif (!r0.1) then
   some (false,())
  else
   bif (((List.length a.2.2.1:Int)) !=((List.length b.2.2.1:Int))) then
    some (false,())
   else
    (aj.F a.2.2.2.1 b.2.2.2.1).bind fun r1=>
    bif (!r1.1) then
     some (false,())
    else
     (cc.F a.2.2.2.2.1 b.2.2.2.2.1).bind fun r2=>
     bif (!r2.1) then
      some (false,())
     else
      (fv.F a.2.2.2.2.2.1 b.2.2.2.2.2.1).bind fun r3=>
      bif (!r3.1) then
       some (false,())
      else
       bz.L1 a.1 a.2.1 a.2.2.1 a.2.2.2.1.1 a.2.2.2.1.2.1 a.2.2.2.1.2.2.1 a.2.2.2.2.1 a.2.2.2.2.2.1.1 a.2.2.2.2.2.1.2.1 a.2.2.2.2.2.1.2.2.1 a.2.2.2.2.2.1.2.2.2.1 b.1 b.2.1 b.2.2.1 b.2.2.2.1.1 b.2.2.2.1.2.1 b.2.2.2.1.2.2.1 b.2.2.2.2.1 b.2.2.2.2.2.1.1 b.2.2.2.2.2.1.2.1 b.2.2.2.2.2.1.2.2.1 b.2.2.2.2.2.1.2.2.2.1:=by kernel_rfl
def gg.sg:Sig:=⟨[.val t7,.val t7],[(.bool,true)]⟩
def gg.E:Env:=⟨tl,fun i=>look i [(80,bz.Fn),(81,av.Fn)],[],eqs,globs,prims⟩
def gg.Fn:Fun:=fnOf gg.E gg.sg Tryz.f54
def gg.F (a:t7.den) (b:t7.den):Option (Bool × Unit):=gg.Fn.F (a,b,())
theorem gg.spec:FnSpec Tryz.prog globs 54 gg.Fn:=spec_of (E:=gg.E) (envOk_at tabOk eqOk primsOk (.cons bz.spec<|.cons av.spec<|.nil)) mixOk Tryz.func54 (by kernel_rfl)
theorem gg.F_eq (a b):gg.F a b=
 bif (a.1==b.1) then
  bif (Ty.beq (.arr 3 t0) a.2.1 b.2.1) then
   bif (Ty.beq t1 a.2.2.1 b.2.2.1) then
    (bz.F a.2.2.2.1 b.2.2.2.1).bind fun r0=>
    bif r0.1 then
     (bz.F a.2.2.2.2.1 b.2.2.2.2.1).bind fun r1=>
     bif r1.1 then
      (av.F a.2.2.2.2.2.1 b.2.2.2.2.2.1).bind fun r2=>
      bif r2.1 then
       some ((Ty.beq t6 a.2.2.2.2.2.2.1 b.2.2.2.2.2.2.1),())
      else
       some (false,())
     else
      some (false,())
    else
     some (false,())
   else
    some (false,())
  else
   some (false,())
 else
  some (false,()):=by kernel_rfl
def cd.sg:Sig:=⟨[.val (.slice t7),.val (.slice t7)],[(.bool,true)]⟩
def cd.E:Env:=⟨tl,fun i=>look i [(54,gg.Fn)],[],eqs,globs,prims⟩
def cd.c:=cxOf cd.E cd.sg Tryz.f30
def cd.b:=body Tryz.f30
def cd.Fn:Fun:=fnOf cd.E cd.sg Tryz.f30
def cd.F (a b:List t7.den):Option (Bool × Unit):=cd.Fn.F (a,b,())
def cd.L1 (a b:List t7.den):Option (Bool × Unit):=res cd.c (atJoin cd.b [1,0,1]) ⟨[(0,(.v (.slice t7) a)),(1,(.v (.slice t7) b))],[],0,[]⟩
def cd.L2 (a b:List t7.den) (i:Int):Option (Bool × Unit):=res cd.c (atLoop cd.b [1,1,0,1,0]) ⟨[(0,(.v (.slice t7) a)),(1,(.v (.slice t7) b)),(5,(.v (.int .i64) i))],[],0,[]⟩
def cd.L3 (a b:List t7.den) (i:Int):Option (Bool × Unit):=res cd.c (atJoin cd.b [1,1,0,1,0,0,0,1]) ⟨[(0,(.v (.slice t7) a)),(1,(.v (.slice t7) b)),(5,(.v (.int .i64) i))],[],0,[]⟩
def cd.L4 (a b:List t7.den) (i:Int):Option (Bool × Unit):=res cd.c (atJoin cd.b [1,1,0,1,0,0,1,0,0,1]) ⟨[(0,(.v (.slice t7) a)),(1,(.v (.slice t7) b)),(5,(.v (.int .i64) i))],[],0,[]⟩
theorem cd.spec:FnSpec Tryz.prog globs 30 cd.Fn:=spec_of (E:=cd.E) (envOk_at tabOk eqOk primsOk (.cons gg.spec<|.nil)) mixOk Tryz.func30 (by kernel_rfl)
theorem cd.L1_eq (a b):cd.L1 a b=
 cd.L2 a b 0:=res_eq (by kernel_rfl)
theorem cd.L2_eq (a b i):cd.L2 a b i=
 bif (decide ((i:Int)<((List.length a:Int)))) then
  cd.L3 a b i
 else
  some (true,()):=res_eq (by kernel_rfl)
theorem cd.L3_eq (a b i):cd.L3 a b i=
 bif (decide ((0:Int)≤i∧(i:Int)<((List.length a:Int)))) then
  bif (decide ((0:Int)≤i∧(i:Int)<((List.length b:Int)))) then
   (gg.F (List.getD a (Int.toNat i) d7_) (List.getD b (Int.toNat i) d7_)).bind fun r0=>
   bif (!r0.1) then
    some (false,())
   else
    cd.L4 a b i
  else none
 else none:=res_eq (by kernel_rfl)
theorem cd.L4_eq (a b i):cd.L4 a b i=
 cd.L2 a b (IntKind.wrap .i64 (i+1)):=res_eq (by kernel_rfl)
theorem cd.F_eq (a b):cd.F a b=
 bif (((List.length a:Int)) !=((List.length b:Int))) then
  some (false,())
 else
  cd.L1 a b:=by kernel_rfl
def gj.sg:Sig:=⟨[.val t8,.val t8],[(.bool,true)]⟩
def gj.E:Env:=⟨tl,fun i=>look i [(30,cd.Fn)],[],eqs,globs,prims⟩
def gj.Fn:Fun:=fnOf gj.E gj.sg Tryz.f11
def gj.F (a:t8.den) (b:t8.den):Option (Bool × Unit):=gj.Fn.F (a,b,())
theorem gj.spec:FnSpec Tryz.prog globs 11 gj.Fn:=spec_of (E:=gj.E) (envOk_at tabOk eqOk primsOk (.cons cd.spec<|.nil)) mixOk Tryz.func11 (by kernel_rfl)
theorem gj.F_eq (a b):gj.F a b=
 bif (a.1==b.1) then
  bif (Ty.beq (.arr 32 (.int .u8)) a.2.1 b.2.1) then
   bif (Ty.beq (.arr 16 (.int .u32)) a.2.2.1 b.2.2.1) then
    (cd.F a.2.2.2.1 b.2.2.2.1).bind fun r0=>
    some (r0.1,())
   else
    some (false,())
  else
   some (false,())
 else
  some (false,()):=by kernel_rfl
def cg.sg:Sig:=⟨[.val (.slice t7)],[((.int .i64),true)]⟩
def cg.E:Env:=⟨tl,fun i=>look i [(128,a9.Fn)],[],eqs,globs,prims⟩
def cg.c:=cxOf cg.E cg.sg Tryz.f84
def cg.b:=body Tryz.f84
def cg.Fn:Fun:=fnOf cg.E cg.sg Tryz.f84
def cg.F (l:List t7.den):Option (Int × Unit):=cg.Fn.F (l,())
def cg.L1 (l:List t7.den):Option (Int × Unit):=res cg.c (atJoin cg.b [1,0,1]) ⟨[(0,(.v (.slice t7) l))],[],0,[]⟩
def cg.L2 (l:List t7.den) (t9_ t10_:Int):Option (Int × Unit):=res cg.c (atLoop cg.b [1,1,0,1,0]) ⟨[(0,(.v (.slice t7) l)),(8,(.v (.slice t7) l)),(9,(.v (.int .i64) t9_)),(10,(.v (.int .i64) t10_))],[],0,[]⟩
def cg.L3 (l:List t7.den) (t9_ t10_:Int):Option (Int × Unit):=res cg.c (atJoin cg.b [1,1,0,1,0,0,1,0]) ⟨[(0,(.v (.slice t7) l)),(8,(.v (.slice t7) l)),(9,(.v (.int .i64) t9_)),(10,(.v (.int .i64) t10_))],[],0,[]⟩
def cg.L4 (l:List t7.den) (t9_ t10_:Int):Option (Int × Unit):=res cg.c (atJoin cg.b [1,1,0,1,0,0,1,1,0,0,1,1]) ⟨[(0,(.v (.slice t7) l)),(8,(.v (.slice t7) l)),(9,(.v (.int .i64) t9_)),(10,(.v (.int .i64) t10_))],[],0,[]⟩
theorem cg.spec:FnSpec Tryz.prog globs 84 cg.Fn:=spec_of (E:=cg.E) (envOk_at tabOk eqOk primsOk (.cons a9.spec<|.nil)) mixOk Tryz.func84 (by kernel_rfl)
theorem cg.L1_eq (l):cg.L1 l=
 cg.L2 l ((List.length l:Int)) 0:=res_eq (by kernel_rfl)
theorem cg.L2_eq (l t9_ t10_):cg.L2 l t9_ t10_=
 bif (decide ((t10_:Int)<t9_)) then
  cg.L3 l t9_ t10_
 else
  some (0,()):=res_eq (by kernel_rfl)
theorem cg.L3_eq (l t9_ t10_):cg.L3 l t9_ t10_=
 bif (decide ((0:Int)≤t10_∧(t10_:Int)<((List.length l:Int)))) then
  (a9.F (List.getD l (Int.toNat t10_) d7_)).bind fun r0=>
  bif (r0.1 !=0) then
   some (8,())
  else
   bif (decide ((t10_:Int)>0)) then
    bif (decide ((0:Int)≤(IntKind.wrap .i64 (t10_ - 1))∧((IntKind.wrap .i64 (t10_ - 1)):Int)<((List.length l:Int)))) then
     bif (decide ((((List.getD l (Int.toNat (IntKind.wrap .i64 (t10_ - 1))) d7_).1):Int)≥((List.getD l (Int.toNat t10_) d7_).1))) then
      some (8,())
     else
      cg.L4 l t9_ t10_
    else none
   else
    cg.L4 l t9_ t10_
 else none:=res_eq (by kernel_rfl)
theorem cg.L4_eq (l t9_ t10_):cg.L4 l t9_ t10_=
 cg.L2 l t9_ (IntKind.wrap .i64 (t10_+1)):=res_eq (by kernel_rfl)
theorem cg.F_eq (l):cg.F l=
 bif (decide ((((List.length l:Int)):Int)>8)) then
  some (4,())
 else
  cg.L1 l:=by kernel_rfl
def dz.sg:Sig:=⟨[.val (.slice (.int .u32))],[((.int .u32),true)]⟩
def dz.E:Env:=⟨tl,fun i=>look i [],[],eqs,globs,prims⟩
def dz.c:=cxOf dz.E dz.sg Tryz.f85
def dz.b:=body Tryz.f85
def dz.Fn:Fun:=fnOf dz.E dz.sg Tryz.f85
def dz.F (x:List Int):Option (Int × Unit):=dz.Fn.F (x,())
def dz.L1 (x:List Int):Option (Int × Unit):=res dz.c (atJoin dz.b [1,0,1]) ⟨[(0,(.v (.slice (.int .u32)) x))],[],0,[]⟩
def dz.L2 (x:List Int) (m i:Int):Option (Int × Unit):=res dz.c (atLoop dz.b [1,1,1,0,1,0]) ⟨[(0,(.v (.slice (.int .u32)) x)),(3,(.v (.int .u32) m)),(4,(.v (.int .i64) i))],[],0,[]⟩
def dz.L3 (x:List Int) (m i:Int):Option (Int × Unit):=res dz.c (atJoin dz.b [1,1,1,0,1,0,0,0,1]) ⟨[(0,(.v (.slice (.int .u32)) x)),(3,(.v (.int .u32) m)),(4,(.v (.int .i64) i))],[],0,[]⟩
theorem dz.spec:FnSpec Tryz.prog globs 85 dz.Fn:=spec_of (E:=dz.E) (envOk_at tabOk eqOk primsOk (.nil)) mixOk Tryz.func85 (by kernel_rfl)
theorem dz.L1_eq (x):dz.L1 x=
 bif (decide ((0:Int)≤0∧(0:Int)<((List.length x:Int)))) then
  dz.L2 x (List.getD x (Int.toNat 0) 0) 1
 else none:=res_eq (by kernel_rfl)
theorem dz.L2_eq (x m i):dz.L2 x m i=
 bif (decide ((i:Int)<((List.length x:Int)))) then
  dz.L3 x m i
 else
  some (m,()):=res_eq (by kernel_rfl)
theorem dz.L3_eq (x m i):dz.L3 x m i=
 bif (decide ((0:Int)≤i∧(i:Int)<((List.length x:Int)))) then
  dz.L2 x (max m (List.getD x (Int.toNat i) 0)) (IntKind.wrap .i64 (i+1))
 else none:=res_eq (by kernel_rfl)
theorem dz.F_eq (x):dz.F x=
 bif (decide ((((List.length x:Int)):Int)<1)) then
  none
 else
  dz.L1 x:=by kernel_rfl
def gq.sg:Sig:=⟨[.val t1,.io (.int .u64) false],[(.bool,true)]⟩
def gq.E:Env:=⟨tl,fun i=>look i [],[],eqs,globs,prims⟩
def gq.Fn:Fun:=fnOf gq.E gq.sg Tryz.f130
def gq.F (b:t1.den) (x1:Int):Option (Int × Bool × Unit):=gq.Fn.F (b,x1,())
theorem gq.spec:FnSpec Tryz.prog globs 130 gq.Fn:=spec_of (E:=gq.E) (envOk_at tabOk eqOk primsOk (.nil)) mixOk Tryz.func130 (by kernel_rfl)
theorem gq.F_eq (b x1):gq.F b x1=
 some (x1,(decide ((b.2.2.2.1:Int)>x1)),()):=by kernel_rfl
def bh.sg:Sig:=⟨[.val (.slice t1),.clo 130 (.int .u64)],[((.int .i64),true)]⟩
def bh.E:Env:=⟨tl,fun i=>look i [(130,gq.Fn)],[],eqs,globs,prims⟩
def bh.c:=cxOf bh.E bh.sg Tryz.f170
def bh.b:=body Tryz.f170
def bh.Fn:Fun:=fnOf bh.E bh.sg Tryz.f170
def bh.F (s:List t1.den) (f:Int):Option (Int × Int × Unit):=bh.Fn.F (s,f,())
def bh.L1 (s:List t1.den) (t7_ t8_ b0:Int):Option (Int × Int × Unit):=res bh.c (atLoop bh.b [1,0,1,0]) ⟨[(0,(.v (.slice t1) s)),(1,(.fn 130 [(.ptr 0 [])])),(7,(.v (.int .i64) t7_)),(8,(.v (.int .i64) t8_))],[(0,some (.box (.v (.int .u64) b0)))],1,[(.ptr 0 [])]⟩
def bh.L2 (s:List t1.den) (t7_ t8_ b0:Int):Option (Int × Int × Unit):=res bh.c (atJoin bh.b [1,0,1,0,0,1,0]) ⟨[(0,(.v (.slice t1) s)),(1,(.fn 130 [(.ptr 0 [])])),(7,(.v (.int .i64) t7_)),(8,(.v (.int .i64) t8_))],[(0,some (.box (.v (.int .u64) b0)))],1,[(.ptr 0 [])]⟩
def bh.L3 (s:List t1.den) (t7_ t8_ b0:Int):Option (Int × Int × Unit):=res bh.c (atJoin bh.b [1,0,1,0,0,1,1,0,0,1,1]) ⟨[(0,(.v (.slice t1) s)),(1,(.fn 130 [(.ptr 0 [])])),(7,(.v (.int .i64) t7_)),(8,(.v (.int .i64) t8_))],[(0,some (.box (.v (.int .u64) b0)))],1,[(.ptr 0 [])]⟩
theorem bh.spec:FnSpec Tryz.prog globs 170 bh.Fn:=spec_of (E:=bh.E) (envOk_at tabOk eqOk primsOk (.cons gq.spec<|.nil)) mixOk Tryz.func170 (by kernel_rfl)
theorem bh.L1_eq (s t7_ t8_ b0):bh.L1 s t7_ t8_ b0=
 bif (decide ((t8_:Int)<t7_)) then
  bh.L2 s t7_ t8_ b0
 else
  some (b0,(-1),()):=res_eq (by kernel_rfl)
theorem bh.L2_eq (s t7_ t8_ b0):bh.L2 s t7_ t8_ b0=
 bif (decide ((0:Int)≤t8_∧(t8_:Int)<((List.length s:Int)))) then
  (gq.F (List.getD s (Int.toNat t8_) ((0,0,0,()),0,0,0,())) b0).bind fun r0=>
  bif r0.2.1 then
   some (r0.1,t8_,())
  else
   bh.L3 s t7_ t8_ r0.1
 else none:=res_eq (by kernel_rfl)
theorem bh.L3_eq (s t7_ t8_ b0):bh.L3 s t7_ t8_ b0=
 bh.L1 s t7_ (IntKind.wrap .i64 (t8_+1)) b0:=res_eq (by kernel_rfl)
theorem bh.F_eq (s f):bh.F s f=
 bh.L1 s ((List.length s:Int)) 0 f:=by kernel_rfl
def ek.sg:Sig:=⟨[.val (.slice t1),.clo 130 (.int .u64)],[(.bool,true)]⟩
def ek.E:Env:=⟨tl,fun i=>look i [(170,bh.Fn),(130,gq.Fn)],[],eqs,globs,prims⟩
def ek.Fn:Fun:=fnOf ek.E ek.sg Tryz.f131
def ek.F (s:List t1.den) (f:Int):Option (Int × Bool × Unit):=ek.Fn.F (s,f,())
theorem ek.spec:FnSpec Tryz.prog globs 131 ek.Fn:=spec_of (E:=ek.E) (envOk_at tabOk eqOk primsOk (.cons bh.spec<|.cons gq.spec<|.nil)) mixOk Tryz.func131 (by kernel_rfl)
theorem ek.F_eq (s f):ek.F s f=
 (bh.F s f).bind fun r0=>
 some (r0.1,(decide ((r0.2.1:Int)≥0)),()):=by kernel_rfl
def ig.sg:Sig:=⟨[.val t7,.val (.int .u64)],[(.bool,true)]⟩
def ig.E:Env:=⟨tl,fun i=>look i [(130,gq.Fn),(131,ek.Fn)],[],eqs,globs,prims⟩
def ig.Fn:Fun:=fnOf ig.E ig.sg Tryz.f88
def ig.F (p:t7.den) (tick:Int):Option (Bool × Unit):=ig.Fn.F (p,tick,())
theorem ig.spec:FnSpec Tryz.prog globs 88 ig.Fn:=spec_of (E:=ig.E) (envOk_at tabOk eqOk primsOk (.cons gq.spec<|.cons ek.spec<|.nil)) mixOk Tryz.func88 (by kernel_rfl)
theorem ig.F_eq (p tick):ig.F p tick=
 (gq.F p.2.2.1 tick).bind fun r0=>
 bif r0.2.1 then
  some (true,())
 else
  (ek.F p.2.2.2.1.2.2.1 r0.1).bind fun r1=>
  bif r1.2.1 then
   some (true,())
  else
   (ek.F p.2.2.2.2.1.2.2.1 r1.1).bind fun r2=>
   some (r2.2.1,()):=by kernel_rfl
def gr.sg:Sig:=⟨[.val t7,.io t8 false],[(.bool,true)]⟩
def gr.E:Env:=⟨tl,fun i=>look i [(88,ig.Fn)],[],eqs,globs,prims⟩
def gr.Fn:Fun:=fnOf gr.E gr.sg Tryz.f87
def gr.F (p:t7.den) (x1:t8.den):Option (t8.den × Bool × Unit):=gr.Fn.F (p,x1,())
theorem gr.spec:FnSpec Tryz.prog globs 87 gr.Fn:=spec_of (E:=gr.E) (envOk_at tabOk eqOk primsOk (.cons ig.spec<|.nil)) mixOk Tryz.func87 (by kernel_rfl)
theorem gr.F_eq (p x1):gr.F p x1=
 (ig.F p x1.1).bind fun r0=>
 some (x1,r0.1,()):=by kernel_rfl
def bi.sg:Sig:=⟨[.val (.slice t7),.clo 87 t8],[((.int .i64),true)]⟩
def bi.E:Env:=⟨tl,fun i=>look i [(87,gr.Fn)],[],eqs,globs,prims⟩
def bi.c:=cxOf bi.E bi.sg Tryz.f129
def bi.b:=body Tryz.f129
def bi.Fn:Fun:=fnOf bi.E bi.sg Tryz.f129
def bi.F (s:List t7.den) (f:t8.den):Option (t8.den × Int × Unit):=bi.Fn.F (s,f,())
def bi.L1 (s:List t7.den) (t7_ t8_ b0:Int) (b02 b03:List Int) (b04:List t7.den):Option (t8.den × Int × Unit):=res bi.c (atLoop bi.b [1,0,1,0]) ⟨[(0,(.v (.slice t7) s)),(1,(.fn 87 [(.ptr 0 [])])),(7,(.v (.int .i64) t7_)),(8,(.v (.int .i64) t8_))],[(0,some (.box (.agg [(.v (.int .u64) b0),(.v (.arr 32 (.int .u8)) b02),(.v (.arr 16 (.int .u32)) b03),(.v (.slice t7) b04)])))],1,[(.ptr 0 [])]⟩
def bi.L2 (s:List t7.den) (t7_ t8_ b0:Int) (b02 b03:List Int) (b04:List t7.den):Option (t8.den × Int × Unit):=res bi.c (atJoin bi.b [1,0,1,0,0,1,0]) ⟨[(0,(.v (.slice t7) s)),(1,(.fn 87 [(.ptr 0 [])])),(7,(.v (.int .i64) t7_)),(8,(.v (.int .i64) t8_))],[(0,some (.box (.agg [(.v (.int .u64) b0),(.v (.arr 32 (.int .u8)) b02),(.v (.arr 16 (.int .u32)) b03),(.v (.slice t7) b04)])))],1,[(.ptr 0 [])]⟩
def bi.L3 (s:List t7.den) (t7_ t8_ b0:Int) (b02 b03:List Int) (b04:List t7.den):Option (t8.den × Int × Unit):=res bi.c (atJoin bi.b [1,0,1,0,0,1,1,0,0,1,1]) ⟨[(0,(.v (.slice t7) s)),(1,(.fn 87 [(.ptr 0 [])])),(7,(.v (.int .i64) t7_)),(8,(.v (.int .i64) t8_))],[(0,some (.box (.agg [(.v (.int .u64) b0),(.v (.arr 32 (.int .u8)) b02),(.v (.arr 16 (.int .u32)) b03),(.v (.slice t7) b04)])))],1,[(.ptr 0 [])]⟩
theorem bi.spec:FnSpec Tryz.prog globs 129 bi.Fn:=spec_of (E:=bi.E) (envOk_at tabOk eqOk primsOk (.cons gr.spec<|.nil)) mixOk Tryz.func129 (by kernel_rfl)
theorem bi.L1_eq (s t7_ t8_ b0 b02 b03 b04):bi.L1 s t7_ t8_ b0 b02 b03 b04=
 bif (decide ((t8_:Int)<t7_)) then
  bi.L2 s t7_ t8_ b0 b02 b03 b04
 else
  some ((b0,b02,b03,b04,()),(-1),()):=res_eq (by kernel_rfl)
theorem bi.L2_eq (s t7_ t8_ b0 b02 b03 b04):bi.L2 s t7_ t8_ b0 b02 b03 b04=
 bif (decide ((0:Int)≤t8_∧(t8_:Int)<((List.length s:Int)))) then
  (gr.F (List.getD s (Int.toNat t8_) d7_) (b0,b02,b03,b04,())).bind fun r0=>
  bif r0.2.1 then
   some (r0.1,t8_,())
  else
   bi.L3 s t7_ t8_ r0.1.1 r0.1.2.1 r0.1.2.2.1 r0.1.2.2.2.1
 else none:=res_eq (by kernel_rfl)
theorem bi.L3_eq (s t7_ t8_ b0 b02 b03 b04):bi.L3 s t7_ t8_ b0 b02 b03 b04=
 bi.L1 s t7_ (IntKind.wrap .i64 (t8_+1)) b0 b02 b03 b04:=res_eq (by kernel_rfl)
theorem bi.F_eq (s f):bi.F s f=
 bi.L1 s ((List.length s:Int)) 0 f.1 f.2.1 f.2.2.1 f.2.2.2.1:=by kernel_rfl
def fd.sg:Sig:=⟨[.val (.slice t7),.clo 87 t8],[(.bool,true)]⟩
def fd.E:Env:=⟨tl,fun i=>look i [(129,bi.Fn),(87,gr.Fn)],[],eqs,globs,prims⟩
def fd.Fn:Fun:=fnOf fd.E fd.sg Tryz.f86
def fd.F (s:List t7.den) (f:t8.den):Option (t8.den × Bool × Unit):=fd.Fn.F (s,f,())
theorem fd.spec:FnSpec Tryz.prog globs 86 fd.Fn:=spec_of (E:=fd.E) (envOk_at tabOk eqOk primsOk (.cons bi.spec<|.cons gr.spec<|.nil)) mixOk Tryz.func86 (by kernel_rfl)
theorem fd.F_eq (s f):fd.F s f=
 (bi.F s f).bind fun r0=>
 some (r0.1,(decide ((r0.2.1:Int)≥0)),()):=by kernel_rfl
def fi.sg:Sig:=⟨[.val t8],[((.int .i64),true)]⟩
def fi.E:Env:=⟨tl,fun i=>look i [(84,cg.Fn),(85,dz.Fn),(86,fd.Fn),(87,gr.Fn)],[],eqs,globs,prims⟩
def fi.c:=cxOf fi.E fi.sg Tryz.f56
def fi.b:=body Tryz.f56
def fi.Fn:Fun:=fnOf fi.E fi.sg Tryz.f56
def fi.F (s:t8.den):Option (Int × Unit):=fi.Fn.F (s,())
def fi.L1 (b0:Int) (b02 b03:List Int) (b04:List t7.den):Option (Int × Unit):=res fi.c (atJoin fi.b [1,0,1]) ⟨[(1,(.ptr 0 []))],[(0,some (.box (.agg [(.v (.int .u64) b0),(.v (.arr 32 (.int .u8)) b02),(.v (.arr 16 (.int .u32)) b03),(.v (.slice t7) b04)])))],1,[]⟩
def fi.L2:Option (Int × Unit):=res fi.c (atJoin fi.b [1,1,0,1]) ⟨[],[],0,[]⟩
theorem fi.spec:FnSpec Tryz.prog globs 56 fi.Fn:=spec_of (E:=fi.E) (envOk_at tabOk eqOk primsOk (.cons cg.spec<|.cons dz.spec<|.cons fd.spec<|.cons gr.spec<|.nil)) mixOk Tryz.func56 (by kernel_rfl)
theorem fi.L1_eq (b0 b02 b03 b04):fi.L1 b0 b02 b03 b04=
 bif (decide ((0:Int)≤0∧(0:Int)≤16∧(16:Int)≤16)) then
  (dz.F (List.take ((Int.toNat 16) - (Int.toNat 0)) (List.drop (Int.toNat 0) b03))).bind fun r0=>
  bif (decide ((r0.1:Int)>1000000)) then
   some (8,())
  else
   (fd.F b04 (b0,b02,b03,b04,())).bind fun r1=>
   bif r1.2.1 then
    some (8,())
   else
    fi.L2
 else none:=res_eq (by kernel_rfl)
theorem fi.L2_eq:fi.L2=
 some (0,()):=res_eq (by kernel_rfl)
theorem fi.F_eq (s):fi.F s=
 (cg.F s.2.2.2.1).bind fun r0=>
 bif (r0.1 !=0) then
  some (8,())
 else
  fi.L1 s.1 s.2.1 s.2.2.1 s.2.2.2.1:=by kernel_rfl
def fy.sg:Sig:=⟨[.val t8],[((.int .i64),true)]⟩
def fy.E:Env:=⟨tl,fun i=>look i [(56,fi.Fn)],[],eqs,globs,prims⟩
def fy.Fn:Fun:=fnOf fy.E fy.sg Tryz.f34
def fy.F (s:t8.den):Option (Int × Unit):=fy.Fn.F (s,())
theorem fy.spec:FnSpec Tryz.prog globs 34 fy.Fn:=spec_of (E:=fy.E) (envOk_at tabOk eqOk primsOk (.cons fi.spec<|.nil)) mixOk Tryz.func34 (by kernel_rfl)
theorem fy.F_eq (s):fy.F s=
 (fi.F s).bind fun r0=>
 some (r0.1,()):=by kernel_rfl
def ee.sg:Sig:=⟨[.val t5],[((.slice (.int .u32)),true),((.int .i64),true)]⟩
def ee.E:Env:=⟨tl,fun i=>look i [(106,af.Fn),(134,fc.Fn)],[],eqs,globs,prims⟩
def ee.c:=cxOf ee.E ee.sg Tryz.f92
def ee.b:=body Tryz.f92
def ee.Fn:Fun:=fnOf ee.E ee.sg Tryz.f92
def ee.F (t:t5.den):Option ((List Int) × Int × Unit):=ee.Fn.F (t,())
def ee.L1 (b0:Int) (b02:List Int) (b03:List t1.den) (b04:List Int) (b05:List Bool) (b06:Int) (b07:List t3.den) (b08 b09:List Int) (b010 b011:Int):Option ((List Int) × Int × Unit):=res ee.c (atJoin ee.b [1,0,1,1]) ⟨[(1,(.ptr 0 []))],[(0,some (.box (.agg [(.v (.int .i64) b0),(.v (.slice (.int .u32)) b02),(.v (.slice t1) b03),(.agg [(.v (.slice (.int .i64)) b04),(.v (.slice .bool) b05),(.v (.int .i64) b06)]),(.v (.slice t3) b07),(.agg [(.v (.slice (.int .i64)) b08),(.v (.slice (.int .i64)) b09),(.v (.int .i64) b010),(.v (.int .i64) b011)])])))],1,[]⟩
def ee.L2 (t22_ t23_ b0:Int) (b02:List Int) (b03:List t1.den) (b04:List Int) (b05:List Bool) (b06:Int) (b07:List t3.den) (b08 b09:List Int) (b010 b011:Int) (l1 l2:List Int):Option ((List Int) × Int × Unit):=res ee.c (atLoop ee.b [1,1,1,1,0,1,0]) ⟨[(1,(.ptr 0 [])),(7,(.sl 1)),(21,(.sl 2)),(22,(.v (.int .i64) t22_)),(23,(.v (.int .i64) t23_))],[(0,some (.box (.agg [(.v (.int .i64) b0),(.v (.slice (.int .u32)) b02),(.v (.slice t1) b03),(.agg [(.v (.slice (.int .i64)) b04),(.v (.slice .bool) b05),(.v (.int .i64) b06)]),(.v (.slice t3) b07),(.agg [(.v (.slice (.int .i64)) b08),(.v (.slice (.int .i64)) b09),(.v (.int .i64) b010),(.v (.int .i64) b011)])]))),(1,some (.row (.int .u32) l1 false)),(2,some (.row (.int .i64) l2 false))],3,[]⟩
def ee.L3 (t22_ t23_ b0:Int) (b02:List Int) (b03:List t1.den) (b04:List Int) (b05:List Bool) (b06:Int) (b07:List t3.den) (b08 b09:List Int) (b010 b011:Int) (l1 l2:List Int):Option ((List Int) × Int × Unit):=res ee.c (atJoin ee.b [1,1,1,1,0,1,0,0,1,0]) ⟨[(1,(.ptr 0 [])),(7,(.sl 1)),(21,(.sl 2)),(22,(.v (.int .i64) t22_)),(23,(.v (.int .i64) t23_))],[(0,some (.box (.agg [(.v (.int .i64) b0),(.v (.slice (.int .u32)) b02),(.v (.slice t1) b03),(.agg [(.v (.slice (.int .i64)) b04),(.v (.slice .bool) b05),(.v (.int .i64) b06)]),(.v (.slice t3) b07),(.agg [(.v (.slice (.int .i64)) b08),(.v (.slice (.int .i64)) b09),(.v (.int .i64) b010),(.v (.int .i64) b011)])]))),(1,some (.row (.int .u32) l1 false)),(2,some (.row (.int .i64) l2 false))],3,[]⟩
theorem ee.spec:FnSpec Tryz.prog globs 92 ee.Fn:=spec_of (E:=ee.E) (envOk_at tabOk eqOk primsOk (.cons af.spec<|.cons fc.spec<|.nil)) mixOk Tryz.func92 (by kernel_rfl)
theorem ee.L1_eq (b0 b02 b03 b04 b05 b06 b07 b08 b09 b010 b011):ee.L1 b0 b02 b03 b04 b05 b06 b07 b08 b09 b010 b011=
 (fc.F (b08,b09,b010,b011,())).bind fun r0=>
 ee.L2 ((List.length r0.1:Int)) 0 b0 b02 b03 b04 b05 b06 b07 b08 b09 b010 b011 ([]:List Int) r0.1:=res_eq (by kernel_rfl)
theorem ee.L2_eq (t22_ t23_ b0 b02 b03 b04 b05 b06 b07 b08 b09 b010 b011 l1 l2):ee.L2 t22_ t23_ b0 b02 b03 b04 b05 b06 b07 b08 b09 b010 b011 l1 l2=
 bif (decide ((t23_:Int)<t22_)) then
  ee.L3 t22_ t23_ b0 b02 b03 b04 b05 b06 b07 b08 b09 b010 b011 l1 l2
 else
  some (l1,0,()):=res_eq (by kernel_rfl)
theorem ee.L3_eq (t22_ t23_ b0 b02 b03 b04 b05 b06 b07 b08 b09 b010 b011 l1 l2):ee.L3 t22_ t23_ b0 b02 b03 b04 b05 b06 b07 b08 b09 b010 b011 l1 l2=
 bif (decide ((0:Int)≤t23_∧(t23_:Int)<((List.length l2:Int)))) then
  bif (decide ((0:Int)≤(List.getD l2 (Int.toNat t23_) 0)∧((List.getD l2 (Int.toNat t23_) 0):Int)<((List.length b02:Int)))) then
   bif (lim ((List.length l1)+(List.length ([(List.getD b02 (Int.toNat (List.getD l2 (Int.toNat t23_) 0)) 0)]:List Int))) (.int .u32)) then
    ee.L2 t22_ (IntKind.wrap .i64 (t23_+1)) b0 b02 b03 b04 b05 b06 b07 b08 b09 b010 b011 (l1++([(List.getD b02 (Int.toNat (List.getD l2 (Int.toNat t23_) 0)) 0)]:List Int)) l2
   else none
  else none
 else none:=res_eq (by kernel_rfl)
theorem ee.F_eq (t):ee.F t=
 (af.F t).bind fun r0=>
 bif (r0.1 !=0) then
  some (([]:List Int),r0.1,())
 else
  ee.L1 t.1 t.2.1 t.2.2.1 t.2.2.2.1.1 t.2.2.2.1.2.1 t.2.2.2.1.2.2.1 t.2.2.2.2.1 t.2.2.2.2.2.1.1 t.2.2.2.2.2.1.2.1 t.2.2.2.2.2.1.2.2.1 t.2.2.2.2.2.1.2.2.2.1:=by kernel_rfl
def fw.sg:Sig:=⟨[.val t5,.val (.int .u32)],[(t1,true),((.int .i64),true)]⟩
def fw.E:Env:=⟨tl,fun i=>look i [(106,af.Fn),(109,fa.Fn)],[],eqs,globs,prims⟩
def fw.c:=cxOf fw.E fw.sg Tryz.f93
def fw.b:=body Tryz.f93
def fw.Fn:Fun:=fnOf fw.E fw.sg Tryz.f93
def fw.F (t:t5.den) (key:Int):Option (t1.den × Int × Unit):=fw.Fn.F (t,key,())
def fw.L1 (key b0:Int) (b02:List Int) (b03:List t1.den) (b04:List Int) (b05:List Bool) (b06:Int) (b07:List t3.den) (b08 b09:List Int) (b010 b011:Int):Option (t1.den × Int × Unit):=res fw.c (atJoin fw.b [1,0,1,1]) ⟨[(1,(.v (.int .u32) key)),(2,(.ptr 0 [])),(4,(.ptr 1 []))],[(0,some (.box (.agg [(.v (.int .i64) b0),(.v (.slice (.int .u32)) b02),(.v (.slice t1) b03),(.agg [(.v (.slice (.int .i64)) b04),(.v (.slice .bool) b05),(.v (.int .i64) b06)]),(.v (.slice t3) b07),(.agg [(.v (.slice (.int .i64)) b08),(.v (.slice (.int .i64)) b09),(.v (.int .i64) b010),(.v (.int .i64) b011)])]))),(1,some (.box (.agg [(.agg [(.v (.int .i64) 0),(.v (.int .i64) 0),(.v (.int .i64) 0)]),(.v (.int .i64) 0),(.v (.int .i64) 0),(.v (.int .u64) 0)])))],2,[]⟩
def fw.L2 (i b0:Int) (b02:List Int) (b03:List t1.den) (b04:List Int) (b05:List Bool) (b06:Int) (b07:List t3.den) (b08 b09:List Int) (b010 b011:Int):Option (t1.den × Int × Unit):=res fw.c (atJoin fw.b [1,1,1,0,1]) ⟨[(2,(.ptr 0 [])),(4,(.ptr 1 [])),(7,(.v (.int .i64) i))],[(0,some (.box (.agg [(.v (.int .i64) b0),(.v (.slice (.int .u32)) b02),(.v (.slice t1) b03),(.agg [(.v (.slice (.int .i64)) b04),(.v (.slice .bool) b05),(.v (.int .i64) b06)]),(.v (.slice t3) b07),(.agg [(.v (.slice (.int .i64)) b08),(.v (.slice (.int .i64)) b09),(.v (.int .i64) b010),(.v (.int .i64) b011)])]))),(1,some (.box (.agg [(.agg [(.v (.int .i64) 0),(.v (.int .i64) 0),(.v (.int .i64) 0)]),(.v (.int .i64) 0),(.v (.int .i64) 0),(.v (.int .u64) 0)])))],2,[]⟩
theorem fw.spec:FnSpec Tryz.prog globs 93 fw.Fn:=spec_of (E:=fw.E) (envOk_at tabOk eqOk primsOk (.cons af.spec<|.cons fa.spec<|.nil)) mixOk Tryz.func93 (by kernel_rfl)
theorem fw.L1_eq (key b0 b02 b03 b04 b05 b06 b07 b08 b09 b010 b011):fw.L1 key b0 b02 b03 b04 b05 b06 b07 b08 b09 b010 b011=
 (fa.F (b0,b02,b03,(b04,b05,b06,()),b07,(b08,b09,b010,b011,()),()) key).bind fun r0=>
 bif (decide ((r0.1:Int)<0)) then
  some (((0,0,0,()),0,0,0,()),6,())
 else
  fw.L2 r0.1 b0 b02 b03 b04 b05 b06 b07 b08 b09 b010 b011:=res_eq (by kernel_rfl)
theorem fw.L2_eq (i b0 b02 b03 b04 b05 b06 b07 b08 b09 b010 b011):fw.L2 i b0 b02 b03 b04 b05 b06 b07 b08 b09 b010 b011=
 bif (decide ((0:Int)≤i∧(i:Int)<((List.length b03:Int)))) then
  some ((List.getD b03 (Int.toNat i) ((0,0,0,()),0,0,0,())),0,())
 else none:=res_eq (by kernel_rfl)
theorem fw.F_eq (t key):fw.F t key=
 (af.F t).bind fun r0=>
 bif (r0.1 !=0) then
  some (((0,0,0,()),0,0,0,()),r0.1,())
 else
  fw.L1 key t.1 t.2.1 t.2.2.1 t.2.2.2.1.1 t.2.2.2.1.2.1 t.2.2.2.1.2.2.1 t.2.2.2.2.1 t.2.2.2.2.2.1.1 t.2.2.2.2.2.1.2.1 t.2.2.2.2.2.1.2.2.1 t.2.2.2.2.2.1.2.2.2.1:=by kernel_rfl
def dy.sg:Sig:=⟨[.val t5],[((.slice t9),true)]⟩
def dy.E:Env:=⟨tl,fun i=>look i [(92,ee.Fn),(93,fw.Fn)],[],eqs,globs,prims⟩
def dy.c:=cxOf dy.E dy.sg Tryz.f63
def dy.b:=body Tryz.f63
def dy.Fn:Fun:=fnOf dy.E dy.sg Tryz.f63
def dy.F (t:t5.den):Option ((List t9.den) × Unit):=dy.Fn.F (t,())
def dy.L1 (t16_ t17_ b0:Int) (b02:List Int) (b03:List t1.den) (b04:List Int) (b05:List Bool) (b06:Int) (b07:List t3.den) (b08 b09:List Int) (b010 b011:Int) (l1:List t9.den) (l2:List Int):Option ((List t9.den) × Unit):=res dy.c (atLoop dy.b [1,1,1,0,1,0]) ⟨[(1,(.ptr 0 [])),(3,(.sl 1)),(15,(.sl 2)),(16,(.v (.int .i64) t16_)),(17,(.v (.int .i64) t17_))],[(0,some (.box (.agg [(.v (.int .i64) b0),(.v (.slice (.int .u32)) b02),(.v (.slice t1) b03),(.agg [(.v (.slice (.int .i64)) b04),(.v (.slice .bool) b05),(.v (.int .i64) b06)]),(.v (.slice t3) b07),(.agg [(.v (.slice (.int .i64)) b08),(.v (.slice (.int .i64)) b09),(.v (.int .i64) b010),(.v (.int .i64) b011)])]))),(1,some (.row t9 l1 false)),(2,some (.row (.int .u32) l2 false))],3,[]⟩
def dy.L2 (t16_ t17_ b0:Int) (b02:List Int) (b03:List t1.den) (b04:List Int) (b05:List Bool) (b06:Int) (b07:List t3.den) (b08 b09:List Int) (b010 b011:Int) (l1:List t9.den) (l2:List Int):Option ((List t9.den) × Unit):=res dy.c (atJoin dy.b [1,1,1,0,1,0,0,1,0]) ⟨[(1,(.ptr 0 [])),(3,(.sl 1)),(15,(.sl 2)),(16,(.v (.int .i64) t16_)),(17,(.v (.int .i64) t17_))],[(0,some (.box (.agg [(.v (.int .i64) b0),(.v (.slice (.int .u32)) b02),(.v (.slice t1) b03),(.agg [(.v (.slice (.int .i64)) b04),(.v (.slice .bool) b05),(.v (.int .i64) b06)]),(.v (.slice t3) b07),(.agg [(.v (.slice (.int .i64)) b08),(.v (.slice (.int .i64)) b09),(.v (.int .i64) b010),(.v (.int .i64) b011)])]))),(1,some (.row t9 l1 false)),(2,some (.row (.int .u32) l2 false))],3,[]⟩
theorem dy.spec:FnSpec Tryz.prog globs 63 dy.Fn:=spec_of (E:=dy.E) (envOk_at tabOk eqOk primsOk (.cons ee.spec<|.cons fw.spec<|.nil)) mixOk Tryz.func63 (by kernel_rfl)
theorem dy.L1_eq (t16_ t17_ b0 b02 b03 b04 b05 b06 b07 b08 b09 b010 b011 l1 l2):dy.L1 t16_ t17_ b0 b02 b03 b04 b05 b06 b07 b08 b09 b010 b011 l1 l2=
 bif (decide ((t17_:Int)<t16_)) then
  dy.L2 t16_ t17_ b0 b02 b03 b04 b05 b06 b07 b08 b09 b010 b011 l1 l2
 else
  some (l1,()):=res_eq (by kernel_rfl)
theorem dy.L2_eq (t16_ t17_ b0 b02 b03 b04 b05 b06 b07 b08 b09 b010 b011 l1 l2):dy.L2 t16_ t17_ b0 b02 b03 b04 b05 b06 b07 b08 b09 b010 b011 l1 l2=
 bif (decide ((0:Int)≤t17_∧(t17_:Int)<((List.length l2:Int)))) then
  (fw.F (b0,b02,b03,(b04,b05,b06,()),b07,(b08,b09,b010,b011,()),()) (List.getD l2 (Int.toNat t17_) 0)).bind fun r0=>
  bif (lim ((List.length l1)+(List.length ([((List.getD l2 (Int.toNat t17_) 0),r0.1,())]:List t9.den))) t9) then
   dy.L1 t16_ (IntKind.wrap .i64 (t17_+1)) b0 b02 b03 b04 b05 b06 b07 b08 b09 b010 b011 (l1++([((List.getD l2 (Int.toNat t17_) 0),r0.1,())]:List t9.den)) l2
  else none
 else none:=res_eq (by kernel_rfl)
theorem dy.F_eq (t):dy.F t=
 (ee.F t).bind fun r0=>
 dy.L1 ((List.length r0.1:Int)) 0 t.1 t.2.1 t.2.2.1 t.2.2.2.1.1 t.2.2.2.1.2.1 t.2.2.2.1.2.2.1 t.2.2.2.2.1 t.2.2.2.2.2.1.1 t.2.2.2.2.2.1.2.1 t.2.2.2.2.2.1.2.2.1 t.2.2.2.2.2.1.2.2.2.1 ([]:List t9.den) r0.1:=by kernel_rfl
def eu.sg:Sig:=⟨[.val t8],[(t11,true)]⟩
def eu.E:Env:=⟨tl,fun i=>look i [(63,dy.Fn)],[],eqs,globs,prims⟩
def eu.c:=cxOf eu.E eu.sg Tryz.f41
def eu.b:=body Tryz.f41
def eu.Fn:Fun:=fnOf eu.E eu.sg Tryz.f41
def eu.F (s:t8.den):Option (t11.den × Unit):=eu.Fn.F (s,())
def eu.L1 (t14_:List t7.den) (t15_ t16_:Int) (b0 b02:List Int) (b1:Int) (b12 b13:List Int) (l2 l3:List t10.den):Option (t11.den × Unit):=res eu.c (atLoop eu.b [1,1,0,1,0]) ⟨[(2,(.ptr 0 [])),(3,(.ptr 1 [])),(14,(.v (.slice t7) t14_)),(15,(.v (.int .i64) t15_)),(16,(.v (.int .i64) t16_))],[(0,some (.box (.agg [(.v (.int .u64) 0),(.v (.arr 32 (.int .u8)) b0),(.v (.arr 16 (.int .u32)) b02),(.sl 2)]))),(1,some (.box (.agg [(.v (.int .u64) b1),(.v (.arr 32 (.int .u8)) b12),(.v (.arr 16 (.int .u32)) b13),(.sl 3)]))),(2,some (.row t10 l2 false)),(3,some (.row t10 l3 false))],4,[]⟩
def eu.L2 (t14_:List t7.den) (t15_ t16_:Int) (b0 b02:List Int) (b1:Int) (b12 b13:List Int) (l2 l3:List t10.den):Option (t11.den × Unit):=res eu.c (atJoin eu.b [1,1,0,1,0,0,1,0]) ⟨[(2,(.ptr 0 [])),(3,(.ptr 1 [])),(14,(.v (.slice t7) t14_)),(15,(.v (.int .i64) t15_)),(16,(.v (.int .i64) t16_))],[(0,some (.box (.agg [(.v (.int .u64) 0),(.v (.arr 32 (.int .u8)) b0),(.v (.arr 16 (.int .u32)) b02),(.sl 2)]))),(1,some (.box (.agg [(.v (.int .u64) b1),(.v (.arr 32 (.int .u8)) b12),(.v (.arr 16 (.int .u32)) b13),(.sl 3)]))),(2,some (.row t10 l2 false)),(3,some (.row t10 l3 false))],4,[]⟩
theorem eu.spec:FnSpec Tryz.prog globs 41 eu.Fn:=spec_of (E:=eu.E) (envOk_at tabOk eqOk primsOk (.cons dy.spec<|.nil)) mixOk Tryz.func41 (by kernel_rfl)
theorem eu.L1_eq (t14_ t15_ t16_ b0 b02 b1 b12 b13 l2 l3):eu.L1 t14_ t15_ t16_ b0 b02 b1 b12 b13 l2 l3=
 bif (decide ((t16_:Int)<t15_)) then
  eu.L2 t14_ t15_ t16_ b0 b02 b1 b12 b13 l2 l3
 else
  some ((b1,b12,b13,l3,()),()):=res_eq (by kernel_rfl)
theorem eu.L2_eq (t14_ t15_ t16_ b0 b02 b1 b12 b13 l2 l3):eu.L2 t14_ t15_ t16_ b0 b02 b1 b12 b13 l2 l3=
 bif (decide ((0:Int)≤t16_∧(t16_:Int)<((List.length t14_:Int)))) then
  (dy.F (((((List.getD t14_ (Int.toNat t16_) d7_).2).2).2).1)).bind fun r0=>
  (dy.F ((((((List.getD t14_ (Int.toNat t16_) d7_).2).2).2).2).1)).bind fun r1=>
  bif (lim (List.length (((((((List.getD t14_ (Int.toNat t16_) d7_).2).2).2).2).2).1)) (.int .u32)) then
   bif (lim ((List.length l3)+(List.length ([((List.getD t14_ (Int.toNat t16_) d7_).1,((List.getD t14_ (Int.toNat t16_) d7_).2).1,([(((((List.getD t14_ (Int.toNat t16_) d7_).2).2).2).1).1,((((((List.getD t14_ (Int.toNat t16_) d7_).2).2).2).2).1).1]:List Int),(((List.getD t14_ (Int.toNat t16_) d7_).2).2).1,r0.1,r1.1,((((((List.getD t14_ (Int.toNat t16_) d7_).2).2).2).2).2).1,(((((((List.getD t14_ (Int.toNat t16_) d7_).2).2).2).2).2).2).1,())]:List t10.den))) t10) then
    eu.L1 t14_ t15_ (IntKind.wrap .i64 (t16_+1)) b0 b02 b1 b12 b13 l2 (l3++([((List.getD t14_ (Int.toNat t16_) d7_).1,((List.getD t14_ (Int.toNat t16_) d7_).2).1,([(((((List.getD t14_ (Int.toNat t16_) d7_).2).2).2).1).1,((((((List.getD t14_ (Int.toNat t16_) d7_).2).2).2).2).1).1]:List Int),(((List.getD t14_ (Int.toNat t16_) d7_).2).2).1,r0.1,r1.1,((((((List.getD t14_ (Int.toNat t16_) d7_).2).2).2).2).2).1,(((((((List.getD t14_ (Int.toNat t16_) d7_).2).2).2).2).2).2).1,())]:List t10.den))
   else none
  else none
 else none:=res_eq (by kernel_rfl)
theorem eu.F_eq (s):eu.F s=
 eu.L1 s.2.2.2.1 ((List.length s.2.2.2.1:Int)) 0 (List.replicate 32 (0:Int)) (List.replicate 16 (0:Int)) s.1 s.2.1 s.2.2.1 ([]:List t10.den) ([]:List t10.den):=by kernel_rfl
def g9.sg:Sig:=⟨[.val t8],[(t11,true),((.int .i64),true)]⟩
def g9.E:Env:=⟨tl,fun i=>look i [(34,fy.Fn),(41,eu.Fn)],[],eqs,globs,prims⟩
def g9.c:=cxOf g9.E g9.sg Tryz.f35
def g9.b:=body Tryz.f35
def g9.Fn:Fun:=fnOf g9.E g9.sg Tryz.f35
def g9.F (s:t8.den):Option (t11.den × Int × Unit):=g9.Fn.F (s,())
def g9.L1 (b0:Int) (b02 b03:List Int) (b04:List t7.den) (b1 b12:List Int) (l2:List t10.den):Option (t11.den × Int × Unit):=res g9.c (atJoin g9.b [1,0,1,1]) ⟨[(1,(.ptr 0 [])),(2,(.ptr 1 []))],[(0,some (.box (.agg [(.v (.int .u64) b0),(.v (.arr 32 (.int .u8)) b02),(.v (.arr 16 (.int .u32)) b03),(.v (.slice t7) b04)]))),(1,some (.box (.agg [(.v (.int .u64) 0),(.v (.arr 32 (.int .u8)) b1),(.v (.arr 16 (.int .u32)) b12),(.sl 2)]))),(2,some (.row t10 l2 false))],3,[]⟩
theorem g9.spec:FnSpec Tryz.prog globs 35 g9.Fn:=spec_of (E:=g9.E) (envOk_at tabOk eqOk primsOk (.cons fy.spec<|.cons eu.spec<|.nil)) mixOk Tryz.func35 (by kernel_rfl)
theorem g9.L1_eq (b0 b02 b03 b04 b1 b12 l2):g9.L1 b0 b02 b03 b04 b1 b12 l2=
 (eu.F (b0,b02,b03,b04,())).bind fun r0=>
 some (r0.1,0,()):=res_eq (by kernel_rfl)
theorem g9.F_eq (s):g9.F s=
 (fy.F s).bind fun r0=>
 bif (r0.1 !=0) then
  some ((0,(List.replicate 32 (0:Int)),(List.replicate 16 (0:Int)),([]:List t10.den),()),r0.1,())
 else
  g9.L1 s.1 s.2.1 s.2.2.1 s.2.2.2.1 (List.replicate 32 (0:Int)) (List.replicate 16 (0:Int)) ([]:List t10.den):=by kernel_rfl
def az.sg:Sig:=⟨[.io t13 true,.val (.int .u64),.val (.int .i64)],[]⟩
def az.E:Env:=⟨tl,fun i=>look i [],[],eqs,globs,prims⟩
def az.c:=cxOf az.E az.sg Tryz.f36
def az.b:=body Tryz.f36
def az.Fn:Fun:=fnOf az.E az.sg Tryz.f36
def az.F (w:t13.den) (n k:Int):Option (t13.den × Unit):=az.Fn.F (w,n,k,())
def az.L1 (n k:Int) (l1:List Int):Option (t13.den × Unit):=res az.c (atLoop az.b [1,0]) ⟨[(0,(.ptr 0 [])),(1,(.v (.int .u64) n)),(2,(.v (.int .i64) k))],[(0,some (.box (.agg [(.sl 1)]))),(1,some (.row (.int .u8) l1 false))],2,[(.ptr 0 [])]⟩
def az.L2 (n k:Int) (l1:List Int):Option (t13.den × Unit):=res az.c (atJoin az.b [1,0,0,0,1]) ⟨[(0,(.ptr 0 [])),(1,(.v (.int .u64) n)),(2,(.v (.int .i64) k))],[(0,some (.box (.agg [(.sl 1)]))),(1,some (.row (.int .u8) l1 false))],2,[(.ptr 0 [])]⟩
theorem az.spec:FnSpec Tryz.prog globs 36 az.Fn:=spec_of (E:=az.E) (envOk_at tabOk eqOk primsOk (.nil)) mixOk Tryz.func36 (by kernel_rfl)
theorem az.L1_eq (n k l1):az.L1 n k l1=
 bif (decide ((k:Int)≥0)) then
  az.L2 n k l1
 else
  some ((l1,()),()):=res_eq (by kernel_rfl)
theorem az.L2_eq (n k l1):az.L2 n k l1=
 bif (decide ((0:Int)≤(IntKind.wrap .i64 (8*k)))) then
  bif (lim ((List.length l1)+(List.length ([(IntKind.wrap .u8 (Int.fdiv n (2 ^ min (Int.toNat (IntKind.wrap .i64 (8*k))) (IntKind.bits .u64))))]:List Int))) (.int .u8)) then
   az.L1 n (IntKind.wrap .i64 (k - 1)) (l1++([(IntKind.wrap .u8 (Int.fdiv n (2 ^ min (Int.toNat (IntKind.wrap .i64 (8*k))) (IntKind.bits .u64))))]:List Int))
  else none
 else none:=res_eq (by kernel_rfl)
theorem az.F_eq (w n k):az.F w n k=
 az.L1 n (IntKind.wrap .i64 (k - 1)) w.1:=by kernel_rfl
def fh.sg:Sig:=⟨[.io t13 true,.val t1],[]⟩
def fh.E:Env:=⟨tl,fun i=>look i [(36,az.Fn)],[],eqs,globs,prims⟩
def fh.Fn:Fun:=fnOf fh.E fh.sg Tryz.f57
def fh.F (w:t13.den) (b:t1.den):Option (t13.den × Unit):=fh.Fn.F (w,b,())
theorem fh.spec:FnSpec Tryz.prog globs 57 fh.Fn:=spec_of (E:=fh.E) (envOk_at tabOk eqOk primsOk (.cons az.spec<|.nil)) mixOk Tryz.func57 (by kernel_rfl)
theorem fh.F_eq (w b):fh.F w b=
 (az.F w (IntKind.wrap .u64 b.2.1) 8).bind fun r0=>
 (az.F r0.1 (IntKind.wrap .u64 b.2.2.1) 8).bind fun r1=>
 (az.F r1.1 b.2.2.2.1 8).bind fun r2=>
 some (r2.1,()):=by kernel_rfl
def cx.sg:Sig:=⟨[.io t13 true,.val (.slice t9)],[]⟩
def cx.E:Env:=⟨tl,fun i=>look i [(36,az.Fn),(57,fh.Fn)],[],eqs,globs,prims⟩
def cx.c:=cxOf cx.E cx.sg Tryz.f58
def cx.b:=body Tryz.f58
def cx.Fn:Fun:=fnOf cx.E cx.sg Tryz.f58
def cx.F (w:t13.den) (l:List t9.den):Option (t13.den × Unit):=cx.Fn.F (w,l,())
def cx.L1 (t11_:List t9.den) (t12_ t13_:Int) (l1:List Int):Option (t13.den × Unit):=res cx.c (atLoop cx.b [1,1,0]) ⟨[(0,(.ptr 0 [])),(11,(.v (.slice t9) t11_)),(12,(.v (.int .i64) t12_)),(13,(.v (.int .i64) t13_))],[(0,some (.box (.agg [(.sl 1)]))),(1,some (.row (.int .u8) l1 false))],2,[(.ptr 0 [])]⟩
def cx.L2 (t11_:List t9.den) (t12_ t13_:Int) (l1:List Int):Option (t13.den × Unit):=res cx.c (atJoin cx.b [1,1,0,0,1,0]) ⟨[(0,(.ptr 0 [])),(11,(.v (.slice t9) t11_)),(12,(.v (.int .i64) t12_)),(13,(.v (.int .i64) t13_))],[(0,some (.box (.agg [(.sl 1)]))),(1,some (.row (.int .u8) l1 false))],2,[(.ptr 0 [])]⟩
theorem cx.spec:FnSpec Tryz.prog globs 58 cx.Fn:=spec_of (E:=cx.E) (envOk_at tabOk eqOk primsOk (.cons az.spec<|.cons fh.spec<|.nil)) mixOk Tryz.func58 (by kernel_rfl)
theorem cx.L1_eq (t11_ t12_ t13_ l1):cx.L1 t11_ t12_ t13_ l1=
 bif (decide ((t13_:Int)<t12_)) then
  cx.L2 t11_ t12_ t13_ l1
 else
  some ((l1,()),()):=res_eq (by kernel_rfl)
theorem cx.L2_eq (t11_ t12_ t13_ l1):cx.L2 t11_ t12_ t13_ l1=
 bif (decide ((0:Int)≤t13_∧(t13_:Int)<((List.length t11_:Int)))) then
  (az.F (l1,()) (IntKind.wrap .u64 ((List.getD t11_ (Int.toNat t13_) d9_).1)) 4).bind fun r0=>
  (fh.F r0.1 (((List.getD t11_ (Int.toNat t13_) d9_).2).1)).bind fun r1=>
  cx.L1 t11_ t12_ (IntKind.wrap .i64 (t13_+1)) r1.1.1
 else none:=res_eq (by kernel_rfl)
theorem cx.F_eq (w l):cx.F w l=
 (az.F w (IntKind.wrap .u64 ((List.length l:Int))) 1).bind fun r0=>
 cx.L1 l ((List.length l:Int)) 0 r0.1.1:=by kernel_rfl
def ak.sg:Sig:=⟨[.io t13 true,.val t10],[]⟩
def ak.E:Env:=⟨tl,fun i=>look i [(36,az.Fn),(57,fh.Fn),(58,cx.Fn)],[],eqs,globs,prims⟩
def ak.c:=cxOf ak.E ak.sg Tryz.f37
def ak.b:=body Tryz.f37
def ak.Fn:Fun:=fnOf ak.E ak.sg Tryz.f37
def ak.F (w:t13.den) (a:t10.den):Option (t13.den × Unit):=ak.Fn.F (w,a,())
def ak.L1 (t14_:List t0.den) (t15_ b1:Int) (b12:List Int) (b13 b14:Int) (b15 b16:Int) (b17 b18:Int) (b19 b110:List t9.den) (b111:List Int) (b112 b113 b114:Int) (l2:List Int):Option (t13.den × Unit):=res ak.c (atLoop ak.b [1,1,0,1,0]) ⟨[(0,(.ptr 0 [])),(3,(.ptr 1 [])),(14,(.v (.arr 3 t0) t14_)),(15,(.v (.int .i64) t15_))],[(0,some (.box (.agg [(.sl 2)]))),(1,some (.box (.agg [(.v (.int .u32) b1),(.v (.arr 3 t0) t14_),(.v (.arr 2 (.int .i64)) b12),(.agg [(.agg [(.v (.int .i64) b13),(.v (.int .i64) b14),(.v (.int .i64) b15)]),(.v (.int .i64) b16),(.v (.int .i64) b17),(.v (.int .u64) b18)]),(.v (.slice t9) b19),(.v (.slice t9) b110),(.v (.slice (.int .u32)) b111),(.agg [(.v (.int .u64) b112),(.v (.int .u64) b113),(.v (.int .u64) b114)])]))),(2,some (.row (.int .u8) l2 false))],3,[(.ptr 0 [])]⟩
def ak.L2 (t14_:List t0.den) (t15_ b1:Int) (b12:List Int) (b13 b14:Int) (b15 b16:Int) (b17 b18:Int) (b19 b110:List t9.den) (b111:List Int) (b112 b113 b114:Int) (l2:List Int):Option (t13.den × Unit):=res ak.c (atJoin ak.b [1,1,0,1,0,0,1,0]) ⟨[(0,(.ptr 0 [])),(3,(.ptr 1 [])),(14,(.v (.arr 3 t0) t14_)),(15,(.v (.int .i64) t15_))],[(0,some (.box (.agg [(.sl 2)]))),(1,some (.box (.agg [(.v (.int .u32) b1),(.v (.arr 3 t0) t14_),(.v (.arr 2 (.int .i64)) b12),(.agg [(.agg [(.v (.int .i64) b13),(.v (.int .i64) b14),(.v (.int .i64) b15)]),(.v (.int .i64) b16),(.v (.int .i64) b17),(.v (.int .u64) b18)]),(.v (.slice t9) b19),(.v (.slice t9) b110),(.v (.slice (.int .u32)) b111),(.agg [(.v (.int .u64) b112),(.v (.int .u64) b113),(.v (.int .u64) b114)])]))),(2,some (.row (.int .u8) l2 false))],3,[(.ptr 0 [])]⟩
def ak.L3 (t65_:List Int) (t66_ t67_ b1:Int) (b12:List t0.den) (b13:List Int) (b14 b15:Int) (b16 b17:Int) (b18 b19:Int) (b110 b111:List t9.den) (b112 b113 b114:Int) (l2:List Int):Option (t13.den × Unit):=res ak.c (atLoop ak.b [1,1,1,1,1,1,1,1,1,0,1,0]) ⟨[(0,(.ptr 0 [])),(3,(.ptr 1 [])),(65,(.v (.slice (.int .u32)) t65_)),(66,(.v (.int .i64) t66_)),(67,(.v (.int .i64) t67_))],[(0,some (.box (.agg [(.sl 2)]))),(1,some (.box (.agg [(.v (.int .u32) b1),(.v (.arr 3 t0) b12),(.v (.arr 2 (.int .i64)) b13),(.agg [(.agg [(.v (.int .i64) b14),(.v (.int .i64) b15),(.v (.int .i64) b16)]),(.v (.int .i64) b17),(.v (.int .i64) b18),(.v (.int .u64) b19)]),(.v (.slice t9) b110),(.v (.slice t9) b111),(.v (.slice (.int .u32)) t65_),(.agg [(.v (.int .u64) b112),(.v (.int .u64) b113),(.v (.int .u64) b114)])]))),(2,some (.row (.int .u8) l2 false))],3,[(.ptr 0 [])]⟩
def ak.L4 (t65_:List Int) (t66_ t67_ b1:Int) (b12:List t0.den) (b13:List Int) (b14 b15:Int) (b16 b17:Int) (b18 b19:Int) (b110 b111:List t9.den) (b112 b113 b114:Int) (l2:List Int):Option (t13.den × Unit):=res ak.c (atJoin ak.b [1,1,1,1,1,1,1,1,1,0,1,0,0,1,0]) ⟨[(0,(.ptr 0 [])),(3,(.ptr 1 [])),(65,(.v (.slice (.int .u32)) t65_)),(66,(.v (.int .i64) t66_)),(67,(.v (.int .i64) t67_))],[(0,some (.box (.agg [(.sl 2)]))),(1,some (.box (.agg [(.v (.int .u32) b1),(.v (.arr 3 t0) b12),(.v (.arr 2 (.int .i64)) b13),(.agg [(.agg [(.v (.int .i64) b14),(.v (.int .i64) b15),(.v (.int .i64) b16)]),(.v (.int .i64) b17),(.v (.int .i64) b18),(.v (.int .u64) b19)]),(.v (.slice t9) b110),(.v (.slice t9) b111),(.v (.slice (.int .u32)) t65_),(.agg [(.v (.int .u64) b112),(.v (.int .u64) b113),(.v (.int .u64) b114)])]))),(2,some (.row (.int .u8) l2 false))],3,[(.ptr 0 [])]⟩
theorem ak.spec:FnSpec Tryz.prog globs 37 ak.Fn:=spec_of (E:=ak.E) (envOk_at tabOk eqOk primsOk (.cons az.spec<|.cons fh.spec<|.cons cx.spec<|.nil)) mixOk Tryz.func37 (by kernel_rfl)
theorem ak.L1_eq (t14_ t15_ b1 b12 b13 b14 b15 b16 b17 b18 b19 b110 b111 b112 b113 b114 l2):ak.L1 t14_ t15_ b1 b12 b13 b14 b15 b16 b17 b18 b19 b110 b111 b112 b113 b114 l2=
 bif (decide ((t15_:Int)<3)) then
  ak.L2 t14_ t15_ b1 b12 b13 b14 b15 b16 b17 b18 b19 b110 b111 b112 b113 b114 l2
 else
  bif (decide ((0:Int)≤0∧(0:Int)<2)) then
   (az.F (l2,()) (IntKind.wrap .u64 (List.getD b12 (Int.toNat 0) 0)) 1).bind fun r0=>
   bif (decide ((0:Int)≤1∧(1:Int)<2)) then
    (az.F r0.1 (IntKind.wrap .u64 (List.getD b12 (Int.toNat 1) 0)) 1).bind fun r1=>
    (fh.F r1.1 ((b13,b14,b15,()),b16,b17,b18,())).bind fun r2=>
    (cx.F r2.1 b19).bind fun r3=>
    (cx.F r3.1 b110).bind fun r4=>
    (az.F r4.1 (IntKind.wrap .u64 ((List.length b111:Int))) 1).bind fun r5=>
    ak.L3 b111 ((List.length b111:Int)) 0 b1 t14_ b12 b13 b14 b15 b16 b17 b18 b19 b110 b112 b113 b114 r5.1.1
   else none
  else none:=res_eq (by kernel_rfl)
theorem ak.L2_eq (t14_ t15_ b1 b12 b13 b14 b15 b16 b17 b18 b19 b110 b111 b112 b113 b114 l2):ak.L2 t14_ t15_ b1 b12 b13 b14 b15 b16 b17 b18 b19 b110 b111 b112 b113 b114 l2=
 bif (decide ((0:Int)≤t15_∧(t15_:Int)<3)) then
  (az.F (l2,()) (IntKind.wrap .u64 ((List.getD t14_ (Int.toNat t15_) (0,0,0,())).1)) 4).bind fun r0=>
  (az.F r0.1 (IntKind.wrap .u64 (((List.getD t14_ (Int.toNat t15_) (0,0,0,())).2).1)) 4).bind fun r1=>
  (az.F r1.1 (IntKind.wrap .u64 ((((List.getD t14_ (Int.toNat t15_) (0,0,0,())).2).2).1)) 4).bind fun r2=>
  ak.L1 t14_ (IntKind.wrap .i64 (t15_+1)) b1 b12 b13 b14 b15 b16 b17 b18 b19 b110 b111 b112 b113 b114 r2.1.1
 else none:=res_eq (by kernel_rfl)
theorem ak.L3_eq (t65_ t66_ t67_ b1 b12 b13 b14 b15 b16 b17 b18 b19 b110 b111 b112 b113 b114 l2):ak.L3 t65_ t66_ t67_ b1 b12 b13 b14 b15 b16 b17 b18 b19 b110 b111 b112 b113 b114 l2=
 bif (decide ((t67_:Int)<t66_)) then
  ak.L4 t65_ t66_ t67_ b1 b12 b13 b14 b15 b16 b17 b18 b19 b110 b111 b112 b113 b114 l2
 else
  (az.F (l2,()) b112 8).bind fun r0=>
  (az.F r0.1 b113 8).bind fun r1=>
  (az.F r1.1 b114 8).bind fun r2=>
  some (r2.1,()):=res_eq (by kernel_rfl)
theorem ak.L4_eq (t65_ t66_ t67_ b1 b12 b13 b14 b15 b16 b17 b18 b19 b110 b111 b112 b113 b114 l2):ak.L4 t65_ t66_ t67_ b1 b12 b13 b14 b15 b16 b17 b18 b19 b110 b111 b112 b113 b114 l2=
 bif (decide ((0:Int)≤t67_∧(t67_:Int)<((List.length t65_:Int)))) then
  (az.F (l2,()) (IntKind.wrap .u64 (List.getD t65_ (Int.toNat t67_) 0)) 4).bind fun r0=>
  ak.L3 t65_ t66_ (IntKind.wrap .i64 (t67_+1)) b1 b12 b13 b14 b15 b16 b17 b18 b19 b110 b111 b112 b113 b114 r0.1.1
 else none:=res_eq (by kernel_rfl)
theorem ak.F_eq (w a):ak.F w a=
 (az.F w (IntKind.wrap .u64 a.1) 1).bind fun r0=>
 ak.L1 a.2.1 0 a.1 a.2.2.1 a.2.2.2.1.1.1 a.2.2.2.1.1.2.1 a.2.2.2.1.1.2.2.1 a.2.2.2.1.2.1 a.2.2.2.1.2.2.1 a.2.2.2.1.2.2.2.1 a.2.2.2.2.1 a.2.2.2.2.2.1 a.2.2.2.2.2.2.1 a.2.2.2.2.2.2.2.1.1 a.2.2.2.2.2.2.2.1.2.1 a.2.2.2.2.2.2.2.1.2.2.1 r0.1.1:=by kernel_rfl
def bw.sg:Sig:=⟨[.val t8],[((.slice (.int .u8)),true),((.int .i64),true)]⟩
def bw.E:Env:=⟨tl,fun i=>look i [(34,fy.Fn),(35,g9.Fn),(36,az.Fn),(37,ak.Fn)],[],eqs,globs,prims⟩
def bw.c:=cxOf bw.E bw.sg Tryz.f14
def bw.b:=body Tryz.f14
def bw.Fn:Fun:=fnOf bw.E bw.sg Tryz.f14
def bw.F (s:t8.den):Option ((List Int) × Int × Unit):=bw.Fn.F (s,())
def bw.L1 (b0:Int) (b02 b03:List Int) (b04:List t7.den):Option ((List Int) × Int × Unit):=res bw.c (atJoin bw.b [1,0,1,1]) ⟨[(1,(.ptr 0 []))],[(0,some (.box (.agg [(.v (.int .u64) b0),(.v (.arr 32 (.int .u8)) b02),(.v (.arr 16 (.int .u32)) b03),(.v (.slice t7) b04)])))],1,[]⟩
def bw.L2 (t32_:List Int) (t33_ b0:Int) (b02:List Int) (l2:List t10.den) (l3:List Int):Option ((List Int) × Int × Unit):=res bw.c (atLoop bw.b [1,1,1,1,1,1,0,1,0]) ⟨[(5,(.ptr 0 [])),(7,(.ptr 1 [])),(32,(.v (.arr 16 (.int .u32)) t32_)),(33,(.v (.int .i64) t33_))],[(0,some (.box (.agg [(.v (.int .u64) b0),(.v (.arr 32 (.int .u8)) b02),(.v (.arr 16 (.int .u32)) t32_),(.sl 2)]))),(1,some (.box (.agg [(.sl 3)]))),(2,some (.row t10 l2 false)),(3,some (.row (.int .u8) l3 false))],4,[]⟩
def bw.L3 (t32_:List Int) (t33_ b0:Int) (b02:List Int) (l2:List t10.den) (l3:List Int):Option ((List Int) × Int × Unit):=res bw.c (atJoin bw.b [1,1,1,1,1,1,0,1,0,0,1,0]) ⟨[(5,(.ptr 0 [])),(7,(.ptr 1 [])),(32,(.v (.arr 16 (.int .u32)) t32_)),(33,(.v (.int .i64) t33_))],[(0,some (.box (.agg [(.v (.int .u64) b0),(.v (.arr 32 (.int .u8)) b02),(.v (.arr 16 (.int .u32)) t32_),(.sl 2)]))),(1,some (.box (.agg [(.sl 3)]))),(2,some (.row t10 l2 false)),(3,some (.row (.int .u8) l3 false))],4,[]⟩
def bw.L4 (t47_ t48_:Int) (l1:List t10.den) (l2:List Int):Option ((List Int) × Int × Unit):=res bw.c (atLoop bw.b [1,1,1,1,1,1,1,1,0,1,0]) ⟨[(7,(.ptr 0 [])),(46,(.sl 1)),(47,(.v (.int .i64) t47_)),(48,(.v (.int .i64) t48_))],[(0,some (.box (.agg [(.sl 2)]))),(1,some (.row t10 l1 false)),(2,some (.row (.int .u8) l2 false))],3,[]⟩
def bw.L5 (t47_ t48_:Int) (l1:List t10.den) (l2:List Int):Option ((List Int) × Int × Unit):=res bw.c (atJoin bw.b [1,1,1,1,1,1,1,1,0,1,0,0,1,0]) ⟨[(7,(.ptr 0 [])),(46,(.sl 1)),(47,(.v (.int .i64) t47_)),(48,(.v (.int .i64) t48_))],[(0,some (.box (.agg [(.sl 2)]))),(1,some (.row t10 l1 false)),(2,some (.row (.int .u8) l2 false))],3,[]⟩
theorem bw.spec:FnSpec Tryz.prog globs 14 bw.Fn:=spec_of (E:=bw.E) (envOk_at tabOk eqOk primsOk (.cons fy.spec<|.cons g9.spec<|.cons az.spec<|.cons ak.spec<|.nil)) mixOk Tryz.func14 (by kernel_rfl)
theorem bw.L1_eq (b0 b02 b03 b04):bw.L1 b0 b02 b03 b04=
 (g9.F (b0,b02,b03,b04,())).bind fun r0=>
 (az.F (([]:List Int),()) r0.1.1 8).bind fun r1=>
 bif (decide ((0:Int)≤0∧(0:Int)≤32∧(32:Int)≤32)) then
  bif (lim ((List.length r1.1.1)+(List.length (List.take ((Int.toNat 32) - (Int.toNat 0)) (List.drop (Int.toNat 0) r0.1.2.1)))) (.int .u8)) then
   bw.L2 r0.1.2.2.1 0 r0.1.1 r0.1.2.1 r0.1.2.2.2.1 (r1.1.1++(List.take ((Int.toNat 32) - (Int.toNat 0)) (List.drop (Int.toNat 0) r0.1.2.1)))
  else none
 else none:=res_eq (by kernel_rfl)
theorem bw.L2_eq (t32_ t33_ b0 b02 l2 l3):bw.L2 t32_ t33_ b0 b02 l2 l3=
 bif (decide ((t33_:Int)<16)) then
  bw.L3 t32_ t33_ b0 b02 l2 l3
 else
  (az.F (l3,()) (IntKind.wrap .u64 ((List.length l2:Int))) 1).bind fun r0=>
  bw.L4 ((List.length l2:Int)) 0 l2 r0.1.1:=res_eq (by kernel_rfl)
theorem bw.L3_eq (t32_ t33_ b0 b02 l2 l3):bw.L3 t32_ t33_ b0 b02 l2 l3=
 bif (decide ((0:Int)≤t33_∧(t33_:Int)<16)) then
  (az.F (l3,()) (IntKind.wrap .u64 (List.getD t32_ (Int.toNat t33_) 0)) 4).bind fun r0=>
  bw.L2 t32_ (IntKind.wrap .i64 (t33_+1)) b0 b02 l2 r0.1.1
 else none:=res_eq (by kernel_rfl)
theorem bw.L4_eq (t47_ t48_ l1 l2):bw.L4 t47_ t48_ l1 l2=
 bif (decide ((t48_:Int)<t47_)) then
  bw.L5 t47_ t48_ l1 l2
 else
  some (l2,0,()):=res_eq (by kernel_rfl)
theorem bw.L5_eq (t47_ t48_ l1 l2):bw.L5 t47_ t48_ l1 l2=
 bif (decide ((0:Int)≤t48_∧(t48_:Int)<((List.length l1:Int)))) then
  (ak.F (l2,()) (List.getD l1 (Int.toNat t48_) d10_)).bind fun r0=>
  bw.L4 t47_ (IntKind.wrap .i64 (t48_+1)) l1 r0.1.1
 else none:=res_eq (by kernel_rfl)
theorem bw.F_eq (s):bw.F s=
 (fy.F s).bind fun r0=>
 bif (r0.1 !=0) then
  some (([]:List Int),r0.1,())
 else
  bw.L1 s.1 s.2.1 s.2.2.1 s.2.2.2.1:=by kernel_rfl
def bg.sg:Sig:=⟨[.val (.arr 3 t0)],[(.bool,true)]⟩
def bg.E:Env:=⟨tl,fun i=>look i [(76,cj.Fn)],[],eqs,globs,prims⟩
def bg.c:=cxOf bg.E bg.sg Tryz.f60
def bg.b:=body Tryz.f60
def bg.Fn:Fun:=fnOf bg.E bg.sg Tryz.f60
def bg.F (l:List t0.den):Option (Bool × Unit):=bg.Fn.F (l,())
def bg.L1 (i:Int) (b0:List t0.den):Option (Bool × Unit):=res bg.c (atLoop bg.b [1,0,1,0]) ⟨[(1,(.ptr 0 [])),(3,(.v (.int .i64) i))],[(0,some (.box (.v (.arr 3 t0) b0)))],1,[]⟩
def bg.L2 (i:Int) (b0:List t0.den):Option (Bool × Unit):=res bg.c (atJoin bg.b [1,0,1,0,0,0,1]) ⟨[(1,(.ptr 0 [])),(3,(.v (.int .i64) i))],[(0,some (.box (.v (.arr 3 t0) b0)))],1,[]⟩
def bg.L3 (i:Int) (b0:List t0.den):Option (Bool × Unit):=res bg.c (atJoin bg.b [1,0,1,0,0,1,0,0,1]) ⟨[(1,(.ptr 0 [])),(3,(.v (.int .i64) i))],[(0,some (.box (.v (.arr 3 t0) b0)))],1,[]⟩
theorem bg.spec:FnSpec Tryz.prog globs 60 bg.Fn:=spec_of (E:=bg.E) (envOk_at tabOk eqOk primsOk (.cons cj.spec<|.nil)) mixOk Tryz.func60 (by kernel_rfl)
theorem bg.L1_eq (i b0):bg.L1 i b0=
 bif (decide ((i:Int)<3)) then
  bg.L2 i b0
 else
  some (true,()):=res_eq (by kernel_rfl)
theorem bg.L2_eq (i b0):bg.L2 i b0=
 bif (decide ((0:Int)≤i∧(i:Int)<3)) then
  (cj.F (List.getD b0 (Int.toNat i) (0,0,0,()))).bind fun r0=>
  bif (r0.1 !=0) then
   some (false,())
  else
   bg.L3 i b0
 else none:=res_eq (by kernel_rfl)
theorem bg.L3_eq (i b0):bg.L3 i b0=
 bg.L1 (IntKind.wrap .i64 (i+1)) b0:=res_eq (by kernel_rfl)
theorem bg.F_eq (l):bg.F l=
 bg.L1 0 l:=by kernel_rfl
def dk.sg:Sig:=⟨[.val (.int .u32),.val (.arr 3 t0),.val (.int .i64),.val (.int .i64),.val (.int .u64)],[(t7,true),((.int .i64),true)]⟩
def dk.E:Env:=⟨tl,fun i=>look i [(59,eh.Fn),(60,bg.Fn),(61,dx.Fn)],[],eqs,globs,prims⟩
def dk.c:=cxOf dk.E dk.sg Tryz.f38
def dk.b:=body Tryz.f38
def dk.Fn:Fun:=fnOf dk.E dk.sg Tryz.f38
def dk.F (tenant:Int) (l:List t0.den) (users ends tick:Int):Option (t7.den × Int × Unit):=dk.Fn.F (tenant,l,users,ends,tick,())
def dk.L1 (tenant tick:Int) (b0 b1:List t0.den) (b2 b22:Int) (b23 b24:Int) (b3 b32:Int) (b33 b34:Int) (l4:List Int) (l5:List t1.den) (l6:List Int) (l7:List Bool) (l8:List t3.den) (l19:List Int) (l20:List t1.den) (l21:List Int) (l22:List Bool) (l23:List t3.den) (l24 l25 l26:List Int) (l27:List t1.den) (l28:List Int) (l29:List Bool) (l30:List t3.den) (l31 l32:List Int):Option (t7.den × Int × Unit):=res dk.c (atJoin dk.b [1,1,1,0,1]) ⟨[(0,(.v (.int .u32) tenant)),(4,(.v (.int .u64) tick)),(6,(.ptr 0 [])),(10,(.ptr 1 [])),(12,(.ptr 2 [])),(14,(.ptr 3 []))],[(0,some (.box (.v (.arr 3 t0) b0))),(1,some (.box (.agg [(.v (.int .u32) 0),(.v (.arr 3 t0) b1),(.agg [(.agg [(.v (.int .i64) 0),(.v (.int .i64) 0),(.v (.int .i64) 0)]),(.v (.int .i64) 0),(.v (.int .i64) 0),(.v (.int .u64) 0)]),(.agg [(.v (.int .i64) 0),(.sl 4),(.sl 5),(.agg [(.sl 6),(.sl 7),(.v (.int .i64) 0)]),(.sl 8),(.agg [(.sl 9),(.sl 10),(.v (.int .i64) 0),(.v (.int .i64) 0)])]),(.agg [(.v (.int .i64) 0),(.sl 11),(.sl 12),(.agg [(.sl 13),(.sl 14),(.v (.int .i64) 0)]),(.sl 15),(.agg [(.sl 16),(.sl 17),(.v (.int .i64) 0),(.v (.int .i64) 0)])]),(.sl 18),(.agg [(.v (.int .u64) 0),(.v (.int .u64) 0),(.v (.int .u64) 0)])]))),(2,some (.box (.agg [(.v (.int .i64) b2),(.sl 19),(.sl 20),(.agg [(.sl 21),(.sl 22),(.v (.int .i64) b22)]),(.sl 23),(.agg [(.sl 24),(.sl 25),(.v (.int .i64) b23),(.v (.int .i64) b24)])]))),(3,some (.box (.agg [(.v (.int .i64) b3),(.sl 26),(.sl 27),(.agg [(.sl 28),(.sl 29),(.v (.int .i64) b32)]),(.sl 30),(.agg [(.sl 31),(.sl 32),(.v (.int .i64) b33),(.v (.int .i64) b34)])]))),(4,some (.row (.int .u32) l4 false)),(5,some (.row t1 l5 false)),(6,some (.row (.int .i64) l6 false)),(7,some (.row .bool l7 false)),(8,some (.row t3 l8 false)),(9,some (.row (.int .i64) l6 false)),(10,some (.row (.int .i64) l6 false)),(11,some (.row (.int .u32) l4 false)),(12,some (.row t1 l5 false)),(13,some (.row (.int .i64) l6 false)),(14,some (.row .bool l7 false)),(15,some (.row t3 l8 false)),(16,some (.row (.int .i64) l6 false)),(17,some (.row (.int .i64) l6 false)),(18,some (.row (.int .u32) l4 false)),(19,some (.row (.int .u32) l19 false)),(20,some (.row t1 l20 false)),(21,some (.row (.int .i64) l21 false)),(22,some (.row .bool l22 false)),(23,some (.row t3 l23 false)),(24,some (.row (.int .i64) l24 false)),(25,some (.row (.int .i64) l25 false)),(26,some (.row (.int .u32) l26 false)),(27,some (.row t1 l27 false)),(28,some (.row (.int .i64) l28 false)),(29,some (.row .bool l29 false)),(30,some (.row t3 l30 false)),(31,some (.row (.int .i64) l31 false)),(32,some (.row (.int .i64) l32 false))],33,[]⟩
def dk.L2 (tenant tick:Int) (b0 b1:List t0.den) (b2 b22:Int) (b23 b24:Int) (b3 b32:Int) (b33 b34:Int) (l4:List Int) (l5:List t1.den) (l6:List Int) (l7:List Bool) (l8:List t3.den) (l19:List Int) (l20:List t1.den) (l21:List Int) (l22:List Bool) (l23:List t3.den) (l24 l25 l26:List Int) (l27:List t1.den) (l28:List Int) (l29:List Bool) (l30:List t3.den) (l31 l32:List Int):Option (t7.den × Int × Unit):=res dk.c (atJoin dk.b [1,1,1,1,0,1]) ⟨[(0,(.v (.int .u32) tenant)),(4,(.v (.int .u64) tick)),(6,(.ptr 0 [])),(10,(.ptr 1 [])),(12,(.ptr 2 [])),(14,(.ptr 3 []))],[(0,some (.box (.v (.arr 3 t0) b0))),(1,some (.box (.agg [(.v (.int .u32) 0),(.v (.arr 3 t0) b1),(.agg [(.agg [(.v (.int .i64) 0),(.v (.int .i64) 0),(.v (.int .i64) 0)]),(.v (.int .i64) 0),(.v (.int .i64) 0),(.v (.int .u64) 0)]),(.agg [(.v (.int .i64) 0),(.sl 4),(.sl 5),(.agg [(.sl 6),(.sl 7),(.v (.int .i64) 0)]),(.sl 8),(.agg [(.sl 9),(.sl 10),(.v (.int .i64) 0),(.v (.int .i64) 0)])]),(.agg [(.v (.int .i64) 0),(.sl 11),(.sl 12),(.agg [(.sl 13),(.sl 14),(.v (.int .i64) 0)]),(.sl 15),(.agg [(.sl 16),(.sl 17),(.v (.int .i64) 0),(.v (.int .i64) 0)])]),(.sl 18),(.agg [(.v (.int .u64) 0),(.v (.int .u64) 0),(.v (.int .u64) 0)])]))),(2,some (.box (.agg [(.v (.int .i64) b2),(.sl 19),(.sl 20),(.agg [(.sl 21),(.sl 22),(.v (.int .i64) b22)]),(.sl 23),(.agg [(.sl 24),(.sl 25),(.v (.int .i64) b23),(.v (.int .i64) b24)])]))),(3,some (.box (.agg [(.v (.int .i64) b3),(.sl 26),(.sl 27),(.agg [(.sl 28),(.sl 29),(.v (.int .i64) b32)]),(.sl 30),(.agg [(.sl 31),(.sl 32),(.v (.int .i64) b33),(.v (.int .i64) b34)])]))),(4,some (.row (.int .u32) l4 false)),(5,some (.row t1 l5 false)),(6,some (.row (.int .i64) l6 false)),(7,some (.row .bool l7 false)),(8,some (.row t3 l8 false)),(9,some (.row (.int .i64) l6 false)),(10,some (.row (.int .i64) l6 false)),(11,some (.row (.int .u32) l4 false)),(12,some (.row t1 l5 false)),(13,some (.row (.int .i64) l6 false)),(14,some (.row .bool l7 false)),(15,some (.row t3 l8 false)),(16,some (.row (.int .i64) l6 false)),(17,some (.row (.int .i64) l6 false)),(18,some (.row (.int .u32) l4 false)),(19,some (.row (.int .u32) l19 false)),(20,some (.row t1 l20 false)),(21,some (.row (.int .i64) l21 false)),(22,some (.row .bool l22 false)),(23,some (.row t3 l23 false)),(24,some (.row (.int .i64) l24 false)),(25,some (.row (.int .i64) l25 false)),(26,some (.row (.int .u32) l26 false)),(27,some (.row t1 l27 false)),(28,some (.row (.int .i64) l28 false)),(29,some (.row .bool l29 false)),(30,some (.row t3 l30 false)),(31,some (.row (.int .i64) l31 false)),(32,some (.row (.int .i64) l32 false))],33,[]⟩
theorem dk.spec:FnSpec Tryz.prog globs 38 dk.Fn:=spec_of (E:=dk.E) (envOk_at tabOk eqOk primsOk (.cons eh.spec<|.cons bg.spec<|.cons dx.spec<|.nil)) mixOk Tryz.func38 (by kernel_rfl)
theorem dk.L1_eq (tenant tick b0 b1 b2 b22 b23 b24 b3 b32 b33 b34 l4 l5 l6 l7 l8 l19 l20 l21 l22 l23 l24 l25 l26 l27 l28 l29 l30 l31 l32):dk.L1 tenant tick b0 b1 b2 b22 b23 b24 b3 b32 b33 b34 l4 l5 l6 l7 l8 l19 l20 l21 l22 l23 l24 l25 l26 l27 l28 l29 l30 l31 l32=
 (bg.F b0).bind fun r0=>
 bif (!r0.1) then
  some (d7_,8,())
 else
  dk.L2 tenant tick b0 b1 b2 b22 b23 b24 b3 b32 b33 b34 l4 l5 l6 l7 l8 l19 l20 l21 l22 l23 l24 l25 l26 l27 l28 l29 l30 l31 l32:=res_eq (by kernel_rfl)
theorem dk.L2_eq (tenant tick b0 b1 b2 b22 b23 b24 b3 b32 b33 b34 l4 l5 l6 l7 l8 l19 l20 l21 l22 l23 l24 l25 l26 l27 l28 l29 l30 l31 l32):dk.L2 tenant tick b0 b1 b2 b22 b23 b24 b3 b32 b33 b34 l4 l5 l6 l7 l8 l19 l20 l21 l22 l23 l24 l25 l26 l27 l28 l29 l30 l31 l32=
 bif (decide ((0:Int)≤0∧(0:Int)<3)) then
  (dx.F (List.getD b0 (Int.toNat 0) (0,0,0,())) tick).bind fun r0=>
  some ((tenant,b0,r0.1,(b2,l19,l20,(l21,l22,b22,()),l23,(l24,l25,b23,b24,()),()),(b3,l26,l27,(l28,l29,b32,()),l30,(l31,l32,b33,b34,()),()),([]:List Int),(0,0,0,()),()),0,())
 else none:=res_eq (by kernel_rfl)
theorem dk.F_eq (tenant l users ends tick):dk.F tenant l users ends tick=
 (eh.F users).bind fun r0=>
 (eh.F ends).bind fun r1=>
 bif (decide ((tenant:Int)≥16)) then
  some (d7_,2,())
 else
  bif (r0.2.1 !=0) then
   some (d7_,2,())
  else
   bif (r1.2.1 !=0) then
    some (d7_,2,())
   else
    dk.L1 tenant tick l (List.replicate 3 (0,0,0,())) r0.1.1 r0.1.2.2.2.1.2.2.1 r0.1.2.2.2.2.2.1.2.2.1 r0.1.2.2.2.2.2.1.2.2.2.1 r1.1.1 r1.1.2.2.2.1.2.2.1 r1.1.2.2.2.2.2.1.2.2.1 r1.1.2.2.2.2.2.1.2.2.2.1 ([]:List Int) ([]:List t1.den) ([]:List Int) ([]:List Bool) ([]:List t3.den) r0.1.2.1 r0.1.2.2.1 r0.1.2.2.2.1.1 r0.1.2.2.2.1.2.1 r0.1.2.2.2.2.1 r0.1.2.2.2.2.2.1.1 r0.1.2.2.2.2.2.1.2.1 r1.1.2.1 r1.1.2.2.1 r1.1.2.2.2.1.1 r1.1.2.2.2.1.2.1 r1.1.2.2.2.2.1 r1.1.2.2.2.2.2.1.1 r1.1.2.2.2.2.2.1.2.1:=by kernel_rfl
def ft.sg:Sig:=⟨[],[(t8,true)]⟩
def ft.E:Env:=⟨tl,fun i=>look i [(38,dk.Fn)],[],eqs,globs,prims⟩
def ft.Fn:Fun:=fnOf ft.E ft.sg Tryz.f16
def ft.F:Option (t8.den × Unit):=ft.Fn.F ()
theorem ft.spec:FnSpec Tryz.prog globs 16 ft.Fn:=spec_of (E:=ft.E) (envOk_at tabOk eqOk primsOk (.cons dk.spec<|.nil)) mixOk Tryz.func16 (by kernel_rfl)
theorem ft.F_eq:ft.F=
 (dk.F 3 ([(4,1,2,()),(4,1,2,()),(4,1,2,())]:List t0.den) 2 2 0).bind fun r0=>
 some ((0,([7,0,0,0,0,0,0,0,0,0,0,0,0,0,0,0,0,0,0,0,0,0,0,0,0,0,0,0,0,0,0,0]:List Int),(List.replicate 16 (0:Int)),([r0.1]:List t7.den),()),()):=by kernel_rfl
def i7.sg:Sig:=⟨[.val t8],[((.int .i64),true),((.int .i64),true)]⟩
def i7.E:Env:=⟨tl,fun i=>look i [(14,bw.Fn)],[],eqs,globs,prims⟩
def i7.Fn:Fun:=fnOf i7.E i7.sg Tryz.f17
def i7.F (s:t8.den):Option (Int × Int × Unit):=i7.Fn.F (s,())
theorem i7.spec:FnSpec Tryz.prog globs 17 i7.Fn:=spec_of (E:=i7.E) (envOk_at tabOk eqOk primsOk (.cons bw.spec<|.nil)) mixOk Tryz.func17 (by kernel_rfl)
theorem i7.F_eq (s):i7.F s=
 (bw.F s).bind fun r0=>
 some (((List.length r0.1:Int)),r0.2.1,()):=by kernel_rfl
def ie.sg:Sig:=⟨[.val (.arr 32 (.int .u8))],[(t8,true)]⟩
def ie.E:Env:=⟨tl,fun i=>look i [],[],eqs,globs,prims⟩
def ie.Fn:Fun:=fnOf ie.E ie.sg Tryz.f31
def ie.F (seed:List Int):Option (t8.den × Unit):=ie.Fn.F (seed,())
theorem ie.spec:FnSpec Tryz.prog globs 31 ie.Fn:=spec_of (E:=ie.E) (envOk_at tabOk eqOk primsOk (.nil)) mixOk Tryz.func31 (by kernel_rfl)
theorem ie.F_eq (seed):ie.F seed=
 some ((0,seed,(List.replicate 16 (0:Int)),([]:List t7.den),()),()):=by kernel_rfl
def gc.sg:Sig:=⟨[],[(.bool,true)]⟩
def gc.E:Env:=⟨tl,fun i=>look i [(14,bw.Fn),(16,ft.Fn),(17,i7.Fn),(31,ie.Fn)],[],eqs,globs,prims⟩
def gc.Fn:Fun:=fnOf gc.E gc.sg Tryz.f12
def gc.F:Option (Bool × Unit):=gc.Fn.F ()
theorem gc.spec:FnSpec Tryz.prog globs 12 gc.Fn:=spec_of (E:=gc.E) (envOk_at tabOk eqOk primsOk (.cons bw.spec<|.cons ft.spec<|.cons i7.spec<|.cons ie.spec<|.nil)) mixOk Tryz.func12 (by kernel_rfl)
theorem gc.F_eq:gc.F=
 (ie.F ([9,0,0,0,0,0,0,0,0,0,0,0,0,0,0,0,0,0,0,0,0,0,0,0,0,0,0,0,0,0,0,0]:List Int)).bind fun r0=>
 (bw.F r0.1).bind fun r1=>
 ft.F.bind fun r2=>
 (i7.F r2.1).bind fun r3=>
 bif (r1.2.1==0) then
  bif (((List.length r1.1:Int))==105) then
   bif (decide ((0:Int)≤8∧(8:Int)<((List.length r1.1:Int)))) then
    bif ((List.getD r1.1 (Int.toNat 8) 0)==9) then
     bif (decide ((0:Int)≤104∧(104:Int)<((List.length r1.1:Int)))) then
      bif ((List.getD r1.1 (Int.toNat 104) 0)==0) then
       bif (r3.2.1==0) then
        some ((r3.1==195),())
       else
        some (false,())
      else
       some (false,())
     else none
    else
     some (false,())
   else none
  else
   some (false,())
 else
  some (false,()):=by kernel_rfl
def bn.sg:Sig:=⟨[.val t5,.val t0,.val (.int .u32)],[(.bool,true)]⟩
def bn.E:Env:=⟨tl,fun i=>look i [],[],eqs,globs,prims⟩
def bn.c:=cxOf bn.E bn.sg Tryz.f83
def bn.b:=body Tryz.f83
def bn.Fn:Fun:=fnOf bn.E bn.sg Tryz.f83
def bn.F (t:t5.den) (l:t0.den) (most:Int):Option (Bool × Unit):=bn.Fn.F (t,l,most,())
def bn.L1 (most i b0:Int) (b02:List Int) (b03:List t1.den) (b04:List Int) (b05:List Bool) (b06:Int) (b07:List t3.den) (b08 b09:List Int) (b010 b011:Int) (b1 b12 b13:Int):Option (Bool × Unit):=res bn.c (atLoop bn.b [1,0,1,0]) ⟨[(2,(.v (.int .u32) most)),(3,(.ptr 0 [])),(4,(.ptr 1 [])),(7,(.v (.int .i64) i))],[(0,some (.box (.agg [(.v (.int .i64) b0),(.v (.slice (.int .u32)) b02),(.v (.slice t1) b03),(.agg [(.v (.slice (.int .i64)) b04),(.v (.slice .bool) b05),(.v (.int .i64) b06)]),(.v (.slice t3) b07),(.agg [(.v (.slice (.int .i64)) b08),(.v (.slice (.int .i64)) b09),(.v (.int .i64) b010),(.v (.int .i64) b011)])]))),(1,some (.box (.agg [(.v (.int .i64) b1),(.v (.int .i64) b12),(.v (.int .i64) b13)])))],2,[]⟩
def bn.L2 (most i b0:Int) (b02:List Int) (b03:List t1.den) (b04:List Int) (b05:List Bool) (b06:Int) (b07:List t3.den) (b08 b09:List Int) (b010 b011:Int) (b1 b12 b13:Int):Option (Bool × Unit):=res bn.c (atJoin bn.b [1,0,1,0,0,0,1]) ⟨[(2,(.v (.int .u32) most)),(3,(.ptr 0 [])),(4,(.ptr 1 [])),(7,(.v (.int .i64) i))],[(0,some (.box (.agg [(.v (.int .i64) b0),(.v (.slice (.int .u32)) b02),(.v (.slice t1) b03),(.agg [(.v (.slice (.int .i64)) b04),(.v (.slice .bool) b05),(.v (.int .i64) b06)]),(.v (.slice t3) b07),(.agg [(.v (.slice (.int .i64)) b08),(.v (.slice (.int .i64)) b09),(.v (.int .i64) b010),(.v (.int .i64) b011)])]))),(1,some (.box (.agg [(.v (.int .i64) b1),(.v (.int .i64) b12),(.v (.int .i64) b13)])))],2,[]⟩
def bn.L3 (most i b0:Int) (b02:List Int) (b03:List t1.den) (b04:List Int) (b05:List Bool) (b06:Int) (b07:List t3.den) (b08 b09:List Int) (b010 b011:Int) (b1 b12 b13:Int):Option (Bool × Unit):=res bn.c (atJoin bn.b [1,0,1,0,0,1,0,0,1]) ⟨[(2,(.v (.int .u32) most)),(3,(.ptr 0 [])),(4,(.ptr 1 [])),(7,(.v (.int .i64) i))],[(0,some (.box (.agg [(.v (.int .i64) b0),(.v (.slice (.int .u32)) b02),(.v (.slice t1) b03),(.agg [(.v (.slice (.int .i64)) b04),(.v (.slice .bool) b05),(.v (.int .i64) b06)]),(.v (.slice t3) b07),(.agg [(.v (.slice (.int .i64)) b08),(.v (.slice (.int .i64)) b09),(.v (.int .i64) b010),(.v (.int .i64) b011)])]))),(1,some (.box (.agg [(.v (.int .i64) b1),(.v (.int .i64) b12),(.v (.int .i64) b13)])))],2,[]⟩
theorem bn.spec:FnSpec Tryz.prog globs 83 bn.Fn:=spec_of (E:=bn.E) (envOk_at tabOk eqOk primsOk (.nil)) mixOk Tryz.func83 (by kernel_rfl)
theorem bn.L1_eq (most i b0 b02 b03 b04 b05 b06 b07 b08 b09 b010 b011 b1 b12 b13):bn.L1 most i b0 b02 b03 b04 b05 b06 b07 b08 b09 b010 b011 b1 b12 b13=
 bif (decide ((i:Int)<b0)) then
  bn.L2 most i b0 b02 b03 b04 b05 b06 b07 b08 b09 b010 b011 b1 b12 b13
 else
  some (true,()):=res_eq (by kernel_rfl)
theorem bn.L2_eq (most i b0 b02 b03 b04 b05 b06 b07 b08 b09 b010 b011 b1 b12 b13):bn.L2 most i b0 b02 b03 b04 b05 b06 b07 b08 b09 b010 b011 b1 b12 b13=
 bif (decide ((0:Int)≤i∧(i:Int)<((List.length b05:Int)))) then
  bif (List.getD b05 (Int.toNat i) false) then
   bif (decide ((0:Int)≤i∧(i:Int)<((List.length b03:Int)))) then
    bif (!(Ty.beq t0 ((List.getD b03 (Int.toNat i) ((0,0,0,()),0,0,0,())).1) (b1,b12,b13,()))) then
     some (false,())
    else
     bif (decide ((0:Int)≤i∧(i:Int)<((List.length b02:Int)))) then
      bif (decide (((List.getD b02 (Int.toNat i) 0):Int)>most)) then
       some (false,())
      else
       bn.L3 most i b0 b02 b03 b04 b05 b06 b07 b08 b09 b010 b011 b1 b12 b13
     else none
   else none
  else
   bn.L3 most i b0 b02 b03 b04 b05 b06 b07 b08 b09 b010 b011 b1 b12 b13
 else none:=res_eq (by kernel_rfl)
theorem bn.L3_eq (most i b0 b02 b03 b04 b05 b06 b07 b08 b09 b010 b011 b1 b12 b13):bn.L3 most i b0 b02 b03 b04 b05 b06 b07 b08 b09 b010 b011 b1 b12 b13=
 bn.L1 most (IntKind.wrap .i64 (i+1)) b0 b02 b03 b04 b05 b06 b07 b08 b09 b010 b011 b1 b12 b13:=res_eq (by kernel_rfl)
theorem bn.F_eq (t l most):bn.F t l most=
 bn.L1 most 0 t.1 t.2.1 t.2.2.1 t.2.2.2.1.1 t.2.2.2.1.2.1 t.2.2.2.1.2.2.1 t.2.2.2.2.1 t.2.2.2.2.2.1.1 t.2.2.2.2.2.1.2.1 t.2.2.2.2.2.1.2.2.1 t.2.2.2.2.2.1.2.2.2.1 l.1 l.2.1 l.2.2.1:=by kernel_rfl
end
end Go.Proofs.YtkihjakbbcajbaaGreat.PM
