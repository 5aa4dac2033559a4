/- Parts of the proof, joined: ZpmD, Zpm, Plain0. -/
import Derived.Test.YtkihjakbbcajbaaGreatZpmC
namespace Go.Proofs.YtkihjakbbcajbaaGreat.PM
open Go Go.Proofs
noncomputable section
set_option linter.unusedVariables false
def av.sg:Sig:=⟨[.val (.slice (.int .u32)),.val (.slice (.int .u32))],[(.bool,true)]⟩
def av.E:Env:=⟨tl,fun i=>look i [],[],eqs,globs,prims⟩
def av.c:=cxOf av.E av.sg Tryz.f81
def av.b:=body Tryz.f81
def av.Fn:Fun:=fnOf av.E av.sg Tryz.f81
def av.F (a b:List Int):Option (Bool × Unit):=av.Fn.F (a,b,())
def av.L1 (a b:List Int):Option (Bool × Unit):=res av.c (atJoin av.b [1,0,1]) ⟨[(0,(.v (.slice (.int .u32)) a)),(1,(.v (.slice (.int .u32)) b))],[],0,[]⟩
def av.L2 (a b:List Int) (i:Int):Option (Bool × Unit):=res av.c (atLoop av.b [1,1,0,1,0]) ⟨[(0,(.v (.slice (.int .u32)) a)),(1,(.v (.slice (.int .u32)) b)),(5,(.v (.int .i64) i))],[],0,[]⟩
def av.L3 (a b:List Int) (i:Int):Option (Bool × Unit):=res av.c (atJoin av.b [1,1,0,1,0,0,0,1]) ⟨[(0,(.v (.slice (.int .u32)) a)),(1,(.v (.slice (.int .u32)) b)),(5,(.v (.int .i64) i))],[],0,[]⟩
def av.L4 (a b:List Int) (i:Int):Option (Bool × Unit):=res av.c (atJoin av.b [1,1,0,1,0,0,1,0,0,1]) ⟨[(0,(.v (.slice (.int .u32)) a)),(1,(.v (.slice (.int .u32)) b)),(5,(.v (.int .i64) i))],[],0,[]⟩
theorem av.spec:FnSpec Tryz.prog globs 81 av.Fn:=spec_of (E:=av.E) (envOk_at tabOk eqOk primsOk (.nil)) mixOk Tryz.func81 (by kernel_rfl)
theorem av.L1_eq (a b):av.L1 a b=
 av.L2 a b 0:=res_eq (by kernel_rfl)
theorem av.L2_eq (a b i):av.L2 a b i=
 bif (decide ((i:Int)<((List.length a:Int)))) then
  av.L3 a b i
 else
  some (true,()):=res_eq (by kernel_rfl)
theorem av.L3_eq (a b i):av.L3 a b i=
 bif (decide ((0:Int)≤i∧(i:Int)<((List.length a:Int)))) then
  bif (decide ((0:Int)≤i∧(i:Int)<((List.length b:Int)))) then
   bif ((List.getD a (Int.toNat i) 0) !=(List.getD b (Int.toNat i) 0)) then
    some (false,())
   else
    av.L4 a b i
  else none
 else none:=res_eq (by kernel_rfl)
theorem av.L4_eq (a b i):av.L4 a b i=
 av.L2 a b (IntKind.wrap .i64 (i+1)):=res_eq (by kernel_rfl)
theorem av.F_eq (a b):av.F a b=
 bif (((List.length a:Int)) !=((List.length b:Int))) then
  some (false,())
 else
  av.L1 a b:=by kernel_rfl
def ak.sg:Sig:=⟨[.val t2,.val t2],[(.bool,true)]⟩
def ak.E:Env:=⟨tl,fun i=>look i [],[],eqs,globs,prims⟩
def ak.c:=cxOf ak.E ak.sg Tryz.f118
def ak.b:=body Tryz.f118
def ak.Fn:Fun:=fnOf ak.E ak.sg Tryz.f118
def ak.F (a:t2.den) (b:t2.den):Option (Bool × Unit):=ak.Fn.F (a,b,())
def ak.L1 (b0:List Int) (b02:List Bool) (b03:Int) (b1:List Int) (b12:List Bool) (b13:Int):Option (Bool × Unit):=res ak.c (atJoin ak.b [1,0,1]) ⟨[(2,(.ptr 0 [])),(3,(.ptr 1 []))],[(0,some (.box (.agg [(.v (.slice (.int .i64)) b0),(.v (.slice .bool) b02),(.v (.int .i64) b03)]))),(1,some (.box (.agg [(.v (.slice (.int .i64)) b1),(.v (.slice .bool) b12),(.v (.int .i64) b13)])))],2,[]⟩
def ak.L2 (i:Int) (b0:List Int) (b02:List Bool) (b03:Int) (b1:List Int) (b12:List Bool) (b13:Int):Option (Bool × Unit):=res ak.c (atLoop ak.b [1,1,0,1,0]) ⟨[(2,(.ptr 0 [])),(3,(.ptr 1 [])),(5,(.v (.int .i64) i))],[(0,some (.box (.agg [(.v (.slice (.int .i64)) b0),(.v (.slice .bool) b02),(.v (.int .i64) b03)]))),(1,some (.box (.agg [(.v (.slice (.int .i64)) b1),(.v (.slice .bool) b12),(.v (.int .i64) b13)])))],2,[]⟩
def ak.L3 (i:Int) (b0:List Int) (b02:List Bool) (b03:Int) (b1:List Int) (b12:List Bool) (b13:Int):Option (Bool × Unit):=res ak.c (atJoin ak.b [1,1,0,1,0,0,0,1]) ⟨[(2,(.ptr 0 [])),(3,(.ptr 1 [])),(5,(.v (.int .i64) i))],[(0,some (.box (.agg [(.v (.slice (.int .i64)) b0),(.v (.slice .bool) b02),(.v (.int .i64) b03)]))),(1,some (.box (.agg [(.v (.slice (.int .i64)) b1),(.v (.slice .bool) b12),(.v (.int .i64) b13)])))],2,[]⟩
def ak.L4 (i:Int) (b0:List Int) (b02:List Bool) (b03:Int) (b1:List Int) (b12:List Bool) (b13:Int):Option (Bool × Unit):=res ak.c (atLoop ak.b [1,1,1,0,1,0]) ⟨[(2,(.ptr 0 [])),(3,(.ptr 1 [])),(6,(.v (.int .i64) i))],[(0,some (.box (.agg [(.v (.slice (.int .i64)) b0),(.v (.slice .bool) b02),(.v (.int .i64) b03)]))),(1,some (.box (.agg [(.v (.slice (.int .i64)) b1),(.v (.slice .bool) b12),(.v (.int .i64) b13)])))],2,[]⟩
def ak.L5 (i:Int) (b0:List Int) (b02:List Bool) (b03:Int) (b1:List Int) (b12:List Bool) (b13:Int):Option (Bool × Unit):=res ak.c (atJoin ak.b [1,1,1,0,1,0,0,0,1]) ⟨[(2,(.ptr 0 [])),(3,(.ptr 1 [])),(6,(.v (.int .i64) i))],[(0,some (.box (.agg [(.v (.slice (.int .i64)) b0),(.v (.slice .bool) b02),(.v (.int .i64) b03)]))),(1,some (.box (.agg [(.v (.slice (.int .i64)) b1),(.v (.slice .bool) b12),(.v (.int .i64) b13)])))],2,[]⟩
def ak.L6 (i:Int) (b0:List Int) (b02:List Bool) (b03:Int) (b1:List Int) (b12:List Bool) (b13:Int):Option (Bool × Unit):=res ak.c (atJoin ak.b [1,1,1,0,1,0,0,1,0,0,1]) ⟨[(2,(.ptr 0 [])),(3,(.ptr 1 [])),(6,(.v (.int .i64) i))],[(0,some (.box (.agg [(.v (.slice (.int .i64)) b0),(.v (.slice .bool) b02),(.v (.int .i64) b03)]))),(1,some (.box (.agg [(.v (.slice (.int .i64)) b1),(.v (.slice .bool) b12),(.v (.int .i64) b13)])))],2,[]⟩
def ak.L7 (i:Int) (b0:List Int) (b02:List Bool) (b03:Int) (b1:List Int) (b12:List Bool) (b13:Int):Option (Bool × Unit):=res ak.c (atJoin ak.b [1,1,0,1,0,0,1,0,0,1]) ⟨[(2,(.ptr 0 [])),(3,(.ptr 1 [])),(5,(.v (.int .i64) i))],[(0,some (.box (.agg [(.v (.slice (.int .i64)) b0),(.v (.slice .bool) b02),(.v (.int .i64) b03)]))),(1,some (.box (.agg [(.v (.slice (.int .i64)) b1),(.v (.slice .bool) b12),(.v (.int .i64) b13)])))],2,[]⟩
theorem ak.spec:FnSpec Tryz.prog globs 118 ak.Fn:=spec_of (E:=ak.E) (envOk_at tabOk eqOk primsOk (.nil)) mixOk Tryz.func118 (by kernel_rfl)
theorem ak.L1_eq (b0 b02 b03 b1 b12 b13):ak.L1 b0 b02 b03 b1 b12 b13=
 ak.L2 0 b0 b02 b03 b1 b12 b13:=res_eq (by kernel_rfl)
theorem ak.L2_eq (i b0 b02 b03 b1 b12 b13):ak.L2 i b0 b02 b03 b1 b12 b13=
 bif (decide ((i:Int)<((List.length b0:Int)))) then
  ak.L3 i b0 b02 b03 b1 b12 b13
 else
  ak.L4 0 b0 b02 b03 b1 b12 b13:=res_eq (by kernel_rfl)
theorem ak.L3_eq (i b0 b02 b03 b1 b12 b13):ak.L3 i b0 b02 b03 b1 b12 b13=
 bif (decide ((0:Int)≤i∧(i:Int)<((List.length b0:Int)))) then
  bif (decide ((0:Int)≤i∧(i:Int)<((List.length b1:Int)))) then
   bif ((List.getD b0 (Int.toNat i) 0) !=(List.getD b1 (Int.toNat i) 0)) then
    some (false,())
   else
    ak.L7 i b0 b02 b03 b1 b12 b13
  else none
 else none:=res_eq (by kernel_rfl)
theorem ak.L4_eq (i b0 b02 b03 b1 b12 b13):ak.L4 i b0 b02 b03 b1 b12 b13=
 bif (decide ((i:Int)<((List.length b02:Int)))) then
  ak.L5 i b0 b02 b03 b1 b12 b13
 else
  some (true,()):=res_eq (by kernel_rfl)
theorem ak.L5_eq (i b0 b02 b03 b1 b12 b13):ak.L5 i b0 b02 b03 b1 b12 b13=
 bif (decide ((0:Int)≤i∧(i:Int)<((List.length b02:Int)))) then
  bif (decide ((0:Int)≤i∧(i:Int)<((List.length b12:Int)))) then
   bif (!((List.getD b02 (Int.toNat i) false)==(List.getD b12 (Int.toNat i) false))) then
    some (false,())
   else
    ak.L6 i b0 b02 b03 b1 b12 b13
  else none
 else none:=res_eq (by kernel_rfl)
theorem ak.L6_eq (i b0 b02 b03 b1 b12 b13):ak.L6 i b0 b02 b03 b1 b12 b13=
 ak.L4 (IntKind.wrap .i64 (i+1)) b0 b02 b03 b1 b12 b13:=res_eq (by kernel_rfl)
theorem ak.L7_eq (i b0 b02 b03 b1 b12 b13):ak.L7 i b0 b02 b03 b1 b12 b13=
 ak.L2 (IntKind.wrap .i64 (i+1)) b0 b02 b03 b1 b12 b13:=res_eq (by kernel_rfl)
theorem ak.F_eq (a b):ak.F a b=
 bif (a.2.2.1 !=b.2.2.1) then
  some (false,())
 else
  bif (((List.length a.1:Int)) !=((List.length b.1:Int))) then
   some (false,())
  else
   bif (((List.length a.2.1:Int)) !=((List.length b.2.1:Int))) then
    some (false,())
   else
    ak.L1 a.1 a.2.1 a.2.2.1 b.1 b.2.1 b.2.2.1:=by kernel_rfl
def cb.sg:Sig:=⟨[.val (.slice t3),.val (.slice t3)],[(.bool,true)]⟩
def cb.E:Env:=⟨tl,fun i=>look i [],[],eqs,globs,prims⟩
def cb.c:=cxOf cb.E cb.sg Tryz.f119
def cb.b:=body Tryz.f119
def cb.Fn:Fun:=fnOf cb.E cb.sg Tryz.f119
def cb.F (a b:List t3.den):Option (Bool × Unit):=cb.Fn.F (a,b,())
def cb.L1 (a b:List t3.den):Option (Bool × Unit):=res cb.c (atJoin cb.b [1,0,1]) ⟨[(0,(.v (.slice t3) a)),(1,(.v (.slice t3) b))],[],0,[]⟩
def cb.L2 (a b:List t3.den) (i:Int):Option (Bool × Unit):=res cb.c (atLoop cb.b [1,1,0,1,0]) ⟨[(0,(.v (.slice t3) a)),(1,(.v (.slice t3) b)),(5,(.v (.int .i64) i))],[],0,[]⟩
def cb.L3 (a b:List t3.den) (i:Int):Option (Bool × Unit):=res cb.c (atJoin cb.b [1,1,0,1,0,0,0,1]) ⟨[(0,(.v (.slice t3) a)),(1,(.v (.slice t3) b)),(5,(.v (.int .i64) i))],[],0,[]⟩
def cb.L4 (a b:List t3.den) (i:Int):Option (Bool × Unit):=res cb.c (atJoin cb.b [1,1,0,1,0,0,1,0,0,1]) ⟨[(0,(.v (.slice t3) a)),(1,(.v (.slice t3) b)),(5,(.v (.int .i64) i))],[],0,[]⟩
theorem cb.spec:FnSpec Tryz.prog globs 119 cb.Fn:=spec_of (E:=cb.E) (envOk_at tabOk eqOk primsOk (.nil)) mixOk Tryz.func119 (by kernel_rfl)
theorem cb.L1_eq (a b):cb.L1 a b=
 cb.L2 a b 0:=res_eq (by kernel_rfl)
theorem cb.L2_eq (a b i):cb.L2 a b i=
 bif (decide ((i:Int)<((List.length a:Int)))) then
  cb.L3 a b i
 else
  some (true,()):=res_eq (by kernel_rfl)
theorem cb.L3_eq (a b i):cb.L3 a b i=
 bif (decide ((0:Int)≤i∧(i:Int)<((List.length a:Int)))) then
  bif (decide ((0:Int)≤i∧(i:Int)<((List.length b:Int)))) then
   bif (!(Ty.beq t3 (List.getD a (Int.toNat i) (0,0,false,())) (List.getD b (Int.toNat i) (0,0,false,())))) then
    some (false,())
   else
    cb.L4 a b i
  else none
 else none:=res_eq (by kernel_rfl)
theorem cb.L4_eq (a b i):cb.L4 a b i=
 cb.L2 a b (IntKind.wrap .i64 (i+1)):=res_eq (by kernel_rfl)
theorem cb.F_eq (a b):cb.F a b=
 bif (((List.length a:Int)) !=((List.length b:Int))) then
  some (false,())
 else
  cb.L1 a b:=by kernel_rfl
def bw.sg:Sig:=⟨[.val t5,.val t5],[(.bool,true)]⟩
def bw.E:Env:=⟨tl,fun i=>look i [(81,av.Fn),(118,ak.Fn),(119,cb.Fn),(120,fb.Fn)],[],eqs,globs,prims⟩
def bw.c:=cxOf bw.E bw.sg Tryz.f80
def bw.b:=body Tryz.f80
def bw.Fn:Fun:=fnOf bw.E bw.sg Tryz.f80
def bw.F (a:t5.den) (b:t5.den):Option (Bool × Unit):=bw.Fn.F (a,b,())
def bw.L1 (b0:Int) (b02:List Int) (b03:List t1.den) (b04:List Int) (b05:List Bool) (b06:Int) (b07:List t3.den) (b08 b09:List Int) (b010 b011 b1:Int) (b12:List Int) (b13:List t1.den) (b14:List Int) (b15:List Bool) (b16:Int) (b17:List t3.den) (b18 b19:List Int) (b110 b111:Int):Option (Bool × Unit):=res bw.c (atJoin bw.b [1,0,1]) ⟨[(2,(.ptr 0 [])),(3,(.ptr 1 []))],[(0,some (.box (.agg [(.v (.int .i64) b0),(.v (.slice (.int .u32)) b02),(.v (.slice t1) b03),(.agg [(.v (.slice (.int .i64)) b04),(.v (.slice .bool) b05),(.v (.int .i64) b06)]),(.v (.slice t3) b07),(.agg [(.v (.slice (.int .i64)) b08),(.v (.slice (.int .i64)) b09),(.v (.int .i64) b010),(.v (.int .i64) b011)])]))),(1,some (.box (.agg [(.v (.int .i64) b1),(.v (.slice (.int .u32)) b12),(.v (.slice t1) b13),(.agg [(.v (.slice (.int .i64)) b14),(.v (.slice .bool) b15),(.v (.int .i64) b16)]),(.v (.slice t3) b17),(.agg [(.v (.slice (.int .i64)) b18),(.v (.slice (.int .i64)) b19),(.v (.int .i64) b110),(.v (.int .i64) b111)])])))],2,[]⟩
def bw.L2 (i b0:Int) (b02:List Int) (b03:List t1.den) (b04:List Int) (b05:List Bool) (b06:Int) (b07:List t3.den) (b08 b09:List Int) (b010 b011 b1:Int) (b12:List Int) (b13:List t1.den) (b14:List Int) (b15:List Bool) (b16:Int) (b17:List t3.den) (b18 b19:List Int) (b110 b111:Int):Option (Bool × Unit):=res bw.c (atLoop bw.b [1,1,0,1,0]) ⟨[(2,(.ptr 0 [])),(3,(.ptr 1 [])),(5,(.v (.int .i64) i))],[(0,some (.box (.agg [(.v (.int .i64) b0),(.v (.slice (.int .u32)) b02),(.v (.slice t1) b03),(.agg [(.v (.slice (.int .i64)) b04),(.v (.slice .bool) b05),(.v (.int .i64) b06)]),(.v (.slice t3) b07),(.agg [(.v (.slice (.int .i64)) b08),(.v (.slice (.int .i64)) b09),(.v (.int .i64) b010),(.v (.int .i64) b011)])]))),(1,some (.box (.agg [(.v (.int .i64) b1),(.v (.slice (.int .u32)) b12),(.v (.slice t1) b13),(.agg [(.v (.slice (.int .i64)) b14),(.v (.slice .bool) b15),(.v (.int .i64) b16)]),(.v (.slice t3) b17),(.agg [(.v (.slice (.int .i64)) b18),(.v (.slice (.int .i64)) b19),(.v (.int .i64) b110),(.v (.int .i64) b111)])])))],2,[]⟩
def bw.L3 (i b0:Int) (b02:List Int) (b03:List t1.den) (b04:List Int) (b05:List Bool) (b06:Int) (b07:List t3.den) (b08 b09:List Int) (b010 b011 b1:Int) (b12:List Int) (b13:List t1.den) (b14:List Int) (b15:List Bool) (b16:Int) (b17:List t3.den) (b18 b19:List Int) (b110 b111:Int):Option (Bool × Unit):=res bw.c (atJoin bw.b [1,1,0,1,0,0,0,1]) ⟨[(2,(.ptr 0 [])),(3,(.ptr 1 [])),(5,(.v (.int .i64) i))],[(0,some (.box (.agg [(.v (.int .i64) b0),(.v (.slice (.int .u32)) b02),(.v (.slice t1) b03),(.agg [(.v (.slice (.int .i64)) b04),(.v (.slice .bool) b05),(.v (.int .i64) b06)]),(.v (.slice t3) b07),(.agg [(.v (.slice (.int .i64)) b08),(.v (.slice (.int .i64)) b09),(.v (.int .i64) b010),(.v (.int .i64) b011)])]))),(1,some (.box (.agg [(.v (.int .i64) b1),(.v (.slice (.int .u32)) b12),(.v (.slice t1) b13),(.agg [(.v (.slice (.int .i64)) b14),(.v (.slice .bool) b15),(.v (.int .i64) b16)]),(.v (.slice t3) b17),(.agg [(.v (.slice (.int .i64)) b18),(.v (.slice (.int .i64)) b19),(.v (.int .i64) b110),(.v (.int .i64) b111)])])))],2,[]⟩
def bw.L4 (i b0:Int) (b02:List Int) (b03:List t1.den) (b04:List Int) (b05:List Bool) (b06:Int) (b07:List t3.den) (b08 b09:List Int) (b010 b011 b1:Int) (b12:List Int) (b13:List t1.den) (b14:List Int) (b15:List Bool) (b16:Int) (b17:List t3.den) (b18 b19:List Int) (b110 b111:Int):Option (Bool × Unit):=res bw.c (atJoin bw.b [1,1,0,1,0,0,1,0,0,1]) ⟨[(2,(.ptr 0 [])),(3,(.ptr 1 [])),(5,(.v (.int .i64) i))],[(0,some (.box (.agg [(.v (.int .i64) b0),(.v (.slice (.int .u32)) b02),(.v (.slice t1) b03),(.agg [(.v (.slice (.int .i64)) b04),(.v (.slice .bool) b05),(.v (.int .i64) b06)]),(.v (.slice t3) b07),(.agg [(.v (.slice (.int .i64)) b08),(.v (.slice (.int .i64)) b09),(.v (.int .i64) b010),(.v (.int .i64) b011)])]))),(1,some (.box (.agg [(.v (.int .i64) b1),(.v (.slice (.int .u32)) b12),(.v (.slice t1) b13),(.agg [(.v (.slice (.int .i64)) b14),(.v (.slice .bool) b15),(.v (.int .i64) b16)]),(.v (.slice t3) b17),(.agg [(.v (.slice (.int .i64)) b18),(.v (.slice (.int .i64)) b19),(.v (.int .i64) b110),(.v (.int .i64) b111)])])))],2,[]⟩
theorem bw.spec:FnSpec Tryz.prog globs 80 bw.Fn:=spec_of (E:=bw.E) (envOk_at tabOk eqOk primsOk (.cons av.spec<|.cons ak.spec<|.cons cb.spec<|.cons fb.spec<|.nil)) mixOk Tryz.func80 (by kernel_rfl)
theorem bw.L1_eq (b0 b02 b03 b04 b05 b06 b07 b08 b09 b010 b011 b1 b12 b13 b14 b15 b16 b17 b18 b19 b110 b111):bw.L1 b0 b02 b03 b04 b05 b06 b07 b08 b09 b010 b011 b1 b12 b13 b14 b15 b16 b17 b18 b19 b110 b111=
 bw.L2 0 b0 b02 b03 b04 b05 b06 b07 b08 b09 b010 b011 b1 b12 b13 b14 b15 b16 b17 b18 b19 b110 b111:=res_eq (by kernel_rfl)
theorem bw.L2_eq (i b0 b02 b03 b04 b05 b06 b07 b08 b09 b010 b011 b1 b12 b13 b14 b15 b16 b17 b18 b19 b110 b111):bw.L2 i b0 b02 b03 b04 b05 b06 b07 b08 b09 b010 b011 b1 b12 b13 b14 b15 b16 b17 b18 b19 b110 b111=
 bif (decide ((i:Int)<((List.length b03:Int)))) then
  bw.L3 i b0 b02 b03 b04 b05 b06 b07 b08 b09 b010 b011 b1 b12 b13 b14 b15 b16 b17 b18 b19 b110 b111
 else
  some (true,()):=res_eq (by kernel_rfl)
theorem bw.L3_eq (i b0 b02 b03 b04 b05 b06 b07 b08 b09 b010 b011 b1 b12 b13 b14 b15 b16 b17 b18 b19 b110 b111):bw.L3 i b0 b02 b03 b04 b05 b06 b07 b08 b09 b010 b011 b1 b12 b13 b14 b15 b16 b17 b18 b19 b110 b111=
 bif (decide ((0:Int)≤i∧(i:Int)<((List.length b03:Int)))) then
  bif (decide ((0:Int)≤i∧(i:Int)<((List.length b13:Int)))) then
   bif (!(Ty.beq t1 (List.getD b03 (Int.toNat i) ((0,0,0,()),0,0,0,())) (List.getD b13 (Int.toNat i) ((0,0,0,()),0,0,0,())))) then
    some (false,())
   else
    bw.L4 i b0 b02 b03 b04 b05 b06 b07 b08 b09 b010 b011 b1 b12 b13 b14 b15 b16 b17 b18 b19 b110 b111
  else none
 else none:=res_eq (by kernel_rfl)
theorem bw.L4_eq (i b0 b02 b03 b04 b05 b06 b07 b08 b09 b010 b011 b1 b12 b13 b14 b15 b16 b17 b18 b19 b110 b111):bw.L4 i b0 b02 b03 b04 b05 b06 b07 b08 b09 b010 b011 b1 b12 b13 b14 b15 b16 b17 b18 b19 b110 b111=
 bw.L2 (IntKind.wrap .i64 (i+1)) b0 b02 b03 b04 b05 b06 b07 b08 b09 b010 b011 b1 b12 b13 b14 b15 b16 b17 b18 b19 b110 b111:=res_eq (by kernel_rfl)
theorem bw.F_eq (a b):bw.F a b=
 bif (a.1 !=b.1) then
  some (false,())
 else
  (av.F a.2.1 b.2.1).bind fun r0=>
  bif (!r0.1) then
   some (false,())
  else
   bif (((List.length a.2.2.1:Int)) !=((List.length b.2.2.1:Int))) then
    some (false,())
   else
    (ak.F a.2.2.2.1 b.2.2.2.1).bind fun r1=>
    bif (!r1.1) then
     some (false,())
    else
     (cb.F a.2.2.2.2.1 b.2.2.2.2.1).bind fun r2=>
     bif (!r2.1) then
      some (false,())
     else
      (fb.F a.2.2.2.2.2.1 b.2.2.2.2.2.1).bind fun r3=>
      bif (!r3.1) then
       some (false,())
      else
       bw.L1 a.1 a.2.1 a.2.2.1 a.2.2.2.1.1 a.2.2.2.1.2.1 a.2.2.2.1.2.2.1 a.2.2.2.2.1 a.2.2.2.2.2.1.1 a.2.2.2.2.2.1.2.1 a.2.2.2.2.2.1.2.2.1 a.2.2.2.2.2.1.2.2.2.1 b.1 b.2.1 b.2.2.1 b.2.2.2.1.1 b.2.2.2.1.2.1 b.2.2.2.1.2.2.1 b.2.2.2.2.1 b.2.2.2.2.2.1.1 b.2.2.2.2.2.1.2.1 b.2.2.2.2.2.1.2.2.1 b.2.2.2.2.2.1.2.2.2.1:=by kernel_rfl
def fk.sg:Sig:=⟨[.val t7,.val t7],[(.bool,true)]⟩
def fk.E:Env:=⟨tl,fun i=>look i [(80,bw.Fn),(81,av.Fn)],[],eqs,globs,prims⟩
def fk.Fn:Fun:=fnOf fk.E fk.sg Tryz.f54
def fk.F (a:t7.den) (b:t7.den):Option (Bool × Unit):=fk.Fn.F (a,b,())
theorem fk.spec:FnSpec Tryz.prog globs 54 fk.Fn:=spec_of (E:=fk.E) (envOk_at tabOk eqOk primsOk (.cons bw.spec<|.cons av.spec<|.nil)) mixOk Tryz.func54 (by kernel_rfl)
theorem fk.F_eq (a b):fk.F a b=
 bif (a.1==b.1) then
  bif (Ty.beq (.arr 3 t0) a.2.1 b.2.1) then
   bif (Ty.beq t1 a.2.2.1 b.2.2.1) then
    (bw.F a.2.2.2.1 b.2.2.2.1).bind fun r0=>
    bif r0.1 then
     (bw.F a.2.2.2.2.1 b.2.2.2.2.1).bind fun r1=>
     bif r1.1 then
      (av.F a.2.2.2.2.2.1 b.2.2.2.2.2.1).bind fun r2=>
      bif r2.1 then
       some ((Ty.beq t6 a.2.2.2.2.2.2.1 b.2.2.2.2.2.2.1),())
      else
       some (false,())
     else
      some (false,())
    else
     some (false,())
   else
    some (false,())
  else
   some (false,())
 else
  some (false,()):=by kernel_rfl
def cc.sg:Sig:=⟨[.val (.slice t7),.val (.slice t7)],[(.bool,true)]⟩
def cc.E:Env:=⟨tl,fun i=>look i [(54,fk.Fn)],[],eqs,globs,prims⟩
def cc.c:=cxOf cc.E cc.sg Tryz.f30
def cc.b:=body Tryz.f30
def cc.Fn:Fun:=fnOf cc.E cc.sg Tryz.f30
def cc.F (a b:List t7.den):Option (Bool × Unit):=cc.Fn.F (a,b,())
def cc.L1 (a b:List t7.den):Option (Bool × Unit):=res cc.c (atJoin cc.b [1,0,1]) ⟨[(0,(.v (.slice t7) a)),(1,(.v (.slice t7) b))],[],0,[]⟩
def cc.L2 (a b:List t7.den) (i:Int):Option (Bool × Unit):=res cc.c (atLoop cc.b [1,1,0,1,0]) ⟨[(0,(.v (.slice t7) a)),(1,(.v (.slice t7) b)),(5,(.v (.int .i64) i))],[],0,[]⟩
def cc.L3 (a b:List t7.den) (i:Int):Option (Bool × Unit):=res cc.c (atJoin cc.b [1,1,0,1,0,0,0,1]) ⟨[(0,(.v (.slice t7) a)),(1,(.v (.slice t7) b)),(5,(.v (.int .i64) i))],[],0,[]⟩
def cc.L4 (a b:List t7.den) (i:Int):Option (Bool × Unit):=res cc.c (atJoin cc.b [1,1,0,1,0,0,1,0,0,1]) ⟨[(0,(.v (.slice t7) a)),(1,(.v (.slice t7) b)),(5,(.v (.int .i64) i))],[],0,[]⟩
theorem cc.spec:FnSpec Tryz.prog globs 30 cc.Fn:=spec_of (E:=cc.E) (envOk_at tabOk eqOk primsOk (.cons fk.spec<|.nil)) mixOk Tryz.func30 (by kernel_rfl)
theorem cc.L1_eq (a b):cc.L1 a b=
 cc.L2 a b 0:=res_eq (by kernel_rfl)
theorem cc.L2_eq (a b i):cc.L2 a b i=
 bif (decide ((i:Int)<((List.length a:Int)))) then
  cc.L3 a b i
 else
  some (true,()):=res_eq (by kernel_rfl)
theorem cc.L3_eq (a b i):cc.L3 a b i=
 bif (decide ((0:Int)≤i∧(i:Int)<((List.length a:Int)))) then
  bif (decide ((0:Int)≤i∧(i:Int)<((List.length b:Int)))) then
   (fk.F (List.getD a (Int.toNat i) d7_) (List.getD b (Int.toNat i) d7_)).bind fun r0=>
   bif (!r0.1) then
    some (false,())
   else
    cc.L4 a b i
  else none
 else none:=res_eq (by kernel_rfl)
theorem cc.L4_eq (a b i):cc.L4 a b i=
 cc.L2 a b (IntKind.wrap .i64 (i+1)):=res_eq (by kernel_rfl)
theorem cc.F_eq (a b):cc.F a b=
 bif (((List.length a:Int)) !=((List.length b:Int))) then
  some (false,())
 else
  cc.L1 a b:=by kernel_rfl
def fg.sg:Sig:=⟨[.val t8,.val t8],[(.bool,true)]⟩
def fg.E:Env:=⟨tl,fun i=>look i [(30,cc.Fn)],[],eqs,globs,prims⟩
def fg.Fn:Fun:=fnOf fg.E fg.sg Tryz.f11
def fg.F (a:t8.den) (b:t8.den):Option (Bool × Unit):=fg.Fn.F (a,b,())
theorem fg.spec:FnSpec Tryz.prog globs 11 fg.Fn:=spec_of (E:=fg.E) (envOk_at tabOk eqOk primsOk (.cons cc.spec<|.nil)) mixOk Tryz.func11 (by kernel_rfl)
theorem fg.F_eq (a b):fg.F a b=
 bif (a.1==b.1) then
  bif (Ty.beq (.arr 32 (.int .u8)) a.2.1 b.2.1) then
   bif (Ty.beq (.arr 16 (.int .u32)) a.2.2.1 b.2.2.1) then
    (cc.F a.2.2.2.1 b.2.2.2.1).bind fun r0=>
    some (r0.1,())
   else
    some (false,())
  else
   some (false,())
 else
  some (false,()):=by kernel_rfl
def cd.sg:Sig:=⟨[.val (.slice t7)],[((.int .i64),true)]⟩
def cd.E:Env:=⟨tl,fun i=>look i [(128,a9.Fn)],[],eqs,globs,prims⟩
def cd.c:=cxOf cd.E cd.sg Tryz.f84
def cd.b:=body Tryz.f84
def cd.Fn:Fun:=fnOf cd.E cd.sg Tryz.f84
def cd.F (l:List t7.den):Option (Int × Unit):=cd.Fn.F (l,())
def cd.L1 (l:List t7.den):Option (Int × Unit):=res cd.c (atJoin cd.b [1,0,1]) ⟨[(0,(.v (.slice t7) l))],[],0,[]⟩
def cd.L2 (l:List t7.den) (t9_ t10_:Int):Option (Int × Unit):=res cd.c (atLoop cd.b [1,1,0,1,0]) ⟨[(0,(.v (.slice t7) l)),(8,(.v (.slice t7) l)),(9,(.v (.int .i64) t9_)),(10,(.v (.int .i64) t10_))],[],0,[]⟩
def cd.L3 (l:List t7.den) (t9_ t10_:Int):Option (Int × Unit):=res cd.c (atJoin cd.b [1,1,0,1,0,0,1,0]) ⟨[(0,(.v (.slice t7) l)),(8,(.v (.slice t7) l)),(9,(.v (.int .i64) t9_)),(10,(.v (.int .i64) t10_))],[],0,[]⟩
def cd.L4 (l:List t7.den) (t9_ t10_:Int):Option (Int × Unit):=res cd.c (atJoin cd.b [1,1,0,1,0,0,1,1,0,0,1,1]) ⟨[(0,(.v (.slice t7) l)),(8,(.v (.slice t7) l)),(9,(.v (.int .i64) t9_)),(10,(.v (.int .i64) t10_))],[],0,[]⟩
theorem cd.spec:FnSpec Tryz.prog globs 84 cd.Fn:=spec_of (E:=cd.E) (envOk_at tabOk eqOk primsOk (.cons a9.spec<|.nil)) mixOk Tryz.func84 (by kernel_rfl)
theorem cd.L1_eq (l):cd.L1 l=
 cd.L2 l ((List.length l:Int)) 0:=res_eq (by kernel_rfl)
theorem cd.L2_eq (l t9_ t10_):cd.L2 l t9_ t10_=
 bif (decide ((t10_:Int)<t9_)) then
  cd.L3 l t9_ t10_
 else
  some (0,()):=res_eq (by kernel_rfl)
theorem cd.L3_eq (l t9_ t10_):cd.L3 l t9_ t10_=
 bif (decide ((0:Int)≤t10_∧(t10_:Int)<((List.length l:Int)))) then
  (a9.F (List.getD l (Int.toNat t10_) d7_)).bind fun r0=>
  bif (r0.1 !=0) then
   some (8,())
  else
   bif (decide ((t10_:Int)>0)) then
    bif (decide ((0:Int)≤(IntKind.wrap .i64 (t10_ - 1))∧((IntKind.wrap .i64 (t10_ - 1)):Int)<((List.length l:Int)))) then
     bif (decide ((((List.getD l (Int.toNat (IntKind.wrap .i64 (t10_ - 1))) d7_).1):Int)≥((List.getD l (Int.toNat t10_) d7_).1))) then
      some (8,())
     else
      cd.L4 l t9_ t10_
    else none
   else
    cd.L4 l t9_ t10_
 else none:=res_eq (by kernel_rfl)
theorem cd.L4_eq (l t9_ t10_):cd.L4 l t9_ t10_=
 cd.L2 l t9_ (IntKind.wrap .i64 (t10_+1)):=res_eq (by kernel_rfl)
theorem cd.F_eq (l):cd.F l=
 bif (decide ((((List.length l:Int)):Int)>8)) then
  some (4,())
 else
  cd.L1 l:=by kernel_rfl
def dq.sg:Sig:=⟨[.val (.slice (.int .u32))],[((.int .u32),true)]⟩
def dq.E:Env:=⟨tl,fun i=>look i [],[],eqs,globs,prims⟩
def dq.c:=cxOf dq.E dq.sg Tryz.f85
def dq.b:=body Tryz.f85
def dq.Fn:Fun:=fnOf dq.E dq.sg Tryz.f85
def dq.F (x:List Int):Option (Int × Unit):=dq.Fn.F (x,())
def dq.L1 (x:List Int):Option (Int × Unit):=res dq.c (atJoin dq.b [1,0,1]) ⟨[(0,(.v (.slice (.int .u32)) x))],[],0,[]⟩
def dq.L2 (x:List Int) (m i:Int):Option (Int × Unit):=res dq.c (atLoop dq.b [1,1,1,0,1,0]) ⟨[(0,(.v (.slice (.int .u32)) x)),(3,(.v (.int .u32) m)),(4,(.v (.int .i64) i))],[],0,[]⟩
def dq.L3 (x:List Int) (m i:Int):Option (Int × Unit):=res dq.c (atJoin dq.b [1,1,1,0,1,0,0,0,1]) ⟨[(0,(.v (.slice (.int .u32)) x)),(3,(.v (.int .u32) m)),(4,(.v (.int .i64) i))],[],0,[]⟩
theorem dq.spec:FnSpec Tryz.prog globs 85 dq.Fn:=spec_of (E:=dq.E) (envOk_at tabOk eqOk primsOk (.nil)) mixOk Tryz.func85 (by kernel_rfl)
theorem dq.L1_eq (x):dq.L1 x=
 bif (decide ((0:Int)≤0∧(0:Int)<((List.length x:Int)))) then
  dq.L2 x (List.getD x (Int.toNat 0) 0) 1
 else none:=res_eq (by kernel_rfl)
theorem dq.L2_eq (x m i):dq.L2 x m i=
 bif (decide ((i:Int)<((List.length x:Int)))) then
  dq.L3 x m i
 else
  some (m,()):=res_eq (by kernel_rfl)
theorem dq.L3_eq (x m i):dq.L3 x m i=
 bif (decide ((0:Int)≤i∧(i:Int)<((List.length x:Int)))) then
  dq.L2 x (max m (List.getD x (Int.toNat i) 0)) (IntKind.wrap .i64 (i+1))
 else none:=res_eq (by kernel_rfl)
theorem dq.F_eq (x):dq.F x=
 bif (decide ((((List.length x:Int)):Int)<1)) then
  none
 else
  dq.L1 x:=by kernel_rfl
def fm.sg:Sig:=⟨[.val t1,.io (.int .u64) false],[(.bool,true)]⟩
def fm.E:Env:=⟨tl,fun i=>look i [],[],eqs,globs,prims⟩
def fm.Fn:Fun:=fnOf fm.E fm.sg Tryz.f130
def fm.F (b:t1.den) (x1:Int):Option (Int × Bool × Unit):=fm.Fn.F (b,x1,())
theorem fm.spec:FnSpec Tryz.prog globs 130 fm.Fn:=spec_of (E:=fm.E) (envOk_at tabOk eqOk primsOk (.nil)) mixOk Tryz.func130 (by kernel_rfl)
theorem fm.F_eq (b x1):fm.F b x1=
 some (x1,(decide ((b.2.2.2.1:Int)>x1)),()):=by kernel_rfl
def bi.sg:Sig:=⟨[.val (.slice t1),.clo 130 (.int .u64)],[((.int .i64),true)]⟩
def bi.E:Env:=⟨tl,fun i=>look i [(130,fm.Fn)],[],eqs,globs,prims⟩
def bi.c:=cxOf bi.E bi.sg Tryz.f170
def bi.b:=body Tryz.f170
def bi.Fn:Fun:=fnOf bi.E bi.sg Tryz.f170
def bi.F (s:List t1.den) (f:Int):Option (Int × Int × Unit):=bi.Fn.F (s,f,())
def bi.L1 (s:List t1.den) (t7_ t8_ b0:Int):Option (Int × Int × Unit):=res bi.c (atLoop bi.b [1,0,1,0]) ⟨[(0,(.v (.slice t1) s)),(1,(.fn 130 [(.ptr 0 [])])),(7,(.v (.int .i64) t7_)),(8,(.v (.int .i64) t8_))],[(0,some (.box (.v (.int .u64) b0)))],1,[(.ptr 0 [])]⟩
def bi.L2 (s:List t1.den) (t7_ t8_ b0:Int):Option (Int × Int × Unit):=res bi.c (atJoin bi.b [1,0,1,0,0,1,0]) ⟨[(0,(.v (.slice t1) s)),(1,(.fn 130 [(.ptr 0 [])])),(7,(.v (.int .i64) t7_)),(8,(.v (.int .i64) t8_))],[(0,some (.box (.v (.int .u64) b0)))],1,[(.ptr 0 [])]⟩
def bi.L3 (s:List t1.den) (t7_ t8_ b0:Int):Option (Int × Int × Unit):=res bi.c (atJoin bi.b [1,0,1,0,0,1,1,0,0,1,1]) ⟨[(0,(.v (.slice t1) s)),(1,(.fn 130 [(.ptr 0 [])])),(7,(.v (.int .i64) t7_)),(8,(.v (.int .i64) t8_))],[(0,some (.box (.v (.int .u64) b0)))],1,[(.ptr 0 [])]⟩
theorem bi.spec:FnSpec Tryz.prog globs 170 bi.Fn:=spec_of (E:=bi.E) (envOk_at tabOk eqOk primsOk (.cons fm.spec<|.nil)) mixOk Tryz.func170 (by kernel_rfl)
theorem bi.L1_eq (s t7_ t8_ b0):bi.L1 s t7_ t8_ b0=
 bif (decide ((t8_:Int)<t7_)) then
  bi.L2 s t7_ t8_ b0
 else
  some (b0,(-1),()):=res_eq (by kernel_rfl)
theorem bi.L2_eq (s t7_ t8_ b0):bi.L2 s t7_ t8_ b0=
 bif (decide ((0:Int)≤t8_∧(t8_:Int)<((List.length s:Int)))) then
  (fm.F (List.getD s (Int.toNat t8_) ((0,0,0,()),0,0,0,())) b0).bind fun r0=>
  bif r0.2.1 then
   some (r0.1,t8_,())
  else
   bi.L3 s t7_ t8_ r0.1
 else none:=res_eq (by kernel_rfl)
theorem bi.L3_eq (s t7_ t8_ b0):bi.L3 s t7_ t8_ b0=
 bi.L1 s t7_ (IntKind.wrap .i64 (t8_+1)) b0:=res_eq (by kernel_rfl)
theorem bi.F_eq (s f):bi.F s f=
 bi.L1 s ((List.length s:Int)) 0 f:=by kernel_rfl
def du.sg:Sig:=⟨[.val (.slice t1),.clo 130 (.int .u64)],[(.bool,true)]⟩
def du.E:Env:=⟨tl,fun i=>look i [(170,bi.Fn),(130,fm.Fn)],[],eqs,globs,prims⟩
def du.Fn:Fun:=fnOf du.E du.sg Tryz.f131
def du.F (s:List t1.den) (f:Int):Option (Int × Bool × Unit):=du.Fn.F (s,f,())
theorem du.spec:FnSpec Tryz.prog globs 131 du.Fn:=spec_of (E:=du.E) (envOk_at tabOk eqOk primsOk (.cons bi.spec<|.cons fm.spec<|.nil)) mixOk Tryz.func131 (by kernel_rfl)
theorem du.F_eq (s f):du.F s f=
 (bi.F s f).bind fun r0=>
 some (r0.1,(decide ((r0.2.1:Int)≥0)),()):=by kernel_rfl
def ge.sg:Sig:=⟨[.val t7,.val (.int .u64)],[(.bool,true)]⟩
def ge.E:Env:=⟨tl,fun i=>look i [(130,fm.Fn),(131,du.Fn)],[],eqs,globs,prims⟩
def ge.Fn:Fun:=fnOf ge.E ge.sg Tryz.f88
def ge.F (p:t7.den) (tick:Int):Option (Bool × Unit):=ge.Fn.F (p,tick,())
theorem ge.spec:FnSpec Tryz.prog globs 88 ge.Fn:=spec_of (E:=ge.E) (envOk_at tabOk eqOk primsOk (.cons fm.spec<|.cons du.spec<|.nil)) mixOk Tryz.func88 (by kernel_rfl)
theorem ge.F_eq (p tick):ge.F p tick=
 (fm.F p.2.2.1 tick).bind fun r0=>
 bif r0.2.1 then
  some (true,())
 else
  (du.F p.2.2.2.1.2.2.1 r0.1).bind fun r1=>
  bif r1.2.1 then
   some (true,())
  else
   (du.F p.2.2.2.2.1.2.2.1 r1.1).bind fun r2=>
   some (r2.2.1,()):=by kernel_rfl
def fq.sg:Sig:=⟨[.val t7,.io t8 false],[(.bool,true)]⟩
def fq.E:Env:=⟨tl,fun i=>look i [(88,ge.Fn)],[],eqs,globs,prims⟩
def fq.Fn:Fun:=fnOf fq.E fq.sg Tryz.f87
def fq.F (p:t7.den) (x1:t8.den):Option (t8.den × Bool × Unit):=fq.Fn.F (p,x1,())
theorem fq.spec:FnSpec Tryz.prog globs 87 fq.Fn:=spec_of (E:=fq.E) (envOk_at tabOk eqOk primsOk (.cons ge.spec<|.nil)) mixOk Tryz.func87 (by kernel_rfl)
theorem fq.F_eq (p x1):fq.F p x1=
 (ge.F p x1.1).bind fun r0=>
 some (x1,r0.1,()):=by kernel_rfl
def bh.sg:Sig:=⟨[.val (.slice t7),.clo 87 t8],[((.int .i64),true)]⟩
def bh.E:Env:=⟨tl,fun i=>look i [(87,fq.Fn)],[],eqs,globs,prims⟩
def bh.c:=cxOf bh.E bh.sg Tryz.f129
def bh.b:=body Tryz.f129
def bh.Fn:Fun:=fnOf bh.E bh.sg Tryz.f129
def bh.F (s:List t7.den) (f:t8.den):Option (t8.den × Int × Unit):=bh.Fn.F (s,f,())
def bh.L1 (s:List t7.den) (t7_ t8_ b0:Int) (b02 b03:List Int) (b04:List t7.den):Option (t8.den × Int × Unit):=res bh.c (atLoop bh.b [1,0,1,0]) ⟨[(0,(.v (.slice t7) s)),(1,(.fn 87 [(.ptr 0 [])])),(7,(.v (.int .i64) t7_)),(8,(.v (.int .i64) t8_))],[(0,some (.box (.agg [(.v (.int .u64) b0),(.v (.arr 32 (.int .u8)) b02),(.v (.arr 16 (.int .u32)) b03),(.v (.slice t7) b04)])))],1,[(.ptr 0 [])]⟩
def bh.L2 (s:List t7.den) (t7_ t8_ b0:Int) (b02 b03:List Int) (b04:List t7.den):Option (t8.den × Int × Unit):=res bh.c (atJoin bh.b [1,0,1,0,0,1,0]) ⟨[(0,(.v (.slice t7) s)),(1,(.fn 87 [(.ptr 0 [])])),(7,(.v (.int .i64) t7_)),(8,(.v (.int .i64) t8_))],[(0,some (.box (.agg [(.v (.int .u64) b0),(.v (.arr 32 (.int .u8)) b02),(.v (.arr 16 (.int .u32)) b03),(.v (.slice t7) b04)])))],1,[(.ptr 0 [])]⟩
def bh.L3 (s:List t7.den) (t7_ t8_ b0:Int) (b02 b03:List Int) (b04:List t7.den):Option (t8.den × Int × Unit):=res bh.c (atJoin bh.b [1,0,1,0,0,1,1,0,0,1,1]) ⟨[(0,(.v (.slice t7) s)),(1,(.fn 87 [(.ptr 0 [])])),(7,(.v (.int .i64) t7_)),(8,(.v (.int .i64) t8_))],[(0,some (.box (.agg [(.v (.int .u64) b0),(.v (.arr 32 (.int .u8)) b02),(.v (.arr 16 (.int .u32)) b03),(.v (.slice t7) b04)])))],1,[(.ptr 0 [])]⟩
theorem bh.spec:FnSpec Tryz.prog globs 129 bh.Fn:=spec_of (E:=bh.E) (envOk_at tabOk eqOk primsOk (.cons fq.spec<|.nil)) mixOk Tryz.func129 (by kernel_rfl)
theorem bh.L1_eq (s t7_ t8_ b0 b02 b03 b04):bh.L1 s t7_ t8_ b0 b02 b03 b04=
 bif (decide ((t8_:Int)<t7_)) then
  bh.L2 s t7_ t8_ b0 b02 b03 b04
 else
  some ((b0,b02,b03,b04,()),(-1),()):=res_eq (by kernel_rfl)
theorem bh.L2_eq (s t7_ t8_ b0 b02 b03 b04):bh.L2 s t7_ t8_ b0 b02 b03 b04=
 bif (decide ((0:Int)≤t8_∧(t8_:Int)<((List.length s:Int)))) then
  (fq.F (List.getD s (Int.toNat t8_) d7_) (b0,b02,b03,b04,())).bind fun r0=>
  bif r0.2.1 then
   some (r0.1,t8_,())
  else
   bh.L3 s t7_ t8_ r0.1.1 r0.1.2.1 r0.1.2.2.1 r0.1.2.2.2.1
 else none:=res_eq (by kernel_rfl)
theorem bh.L3_eq (s t7_ t8_ b0 b02 b03 b04):bh.L3 s t7_ t8_ b0 b02 b03 b04=
 bh.L1 s t7_ (IntKind.wrap .i64 (t8_+1)) b0 b02 b03 b04:=res_eq (by kernel_rfl)
theorem bh.F_eq (s f):bh.F s f=
 bh.L1 s ((List.length s:Int)) 0 f.1 f.2.1 f.2.2.1 f.2.2.2.1:=by kernel_rfl
def ek.sg:Sig:=⟨[.val (.slice t7),.clo 87 t8],[(.bool,true)]⟩
def ek.E:Env:=⟨tl,fun i=>look i [(129,bh.Fn),(87,fq.Fn)],[],eqs,globs,prims⟩
def ek.Fn:Fun:=fnOf ek.E ek.sg Tryz.f86
def ek.F (s:List t7.den) (f:t8.den):Option (t8.den × Bool × Unit):=ek.Fn.F (s,f,())
theorem ek.spec:FnSpec Tryz.prog globs 86 ek.Fn:=spec_of (E:=ek.E) (envOk_at tabOk eqOk primsOk (.cons bh.spec<|.cons fq.spec<|.nil)) mixOk Tryz.func86 (by kernel_rfl)
theorem ek.F_eq (s f):ek.F s f=
 (bh.F s f).bind fun r0=>
 some (r0.1,(decide ((r0.2.1:Int)≥0)),()):=by kernel_rfl
def ew.sg:Sig:=⟨[.val t8],[((.int .i64),true)]⟩
def ew.E:Env:=⟨tl,fun i=>look i [(84,cd.Fn),(85,dq.Fn),(86,ek.Fn),(87,fq.Fn)],[],eqs,globs,prims⟩
def ew.c:=cxOf ew.E ew.sg Tryz.f56
def ew.b:=body Tryz.f56
def ew.Fn:Fun:=fnOf ew.E ew.sg Tryz.f56
def ew.F (s:t8.den):Option (Int × Unit):=ew.Fn.F (s,())
def ew.L1 (b0:Int) (b02 b03:List Int) (b04:List t7.den):Option (Int × Unit):=res ew.c (atJoin ew.b [1,0,1]) ⟨[(1,(.ptr 0 []))],[(0,some (.box (.agg [(.v (.int .u64) b0),(.v (.arr 32 (.int .u8)) b02),(.v (.arr 16 (.int .u32)) b03),(.v (.slice t7) b04)])))],1,[]⟩
def ew.L2:Option (Int × Unit):=res ew.c (atJoin ew.b [1,1,0,1]) ⟨[],[],0,[]⟩
theorem ew.spec:FnSpec Tryz.prog globs 56 ew.Fn:=spec_of (E:=ew.E) (envOk_at tabOk eqOk primsOk (.cons cd.spec<|.cons dq.spec<|.cons ek.spec<|.cons fq.spec<|.nil)) mixOk Tryz.func56 (by kernel_rfl)
theorem ew.L1_eq (b0 b02 b03 b04):ew.L1 b0 b02 b03 b04=
 bif (decide ((0:Int)≤0∧(0:Int)≤16∧(16:Int)≤16)) then
  (dq.F (List.take ((Int.toNat 16) - (Int.toNat 0)) (List.drop (Int.toNat 0) b03))).bind fun r0=>
  bif (decide ((r0.1:Int)>1000000)) then
   some (8,())
  else
   (ek.F b04 (b0,b02,b03,b04,())).bind fun r1=>
   bif r1.2.1 then
    some (8,())
   else
    ew.L2
 else none:=res_eq (by kernel_rfl)
theorem ew.L2_eq:ew.L2=
 some (0,()):=res_eq (by kernel_rfl)
theorem ew.F_eq (s):ew.F s=
 (cd.F s.2.2.2.1).bind fun r0=>
 bif (r0.1 !=0) then
  some (8,())
 else
  ew.L1 s.1 s.2.1 s.2.2.1 s.2.2.2.1:=by kernel_rfl
def fv.sg:Sig:=⟨[.val t8],[((.int .i64),true)]⟩
def fv.E:Env:=⟨tl,fun i=>look i [(56,ew.Fn)],[],eqs,globs,prims⟩
def fv.Fn:Fun:=fnOf fv.E fv.sg Tryz.f34
def fv.F (s:t8.den):Option (Int × Unit):=fv.Fn.F (s,())
theorem fv.spec:FnSpec Tryz.prog globs 34 fv.Fn:=spec_of (E:=fv.E) (envOk_at tabOk eqOk primsOk (.cons ew.spec<|.nil)) mixOk Tryz.func34 (by kernel_rfl)
theorem fv.F_eq (s):fv.F s=
 (ew.F s).bind fun r0=>
 some (r0.1,()):=by kernel_rfl
def dr.sg:Sig:=⟨[.val t5],[((.slice (.int .u32)),true),((.int .i64),true)]⟩
def dr.E:Env:=⟨tl,fun i=>look i [(106,af.Fn),(134,eh.Fn)],[],eqs,globs,prims⟩
def dr.c:=cxOf dr.E dr.sg Tryz.f92
def dr.b:=body Tryz.f92
def dr.Fn:Fun:=fnOf dr.E dr.sg Tryz.f92
def dr.F (t:t5.den):Option ((List Int) × Int × Unit):=dr.Fn.F (t,())
def dr.L1 (b0:Int) (b02:List Int) (b03:List t1.den) (b04:List Int) (b05:List Bool) (b06:Int) (b07:List t3.den) (b08 b09:List Int) (b010 b011:Int):Option ((List Int) × Int × Unit):=res dr.c (atJoin dr.b [1,0,1,1]) ⟨[(1,(.ptr 0 []))],[(0,some (.box (.agg [(.v (.int .i64) b0),(.v (.slice (.int .u32)) b02),(.v (.slice t1) b03),(.agg [(.v (.slice (.int .i64)) b04),(.v (.slice .bool) b05),(.v (.int .i64) b06)]),(.v (.slice t3) b07),(.agg [(.v (.slice (.int .i64)) b08),(.v (.slice (.int .i64)) b09),(.v (.int .i64) b010),(.v (.int .i64) b011)])])))],1,[]⟩
def dr.L2 (t22_ t23_ b0:Int) (b02:List Int) (b03:List t1.den) (b04:List Int) (b05:List Bool) (b06:Int) (b07:List t3.den) (b08 b09:List Int) (b010 b011:Int) (l1 l2:List Int):Option ((List Int) × Int × Unit):=res dr.c (atLoop dr.b [1,1,1,1,0,1,0]) ⟨[(1,(.ptr 0 [])),(7,(.sl 1)),(21,(.sl 2)),(22,(.v (.int .i64) t22_)),(23,(.v (.int .i64) t23_))],[(0,some (.box (.agg [(.v (.int .i64) b0),(.v (.slice (.int .u32)) b02),(.v (.slice t1) b03),(.agg [(.v (.slice (.int .i64)) b04),(.v (.slice .bool) b05),(.v (.int .i64) b06)]),(.v (.slice t3) b07),(.agg [(.v (.slice (.int .i64)) b08),(.v (.slice (.int .i64)) b09),(.v (.int .i64) b010),(.v (.int .i64) b011)])]))),(1,some (.row (.int .u32) l1 false)),(2,some (.row (.int .i64) l2 false))],3,[]⟩
def dr.L3 (t22_ t23_ b0:Int) (b02:List Int) (b03:List t1.den) (b04:List Int) (b05:List Bool) (b06:Int) (b07:List t3.den) (b08 b09:List Int) (b010 b011:Int) (l1 l2:List Int):Option ((List Int) × Int × Unit):=res dr.c (atJoin dr.b [1,1,1,1,0,1,0,0,1,0]) ⟨[(1,(.ptr 0 [])),(7,(.sl 1)),(21,(.sl 2)),(22,(.v (.int .i64) t22_)),(23,(.v (.int .i64) t23_))],[(0,some (.box (.agg [(.v (.int .i64) b0),(.v (.slice (.int .u32)) b02),(.v (.slice t1) b03),(.agg [(.v (.slice (.int .i64)) b04),(.v (.slice .bool) b05),(.v (.int .i64) b06)]),(.v (.slice t3) b07),(.agg [(.v (.slice (.int .i64)) b08),(.v (.slice (.int .i64)) b09),(.v (.int .i64) b010),(.v (.int .i64) b011)])]))),(1,some (.row (.int .u32) l1 false)),(2,some (.row (.int .i64) l2 false))],3,[]⟩
theorem dr.spec:FnSpec Tryz.prog globs 92 dr.Fn:=spec_of (E:=dr.E) (envOk_at tabOk eqOk primsOk (.cons af.spec<|.cons eh.spec<|.nil)) mixOk Tryz.func92 (by kernel_rfl)
theorem dr.L1_eq (b0 b02 b03 b04 b05 b06 b07 b08 b09 b010 b011):dr.L1 b0 b02 b03 b04 b05 b06 b07 b08 b09 b010 b011=
 (eh.F (b08,b09,b010,b011,())).bind fun r0=>
 dr.L2 ((List.length r0.1:Int)) 0 b0 b02 b03 b04 b05 b06 b07 b08 b09 b010 b011 ([]:List Int) r0.1:=res_eq (by kernel_rfl)
theorem dr.L2_eq (t22_ t23_ b0 b02 b03 b04 b05 b06 b07 b08 b09 b010 b011 l1 l2):dr.L2 t22_ t23_ b0 b02 b03 b04 b05 b06 b07 b08 b09 b010 b011 l1 l2=
 bif (decide ((t23_:Int)<t22_)) then
  dr.L3 t22_ t23_ b0 b02 b03 b04 b05 b06 b07 b08 b09 b010 b011 l1 l2
 else
  some (l1,0,()):=res_eq (by kernel_rfl)
theorem dr.L3_eq (t22_ t23_ b0 b02 b03 b04 b05 b06 b07 b08 b09 b010 b011 l1 l2):dr.L3 t22_ t23_ b0 b02 b03 b04 b05 b06 b07 b08 b09 b010 b011 l1 l2=
 bif (decide ((0:Int)≤t23_∧(t23_:Int)<((List.length l2:Int)))) then
  bif (decide ((0:Int)≤(List.getD l2 (Int.toNat t23_) 0)∧((List.getD l2 (Int.toNat t23_) 0):Int)<((List.length b02:Int)))) then
   bif (lim ((List.length l1)+(List.length ([(List.getD b02 (Int.toNat (List.getD l2 (Int.toNat t23_) 0)) 0)]:List Int))) (.int .u32)) then
    dr.L2 t22_ (IntKind.wrap .i64 (t23_+1)) b0 b02 b03 b04 b05 b06 b07 b08 b09 b010 b011 (l1++([(List.getD b02 (Int.toNat (List.getD l2 (Int.toNat t23_) 0)) 0)]:List Int)) l2
   else none
  else none
 else none:=res_eq (by kernel_rfl)
theorem dr.F_eq (t):dr.F t=
 (af.F t).bind fun r0=>
 bif (r0.1 !=0) then
  some (([]:List Int),r0.1,())
 else
  dr.L1 t.1 t.2.1 t.2.2.1 t.2.2.2.1.1 t.2.2.2.1.2.1 t.2.2.2.1.2.2.1 t.2.2.2.2.1 t.2.2.2.2.2.1.1 t.2.2.2.2.2.1.2.1 t.2.2.2.2.2.1.2.2.1 t.2.2.2.2.2.1.2.2.2.1:=by kernel_rfl
def fc.sg:Sig:=⟨[.val t5,.val (.int .u32)],[(t1,true),((.int .i64),true)]⟩
def fc.E:Env:=⟨tl,fun i=>look i [(106,af.Fn),(109,dz.Fn)],[],eqs,globs,prims⟩
def fc.c:=cxOf fc.E fc.sg Tryz.f93
def fc.b:=body Tryz.f93
def fc.Fn:Fun:=fnOf fc.E fc.sg Tryz.f93
def fc.F (t:t5.den) (key:Int):Option (t1.den × Int × Unit):=fc.Fn.F (t,key,())
def fc.L1 (key b0:Int) (b02:List Int) (b03:List t1.den) (b04:List Int) (b05:List Bool) (b06:Int) (b07:List t3.den) (b08 b09:List Int) (b010 b011:Int):Option (t1.den × Int × Unit):=res fc.c (atJoin fc.b [1,0,1,1]) ⟨[(1,(.v (.int .u32) key)),(2,(.ptr 0 [])),(4,(.ptr 1 []))],[(0,some (.box (.agg [(.v (.int .i64) b0),(.v (.slice (.int .u32)) b02),(.v (.slice t1) b03),(.agg [(.v (.slice (.int .i64)) b04),(.v (.slice .bool) b05),(.v (.int .i64) b06)]),(.v (.slice t3) b07),(.agg [(.v (.slice (.int .i64)) b08),(.v (.slice (.int .i64)) b09),(.v (.int .i64) b010),(.v (.int .i64) b011)])]))),(1,some (.box (.agg [(.agg [(.v (.int .i64) 0),(.v (.int .i64) 0),(.v (.int .i64) 0)]),(.v (.int .i64) 0),(.v (.int .i64) 0),(.v (.int .u64) 0)])))],2,[]⟩
def fc.L2 (i b0:Int) (b02:List Int) (b03:List t1.den) (b04:List Int) (b05:List Bool) (b06:Int) (b07:List t3.den) (b08 b09:List Int) (b010 b011:Int):Option (t1.den × Int × Unit):=res fc.c (atJoin fc.b [1,1,1,0,1]) ⟨[(2,(.ptr 0 [])),(4,(.ptr 1 [])),(7,(.v (.int .i64) i))],[(0,some (.box (.agg [(.v (.int .i64) b0),(.v (.slice (.int .u32)) b02),(.v (.slice t1) b03),(.agg [(.v (.slice (.int .i64)) b04),(.v (.slice .bool) b05),(.v (.int .i64) b06)]),(.v (.slice t3) b07),(.agg [(.v (.slice (.int .i64)) b08),(.v (.slice (.int .i64)) b09),(.v (.int .i64) b010),(.v (.int .i64) b011)])]))),(1,some (.box (.agg [(.agg [(.v (.int .i64) 0),(.v (.int .i64) 0),(.v (.int .i64) 0)]),(.v (.int .i64) 0),(.v (.int .i64) 0),(.v (.int .u64) 0)])))],2,[]⟩
theorem fc.spec:FnSpec Tryz.prog globs 93 fc.Fn:=spec_of (E:=fc.E) (envOk_at tabOk eqOk primsOk (.cons af.spec<|.cons dz.spec<|.nil)) mixOk Tryz.func93 (by kernel_rfl)
theorem fc.L1_eq (key b0 b02 b03 b04 b05 b06 b07 b08 b09 b010 b011):fc.L1 key b0 b02 b03 b04 b05 b06 b07 b08 b09 b010 b011=
 (dz.F (b0,b02,b03,(b04,b05,b06,()),b07,(b08,b09,b010,b011,()),()) key).bind fun r0=>
 bif (decide ((r0.1:Int)<0)) then
  some (((0,0,0,()),0,0,0,()),6,())
 else
  fc.L2 r0.1 b0 b02 b03 b04 b05 b06 b07 b08 b09 b010 b011:=res_eq (by kernel_rfl)
theorem fc.L2_eq (i b0 b02 b03 b04 b05 b06 b07 b08 b09 b010 b011):fc.L2 i b0 b02 b03 b04 b05 b06 b07 b08 b09 b010 b011=
 bif (decide ((0:Int)≤i∧(i:Int)<((List.length b03:Int)))) then
  some ((List.getD b03 (Int.toNat i) ((0,0,0,()),0,0,0,())),0,())
 else none:=res_eq (by kernel_rfl)
theorem fc.F_eq (t key):fc.F t key=
 (af.F t).bind fun r0=>
 bif (r0.1 !=0) then
  some (((0,0,0,()),0,0,0,()),r0.1,())
 else
  fc.L1 key t.1 t.2.1 t.2.2.1 t.2.2.2.1.1 t.2.2.2.1.2.1 t.2.2.2.1.2.2.1 t.2.2.2.2.1 t.2.2.2.2.2.1.1 t.2.2.2.2.2.1.2.1 t.2.2.2.2.2.1.2.2.1 t.2.2.2.2.2.1.2.2.2.1:=by kernel_rfl
def dp.sg:Sig:=⟨[.val t5],[((.slice t9),true)]⟩
def dp.E:Env:=⟨tl,fun i=>look i [(92,dr.Fn),(93,fc.Fn)],[],eqs,globs,prims⟩
def dp.c:=cxOf dp.E dp.sg Tryz.f63
def dp.b:=body Tryz.f63
def dp.Fn:Fun:=fnOf dp.E dp.sg Tryz.f63
def dp.F (t:t5.den):Option ((List t9.den) × Unit):=dp.Fn.F (t,())
def dp.L1 (t16_ t17_ b0:Int) (b02:List Int) (b03:List t1.den) (b04:List Int) (b05:List Bool) (b06:Int) (b07:List t3.den) (b08 b09:List Int) (b010 b011:Int) (l1:List t9.den) (l2:List Int):Option ((List t9.den) × Unit):=res dp.c (atLoop dp.b [1,1,1,0,1,0]) ⟨[(1,(.ptr 0 [])),(3,(.sl 1)),(15,(.sl 2)),(16,(.v (.int .i64) t16_)),(17,(.v (.int .i64) t17_))],[(0,some (.box (.agg [(.v (.int .i64) b0),(.v (.slice (.int .u32)) b02),(.v (.slice t1) b03),(.agg [(.v (.slice (.int .i64)) b04),(.v (.slice .bool) b05),(.v (.int .i64) b06)]),(.v (.slice t3) b07),(.agg [(.v (.slice (.int .i64)) b08),(.v (.slice (.int .i64)) b09),(.v (.int .i64) b010),(.v (.int .i64) b011)])]))),(1,some (.row t9 l1 false)),(2,some (.row (.int .u32) l2 false))],3,[]⟩
def dp.L2 (t16_ t17_ b0:Int) (b02:List Int) (b03:List t1.den) (b04:List Int) (b05:List Bool) (b06:Int) (b07:List t3.den) (b08 b09:List Int) (b010 b011:Int) (l1:List t9.den) (l2:List Int):Option ((List t9.den) × Unit):=res dp.c (atJoin dp.b [1,1,1,0,1,0,0,1,0]) ⟨[(1,(.ptr 0 [])),(3,(.sl 1)),(15,(.sl 2)),(16,(.v (.int .i64) t16_)),(17,(.v (.int .i64) t17_))],[(0,some (.box (.agg [(.v (.int .i64) b0),(.v (.slice (.int .u32)) b02),(.v (.slice t1) b03),(.agg [(.v (.slice (.int .i64)) b04),(.v (.slice .bool) b05),(.v (.int .i64) b06)]),(.v (.slice t3) b07),(.agg [(.v (.slice (.int .i64)) b08),(.v (.slice (.int .i64)) b09),(.v (.int .i64) b010),(.v (.int .i64) b011)])]))),(1,some (.row t9 l1 false)),(2,some (.row (.int .u32) l2 false))],3,[]⟩
theorem dp.spec:FnSpec Tryz.prog globs 63 dp.Fn:=spec_of (E:=dp.E) (envOk_at tabOk eqOk primsOk (.cons dr.spec<|.cons fc.spec<|.nil)) mixOk Tryz.func63 (by kernel_rfl)
theorem dp.L1_eq (t16_ t17_ b0 b02 b03 b04 b05 b06 b07 b08 b09 b010 b011 l1 l2):dp.L1 t16_ t17_ b0 b02 b03 b04 b05 b06 b07 b08 b09 b010 b011 l1 l2=
 bif (decide ((t17_:Int)<t16_)) then
  dp.L2 t16_ t17_ b0 b02 b03 b04 b05 b06 b07 b08 b09 b010 b011 l1 l2
 else
  some (l1,()):=res_eq (by kernel_rfl)
theorem dp.L2_eq (t16_ t17_ b0 b02 b03 b04 b05 b06 b07 b08 b09 b010 b011 l1 l2):dp.L2 t16_ t17_ b0 b02 b03 b04 b05 b06 b07 b08 b09 b010 b011 l1 l2=
 bif (decide ((0:Int)≤t17_∧(t17_:Int)<((List.length l2:Int)))) then
  (fc.F (b0,b02,b03,(b04,b05,b06,()),b07,(b08,b09,b010,b011,()),()) (List.getD l2 (Int.toNat t17_) 0)).bind fun r0=>
  bif (lim ((List.length l1)+(List.length ([((List.getD l2 (Int.toNat t17_) 0),r0.1,())]:List t9.den))) t9) then
   dp.L1 t16_ (IntKind.wrap .i64 (t17_+1)) b0 b02 b03 b04 b05 b06 b07 b08 b09 b010 b011 (l1++([((List.getD l2 (Int.toNat t17_) 0),r0.1,())]:List t9.den)) l2
  else none
 else none:=res_eq (by kernel_rfl)
theorem dp.F_eq (t):dp.F t=
 (dr.F t).bind fun r0=>
 dp.L1 ((List.length r0.1:Int)) 0 t.1 t.2.1 t.2.2.1 t.2.2.2.1.1 t.2.2.2.1.2.1 t.2.2.2.1.2.2.1 t.2.2.2.2.1 t.2.2.2.2.2.1.1 t.2.2.2.2.2.1.2.1 t.2.2.2.2.2.1.2.2.1 t.2.2.2.2.2.1.2.2.2.1 ([]:List t9.den) r0.1:=by kernel_rfl
def ez.sg:Sig:=⟨[.val t8],[(t11,true)]⟩
def ez.E:Env:=⟨tl,fun i=>look i [(63,dp.Fn)],[],eqs,globs,prims⟩
def ez.c:=cxOf ez.E ez.sg Tryz.f41
def ez.b:=body Tryz.f41
def ez.Fn:Fun:=fnOf ez.E ez.sg Tryz.f41
def ez.F (s:t8.den):Option (t11.den × Unit):=ez.Fn.F (s,())
def ez.L1 (t14_:List t7.den) (t15_ t16_:Int) (b0 b02:List Int) (b1:Int) (b12 b13:List Int) (l2 l3:List t10.den):Option (t11.den × Unit):=res ez.c (atLoop ez.b [1,1,0,1,0]) ⟨[(2,(.ptr 0 [])),(3,(.ptr 1 [])),(14,(.v (.slice t7) t14_)),(15,(.v (.int .i64) t15_)),(16,(.v (.int .i64) t16_))],[(0,some (.box (.agg [(.v (.int .u64) 0),(.v (.arr 32 (.int .u8)) b0),(.v (.arr 16 (.int .u32)) b02),(.sl 2)]))),(1,some (.box (.agg [(.v (.int .u64) b1),(.v (.arr 32 (.int .u8)) b12),(.v (.arr 16 (.int .u32)) b13),(.sl 3)]))),(2,some (.row t10 l2 false)),(3,some (.row t10 l3 false))],4,[]⟩
def ez.L2 (t14_:List t7.den) (t15_ t16_:Int) (b0 b02:List Int) (b1:Int) (b12 b13:List Int) (l2 l3:List t10.den):Option (t11.den × Unit):=res ez.c (atJoin ez.b [1,1,0,1,0,0,1,0]) ⟨[(2,(.ptr 0 [])),(3,(.ptr 1 [])),(14,(.v (.slice t7) t14_)),(15,(.v (.int .i64) t15_)),(16,(.v (.int .i64) t16_))],[(0,some (.box (.agg [(.v (.int .u64) 0),(.v (.arr 32 (.int .u8)) b0),(.v (.arr 16 (.int .u32)) b02),(.sl 2)]))),(1,some (.box (.agg [(.v (.int .u64) b1),(.v (.arr 32 (.int .u8)) b12),(.v (.arr 16 (.int .u32)) b13),(.sl 3)]))),(2,some (.row t10 l2 false)),(3,some (.row t10 l3 false))],4,[]⟩
theorem ez.spec:FnSpec Tryz.prog globs 41 ez.Fn:=spec_of (E:=ez.E) (envOk_at tabOk eqOk primsOk (.cons dp.spec<|.nil)) mixOk Tryz.func41 (by kernel_rfl)
theorem ez.L1_eq (t14_ t15_ t16_ b0 b02 b1 b12 b13 l2 l3):ez.L1 t14_ t15_ t16_ b0 b02 b1 b12 b13 l2 l3=
 bif (decide ((t16_:Int)<t15_)) then
  ez.L2 t14_ t15_ t16_ b0 b02 b1 b12 b13 l2 l3
 else
  some ((b1,b12,b13,l3,()),()):=res_eq (by kernel_rfl)
theorem ez.L2_eq (t14_ t15_ t16_ b0 b02 b1 b12 b13 l2 l3):ez.L2 t14_ t15_ t16_ b0 b02 b1 b12 b13 l2 l3=
 bif (decide ((0:Int)≤t16_∧(t16_:Int)<((List.length t14_:Int)))) then
  (dp.F (((((List.getD t14_ (Int.toNat t16_) d7_).2).2).2).1)).bind fun r0=>
  (dp.F ((((((List.getD t14_ (Int.toNat t16_) d7_).2).2).2).2).1)).bind fun r1=>
  bif (lim (List.length (((((((List.getD t14_ (Int.toNat t16_) d7_).2).2).2).2).2).1)) (.int .u32)) then
   bif (lim ((List.length l3)+(List.length ([((List.getD t14_ (Int.toNat t16_) d7_).1,((List.getD t14_ (Int.toNat t16_) d7_).2).1,([(((((List.getD t14_ (Int.toNat t16_) d7_).2).2).2).1).1,((((((List.getD t14_ (Int.toNat t16_) d7_).2).2).2).2).1).1]:List Int),(((List.getD t14_ (Int.toNat t16_) d7_).2).2).1,r0.1,r1.1,((((((List.getD t14_ (Int.toNat t16_) d7_).2).2).2).2).2).1,(((((((List.getD t14_ (Int.toNat t16_) d7_).2).2).2).2).2).2).1,())]:List t10.den))) t10) then
    ez.L1 t14_ t15_ (IntKind.wrap .i64 (t16_+1)) b0 b02 b1 b12 b13 l2 (l3++([((List.getD t14_ (Int.toNat t16_) d7_).1,((List.getD t14_ (Int.toNat t16_) d7_).2).1,([(((((List.getD t14_ (Int.toNat t16_) d7_).2).2).2).1).1,((((((List.getD t14_ (Int.toNat t16_) d7_).2).2).2).2).1).1]:List Int),(((List.getD t14_ (Int.toNat t16_) d7_).2).2).1,r0.1,r1.1,((((((List.getD t14_ (Int.toNat t16_) d7_).2).2).2).2).2).1,(((((((List.getD t14_ (Int.toNat t16_) d7_).2).2).2).2).2).2).1,())]:List t10.den))
   else none
  else none
 else none:=res_eq (by kernel_rfl)
theorem ez.F_eq (s):ez.F s=
 ez.L1 s.2.2.2.1 ((List.length s.2.2.2.1:Int)) 0 (List.replicate 32 (0:Int)) (List.replicate 16 (0:Int)) s.1 s.2.1 s.2.2.1 ([]:List t10.den) ([]:List t10.den):=by kernel_rfl
def fe.sg:Sig:=⟨[.val t8],[(t11,true),((.int .i64),true)]⟩
def fe.E:Env:=⟨tl,fun i=>look i [(34,fv.Fn),(41,ez.Fn)],[],eqs,globs,prims⟩
def fe.c:=cxOf fe.E fe.sg Tryz.f35
def fe.b:=body Tryz.f35
def fe.Fn:Fun:=fnOf fe.E fe.sg Tryz.f35
def fe.F (s:t8.den):Option (t11.den × Int × Unit):=fe.Fn.F (s,())
def fe.L1 (b0:Int) (b02 b03:List Int) (b04:List t7.den) (b1 b12:List Int) (l2:List t10.den):Option (t11.den × Int × Unit):=res fe.c (atJoin fe.b [1,0,1,1]) ⟨[(1,(.ptr 0 [])),(2,(.ptr 1 []))],[(0,some (.box (.agg [(.v (.int .u64) b0),(.v (.arr 32 (.int .u8)) b02),(.v (.arr 16 (.int .u32)) b03),(.v (.slice t7) b04)]))),(1,some (.box (.agg [(.v (.int .u64) 0),(.v (.arr 32 (.int .u8)) b1),(.v (.arr 16 (.int .u32)) b12),(.sl 2)]))),(2,some (.row t10 l2 false))],3,[]⟩
theorem fe.spec:FnSpec Tryz.prog globs 35 fe.Fn:=spec_of (E:=fe.E) (envOk_at tabOk eqOk primsOk (.cons fv.spec<|.cons ez.spec<|.nil)) mixOk Tryz.func35 (by kernel_rfl)
theorem fe.L1_eq (b0 b02 b03 b04 b1 b12 l2):fe.L1 b0 b02 b03 b04 b1 b12 l2=
 (ez.F (b0,b02,b03,b04,())).bind fun r0=>
 some (r0.1,0,()):=res_eq (by kernel_rfl)
theorem fe.F_eq (s):fe.F s=
 (fv.F s).bind fun r0=>
 bif (r0.1 !=0) then
  some ((0,(List.replicate 32 (0:Int)),(List.replicate 16 (0:Int)),([]:List t10.den),()),r0.1,())
 else
  fe.L1 s.1 s.2.1 s.2.2.1 s.2.2.2.1 (List.replicate 32 (0:Int)) (List.replicate 16 (0:Int)) ([]:List t10.den):=by kernel_rfl
def az.sg:Sig:=⟨[.io t13 true,.val (.int .u64),.val (.int .i64)],[]⟩
def az.E:Env:=⟨tl,fun i=>look i [],[],eqs,globs,prims⟩
def az.c:=cxOf az.E az.sg Tryz.f36
def az.b:=body Tryz.f36
def az.Fn:Fun:=fnOf az.E az.sg Tryz.f36
def az.F (w:t13.den) (n k:Int):Option (t13.den × Unit):=az.Fn.F (w,n,k,())
def az.L1 (n k:Int) (l1:List Int):Option (t13.den × Unit):=res az.c (atLoop az.b [1,0]) ⟨[(0,(.ptr 0 [])),(1,(.v (.int .u64) n)),(2,(.v (.int .i64) k))],[(0,some (.box (.agg [(.sl 1)]))),(1,some (.row (.int .u8) l1 false))],2,[(.ptr 0 [])]⟩
def az.L2 (n k:Int) (l1:List Int):Option (t13.den × Unit):=res az.c (atJoin az.b [1,0,0,0,1]) ⟨[(0,(.ptr 0 [])),(1,(.v (.int .u64) n)),(2,(.v (.int .i64) k))],[(0,some (.box (.agg [(.sl 1)]))),(1,some (.row (.int .u8) l1 false))],2,[(.ptr 0 [])]⟩
theorem az.spec:FnSpec Tryz.prog globs 36 az.Fn:=spec_of (E:=az.E) (envOk_at tabOk eqOk primsOk (.nil)) mixOk Tryz.func36 (by kernel_rfl)
theorem az.L1_eq (n k l1):az.L1 n k l1=
 bif (decide ((k:Int)≥0)) then
  az.L2 n k l1
 else
  some ((l1,()),()):=res_eq (by kernel_rfl)
theorem az.L2_eq (n k l1):az.L2 n k l1=
 bif (decide ((0:Int)≤(IntKind.wrap .i64 (8*k)))) then
  bif (lim ((List.length l1)+(List.length ([(IntKind.wrap .u8 (Int.fdiv n (2 ^ min (Int.toNat (IntKind.wrap .i64 (8*k))) (IntKind.bits .u64))))]:List Int))) (.int .u8)) then
   az.L1 n (IntKind.wrap .i64 (k - 1)) (l1++([(IntKind.wrap .u8 (Int.fdiv n (2 ^ min (Int.toNat (IntKind.wrap .i64 (8*k))) (IntKind.bits .u64))))]:List Int))
  else none
 else none:=res_eq (by kernel_rfl)
theorem az.F_eq (w n k):az.F w n k=
 az.L1 n (IntKind.wrap .i64 (k - 1)) w.1:=by kernel_rfl
def eu.sg:Sig:=⟨[.io t13 true,.val t1],[]⟩
def eu.E:Env:=⟨tl,fun i=>look i [(36,az.Fn)],[],eqs,globs,prims⟩
def eu.Fn:Fun:=fnOf eu.E eu.sg Tryz.f57
def eu.F (w:t13.den) (b:t1.den):Option (t13.den × Unit):=eu.Fn.F (w,b,())
theorem eu.spec:FnSpec Tryz.prog globs 57 eu.Fn:=spec_of (E:=eu.E) (envOk_at tabOk eqOk primsOk (.cons az.spec<|.nil)) mixOk Tryz.func57 (by kernel_rfl)
theorem eu.F_eq (w b):eu.F w b=
 (az.F w (IntKind.wrap .u64 b.2.1) 8).bind fun r0=>
 (az.F r0.1 (IntKind.wrap .u64 b.2.2.1) 8).bind fun r1=>
 (az.F r1.1 b.2.2.2.1 8).bind fun r2=>
 some (r2.1,()):=by kernel_rfl
def cp.sg:Sig:=⟨[.io t13 true,.val (.slice t9)],[]⟩
def cp.E:Env:=⟨tl,fun i=>look i [(36,az.Fn),(57,eu.Fn)],[],eqs,globs,prims⟩
def cp.c:=cxOf cp.E cp.sg Tryz.f58
def cp.b:=body Tryz.f58
def cp.Fn:Fun:=fnOf cp.E cp.sg Tryz.f58
def cp.F (w:t13.den) (l:List t9.den):Option (t13.den × Unit):=cp.Fn.F (w,l,())
def cp.L1 (t11_:List t9.den) (t12_ t13_:Int) (l1:List Int):Option (t13.den × Unit):=res cp.c (atLoop cp.b [1,1,0]) ⟨[(0,(.ptr 0 [])),(11,(.v (.slice t9) t11_)),(12,(.v (.int .i64) t12_)),(13,(.v (.int .i64) t13_))],[(0,some (.box (.agg [(.sl 1)]))),(1,some (.row (.int .u8) l1 false))],2,[(.ptr 0 [])]⟩
def cp.L2 (t11_:List t9.den) (t12_ t13_:Int) (l1:List Int):Option (t13.den × Unit):=res cp.c (atJoin cp.b [1,1,0,0,1,0]) ⟨[(0,(.ptr 0 [])),(11,(.v (.slice t9) t11_)),(12,(.v (.int .i64) t12_)),(13,(.v (.int .i64) t13_))],[(0,some (.box (.agg [(.sl 1)]))),(1,some (.row (.int .u8) l1 false))],2,[(.ptr 0 [])]⟩
theorem cp.spec:FnSpec Tryz.prog globs 58 cp.Fn:=spec_of (E:=cp.E) (envOk_at tabOk eqOk primsOk (.cons az.spec<|.cons eu.spec<|.nil)) mixOk Tryz.func58 (by kernel_rfl)
theorem cp.L1_eq (t11_ t12_ t13_ l1):cp.L1 t11_ t12_ t13_ l1=
 bif (decide ((t13_:Int)<t12_)) then
  cp.L2 t11_ t12_ t13_ l1
 else
  some ((l1,()),()):=res_eq (by kernel_rfl)
theorem cp.L2_eq (t11_ t12_ t13_ l1):cp.L2 t11_ t12_ t13_ l1=
 bif (decide ((0:Int)≤t13_∧(t13_:Int)<((List.length t11_:Int)))) then
  (az.F (l1,()) (IntKind.wrap .u64 ((List.getD t11_ (Int.toNat t13_) d9_).1)) 4).bind fun r0=>
  (eu.F r0.1 (((List.getD t11_ (Int.toNat t13_) d9_).2).1)).bind fun r1=>
  cp.L1 t11_ t12_ (IntKind.wrap .i64 (t13_+1)) r1.1.1
 else none:=res_eq (by kernel_rfl)
theorem cp.F_eq (w l):cp.F w l=
 (az.F w (IntKind.wrap .u64 ((List.length l:Int))) 1).bind fun r0=>
 cp.L1 l ((List.length l:Int)) 0 r0.1.1:=by kernel_rfl
def al.sg:Sig:=⟨[.io t13 true,.val t10],[]⟩
def al.E:Env:=⟨tl,fun i=>look i [(36,az.Fn),(57,eu.Fn),(58,cp.Fn)],[],eqs,globs,prims⟩
def al.c:=cxOf al.E al.sg Tryz.f37
def al.b:=body Tryz.f37
def al.Fn:Fun:=fnOf al.E al.sg Tryz.f37
def al.F (w:t13.den) (a:t10.den):Option (t13.den × Unit):=al.Fn.F (w,a,())
def al.L1 (t14_:List t0.den) (t15_ b1:Int) (b12:List Int) (b13 b14:Int) (b15 b16:Int) (b17 b18:Int) (b19 b110:List t9.den) (b111:List Int) (b112 b113 b114:Int) (l2:List Int):Option (t13.den × Unit):=res al.c (atLoop al.b [1,1,0,1,0]) ⟨[(0,(.ptr 0 [])),(3,(.ptr 1 [])),(14,(.v (.arr 3 t0) t14_)),(15,(.v (.int .i64) t15_))],[(0,some (.box (.agg [(.sl 2)]))),(1,some (.box (.agg [(.v (.int .u32) b1),(.v (.arr 3 t0) t14_),(.v (.arr 2 (.int .i64)) b12),(.agg [(.agg [(.v (.int .i64) b13),(.v (.int .i64) b14),(.v (.int .i64) b15)]),(.v (.int .i64) b16),(.v (.int .i64) b17),(.v (.int .u64) b18)]),(.v (.slice t9) b19),(.v (.slice t9) b110),(.v (.slice (.int .u32)) b111),(.agg [(.v (.int .u64) b112),(.v (.int .u64) b113),(.v (.int .u64) b114)])]))),(2,some (.row (.int .u8) l2 false))],3,[(.ptr 0 [])]⟩
def al.L2 (t14_:List t0.den) (t15_ b1:Int) (b12:List Int) (b13 b14:Int) (b15 b16:Int) (b17 b18:Int) (b19 b110:List t9.den) (b111:List Int) (b112 b113 b114:Int) (l2:List Int):Option (t13.den × Unit):=res al.c (atJoin al.b [1,1,0,1,0,0,1,0]) ⟨[(0,(.ptr 0 [])),(3,(.ptr 1 [])),(14,(.v (.arr 3 t0) t14_)),(15,(.v (.int .i64) t15_))],[(0,some (.box (.agg [(.sl 2)]))),(1,some (.box (.agg [(.v (.int .u32) b1),(.v (.arr 3 t0) t14_),(.v (.arr 2 (.int .i64)) b12),(.agg [(.agg [(.v (.int .i64) b13),(.v (.int .i64) b14),(.v (.int .i64) b15)]),(.v (.int .i64) b16),(.v (.int .i64) b17),(.v (.int .u64) b18)]),(.v (.slice t9) b19),(.v (.slice t9) b110),(.v (.slice (.int .u32)) b111),(.agg [(.v (.int .u64) b112),(.v (.int .u64) b113),(.v (.int .u64) b114)])]))),(2,some (.row (.int .u8) l2 false))],3,[(.ptr 0 [])]⟩
def al.L3 (t65_:List Int) (t66_ t67_ b1:Int) (b12:List t0.den) (b13:List Int) (b14 b15:Int) (b16 b17:Int) (b18 b19:Int) (b110 b111:List t9.den) (b112 b113 b114:Int) (l2:List Int):Option (t13.den × Unit):=res al.c (atLoop al.b [1,1,1,1,1,1,1,1,1,0,1,0]) ⟨[(0,(.ptr 0 [])),(3,(.ptr 1 [])),(65,(.v (.slice (.int .u32)) t65_)),(66,(.v (.int .i64) t66_)),(67,(.v (.int .i64) t67_))],[(0,some (.box (.agg [(.sl 2)]))),(1,some (.box (.agg [(.v (.int .u32) b1),(.v (.arr 3 t0) b12),(.v (.arr 2 (.int .i64)) b13),(.agg [(.agg [(.v (.int .i64) b14),(.v (.int .i64) b15),(.v (.int .i64) b16)]),(.v (.int .i64) b17),(.v (.int .i64) b18),(.v (.int .u64) b19)]),(.v (.slice t9) b110),(.v (.slice t9) b111),(.v (.slice (.int .u32)) t65_),(.agg [(.v (.int .u64) b112),(.v (.int .u64) b113),(.v (.int .u64) b114)])]))),(2,some (.row (.int .u8) l2 false))],3,[(.ptr 0 [])]⟩
def al.L4 (t65_:List Int) (t66_ t67_ b1:Int) (b12:List t0.den) (b13:List Int) (b14 b15:Int) (b16 b17:Int) (b18 b19:Int) (b110 b111:List t9.den) (b112 b113 b114:Int) (l2:List Int):Option (t13.den × Unit):=res al.c (atJoin al.b [1,1,1,1,1,1,1,1,1,0,1,0,0,1,0]) ⟨[(0,(.ptr 0 [])),(3,(.ptr 1 [])),(65,(.v (.slice (.int .u32)) t65_)),(66,(.v (.int .i64) t66_)),(67,(.v (.int .i64) t67_))],[(0,some (.box (.agg [(.sl 2)]))),(1,some (.box (.agg [(.v (.int .u32) b1),(.v (.arr 3 t0) b12),(.v (.arr 2 (.int .i64)) b13),(.agg [(.agg [(.v (.int .i64) b14),(.v (.int .i64) b15),(.v (.int .i64) b16)]),(.v (.int .i64) b17),(.v (.int .i64) b18),(.v (.int .u64) b19)]),(.v (.slice t9) b110),(.v (.slice t9) b111),(.v (.slice (.int .u32)) t65_),(.agg [(.v (.int .u64) b112),(.v (.int .u64) b113),(.v (.int .u64) b114)])]))),(2,some (.row (.int .u8) l2 false))],3,[(.ptr 0 [])]⟩
theorem al.spec:FnSpec Tryz.prog globs 37 al.Fn:=spec_of (E:=al.E) (envOk_at tabOk eqOk primsOk (.cons az.spec<|.cons eu.spec<|.cons cp.spec<|.nil)) mixOk Tryz.func37 (by kernel_rfl)
theorem al.L1_eq (t14_ t15_ b1 b12 b13 b14 b15 b16 b17 b18 b19 b110 b111 b112 b113 b114 l2):al.L1 t14_ t15_ b1 b12 b13 b14 b15 b16 b17 b18 b19 b110 b111 b112 b113 b114 l2=
 bif (decide ((t15_:Int)<3)) then
  al.L2 t14_ t15_ b1 b12 b13 b14 b15 b16 b17 b18 b19 b110 b111 b112 b113 b114 l2
 else
  bif (decide ((0:Int)≤0∧(0:Int)<2)) then
   (az.F (l2,()) (IntKind.wrap .u64 (List.getD b12 (Int.toNat 0) 0)) 1).bind fun r0=>
   bif (decide ((0:Int)≤1∧(1:Int)<2)) then
    (az.F r0.1 (IntKind.wrap .u64 (List.getD b12 (Int.toNat 1) 0)) 1).bind fun r1=>
    (eu.F r1.1 ((b13,b14,b15,()),b16,b17,b18,())).bind fun r2=>
    (cp.F r2.1 b19).bind fun r3=>
    (cp.F r3.1 b110).bind fun r4=>
    (az.F r4.1 (IntKind.wrap .u64 ((List.length b111:Int))) 1).bind fun r5=>
    al.L3 b111 ((List.length b111:Int)) 0 b1 t14_ b12 b13 b14 b15 b16 b17 b18 b19 b110 b112 b113 b114 r5.1.1
   else none
  else none:=res_eq (by kernel_rfl)
theorem al.L2_eq (t14_ t15_ b1 b12 b13 b14 b15 b16 b17 b18 b19 b110 b111 b112 b113 b114 l2):al.L2 t14_ t15_ b1 b12 b13 b14 b15 b16 b17 b18 b19 b110 b111 b112 b113 b114 l2=
 bif (decide ((0:Int)≤t15_∧(t15_:Int)<3)) then
  (az.F (l2,()) (IntKind.wrap .u64 ((List.getD t14_ (Int.toNat t15_) (0,0,0,())).1)) 4).bind fun r0=>
  (az.F r0.1 (IntKind.wrap .u64 (((List.getD t14_ (Int.toNat t15_) (0,0,0,())).2).1)) 4).bind fun r1=>
  (az.F r1.1 (IntKind.wrap .u64 ((((List.getD t14_ (Int.toNat t15_) (0,0,0,())).2).2).1)) 4).bind fun r2=>
  al.L1 t14_ (IntKind.wrap .i64 (t15_+1)) b1 b12 b13 b14 b15 b16 b17 b18 b19 b110 b111 b112 b113 b114 r2.1.1
 else none:=res_eq (by kernel_rfl)
theorem al.L3_eq (t65_ t66_ t67_ b1 b12 b13 b14 b15 b16 b17 b18 b19 b110 b111 b112 b113 b114 l2):al.L3 t65_ t66_ t67_ b1 b12 b13 b14 b15 b16 b17 b18 b19 b110 b111 b112 b113 b114 l2=
 bif (decide ((t67_:Int)<t66_)) then
  al.L4 t65_ t66_ t67_ b1 b12 b13 b14 b15 b16 b17 b18 b19 b110 b111 b112 b113 b114 l2
 else
  (az.F (l2,()) b112 8).bind fun r0=>
  (az.F r0.1 b113 8).bind fun r1=>
  (az.F r1.1 b114 8).bind fun r2=>
  some (r2.1,()):=res_eq (by kernel_rfl)
theorem al.L4_eq (t65_ t66_ t67_ b1 b12 b13 b14 b15 b16 b17 b18 b19 b110 b111 b112 b113 b114 l2):al.L4 t65_ t66_ t67_ b1 b12 b13 b14 b15 b16 b17 b18 b19 b110 b111 b112 b113 b114 l2=
 bif (decide ((0:Int)≤t67_∧(t67_:Int)<((List.length t65_:Int)))) then
  (az.F (l2,()) (IntKind.wrap .u64 (List.getD t65_ (Int.toNat t67_) 0)) 4).bind fun r0=>
  al.L3 t65_ t66_ (IntKind.wrap .i64 (t67_+1)) b1 b12 b13 b14 b15 b16 b17 b18 b19 b110 b111 b112 b113 b114 r0.1.1
 else none:=res_eq (by kernel_rfl)
theorem al.F_eq (w a):al.F w a=
 (az.F w (IntKind.wrap .u64 a.1) 1).bind fun r0=>
 al.L1 a.2.1 0 a.1 a.2.2.1 a.2.2.2.1.1.1 a.2.2.2.1.1.2.1 a.2.2.2.1.1.2.2.1 a.2.2.2.1.2.1 a.2.2.2.1.2.2.1 a.2.2.2.1.2.2.2.1 a.2.2.2.2.1 a.2.2.2.2.2.1 a.2.2.2.2.2.2.1 a.2.2.2.2.2.2.2.1.1 a.2.2.2.2.2.2.2.1.2.1 a.2.2.2.2.2.2.2.1.2.2.1 r0.1.1:=by kernel_rfl
def ca.sg:Sig:=⟨[.val t8],[((.slice (.int .u8)),true),((.int .i64),true)]⟩
def ca.E:Env:=⟨tl,fun i=>look i [(34,fv.Fn),(35,fe.Fn),(36,az.Fn),(37,al.Fn)],[],eqs,globs,prims⟩
def ca.c:=cxOf ca.E ca.sg Tryz.f14
def ca.b:=body Tryz.f14
def ca.Fn:Fun:=fnOf ca.E ca.sg Tryz.f14
def ca.F (s:t8.den):Option ((List Int) × Int × Unit):=ca.Fn.F (s,())
def ca.L1 (b0:Int) (b02 b03:List Int) (b04:List t7.den):Option ((List Int) × Int × Unit):=res ca.c (atJoin ca.b [1,0,1,1]) ⟨[(1,(.ptr 0 []))],[(0,some (.box (.agg [(.v (.int .u64) b0),(.v (.arr 32 (.int .u8)) b02),(.v (.arr 16 (.int .u32)) b03),(.v (.slice t7) b04)])))],1,[]⟩
def ca.L2 (t32_:List Int) (t33_ b0:Int) (b02:List Int) (l2:List t10.den) (l3:List Int):Option ((List Int) × Int × Unit):=res ca.c (atLoop ca.b [1,1,1,1,1,1,0,1,0]) ⟨[(5,(.ptr 0 [])),(7,(.ptr 1 [])),(32,(.v (.arr 16 (.int .u32)) t32_)),(33,(.v (.int .i64) t33_))],[(0,some (.box (.agg [(.v (.int .u64) b0),(.v (.arr 32 (.int .u8)) b02),(.v (.arr 16 (.int .u32)) t32_),(.sl 2)]))),(1,some (.box (.agg [(.sl 3)]))),(2,some (.row t10 l2 false)),(3,some (.row (.int .u8) l3 false))],4,[]⟩
def ca.L3 (t32_:List Int) (t33_ b0:Int) (b02:List Int) (l2:List t10.den) (l3:List Int):Option ((List Int) × Int × Unit):=res ca.c (atJoin ca.b [1,1,1,1,1,1,0,1,0,0,1,0]) ⟨[(5,(.ptr 0 [])),(7,(.ptr 1 [])),(32,(.v (.arr 16 (.int .u32)) t32_)),(33,(.v (.int .i64) t33_))],[(0,some (.box (.agg [(.v (.int .u64) b0),(.v (.arr 32 (.int .u8)) b02),(.v (.arr 16 (.int .u32)) t32_),(.sl 2)]))),(1,some (.box (.agg [(.sl 3)]))),(2,some (.row t10 l2 false)),(3,some (.row (.int .u8) l3 false))],4,[]⟩
def ca.L4 (t47_ t48_:Int) (l1:List t10.den) (l2:List Int):Option ((List Int) × Int × Unit):=res ca.c (atLoop ca.b [1,1,1,1,1,1,1,1,0,1,0]) ⟨[(7,(.ptr 0 [])),(46,(.sl 1)),(47,(.v (.int .i64) t47_)),(48,(.v (.int .i64) t48_))],[(0,some (.box (.agg [(.sl 2)]))),(1,some (.row t10 l1 false)),(2,some (.row (.int .u8) l2 false))],3,[]⟩
def ca.L5 (t47_ t48_:Int) (l1:List t10.den) (l2:List Int):Option ((List Int) × Int × Unit):=res ca.c (atJoin ca.b [1,1,1,1,1,1,1,1,0,1,0,0,1,0]) ⟨[(7,(.ptr 0 [])),(46,(.sl 1)),(47,(.v (.int .i64) t47_)),(48,(.v (.int .i64) t48_))],[(0,some (.box (.agg [(.sl 2)]))),(1,some (.row t10 l1 false)),(2,some (.row (.int .u8) l2 false))],3,[]⟩
theorem ca.spec:FnSpec Tryz.prog globs 14 ca.Fn:=spec_of (E:=ca.E) (envOk_at tabOk eqOk primsOk (.cons fv.spec<|.cons fe.spec<|.cons az.spec<|.cons al.spec<|.nil)) mixOk Tryz.func14 (by kernel_rfl)
theorem ca.L1_eq (b0 b02 b03 b04):ca.L1 b0 b02 b03 b04=
 (fe.F (b0,b02,b03,b04,())).bind fun r0=>
 (az.F (([]:List Int),()) r0.1.1 8).bind fun r1=>
 bif (decide ((0:Int)≤0∧(0:Int)≤32∧(32:Int)≤32)) then
  bif (lim ((List.length r1.1.1)+(List.length (List.take ((Int.toNat 32) - (Int.toNat 0)) (List.drop (Int.toNat 0) r0.1.2.1)))) (.int .u8)) then
   ca.L2 r0.1.2.2.1 0 r0.1.1 r0.1.2.1 r0.1.2.2.2.1 (r1.1.1++(List.take ((Int.toNat 32) - (Int.toNat 0)) (List.drop (Int.toNat 0) r0.1.2.1)))
  else none
 else none:=res_eq (by kernel_rfl)
theorem ca.L2_eq (t32_ t33_ b0 b02 l2 l3):ca.L2 t32_ t33_ b0 b02 l2 l3=
 bif (decide ((t33_:Int)<16)) then
  ca.L3 t32_ t33_ b0 b02 l2 l3
 else
  (az.F (l3,()) (IntKind.wrap .u64 ((List.length l2:Int))) 1).bind fun r0=>
  ca.L4 ((List.length l2:Int)) 0 l2 r0.1.1:=res_eq (by kernel_rfl)
theorem ca.L3_eq (t32_ t33_ b0 b02 l2 l3):ca.L3 t32_ t33_ b0 b02 l2 l3=
 bif (decide ((0:Int)≤t33_∧(t33_:Int)<16)) then
  (az.F (l3,()) (IntKind.wrap .u64 (List.getD t32_ (Int.toNat t33_) 0)) 4).bind fun r0=>
  ca.L2 t32_ (IntKind.wrap .i64 (t33_+1)) b0 b02 l2 r0.1.1
 else none:=res_eq (by kernel_rfl)
theorem ca.L4_eq (t47_ t48_ l1 l2):ca.L4 t47_ t48_ l1 l2=
 bif (decide ((t48_:Int)<t47_)) then
  ca.L5 t47_ t48_ l1 l2
 else
  some (l2,0,()):=res_eq (by kernel_rfl)
theorem ca.L5_eq (t47_ t48_ l1 l2):ca.L5 t47_ t48_ l1 l2=
 bif (decide ((0:Int)≤t48_∧(t48_:Int)<((List.length l1:Int)))) then
  (al.F (l2,()) (List.getD l1 (Int.toNat t48_) d10_)).bind fun r0=>
  ca.L4 t47_ (IntKind.wrap .i64 (t48_+1)) l1 r0.1.1
 else none:=res_eq (by kernel_rfl)
theorem ca.F_eq (s):ca.F s=
 (fv.F s).bind fun r0=>
 bif (r0.1 !=0) then
  some (([]:List Int),r0.1,())
 else
  ca.L1 s.1 s.2.1 s.2.2.1 s.2.2.2.1:=by kernel_rfl
def bg.sg:Sig:=⟨[.val (.arr 3 t0)],[(.bool,true)]⟩
def bg.E:Env:=⟨tl,fun i=>look i [(76,cf.Fn)],[],eqs,globs,prims⟩
def bg.c:=cxOf bg.E bg.sg Tryz.f60
def bg.b:=body Tryz.f60
def bg.Fn:Fun:=fnOf bg.E bg.sg Tryz.f60
def bg.F (l:List t0.den):Option (Bool × Unit):=bg.Fn.F (l,())
def bg.L1 (i:Int) (b0:List t0.den):Option (Bool × Unit):=res bg.c (atLoop bg.b [1,0,1,0]) ⟨[(1,(.ptr 0 [])),(3,(.v (.int .i64) i))],[(0,some (.box (.v (.arr 3 t0) b0)))],1,[]⟩
def bg.L2 (i:Int) (b0:List t0.den):Option (Bool × Unit):=res bg.c (atJoin bg.b [1,0,1,0,0,0,1]) ⟨[(1,(.ptr 0 [])),(3,(.v (.int .i64) i))],[(0,some (.box (.v (.arr 3 t0) b0)))],1,[]⟩
def bg.L3 (i:Int) (b0:List t0.den):Option (Bool × Unit):=res bg.c (atJoin bg.b [1,0,1,0,0,1,0,0,1]) ⟨[(1,(.ptr 0 [])),(3,(.v (.int .i64) i))],[(0,some (.box (.v (.arr 3 t0) b0)))],1,[]⟩
theorem bg.spec:FnSpec Tryz.prog globs 60 bg.Fn:=spec_of (E:=bg.E) (envOk_at tabOk eqOk primsOk (.cons cf.spec<|.nil)) mixOk Tryz.func60 (by kernel_rfl)
theorem bg.L1_eq (i b0):bg.L1 i b0=
 bif (decide ((i:Int)<3)) then
  bg.L2 i b0
 else
  some (true,()):=res_eq (by kernel_rfl)
theorem bg.L2_eq (i b0):bg.L2 i b0=
 bif (decide ((0:Int)≤i∧(i:Int)<3)) then
  (cf.F (List.getD b0 (Int.toNat i) (0,0,0,()))).bind fun r0=>
  bif (r0.1 !=0) then
   some (false,())
  else
   bg.L3 i b0
 else none:=res_eq (by kernel_rfl)
theorem bg.L3_eq (i b0):bg.L3 i b0=
 bg.L1 (IntKind.wrap .i64 (i+1)) b0:=res_eq (by kernel_rfl)
theorem bg.F_eq (l):bg.F l=
 bg.L1 0 l:=by kernel_rfl
def dd.sg:Sig:=⟨[.val (.int .u32),.val (.arr 3 t0),.val (.int .i64),.val (.int .i64),.val (.int .u64)],[(t7,true),((.int .i64),true)]⟩
def dd.E:Env:=⟨tl,fun i=>look i [(59,dt.Fn),(60,bg.Fn),(61,dm.Fn)],[],eqs,globs,prims⟩
def dd.c:=cxOf dd.E dd.sg Tryz.f38
def dd.b:=body Tryz.f38
def dd.Fn:Fun:=fnOf dd.E dd.sg Tryz.f38
def dd.F (tenant:Int) (l:List t0.den) (users ends tick:Int):Option (t7.den × Int × Unit):=dd.Fn.F (tenant,l,users,ends,tick,())
def dd.L1 (tenant tick:Int) (b0 b1:List t0.den) (b2 b22:Int) (b23 b24:Int) (b3 b32:Int) (b33 b34:Int) (l4:List Int) (l5:List t1.den) (l6:List Int) (l7:List Bool) (l8:List t3.den) (l19:List Int) (l20:List t1.den) (l21:List Int) (l22:List Bool) (l23:List t3.den) (l24 l25 l26:List Int) (l27:List t1.den) (l28:List Int) (l29:List Bool) (l30:List t3.den) (l31 l32:List Int):Option (t7.den × Int × Unit):=res dd.c (atJoin dd.b [1,1,1,0,1]) ⟨[(0,(.v (.int .u32) tenant)),(4,(.v (.int .u64) tick)),(6,(.ptr 0 [])),(10,(.ptr 1 [])),(12,(.ptr 2 [])),(14,(.ptr 3 []))],[(0,some (.box (.v (.arr 3 t0) b0))),(1,some (.box (.agg [(.v (.int .u32) 0),(.v (.arr 3 t0) b1),(.agg [(.agg [(.v (.int .i64) 0),(.v (.int .i64) 0),(.v (.int .i64) 0)]),(.v (.int .i64) 0),(.v (.int .i64) 0),(.v (.int .u64) 0)]),(.agg [(.v (.int .i64) 0),(.sl 4),(.sl 5),(.agg [(.sl 6),(.sl 7),(.v (.int .i64) 0)]),(.sl 8),(.agg [(.sl 9),(.sl 10),(.v (.int .i64) 0),(.v (.int .i64) 0)])]),(.agg [(.v (.int .i64) 0),(.sl 11),(.sl 12),(.agg [(.sl 13),(.sl 14),(.v (.int .i64) 0)]),(.sl 15),(.agg [(.sl 16),(.sl 17),(.v (.int .i64) 0),(.v (.int .i64) 0)])]),(.sl 18),(.agg [(.v (.int .u64) 0),(.v (.int .u64) 0),(.v (.int .u64) 0)])]))),(2,some (.box (.agg [(.v (.int .i64) b2),(.sl 19),(.sl 20),(.agg [(.sl 21),(.sl 22),(.v (.int .i64) b22)]),(.sl 23),(.agg [(.sl 24),(.sl 25),(.v (.int .i64) b23),(.v (.int .i64) b24)])]))),(3,some (.box (.agg [(.v (.int .i64) b3),(.sl 26),(.sl 27),(.agg [(.sl 28),(.sl 29),(.v (.int .i64) b32)]),(.sl 30),(.agg [(.sl 31),(.sl 32),(.v (.int .i64) b33),(.v (.int .i64) b34)])]))),(4,some (.row (.int .u32) l4 false)),(5,some (.row t1 l5 false)),(6,some (.row (.int .i64) l6 false)),(7,some (.row .bool l7 false)),(8,some (.row t3 l8 false)),(9,some (.row (.int .i64) l6 false)),(10,some (.row (.int .i64) l6 false)),(11,some (.row (.int .u32) l4 false)),(12,some (.row t1 l5 false)),(13,some (.row (.int .i64) l6 false)),(14,some (.row .bool l7 false)),(15,some (.row t3 l8 false)),(16,some (.row (.int .i64) l6 false)),(17,some (.row (.int .i64) l6 false)),(18,some (.row (.int .u32) l4 false)),(19,some (.row (.int .u32) l19 false)),(20,some (.row t1 l20 false)),(21,some (.row (.int .i64) l21 false)),(22,some (.row .bool l22 false)),(23,some (.row t3 l23 false)),(24,some (.row (.int .i64) l24 false)),(25,some (.row (.int .i64) l25 false)),(26,some (.row (.int .u32) l26 false)),(27,some (.row t1 l27 false)),(28,some (.row (.int .i64) l28 false)),(29,some (.row .bool l29 false)),(30,some (.row t3 l30 false)),(31,some (.row (.int .i64) l31 false)),(32,some (.row (.int .i64) l32 false))],33,[]⟩
def dd.L2 (tenant tick:Int) (b0 b1:List t0.den) (b2 b22:Int) (b23 b24:Int) (b3 b32:Int) (b33 b34:Int) (l4:List Int) (l5:List t1.den) (l6:List Int) (l7:List Bool) (l8:List t3.den) (l19:List Int) (l20:List t1.den) (l21:List Int) (l22:List Bool) (l23:List t3.den) (l24 l25 l26:List Int) (l27:List t1.den) (l28:List Int) (l29:List Bool) (l30:List t3.den) (l31 l32:List Int):Option (t7.den × Int × Unit):=res dd.c (atJoin dd.b [1,1,1,1,0,1]) ⟨[(0,(.v (.int .u32) tenant)),(4,(.v (.int .u64) tick)),(6,(.ptr 0 [])),(10,(.ptr 1 [])),(12,(.ptr 2 [])),(14,(.ptr 3 []))],[(0,some (.box (.v (.arr 3 t0) b0))),(1,some (.box (.agg [(.v (.int .u32) 0),(.v (.arr 3 t0) b1),(.agg [(.agg [(.v (.int .i64) 0),(.v (.int .i64) 0),(.v (.int .i64) 0)]),(.v (.int .i64) 0),(.v (.int .i64) 0),(.v (.int .u64) 0)]),(.agg [(.v (.int .i64) 0),(.sl 4),(.sl 5),(.agg [(.sl 6),(.sl 7),(.v (.int .i64) 0)]),(.sl 8),(.agg [(.sl 9),(.sl 10),(.v (.int .i64) 0),(.v (.int .i64) 0)])]),(.agg [(.v (.int .i64) 0),(.sl 11),(.sl 12),(.agg [(.sl 13),(.sl 14),(.v (.int .i64) 0)]),(.sl 15),(.agg [(.sl 16),(.sl 17),(.v (.int .i64) 0),(.v (.int .i64) 0)])]),(.sl 18),(.agg [(.v (.int .u64) 0),(.v (.int .u64) 0),(.v (.int .u64) 0)])]))),(2,some (.box (.agg [(.v (.int .i64) b2),(.sl 19),(.sl 20),(.agg [(.sl 21),(.sl 22),(.v (.int .i64) b22)]),(.sl 23),(.agg [(.sl 24),(.sl 25),(.v (.int .i64) b23),(.v (.int .i64) b24)])]))),(3,some (.box (.agg [(.v (.int .i64) b3),(.sl 26),(.sl 27),(.agg [(.sl 28),(.sl 29),(.v (.int .i64) b32)]),(.sl 30),(.agg [(.sl 31),(.sl 32),(.v (.int .i64) b33),(.v (.int .i64) b34)])]))),(4,some (.row (.int .u32) l4 false)),(5,some (.row t1 l5 false)),(6,some (.row (.int .i64) l6 false)),(7,some (.row .bool l7 false)),(8,some (.row t3 l8 false)),(9,some (.row (.int .i64) l6 false)),(10,some (.row (.int .i64) l6 false)),(11,some (.row (.int .u32) l4 false)),(12,some (.row t1 l5 false)),(13,some (.row (.int .i64) l6 false)),(14,some (.row .bool l7 false)),(15,some (.row t3 l8 false)),(16,some (.row (.int .i64) l6 false)),(17,some (.row (.int .i64) l6 false)),(18,some (.row (.int .u32) l4 false)),(19,some (.row (.int .u32) l19 false)),(20,some (.row t1 l20 false)),(21,some (.row (.int .i64) l21 false)),(22,some (.row .bool l22 false)),(23,some (.row t3 l23 false)),(24,some (.row (.int .i64) l24 false)),(25,some (.row (.int .i64) l25 false)),(26,some (.row (.int .u32) l26 false)),(27,some (.row t1 l27 false)),(28,some (.row (.int .i64) l28 false)),(29,some (.row .bool l29 false)),(30,some (.row t3 l30 false)),(31,some (.row (.int .i64) l31 false)),(32,some (.row (.int .i64) l32 false))],33,[]⟩
theorem dd.spec:FnSpec Tryz.prog globs 38 dd.Fn:=spec_of (E:=dd.E) (envOk_at tabOk eqOk primsOk (.cons dt.spec<|.cons bg.spec<|.cons dm.spec<|.nil)) mixOk Tryz.func38 (by kernel_rfl)
theorem dd.L1_eq (tenant tick b0 b1 b2 b22 b23 b24 b3 b32 b33 b34 l4 l5 l6 l7 l8 l19 l20 l21 l22 l23 l24 l25 l26 l27 l28 l29 l30 l31 l32):dd.L1 tenant tick b0 b1 b2 b22 b23 b24 b3 b32 b33 b34 l4 l5 l6 l7 l8 l19 l20 l21 l22 l23 l24 l25 l26 l27 l28 l29 l30 l31 l32=
 (bg.F b0).bind fun r0=>
 bif (!r0.1) then
  some (d7_,8,())
 else
  dd.L2 tenant tick b0 b1 b2 b22 b23 b24 b3 b32 b33 b34 l4 l5 l6 l7 l8 l19 l20 l21 l22 l23 l24 l25 l26 l27 l28 l29 l30 l31 l32:=res_eq (by kernel_rfl)
theorem dd.L2_eq (tenant tick b0 b1 b2 b22 b23 b24 b3 b32 b33 b34 l4 l5 l6 l7 l8 l19 l20 l21 l22 l23 l24 l25 l26 l27 l28 l29 l30 l31 l32):dd.L2 tenant tick b0 b1 b2 b22 b23 b24 b3 b32 b33 b34 l4 l5 l6 l7 l8 l19 l20 l21 l22 l23 l24 l25 l26 l27 l28 l29 l30 l31 l32=
 bif (decide ((0:Int)≤0∧(0:Int)<3)) then
  (dm.F (List.getD b0 (Int.toNat 0) (0,0,0,())) tick).bind fun r0=>
  some ((tenant,b0,r0.1,(b2,l19,l20,(l21,l22,b22,()),l23,(l24,l25,b23,b24,()),()),(b3,l26,l27,(l28,l29,b32,()),l30,(l31,l32,b33,b34,()),()),([]:List Int),(0,0,0,()),()),0,())
 else none:=res_eq (by kernel_rfl)
theorem dd.F_eq (tenant l users ends tick):dd.F tenant l users ends tick=
 (dt.F users).bind fun r0=>
 (dt.F ends).bind fun r1=>
 bif (decide ((tenant:Int)≥16)) then
  some (d7_,2,())
 else
  bif (r0.2.1 !=0) then
   some (d7_,2,())
  else
   bif (r1.2.1 !=0) then
    some (d7_,2,())
   else
    dd.L1 tenant tick l (List.replicate 3 (0,0,0,())) r0.1.1 r0.1.2.2.2.1.2.2.1 r0.1.2.2.2.2.2.1.2.2.1 r0.1.2.2.2.2.2.1.2.2.2.1 r1.1.1 r1.1.2.2.2.1.2.2.1 r1.1.2.2.2.2.2.1.2.2.1 r1.1.2.2.2.2.2.1.2.2.2.1 ([]:List Int) ([]:List t1.den) ([]:List Int) ([]:List Bool) ([]:List t3.den) r0.1.2.1 r0.1.2.2.1 r0.1.2.2.2.1.1 r0.1.2.2.2.1.2.1 r0.1.2.2.2.2.1 r0.1.2.2.2.2.2.1.1 r0.1.2.2.2.2.2.1.2.1 r1.1.2.1 r1.1.2.2.1 r1.1.2.2.2.1.1 r1.1.2.2.2.1.2.1 r1.1.2.2.2.2.1 r1.1.2.2.2.2.2.1.1 r1.1.2.2.2.2.2.1.2.1:=by kernel_rfl
def fa.sg:Sig:=⟨[],[(t8,true)]⟩
def fa.E:Env:=⟨tl,fun i=>look i [(38,dd.Fn)],[],eqs,globs,prims⟩
def fa.Fn:Fun:=fnOf fa.E fa.sg Tryz.f16
def fa.F:Option (t8.den × Unit):=fa.Fn.F ()
theorem fa.spec:FnSpec Tryz.prog globs 16 fa.Fn:=spec_of (E:=fa.E) (envOk_at tabOk eqOk primsOk (.cons dd.spec<|.nil)) mixOk Tryz.func16 (by kernel_rfl)
theorem fa.F_eq:fa.F=
 (dd.F 3 ([(4,1,2,()),(4,1,2,()),(4,1,2,())]:List t0.den) 2 2 0).bind fun r0=>
 some ((0,([7,0,0,0,0,0,0,0,0,0,0,0,0,0,0,0,0,0,0,0,0,0,0,0,0,0,0,0,0,0,0,0]:List Int),(List.replicate 16 (0:Int)),([r0.1]:List t7.den),()),()):=by kernel_rfl
def gg.sg:Sig:=⟨[.val t8],[((.int .i64),true),((.int .i64),true)]⟩
def gg.E:Env:=⟨tl,fun i=>look i [(14,ca.Fn)],[],eqs,globs,prims⟩
def gg.Fn:Fun:=fnOf gg.E gg.sg Tryz.f17
def gg.F (s:t8.den):Option (Int × Int × Unit):=gg.Fn.F (s,())
theorem gg.spec:FnSpec Tryz.prog globs 17 gg.Fn:=spec_of (E:=gg.E) (envOk_at tabOk eqOk primsOk (.cons ca.spec<|.nil)) mixOk Tryz.func17 (by kernel_rfl)
theorem gg.F_eq (s):gg.F s=
 (ca.F s).bind fun r0=>
 some (((List.length r0.1:Int)),r0.2.1,()):=by kernel_rfl
def gd.sg:Sig:=⟨[.val (.arr 32 (.int .u8))],[(t8,true)]⟩
def gd.E:Env:=⟨tl,fun i=>look i [],[],eqs,globs,prims⟩
def gd.Fn:Fun:=fnOf gd.E gd.sg Tryz.f31
def gd.F (seed:List Int):Option (t8.den × Unit):=gd.Fn.F (seed,())
theorem gd.spec:FnSpec Tryz.prog globs 31 gd.Fn:=spec_of (E:=gd.E) (envOk_at tabOk eqOk primsOk (.nil)) mixOk Tryz.func31 (by kernel_rfl)
theorem gd.F_eq (seed):gd.F seed=
 some ((0,seed,(List.replicate 16 (0:Int)),([]:List t7.den),()),()):=by kernel_rfl
def fd.sg:Sig:=⟨[],[(.bool,true)]⟩
def fd.E:Env:=⟨tl,fun i=>look i [(14,ca.Fn),(16,fa.Fn),(17,gg.Fn),(31,gd.Fn)],[],eqs,globs,prims⟩
def fd.Fn:Fun:=fnOf fd.E fd.sg Tryz.f12
def fd.F:Option (Bool × Unit):=fd.Fn.F ()
theorem fd.spec:FnSpec Tryz.prog globs 12 fd.Fn:=spec_of (E:=fd.E) (envOk_at tabOk eqOk primsOk (.cons ca.spec<|.cons fa.spec<|.cons gg.spec<|.cons gd.spec<|.nil)) mixOk Tryz.func12 (by kernel_rfl)
theorem fd.F_eq:fd.F=
 (gd.F ([9,0,0,0,0,0,0,0,0,0,0,0,0,0,0,0,0,0,0,0,0,0,0,0,0,0,0,0,0,0,0,0]:List Int)).bind fun r0=>
 (ca.F r0.1).bind fun r1=>
 fa.F.bind fun r2=>
 (gg.F r2.1).bind fun r3=>
 bif (r1.2.1==0) then
  bif (((List.length r1.1:Int))==105) then
   bif (decide ((0:Int)≤8∧(8:Int)<((List.length r1.1:Int)))) then
    bif ((List.getD r1.1 (Int.toNat 8) 0)==9) then
     bif (decide ((0:Int)≤104∧(104:Int)<((List.length r1.1:Int)))) then
      bif ((List.getD r1.1 (Int.toNat 104) 0)==0) then
       bif (r3.2.1==0) then
        some ((r3.1==195),())
       else
        some (false,())
      else
       some (false,())
     else none
    else
     some (false,())
   else none
  else
   some (false,())
 else
  some (false,()):=by kernel_rfl
def bp.sg:Sig:=⟨[.val t5,.val t0,.val (.int .u32)],[(.bool,true)]⟩
def bp.E:Env:=⟨tl,fun i=>look i [],[],eqs,globs,prims⟩
def bp.c:=cxOf bp.E bp.sg Tryz.f83
def bp.b:=body Tryz.f83
def bp.Fn:Fun:=fnOf bp.E bp.sg Tryz.f83
def bp.F (t:t5.den) (l:t0.den) (most:Int):Option (Bool × Unit):=bp.Fn.F (t,l,most,())
def bp.L1 (most i b0:Int) (b02:List Int) (b03:List t1.den) (b04:List Int) (b05:List Bool) (b06:Int) (b07:List t3.den) (b08 b09:List Int) (b010 b011:Int) (b1 b12 b13:Int):Option (Bool × Unit):=res bp.c (atLoop bp.b [1,0,1,0]) ⟨[(2,(.v (.int .u32) most)),(3,(.ptr 0 [])),(4,(.ptr 1 [])),(7,(.v (.int .i64) i))],[(0,some (.box (.agg [(.v (.int .i64) b0),(.v (.slice (.int .u32)) b02),(.v (.slice t1) b03),(.agg [(.v (.slice (.int .i64)) b04),(.v (.slice .bool) b05),(.v (.int .i64) b06)]),(.v (.slice t3) b07),(.agg [(.v (.slice (.int .i64)) b08),(.v (.slice (.int .i64)) b09),(.v (.int .i64) b010),(.v (.int .i64) b011)])]))),(1,some (.box (.agg [(.v (.int .i64) b1),(.v (.int .i64) b12),(.v (.int .i64) b13)])))],2,[]⟩
def bp.L2 (most i b0:Int) (b02:List Int) (b03:List t1.den) (b04:List Int) (b05:List Bool) (b06:Int) (b07:List t3.den) (b08 b09:List Int) (b010 b011:Int) (b1 b12 b13:Int):Option (Bool × Unit):=res bp.c (atJoin bp.b [1,0,1,0,0,0,1]) ⟨[(2,(.v (.int .u32) most)),(3,(.ptr 0 [])),(4,(.ptr 1 [])),(7,(.v (.int .i64) i))],[(0,some (.box (.agg [(.v (.int .i64) b0),(.v (.slice (.int .u32)) b02),(.v (.slice t1) b03),(.agg [(.v (.slice (.int .i64)) b04),(.v (.slice .bool) b05),(.v (.int .i64) b06)]),(.v (.slice t3) b07),(.agg [(.v (.slice (.int .i64)) b08),(.v (.slice (.int .i64)) b09),(.v (.int .i64) b010),(.v (.int .i64) b011)])]))),(1,some (.box (.agg [(.v (.int .i64) b1),(.v (.int .i64) b12),(.v (.int .i64) b13)])))],2,[]⟩
def bp.L3 (most i b0:Int) (b02:List Int) (b03:List t1.den) (b04:List Int) (b05:List Bool) (b06:Int) (b07:List t3.den) (b08 b09:List Int) (b010 b011:Int) (b1 b12 b13:Int):Option (Bool × Unit):=res bp.c (atJoin bp.b [1,0,1,0,0,1,0,0,1]) ⟨[(2,(.v (.int .u32) most)),(3,(.ptr 0 [])),(4,(.ptr 1 [])),(7,(.v (.int .i64) i))],[(0,some (.box (.agg [(.v (.int .i64) b0),(.v (.slice (.int .u32)) b02),(.v (.slice t1) b03),(.agg [(.v (.slice (.int .i64)) b04),(.v (.slice .bool) b05),(.v (.int .i64) b06)]),(.v (.slice t3) b07),(.agg [(.v (.slice (.int .i64)) b08),(.v (.slice (.int .i64)) b09),(.v (.int .i64) b010),(.v (.int .i64) b011)])]))),(1,some (.box (.agg [(.v (.int .i64) b1),(.v (.int .i64) b12),(.v (.int .i64) b13)])))],2,[]⟩
theorem bp.spec:FnSpec Tryz.prog globs 83 bp.Fn:=spec_of (E:=bp.E) (envOk_at tabOk eqOk primsOk (.nil)) mixOk Tryz.func83 (by kernel_rfl)
theorem bp.L1_eq (most i b0 b02 b03 b04 b05 b06 b07 b08 b09 b010 b011 b1 b12 b13):bp.L1 most i b0 b02 b03 b04 b05 b06 b07 b08 b09 b010 b011 b1 b12 b13=
 bif (decide ((i:Int)<b0)) then
  bp.L2 most i b0 b02 b03 b04 b05 b06 b07 b08 b09 b010 b011 b1 b12 b13
 else
  some (true,()):=res_eq (by kernel_rfl)
theorem bp.L2_eq (most i b0 b02 b03 b04 b05 b06 b07 b08 b09 b010 b011 b1 b12 b13):bp.L2 most i b0 b02 b03 b04 b05 b06 b07 b08 b09 b010 b011 b1 b12 b13=
 bif (decide ((0:Int)≤i∧(i:Int)<((List.length b05:Int)))) then
  bif (List.getD b05 (Int.toNat i) false) then
   bif (decide ((0:Int)≤i∧(i:Int)<((List.length b03:Int)))) then
    bif (!(Ty.beq t0 ((List.getD b03 (Int.toNat i) ((0,0,0,()),0,0,0,())).1) (b1,b12,b13,()))) then
     some (false,())
    else
     bif (decide ((0:Int)≤i∧(i:Int)<((List.length b02:Int)))) then
      bif (decide (((List.getD b02 (Int.toNat i) 0):Int)>most)) then
       some (false,())
      else
       bp.L3 most i b0 b02 b03 b04 b05 b06 b07 b08 b09 b010 b011 b1 b12 b13
     else none
   else none
  else
   bp.L3 most i b0 b02 b03 b04 b05 b06 b07 b08 b09 b010 b011 b1 b12 b13
 else none:=res_eq (by kernel_rfl)
theorem bp.L3_eq (most i b0 b02 b03 b04 b05 b06 b07 b08 b09 b010 b011 b1 b12 b13):bp.L3 most i b0 b02 b03 b04 b05 b06 b07 b08 b09 b010 b011 b1 b12 b13=
 bp.L1 most (IntKind.wrap .i64 (i+1)) b0 b02 b03 b04 b05 b06 b07 b08 b09 b010 b011 b1 b12 b13:=res_eq (by kernel_rfl)
theorem bp.F_eq (t l most):bp.F t l most=
 bp.L1 most 0 t.1 t.2.1 t.2.2.1 t.2.2.2.1.1 t.2.2.2.1.2.1 t.2.2.2.1.2.2.1 t.2.2.2.2.1 t.2.2.2.2.2.1.1 t.2.2.2.2.2.1.2.1 t.2.2.2.2.2.1.2.2.1 t.2.2.2.2.2.1.2.2.2.1 l.1 l.2.1 l.2.2.1:=by kernel_rfl
end
end Go.Proofs.YtkihjakbbcajbaaGreat.PM
namespace Go.Proofs.YtkihjakbbcajbaaGreat.PM
open Go Go.Proofs
noncomputable section
set_option linter.unusedVariables false
def ar.sg:Sig:=⟨[.val t7],[((.int .i64),true)]⟩
def ar.E:Env:=⟨tl,fun i=>look i [(60,bg.Fn),(77,da.Fn),(82,ae.Fn),(83,bp.Fn)],[],eqs,globs,prims⟩
def ar.c:=cxOf ar.E ar.sg Tryz.f55
def ar.b:=body Tryz.f55
def ar.Fn:Fun:=fnOf ar.E ar.sg Tryz.f55
def ar.F (p:t7.den):Option (Int × Unit):=ar.Fn.F (p,())
def ar.L1 (b0:Int) (b02:List t0.den) (b03 b04:Int) (b05 b06:Int) (b07 b08 b09:Int) (b010:List Int) (b011:List t1.den) (b012:List Int) (b013:List Bool) (b014:Int) (b015:List t3.den) (b016 b017:List Int) (b018 b019 b020:Int) (b021:List Int) (b022:List t1.den) (b023:List Int) (b024:List Bool) (b025:Int) (b026:List t3.den) (b027 b028:List Int) (b029 b030:Int) (b031:List Int) (b032 b033 b034:Int):Option (Int × Unit):=res ar.c (atJoin ar.b [1,0,1]) ⟨[(1,(.ptr 0 []))],[(0,some (.box (.agg [(.v (.int .u32) b0),(.v (.arr 3 t0) b02),(.agg [(.agg [(.v (.int .i64) b03),(.v (.int .i64) b04),(.v (.int .i64) b05)]),(.v (.int .i64) b06),(.v (.int .i64) b07),(.v (.int .u64) b08)]),(.agg [(.v (.int .i64) b09),(.v (.slice (.int .u32)) b010),(.v (.slice t1) b011),(.agg [(.v (.slice (.int .i64)) b012),(.v (.slice .bool) b013),(.v (.int .i64) b014)]),(.v (.slice t3) b015),(.agg [(.v (.slice (.int .i64)) b016),(.v (.slice (.int .i64)) b017),(.v (.int .i64) b018),(.v (.int .i64) b019)])]),(.agg [(.v (.int .i64) b020),(.v (.slice (.int .u32)) b021),(.v (.slice t1) b022),(.agg [(.v (.slice (.int .i64)) b023),(.v (.slice .bool) b024),(.v (.int .i64) b025)]),(.v (.slice t3) b026),(.agg [(.v (.slice (.int .i64)) b027),(.v (.slice (.int .i64)) b028),(.v (.int .i64) b029),(.v (.int .i64) b030)])]),(.v (.slice (.int .u32)) b031),(.agg [(.v (.int .u64) b032),(.v (.int .u64) b033),(.v (.int .u64) b034)])])))],1,[]⟩
def ar.L2 (b0:Int) (b02:List t0.den) (b03 b04:Int) (b05 b06:Int) (b07 b08 b09:Int) (b010:List Int) (b011:List t1.den) (b012:List Int) (b013:List Bool) (b014:Int) (b015:List t3.den) (b016 b017:List Int) (b018 b019 b020:Int) (b021:List Int) (b022:List t1.den) (b023:List Int) (b024:List Bool) (b025:Int) (b026:List t3.den) (b027 b028:List Int) (b029 b030:Int) (b031:List Int) (b032 b033 b034:Int):Option (Int × Unit):=res ar.c (atJoin ar.b [1,1,0,1]) ⟨[(1,(.ptr 0 []))],[(0,some (.box (.agg [(.v (.int .u32) b0),(.v (.arr 3 t0) b02),(.agg [(.agg [(.v (.int .i64) b03),(.v (.int .i64) b04),(.v (.int .i64) b05)]),(.v (.int .i64) b06),(.v (.int .i64) b07),(.v (.int .u64) b08)]),(.agg [(.v (.int .i64) b09),(.v (.slice (.int .u32)) b010),(.v (.slice t1) b011),(.agg [(.v (.slice (.int .i64)) b012),(.v (.slice .bool) b013),(.v (.int .i64) b014)]),(.v (.slice t3) b015),(.agg [(.v (.slice (.int .i64)) b016),(.v (.slice (.int .i64)) b017),(.v (.int .i64) b018),(.v (.int .i64) b019)])]),(.agg [(.v (.int .i64) b020),(.v (.slice (.int .u32)) b021),(.v (.slice t1) b022),(.agg [(.v (.slice (.int .i64)) b023),(.v (.slice .bool) b024),(.v (.int .i64) b025)]),(.v (.slice t3) b026),(.agg [(.v (.slice (.int .i64)) b027),(.v (.slice (.int .i64)) b028),(.v (.int .i64) b029),(.v (.int .i64) b030)])]),(.v (.slice (.int .u32)) b031),(.agg [(.v (.int .u64) b032),(.v (.int .u64) b033),(.v (.int .u64) b034)])])))],1,[]⟩
def ar.L3 (b0:Int) (b02:List t0.den) (b03 b04:Int) (b05 b06:Int) (b07 b08 b09:Int) (b010:List Int) (b011:List t1.den) (b012:List Int) (b013:List Bool) (b014:Int) (b015:List t3.den) (b016 b017:List Int) (b018 b019 b020:Int) (b021:List Int) (b022:List t1.den) (b023:List Int) (b024:List Bool) (b025:Int) (b026:List t3.den) (b027 b028:List Int) (b029 b030:Int) (b031:List Int) (b032 b033 b034:Int):Option (Int × Unit):=res ar.c (atJoin ar.b [1,1,1,0,1]) ⟨[(1,(.ptr 0 []))],[(0,some (.box (.agg [(.v (.int .u32) b0),(.v (.arr 3 t0) b02),(.agg [(.agg [(.v (.int .i64) b03),(.v (.int .i64) b04),(.v (.int .i64) b05)]),(.v (.int .i64) b06),(.v (.int .i64) b07),(.v (.int .u64) b08)]),(.agg [(.v (.int .i64) b09),(.v (.slice (.int .u32)) b010),(.v (.slice t1) b011),(.agg [(.v (.slice (.int .i64)) b012),(.v (.slice .bool) b013),(.v (.int .i64) b014)]),(.v (.slice t3) b015),(.agg [(.v (.slice (.int .i64)) b016),(.v (.slice (.int .i64)) b017),(.v (.int .i64) b018),(.v (.int .i64) b019)])]),(.agg [(.v (.int .i64) b020),(.v (.slice (.int .u32)) b021),(.v (.slice t1) b022),(.agg [(.v (.slice (.int .i64)) b023),(.v (.slice .bool) b024),(.v (.int .i64) b025)]),(.v (.slice t3) b026),(.agg [(.v (.slice (.int .i64)) b027),(.v (.slice (.int .i64)) b028),(.v (.int .i64) b029),(.v (.int .i64) b030)])]),(.v (.slice (.int .u32)) b031),(.agg [(.v (.int .u64) b032),(.v (.int .u64) b033),(.v (.int .u64) b034)])])))],1,[]⟩
def ar.L4 (i b0:Int) (b02:List t0.den) (b03 b04:Int) (b05 b06:Int) (b07 b08 b09:Int) (b010:List Int) (b011:List t1.den) (b012:List Int) (b013:List Bool) (b014:Int) (b015:List t3.den) (b016 b017:List Int) (b018 b019 b020:Int) (b021:List Int) (b022:List t1.den) (b023:List Int) (b024:List Bool) (b025:Int) (b026:List t3.den) (b027 b028:List Int) (b029 b030:Int) (b031:List Int) (b032 b033 b034:Int):Option (Int × Unit):=res ar.c (atLoop ar.b [1,1,1,1,0,1,0]) ⟨[(1,(.ptr 0 [])),(3,(.v (.int .i64) i))],[(0,some (.box (.agg [(.v (.int .u32) b0),(.v (.arr 3 t0) b02),(.agg [(.agg [(.v (.int .i64) b03),(.v (.int .i64) b04),(.v (.int .i64) b05)]),(.v (.int .i64) b06),(.v (.int .i64) b07),(.v (.int .u64) b08)]),(.agg [(.v (.int .i64) b09),(.v (.slice (.int .u32)) b010),(.v (.slice t1) b011),(.agg [(.v (.slice (.int .i64)) b012),(.v (.slice .bool) b013),(.v (.int .i64) b014)]),(.v (.slice t3) b015),(.agg [(.v (.slice (.int .i64)) b016),(.v (.slice (.int .i64)) b017),(.v (.int .i64) b018),(.v (.int .i64) b019)])]),(.agg [(.v (.int .i64) b020),(.v (.slice (.int .u32)) b021),(.v (.slice t1) b022),(.agg [(.v (.slice (.int .i64)) b023),(.v (.slice .bool) b024),(.v (.int .i64) b025)]),(.v (.slice t3) b026),(.agg [(.v (.slice (.int .i64)) b027),(.v (.slice (.int .i64)) b028),(.v (.int .i64) b029),(.v (.int .i64) b030)])]),(.v (.slice (.int .u32)) b031),(.agg [(.v (.int .u64) b032),(.v (.int .u64) b033),(.v (.int .u64) b034)])])))],1,[]⟩
def ar.L5 (i b0:Int) (b02:List t0.den) (b03 b04:Int) (b05 b06:Int) (b07 b08 b09:Int) (b010:List Int) (b011:List t1.den) (b012:List Int) (b013:List Bool) (b014:Int) (b015:List t3.den) (b016 b017:List Int) (b018 b019 b020:Int) (b021:List Int) (b022:List t1.den) (b023:List Int) (b024:List Bool) (b025:Int) (b026:List t3.den) (b027 b028:List Int) (b029 b030:Int) (b031:List Int) (b032 b033 b034:Int):Option (Int × Unit):=res ar.c (atJoin ar.b [1,1,1,1,0,1,0,0,0,1]) ⟨[(1,(.ptr 0 [])),(3,(.v (.int .i64) i))],[(0,some (.box (.agg [(.v (.int .u32) b0),(.v (.arr 3 t0) b02),(.agg [(.agg [(.v (.int .i64) b03),(.v (.int .i64) b04),(.v (.int .i64) b05)]),(.v (.int .i64) b06),(.v (.int .i64) b07),(.v (.int .u64) b08)]),(.agg [(.v (.int .i64) b09),(.v (.slice (.int .u32)) b010),(.v (.slice t1) b011),(.agg [(.v (.slice (.int .i64)) b012),(.v (.slice .bool) b013),(.v (.int .i64) b014)]),(.v (.slice t3) b015),(.agg [(.v (.slice (.int .i64)) b016),(.v (.slice (.int .i64)) b017),(.v (.int .i64) b018),(.v (.int .i64) b019)])]),(.agg [(.v (.int .i64) b020),(.v (.slice (.int .u32)) b021),(.v (.slice t1) b022),(.agg [(.v (.slice (.int .i64)) b023),(.v (.slice .bool) b024),(.v (.int .i64) b025)]),(.v (.slice t3) b026),(.agg [(.v (.slice (.int .i64)) b027),(.v (.slice (.int .i64)) b028),(.v (.int .i64) b029),(.v (.int .i64) b030)])]),(.v (.slice (.int .u32)) b031),(.agg [(.v (.int .u64) b032),(.v (.int .u64) b033),(.v (.int .u64) b034)])])))],1,[]⟩
def ar.L6 (i b0:Int) (b02:List t0.den) (b03 b04:Int) (b05 b06:Int) (b07 b08 b09:Int) (b010:List Int) (b011:List t1.den) (b012:List Int) (b013:List Bool) (b014:Int) (b015:List t3.den) (b016 b017:List Int) (b018 b019 b020:Int) (b021:List Int) (b022:List t1.den) (b023:List Int) (b024:List Bool) (b025:Int) (b026:List t3.den) (b027 b028:List Int) (b029 b030:Int) (b031:List Int) (b032 b033 b034:Int):Option (Int × Unit):=res ar.c (atJoin ar.b [1,1,1,1,0,1,0,0,1,0,0,1]) ⟨[(1,(.ptr 0 [])),(3,(.v (.int .i64) i))],[(0,some (.box (.agg [(.v (.int .u32) b0),(.v (.arr 3 t0) b02),(.agg [(.agg [(.v (.int .i64) b03),(.v (.int .i64) b04),(.v (.int .i64) b05)]),(.v (.int .i64) b06),(.v (.int .i64) b07),(.v (.int .u64) b08)]),(.agg [(.v (.int .i64) b09),(.v (.slice (.int .u32)) b010),(.v (.slice t1) b011),(.agg [(.v (.slice (.int .i64)) b012),(.v (.slice .bool) b013),(.v (.int .i64) b014)]),(.v (.slice t3) b015),(.agg [(.v (.slice (.int .i64)) b016),(.v (.slice (.int .i64)) b017),(.v (.int .i64) b018),(.v (.int .i64) b019)])]),(.agg [(.v (.int .i64) b020),(.v (.slice (.int .u32)) b021),(.v (.slice t1) b022),(.agg [(.v (.slice (.int .i64)) b023),(.v (.slice .bool) b024),(.v (.int .i64) b025)]),(.v (.slice t3) b026),(.agg [(.v (.slice (.int .i64)) b027),(.v (.slice (.int .i64)) b028),(.v (.int .i64) b029),(.v (.int .i64) b030)])]),(.v (.slice (.int .u32)) b031),(.agg [(.v (.int .u64) b032),(.v (.int .u64) b033),(.v (.int .u64) b034)])])))],1,[]⟩
theorem ar.spec:FnSpec Tryz.prog globs 55 ar.Fn:=spec_of (E:=ar.E) (envOk_at tabOk eqOk primsOk (.cons bg.spec<|.cons da.spec<|.cons ae.spec<|.cons bp.spec<|.nil)) mixOk Tryz.func55 (by kernel_rfl)
theorem ar.L1_eq (b0 b02 b03 b04 b05 b06 b07 b08 b09 b010 b011 b012 b013 b014 b015 b016 b017 b018 b019 b020 b021 b022 b023 b024 b025 b026 b027 b028 b029 b030 b031 b032 b033 b034):ar.L1 b0 b02 b03 b04 b05 b06 b07 b08 b09 b010 b011 b012 b013 b014 b015 b016 b017 b018 b019 b020 b021 b022 b023 b024 b025 b026 b027 b028 b029 b030 b031 b032 b033 b034=
 (ae.F (b09,b010,b011,(b012,b013,b014,()),b015,(b016,b017,b018,b019,()),())).bind fun r0=>
 bif (r0.1 !=0) then
  some (8,())
 else
  (ae.F (b020,b021,b022,(b023,b024,b025,()),b026,(b027,b028,b029,b030,()),())).bind fun r1=>
  bif (r1.1 !=0) then
   some (8,())
  else
   bif (decide ((0:Int)≤1∧(1:Int)<3)) then
    (bp.F (b09,b010,b011,(b012,b013,b014,()),b015,(b016,b017,b018,b019,()),()) (List.getD b02 (Int.toNat 1) (0,0,0,())) 4294967295).bind fun r2=>
    bif (!r2.1) then
     some (8,())
    else
     bif (decide ((0:Int)≤2∧(2:Int)<3)) then
      (bp.F (b020,b021,b022,(b023,b024,b025,()),b026,(b027,b028,b029,b030,()),()) (List.getD b02 (Int.toNat 2) (0,0,0,())) 65535).bind fun r3=>
      bif (!r3.1) then
       some (8,())
      else
       ar.L2 b0 b02 b03 b04 b05 b06 b07 b08 b09 b010 b011 b012 b013 b014 b015 b016 b017 b018 b019 b020 b021 b022 b023 b024 b025 b026 b027 b028 b029 b030 b031 b032 b033 b034
     else none
   else none:=res_eq (by kernel_rfl)
theorem ar.L2_eq (b0 b02 b03 b04 b05 b06 b07 b08 b09 b010 b011 b012 b013 b014 b015 b016 b017 b018 b019 b020 b021 b022 b023 b024 b025 b026 b027 b028 b029 b030 b031 b032 b033 b034):ar.L2 b0 b02 b03 b04 b05 b06 b07 b08 b09 b010 b011 b012 b013 b014 b015 b016 b017 b018 b019 b020 b021 b022 b023 b024 b025 b026 b027 b028 b029 b030 b031 b032 b033 b034=
 bif (decide ((((List.length b031:Int)):Int)>8)) then
  some (8,())
 else
  ar.L3 b0 b02 b03 b04 b05 b06 b07 b08 b09 b010 b011 b012 b013 b014 b015 b016 b017 b018 b019 b020 b021 b022 b023 b024 b025 b026 b027 b028 b029 b030 b031 b032 b033 b034:=res_eq (by kernel_rfl)
theorem ar.L3_eq (b0 b02 b03 b04 b05 b06 b07 b08 b09 b010 b011 b012 b013 b014 b015 b016 b017 b018 b019 b020 b021 b022 b023 b024 b025 b026 b027 b028 b029 b030 b031 b032 b033 b034):ar.L3 b0 b02 b03 b04 b05 b06 b07 b08 b09 b010 b011 b012 b013 b014 b015 b016 b017 b018 b019 b020 b021 b022 b023 b024 b025 b026 b027 b028 b029 b030 b031 b032 b033 b034=
 ar.L4 1 b0 b02 b03 b04 b05 b06 b07 b08 b09 b010 b011 b012 b013 b014 b015 b016 b017 b018 b019 b020 b021 b022 b023 b024 b025 b026 b027 b028 b029 b030 b031 b032 b033 b034:=res_eq (by kernel_rfl)
theorem ar.L4_eq (i b0 b02 b03 b04 b05 b06 b07 b08 b09 b010 b011 b012 b013 b014 b015 b016 b017 b018 b019 b020 b021 b022 b023 b024 b025 b026 b027 b028 b029 b030 b031 b032 b033 b034):ar.L4 i b0 b02 b03 b04 b05 b06 b07 b08 b09 b010 b011 b012 b013 b014 b015 b016 b017 b018 b019 b020 b021 b022 b023 b024 b025 b026 b027 b028 b029 b030 b031 b032 b033 b034=
 bif (decide ((i:Int)<((List.length b031:Int)))) then
  ar.L5 i b0 b02 b03 b04 b05 b06 b07 b08 b09 b010 b011 b012 b013 b014 b015 b016 b017 b018 b019 b020 b021 b022 b023 b024 b025 b026 b027 b028 b029 b030 b031 b032 b033 b034
 else
  some (0,()):=res_eq (by kernel_rfl)
theorem ar.L5_eq (i b0 b02 b03 b04 b05 b06 b07 b08 b09 b010 b011 b012 b013 b014 b015 b016 b017 b018 b019 b020 b021 b022 b023 b024 b025 b026 b027 b028 b029 b030 b031 b032 b033 b034):ar.L5 i b0 b02 b03 b04 b05 b06 b07 b08 b09 b010 b011 b012 b013 b014 b015 b016 b017 b018 b019 b020 b021 b022 b023 b024 b025 b026 b027 b028 b029 b030 b031 b032 b033 b034=
 bif (decide ((0:Int)≤(IntKind.wrap .i64 (i - 1))∧((IntKind.wrap .i64 (i - 1)):Int)<((List.length b031:Int)))) then
  bif (decide ((0:Int)≤i∧(i:Int)<((List.length b031:Int)))) then
   bif (decide (((List.getD b031 (Int.toNat (IntKind.wrap .i64 (i - 1))) 0):Int)≥(List.getD b031 (Int.toNat i) 0))) then
    some (8,())
   else
    ar.L6 i b0 b02 b03 b04 b05 b06 b07 b08 b09 b010 b011 b012 b013 b014 b015 b016 b017 b018 b019 b020 b021 b022 b023 b024 b025 b026 b027 b028 b029 b030 b031 b032 b033 b034
  else none
 else none:=res_eq (by kernel_rfl)
theorem ar.L6_eq (i b0 b02 b03 b04 b05 b06 b07 b08 b09 b010 b011 b012 b013 b014 b015 b016 b017 b018 b019 b020 b021 b022 b023 b024 b025 b026 b027 b028 b029 b030 b031 b032 b033 b034):ar.L6 i b0 b02 b03 b04 b05 b06 b07 b08 b09 b010 b011 b012 b013 b014 b015 b016 b017 b018 b019 b020 b021 b022 b023 b024 b025 b026 b027 b028 b029 b030 b031 b032 b033 b034=
 ar.L4 (IntKind.wrap .i64 (i+1)) b0 b02 b03 b04 b05 b06 b07 b08 b09 b010 b011 b012 b013 b014 b015 b016 b017 b018 b019 b020 b021 b022 b023 b024 b025 b026 b027 b028 b029 b030 b031 b032 b033 b034:=res_eq (by kernel_rfl)
theorem ar.F_eq (p):ar.F p=
 bif (decide ((p.1:Int)≥16)) then
  some (8,())
 else
  (bg.F p.2.1).bind fun r0=>
  bif (!r0.1) then
   some (8,())
  else
   (da.F p.2.2.1).bind fun r1=>
   bif (r1.1 !=0) then
    some (8,())
   else
    bif (decide ((0:Int)≤0∧(0:Int)<3)) then
     bif (!(Ty.beq t0 p.2.2.1.1 (List.getD p.2.1 (Int.toNat 0) (0,0,0,())))) then
      some (8,())
     else
      ar.L1 p.1 p.2.1 p.2.2.1.1.1 p.2.2.1.1.2.1 p.2.2.1.1.2.2.1 p.2.2.1.2.1 p.2.2.1.2.2.1 p.2.2.1.2.2.2.1 p.2.2.2.1.1 p.2.2.2.1.2.1 p.2.2.2.1.2.2.1 p.2.2.2.1.2.2.2.1.1 p.2.2.2.1.2.2.2.1.2.1 p.2.2.2.1.2.2.2.1.2.2.1 p.2.2.2.1.2.2.2.2.1 p.2.2.2.1.2.2.2.2.2.1.1 p.2.2.2.1.2.2.2.2.2.1.2.1 p.2.2.2.1.2.2.2.2.2.1.2.2.1 p.2.2.2.1.2.2.2.2.2.1.2.2.2.1 p.2.2.2.2.1.1 p.2.2.2.2.1.2.1 p.2.2.2.2.1.2.2.1 p.2.2.2.2.1.2.2.2.1.1 p.2.2.2.2.1.2.2.2.1.2.1 p.2.2.2.2.1.2.2.2.1.2.2.1 p.2.2.2.2.1.2.2.2.2.1 p.2.2.2.2.1.2.2.2.2.2.1.1 p.2.2.2.2.1.2.2.2.2.2.1.2.1 p.2.2.2.2.1.2.2.2.2.2.1.2.2.1 p.2.2.2.2.1.2.2.2.2.2.1.2.2.2.1 p.2.2.2.2.2.1 p.2.2.2.2.2.2.1.1 p.2.2.2.2.2.2.1.2.1 p.2.2.2.2.2.2.1.2.2.1
    else none:=by kernel_rfl
def bd.sg:Sig:=⟨[.val (.slice t7)],[((.int .i64),true)]⟩
def bd.E:Env:=⟨tl,fun i=>look i [(55,ar.Fn)],[],eqs,globs,prims⟩
def bd.c:=cxOf bd.E bd.sg Tryz.f32
def bd.b:=body Tryz.f32
def bd.Fn:Fun:=fnOf bd.E bd.sg Tryz.f32
def bd.F (l:List t7.den):Option (Int × Unit):=bd.Fn.F (l,())
def bd.L1 (l:List t7.den):Option (Int × Unit):=res bd.c (atJoin bd.b [1,0,1]) ⟨[(0,(.v (.slice t7) l))],[],0,[]⟩
def bd.L2 (l:List t7.den) (i:Int):Option (Int × Unit):=res bd.c (atLoop bd.b [1,1,0,1,0]) ⟨[(0,(.v (.slice t7) l)),(3,(.v (.int .i64) i))],[],0,[]⟩
def bd.L3 (l:List t7.den) (i:Int):Option (Int × Unit):=res bd.c (atJoin bd.b [1,1,0,1,0,0,0,1]) ⟨[(0,(.v (.slice t7) l)),(3,(.v (.int .i64) i))],[],0,[]⟩
def bd.L4 (l:List t7.den) (i:Int):Option (Int × Unit):=res bd.c (atJoin bd.b [1,1,0,1,0,0,1,0,0,1]) ⟨[(0,(.v (.slice t7) l)),(3,(.v (.int .i64) i))],[],0,[]⟩
theorem bd.spec:FnSpec Tryz.prog globs 32 bd.Fn:=spec_of (E:=bd.E) (envOk_at tabOk eqOk primsOk (.cons ar.spec<|.nil)) mixOk Tryz.func32 (by kernel_rfl)
theorem bd.L1_eq (l):bd.L1 l=
 bd.L2 l 0:=res_eq (by kernel_rfl)
theorem bd.L2_eq (l i):bd.L2 l i=
 bif (decide ((i:Int)<((List.length l:Int)))) then
  bd.L3 l i
 else
  some (0,()):=res_eq (by kernel_rfl)
theorem bd.L3_eq (l i):bd.L3 l i=
 bif (decide ((0:Int)≤i∧(i:Int)<((List.length l:Int)))) then
  (ar.F (List.getD l (Int.toNat i) d7_)).bind fun r0=>
  bif (r0.1 !=0) then
   some (8,())
  else
   bif (decide ((i:Int)>0)) then
    bif (decide ((0:Int)≤i∧(i:Int)<((List.length l:Int)))) then
     bif (decide ((0:Int)≤(IntKind.wrap .i64 (i - 1))∧((IntKind.wrap .i64 (i - 1)):Int)<((List.length l:Int)))) then
      bif (decide ((((List.getD l (Int.toNat i) d7_).1):Int)≤((List.getD l (Int.toNat (IntKind.wrap .i64 (i - 1))) d7_).1))) then
       some (8,())
      else
       bd.L4 l i
     else none
    else none
   else
    bd.L4 l i
 else none:=res_eq (by kernel_rfl)
theorem bd.L4_eq (l i):bd.L4 l i=
 bd.L2 l (IntKind.wrap .i64 (i+1)):=res_eq (by kernel_rfl)
theorem bd.F_eq (l):bd.F l=
 bif (decide ((((List.length l:Int)):Int)>8)) then
  some (4,())
 else
  bd.L1 l:=by kernel_rfl
def cj.sg:Sig:=⟨[.val (.slice t1),.val (.int .u64)],[(.bool,true)]⟩
def cj.E:Env:=⟨tl,fun i=>look i [],[],eqs,globs,prims⟩
def cj.c:=cxOf cj.E cj.sg Tryz.f33
def cj.b:=body Tryz.f33
def cj.Fn:Fun:=fnOf cj.E cj.sg Tryz.f33
def cj.F (l:List t1.den) (tick:Int):Option (Bool × Unit):=cj.Fn.F (l,tick,())
def cj.L1 (l:List t1.den) (tick i:Int):Option (Bool × Unit):=res cj.c (atLoop cj.b [1,0,1,0]) ⟨[(0,(.v (.slice t1) l)),(1,(.v (.int .u64) tick)),(5,(.v (.int .i64) i))],[],0,[]⟩
def cj.L2 (l:List t1.den) (tick i:Int):Option (Bool × Unit):=res cj.c (atJoin cj.b [1,0,1,0,0,0,1]) ⟨[(0,(.v (.slice t1) l)),(1,(.v (.int .u64) tick)),(5,(.v (.int .i64) i))],[],0,[]⟩
def cj.L3 (l:List t1.den) (tick i:Int):Option (Bool × Unit):=res cj.c (atJoin cj.b [1,0,1,0,0,1,0,0,1]) ⟨[(0,(.v (.slice t1) l)),(1,(.v (.int .u64) tick)),(5,(.v (.int .i64) i))],[],0,[]⟩
theorem cj.spec:FnSpec Tryz.prog globs 33 cj.Fn:=spec_of (E:=cj.E) (envOk_at tabOk eqOk primsOk (.nil)) mixOk Tryz.func33 (by kernel_rfl)
theorem cj.L1_eq (l tick i):cj.L1 l tick i=
 bif (decide ((i:Int)<((List.length l:Int)))) then
  cj.L2 l tick i
 else
  some (false,()):=res_eq (by kernel_rfl)
theorem cj.L2_eq (l tick i):cj.L2 l tick i=
 bif (decide ((0:Int)≤i∧(i:Int)<((List.length l:Int)))) then
  bif (decide (((((((List.getD l (Int.toNat i) ((0,0,0,()),0,0,0,())).2).2).2).1):Int)>tick)) then
   some (true,())
  else
   cj.L3 l tick i
 else none:=res_eq (by kernel_rfl)
theorem cj.L3_eq (l tick i):cj.L3 l tick i=
 cj.L1 l tick (IntKind.wrap .i64 (i+1)):=res_eq (by kernel_rfl)
theorem cj.F_eq (l tick):cj.F l tick=
 cj.L1 l tick 0:=by kernel_rfl
def ah.sg:Sig:=⟨[.val t8],[((.int .i64),true)]⟩
def ah.E:Env:=⟨tl,fun i=>look i [(32,bd.Fn),(33,cj.Fn)],[],eqs,globs,prims⟩
def ah.c:=cxOf ah.E ah.sg Tryz.f13
def ah.b:=body Tryz.f13
def ah.Fn:Fun:=fnOf ah.E ah.sg Tryz.f13
def ah.F (s:t8.den):Option (Int × Unit):=ah.Fn.F (s,())
def ah.L1 (b0:Int) (b02 b03:List Int) (b04:List t7.den):Option (Int × Unit):=res ah.c (atJoin ah.b [1,0,1]) ⟨[(1,(.ptr 0 []))],[(0,some (.box (.agg [(.v (.int .u64) b0),(.v (.arr 32 (.int .u8)) b02),(.v (.arr 16 (.int .u32)) b03),(.v (.slice t7) b04)])))],1,[]⟩
def ah.L2 (i b0:Int) (b02 b03:List Int) (b04:List t7.den):Option (Int × Unit):=res ah.c (atLoop ah.b [1,1,0,1,0]) ⟨[(1,(.ptr 0 [])),(3,(.v (.int .i64) i))],[(0,some (.box (.agg [(.v (.int .u64) b0),(.v (.arr 32 (.int .u8)) b02),(.v (.arr 16 (.int .u32)) b03),(.v (.slice t7) b04)])))],1,[]⟩
def ah.L3 (i b0:Int) (b02 b03:List Int) (b04:List t7.den):Option (Int × Unit):=res ah.c (atJoin ah.b [1,1,0,1,0,0,0,1]) ⟨[(1,(.ptr 0 [])),(3,(.v (.int .i64) i))],[(0,some (.box (.agg [(.v (.int .u64) b0),(.v (.arr 32 (.int .u8)) b02),(.v (.arr 16 (.int .u32)) b03),(.v (.slice t7) b04)])))],1,[]⟩
def ah.L4 (i b0:Int) (b02 b03:List Int) (b04:List t7.den):Option (Int × Unit):=res ah.c (atLoop ah.b [1,1,1,0,1,0]) ⟨[(1,(.ptr 0 [])),(4,(.v (.int .i64) i))],[(0,some (.box (.agg [(.v (.int .u64) b0),(.v (.arr 32 (.int .u8)) b02),(.v (.arr 16 (.int .u32)) b03),(.v (.slice t7) b04)])))],1,[]⟩
def ah.L5 (i b0:Int) (b02 b03:List Int) (b04:List t7.den):Option (Int × Unit):=res ah.c (atJoin ah.b [1,1,1,0,1,0,0,0,1]) ⟨[(1,(.ptr 0 [])),(4,(.v (.int .i64) i))],[(0,some (.box (.agg [(.v (.int .u64) b0),(.v (.arr 32 (.int .u8)) b02),(.v (.arr 16 (.int .u32)) b03),(.v (.slice t7) b04)])))],1,[]⟩
def ah.L6 (i b0:Int) (b02 b03:List Int) (b04:List t7.den):Option (Int × Unit):=res ah.c (atJoin ah.b [1,1,1,0,1,0,0,1,0,0,1,1]) ⟨[(1,(.ptr 0 [])),(4,(.v (.int .i64) i))],[(0,some (.box (.agg [(.v (.int .u64) b0),(.v (.arr 32 (.int .u8)) b02),(.v (.arr 16 (.int .u32)) b03),(.v (.slice t7) b04)])))],1,[]⟩
def ah.L7 (i b0:Int) (b02 b03:List Int) (b04:List t7.den):Option (Int × Unit):=res ah.c (atJoin ah.b [1,1,0,1,0,0,1,0,0,1]) ⟨[(1,(.ptr 0 [])),(3,(.v (.int .i64) i))],[(0,some (.box (.agg [(.v (.int .u64) b0),(.v (.arr 32 (.int .u8)) b02),(.v (.arr 16 (.int .u32)) b03),(.v (.slice t7) b04)])))],1,[]⟩
theorem ah.spec:FnSpec Tryz.prog globs 13 ah.Fn:=spec_of (E:=ah.E) (envOk_at tabOk eqOk primsOk (.cons bd.spec<|.cons cj.spec<|.nil)) mixOk Tryz.func13 (by kernel_rfl)
theorem ah.L1_eq (b0 b02 b03 b04):ah.L1 b0 b02 b03 b04=
 ah.L2 0 b0 b02 b03 b04:=res_eq (by kernel_rfl)
theorem ah.L2_eq (i b0 b02 b03 b04):ah.L2 i b0 b02 b03 b04=
 bif (decide ((i:Int)<16)) then
  ah.L3 i b0 b02 b03 b04
 else
  ah.L4 0 b0 b02 b03 b04:=res_eq (by kernel_rfl)
theorem ah.L3_eq (i b0 b02 b03 b04):ah.L3 i b0 b02 b03 b04=
 bif (decide ((0:Int)≤i∧(i:Int)<16)) then
  bif (decide (((List.getD b03 (Int.toNat i) 0):Int)>1000000)) then
   some (8,())
  else
   ah.L7 i b0 b02 b03 b04
 else none:=res_eq (by kernel_rfl)
theorem ah.L4_eq (i b0 b02 b03 b04):ah.L4 i b0 b02 b03 b04=
 bif (decide ((i:Int)<((List.length b04:Int)))) then
  ah.L5 i b0 b02 b03 b04
 else
  some (0,()):=res_eq (by kernel_rfl)
theorem ah.L5_eq (i b0 b02 b03 b04):ah.L5 i b0 b02 b03 b04=
 bif (decide ((0:Int)≤i∧(i:Int)<((List.length b04:Int)))) then
  bif (decide ((((((((((List.getD b04 (Int.toNat i) d7_).2).2).1).2).2).2).1):Int)>b0)) then
   some (8,())
  else
   (cj.F ((((((((List.getD b04 (Int.toNat i) d7_).2).2).2).1).2).2).1) b0).bind fun r0=>
   bif r0.1 then
    some (8,())
   else
    (cj.F (((((((((List.getD b04 (Int.toNat i) d7_).2).2).2).2).1).2).2).1) b0).bind fun r1=>
    bif r1.1 then
     some (8,())
    else
     ah.L6 i b0 b02 b03 b04
 else none:=res_eq (by kernel_rfl)
theorem ah.L6_eq (i b0 b02 b03 b04):ah.L6 i b0 b02 b03 b04=
 ah.L4 (IntKind.wrap .i64 (i+1)) b0 b02 b03 b04:=res_eq (by kernel_rfl)
theorem ah.L7_eq (i b0 b02 b03 b04):ah.L7 i b0 b02 b03 b04=
 ah.L2 (IntKind.wrap .i64 (i+1)) b0 b02 b03 b04:=res_eq (by kernel_rfl)
theorem ah.F_eq (s):ah.F s=
 (bd.F s.2.2.2.1).bind fun r0=>
 bif (r0.1 !=0) then
  some (8,())
 else
  ah.L1 s.1 s.2.1 s.2.2.1 s.2.2.2.1:=by kernel_rfl
def f0.sg:Sig:=⟨[.val t8],[(t8,true),((.int .i64),true)]⟩
def f0.E:Env:=⟨tl,fun i=>look i [(24,cv.Fn),(35,fe.Fn)],[],eqs,globs,prims⟩
def f0.c:=cxOf f0.E f0.sg Tryz.f15
def f0.b:=body Tryz.f15
def f0.Fn:Fun:=fnOf f0.E f0.sg Tryz.f15
def f0.F (s:t8.den):Option (t8.den × Int × Unit):=f0.Fn.F (s,())
def f0.L1 (b0 b02:List Int) (b1:Int) (b12 b13:List Int) (l2:List t7.den) (l3:List t10.den):Option (t8.den × Int × Unit):=res f0.c (atJoin f0.b [1,1,0,1]) ⟨[(2,(.ptr 0 [])),(4,(.ptr 1 []))],[(0,some (.box (.agg [(.v (.int .u64) 0),(.v (.arr 32 (.int .u8)) b0),(.v (.arr 16 (.int .u32)) b02),(.sl 2)]))),(1,some (.box (.agg [(.v (.int .u64) b1),(.v (.arr 32 (.int .u8)) b12),(.v (.arr 16 (.int .u32)) b13),(.sl 3)]))),(2,some (.row t7 l2 false)),(3,some (.row t10 l3 false))],4,[]⟩
theorem f0.spec:FnSpec Tryz.prog globs 15 f0.Fn:=spec_of (E:=f0.E) (envOk_at tabOk eqOk primsOk (.cons cv.spec<|.cons fe.spec<|.nil)) mixOk Tryz.func15 (by kernel_rfl)
theorem f0.L1_eq (b0 b02 b1 b12 b13 l2 l3):f0.L1 b0 b02 b1 b12 b13 l2 l3=
 (cv.F (b1,b12,b13,l3,())).bind fun r0=>
 some (r0.1,r0.2.1,()):=res_eq (by kernel_rfl)
theorem f0.F_eq (s):f0.F s=
 (fe.F s).bind fun r0=>
 bif (r0.2.1 !=0) then
  some ((0,(List.replicate 32 (0:Int)),(List.replicate 16 (0:Int)),([]:List t7.den),()),r0.2.1,())
 else
  f0.L1 (List.replicate 32 (0:Int)) (List.replicate 16 (0:Int)) r0.1.1 r0.1.2.1 r0.1.2.2.1 ([]:List t7.den) r0.1.2.2.2.1:=by kernel_rfl
def ag.sg:Sig:=⟨[.val (.slice (.int .u8)),.val (.int .i64)],[(.bool,true)]⟩
def ag.E:Env:=⟨tl,fun i=>look i [(7,am.Fn),(11,fg.Fn),(12,fd.Fn),(13,ah.Fn),(14,ca.Fn),(15,f0.Fn)],[],eqs,globs,prims⟩
def ag.c:=cxOf ag.E ag.sg Tryz.f4
def ag.b:=body Tryz.f4
def ag.Fn:Fun:=fnOf ag.E ag.sg Tryz.f4
def ag.F (b:List Int) (cut:Int):Option (Bool × Unit):=ag.Fn.F (b,cut,())
def ag.L1 (b:List Int) (cut:Int) (ok:Bool):Option (Bool × Unit):=res ag.c (atJoin ag.b [1,1,0,1]) ⟨[(0,(.v (.slice (.int .u8)) b)),(1,(.v (.int .i64) cut)),(5,(.v .bool ok))],[],0,[]⟩
def ag.L2 (b:List Int) (cut:Int) (ok:Bool) (b0:Int) (b02 b03:List Int) (l1:List t7.den):Option (Bool × Unit):=res ag.c (atJoin ag.b [1,1,1,1,0,1]) ⟨[(0,(.v (.slice (.int .u8)) b)),(1,(.v (.int .i64) cut)),(5,(.v .bool ok)),(6,(.ptr 0 []))],[(0,some (.box (.agg [(.v (.int .u64) b0),(.v (.arr 32 (.int .u8)) b02),(.v (.arr 16 (.int .u32)) b03),(.sl 1)]))),(1,some (.row t7 l1 false))],2,[]⟩
def ag.L3 (b:List Int) (cut:Int) (ok:Bool) (b0:Int) (b02 b03:List Int) (l1:List t7.den):Option (Bool × Unit):=res ag.c (atJoin ag.b [1,1,1,1,1,0,1]) ⟨[(0,(.v (.slice (.int .u8)) b)),(1,(.v (.int .i64) cut)),(5,(.v .bool ok)),(6,(.ptr 0 []))],[(0,some (.box (.agg [(.v (.int .u64) b0),(.v (.arr 32 (.int .u8)) b02),(.v (.arr 16 (.int .u32)) b03),(.sl 1)]))),(1,some (.row t7 l1 false))],2,[]⟩
def ag.L4 (b:List Int) (cut:Int) (ok:Bool):Option (Bool × Unit):=res ag.c (atJoin ag.b [1,1,1,1,1,1,1,1,0,1]) ⟨[(0,(.v (.slice (.int .u8)) b)),(1,(.v (.int .i64) cut)),(5,(.v .bool ok))],[],0,[]⟩
def ag.L5 (b:List Int) (cut:Int) (ok:Bool):Option (Bool × Unit):=res ag.c (atJoin ag.b [1,1,1,1,1,1,1,1,1,1,0,1]) ⟨[(0,(.v (.slice (.int .u8)) b)),(1,(.v (.int .i64) cut)),(5,(.v .bool ok))],[],0,[]⟩
def ag.L6 (b:List Int) (cut:Int) (ok:Bool):Option (Bool × Unit):=res ag.c (atJoin ag.b [1,1,1,1,1,1,1,1,1,1,1,0,1]) ⟨[(0,(.v (.slice (.int .u8)) b)),(1,(.v (.int .i64) cut)),(5,(.v .bool ok))],[],0,[]⟩
theorem ag.spec:FnSpec Tryz.prog globs 4 ag.Fn:=spec_of (E:=ag.E) (envOk_at tabOk eqOk primsOk (.cons am.spec<|.cons fg.spec<|.cons fd.spec<|.cons ah.spec<|.cons ca.spec<|.cons f0.spec<|.nil)) mixOk Tryz.func4 (by kernel_rfl)
theorem ag.L1_eq (b cut ok):ag.L1 b cut ok=
 (am.F b).bind fun r0=>
 bif (r0.2.1 !=0) then
  bif ok then
   bif (r0.2.1==12) then
    some ((((List.length r0.1.2.2.2.1:Int))==0),())
   else
    some (false,())
  else
   some (false,())
 else
  ag.L2 b cut ok r0.1.1 r0.1.2.1 r0.1.2.2.1 r0.1.2.2.2.1:=res_eq (by kernel_rfl)
theorem ag.L2_eq (b cut ok b0 b02 b03 l1):ag.L2 b cut ok b0 b02 b03 l1=
 (ah.F (b0,b02,b03,l1,())).bind fun r0=>
 bif (r0.1 !=0) then
  some (false,())
 else
  ag.L3 b cut ok b0 b02 b03 l1:=res_eq (by kernel_rfl)
theorem ag.L3_eq (b cut ok b0 b02 b03 l1):ag.L3 b cut ok b0 b02 b03 l1=
 (ca.F (b0,b02,b03,l1,())).bind fun r0=>
 (f0.F (b0,b02,b03,l1,())).bind fun r1=>
 bif (r0.2.1 !=0) then
  some (false,())
 else
  bif (!(decide ((List.map (fun n=>UInt8.ofNat (Int.toNat n)) r0.1)=(List.map (fun n=>UInt8.ofNat (Int.toNat n)) b)))) then
   some (false,())
  else
   bif (r1.2.1 !=0) then
    some (false,())
   else
    (fg.F (b0,b02,b03,l1,()) r1.1).bind fun r2=>
    bif (!r2.1) then
     some (false,())
    else
     ag.L4 b cut ok:=res_eq (by kernel_rfl)
theorem ag.L4_eq (b cut ok):ag.L4 b cut ok=
 bif (lim ((List.length ([]:List Int))+(List.length b)) (.int .u8)) then
  bif (lim ((List.length (([]:List Int)++b))+(List.length ([0]:List Int))) (.int .u8)) then
   (am.F ((([]:List Int)++b)++([0]:List Int))).bind fun r0=>
   bif (decide ((((List.length b:Int)):Int)<5000)) then
    bif (r0.2.1 !=12) then
     some (false,())
    else
     ag.L5 b cut ok
   else
    ag.L5 b cut ok
  else none
 else none:=res_eq (by kernel_rfl)
theorem ag.L5_eq (b cut ok):ag.L5 b cut ok=
 bif (decide ((cut:Int)<0)) then
  some (ok,())
 else
  bif (decide ((cut:Int)≥((List.length b:Int)))) then
   some (ok,())
  else
   ag.L6 b cut ok:=res_eq (by kernel_rfl)
theorem ag.L6_eq (b cut ok):ag.L6 b cut ok=
 bif (decide ((0:Int)≤0∧(0:Int)≤cut∧(cut:Int)≤((List.length b:Int)))) then
  (am.F (List.take ((Int.toNat cut) - (Int.toNat 0)) (List.drop (Int.toNat 0) b))).bind fun r0=>
  bif ok then
   some ((r0.2.1==12),())
  else
   some (false,())
 else none:=res_eq (by kernel_rfl)
theorem ag.F_eq (b cut):ag.F b cut=
 fd.F.bind fun r0=>
 bif (decide ((((List.length b:Int)):Int)>5000)) then
  some (r0.1,())
 else
  bif (!r0.1) then
   some (r0.1,())
  else
   ag.L1 b cut r0.1:=by kernel_rfl
end
end Go.Proofs.YtkihjakbbcajbaaGreat.PM
namespace Go.Proofs.YtkihjakbbcajbaaGreat.RP
set_option linter.unusedSimpArgs false
set_option linter.unusedVariables false
open Go Go.Proofs.YtkihjakbbcajbaaGreat.PM
theorem bd_pos {α:Type} {p:Prop} [Decidable p] {a b:α} (h:p):(bif decide p then a else b)=a:=by simp [h]
theorem bd_neg {α:Type} {p:Prop} [Decidable p] {a b:α} (h:¬p):(bif decide p then a else b)=b:=by simp [h]
theorem W_eq {x:Int} (h1: -9223372036854775808≤x) (h2:x≤9223372036854775807):IntKind.wrap .i64 x=x:=by rw [IntKind.wrap_i64];omega
theorem lim_ok {n:Nat} {u:Ty} (h:n*u.bytes≤140737488355328):lim n u=true:=decide_eq_true h
theorem lim_ok_small {n:Nat} {u:Ty} {α:Type} {a b:α} (hu:u.bytes≤1000000) (h:n≤100000000):(bif lim n u then a else b)=a:=by
 rw [lim_ok (Nat.le_trans (Nat.mul_le_mul h hu) (by decide))];rfl
theorem bne_pos {α:Type} {x y:Int} {a b:α} (h:x≠y):(bif x !=y then a else b)=a:=by rw [bne_iff_ne.2 h];rfl
theorem bne_neg {α:Type} {x y:Int} {a b:α} (h:x=y):(bif x !=y then a else b)=b:=by rw [h,bne_self_eq_false];rfl
theorem beq_pos {α:Type} {x y:Int} {a b:α} (h:x=y):(bif x==y then a else b)=a:=by rw [h,beq_self_eq_true];rfl
theorem beq_neg {α:Type} {x y:Int} {a b:α} (h:x≠y):(bif x==y then a else b)=b:=by
 rw [show (x==y)=false by simpa using h];rfl
theorem ob {α β:Type} {f:α→Option β} {x:α}:(some x).bind f=f x:=rfl
theorem toNat_cast (n:Nat):Int.toNat (n:Int)=n:=Int.toNat_natCast n
theorem toNat_sub1 {n:Nat} (h:0<n):Int.toNat ((n:Int) - 1)=n - 1:=by omega
theorem cast_add1 (n:Nat):((n:Int)+1)=((n+1:Nat):Int):=by omega
theorem getD_get {α:Type} {l:List α} {i:Nat} {d:α} (h:i<l.length):l.getD i d=l[i]:=by simp [List.getD,h]
end Go.Proofs.YtkihjakbbcajbaaGreat.RP
