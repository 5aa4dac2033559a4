/- Parts of the proof, joined: ZpmD, Plain0, TbW, TbA. -/
import Derived.Test.YtkihjakbbcajbaaGreatZpmC
namespace Go.Proofs.YtkihjakbbcajbaaGreat.PM
open Go Go.Proofs
noncomputable section
set_option linter.unusedVariables false
def dh.sg:Sig:=⟨[.val t2],[((.int .i64),true),((.int .i64),true),((.int .i64),true)]⟩
def dh.E:Env:=⟨tl,fun i=>look i [(121,ao.Fn),(165,bu.Fn)],[],eqs,globs,prims⟩
def dh.c:=cxOf dh.E dh.sg Tryz.f159
def dh.b:=body Tryz.f159
def dh.Fn:Fun:=fnOf dh.E dh.sg Tryz.f159
def dh.F (a:t2.den):Option (Int × Int × Int × Unit):=dh.Fn.F (a,())
def dh.L1 (b0:List Int) (b02:List Bool) (b03:Int):Option (Int × Int × Int × Unit):=res dh.c (atJoin dh.b [1,0,1]) ⟨[(1,(.ptr 0 []))],[(0,some (.box (.agg [(.v (.slice (.int .i64)) b0),(.v (.slice .bool) b02),(.v (.int .i64) b03)])))],1,[]⟩
theorem dh.spec:FnSpec Tryz.prog globs 159 dh.Fn:=spec_of (E:=dh.E) (envOk_at tabOk eqOk primsOk (.cons ao.spec<|.cons bu.spec<|.nil)) mixOk Tryz.func159 (by kernel_rfl)
theorem dh.L1_eq (b0 b02 b03):dh.L1 b0 b02 b03=
 (bu.F (b0,b02,b03,())).bind fun r0=>
 some ((IntKind.wrap .i64 (((List.length b02:Int)) - ((List.length r0.1:Int)))),((List.length r0.1:Int)),0,()):=res_eq (by kernel_rfl)
theorem dh.F_eq (a):dh.F a=
 (ao.F a).bind fun r0=>
 bif (r0.1 !=0) then
  (ao.F a).bind fun r1=>
  some (0,0,r1.1,())
 else
  dh.L1 a.1 a.2.1 a.2.2.1:=by kernel_rfl
def fm.sg:Sig:=⟨[.val t5],[((.slice (.int .u32)),true)]⟩
def fm.E:Env:=⟨tl,fun i=>look i [(124,bp.Fn)],[],eqs,globs,prims⟩
def fm.Fn:Fun:=fnOf fm.E fm.sg Tryz.f160
def fm.F (t:t5.den):Option ((List Int) × Unit):=fm.Fn.F (t,())
theorem fm.spec:FnSpec Tryz.prog globs 160 fm.Fn:=spec_of (E:=fm.E) (envOk_at tabOk eqOk primsOk (.cons bp.spec<|.nil)) mixOk Tryz.func160 (by kernel_rfl)
def fx.sg:Sig:=⟨[.val t4,.val (.int .i64)],[(t4,true),((.int .i64),true)]⟩
def fx.E:Env:=⟨tl,fun i=>look i [(124,bp.Fn),(127,ce.Fn),(132,al.Fn),(178,cv.Fn),(179,bd.Fn)],[],eqs,globs,prims⟩
def fx.Fn:Fun:=fnOf fx.E fx.sg Tryz.f180
theorem fx.spec:FnSpec Tryz.prog globs 180 fx.Fn:=spec_of (E:=fx.E) (envOk_at tabOk eqOk primsOk (.cons bp.spec<|.cons ce.spec<|.cons al.spec<|.cons cv.spec<|.cons bd.spec<|.nil)) mixOk Tryz.func180 (by kernel_rfl)
def fw.sg:Sig:=⟨[.val (.int .i64),.val (.int .i64),.val (.int .i64)],[(.bool,true)]⟩
def fw.E:Env:=⟨tl,fun i=>look i [],[],eqs,globs,prims⟩
def fw.Fn:Fun:=fnOf fw.E fw.sg Tryz.f186
theorem fw.spec:FnSpec Tryz.prog globs 186 fw.Fn:=spec_of (E:=fw.E) (envOk_at tabOk eqOk primsOk (.nil)) mixOk Tryz.func186 (by kernel_rfl)
def g9.sg:Sig:=⟨[.val (.slice t3),.val (.int .u32)],[((.slice t3),true),((.int .i64),true)]⟩
def g9.E:Env:=⟨tl,fun i=>look i [(122,ab.Fn),(166,cc.Fn),(167,em.Fn),(186,fw.Fn)],[],eqs,globs,prims⟩
def g9.Fn:Fun:=fnOf g9.E g9.sg Tryz.f181
theorem g9.spec:FnSpec Tryz.prog globs 181 g9.Fn:=spec_of (E:=g9.E) (envOk_at tabOk eqOk primsOk (.cons ab.spec<|.cons cc.spec<|.cons em.spec<|.cons fw.spec<|.nil)) mixOk Tryz.func181 (by kernel_rfl)
def gb.sg:Sig:=⟨[.val t2,.val (.int .i64)],[(t2,true),((.int .i64),true)]⟩
def gb.E:Env:=⟨tl,fun i=>look i [(121,ao.Fn),(135,ej.Fn)],[],eqs,globs,prims⟩
def gb.Fn:Fun:=fnOf gb.E gb.sg Tryz.f182
theorem gb.spec:FnSpec Tryz.prog globs 182 gb.Fn:=spec_of (E:=gb.E) (envOk_at tabOk eqOk primsOk (.cons ao.spec<|.cons ej.spec<|.nil)) mixOk Tryz.func182 (by kernel_rfl)
def fk.sg:Sig:=⟨[.val t5,.val (.int .u32)],[(t5,true)]⟩
def fk.E:Env:=⟨tl,fun i=>look i [(96,eo.Fn),(157,bm.Fn),(180,fx.Fn),(181,g9.Fn),(182,gb.Fn)],[],eqs,globs,prims⟩
def fk.Fn:Fun:=fnOf fk.E fk.sg Tryz.f161
def fk.F (t:t5.den) (key:Int):Option (t5.den × Unit):=fk.Fn.F (t,key,())
theorem fk.spec:FnSpec Tryz.prog globs 161 fk.Fn:=spec_of (E:=fk.E) (envOk_at tabOk eqOk primsOk (.cons eo.spec<|.cons bm.spec<|.cons fx.spec<|.cons g9.spec<|.cons gb.spec<|.nil)) mixOk Tryz.func161 (by kernel_rfl)
def ci.sg:Sig:=⟨[.val t2],[(t2,true),((.int .i64),true),((.int .i64),true)]⟩
def ci.E:Env:=⟨tl,fun i=>look i [(121,ao.Fn),(135,ej.Fn),(165,bu.Fn)],[],eqs,globs,prims⟩
def ci.c:=cxOf ci.E ci.sg Tryz.f162
def ci.b:=body Tryz.f162
def ci.Fn:Fun:=fnOf ci.E ci.sg Tryz.f162
def ci.F (a:t2.den):Option (t2.den × Int × Int × Unit):=ci.Fn.F (a,())
def ci.L1 (b0:List Int) (b02:List Bool) (b03:Int) (l2:List Int) (l3:List Bool):Option (t2.den × Int × Int × Unit):=res ci.c (atJoin ci.b [1,0,1]) ⟨[(1,(.ptr 0 [])),(2,(.ptr 1 []))],[(0,some (.box (.agg [(.v (.slice (.int .i64)) b0),(.v (.slice .bool) b02),(.v (.int .i64) b03)]))),(1,some (.box (.agg [(.sl 2),(.sl 3),(.v (.int .i64) 0)]))),(2,some (.row (.int .i64) l2 false)),(3,some (.row .bool l3 false))],4,[]⟩
def ci.L2 (b0:List Int) (b02:List Bool) (b03:Int) (l2 l3:List Int) (l4:List Bool):Option (t2.den × Int × Int × Unit):=res ci.c (atJoin ci.b [1,1,1,0,1]) ⟨[(1,(.ptr 0 [])),(2,(.ptr 1 [])),(5,(.sl 2))],[(0,some (.box (.agg [(.v (.slice (.int .i64)) b0),(.v (.slice .bool) b02),(.v (.int .i64) b03)]))),(1,some (.box (.agg [(.sl 3),(.sl 4),(.v (.int .i64) 0)]))),(2,some (.row (.int .i64) l2 false)),(3,some (.row (.int .i64) l3 false)),(4,some (.row .bool l4 false))],5,[]⟩
def ci.L3 (l1:List Int) (b2:Int) (l3:List Int) (l4:List Bool) (l5:List Int) (l6:List Bool):Option (t2.den × Int × Int × Unit):=res ci.c (atJoin ci.b [1,1,1,1,1,1,1,1,0,1]) ⟨[(2,(.ptr 0 [])),(5,(.sl 1)),(7,(.ptr 2 []))],[(0,some (.box (.agg [(.sl 3),(.sl 4),(.v (.int .i64) 0)]))),(1,some (.row (.int .i64) l1 false)),(2,some (.box (.agg [(.sl 5),(.sl 6),(.v (.int .i64) b2)]))),(3,some (.row (.int .i64) l3 false)),(4,some (.row .bool l4 false)),(5,some (.row (.int .i64) l5 false)),(6,some (.row .bool l6 false))],7,[]⟩
theorem ci.spec:FnSpec Tryz.prog globs 162 ci.Fn:=spec_of (E:=ci.E) (envOk_at tabOk eqOk primsOk (.cons ao.spec<|.cons ej.spec<|.cons bu.spec<|.nil)) mixOk Tryz.func162 (by kernel_rfl)
theorem ci.L1_eq (b0 b02 b03 l2 l3):ci.L1 b0 b02 b03 l2 l3=
 (bu.F (b0,b02,b03,())).bind fun r0=>
 bif (((List.length r0.1:Int))==0) then
  some ((([]:List Int),([]:List Bool),0,()),0,18,())
 else
  ci.L2 b0 b02 b03 r0.1 l2 l3:=res_eq (by kernel_rfl)
theorem ci.L2_eq (b0 b02 b03 l2 l3 l4):ci.L2 b0 b02 b03 l2 l3 l4=
 (ej.F (b0,b02,b03,())).bind fun r0=>
 bif (decide ((0:Int)≤0∧(0:Int)<((List.length l2:Int)))) then
  bif (decide ((0:Int)≤(List.getD l2 (Int.toNat 0) 0)∧((List.getD l2 (Int.toNat 0) 0):Int)<((List.length r0.1.2.1:Int)))) then
   bif (decide ((0:Int)≤0∧(0:Int)<((List.length l2:Int)))) then
    bif (decide ((0:Int)≤(List.getD l2 (Int.toNat 0) 0)∧((List.getD l2 (Int.toNat 0) 0):Int)<((List.length r0.1.1:Int)))) then
     bif (decide ((((List.length l2:Int)):Int)>1)) then
      bif (decide ((0:Int)≤1∧(1:Int)<((List.length l2:Int)))) then
       ci.L3 l2 (List.getD l2 (Int.toNat 1) 0) l3 l4 (List.set r0.1.1 (Int.toNat (List.getD l2 (Int.toNat 0) 0)) (-1)) (List.set r0.1.2.1 (Int.toNat (List.getD l2 (Int.toNat 0) 0)) true)
      else none
     else
      ci.L3 l2 (-1) l3 l4 (List.set r0.1.1 (Int.toNat (List.getD l2 (Int.toNat 0) 0)) (-1)) (List.set r0.1.2.1 (Int.toNat (List.getD l2 (Int.toNat 0) 0)) true)
    else none
   else none
  else none
 else none:=res_eq (by kernel_rfl)
theorem ci.L3_eq (l1 b2 l3 l4 l5 l6):ci.L3 l1 b2 l3 l4 l5 l6=
 bif (decide ((0:Int)≤0∧(0:Int)<((List.length l1:Int)))) then
  some ((l5,l6,b2,()),(List.getD l1 (Int.toNat 0) 0),0,())
 else none:=res_eq (by kernel_rfl)
theorem ci.F_eq (a):ci.F a=
 (ao.F a).bind fun r0=>
 bif (r0.1 !=0) then
  (ao.F a).bind fun r1=>
  some ((([]:List Int),([]:List Bool),0,()),0,r1.1,())
 else
  ci.L1 a.1 a.2.1 a.2.2.1 ([]:List Int) ([]:List Bool):=by kernel_rfl
def b8.sg:Sig:=⟨[.val (.slice t3),.val (.int .u32),.val (.int .i64)],[((.slice t3),true),((.int .i64),true)]⟩
def b8.E:Env:=⟨tl,fun i=>look i [(122,ab.Fn),(125,bh.Fn),(166,cc.Fn),(167,em.Fn)],[],eqs,globs,prims⟩
def b8.c:=cxOf b8.E b8.sg Tryz.f163
def b8.b:=body Tryz.f163
def b8.Fn:Fun:=fnOf b8.E b8.sg Tryz.f163
def b8.F (x:List t3.den) (key place:Int):Option ((List t3.den) × Int × Unit):=b8.Fn.F (x,key,place,())
def b8.L1 (x:List t3.den) (key place:Int):Option ((List t3.den) × Int × Unit):=res b8.c (atJoin b8.b [1,0,1]) ⟨[(0,(.v (.slice t3) x)),(1,(.v (.int .u32) key)),(2,(.v (.int .i64) place))],[],0,[]⟩
def b8.L2 (x:List t3.den) (key place:Int):Option ((List t3.den) × Int × Unit):=res b8.c (atJoin b8.b [1,1,0,1]) ⟨[(0,(.v (.slice t3) x)),(1,(.v (.int .u32) key)),(2,(.v (.int .i64) place))],[],0,[]⟩
def b8.L3 (x:List t3.den) (key place:Int):Option ((List t3.den) × Int × Unit):=res b8.c (atJoin b8.b [1,1,1,0,1]) ⟨[(0,(.v (.slice t3) x)),(1,(.v (.int .u32) key)),(2,(.v (.int .i64) place))],[],0,[]⟩
def b8.L4 (x:List t3.den) (key place:Int):Option ((List t3.den) × Int × Unit):=res b8.c (atJoin b8.b [1,1,1,1,0,1]) ⟨[(0,(.v (.slice t3) x)),(1,(.v (.int .u32) key)),(2,(.v (.int .i64) place))],[],0,[]⟩
def b8.L5 (key place k:Int) (l0:List t3.den):Option ((List t3.den) × Int × Unit):=res b8.c (atLoop b8.b [1,1,1,1,1,1,1,0,0]) ⟨[(1,(.v (.int .u32) key)),(2,(.v (.int .i64) place)),(8,(.sl 0)),(9,(.v (.int .i64) k))],[(0,some (.row t3 l0 false))],1,[]⟩
def b8.L6 (key place k:Int) (l0:List t3.den):Option ((List t3.den) × Int × Unit):=res b8.c (atJoin b8.b [1,1,1,1,1,1,1,0,0,0,0,1]) ⟨[(1,(.v (.int .u32) key)),(2,(.v (.int .i64) place)),(8,(.sl 0)),(9,(.v (.int .i64) k))],[(0,some (.row t3 l0 false))],1,[]⟩
theorem b8.spec:FnSpec Tryz.prog globs 163 b8.Fn:=spec_of (E:=b8.E) (envOk_at tabOk eqOk primsOk (.cons ab.spec<|.cons bh.spec<|.cons cc.spec<|.cons em.spec<|.nil)) mixOk Tryz.func163 (by kernel_rfl)
theorem b8.L1_eq (x key place):b8.L1 x key place=
 bif (decide ((place:Int)<0)) then
  some (([]:List t3.den),2,())
 else
  bif (decide ((place:Int)≥16)) then
   some (([]:List t3.den),2,())
  else
   b8.L2 x key place:=res_eq (by kernel_rfl)
theorem b8.L2_eq (x key place):b8.L2 x key place=
 (cc.F x key).bind fun r0=>
 bif (decide ((r0.1:Int)≥0)) then
  some (([]:List t3.den),14,())
 else
  b8.L3 x key place:=res_eq (by kernel_rfl)
theorem b8.L3_eq (x key place):b8.L3 x key place=
 (bh.F x).bind fun r0=>
 bif (r0.1==12) then
  some (([]:List t3.den),18,())
 else
  b8.L4 x key place:=res_eq (by kernel_rfl)
theorem b8.L4_eq (x key place):b8.L4 x key place=
 bif (lim ((List.length ([]:List t3.den))+(List.length x)) t3) then
  (em.F key).bind fun r0=>
  b8.L5 key place r0.1 (([]:List t3.den)++x)
 else none:=res_eq (by kernel_rfl)
theorem b8.L5_eq (key place k l0):b8.L5 key place k l0=
 bif (decide ((0:Int)≤k∧(k:Int)<((List.length l0:Int)))) then
  bif (((List.getD l0 (Int.toNat k) (0,0,false,())).2).2).1 then
   b8.L6 key place k l0
  else
   bif (decide ((0:Int)≤k∧(k:Int)<((List.length l0:Int)))) then
    some ((List.set l0 (Int.toNat k) (key,place,true,())),0,())
   else none
 else none:=res_eq (by kernel_rfl)
theorem b8.L6_eq (key place k l0):b8.L6 key place k l0=
 bif (decide ((16:Int)≠0)) then
  b8.L5 key place (Int.tmod (IntKind.wrap .i64 (k+1)) 16) l0
 else none:=res_eq (by kernel_rfl)
theorem b8.F_eq (x key place):b8.F x key place=
 (ab.F x).bind fun r0=>
 bif (r0.1 !=0) then
  (ab.F x).bind fun r1=>
  some (([]:List t3.den),r1.1,())
 else
  b8.L1 x key place:=by kernel_rfl
def ch.sg:Sig:=⟨[.val t5,.val (.int .u32),.val t0,.val (.int .u64)],[(t5,true),((.int .u32),true),(.bool,true),((.int .i64),true)]⟩
def ch.E:Env:=⟨tl,fun i=>look i [(61,dm.Fn),(76,bn.Fn),(82,ae.Fn),(96,eo.Fn),(157,bm.Fn),(158,dc.Fn),(159,dh.Fn),(160,fm.Fn),(161,fk.Fn),(162,ci.Fn),(163,b8.Fn)],[],eqs,globs,prims⟩
def ch.c:=cxOf ch.E ch.sg Tryz.f116
def ch.b:=body Tryz.f116
def ch.Fn:Fun:=fnOf ch.E ch.sg Tryz.f116
def ch.F (t:t5.den) (key:Int) (l:t0.den) (tick:Int):Option (t5.den × Int × Bool × Int × Unit):=ch.Fn.F (t,key,l,tick,())
def ch.L1 (key tick b0:Int) (b02:List Int) (b03:List t1.den) (b04:List Int) (b05:List Bool) (b06:Int) (b07:List t3.den) (b08 b09:List Int) (b010 b011:Int) (b1 b12 b13:Int) (l3:List Int) (l4:List t1.den) (l5:List Int) (l6:List Bool) (l7:List t3.den):Option (t5.den × Int × Bool × Int × Unit):=res ch.c (atJoin ch.b [1,0,1]) ⟨[(1,(.v (.int .u32) key)),(3,(.v (.int .u64) tick)),(4,(.ptr 0 [])),(6,(.ptr 1 [])),(8,(.ptr 2 []))],[(0,some (.box (.agg [(.v (.int .i64) b0),(.v (.slice (.int .u32)) b02),(.v (.slice t1) b03),(.agg [(.v (.slice (.int .i64)) b04),(.v (.slice .bool) b05),(.v (.int .i64) b06)]),(.v (.slice t3) b07),(.agg [(.v (.slice (.int .i64)) b08),(.v (.slice (.int .i64)) b09),(.v (.int .i64) b010),(.v (.int .i64) b011)])]))),(1,some (.box (.agg [(.v (.int .i64) b1),(.v (.int .i64) b12),(.v (.int .i64) b13)]))),(2,some (.box (.agg [(.v (.int .i64) 0),(.sl 3),(.sl 4),(.agg [(.sl 5),(.sl 6),(.v (.int .i64) 0)]),(.sl 7),(.agg [(.sl 8),(.sl 9),(.v (.int .i64) 0),(.v (.int .i64) 0)])]))),(3,some (.row (.int .u32) l3 false)),(4,some (.row t1 l4 false)),(5,some (.row (.int .i64) l5 false)),(6,some (.row .bool l6 false)),(7,some (.row t3 l7 false)),(8,some (.row (.int .i64) l5 false)),(9,some (.row (.int .i64) l5 false))],10,[]⟩
def ch.L2 (key tick b0:Int) (b02:List Int) (b03:List t1.den) (b04:List Int) (b05:List Bool) (b06:Int) (b07:List t3.den) (b08 b09:List Int) (b010 b011:Int) (b1 b12 b13:Int) (l3:List Int) (l4:List t1.den) (l5:List Int) (l6:List Bool) (l7:List t3.den):Option (t5.den × Int × Bool × Int × Unit):=res ch.c (atJoin ch.b [1,1,0,1]) ⟨[(1,(.v (.int .u32) key)),(3,(.v (.int .u64) tick)),(4,(.ptr 0 [])),(6,(.ptr 1 [])),(8,(.ptr 2 []))],[(0,some (.box (.agg [(.v (.int .i64) b0),(.v (.slice (.int .u32)) b02),(.v (.slice t1) b03),(.agg [(.v (.slice (.int .i64)) b04),(.v (.slice .bool) b05),(.v (.int .i64) b06)]),(.v (.slice t3) b07),(.agg [(.v (.slice (.int .i64)) b08),(.v (.slice (.int .i64)) b09),(.v (.int .i64) b010),(.v (.int .i64) b011)])]))),(1,some (.box (.agg [(.v (.int .i64) b1),(.v (.int .i64) b12),(.v (.int .i64) b13)]))),(2,some (.box (.agg [(.v (.int .i64) 0),(.sl 3),(.sl 4),(.agg [(.sl 5),(.sl 6),(.v (.int .i64) 0)]),(.sl 7),(.agg [(.sl 8),(.sl 9),(.v (.int .i64) 0),(.v (.int .i64) 0)])]))),(3,some (.row (.int .u32) l3 false)),(4,some (.row t1 l4 false)),(5,some (.row (.int .i64) l5 false)),(6,some (.row .bool l6 false)),(7,some (.row t3 l7 false)),(8,some (.row (.int .i64) l5 false)),(9,some (.row (.int .i64) l5 false))],10,[]⟩
def ch.L3 (key tick b0:Int) (b02:List Int) (b03:List t1.den) (b04:List Int) (b05:List Bool) (b06:Int) (b07:List t3.den) (b08 b09:List Int) (b010 b011:Int) (b1 b12:Int) (b13 b3:Int) (b32 b33 b34:Int) (l4:List Int) (l5:List t1.den) (l6:List Int) (l7:List Bool) (l8:List t3.den) (l11:List Int) (l12:List t1.den) (l13:List Int) (l14:List Bool) (l15:List t3.den) (l16 l17:List Int):Option (t5.den × Int × Bool × Int × Unit):=res ch.c (atJoin ch.b [1,1,1,1,0,1,1]) ⟨[(1,(.v (.int .u32) key)),(3,(.v (.int .u64) tick)),(4,(.ptr 0 [])),(6,(.ptr 1 [])),(8,(.ptr 2 [])),(12,(.ptr 3 []))],[(0,some (.box (.agg [(.v (.int .i64) b0),(.v (.slice (.int .u32)) b02),(.v (.slice t1) b03),(.agg [(.v (.slice (.int .i64)) b04),(.v (.slice .bool) b05),(.v (.int .i64) b06)]),(.v (.slice t3) b07),(.agg [(.v (.slice (.int .i64)) b08),(.v (.slice (.int .i64)) b09),(.v (.int .i64) b010),(.v (.int .i64) b011)])]))),(1,some (.box (.agg [(.v (.int .i64) b1),(.v (.int .i64) b12),(.v (.int .i64) b13)]))),(2,some (.box (.agg [(.v (.int .i64) 0),(.sl 4),(.sl 5),(.agg [(.sl 6),(.sl 7),(.v (.int .i64) 0)]),(.sl 8),(.agg [(.sl 9),(.sl 10),(.v (.int .i64) 0),(.v (.int .i64) 0)])]))),(3,some (.box (.agg [(.v (.int .i64) b3),(.sl 11),(.sl 12),(.agg [(.sl 13),(.sl 14),(.v (.int .i64) b32)]),(.sl 15),(.agg [(.sl 16),(.sl 17),(.v (.int .i64) b33),(.v (.int .i64) b34)])]))),(4,some (.row (.int .u32) l4 false)),(5,some (.row t1 l5 false)),(6,some (.row (.int .i64) l6 false)),(7,some (.row .bool l7 false)),(8,some (.row t3 l8 false)),(9,some (.row (.int .i64) l6 false)),(10,some (.row (.int .i64) l6 false)),(11,some (.row (.int .u32) l11 false)),(12,some (.row t1 l12 false)),(13,some (.row (.int .i64) l13 false)),(14,some (.row .bool l14 false)),(15,some (.row t3 l15 false)),(16,some (.row (.int .i64) l16 false)),(17,some (.row (.int .i64) l17 false))],18,[]⟩
def ch.L4 (key tick gone:Int) (evicted:Bool) (b0 b02:Int) (b03 b2:Int) (b22 b23 b24:Int) (l3:List Int) (l4:List t1.den) (l5:List Int) (l6:List Bool) (l7:List t3.den) (l10:List Int) (l11:List t1.den) (l12:List Int) (l13:List Bool) (l14:List t3.den) (l15 l16:List Int):Option (t5.den × Int × Bool × Int × Unit):=res ch.c (atJoin ch.b [1,1,1,1,1,1,1,0,1,1]) ⟨[(1,(.v (.int .u32) key)),(3,(.v (.int .u64) tick)),(6,(.ptr 0 [])),(8,(.ptr 1 [])),(12,(.ptr 2 [])),(14,(.v (.int .u32) gone)),(15,(.v .bool evicted))],[(0,some (.box (.agg [(.v (.int .i64) b0),(.v (.int .i64) b02),(.v (.int .i64) b03)]))),(1,some (.box (.agg [(.v (.int .i64) 0),(.sl 3),(.sl 4),(.agg [(.sl 5),(.sl 6),(.v (.int .i64) 0)]),(.sl 7),(.agg [(.sl 8),(.sl 9),(.v (.int .i64) 0),(.v (.int .i64) 0)])]))),(2,some (.box (.agg [(.v (.int .i64) b2),(.sl 10),(.sl 11),(.agg [(.sl 12),(.sl 13),(.v (.int .i64) b22)]),(.sl 14),(.agg [(.sl 15),(.sl 16),(.v (.int .i64) b23),(.v (.int .i64) b24)])]))),(3,some (.row (.int .u32) l3 false)),(4,some (.row t1 l4 false)),(5,some (.row (.int .i64) l5 false)),(6,some (.row .bool l6 false)),(7,some (.row t3 l7 false)),(8,some (.row (.int .i64) l5 false)),(9,some (.row (.int .i64) l5 false)),(10,some (.row (.int .u32) l10 false)),(11,some (.row t1 l11 false)),(12,some (.row (.int .i64) l12 false)),(13,some (.row .bool l13 false)),(14,some (.row t3 l14 false)),(15,some (.row (.int .i64) l15 false)),(16,some (.row (.int .i64) l16 false))],17,[]⟩
theorem ch.spec:FnSpec Tryz.prog globs 116 ch.Fn:=spec_of (E:=ch.E) (envOk_at tabOk eqOk primsOk (.cons dm.spec<|.cons bn.spec<|.cons ae.spec<|.cons eo.spec<|.cons bm.spec<|.cons dc.spec<|.cons dh.spec<|.cons fm.spec<|.cons fk.spec<|.cons ci.spec<|.cons b8.spec<|.nil)) mixOk Tryz.func116 (by kernel_rfl)
theorem ch.L1_eq (key tick b0 b02 b03 b04 b05 b06 b07 b08 b09 b010 b011 b1 b12 b13 l3 l4 l5 l6 l7):ch.L1 key tick b0 b02 b03 b04 b05 b06 b07 b08 b09 b010 b011 b1 b12 b13 l3 l4 l5 l6 l7=
 (bn.F (b1,b12,b13,())).bind fun r0=>
 bif (r0.1 !=0) then
  (bn.F (b1,b12,b13,())).bind fun r1=>
  some ((0,([]:List Int),([]:List t1.den),(([]:List Int),([]:List Bool),0,()),([]:List t3.den),(([]:List Int),([]:List Int),0,0,()),()),0,false,r1.1,())
 else
  ch.L2 key tick b0 b02 b03 b04 b05 b06 b07 b08 b09 b010 b011 b1 b12 b13 l3 l4 l5 l6 l7:=res_eq (by kernel_rfl)
theorem ch.L2_eq (key tick b0 b02 b03 b04 b05 b06 b07 b08 b09 b010 b011 b1 b12 b13 l3 l4 l5 l6 l7):ch.L2 key tick b0 b02 b03 b04 b05 b06 b07 b08 b09 b010 b011 b1 b12 b13 l3 l4 l5 l6 l7=
 (eo.F (b0,b02,b03,(b04,b05,b06,()),b07,(b08,b09,b010,b011,()),())).bind fun r0=>
 (bm.F (b0,b02,b03,(b04,b05,b06,()),b07,(b08,b09,b010,b011,()),()) key).bind fun r1=>
 bif (decide ((r1.1:Int)≥0)) then
  (dc.F (b08,b09,b010,b011,()) r1.1).bind fun r2=>
  some ((r0.1.1,r0.1.2.1,r0.1.2.2.1,r0.1.2.2.2.1,r0.1.2.2.2.2.1,r2.1,()),0,false,0,())
 else
  ch.L3 key tick b0 b02 b03 b04 b05 b06 b07 b08 b09 b010 b011 b1 b12 b13 r0.1.1 r0.1.2.2.2.1.2.2.1 r0.1.2.2.2.2.2.1.2.2.1 r0.1.2.2.2.2.2.1.2.2.2.1 l3 l4 l5 l6 l7 r0.1.2.1 r0.1.2.2.1 r0.1.2.2.2.1.1 r0.1.2.2.2.1.2.1 r0.1.2.2.2.2.1 r0.1.2.2.2.2.2.1.1 r0.1.2.2.2.2.2.1.2.1:=res_eq (by kernel_rfl)
theorem ch.L3_eq (key tick b0 b02 b03 b04 b05 b06 b07 b08 b09 b010 b011 b1 b12 b13 b3 b32 b33 b34 l4 l5 l6 l7 l8 l11 l12 l13 l14 l15 l16 l17):ch.L3 key tick b0 b02 b03 b04 b05 b06 b07 b08 b09 b010 b011 b1 b12 b13 b3 b32 b33 b34 l4 l5 l6 l7 l8 l11 l12 l13 l14 l15 l16 l17=
 (dh.F (b04,b05,b06,())).bind fun r0=>
 bif (r0.1==b0) then
  (fm.F (b0,b02,b03,(b04,b05,b06,()),b07,(b08,b09,b010,b011,()),())).bind fun r1=>
  bif (decide ((0:Int)≤(IntKind.wrap .i64 (((List.length r1.1:Int)) - 1))∧((IntKind.wrap .i64 (((List.length r1.1:Int)) - 1)):Int)<((List.length r1.1:Int)))) then
   (fk.F (b0,b02,b03,(b04,b05,b06,()),b07,(b08,b09,b010,b011,()),()) (List.getD r1.1 (Int.toNat (IntKind.wrap .i64 (((List.length r1.1:Int)) - 1))) 0)).bind fun r2=>
   ch.L4 key tick (List.getD r1.1 (Int.toNat (IntKind.wrap .i64 (((List.length r1.1:Int)) - 1))) 0) true b1 b12 b13 r2.1.1 r2.1.2.2.2.1.2.2.1 r2.1.2.2.2.2.2.1.2.2.1 r2.1.2.2.2.2.2.1.2.2.2.1 l4 l5 l6 l7 l8 r2.1.2.1 r2.1.2.2.1 r2.1.2.2.2.1.1 r2.1.2.2.2.1.2.1 r2.1.2.2.2.2.1 r2.1.2.2.2.2.2.1.1 r2.1.2.2.2.2.2.1.2.1
  else none
 else
  ch.L4 key tick 0 false b1 b12 b13 b3 b32 b33 b34 l4 l5 l6 l7 l8 l11 l12 l13 l14 l15 l16 l17:=res_eq (by kernel_rfl)
theorem ch.L4_eq (key tick gone evicted b0 b02 b03 b2 b22 b23 b24 l3 l4 l5 l6 l7 l10 l11 l12 l13 l14 l15 l16):ch.L4 key tick gone evicted b0 b02 b03 b2 b22 b23 b24 l3 l4 l5 l6 l7 l10 l11 l12 l13 l14 l15 l16=
 (ci.F (l12,l13,b22,())).bind fun r0=>
 bif (decide ((0:Int)≤r0.2.1∧(r0.2.1:Int)<((List.length l10:Int)))) then
  (dm.F (b0,b02,b03,()) tick).bind fun r1=>
  bif (decide ((0:Int)≤r0.2.1∧(r0.2.1:Int)<((List.length l11:Int)))) then
   (b8.F l14 key r0.2.1).bind fun r2=>
   (dc.F (l15,l16,b23,b24,()) r0.2.1).bind fun r3=>
   some ((b2,(List.set l10 (Int.toNat r0.2.1) key),(List.set l11 (Int.toNat r0.2.1) r1.1),r0.1,r2.1,r3.1,()),gone,evicted,0,())
  else none
 else none:=res_eq (by kernel_rfl)
theorem ch.F_eq (t key l tick):ch.F t key l tick=
 (ae.F t).bind fun r0=>
 bif (r0.1 !=0) then
  (ae.F t).bind fun r1=>
  some ((0,([]:List Int),([]:List t1.den),(([]:List Int),([]:List Bool),0,()),([]:List t3.den),(([]:List Int),([]:List Int),0,0,()),()),0,false,r1.1,())
 else
  ch.L1 key tick t.1 t.2.1 t.2.2.1 t.2.2.2.1.1 t.2.2.2.1.2.1 t.2.2.2.1.2.2.1 t.2.2.2.2.1 t.2.2.2.2.2.1.1 t.2.2.2.2.2.1.2.1 t.2.2.2.2.2.1.2.2.1 t.2.2.2.2.2.1.2.2.2.1 l.1 l.2.1 l.2.2.1 ([]:List Int) ([]:List t1.den) ([]:List Int) ([]:List Bool) ([]:List t3.den):=by kernel_rfl
def cu.sg:Sig:=⟨[.val t5,.val (.int .u32),.val t1],[(t5,true),((.int .i64),true)]⟩
def cu.E:Env:=⟨tl,fun i=>look i [(77,cm.Fn),(82,ae.Fn),(96,eo.Fn),(157,bm.Fn)],[],eqs,globs,prims⟩
def cu.c:=cxOf cu.E cu.sg Tryz.f117
def cu.b:=body Tryz.f117
def cu.Fn:Fun:=fnOf cu.E cu.sg Tryz.f117
def cu.F (t:t5.den) (key:Int) (b:t1.den):Option (t5.den × Int × Unit):=cu.Fn.F (t,key,b,())
def cu.L1 (key b0:Int) (b02:List Int) (b03:List t1.den) (b04:List Int) (b05:List Bool) (b06:Int) (b07:List t3.den) (b08 b09:List Int) (b010 b011:Int) (b1 b12:Int) (b13 b14:Int) (b15 b16:Int) (l3:List Int) (l4:List t1.den) (l5:List Int) (l6:List Bool) (l7:List t3.den):Option (t5.den × Int × Unit):=res cu.c (atJoin cu.b [1,0,1]) ⟨[(1,(.v (.int .u32) key)),(3,(.ptr 0 [])),(5,(.ptr 1 [])),(6,(.ptr 2 []))],[(0,some (.box (.agg [(.v (.int .i64) b0),(.v (.slice (.int .u32)) b02),(.v (.slice t1) b03),(.agg [(.v (.slice (.int .i64)) b04),(.v (.slice .bool) b05),(.v (.int .i64) b06)]),(.v (.slice t3) b07),(.agg [(.v (.slice (.int .i64)) b08),(.v (.slice (.int .i64)) b09),(.v (.int .i64) b010),(.v (.int .i64) b011)])]))),(1,some (.box (.agg [(.agg [(.v (.int .i64) b1),(.v (.int .i64) b12),(.v (.int .i64) b13)]),(.v (.int .i64) b14),(.v (.int .i64) b15),(.v (.int .u64) b16)]))),(2,some (.box (.agg [(.v (.int .i64) 0),(.sl 3),(.sl 4),(.agg [(.sl 5),(.sl 6),(.v (.int .i64) 0)]),(.sl 7),(.agg [(.sl 8),(.sl 9),(.v (.int .i64) 0),(.v (.int .i64) 0)])]))),(3,some (.row (.int .u32) l3 false)),(4,some (.row t1 l4 false)),(5,some (.row (.int .i64) l5 false)),(6,some (.row .bool l6 false)),(7,some (.row t3 l7 false)),(8,some (.row (.int .i64) l5 false)),(9,some (.row (.int .i64) l5 false))],10,[]⟩
def cu.L2 (key b0:Int) (b02:List Int) (b03:List t1.den) (b04:List Int) (b05:List Bool) (b06:Int) (b07:List t3.den) (b08 b09:List Int) (b010 b011:Int) (b1 b12:Int) (b13 b14:Int) (b15 b16:Int) (l3:List Int) (l4:List t1.den) (l5:List Int) (l6:List Bool) (l7:List t3.den):Option (t5.den × Int × Unit):=res cu.c (atJoin cu.b [1,1,0,1]) ⟨[(1,(.v (.int .u32) key)),(3,(.ptr 0 [])),(5,(.ptr 1 [])),(6,(.ptr 2 []))],[(0,some (.box (.agg [(.v (.int .i64) b0),(.v (.slice (.int .u32)) b02),(.v (.slice t1) b03),(.agg [(.v (.slice (.int .i64)) b04),(.v (.slice .bool) b05),(.v (.int .i64) b06)]),(.v (.slice t3) b07),(.agg [(.v (.slice (.int .i64)) b08),(.v (.slice (.int .i64)) b09),(.v (.int .i64) b010),(.v (.int .i64) b011)])]))),(1,some (.box (.agg [(.agg [(.v (.int .i64) b1),(.v (.int .i64) b12),(.v (.int .i64) b13)]),(.v (.int .i64) b14),(.v (.int .i64) b15),(.v (.int .u64) b16)]))),(2,some (.box (.agg [(.v (.int .i64) 0),(.sl 3),(.sl 4),(.agg [(.sl 5),(.sl 6),(.v (.int .i64) 0)]),(.sl 7),(.agg [(.sl 8),(.sl 9),(.v (.int .i64) 0),(.v (.int .i64) 0)])]))),(3,some (.row (.int .u32) l3 false)),(4,some (.row t1 l4 false)),(5,some (.row (.int .i64) l5 false)),(6,some (.row .bool l6 false)),(7,some (.row t3 l7 false)),(8,some (.row (.int .i64) l5 false)),(9,some (.row (.int .i64) l5 false))],10,[]⟩
def cu.L3 (key b0:Int) (b02:List Int) (b03:List t1.den) (b04:List Int) (b05:List Bool) (b06:Int) (b07:List t3.den) (b08 b09:List Int) (b010 b011:Int) (b1 b12:Int) (b13 b14:Int) (b15 b16:Int) (l3:List Int) (l4:List t1.den) (l5:List Int) (l6:List Bool) (l7:List t3.den):Option (t5.den × Int × Unit):=res cu.c (atJoin cu.b [1,1,1,0,1]) ⟨[(1,(.v (.int .u32) key)),(3,(.ptr 0 [])),(5,(.ptr 1 [])),(6,(.ptr 2 []))],[(0,some (.box (.agg [(.v (.int .i64) b0),(.v (.slice (.int .u32)) b02),(.v (.slice t1) b03),(.agg [(.v (.slice (.int .i64)) b04),(.v (.slice .bool) b05),(.v (.int .i64) b06)]),(.v (.slice t3) b07),(.agg [(.v (.slice (.int .i64)) b08),(.v (.slice (.int .i64)) b09),(.v (.int .i64) b010),(.v (.int .i64) b011)])]))),(1,some (.box (.agg [(.agg [(.v (.int .i64) b1),(.v (.int .i64) b12),(.v (.int .i64) b13)]),(.v (.int .i64) b14),(.v (.int .i64) b15),(.v (.int .u64) b16)]))),(2,some (.box (.agg [(.v (.int .i64) 0),(.sl 3),(.sl 4),(.agg [(.sl 5),(.sl 6),(.v (.int .i64) 0)]),(.sl 7),(.agg [(.sl 8),(.sl 9),(.v (.int .i64) 0),(.v (.int .i64) 0)])]))),(3,some (.row (.int .u32) l3 false)),(4,some (.row t1 l4 false)),(5,some (.row (.int .i64) l5 false)),(6,some (.row .bool l6 false)),(7,some (.row t3 l7 false)),(8,some (.row (.int .i64) l5 false)),(9,some (.row (.int .i64) l5 false))],10,[]⟩
theorem cu.spec:FnSpec Tryz.prog globs 117 cu.Fn:=spec_of (E:=cu.E) (envOk_at tabOk eqOk primsOk (.cons cm.spec<|.cons ae.spec<|.cons eo.spec<|.cons bm.spec<|.nil)) mixOk Tryz.func117 (by kernel_rfl)
theorem cu.L1_eq (key b0 b02 b03 b04 b05 b06 b07 b08 b09 b010 b011 b1 b12 b13 b14 b15 b16 l3 l4 l5 l6 l7):cu.L1 key b0 b02 b03 b04 b05 b06 b07 b08 b09 b010 b011 b1 b12 b13 b14 b15 b16 l3 l4 l5 l6 l7=
 (cm.F ((b1,b12,b13,()),b14,b15,b16,())).bind fun r0=>
 bif (r0.1 !=0) then
  (cm.F ((b1,b12,b13,()),b14,b15,b16,())).bind fun r1=>
  some ((0,([]:List Int),([]:List t1.den),(([]:List Int),([]:List Bool),0,()),([]:List t3.den),(([]:List Int),([]:List Int),0,0,()),()),r1.1,())
 else
  cu.L2 key b0 b02 b03 b04 b05 b06 b07 b08 b09 b010 b011 b1 b12 b13 b14 b15 b16 l3 l4 l5 l6 l7:=res_eq (by kernel_rfl)
theorem cu.L2_eq (key b0 b02 b03 b04 b05 b06 b07 b08 b09 b010 b011 b1 b12 b13 b14 b15 b16 l3 l4 l5 l6 l7):cu.L2 key b0 b02 b03 b04 b05 b06 b07 b08 b09 b010 b011 b1 b12 b13 b14 b15 b16 l3 l4 l5 l6 l7=
 (bm.F (b0,b02,b03,(b04,b05,b06,()),b07,(b08,b09,b010,b011,()),()) key).bind fun r0=>
 bif (decide ((r0.1:Int)<0)) then
  some ((0,([]:List Int),([]:List t1.den),(([]:List Int),([]:List Bool),0,()),([]:List t3.den),(([]:List Int),([]:List Int),0,0,()),()),6,())
 else
  cu.L3 key b0 b02 b03 b04 b05 b06 b07 b08 b09 b010 b011 b1 b12 b13 b14 b15 b16 l3 l4 l5 l6 l7:=res_eq (by kernel_rfl)
theorem cu.L3_eq (key b0 b02 b03 b04 b05 b06 b07 b08 b09 b010 b011 b1 b12 b13 b14 b15 b16 l3 l4 l5 l6 l7):cu.L3 key b0 b02 b03 b04 b05 b06 b07 b08 b09 b010 b011 b1 b12 b13 b14 b15 b16 l3 l4 l5 l6 l7=
 (eo.F (b0,b02,b03,(b04,b05,b06,()),b07,(b08,b09,b010,b011,()),())).bind fun r0=>
 (bm.F (b0,b02,b03,(b04,b05,b06,()),b07,(b08,b09,b010,b011,()),()) key).bind fun r1=>
 bif (decide ((0:Int)≤r1.1∧(r1.1:Int)<((List.length r0.1.2.2.1:Int)))) then
  some ((r0.1.1,r0.1.2.1,(List.set r0.1.2.2.1 (Int.toNat r1.1) ((b1,b12,b13,()),b14,b15,b16,())),r0.1.2.2.2.1,r0.1.2.2.2.2.1,r0.1.2.2.2.2.2.1,()),0,())
 else none:=res_eq (by kernel_rfl)
theorem cu.F_eq (t key b):cu.F t key b=
 (ae.F t).bind fun r0=>
 bif (r0.1 !=0) then
  (ae.F t).bind fun r1=>
  some ((0,([]:List Int),([]:List t1.den),(([]:List Int),([]:List Bool),0,()),([]:List t3.den),(([]:List Int),([]:List Int),0,0,()),()),r1.1,())
 else
  cu.L1 key t.1 t.2.1 t.2.2.1 t.2.2.2.1.1 t.2.2.2.1.2.1 t.2.2.2.1.2.2.1 t.2.2.2.2.1 t.2.2.2.2.2.1.1 t.2.2.2.2.2.1.2.1 t.2.2.2.2.2.1.2.2.1 t.2.2.2.2.2.1.2.2.2.1 b.1.1 b.1.2.1 b.1.2.2.1 b.2.1 b.2.2.1 b.2.2.2.1 ([]:List Int) ([]:List t1.den) ([]:List Int) ([]:List Bool) ([]:List t3.den):=by kernel_rfl
def ax.sg:Sig:=⟨[.val (.slice t9),.val (.int .i64),.val t0],[(t5,true)]⟩
def ax.E:Env:=⟨tl,fun i=>look i [(59,dt.Fn),(116,ch.Fn),(117,cu.Fn)],[],eqs,globs,prims⟩
def ax.c:=cxOf ax.E ax.sg Tryz.f79
def ax.b:=body Tryz.f79
def ax.Fn:Fun:=fnOf ax.E ax.sg Tryz.f79
def ax.F (l:List t9.den) (most:Int) (limit:t0.den):Option (t5.den × Unit):=ax.Fn.F (l,most,limit,())
def ax.L1 (l:List t9.den) (i b0:Int) (b02 b03:Int) (b2 b22:Int) (b23 b24:Int) (l3:List Int) (l4:List t1.den) (l5:List Int) (l6:List Bool) (l7:List t3.den) (l10:List Int) (l11:List t1.den) (l12:List Int) (l13:List Bool) (l14:List t3.den) (l15 l16:List Int):Option (t5.den × Unit):=res ax.c (atLoop ax.b [1,1,0,1,0]) ⟨[(0,(.v (.slice t9) l)),(5,(.ptr 0 [])),(6,(.ptr 1 [])),(7,(.ptr 2 [])),(9,(.v (.int .i64) i))],[(0,some (.box (.agg [(.v (.int .i64) b0),(.v (.int .i64) b02),(.v (.int .i64) b03)]))),(1,some (.box (.agg [(.v (.int .i64) 0),(.sl 3),(.sl 4),(.agg [(.sl 5),(.sl 6),(.v (.int .i64) 0)]),(.sl 7),(.agg [(.sl 8),(.sl 9),(.v (.int .i64) 0),(.v (.int .i64) 0)])]))),(2,some (.box (.agg [(.v (.int .i64) b2),(.sl 10),(.sl 11),(.agg [(.sl 12),(.sl 13),(.v (.int .i64) b22)]),(.sl 14),(.agg [(.sl 15),(.sl 16),(.v (.int .i64) b23),(.v (.int .i64) b24)])]))),(3,some (.row (.int .u32) l3 false)),(4,some (.row t1 l4 false)),(5,some (.row (.int .i64) l5 false)),(6,some (.row .bool l6 false)),(7,some (.row t3 l7 false)),(8,some (.row (.int .i64) l5 false)),(9,some (.row (.int .i64) l5 false)),(10,some (.row (.int .u32) l10 false)),(11,some (.row t1 l11 false)),(12,some (.row (.int .i64) l12 false)),(13,some (.row .bool l13 false)),(14,some (.row t3 l14 false)),(15,some (.row (.int .i64) l15 false)),(16,some (.row (.int .i64) l16 false))],17,[]⟩
def ax.L2 (l:List t9.den) (i b0:Int) (b02 b03:Int) (b2 b22:Int) (b23 b24:Int) (l3:List Int) (l4:List t1.den) (l5:List Int) (l6:List Bool) (l7:List t3.den) (l10:List Int) (l11:List t1.den) (l12:List Int) (l13:List Bool) (l14:List t3.den) (l15 l16:List Int):Option (t5.den × Unit):=res ax.c (atJoin ax.b [1,1,0,1,0,0,0,1]) ⟨[(0,(.v (.slice t9) l)),(5,(.ptr 0 [])),(6,(.ptr 1 [])),(7,(.ptr 2 [])),(9,(.v (.int .i64) i))],[(0,some (.box (.agg [(.v (.int .i64) b0),(.v (.int .i64) b02),(.v (.int .i64) b03)]))),(1,some (.box (.agg [(.v (.int .i64) 0),(.sl 3),(.sl 4),(.agg [(.sl 5),(.sl 6),(.v (.int .i64) 0)]),(.sl 7),(.agg [(.sl 8),(.sl 9),(.v (.int .i64) 0),(.v (.int .i64) 0)])]))),(2,some (.box (.agg [(.v (.int .i64) b2),(.sl 10),(.sl 11),(.agg [(.sl 12),(.sl 13),(.v (.int .i64) b22)]),(.sl 14),(.agg [(.sl 15),(.sl 16),(.v (.int .i64) b23),(.v (.int .i64) b24)])]))),(3,some (.row (.int .u32) l3 false)),(4,some (.row t1 l4 false)),(5,some (.row (.int .i64) l5 false)),(6,some (.row .bool l6 false)),(7,some (.row t3 l7 false)),(8,some (.row (.int .i64) l5 false)),(9,some (.row (.int .i64) l5 false)),(10,some (.row (.int .u32) l10 false)),(11,some (.row t1 l11 false)),(12,some (.row (.int .i64) l12 false)),(13,some (.row .bool l13 false)),(14,some (.row t3 l14 false)),(15,some (.row (.int .i64) l15 false)),(16,some (.row (.int .i64) l16 false))],17,[]⟩
def ax.L3 (l:List t9.den) (i b1:Int) (b12 b13 b14:Int) (l2:List Int) (l3:List t1.den) (l4:List Int) (l5:List Bool) (l6:List t3.den) (l9:List Int) (l10:List t1.den) (l11:List Int) (l12:List Bool) (l13:List t3.den) (l14 l15:List Int):Option (t5.den × Unit):=res ax.c (atLoop ax.b [1,1,1,0,1,0]) ⟨[(0,(.v (.slice t9) l)),(6,(.ptr 0 [])),(7,(.ptr 1 [])),(10,(.v (.int .i64) i))],[(0,some (.box (.agg [(.v (.int .i64) 0),(.sl 2),(.sl 3),(.agg [(.sl 4),(.sl 5),(.v (.int .i64) 0)]),(.sl 6),(.agg [(.sl 7),(.sl 8),(.v (.int .i64) 0),(.v (.int .i64) 0)])]))),(1,some (.box (.agg [(.v (.int .i64) b1),(.sl 9),(.sl 10),(.agg [(.sl 11),(.sl 12),(.v (.int .i64) b12)]),(.sl 13),(.agg [(.sl 14),(.sl 15),(.v (.int .i64) b13),(.v (.int .i64) b14)])]))),(2,some (.row (.int .u32) l2 false)),(3,some (.row t1 l3 false)),(4,some (.row (.int .i64) l4 false)),(5,some (.row .bool l5 false)),(6,some (.row t3 l6 false)),(7,some (.row (.int .i64) l4 false)),(8,some (.row (.int .i64) l4 false)),(9,some (.row (.int .u32) l9 false)),(10,some (.row t1 l10 false)),(11,some (.row (.int .i64) l11 false)),(12,some (.row .bool l12 false)),(13,some (.row t3 l13 false)),(14,some (.row (.int .i64) l14 false)),(15,some (.row (.int .i64) l15 false))],16,[]⟩
def ax.L4 (l:List t9.den) (i b1:Int) (b12 b13 b14:Int) (l2:List Int) (l3:List t1.den) (l4:List Int) (l5:List Bool) (l6:List t3.den) (l9:List Int) (l10:List t1.den) (l11:List Int) (l12:List Bool) (l13:List t3.den) (l14 l15:List Int):Option (t5.den × Unit):=res ax.c (atJoin ax.b [1,1,1,0,1,0,0,0,1]) ⟨[(0,(.v (.slice t9) l)),(6,(.ptr 0 [])),(7,(.ptr 1 [])),(10,(.v (.int .i64) i))],[(0,some (.box (.agg [(.v (.int .i64) 0),(.sl 2),(.sl 3),(.agg [(.sl 4),(.sl 5),(.v (.int .i64) 0)]),(.sl 6),(.agg [(.sl 7),(.sl 8),(.v (.int .i64) 0),(.v (.int .i64) 0)])]))),(1,some (.box (.agg [(.v (.int .i64) b1),(.sl 9),(.sl 10),(.agg [(.sl 11),(.sl 12),(.v (.int .i64) b12)]),(.sl 13),(.agg [(.sl 14),(.sl 15),(.v (.int .i64) b13),(.v (.int .i64) b14)])]))),(2,some (.row (.int .u32) l2 false)),(3,some (.row t1 l3 false)),(4,some (.row (.int .i64) l4 false)),(5,some (.row .bool l5 false)),(6,some (.row t3 l6 false)),(7,some (.row (.int .i64) l4 false)),(8,some (.row (.int .i64) l4 false)),(9,some (.row (.int .u32) l9 false)),(10,some (.row t1 l10 false)),(11,some (.row (.int .i64) l11 false)),(12,some (.row .bool l12 false)),(13,some (.row t3 l13 false)),(14,some (.row (.int .i64) l14 false)),(15,some (.row (.int .i64) l15 false))],16,[]⟩
theorem ax.spec:FnSpec Tryz.prog globs 79 ax.Fn:=spec_of (E:=ax.E) (envOk_at tabOk eqOk primsOk (.cons dt.spec<|.cons ch.spec<|.cons cu.spec<|.nil)) mixOk Tryz.func79 (by kernel_rfl)
theorem ax.L1_eq (l i b0 b02 b03 b2 b22 b23 b24 l3 l4 l5 l6 l7 l10 l11 l12 l13 l14 l15 l16):ax.L1 l i b0 b02 b03 b2 b22 b23 b24 l3 l4 l5 l6 l7 l10 l11 l12 l13 l14 l15 l16=
 bif (decide ((i:Int)≥0)) then
  ax.L2 l i b0 b02 b03 b2 b22 b23 b24 l3 l4 l5 l6 l7 l10 l11 l12 l13 l14 l15 l16
 else
  ax.L3 l 0 b2 b22 b23 b24 l3 l4 l5 l6 l7 l10 l11 l12 l13 l14 l15 l16:=res_eq (by kernel_rfl)
theorem ax.L2_eq (l i b0 b02 b03 b2 b22 b23 b24 l3 l4 l5 l6 l7 l10 l11 l12 l13 l14 l15 l16):ax.L2 l i b0 b02 b03 b2 b22 b23 b24 l3 l4 l5 l6 l7 l10 l11 l12 l13 l14 l15 l16=
 bif (decide ((0:Int)≤i∧(i:Int)<((List.length l:Int)))) then
  (ch.F (b2,l10,l11,(l12,l13,b22,()),l14,(l15,l16,b23,b24,()),()) ((List.getD l (Int.toNat i) d9_).1) (b0,b02,b03,()) 0).bind fun r0=>
  ax.L1 l (IntKind.wrap .i64 (i - 1)) b0 b02 b03 r0.1.1 r0.1.2.2.2.1.2.2.1 r0.1.2.2.2.2.2.1.2.2.1 r0.1.2.2.2.2.2.1.2.2.2.1 l3 l4 l5 l6 l7 r0.1.2.1 r0.1.2.2.1 r0.1.2.2.2.1.1 r0.1.2.2.2.1.2.1 r0.1.2.2.2.2.1 r0.1.2.2.2.2.2.1.1 r0.1.2.2.2.2.2.1.2.1
 else none:=res_eq (by kernel_rfl)
theorem ax.L3_eq (l i b1 b12 b13 b14 l2 l3 l4 l5 l6 l9 l10 l11 l12 l13 l14 l15):ax.L3 l i b1 b12 b13 b14 l2 l3 l4 l5 l6 l9 l10 l11 l12 l13 l14 l15=
 bif (decide ((i:Int)<((List.length l:Int)))) then
  ax.L4 l i b1 b12 b13 b14 l2 l3 l4 l5 l6 l9 l10 l11 l12 l13 l14 l15
 else
  some ((b1,l9,l10,(l11,l12,b12,()),l13,(l14,l15,b13,b14,()),()),()):=res_eq (by kernel_rfl)
theorem ax.L4_eq (l i b1 b12 b13 b14 l2 l3 l4 l5 l6 l9 l10 l11 l12 l13 l14 l15):ax.L4 l i b1 b12 b13 b14 l2 l3 l4 l5 l6 l9 l10 l11 l12 l13 l14 l15=
 bif (decide ((0:Int)≤i∧(i:Int)<((List.length l:Int)))) then
  bif (decide ((0:Int)≤i∧(i:Int)<((List.length l:Int)))) then
   (cu.F (b1,l9,l10,(l11,l12,b12,()),l13,(l14,l15,b13,b14,()),()) ((List.getD l (Int.toNat i) d9_).1) (((List.getD l (Int.toNat i) d9_).2).1)).bind fun r0=>
   ax.L3 l (IntKind.wrap .i64 (i+1)) r0.1.1 r0.1.2.2.2.1.2.2.1 r0.1.2.2.2.2.2.1.2.2.1 r0.1.2.2.2.2.2.1.2.2.2.1 l2 l3 l4 l5 l6 r0.1.2.1 r0.1.2.2.1 r0.1.2.2.2.1.1 r0.1.2.2.2.1.2.1 r0.1.2.2.2.2.1 r0.1.2.2.2.2.2.1.1 r0.1.2.2.2.2.2.1.2.1
  else none
 else none:=res_eq (by kernel_rfl)
theorem ax.F_eq (l most limit):ax.F l most limit=
 (dt.F most).bind fun r0=>
 ax.L1 l (IntKind.wrap .i64 (((List.length l:Int)) - 1)) limit.1 limit.2.1 limit.2.2.1 r0.1.1 r0.1.2.2.2.1.2.2.1 r0.1.2.2.2.2.2.1.2.2.1 r0.1.2.2.2.2.2.1.2.2.2.1 ([]:List Int) ([]:List t1.den) ([]:List Int) ([]:List Bool) ([]:List t3.den) r0.1.2.1 r0.1.2.2.1 r0.1.2.2.2.1.1 r0.1.2.2.2.1.2.1 r0.1.2.2.2.2.1 r0.1.2.2.2.2.2.1.1 r0.1.2.2.2.2.2.1.2.1:=by kernel_rfl
def fb.sg:Sig:=⟨[.val t10],[(t7,true)]⟩
def fb.E:Env:=⟨tl,fun i=>look i [(79,ax.Fn)],[],eqs,globs,prims⟩
def fb.Fn:Fun:=fnOf fb.E fb.sg Tryz.f53
def fb.F (a:t10.den):Option (t7.den × Unit):=fb.Fn.F (a,())
theorem fb.spec:FnSpec Tryz.prog globs 53 fb.Fn:=spec_of (E:=fb.E) (envOk_at tabOk eqOk primsOk (.cons ax.spec<|.nil)) mixOk Tryz.func53 (by kernel_rfl)
theorem fb.F_eq (a):fb.F a=
 bif (decide ((0:Int)≤0∧(0:Int)<2)) then
  bif (decide ((0:Int)≤1∧(1:Int)<3)) then
   (ax.F a.2.2.2.2.1 (List.getD a.2.2.1 (Int.toNat 0) 0) (List.getD a.2.1 (Int.toNat 1) (0,0,0,()))).bind fun r0=>
   bif (decide ((0:Int)≤1∧(1:Int)<2)) then
    bif (decide ((0:Int)≤2∧(2:Int)<3)) then
     (ax.F a.2.2.2.2.2.1 (List.getD a.2.2.1 (Int.toNat 1) 0) (List.getD a.2.1 (Int.toNat 2) (0,0,0,()))).bind fun r1=>
     bif (lim ((List.length ([]:List Int))+(List.length a.2.2.2.2.2.2.1)) (.int .u32)) then
      some ((a.1,a.2.1,a.2.2.2.1,r0.1,r1.1,(([]:List Int)++a.2.2.2.2.2.2.1),a.2.2.2.2.2.2.2.1,()),())
     else none
    else none
   else none
  else none
 else none:=by kernel_rfl
def cf.sg:Sig:=⟨[.val t11],[(t8,true),((.int .i64),true)]⟩
def cf.E:Env:=⟨tl,fun i=>look i [(27,ah.Fn),(53,fb.Fn)],[],eqs,globs,prims⟩
def cf.c:=cxOf cf.E cf.sg Tryz.f28
def cf.b:=body Tryz.f28
def cf.Fn:Fun:=fnOf cf.E cf.sg Tryz.f28
def cf.F (m:t11.den):Option (t8.den × Int × Unit):=cf.Fn.F (m,())
def cf.L1 (b0:Int) (b02 b03:List Int) (b04:List t10.den) (b1 b12:List Int) (l2:List t7.den):Option (t8.den × Int × Unit):=res cf.c (atJoin cf.b [1,0,1]) ⟨[(1,(.ptr 0 [])),(2,(.ptr 1 []))],[(0,some (.box (.agg [(.v (.int .u64) b0),(.v (.arr 32 (.int .u8)) b02),(.v (.arr 16 (.int .u32)) b03),(.v (.slice t10) b04)]))),(1,some (.box (.agg [(.v (.int .u64) 0),(.v (.arr 32 (.int .u8)) b1),(.v (.arr 16 (.int .u32)) b12),(.sl 2)]))),(2,some (.row t7 l2 false))],3,[]⟩
def cf.L2 (i b0:Int) (b02 b03:List Int) (b04:List t10.den) (b1 b12:List Int) (l3 l4:List t7.den):Option (t8.den × Int × Unit):=res cf.c (atLoop cf.b [1,1,1,0,1,0]) ⟨[(1,(.ptr 0 [])),(2,(.ptr 1 [])),(4,(.ptr 2 [])),(5,(.v (.int .i64) i))],[(0,some (.box (.agg [(.v (.int .u64) b0),(.v (.arr 32 (.int .u8)) b02),(.v (.arr 16 (.int .u32)) b03),(.v (.slice t10) b04)]))),(1,some (.box (.agg [(.v (.int .u64) 0),(.v (.arr 32 (.int .u8)) b1),(.v (.arr 16 (.int .u32)) b12),(.sl 3)]))),(2,some (.box (.agg [(.v (.int .u64) b0),(.v (.arr 32 (.int .u8)) b02),(.v (.arr 16 (.int .u32)) b03),(.sl 4)]))),(3,some (.row t7 l3 false)),(4,some (.row t7 l4 false))],5,[]⟩
def cf.L3 (i b0:Int) (b02 b03:List Int) (b04:List t10.den) (b1 b12:List Int) (l3 l4:List t7.den):Option (t8.den × Int × Unit):=res cf.c (atJoin cf.b [1,1,1,0,1,0,0,0,1]) ⟨[(1,(.ptr 0 [])),(2,(.ptr 1 [])),(4,(.ptr 2 [])),(5,(.v (.int .i64) i))],[(0,some (.box (.agg [(.v (.int .u64) b0),(.v (.arr 32 (.int .u8)) b02),(.v (.arr 16 (.int .u32)) b03),(.v (.slice t10) b04)]))),(1,some (.box (.agg [(.v (.int .u64) 0),(.v (.arr 32 (.int .u8)) b1),(.v (.arr 16 (.int .u32)) b12),(.sl 3)]))),(2,some (.box (.agg [(.v (.int .u64) b0),(.v (.arr 32 (.int .u8)) b02),(.v (.arr 16 (.int .u32)) b03),(.sl 4)]))),(3,some (.row t7 l3 false)),(4,some (.row t7 l4 false))],5,[]⟩
theorem cf.spec:FnSpec Tryz.prog globs 28 cf.Fn:=spec_of (E:=cf.E) (envOk_at tabOk eqOk primsOk (.cons ah.spec<|.cons fb.spec<|.nil)) mixOk Tryz.func28 (by kernel_rfl)
theorem cf.L1_eq (b0 b02 b03 b04 b1 b12 l2):cf.L1 b0 b02 b03 b04 b1 b12 l2=
 cf.L2 0 b0 b02 b03 b04 b1 b12 l2 ([]:List t7.den):=res_eq (by kernel_rfl)
theorem cf.L2_eq (i b0 b02 b03 b04 b1 b12 l3 l4):cf.L2 i b0 b02 b03 b04 b1 b12 l3 l4=
 bif (decide ((i:Int)<((List.length b04:Int)))) then
  cf.L3 i b0 b02 b03 b04 b1 b12 l3 l4
 else
  some ((b0,b02,b03,l4,()),0,()):=res_eq (by kernel_rfl)
theorem cf.L3_eq (i b0 b02 b03 b04 b1 b12 l3 l4):cf.L3 i b0 b02 b03 b04 b1 b12 l3 l4=
 bif (decide ((0:Int)≤i∧(i:Int)<((List.length b04:Int)))) then
  (fb.F (List.getD b04 (Int.toNat i) d10_)).bind fun r0=>
  bif (lim ((List.length l4)+(List.length ([r0.1]:List t7.den))) t7) then
   cf.L2 (IntKind.wrap .i64 (i+1)) b0 b02 b03 b04 b1 b12 l3 (l4++([r0.1]:List t7.den))
  else none
 else none:=res_eq (by kernel_rfl)
theorem cf.F_eq (m):cf.F m=
 (ah.F m).bind fun r0=>
 bif (r0.1 !=0) then
  (ah.F m).bind fun r1=>
  some ((0,(List.replicate 32 (0:Int)),(List.replicate 16 (0:Int)),([]:List t7.den),()),r1.1,())
 else
  cf.L1 m.1 m.2.1 m.2.2.1 m.2.2.2.1 (List.replicate 32 (0:Int)) (List.replicate 16 (0:Int)) ([]:List t7.den):=by kernel_rfl
def aa.sg:Sig:=⟨[.val (.slice (.int .u8))],[(t8,true),((.int .i64),true)]⟩
def aa.E:Env:=⟨tl,fun i=>look i [(25,a9.Fn),(26,af.Fn),(27,ah.Fn),(28,cf.Fn)],[],eqs,globs,prims⟩
def aa.c:=cxOf aa.E aa.sg Tryz.f8
def aa.b:=body Tryz.f8
def aa.Fn:Fun:=fnOf aa.E aa.sg Tryz.f8
def aa.F (b:List Int):Option (t8.den × Int × Unit):=aa.Fn.F (b,())
def aa.L1 (b b0 b02:List Int) (l1:List t7.den):Option (t8.den × Int × Unit):=res aa.c (atJoin aa.b [1,0,1]) ⟨[(0,(.v (.slice (.int .u8)) b)),(2,(.ptr 0 []))],[(0,some (.box (.agg [(.v (.int .u64) 0),(.v (.arr 32 (.int .u8)) b0),(.v (.arr 16 (.int .u32)) b02),(.sl 1)]))),(1,some (.row t7 l1 false))],2,[]⟩
def aa.L2 (i:Int) (b0 b02 b1:List Int) (b12:Bool) (b2:Int) (b22 b23:List Int) (l3:List t7.den) (l4:List t10.den):Option (t8.den × Int × Unit):=res aa.c (atLoop aa.b [1,1,1,1,0,1,0]) ⟨[(2,(.ptr 0 [])),(4,(.ptr 1 [])),(5,(.ptr 2 [])),(6,(.v (.int .i64) i))],[(0,some (.box (.agg [(.v (.int .u64) 0),(.v (.arr 32 (.int .u8)) b0),(.v (.arr 16 (.int .u32)) b02),(.sl 3)]))),(1,some (.box (.agg [(.v (.slice (.int .u8)) b1),(.v .bool b12)]))),(2,some (.box (.agg [(.v (.int .u64) b2),(.v (.arr 32 (.int .u8)) b22),(.v (.arr 16 (.int .u32)) b23),(.sl 4)]))),(3,some (.row t7 l3 false)),(4,some (.row t10 l4 false))],5,[]⟩
def aa.L3 (i:Int) (b0 b02 b1:List Int) (b12:Bool) (b2:Int) (b22 b23:List Int) (l3:List t7.den) (l4:List t10.den):Option (t8.den × Int × Unit):=res aa.c (atJoin aa.b [1,1,1,1,0,1,0,0,0,1]) ⟨[(2,(.ptr 0 [])),(4,(.ptr 1 [])),(5,(.ptr 2 [])),(6,(.v (.int .i64) i))],[(0,some (.box (.agg [(.v (.int .u64) 0),(.v (.arr 32 (.int .u8)) b0),(.v (.arr 16 (.int .u32)) b02),(.sl 3)]))),(1,some (.box (.agg [(.v (.slice (.int .u8)) b1),(.v .bool b12)]))),(2,some (.box (.agg [(.v (.int .u64) b2),(.v (.arr 32 (.int .u8)) b22),(.v (.arr 16 (.int .u32)) b23),(.sl 4)]))),(3,some (.row t7 l3 false)),(4,some (.row t10 l4 false))],5,[]⟩
def aa.L4 (i:Int) (b0 b02 b1:List Int) (b12:Bool) (b2:Int) (b22 b23:List Int) (l3:List t7.den) (l4:List t10.den):Option (t8.den × Int × Unit):=res aa.c (atLoop aa.b [1,1,1,1,1,0,1,0]) ⟨[(2,(.ptr 0 [])),(4,(.ptr 1 [])),(5,(.ptr 2 [])),(7,(.v (.int .i64) i))],[(0,some (.box (.agg [(.v (.int .u64) 0),(.v (.arr 32 (.int .u8)) b0),(.v (.arr 16 (.int .u32)) b02),(.sl 3)]))),(1,some (.box (.agg [(.v (.slice (.int .u8)) b1),(.v .bool b12)]))),(2,some (.box (.agg [(.v (.int .u64) b2),(.v (.arr 32 (.int .u8)) b22),(.v (.arr 16 (.int .u32)) b23),(.sl 4)]))),(3,some (.row t7 l3 false)),(4,some (.row t10 l4 false))],5,[]⟩
def aa.L5 (i:Int) (b0 b02 b1:List Int) (b12:Bool) (b2:Int) (b22 b23:List Int) (l3:List t7.den) (l4:List t10.den):Option (t8.den × Int × Unit):=res aa.c (atJoin aa.b [1,1,1,1,1,0,1,0,0,0,1]) ⟨[(2,(.ptr 0 [])),(4,(.ptr 1 [])),(5,(.ptr 2 [])),(7,(.v (.int .i64) i))],[(0,some (.box (.agg [(.v (.int .u64) 0),(.v (.arr 32 (.int .u8)) b0),(.v (.arr 16 (.int .u32)) b02),(.sl 3)]))),(1,some (.box (.agg [(.v (.slice (.int .u8)) b1),(.v .bool b12)]))),(2,some (.box (.agg [(.v (.int .u64) b2),(.v (.arr 32 (.int .u8)) b22),(.v (.arr 16 (.int .u32)) b23),(.sl 4)]))),(3,some (.row t7 l3 false)),(4,some (.row t10 l4 false))],5,[]⟩
def aa.L6 (n i:Int) (b0 b02 b1:List Int) (b12:Bool) (b2:Int) (b22 b23:List Int) (l3:List t7.den) (l4:List t10.den):Option (t8.den × Int × Unit):=res aa.c (atLoop aa.b [1,1,1,1,1,1,1,0,1,0]) ⟨[(2,(.ptr 0 [])),(4,(.ptr 1 [])),(5,(.ptr 2 [])),(8,(.v (.int .i64) n)),(9,(.v (.int .i64) i))],[(0,some (.box (.agg [(.v (.int .u64) 0),(.v (.arr 32 (.int .u8)) b0),(.v (.arr 16 (.int .u32)) b02),(.sl 3)]))),(1,some (.box (.agg [(.v (.slice (.int .u8)) b1),(.v .bool b12)]))),(2,some (.box (.agg [(.v (.int .u64) b2),(.v (.arr 32 (.int .u8)) b22),(.v (.arr 16 (.int .u32)) b23),(.sl 4)]))),(3,some (.row t7 l3 false)),(4,some (.row t10 l4 false))],5,[]⟩
def aa.L7 (n i:Int) (b0 b02 b1:List Int) (b12:Bool) (b2:Int) (b22 b23:List Int) (l3:List t7.den) (l4:List t10.den):Option (t8.den × Int × Unit):=res aa.c (atJoin aa.b [1,1,1,1,1,1,1,0,1,0,0,0,1]) ⟨[(2,(.ptr 0 [])),(4,(.ptr 1 [])),(5,(.ptr 2 [])),(8,(.v (.int .i64) n)),(9,(.v (.int .i64) i))],[(0,some (.box (.agg [(.v (.int .u64) 0),(.v (.arr 32 (.int .u8)) b0),(.v (.arr 16 (.int .u32)) b02),(.sl 3)]))),(1,some (.box (.agg [(.v (.slice (.int .u8)) b1),(.v .bool b12)]))),(2,some (.box (.agg [(.v (.int .u64) b2),(.v (.arr 32 (.int .u8)) b22),(.v (.arr 16 (.int .u32)) b23),(.sl 4)]))),(3,some (.row t7 l3 false)),(4,some (.row t10 l4 false))],5,[]⟩
def aa.L8 (b0 b02:List Int) (b1:Int) (b12 b13:List Int) (l2:List t7.den) (l3:List t10.den):Option (t8.den × Int × Unit):=res aa.c (atJoin aa.b [1,1,1,1,1,1,1,1,0,1]) ⟨[(2,(.ptr 0 [])),(5,(.ptr 1 []))],[(0,some (.box (.agg [(.v (.int .u64) 0),(.v (.arr 32 (.int .u8)) b0),(.v (.arr 16 (.int .u32)) b02),(.sl 2)]))),(1,some (.box (.agg [(.v (.int .u64) b1),(.v (.arr 32 (.int .u8)) b12),(.v (.arr 16 (.int .u32)) b13),(.sl 3)]))),(2,some (.row t7 l2 false)),(3,some (.row t10 l3 false))],4,[]⟩
theorem aa.spec:FnSpec Tryz.prog globs 8 aa.Fn:=spec_of (E:=aa.E) (envOk_at tabOk eqOk primsOk (.cons a9.spec<|.cons af.spec<|.cons ah.spec<|.cons cf.spec<|.nil)) mixOk Tryz.func8 (by kernel_rfl)
theorem aa.L1_eq (b b0 b02 l1):aa.L1 b b0 b02 l1=
 (a9.F (b,false,()) 8).bind fun r0=>
 aa.L2 0 b0 b02 r0.1.1 r0.1.2.1 r0.2.1 (List.replicate 32 (0:Int)) (List.replicate 16 (0:Int)) l1 ([]:List t10.den):=res_eq (by kernel_rfl)
theorem aa.L2_eq (i b0 b02 b1 b12 b2 b22 b23 l3 l4):aa.L2 i b0 b02 b1 b12 b2 b22 b23 l3 l4=
 bif (decide ((i:Int)<32)) then
  aa.L3 i b0 b02 b1 b12 b2 b22 b23 l3 l4
 else
  aa.L4 0 b0 b02 b1 b12 b2 b22 b23 l3 l4:=res_eq (by kernel_rfl)
theorem aa.L3_eq (i b0 b02 b1 b12 b2 b22 b23 l3 l4):aa.L3 i b0 b02 b1 b12 b2 b22 b23 l3 l4=
 (a9.F (b1,b12,()) 1).bind fun r0=>
 bif (decide ((0:Int)≤i∧(i:Int)<32)) then
  aa.L2 (IntKind.wrap .i64 (i+1)) b0 b02 r0.1.1 r0.1.2.1 b2 (List.set b22 (Int.toNat i) (IntKind.wrap .u8 r0.2.1)) b23 l3 l4
 else none:=res_eq (by kernel_rfl)
theorem aa.L4_eq (i b0 b02 b1 b12 b2 b22 b23 l3 l4):aa.L4 i b0 b02 b1 b12 b2 b22 b23 l3 l4=
 bif (decide ((i:Int)<16)) then
  aa.L5 i b0 b02 b1 b12 b2 b22 b23 l3 l4
 else
  (a9.F (b1,b12,()) 1).bind fun r0=>
  aa.L6 (IntKind.wrap .i64 r0.2.1) 0 b0 b02 r0.1.1 r0.1.2.1 b2 b22 b23 l3 l4:=res_eq (by kernel_rfl)
theorem aa.L5_eq (i b0 b02 b1 b12 b2 b22 b23 l3 l4):aa.L5 i b0 b02 b1 b12 b2 b22 b23 l3 l4=
 (a9.F (b1,b12,()) 4).bind fun r0=>
 bif (decide ((0:Int)≤i∧(i:Int)<16)) then
  aa.L4 (IntKind.wrap .i64 (i+1)) b0 b02 r0.1.1 r0.1.2.1 b2 b22 (List.set b23 (Int.toNat i) (IntKind.wrap .u32 r0.2.1)) l3 l4
 else none:=res_eq (by kernel_rfl)
theorem aa.L6_eq (n i b0 b02 b1 b12 b2 b22 b23 l3 l4):aa.L6 n i b0 b02 b1 b12 b2 b22 b23 l3 l4=
 bif (decide ((i:Int)<n)) then
  bif (!b12) then
   aa.L7 n i b0 b02 b1 b12 b2 b22 b23 l3 l4
  else
   bif b12 then
    some ((0,(List.replicate 32 (0:Int)),(List.replicate 16 (0:Int)),([]:List t7.den),()),12,())
   else
    bif (decide ((((List.length b1:Int)):Int)>0)) then
     some ((0,(List.replicate 32 (0:Int)),(List.replicate 16 (0:Int)),([]:List t7.den),()),12,())
    else
     (ah.F (b2,b22,b23,l4,())).bind fun r0=>
     bif (r0.1 !=0) then
      some ((0,(List.replicate 32 (0:Int)),(List.replicate 16 (0:Int)),([]:List t7.den),()),12,())
     else
      aa.L8 b0 b02 b2 b22 b23 l3 l4
 else
  bif b12 then
   some ((0,(List.replicate 32 (0:Int)),(List.replicate 16 (0:Int)),([]:List t7.den),()),12,())
  else
   bif (decide ((((List.length b1:Int)):Int)>0)) then
    some ((0,(List.replicate 32 (0:Int)),(List.replicate 16 (0:Int)),([]:List t7.den),()),12,())
   else
    (ah.F (b2,b22,b23,l4,())).bind fun r0=>
    bif (r0.1 !=0) then
     some ((0,(List.replicate 32 (0:Int)),(List.replicate 16 (0:Int)),([]:List t7.den),()),12,())
    else
     aa.L8 b0 b02 b2 b22 b23 l3 l4:=res_eq (by kernel_rfl)
theorem aa.L7_eq (n i b0 b02 b1 b12 b2 b22 b23 l3 l4):aa.L7 n i b0 b02 b1 b12 b2 b22 b23 l3 l4=
 (af.F (b1,b12,())).bind fun r0=>
 bif (lim ((List.length l4)+(List.length ([r0.2.1]:List t10.den))) t10) then
  aa.L6 n (IntKind.wrap .i64 (i+1)) b0 b02 r0.1.1 r0.1.2.1 b2 b22 b23 l3 (l4++([r0.2.1]:List t10.den))
 else none:=res_eq (by kernel_rfl)
theorem aa.L8_eq (b0 b02 b1 b12 b13 l2 l3):aa.L8 b0 b02 b1 b12 b13 l2 l3=
 (cf.F (b1,b12,b13,l3,())).bind fun r0=>
 some (r0.1,r0.2.1,()):=res_eq (by kernel_rfl)
theorem aa.F_eq (b):aa.F b=
 bif (decide ((((List.length b:Int)):Int)>5000)) then
  some ((0,(List.replicate 32 (0:Int)),(List.replicate 16 (0:Int)),([]:List t7.den),()),4,())
 else
  aa.L1 b (List.replicate 32 (0:Int)) (List.replicate 16 (0:Int)) ([]:List t7.den):=by kernel_rfl
def fy.sg:Sig:=⟨[.val (.slice (.int .u8)),.val (.slice (.int .u8))],[(.bool,true)]⟩
def fy.E:Env:=⟨tl,fun i=>look i [],[],eqs,globs,prims⟩
def fy.Fn:Fun:=fnOf fy.E fy.sg Tryz.f29
def fy.F (a b:List Int):Option (Bool × Unit):=fy.Fn.F (a,b,())
theorem fy.spec:FnSpec Tryz.prog globs 29 fy.Fn:=spec_of (E:=fy.E) (envOk_at tabOk eqOk primsOk (.nil)) mixOk Tryz.func29 (by kernel_rfl)
theorem fy.F_eq (a b):fy.F a b=
 some ((decide ((List.map (fun n=>UInt8.ofNat (Int.toNat n)) a)=(List.map (fun n=>UInt8.ofNat (Int.toNat n)) b))),()):=by kernel_rfl
def ee.sg:Sig:=⟨[.val (.slice (.int .u8)),.val (.slice (.int .u8))],[(.bool,true),((.int .i64),true)]⟩
def ee.E:Env:=⟨tl,fun i=>look i [(7,aq.Fn),(29,fy.Fn)],[],eqs,globs,prims⟩
def ee.c:=cxOf ee.E ee.sg Tryz.f9
def ee.b:=body Tryz.f9
def ee.Fn:Fun:=fnOf ee.E ee.sg Tryz.f9
def ee.F (a b:List Int):Option (Bool × Int × Unit):=ee.Fn.F (a,b,())
def ee.L1 (a b:List Int):Option (Bool × Int × Unit):=res ee.c (atJoin ee.b [1,0,1,1]) ⟨[(0,(.v (.slice (.int .u8)) a)),(1,(.v (.slice (.int .u8)) b))],[],0,[]⟩
def ee.L2 (a b:List Int):Option (Bool × Int × Unit):=res ee.c (atJoin ee.b [1,1,0,1,1]) ⟨[(0,(.v (.slice (.int .u8)) a)),(1,(.v (.slice (.int .u8)) b))],[],0,[]⟩
theorem ee.spec:FnSpec Tryz.prog globs 9 ee.Fn:=spec_of (E:=ee.E) (envOk_at tabOk eqOk primsOk (.cons aq.spec<|.cons fy.spec<|.nil)) mixOk Tryz.func9 (by kernel_rfl)
theorem ee.L1_eq (a b):ee.L1 a b=
 (aq.F b).bind fun r0=>
 bif (r0.2.1 !=0) then
  some (false,r0.2.1,())
 else
  ee.L2 a b:=res_eq (by kernel_rfl)
theorem ee.L2_eq (a b):ee.L2 a b=
 bif (decide ((0:Int)≤8∧(8:Int)≤((List.length a:Int))∧(((List.length a:Int)):Int)≤((List.length a:Int)))) then
  bif (decide ((0:Int)≤8∧(8:Int)≤((List.length b:Int))∧(((List.length b:Int)):Int)≤((List.length b:Int)))) then
   (fy.F (List.take ((Int.toNat ((List.length a:Int))) - (Int.toNat 8)) (List.drop (Int.toNat 8) a)) (List.take ((Int.toNat ((List.length b:Int))) - (Int.toNat 8)) (List.drop (Int.toNat 8) b))).bind fun r0=>
   some (r0.1,0,())
  else none
 else none:=res_eq (by kernel_rfl)
theorem ee.F_eq (a b):ee.F a b=
 (aq.F a).bind fun r0=>
 bif (r0.2.1 !=0) then
  some (false,r0.2.1,())
 else
  ee.L1 a b:=by kernel_rfl
def cw.sg:Sig:=⟨[.val (.slice (.int .u8)),.val (.slice (.int .u8))],[(.bool,true),((.int .i64),true)]⟩
def cw.E:Env:=⟨tl,fun i=>look i [(8,aa.Fn)],[],eqs,globs,prims⟩
def cw.c:=cxOf cw.E cw.sg Tryz.f10
def cw.b:=body Tryz.f10
def cw.Fn:Fun:=fnOf cw.E cw.sg Tryz.f10
def cw.F (a b:List Int):Option (Bool × Int × Unit):=cw.Fn.F (a,b,())
def cw.L1 (a b:List Int):Option (Bool × Int × Unit):=res cw.c (atJoin cw.b [1,0,1,1]) ⟨[(0,(.v (.slice (.int .u8)) a)),(1,(.v (.slice (.int .u8)) b))],[],0,[]⟩
def cw.L2 (a b:List Int):Option (Bool × Int × Unit):=res cw.c (atJoin cw.b [1,1,0,1,1]) ⟨[(0,(.v (.slice (.int .u8)) a)),(1,(.v (.slice (.int .u8)) b))],[],0,[]⟩
theorem cw.spec:FnSpec Tryz.prog globs 10 cw.Fn:=spec_of (E:=cw.E) (envOk_at tabOk eqOk primsOk (.cons aa.spec<|.nil)) mixOk Tryz.func10 (by kernel_rfl)
theorem cw.L1_eq (a b):cw.L1 a b=
 (aa.F b).bind fun r0=>
 bif (r0.2.1 !=0) then
  some (false,r0.2.1,())
 else
  cw.L2 a b:=res_eq (by kernel_rfl)
theorem cw.L2_eq (a b):cw.L2 a b=
 bif (decide ((0:Int)≤8∧(8:Int)≤((List.length a:Int))∧(((List.length a:Int)):Int)≤((List.length a:Int)))) then
  bif (decide ((0:Int)≤8∧(8:Int)≤((List.length b:Int))∧(((List.length b:Int)):Int)≤((List.length b:Int)))) then
   some ((decide ((List.map (fun n=>UInt8.ofNat (Int.toNat n)) (List.take ((Int.toNat ((List.length a:Int))) - (Int.toNat 8)) (List.drop (Int.toNat 8) a)))=(List.map (fun n=>UInt8.ofNat (Int.toNat n)) (List.take ((Int.toNat ((List.length b:Int))) - (Int.toNat 8)) (List.drop (Int.toNat 8) b))))),0,())
  else none
 else none:=res_eq (by kernel_rfl)
theorem cw.F_eq (a b):cw.F a b=
 (aa.F a).bind fun r0=>
 bif (r0.2.1 !=0) then
  some (false,r0.2.1,())
 else
  cw.L1 a b:=by kernel_rfl
def av.sg:Sig:=⟨[.val (.slice (.int .u32)),.val (.slice (.int .u32))],[(.bool,true)]⟩
def av.E:Env:=⟨tl,fun i=>look i [],[],eqs,globs,prims⟩
def av.c:=cxOf av.E av.sg Tryz.f81
def av.b:=body Tryz.f81
def av.Fn:Fun:=fnOf av.E av.sg Tryz.f81
def av.F (a b:List Int):Option (Bool × Unit):=av.Fn.F (a,b,())
def av.L1 (a b:List Int):Option (Bool × Unit):=res av.c (atJoin av.b [1,0,1]) ⟨[(0,(.v (.slice (.int .u32)) a)),(1,(.v (.slice (.int .u32)) b))],[],0,[]⟩
def av.L2 (a b:List Int) (i:Int):Option (Bool × Unit):=res av.c (atLoop av.b [1,1,0,1,0]) ⟨[(0,(.v (.slice (.int .u32)) a)),(1,(.v (.slice (.int .u32)) b)),(5,(.v (.int .i64) i))],[],0,[]⟩
def av.L3 (a b:List Int) (i:Int):Option (Bool × Unit):=res av.c (atJoin av.b [1,1,0,1,0,0,0,1]) ⟨[(0,(.v (.slice (.int .u32)) a)),(1,(.v (.slice (.int .u32)) b)),(5,(.v (.int .i64) i))],[],0,[]⟩
def av.L4 (a b:List Int) (i:Int):Option (Bool × Unit):=res av.c (atJoin av.b [1,1,0,1,0,0,1,0,0,1]) ⟨[(0,(.v (.slice (.int .u32)) a)),(1,(.v (.slice (.int .u32)) b)),(5,(.v (.int .i64) i))],[],0,[]⟩
theorem av.spec:FnSpec Tryz.prog globs 81 av.Fn:=spec_of (E:=av.E) (envOk_at tabOk eqOk primsOk (.nil)) mixOk Tryz.func81 (by kernel_rfl)
theorem av.L1_eq (a b):av.L1 a b=
 av.L2 a b 0:=res_eq (by kernel_rfl)
theorem av.L2_eq (a b i):av.L2 a b i=
 bif (decide ((i:Int)<((List.length a:Int)))) then
  av.L3 a b i
 else
  some (true,()):=res_eq (by kernel_rfl)
theorem av.L3_eq (a b i):av.L3 a b i=
 bif (decide ((0:Int)≤i∧(i:Int)<((List.length a:Int)))) then
  bif (decide ((0:Int)≤i∧(i:Int)<((List.length b:Int)))) then
   bif ((List.getD a (Int.toNat i) 0) !=(List.getD b (Int.toNat i) 0)) then
    some (false,())
   else
    av.L4 a b i
  else none
 else none:=res_eq (by kernel_rfl)
theorem av.L4_eq (a b i):av.L4 a b i=
 av.L2 a b (IntKind.wrap .i64 (i+1)):=res_eq (by kernel_rfl)
theorem av.F_eq (a b):av.F a b=
 bif (((List.length a:Int)) !=((List.length b:Int))) then
  some (false,())
 else
  av.L1 a b:=by kernel_rfl
def ar.sg:Sig:=⟨[.val t2,.val t2],[(.bool,true)]⟩
def ar.E:Env:=⟨tl,fun i=>look i [],[],eqs,globs,prims⟩
def ar.c:=cxOf ar.E ar.sg Tryz.f118
def ar.b:=body Tryz.f118
def ar.Fn:Fun:=fnOf ar.E ar.sg Tryz.f118
def ar.F (a:t2.den) (b:t2.den):Option (Bool × Unit):=ar.Fn.F (a,b,())
def ar.L1 (b0:List Int) (b02:List Bool) (b03:Int) (b1:List Int) (b12:List Bool) (b13:Int):Option (Bool × Unit):=res ar.c (atJoin ar.b [1,0,1]) ⟨[(2,(.ptr 0 [])),(3,(.ptr 1 []))],[(0,some (.box (.agg [(.v (.slice (.int .i64)) b0),(.v (.slice .bool) b02),(.v (.int .i64) b03)]))),(1,some (.box (.agg [(.v (.slice (.int .i64)) b1),(.v (.slice .bool) b12),(.v (.int .i64) b13)])))],2,[]⟩
def ar.L2 (i:Int) (b0:List Int) (b02:List Bool) (b03:Int) (b1:List Int) (b12:List Bool) (b13:Int):Option (Bool × Unit):=res ar.c (atLoop ar.b [1,1,0,1,0]) ⟨[(2,(.ptr 0 [])),(3,(.ptr 1 [])),(5,(.v (.int .i64) i))],[(0,some (.box (.agg [(.v (.slice (.int .i64)) b0),(.v (.slice .bool) b02),(.v (.int .i64) b03)]))),(1,some (.box (.agg [(.v (.slice (.int .i64)) b1),(.v (.slice .bool) b12),(.v (.int .i64) b13)])))],2,[]⟩
def ar.L3 (i:Int) (b0:List Int) (b02:List Bool) (b03:Int) (b1:List Int) (b12:List Bool) (b13:Int):Option (Bool × Unit):=res ar.c (atJoin ar.b [1,1,0,1,0,0,0,1]) ⟨[(2,(.ptr 0 [])),(3,(.ptr 1 [])),(5,(.v (.int .i64) i))],[(0,some (.box (.agg [(.v (.slice (.int .i64)) b0),(.v (.slice .bool) b02),(.v (.int .i64) b03)]))),(1,some (.box (.agg [(.v (.slice (.int .i64)) b1),(.v (.slice .bool) b12),(.v (.int .i64) b13)])))],2,[]⟩
def ar.L4 (i:Int) (b0:List Int) (b02:List Bool) (b03:Int) (b1:List Int) (b12:List Bool) (b13:Int):Option (Bool × Unit):=res ar.c (atLoop ar.b [1,1,1,0,1,0]) ⟨[(2,(.ptr 0 [])),(3,(.ptr 1 [])),(6,(.v (.int .i64) i))],[(0,some (.box (.agg [(.v (.slice (.int .i64)) b0),(.v (.slice .bool) b02),(.v (.int .i64) b03)]))),(1,some (.box (.agg [(.v (.slice (.int .i64)) b1),(.v (.slice .bool) b12),(.v (.int .i64) b13)])))],2,[]⟩
def ar.L5 (i:Int) (b0:List Int) (b02:List Bool) (b03:Int) (b1:List Int) (b12:List Bool) (b13:Int):Option (Bool × Unit):=res ar.c (atJoin ar.b [1,1,1,0,1,0,0,0,1]) ⟨[(2,(.ptr 0 [])),(3,(.ptr 1 [])),(6,(.v (.int .i64) i))],[(0,some (.box (.agg [(.v (.slice (.int .i64)) b0),(.v (.slice .bool) b02),(.v (.int .i64) b03)]))),(1,some (.box (.agg [(.v (.slice (.int .i64)) b1),(.v (.slice .bool) b12),(.v (.int .i64) b13)])))],2,[]⟩
def ar.L6 (i:Int) (b0:List Int) (b02:List Bool) (b03:Int) (b1:List Int) (b12:List Bool) (b13:Int):Option (Bool × Unit):=res ar.c (atJoin ar.b [1,1,1,0,1,0,0,1,0,0,1]) ⟨[(2,(.ptr 0 [])),(3,(.ptr 1 [])),(6,(.v (.int .i64) i))],[(0,some (.box (.agg [(.v (.slice (.int .i64)) b0),(.v (.slice .bool) b02),(.v (.int .i64) b03)]))),(1,some (.box (.agg [(.v (.slice (.int .i64)) b1),(.v (.slice .bool) b12),(.v (.int .i64) b13)])))],2,[]⟩
def ar.L7 (i:Int) (b0:List Int) (b02:List Bool) (b03:Int) (b1:List Int) (b12:List Bool) (b13:Int):Option (Bool × Unit):=res ar.c (atJoin ar.b [1,1,0,1,0,0,1,0,0,1]) ⟨[(2,(.ptr 0 [])),(3,(.ptr 1 [])),(5,(.v (.int .i64) i))],[(0,some (.box (.agg [(.v (.slice (.int .i64)) b0),(.v (.slice .bool) b02),(.v (.int .i64) b03)]))),(1,some (.box (.agg [(.v (.slice (.int .i64)) b1),(.v (.slice .bool) b12),(.v (.int .i64) b13)])))],2,[]⟩
theorem ar.spec:FnSpec Tryz.prog globs 118 ar.Fn:=spec_of (E:=ar.E) (envOk_at tabOk eqOk primsOk (.nil)) mixOk Tryz.func118 (by kernel_rfl)
theorem ar.L1_eq (b0 b02 b03 b1 b12 b13):ar.L1 b0 b02 b03 b1 b12 b13=
 ar.L2 0 b0 b02 b03 b1 b12 b13:=res_eq (by kernel_rfl)
theorem ar.L2_eq (i b0 b02 b03 b1 b12 b13):ar.L2 i b0 b02 b03 b1 b12 b13=
 bif (decide ((i:Int)<((List.length b0:Int)))) then
  ar.L3 i b0 b02 b03 b1 b12 b13
 else
  ar.L4 0 b0 b02 b03 b1 b12 b13:=res_eq (by kernel_rfl)
theorem ar.L3_eq (i b0 b02 b03 b1 b12 b13):ar.L3 i b0 b02 b03 b1 b12 b13=
 bif (decide ((0:Int)≤i∧(i:Int)<((List.length b0:Int)))) then
  bif (decide ((0:Int)≤i∧(i:Int)<((List.length b1:Int)))) then
   bif ((List.getD b0 (Int.toNat i) 0) !=(List.getD b1 (Int.toNat i) 0)) then
    some (false,())
   else
    ar.L7 i b0 b02 b03 b1 b12 b13
  else none
 else none:=res_eq (by kernel_rfl)
theorem ar.L4_eq (i b0 b02 b03 b1 b12 b13):ar.L4 i b0 b02 b03 b1 b12 b13=
 bif (decide ((i:Int)<((List.length b02:Int)))) then
  ar.L5 i b0 b02 b03 b1 b12 b13
 else
  some (true,()):=res_eq (by kernel_rfl)
theorem ar.L5_eq (i b0 b02 b03 b1 b12 b13):ar.L5 i b0 b02 b03 b1 b12 b13=
 bif (decide ((0:Int)≤i∧(i:Int)<((List.length b02:Int)))) then
  bif (decide ((0:Int)≤i∧(i:Int)<((List.length b12:Int)))) then
   bif (!((List.getD b02 (Int.toNat i) false)==(List.getD b12 (Int.toNat i) false))) then
    some (false,())
   else
    ar.L6 i b0 b02 b03 b1 b12 b13
  else none
 else none:=res_eq (by kernel_rfl)
theorem ar.L6_eq (i b0 b02 b03 b1 b12 b13):ar.L6 i b0 b02 b03 b1 b12 b13=
 ar.L4 (IntKind.wrap .i64 (i+1)) b0 b02 b03 b1 b12 b13:=res_eq (by kernel_rfl)
theorem ar.L7_eq (i b0 b02 b03 b1 b12 b13):ar.L7 i b0 b02 b03 b1 b12 b13=
 ar.L2 (IntKind.wrap .i64 (i+1)) b0 b02 b03 b1 b12 b13:=res_eq (by kernel_rfl)
theorem ar.F_eq (a b):ar.F a b=
 bif (a.2.2.1 !=b.2.2.1) then
  some (false,())
 else
  bif (((List.length a.1:Int)) !=((List.length b.1:Int))) then
   some (false,())
  else
   bif (((List.length a.2.1:Int)) !=((List.length b.2.1:Int))) then
    some (false,())
   else
    ar.L1 a.1 a.2.1 a.2.2.1 b.1 b.2.1 b.2.2.1:=by kernel_rfl
def ca.sg:Sig:=⟨[.val (.slice t3),.val (.slice t3)],[(.bool,true)]⟩
def ca.E:Env:=⟨tl,fun i=>look i [],[],eqs,globs,prims⟩
def ca.c:=cxOf ca.E ca.sg Tryz.f119
def ca.b:=body Tryz.f119
def ca.Fn:Fun:=fnOf ca.E ca.sg Tryz.f119
def ca.F (a b:List t3.den):Option (Bool × Unit):=ca.Fn.F (a,b,())
def ca.L1 (a b:List t3.den):Option (Bool × Unit):=res ca.c (atJoin ca.b [1,0,1]) ⟨[(0,(.v (.slice t3) a)),(1,(.v (.slice t3) b))],[],0,[]⟩
def ca.L2 (a b:List t3.den) (i:Int):Option (Bool × Unit):=res ca.c (atLoop ca.b [1,1,0,1,0]) ⟨[(0,(.v (.slice t3) a)),(1,(.v (.slice t3) b)),(5,(.v (.int .i64) i))],[],0,[]⟩
def ca.L3 (a b:List t3.den) (i:Int):Option (Bool × Unit):=res ca.c (atJoin ca.b [1,1,0,1,0,0,0,1]) ⟨[(0,(.v (.slice t3) a)),(1,(.v (.slice t3) b)),(5,(.v (.int .i64) i))],[],0,[]⟩
def ca.L4 (a b:List t3.den) (i:Int):Option (Bool × Unit):=res ca.c (atJoin ca.b [1,1,0,1,0,0,1,0,0,1]) ⟨[(0,(.v (.slice t3) a)),(1,(.v (.slice t3) b)),(5,(.v (.int .i64) i))],[],0,[]⟩
theorem ca.spec:FnSpec Tryz.prog globs 119 ca.Fn:=spec_of (E:=ca.E) (envOk_at tabOk eqOk primsOk (.nil)) mixOk Tryz.func119 (by kernel_rfl)
theorem ca.L1_eq (a b):ca.L1 a b=
 ca.L2 a b 0:=res_eq (by kernel_rfl)
theorem ca.L2_eq (a b i):ca.L2 a b i=
 bif (decide ((i:Int)<((List.length a:Int)))) then
  ca.L3 a b i
 else
  some (true,()):=res_eq (by kernel_rfl)
theorem ca.L3_eq (a b i):ca.L3 a b i=
 bif (decide ((0:Int)≤i∧(i:Int)<((List.length a:Int)))) then
  bif (decide ((0:Int)≤i∧(i:Int)<((List.length b:Int)))) then
   bif (!(Ty.beq t3 (List.getD a (Int.toNat i) (0,0,false,())) (List.getD b (Int.toNat i) (0,0,false,())))) then
    some (false,())
   else
    ca.L4 a b i
  else none
 else none:=res_eq (by kernel_rfl)
theorem ca.L4_eq (a b i):ca.L4 a b i=
 ca.L2 a b (IntKind.wrap .i64 (i+1)):=res_eq (by kernel_rfl)
theorem ca.F_eq (a b):ca.F a b=
 bif (((List.length a:Int)) !=((List.length b:Int))) then
  some (false,())
 else
  ca.L1 a b:=by kernel_rfl
def bv.sg:Sig:=⟨[.val t5,.val t5],[(.bool,true)]⟩
def bv.E:Env:=⟨tl,fun i=>look i [(81,av.Fn),(118,ar.Fn),(119,ca.Fn),(120,ew.Fn)],[],eqs,globs,prims⟩
def bv.c:=cxOf bv.E bv.sg Tryz.f80
def bv.b:=body Tryz.f80
def bv.Fn:Fun:=fnOf bv.E bv.sg Tryz.f80
def bv.F (a:t5.den) (b:t5.den):Option (Bool × Unit):=bv.Fn.F (a,b,())
def bv.L1 (b0:Int) (b02:List Int) (b03:List t1.den) (b04:List Int) (b05:List Bool) (b06:Int) (b07:List t3.den) (b08 b09:List Int) (b010 b011 b1:Int) (b12:List Int) (b13:List t1.den) (b14:List Int) (b15:List Bool) (b16:Int) (b17:List t3.den) (b18 b19:List Int) (b110 b111:Int):Option (Bool × Unit):=res bv.c (atJoin bv.b [1,0,1]) ⟨[(2,(.ptr 0 [])),(3,(.ptr 1 []))],[(0,some (.box (.agg [(.v (.int .i64) b0),(.v (.slice (.int .u32)) b02),(.v (.slice t1) b03),(.agg [(.v (.slice (.int .i64)) b04),(.v (.slice .bool) b05),(.v (.int .i64) b06)]),(.v (.slice t3) b07),(.agg [(.v (.slice (.int .i64)) b08),(.v (.slice (.int .i64)) b09),(.v (.int .i64) b010),(.v (.int .i64) b011)])]))),(1,some (.box (.agg [(.v (.int .i64) b1),(.v (.slice (.int .u32)) b12),(.v (.slice t1) b13),(.agg [(.v (.slice (.int .i64)) b14),(.v (.slice .bool) b15),(.v (.int .i64) b16)]),(.v (.slice t3) b17),(.agg [(.v (.slice (.int .i64)) b18),(.v (.slice (.int .i64)) b19),(.v (.int .i64) b110),(.v (.int .i64) b111)])])))],2,[]⟩
def bv.L2 (i b0:Int) (b02:List Int) (b03:List t1.den) (b04:List Int) (b05:List Bool) (b06:Int) (b07:List t3.den) (b08 b09:List Int) (b010 b011 b1:Int) (b12:List Int) (b13:List t1.den) (b14:List Int) (b15:List Bool) (b16:Int) (b17:List t3.den) (b18 b19:List Int) (b110 b111:Int):Option (Bool × Unit):=res bv.c (atLoop bv.b [1,1,0,1,0]) ⟨[(2,(.ptr 0 [])),(3,(.ptr 1 [])),(5,(.v (.int .i64) i))],[(0,some (.box (.agg [(.v (.int .i64) b0),(.v (.slice (.int .u32)) b02),(.v (.slice t1) b03),(.agg [(.v (.slice (.int .i64)) b04),(.v (.slice .bool) b05),(.v (.int .i64) b06)]),(.v (.slice t3) b07),(.agg [(.v (.slice (.int .i64)) b08),(.v (.slice (.int .i64)) b09),(.v (.int .i64) b010),(.v (.int .i64) b011)])]))),(1,some (.box (.agg [(.v (.int .i64) b1),(.v (.slice (.int .u32)) b12),(.v (.slice t1) b13),(.agg [(.v (.slice (.int .i64)) b14),(.v (.slice .bool) b15),(.v (.int .i64) b16)]),(.v (.slice t3) b17),(.agg [(.v (.slice (.int .i64)) b18),(.v (.slice (.int .i64)) b19),(.v (.int .i64) b110),(.v (.int .i64) b111)])])))],2,[]⟩
def bv.L3 (i b0:Int) (b02:List Int) (b03:List t1.den) (b04:List Int) (b05:List Bool) (b06:Int) (b07:List t3.den) (b08 b09:List Int) (b010 b011 b1:Int) (b12:List Int) (b13:List t1.den) (b14:List Int) (b15:List Bool) (b16:Int) (b17:List t3.den) (b18 b19:List Int) (b110 b111:Int):Option (Bool × Unit):=res bv.c (atJoin bv.b [1,1,0,1,0,0,0,1]) ⟨[(2,(.ptr 0 [])),(3,(.ptr 1 [])),(5,(.v (.int .i64) i))],[(0,some (.box (.agg [(.v (.int .i64) b0),(.v (.slice (.int .u32)) b02),(.v (.slice t1) b03),(.agg [(.v (.slice (.int .i64)) b04),(.v (.slice .bool) b05),(.v (.int .i64) b06)]),(.v (.slice t3) b07),(.agg [(.v (.slice (.int .i64)) b08),(.v (.slice (.int .i64)) b09),(.v (.int .i64) b010),(.v (.int .i64) b011)])]))),(1,some (.box (.agg [(.v (.int .i64) b1),(.v (.slice (.int .u32)) b12),(.v (.slice t1) b13),(.agg [(.v (.slice (.int .i64)) b14),(.v (.slice .bool) b15),(.v (.int .i64) b16)]),(.v (.slice t3) b17),(.agg [(.v (.slice (.int .i64)) b18),(.v (.slice (.int .i64)) b19),(.v (.int .i64) b110),(.v (.int .i64) b111)])])))],2,[]⟩
def bv.L4 (i b0:Int) (b02:List Int) (b03:List t1.den) (b04:List Int) (b05:List Bool) (b06:Int) (b07:List t3.den) (b08 b09:List Int) (b010 b011 b1:Int) (b12:List Int) (b13:List t1.den) (b14:List Int) (b15:List Bool) (b16:Int) (b17:List t3.den) (b18 b19:List Int) (b110 b111:Int):Option (Bool × Unit):=res bv.c (atJoin bv.b [1,1,0,1,0,0,1,0,0,1]) ⟨[(2,(.ptr 0 [])),(3,(.ptr 1 [])),(5,(.v (.int .i64) i))],[(0,some (.box (.agg [(.v (.int .i64) b0),(.v (.slice (.int .u32)) b02),(.v (.slice t1) b03),(.agg [(.v (.slice (.int .i64)) b04),(.v (.slice .bool) b05),(.v (.int .i64) b06)]),(.v (.slice t3) b07),(.agg [(.v (.slice (.int .i64)) b08),(.v (.slice (.int .i64)) b09),(.v (.int .i64) b010),(.v (.int .i64) b011)])]))),(1,some (.box (.agg [(.v (.int .i64) b1),(.v (.slice (.int .u32)) b12),(.v (.slice t1) b13),(.agg [(.v (.slice (.int .i64)) b14),(.v (.slice .bool) b15),(.v (.int .i64) b16)]),(.v (.slice t3) b17),(.agg [(.v (.slice (.int .i64)) b18),(.v (.slice (.int .i64)) b19),(.v (.int .i64) b110),(.v (.int .i64) b111)])])))],2,[]⟩
theorem bv.spec:FnSpec Tryz.prog globs 80 bv.Fn:=spec_of (E:=bv.E) (envOk_at tabOk eqOk primsOk (.cons av.spec<|.cons ar.spec<|.cons ca.spec<|.cons ew.spec<|.nil)) mixOk Tryz.func80 (by kernel_rfl)
theorem bv.L1_eq (b0 b02 b03 b04 b05 b06 b07 b08 b09 b010 b011 b1 b12 b13 b14 b15 b16 b17 b18 b19 b110 b111):bv.L1 b0 b02 b03 b04 b05 b06 b07 b08 b09 b010 b011 b1 b12 b13 b14 b15 b16 b17 b18 b19 b110 b111=
 bv.L2 0 b0 b02 b03 b04 b05 b06 b07 b08 b09 b010 b011 b1 b12 b13 b14 b15 b16 b17 b18 b19 b110 b111:=res_eq (by kernel_rfl)
theorem bv.L2_eq (i b0 b02 b03 b04 b05 b06 b07 b08 b09 b010 b011 b1 b12 b13 b14 b15 b16 b17 b18 b19 b110 b111):bv.L2 i b0 b02 b03 b04 b05 b06 b07 b08 b09 b010 b011 b1 b12 b13 b14 b15 b16 b17 b18 b19 b110 b111=
 bif (decide ((i:Int)<((List.length b03:Int)))) then
  bv.L3 i b0 b02 b03 b04 b05 b06 b07 b08 b09 b010 b011 b1 b12 b13 b14 b15 b16 b17 b18 b19 b110 b111
 else
  some (true,()):=res_eq (by kernel_rfl)
theorem bv.L3_eq (i b0 b02 b03 b04 b05 b06 b07 b08 b09 b010 b011 b1 b12 b13 b14 b15 b16 b17 b18 b19 b110 b111):bv.L3 i b0 b02 b03 b04 b05 b06 b07 b08 b09 b010 b011 b1 b12 b13 b14 b15 b16 b17 b18 b19 b110 b111=
 bif (decide ((0:Int)≤i∧(i:Int)<((List.length b03:Int)))) then
  bif (decide ((0:Int)≤i∧(i:Int)<((List.length b13:Int)))) then
   bif (!(Ty.beq t1 (List.getD b03 (Int.toNat i) ((0,0,0,()),0,0,0,())) (List.getD b13 (Int.toNat i) ((0,0,0,()),0,0,0,())))) then
    some (false,())
   else
    bv.L4 i b0 b02 b03 b04 b05 b06 b07 b08 b09 b010 b011 b1 b12 b13 b14 b15 b16 b17 b18 b19 b110 b111
  else none
 else none:=res_eq (by kernel_rfl)
theorem bv.L4_eq (i b0 b02 b03 b04 b05 b06 b07 b08 b09 b010 b011 b1 b12 b13 b14 b15 b16 b17 b18 b19 b110 b111):bv.L4 i b0 b02 b03 b04 b05 b06 b07 b08 b09 b010 b011 b1 b12 b13 b14 b15 b16 b17 b18 b19 b110 b111=
 bv.L2 (IntKind.wrap .i64 (i+1)) b0 b02 b03 b04 b05 b06 b07 b08 b09 b010 b011 b1 b12 b13 b14 b15 b16 b17 b18 b19 b110 b111:=res_eq (by kernel_rfl)
theorem bv.F_eq (a b):bv.F a b=
 bif (a.1 !=b.1) then
  some (false,())
 else
  (av.F a.2.1 b.2.1).bind fun r0=>
  bif (!r0.1) then
   some (false,())
  else
   bif (((List.length a.2.2.1:Int)) !=((List.length b.2.2.1:Int))) then
    some (false,())
   else
    (ar.F a.2.2.2.1 b.2.2.2.1).bind fun r1=>
    bif (!r1.1) then
     some (false,())
    else
     (ca.F a.2.2.2.2.1 b.2.2.2.2.1).bind fun r2=>
     bif (!r2.1) then
      some (false,())
     else
      (ew.F a.2.2.2.2.2.1 b.2.2.2.2.2.1).bind fun r3=>
      bif (!r3.1) then
       some (false,())
      else
       bv.L1 a.1 a.2.1 a.2.2.1 a.2.2.2.1.1 a.2.2.2.1.2.1 a.2.2.2.1.2.2.1 a.2.2.2.2.1 a.2.2.2.2.2.1.1 a.2.2.2.2.2.1.2.1 a.2.2.2.2.2.1.2.2.1 a.2.2.2.2.2.1.2.2.2.1 b.1 b.2.1 b.2.2.1 b.2.2.2.1.1 b.2.2.2.1.2.1 b.2.2.2.1.2.2.1 b.2.2.2.2.1 b.2.2.2.2.2.1.1 b.2.2.2.2.2.1.2.1 b.2.2.2.2.2.1.2.2.1 b.2.2.2.2.2.1.2.2.2.1:=by kernel_rfl
def fa.sg:Sig:=⟨[.val t7,.val t7],[(.bool,true)]⟩
def fa.E:Env:=⟨tl,fun i=>look i [(80,bv.Fn),(81,av.Fn)],[],eqs,globs,prims⟩
def fa.Fn:Fun:=fnOf fa.E fa.sg Tryz.f54
def fa.F (a:t7.den) (b:t7.den):Option (Bool × Unit):=fa.Fn.F (a,b,())
theorem fa.spec:FnSpec Tryz.prog globs 54 fa.Fn:=spec_of (E:=fa.E) (envOk_at tabOk eqOk primsOk (.cons bv.spec<|.cons av.spec<|.nil)) mixOk Tryz.func54 (by kernel_rfl)
theorem fa.F_eq (a b):fa.F a b=
 bif (a.1==b.1) then
  bif (Ty.beq (.arr 3 t0) a.2.1 b.2.1) then
   bif (Ty.beq t1 a.2.2.1 b.2.2.1) then
    (bv.F a.2.2.2.1 b.2.2.2.1).bind fun r0=>
    bif r0.1 then
     (bv.F a.2.2.2.2.1 b.2.2.2.2.1).bind fun r1=>
     bif r1.1 then
      (av.F a.2.2.2.2.2.1 b.2.2.2.2.2.1).bind fun r2=>
      bif r2.1 then
       some ((Ty.beq t6 a.2.2.2.2.2.2.1 b.2.2.2.2.2.2.1),())
      else
       some (false,())
     else
      some (false,())
    else
     some (false,())
   else
    some (false,())
  else
   some (false,())
 else
  some (false,()):=by kernel_rfl
def bz.sg:Sig:=⟨[.val (.slice t7),.val (.slice t7)],[(.bool,true)]⟩
def bz.E:Env:=⟨tl,fun i=>look i [(54,fa.Fn)],[],eqs,globs,prims⟩
def bz.c:=cxOf bz.E bz.sg Tryz.f30
def bz.b:=body Tryz.f30
def bz.Fn:Fun:=fnOf bz.E bz.sg Tryz.f30
def bz.F (a b:List t7.den):Option (Bool × Unit):=bz.Fn.F (a,b,())
def bz.L1 (a b:List t7.den):Option (Bool × Unit):=res bz.c (atJoin bz.b [1,0,1]) ⟨[(0,(.v (.slice t7) a)),(1,(.v (.slice t7) b))],[],0,[]⟩
def bz.L2 (a b:List t7.den) (i:Int):Option (Bool × Unit):=res bz.c (atLoop bz.b [1,1,0,1,0]) ⟨[(0,(.v (.slice t7) a)),(1,(.v (.slice t7) b)),(5,(.v (.int .i64) i))],[],0,[]⟩
def bz.L3 (a b:List t7.den) (i:Int):Option (Bool × Unit):=res bz.c (atJoin bz.b [1,1,0,1,0,0,0,1]) ⟨[(0,(.v (.slice t7) a)),(1,(.v (.slice t7) b)),(5,(.v (.int .i64) i))],[],0,[]⟩
def bz.L4 (a b:List t7.den) (i:Int):Option (Bool × Unit):=res bz.c (atJoin bz.b [1,1,0,1,0,0,1,0,0,1]) ⟨[(0,(.v (.slice t7) a)),(1,(.v (.slice t7) b)),(5,(.v (.int .i64) i))],[],0,[]⟩
theorem bz.spec:FnSpec Tryz.prog globs 30 bz.Fn:=spec_of (E:=bz.E) (envOk_at tabOk eqOk primsOk (.cons fa.spec<|.nil)) mixOk Tryz.func30 (by kernel_rfl)
theorem bz.L1_eq (a b):bz.L1 a b=
 bz.L2 a b 0:=res_eq (by kernel_rfl)
theorem bz.L2_eq (a b i):bz.L2 a b i=
 bif (decide ((i:Int)<((List.length a:Int)))) then
  bz.L3 a b i
 else
  some (true,()):=res_eq (by kernel_rfl)
theorem bz.L3_eq (a b i):bz.L3 a b i=
 bif (decide ((0:Int)≤i∧(i:Int)<((List.length a:Int)))) then
  bif (decide ((0:Int)≤i∧(i:Int)<((List.length b:Int)))) then
   (fa.F (List.getD a (Int.toNat i) d7_) (List.getD b (Int.toNat i) d7_)).bind fun r0=>
   bif (!r0.1) then
    some (false,())
   else
    bz.L4 a b i
  else none
 else none:=res_eq (by kernel_rfl)
theorem bz.L4_eq (a b i):bz.L4 a b i=
 bz.L2 a b (IntKind.wrap .i64 (i+1)):=res_eq (by kernel_rfl)
theorem bz.F_eq (a b):bz.F a b=
 bif (((List.length a:Int)) !=((List.length b:Int))) then
  some (false,())
 else
  bz.L1 a b:=by kernel_rfl
def fc.sg:Sig:=⟨[.val t8,.val t8],[(.bool,true)]⟩
def fc.E:Env:=⟨tl,fun i=>look i [(30,bz.Fn)],[],eqs,globs,prims⟩
def fc.Fn:Fun:=fnOf fc.E fc.sg Tryz.f11
def fc.F (a:t8.den) (b:t8.den):Option (Bool × Unit):=fc.Fn.F (a,b,())
theorem fc.spec:FnSpec Tryz.prog globs 11 fc.Fn:=spec_of (E:=fc.E) (envOk_at tabOk eqOk primsOk (.cons bz.spec<|.nil)) mixOk Tryz.func11 (by kernel_rfl)
theorem fc.F_eq (a b):fc.F a b=
 bif (a.1==b.1) then
  bif (Ty.beq (.arr 32 (.int .u8)) a.2.1 b.2.1) then
   bif (Ty.beq (.arr 16 (.int .u32)) a.2.2.1 b.2.2.1) then
    (bz.F a.2.2.2.1 b.2.2.2.1).bind fun r0=>
    some (r0.1,())
   else
    some (false,())
  else
   some (false,())
 else
  some (false,()):=by kernel_rfl
def cr.sg:Sig:=⟨[.val (.slice (.int .u8)),.val (.slice (.int .u8))],[(.bool,true)]⟩
def cr.E:Env:=⟨tl,fun i=>look i [(7,aq.Fn),(8,aa.Fn),(9,ee.Fn),(10,cw.Fn),(11,fc.Fn)],[],eqs,globs,prims⟩
def cr.c:=cxOf cr.E cr.sg Tryz.f3
def cr.b:=body Tryz.f3
def cr.Fn:Fun:=fnOf cr.E cr.sg Tryz.f3
def cr.F (a b:List Int):Option (Bool × Unit):=cr.Fn.F (a,b,())
def cr.L1 (a b:List Int):Option (Bool × Unit):=res cr.c (atJoin cr.b [1,0,1]) ⟨[(0,(.v (.slice (.int .u8)) a)),(1,(.v (.slice (.int .u8)) b))],[],0,[]⟩
theorem cr.spec:FnSpec Tryz.prog globs 3 cr.Fn:=spec_of (E:=cr.E) (envOk_at tabOk eqOk primsOk (.cons aq.spec<|.cons aa.spec<|.cons ee.spec<|.cons cw.spec<|.cons fc.spec<|.nil)) mixOk Tryz.func3 (by kernel_rfl)
theorem cr.L1_eq (a b):cr.L1 a b=
 (aq.F a).bind fun r0=>
 (aa.F a).bind fun r1=>
 (ee.F a b).bind fun r2=>
 (cw.F a b).bind fun r3=>
 (fc.F r0.1 r1.1).bind fun r4=>
 bif r4.1 then
  bif (r0.2.1==r1.2.1) then
   bif (r2.1==r3.1) then
    bif (r2.2.1==r3.2.1) then
     some ((decide ((List.map (fun n=>UInt8.ofNat (Int.toNat n)) a)=(List.map (fun n=>UInt8.ofNat (Int.toNat n)) a))),())
    else
     some (false,())
   else
    some (false,())
  else
   some (false,())
 else
  some (false,()):=res_eq (by kernel_rfl)
theorem cr.F_eq (a b):cr.F a b=
 bif (decide ((((List.length a:Int)):Int)>6000)) then
  some (true,())
 else
  bif (decide ((((List.length b:Int)):Int)>6000)) then
   some (true,())
  else
   cr.L1 a b:=by kernel_rfl
def dw.sg:Sig:=⟨[.val t5],[((.slice (.int .u32)),true),((.int .i64),true)]⟩
def dw.E:Env:=⟨tl,fun i=>look i [(106,aj.Fn),(134,ed.Fn)],[],eqs,globs,prims⟩
def dw.c:=cxOf dw.E dw.sg Tryz.f92
def dw.b:=body Tryz.f92
def dw.Fn:Fun:=fnOf dw.E dw.sg Tryz.f92
def dw.F (t:t5.den):Option ((List Int) × Int × Unit):=dw.Fn.F (t,())
def dw.L1 (b0:Int) (b02:List Int) (b03:List t1.den) (b04:List Int) (b05:List Bool) (b06:Int) (b07:List t3.den) (b08 b09:List Int) (b010 b011:Int):Option ((List Int) × Int × Unit):=res dw.c (atJoin dw.b [1,0,1,1]) ⟨[(1,(.ptr 0 []))],[(0,some (.box (.agg [(.v (.int .i64) b0),(.v (.slice (.int .u32)) b02),(.v (.slice t1) b03),(.agg [(.v (.slice (.int .i64)) b04),(.v (.slice .bool) b05),(.v (.int .i64) b06)]),(.v (.slice t3) b07),(.agg [(.v (.slice (.int .i64)) b08),(.v (.slice (.int .i64)) b09),(.v (.int .i64) b010),(.v (.int .i64) b011)])])))],1,[]⟩
def dw.L2 (t22_ t23_ b0:Int) (b02:List Int) (b03:List t1.den) (b04:List Int) (b05:List Bool) (b06:Int) (b07:List t3.den) (b08 b09:List Int) (b010 b011:Int) (l1 l2:List Int):Option ((List Int) × Int × Unit):=res dw.c (atLoop dw.b [1,1,1,1,0,1,0]) ⟨[(1,(.ptr 0 [])),(7,(.sl 1)),(21,(.sl 2)),(22,(.v (.int .i64) t22_)),(23,(.v (.int .i64) t23_))],[(0,some (.box (.agg [(.v (.int .i64) b0),(.v (.slice (.int .u32)) b02),(.v (.slice t1) b03),(.agg [(.v (.slice (.int .i64)) b04),(.v (.slice .bool) b05),(.v (.int .i64) b06)]),(.v (.slice t3) b07),(.agg [(.v (.slice (.int .i64)) b08),(.v (.slice (.int .i64)) b09),(.v (.int .i64) b010),(.v (.int .i64) b011)])]))),(1,some (.row (.int .u32) l1 false)),(2,some (.row (.int .i64) l2 false))],3,[]⟩
def dw.L3 (t22_ t23_ b0:Int) (b02:List Int) (b03:List t1.den) (b04:List Int) (b05:List Bool) (b06:Int) (b07:List t3.den) (b08 b09:List Int) (b010 b011:Int) (l1 l2:List Int):Option ((List Int) × Int × Unit):=res dw.c (atJoin dw.b [1,1,1,1,0,1,0,0,1,0]) ⟨[(1,(.ptr 0 [])),(7,(.sl 1)),(21,(.sl 2)),(22,(.v (.int .i64) t22_)),(23,(.v (.int .i64) t23_))],[(0,some (.box (.agg [(.v (.int .i64) b0),(.v (.slice (.int .u32)) b02),(.v (.slice t1) b03),(.agg [(.v (.slice (.int .i64)) b04),(.v (.slice .bool) b05),(.v (.int .i64) b06)]),(.v (.slice t3) b07),(.agg [(.v (.slice (.int .i64)) b08),(.v (.slice (.int .i64)) b09),(.v (.int .i64) b010),(.v (.int .i64) b011)])]))),(1,some (.row (.int .u32) l1 false)),(2,some (.row (.int .i64) l2 false))],3,[]⟩
theorem dw.L1_eq (b0 b02 b03 b04 b05 b06 b07 b08 b09 b010 b011):dw.L1 b0 b02 b03 b04 b05 b06 b07 b08 b09 b010 b011=
 (ed.F (b08,b09,b010,b011,())).bind fun r0=>
 dw.L2 ((List.length r0.1:Int)) 0 b0 b02 b03 b04 b05 b06 b07 b08 b09 b010 b011 ([]:List Int) r0.1:=res_eq (by kernel_rfl)
theorem dw.L2_eq (t22_ t23_ b0 b02 b03 b04 b05 b06 b07 b08 b09 b010 b011 l1 l2):dw.L2 t22_ t23_ b0 b02 b03 b04 b05 b06 b07 b08 b09 b010 b011 l1 l2=
 bif (decide ((t23_:Int)<t22_)) then
  dw.L3 t22_ t23_ b0 b02 b03 b04 b05 b06 b07 b08 b09 b010 b011 l1 l2
 else
  some (l1,0,()):=res_eq (by kernel_rfl)
theorem dw.L3_eq (t22_ t23_ b0 b02 b03 b04 b05 b06 b07 b08 b09 b010 b011 l1 l2):dw.L3 t22_ t23_ b0 b02 b03 b04 b05 b06 b07 b08 b09 b010 b011 l1 l2=
 bif (decide ((0:Int)≤t23_∧(t23_:Int)<((List.length l2:Int)))) then
  bif (decide ((0:Int)≤(List.getD l2 (Int.toNat t23_) 0)∧((List.getD l2 (Int.toNat t23_) 0):Int)<((List.length b02:Int)))) then
   bif (lim ((List.length l1)+(List.length ([(List.getD b02 (Int.toNat (List.getD l2 (Int.toNat t23_) 0)) 0)]:List Int))) (.int .u32)) then
    dw.L2 t22_ (IntKind.wrap .i64 (t23_+1)) b0 b02 b03 b04 b05 b06 b07 b08 b09 b010 b011 (l1++([(List.getD b02 (Int.toNat (List.getD l2 (Int.toNat t23_) 0)) 0)]:List Int)) l2
   else none
  else none
 else none:=res_eq (by kernel_rfl)
theorem dw.F_eq (t):dw.F t=
 (aj.F t).bind fun r0=>
 bif (r0.1 !=0) then
  some (([]:List Int),r0.1,())
 else
  dw.L1 t.1 t.2.1 t.2.2.1 t.2.2.2.1.1 t.2.2.2.1.2.1 t.2.2.2.1.2.2.1 t.2.2.2.2.1 t.2.2.2.2.2.1.1 t.2.2.2.2.2.1.2.1 t.2.2.2.2.2.1.2.2.1 t.2.2.2.2.2.1.2.2.2.1:=by kernel_rfl
def f0.sg:Sig:=⟨[.val t5,.val (.int .u32)],[(t1,true),((.int .i64),true)]⟩
def f0.E:Env:=⟨tl,fun i=>look i [(106,aj.Fn),(109,dy.Fn)],[],eqs,globs,prims⟩
def f0.c:=cxOf f0.E f0.sg Tryz.f93
def f0.b:=body Tryz.f93
def f0.Fn:Fun:=fnOf f0.E f0.sg Tryz.f93
def f0.F (t:t5.den) (key:Int):Option (t1.den × Int × Unit):=f0.Fn.F (t,key,())
def f0.L1 (key b0:Int) (b02:List Int) (b03:List t1.den) (b04:List Int) (b05:List Bool) (b06:Int) (b07:List t3.den) (b08 b09:List Int) (b010 b011:Int):Option (t1.den × Int × Unit):=res f0.c (atJoin f0.b [1,0,1,1]) ⟨[(1,(.v (.int .u32) key)),(2,(.ptr 0 [])),(4,(.ptr 1 []))],[(0,some (.box (.agg [(.v (.int .i64) b0),(.v (.slice (.int .u32)) b02),(.v (.slice t1) b03),(.agg [(.v (.slice (.int .i64)) b04),(.v (.slice .bool) b05),(.v (.int .i64) b06)]),(.v (.slice t3) b07),(.agg [(.v (.slice (.int .i64)) b08),(.v (.slice (.int .i64)) b09),(.v (.int .i64) b010),(.v (.int .i64) b011)])]))),(1,some (.box (.agg [(.agg [(.v (.int .i64) 0),(.v (.int .i64) 0),(.v (.int .i64) 0)]),(.v (.int .i64) 0),(.v (.int .i64) 0),(.v (.int .u64) 0)])))],2,[]⟩
def f0.L2 (i b0:Int) (b02:List Int) (b03:List t1.den) (b04:List Int) (b05:List Bool) (b06:Int) (b07:List t3.den) (b08 b09:List Int) (b010 b011:Int):Option (t1.den × Int × Unit):=res f0.c (atJoin f0.b [1,1,1,0,1]) ⟨[(2,(.ptr 0 [])),(4,(.ptr 1 [])),(7,(.v (.int .i64) i))],[(0,some (.box (.agg [(.v (.int .i64) b0),(.v (.slice (.int .u32)) b02),(.v (.slice t1) b03),(.agg [(.v (.slice (.int .i64)) b04),(.v (.slice .bool) b05),(.v (.int .i64) b06)]),(.v (.slice t3) b07),(.agg [(.v (.slice (.int .i64)) b08),(.v (.slice (.int .i64)) b09),(.v (.int .i64) b010),(.v (.int .i64) b011)])]))),(1,some (.box (.agg [(.agg [(.v (.int .i64) 0),(.v (.int .i64) 0),(.v (.int .i64) 0)]),(.v (.int .i64) 0),(.v (.int .i64) 0),(.v (.int .u64) 0)])))],2,[]⟩
theorem f0.L1_eq (key b0 b02 b03 b04 b05 b06 b07 b08 b09 b010 b011):f0.L1 key b0 b02 b03 b04 b05 b06 b07 b08 b09 b010 b011=
 (dy.F (b0,b02,b03,(b04,b05,b06,()),b07,(b08,b09,b010,b011,()),()) key).bind fun r0=>
 bif (decide ((r0.1:Int)<0)) then
  some (((0,0,0,()),0,0,0,()),6,())
 else
  f0.L2 r0.1 b0 b02 b03 b04 b05 b06 b07 b08 b09 b010 b011:=res_eq (by kernel_rfl)
theorem f0.L2_eq (i b0 b02 b03 b04 b05 b06 b07 b08 b09 b010 b011):f0.L2 i b0 b02 b03 b04 b05 b06 b07 b08 b09 b010 b011=
 bif (decide ((0:Int)≤i∧(i:Int)<((List.length b03:Int)))) then
  some ((List.getD b03 (Int.toNat i) ((0,0,0,()),0,0,0,())),0,())
 else none:=res_eq (by kernel_rfl)
theorem f0.F_eq (t key):f0.F t key=
 (aj.F t).bind fun r0=>
 bif (r0.1 !=0) then
  some (((0,0,0,()),0,0,0,()),r0.1,())
 else
  f0.L1 key t.1 t.2.1 t.2.2.1 t.2.2.2.1.1 t.2.2.2.1.2.1 t.2.2.2.1.2.2.1 t.2.2.2.2.1 t.2.2.2.2.2.1.1 t.2.2.2.2.2.1.2.1 t.2.2.2.2.2.1.2.2.1 t.2.2.2.2.2.1.2.2.2.1:=by kernel_rfl
def ek.sg:Sig:=⟨[.val t5],[((.slice t9),true)]⟩
def ek.E:Env:=⟨tl,fun i=>look i [(92,dw.Fn),(93,f0.Fn)],[],eqs,globs,prims⟩
def ek.c:=cxOf ek.E ek.sg Tryz.f63
def ek.b:=body Tryz.f63
def ek.Fn:Fun:=fnOf ek.E ek.sg Tryz.f63
def ek.F (t:t5.den):Option ((List t9.den) × Unit):=ek.Fn.F (t,())
def ek.L1 (t16_ t17_ b0:Int) (b02:List Int) (b03:List t1.den) (b04:List Int) (b05:List Bool) (b06:Int) (b07:List t3.den) (b08 b09:List Int) (b010 b011:Int) (l1:List t9.den) (l2:List Int):Option ((List t9.den) × Unit):=res ek.c (atLoop ek.b [1,1,1,0,1,0]) ⟨[(1,(.ptr 0 [])),(3,(.sl 1)),(15,(.sl 2)),(16,(.v (.int .i64) t16_)),(17,(.v (.int .i64) t17_))],[(0,some (.box (.agg [(.v (.int .i64) b0),(.v (.slice (.int .u32)) b02),(.v (.slice t1) b03),(.agg [(.v (.slice (.int .i64)) b04),(.v (.slice .bool) b05),(.v (.int .i64) b06)]),(.v (.slice t3) b07),(.agg [(.v (.slice (.int .i64)) b08),(.v (.slice (.int .i64)) b09),(.v (.int .i64) b010),(.v (.int .i64) b011)])]))),(1,some (.row t9 l1 false)),(2,some (.row (.int .u32) l2 false))],3,[]⟩
def ek.L2 (t16_ t17_ b0:Int) (b02:List Int) (b03:List t1.den) (b04:List Int) (b05:List Bool) (b06:Int) (b07:List t3.den) (b08 b09:List Int) (b010 b011:Int) (l1:List t9.den) (l2:List Int):Option ((List t9.den) × Unit):=res ek.c (atJoin ek.b [1,1,1,0,1,0,0,1,0]) ⟨[(1,(.ptr 0 [])),(3,(.sl 1)),(15,(.sl 2)),(16,(.v (.int .i64) t16_)),(17,(.v (.int .i64) t17_))],[(0,some (.box (.agg [(.v (.int .i64) b0),(.v (.slice (.int .u32)) b02),(.v (.slice t1) b03),(.agg [(.v (.slice (.int .i64)) b04),(.v (.slice .bool) b05),(.v (.int .i64) b06)]),(.v (.slice t3) b07),(.agg [(.v (.slice (.int .i64)) b08),(.v (.slice (.int .i64)) b09),(.v (.int .i64) b010),(.v (.int .i64) b011)])]))),(1,some (.row t9 l1 false)),(2,some (.row (.int .u32) l2 false))],3,[]⟩
theorem ek.L1_eq (t16_ t17_ b0 b02 b03 b04 b05 b06 b07 b08 b09 b010 b011 l1 l2):ek.L1 t16_ t17_ b0 b02 b03 b04 b05 b06 b07 b08 b09 b010 b011 l1 l2=
 bif (decide ((t17_:Int)<t16_)) then
  ek.L2 t16_ t17_ b0 b02 b03 b04 b05 b06 b07 b08 b09 b010 b011 l1 l2
 else
  some (l1,()):=res_eq (by kernel_rfl)
theorem ek.L2_eq (t16_ t17_ b0 b02 b03 b04 b05 b06 b07 b08 b09 b010 b011 l1 l2):ek.L2 t16_ t17_ b0 b02 b03 b04 b05 b06 b07 b08 b09 b010 b011 l1 l2=
 bif (decide ((0:Int)≤t17_∧(t17_:Int)<((List.length l2:Int)))) then
  (f0.F (b0,b02,b03,(b04,b05,b06,()),b07,(b08,b09,b010,b011,()),()) (List.getD l2 (Int.toNat t17_) 0)).bind fun r0=>
  bif (lim ((List.length l1)+(List.length ([((List.getD l2 (Int.toNat t17_) 0),r0.1,())]:List t9.den))) t9) then
   ek.L1 t16_ (IntKind.wrap .i64 (t17_+1)) b0 b02 b03 b04 b05 b06 b07 b08 b09 b010 b011 (l1++([((List.getD l2 (Int.toNat t17_) 0),r0.1,())]:List t9.den)) l2
  else none
 else none:=res_eq (by kernel_rfl)
theorem ek.F_eq (t):ek.F t=
 (dw.F t).bind fun r0=>
 ek.L1 ((List.length r0.1:Int)) 0 t.1 t.2.1 t.2.2.1 t.2.2.2.1.1 t.2.2.2.1.2.1 t.2.2.2.1.2.2.1 t.2.2.2.2.1 t.2.2.2.2.2.1.1 t.2.2.2.2.2.1.2.1 t.2.2.2.2.2.1.2.2.1 t.2.2.2.2.2.1.2.2.2.1 ([]:List t9.den) r0.1:=by kernel_rfl
end
end Go.Proofs.YtkihjakbbcajbaaGreat.PM
namespace Go.Proofs.YtkihjakbbcajbaaGreat.RP
set_option linter.unusedSimpArgs false
set_option linter.unusedVariables false
open Go Go.Proofs.YtkihjakbbcajbaaGreat.PM
theorem bd_pos {α:Type} {p:Prop} [Decidable p] {a b:α} (h:p):(bif decide p then a else b)=a:=by simp [h]
theorem bd_neg {α:Type} {p:Prop} [Decidable p] {a b:α} (h:¬p):(bif decide p then a else b)=b:=by simp [h]
theorem W_eq {x:Int} (h1: -9223372036854775808≤x) (h2:x≤9223372036854775807):IntKind.wrap .i64 x=x:=by rw [IntKind.wrap_i64];omega
theorem lim_ok {n:Nat} {u:Ty} (h:n*u.bytes≤140737488355328):lim n u=true:=decide_eq_true h
theorem lim_ok_small {n:Nat} {u:Ty} {α:Type} {a b:α} (hu:u.bytes≤1000000) (h:n≤100000000):(bif lim n u then a else b)=a:=by
 rw [lim_ok (Nat.le_trans (Nat.mul_le_mul h hu) (by decide))];rfl
theorem bne_pos {α:Type} {x y:Int} {a b:α} (h:x≠y):(bif x !=y then a else b)=a:=by rw [bne_iff_ne.2 h];rfl
theorem bne_neg {α:Type} {x y:Int} {a b:α} (h:x=y):(bif x !=y then a else b)=b:=by rw [h,bne_self_eq_false];rfl
theorem beq_pos {α:Type} {x y:Int} {a b:α} (h:x=y):(bif x==y then a else b)=a:=by rw [h,beq_self_eq_true];rfl
theorem beq_neg {α:Type} {x y:Int} {a b:α} (h:x≠y):(bif x==y then a else b)=b:=by
 rw [show (x==y)=false by simpa using h];rfl
theorem ob {α β:Type} {f:α→Option β} {x:α}:(some x).bind f=f x:=rfl
theorem toNat_cast (n:Nat):Int.toNat (n:Int)=n:=Int.toNat_natCast n
theorem toNat_sub1 {n:Nat} (h:0<n):Int.toNat ((n:Int) - 1)=n - 1:=by omega
theorem cast_add1 (n:Nat):((n:Int)+1)=((n+1:Nat):Int):=by omega
theorem getD_get {α:Type} {l:List α} {i:Nat} {d:α} (h:i<l.length):l.getD i d=l[i]:=by simp [List.getD,h]
theorem tk_getD {α:Type} {l:List α} {i:Nat} {d:α} (h:i<l.length):l.take i++[l.getD i d]=l.take (i+1):=by
 rw [getD_get h];exact List.take_append_getElem h
end Go.Proofs.YtkihjakbbcajbaaGreat.RP
namespace Go.Proofs.YtkihjakbbcajbaaGreat.RP
set_option linter.unusedSimpArgs false
set_option linter.unusedVariables false
open Go Go.Proofs.YtkihjakbbcajbaaGreat.PM
@[reducible] def Z (x:Int):Int:=x
def Says (P:Prop) (o:Option (Int × Unit)):Prop:=(P∧o=some (0,()))∨(¬P∧o=some (8,()))
theorem Says.yes {P:Prop} {o:Option (Int × Unit)} (h:Says P o) (p:P):o=some (0,()):=by
 rcases h with h|h
 ·exact h.2
 ·exact absurd p h.1
theorem Says.no {P:Prop} {o:Option (Int × Unit)} (h:Says P o) (p:¬P):o=some (8,()):=by
 rcases h with h|h
 ·exact absurd h.1 p
 ·exact h.2
theorem Says.congr {P Q:Prop} {o:Option (Int × Unit)} (h:Says P o) (e:P↔Q):Says Q o:=by
 rcases h with h|h
 ·exact .inl ⟨e.1 h.1,h.2⟩
 ·exact .inr ⟨fun q=>h.1 (e.2 q),h.2⟩
theorem Says.eq {P:Prop} {o q:Option (Int × Unit)} (h:Says P o) (k:Says P q):o=q:=by
 rcases h with h|h
 ·rw [h.2,k.yes h.1]
 ·rw [h.2,k.no h.1]
theorem loop_all {R:Type} {n:Nat} {L:Nat→R} {ok:Nat→Prop} {stop:R} (h:∀i,i<n→(ok i∧L i=L (i+1))∨(¬ok i∧L i=stop)):
  ((∀i,i<n→ok i)∧L 0=L n)∨((¬∀i,i<n→ok i)∧L 0=stop):=by
 induction n with
 |zero=>exact .inl ⟨fun i hi=>by omega,rfl⟩
 |succ n ih=>
  rcases ih (fun i hi=>h i (by omega)) with ⟨h1,h2⟩|⟨h1,h2⟩
  ·rcases h n (by omega) with ⟨h3,h4⟩|⟨h3,h4⟩
   ·exact .inl ⟨fun i hi=>by
     by_cases e:i=n
     ·rw [e];exact h3
     ·exact h1 i (by omega),h2.trans h4⟩
   ·exact .inr ⟨fun h5=>h3 (h5 n (by omega)),h2.trans h4⟩
  ·exact .inr ⟨fun h3=>h1 fun i hi=>h3 i (by omega),h2⟩
theorem loop_go {R:Type} {n:Nat} {L:Nat→R} (h:∀i,i<n→L i=L (i+1)):L 0=L n:=by
 induction n with
 |zero=>rfl
 |succ n ih=>rw [ih (fun i hi=>h i (by omega)),h n (by omega)]
inductive Chain (next:List Int):Int→List Int→Prop
 |nil:Chain next (-1) []
 |cons {i:Int} {l:List Int} (h0:0≤i) (h1:i<next.length) (h:Chain next (next.getD i.toNat 0) l):Chain next i (i::l)
theorem Chain.det {next:List Int} {i:Int} {l l':List Int} (h:Chain next i l) (h':Chain next i l'):l=l':=by
 induction h generalizing l' with
 |nil=>cases h' with
  |nil=>rfl
  |cons h0=>omega
 |cons h0 h1 _ ih=>cases h' with
  |nil=>omega
  |cons _ _ h2=>rw [ih h2]
theorem Chain.range {next:List Int} {i:Int} {l:List Int} (h:Chain next i l):∀x∈l,0≤x∧x<next.length:=by
 induction h with
 |nil=>simp
 |cons h0 h1 _ ih=>
  intro x hx
  rcases List.mem_cons.1 hx with rfl|hx
  ·exact ⟨h0,h1⟩
  ·exact ih x hx
theorem set_at {α:Type} {l:List α} {i j:Int} {v d:α} (h0:0≤i) (h1:i<l.length) (h2:0≤j):(l.set i.toNat v).getD j.toNat d=if i=j then v else l.getD j.toNat d:=by
 simp only [List.getD_eq_getElem?_getD,List.getElem?_set]
 by_cases e:i=j
 ·subst e;rw [if_pos rfl,if_pos rfl,if_pos (by omega)];rfl
 ·rw [if_neg (by omega),if_neg e]
theorem nodup_le {l:List Int} {n:Nat} (h:l.Nodup) (hr:∀x∈l,0≤x∧x<n):l.length≤n:=by
 have h2:l ⊆ (List.range n).map Int.ofNat:=by
  intro x hx
  have:=hr x hx
  exact List.mem_map.2 ⟨x.toNat,by simp;omega,by simp;omega⟩
 have:=List.Nodup.length_le_of_subset h h2
 simpa using this
theorem nodup_snoc {acc:List Int} {i:Int} (h:acc.Nodup) (hi:¬i∈acc):(acc++[i]).Nodup:=by
 rw [List.nodup_append]
 refine ⟨h,by simp,fun a ha b hb=>?_⟩
 rw [List.mem_singleton.1 hb]
 rintro rfl
 exact hi ha
def marks (s:List Bool) (l:List Int):List Bool:=l.foldl (fun s x=>s.set x.toNat true) s
theorem marks_length (s:List Bool) (l:List Int):(marks s l).length=s.length:=by
 induction l generalizing s with
 |nil=>rfl
 |cons x l ih=>show (marks (s.set x.toNat true) l).length=_;rw [ih];simp
theorem marks_at {s:List Bool} {l:List Int} (hl:∀x∈l,0≤x∧x<s.length) {j:Int} (hj:0≤j):(marks s l).getD j.toNat false=true↔(s.getD j.toNat false=true∨j∈l):=by
 induction l generalizing s with
 |nil=>simp [marks]
 |cons x l ih=>
  have hx:=hl x (by simp)
  show (marks (s.set x.toNat true) l).getD j.toNat false=true↔_
  rw [ih (by intro y hy;have:=hl y (by simp [hy]);simpa using this),set_at hx.1 hx.2 hj]
  by_cases e:x=j
  ·subst e;simp
  ·rw [if_neg e];simp [show ¬j=x from fun h=>e h.symm]
theorem count_set {s:List Bool} {i:Int} (h0:0≤i) (h1:i<s.length) (hf:¬s.getD i.toNat false=true):(s.set i.toNat true).count false+1=s.count false:=by
 have hi:i.toNat<s.length:=by omega
 have e:s[i.toNat]=false:=by
  simp [List.getD_eq_getElem?_getD,List.getElem?_eq_getElem hi] at hf
  exact hf
 rw [List.count_set hi,e]
 have:0<s.count false:=List.count_pos_iff.2 (by rw [←e];exact List.getElem_mem hi)
 simp;omega
theorem bool_not {b:Bool} (h:¬b=true):b=false:=by simpa using h
theorem bt {α:Type} {b:Bool} {x y:α} (h:b=true):(bif b then x else y)=x:=by rw [h];rfl
theorem bf {α:Type} {b:Bool} {x y:α} (h:b=false):(bif b then x else y)=y:=by rw [h];rfl
theorem bnt {α:Type} {b:Bool} {x y:α} (h:b=true):(bif !b then x else y)=y:=by rw [h];rfl
theorem bnf {α:Type} {b:Bool} {x y:α} (h:b=false):(bif !b then x else y)=x:=by rw [h];rfl
theorem lim_small {n:Nat} {u:Ty} {α:Type} {a b:α} (hu:u.bytes≤1000000) (h:n≤100000000):(bif lim n u then a else b)=a:=lim_ok_small hu h
theorem allB_iff {α:Type} {f:α→α→Bool} (h:∀a b,f a b=true↔a=b):∀xs ys:List α,allB f xs ys=true↔xs=ys
 |[],[]=>by simp [allB]
 |[],y::ys=>by simp [allB]
 |x::xs,[]=>by simp [allB]
 |x::xs,y::ys=>by
  rw [allB,Bool.and_eq_true,h x y,allB_iff h xs ys]
  simp
theorem beq_iff:∀(t:Ty) (a b:t.den),Ty.beq t a b=true↔a=b
 |.int _,x,y=>by unfold Ty.beq;exact decide_eq_true_iff
 |.bool,x,y=>by unfold Ty.beq;exact beq_iff_eq
 |.str,x,y=>by unfold Ty.beq;exact decide_eq_true_iff
 |.unit,_,_=>by unfold Ty.beq;exact ⟨fun _=>rfl,fun _=>rfl⟩
 |.pair a b,(x1,x2),(y1,y2)=>by
  unfold Ty.beq
  rw [Bool.and_eq_true,beq_iff a,beq_iff b]
  exact ⟨fun h=>Prod.ext h.1 h.2,fun h=>⟨congrArg Prod.fst h,congrArg Prod.snd h⟩⟩
 |.arr _ t,x,y=>by unfold Ty.beq;exact allB_iff (beq_iff t) x y
 |.slice t,x,y=>by unfold Ty.beq;exact allB_iff (beq_iff t) x y
theorem nbeq_pos {t:Ty} {x y:t.den} {α:Type} {a b:α} (h:x≠y):(bif !(Ty.beq t x y) then a else b)=a:=by
 rw [bool_not (fun e=>h ((beq_iff t x y).1 e))];rfl
theorem nbeq_neg {t:Ty} {x y:t.den} {α:Type} {a b:α} (h:x=y):(bif !(Ty.beq t x y) then a else b)=b:=by
 rw [(beq_iff t x y).2 h];rfl
theorem tbeq_pos {t:Ty} {x y:t.den} {α:Type} {a b:α} (h:x=y):(bif Ty.beq t x y then a else b)=a:=by
 rw [(beq_iff t x y).2 h];rfl
theorem Says.done:Says True (some (0,())):=.inl ⟨trivial,rfl⟩
theorem Says.guard {p P:Prop} [Decidable p] {o:Option (Int × Unit)} (h:¬p→Says P o):Says (¬p∧P) (bif decide p then some (8,()) else o):=by
 by_cases q:p
 ·rw [bd_pos q];exact .inr ⟨fun k=>k.1 q,rfl⟩
 ·rw [bd_neg q]
  rcases h q with h|h
  ·exact .inl ⟨⟨q,h.1⟩,h.2⟩
  ·exact .inr ⟨fun k=>h.1 k.2,h.2⟩
theorem Says.neq {x y:Int} {P:Prop} {o:Option (Int × Unit)} (h:x=y→Says P o):Says (x=y∧P) (bif x !=y then some (8,()) else o):=by
 by_cases q:x=y
 ·rw [bne_neg q]
  rcases h q with h|h
  ·exact .inl ⟨⟨q,h.1⟩,h.2⟩
  ·exact .inr ⟨fun k=>h.1 k.2,h.2⟩
 ·rw [bne_pos q];exact .inr ⟨fun k=>q k.1,rfl⟩
theorem Says.flag {b:Bool} {P:Prop} {o:Option (Int × Unit)} (h:b=true→Says P o):Says (b=true∧P) (bif !b then some (8,()) else o):=by
 cases b with
 |false=>exact .inr ⟨fun k=>(by cases k.1),rfl⟩
 |true=>
  rcases h rfl with h|h
  ·exact .inl ⟨⟨rfl,h.1⟩,h.2⟩
  ·exact .inr ⟨fun k=>h.1 k.2,h.2⟩
theorem Says.same {t:Ty} {x y:t.den} {P:Prop} {o:Option (Int × Unit)} (h:x=y→Says P o):Says (x=y∧P) (bif !(Ty.beq t x y) then some (8,()) else o):=
 (Says.flag (b:=Ty.beq t x y) fun e=>h ((beq_iff t x y).1 e)).congr (and_congr (beq_iff t x y) Iff.rfl)
theorem Says.call {P Q:Prop} {o:Option (Int × Unit)} {f:Int × Unit→Option (Int × Unit)} (h:Says P o) (k:P→Says Q (f (0,()))) (k8:f (8,())=some (8,())):Says (P∧Q) (o.bind f):=by
 rcases h with ⟨h,e⟩|⟨h,e⟩
 ·rw [e]
  rcases k h with k|k
  ·exact .inl ⟨⟨h,k.1⟩,k.2⟩
  ·exact .inr ⟨fun q=>k.1 q.2,k.2⟩
 ·rw [e];exact .inr ⟨fun q=>h q.1,k8⟩
theorem Says.cond {b:Bool} {P Q:Prop} {o q:Option (Int × Unit)} (h1:b=true→Says P o) (h2:b=false→Says Q q):Says ((b=true→P)∧(b=false→Q)) (bif b then o else q):=by
 cases b with
 |true=>exact (h1 rfl).congr ⟨fun p=>⟨fun _=>p,fun h=>(by cases h)⟩,fun k=>k.1 rfl⟩
 |false=>exact (h2 rfl).congr ⟨fun p=>⟨fun h=>(by cases h),fun _=>p⟩,fun k=>k.2 rfl⟩
theorem find_loop {R:Type} {n:Nat} {L:Nat→R} {p:Nat→Prop} {hit:Nat→R} {miss:R} (h:∀i,i<n→(p i∧L i=hit i)∨(¬p i∧L i=L (i+1))) (hm:L n=miss):
  (∃i,i<n∧p i∧(∀j,j<i→¬p j)∧L 0=hit i)∨((∀i,i<n→¬p i)∧L 0=miss):=by
 have go:∀m,m≤n→(∃i,i<m∧p i∧(∀j,j<i→¬p j)∧L 0=hit i)∨((∀i,i<m→¬p i)∧L 0=L m):=by
  intro m
  induction m with
  |zero=>exact fun _=> .inr ⟨fun i hi=>by omega,rfl⟩
  |succ m ih=>
   intro hm
   rcases ih (by omega) with ⟨i,h1,h2,h3,h4⟩|⟨h1,h2⟩
   ·exact .inl ⟨i,by omega,h2,h3,h4⟩
   ·rcases h m (by omega) with ⟨h3,h4⟩|⟨h3,h4⟩
    ·exact .inl ⟨m,by omega,h3,h1,h2.trans h4⟩
    ·refine .inr ⟨fun i hi=>?_,h2.trans h4⟩
     by_cases e:i=m
     ·rw [e];exact h3
     ·exact h1 i (by omega)
 rcases go n (Nat.le_refl _) with h1|⟨h1,h2⟩
 ·exact .inl h1
 ·exact .inr ⟨h1,h2.trans hm⟩
theorem walk_gen {L:Int→List Int→Option (List Int × Bool × Unit)} {next:List Int} (hn:next.length≤100)
  (h:∀i acc,acc.length≤100→L i acc=if i= -1 then some (acc,true,()) else if i<0 then some ([],false,()) else if i≥next.length then some ([],false,()) else if i∈acc then some ([],false,()) else L (next.getD i.toNat 0) (acc++[i])) (d:Nat):
  ∀(acc:List Int) (i:Int),acc.Nodup→(∀x∈acc,0≤x∧x<next.length)→next.length - acc.length≤d→
   (∃l,Chain next i l∧(acc++l).Nodup∧L i acc=some (acc++l,true,()))∨((¬∃l,Chain next i l∧(acc++l).Nodup)∧L i acc=some ([],false,())):=by
 induction d with
 |zero=>
  intro acc i hnd hr hd
  have hlen:=nodup_le hnd hr
  rw [h i acc (by omega)]
  by_cases e:i= -1
  ·rw [if_pos e]
   exact .inl ⟨[],by rw [e];exact .nil,by simpa using hnd,by rw [List.append_nil]⟩
  rw [if_neg e]
  by_cases h0:i<0
  ·rw [if_pos h0];exact .inr ⟨fun ⟨l,hl,_⟩=>by cases hl<;>omega,rfl⟩
  rw [if_neg h0]
  by_cases h1:i≥next.length
  ·rw [if_pos h1];exact .inr ⟨fun ⟨l,hl,_⟩=>by cases hl<;>omega,rfl⟩
  rw [if_neg h1]
  by_cases hm:i∈acc
  ·rw [if_pos hm]
   refine .inr ⟨fun ⟨l,hl,hn2⟩=>?_,rfl⟩
   cases hl with
   |nil=>omega
   |cons a b c=>exact (List.nodup_append.1 hn2).2.2 i hm i (by simp) rfl
  ·have:=nodup_le (nodup_snoc hnd hm) (n:=next.length) (fun x hx=>by
    rcases List.mem_append.1 hx with hx|hx
    ·exact hr x hx
    ·rw [List.mem_singleton.1 hx];omega)
   simp at this
   omega
 |succ d ih=>
  intro acc i hnd hr hd
  have hlen:=nodup_le hnd hr
  rw [h i acc (by omega)]
  by_cases e:i= -1
  ·rw [if_pos e]
   exact .inl ⟨[],by rw [e];exact .nil,by simpa using hnd,by rw [List.append_nil]⟩
  rw [if_neg e]
  by_cases h0:i<0
  ·rw [if_pos h0];exact .inr ⟨fun ⟨l,hl,_⟩=>by cases hl<;>omega,rfl⟩
  rw [if_neg h0]
  by_cases h1:i≥next.length
  ·rw [if_pos h1];exact .inr ⟨fun ⟨l,hl,_⟩=>by cases hl<;>omega,rfl⟩
  rw [if_neg h1]
  by_cases hm:i∈acc
  ·rw [if_pos hm]
   refine .inr ⟨fun ⟨l,hl,hn2⟩=>?_,rfl⟩
   cases hl with
   |nil=>omega
   |cons a b c=>exact (List.nodup_append.1 hn2).2.2 i hm i (by simp) rfl
  ·rw [if_neg hm]
   rcases ih (acc++[i]) (next.getD i.toNat 0) (nodup_snoc hnd hm) (fun x hx=>by
    rcases List.mem_append.1 hx with hx|hx
    ·exact hr x hx
    ·rw [List.mem_singleton.1 hx];omega) (by simp;omega) with ⟨l,hl,hn2,e2⟩|⟨hx,e2⟩
   ·exact .inl ⟨i::l,.cons (by omega) (by omega) hl,by simpa using hn2,by rw [e2];simp⟩
   ·refine .inr ⟨fun ⟨l,hl,hn2⟩=>?_,e2⟩
    cases hl with
    |nil=>omega
    |cons a b c=>exact hx ⟨_,c,by simpa using hn2⟩
theorem count_of_sub {U:List Int}:∀{S:List Int},U.Nodup→(∀x∈U,x∈S)→S.length=U.length→∀p,S.count p=U.count p:=by
 induction U with
 |nil=>
  intro S _ _ hl p
  have:S=[]:=List.length_eq_zero_iff.1 hl
  rw [this]
 |cons u U ih=>
  intro S hn hs hl p
  obtain ⟨h1,h2⟩:=List.nodup_cons.1 hn
  have hu:=hs u (by simp)
  have h3:=ih (S:=S.erase u) h2 (fun x hx=>(List.mem_erase_of_ne (fun e=>h1 (by rw [←e];exact hx))).2 (hs x (by simp [hx]))) (by
   rw [List.length_erase_of_mem hu,hl];simp) p
  rw [List.count_erase] at h3
  rw [List.count_cons]
  by_cases e:u=p
  ·subst e
   have:=List.count_pos_iff.2 hu
   simp at h3 ⊢
   omega
  ·have e2:(u==p)=false:=by simpa using e
   rw [e2] at h3 ⊢
   simp at h3 ⊢
   exact h3
theorem nodup_of_count {S:List Int} (h:∀p,S.count p≤1):S.Nodup:=by
 induction S with
 |nil=>exact List.nodup_nil
 |cons a S ih=>
  refine List.nodup_cons.2 ⟨fun hm=>?_,ih fun p=>Nat.le_trans ?_ (h p)⟩
  ·have h1:=h a
   have h2:=List.count_pos_iff.2 hm
   rw [List.count_cons] at h1
   simp at h1
   omega
  ·rw [List.count_cons];omega
theorem inj_of_nodup_map {α β:Type} {f:α→β}:∀{l:List α},(l.map f).Nodup→∀a∈l,∀b∈l,f a=f b→a=b
 |[],_,a,ha,_,_,_=>by cases ha
 |c::l,h,a,ha,b,hb,e=>by
  obtain ⟨h1,h2⟩:=List.nodup_cons.1 h
  by_cases ea:a=c
  ·by_cases eb:b=c
   ·rw [ea,eb]
   ·have hb:b∈l:=(List.mem_cons.1 hb).resolve_left eb
    exact (h1 (List.mem_map.2 ⟨b,hb,by rw [←e,ea]⟩)).elim
  ·have ha:a∈l:=(List.mem_cons.1 ha).resolve_left ea
   by_cases eb:b=c
   ·exact (h1 (List.mem_map.2 ⟨a,ha,by rw [e,eb]⟩)).elim
   ·exact inj_of_nodup_map h2 a ha b ((List.mem_cons.1 hb).resolve_left eb) e
theorem count_mem {used:List Bool} {l:List Int} (hn:l.Nodup) (hr:∀x∈l,0≤x∧x<used.length) (h:∀i:Nat,i<used.length→(used.getD i false=true↔(i:Int)∈l)):used.countP id=l.length:=by
 have e:used=(List.range used.length).map (fun i=>used.getD i false):=by
  refine List.ext_getElem (by simp) fun i h1 h2=>?_
  simp only [List.getElem_map,List.getElem_range]
  rw [getD_get h1]
 have e2:used.countP id=((List.range used.length).filter (fun i=>used.getD i false)).length:=by
  conv=>lhs;rw [e]
  rw [List.countP_map,List.countP_eq_length_filter];rfl
 rw [e2]
 have hU:((List.range used.length).filter (fun i=>used.getD i false)).Nodup:=List.Pairwise.filter _ List.nodup_range
 have h1:(((List.range used.length).filter (fun i=>used.getD i false)).map Int.ofNat).length≤l.length:=by
  refine List.Nodup.length_le_of_subset ?_ ?_
  ·refine List.Pairwise.map _ (fun a b hab e=>hab (Int.ofNat.inj e)) hU
  ·intro x hx
   obtain ⟨i,hi,rfl⟩:=List.mem_map.1 hx
   have:=List.mem_filter.1 hi
   exact (h i (List.mem_range.1 this.1)).1 this.2
 have h2:l.length≤(((List.range used.length).filter (fun i=>used.getD i false)).map Int.ofNat).length:=by
  refine List.Nodup.length_le_of_subset hn ?_
  intro x hx
  have hx2:=hr x hx
  have ex:((x.toNat:Nat):Int)=x:=by omega
  refine List.mem_map.2 ⟨x.toNat,List.mem_filter.2 ⟨List.mem_range.2 (by omega),(h x.toNat (by omega)).2 (by rw [ex];exact hx)⟩,ex⟩
 rw [List.length_map] at h1 h2
 omega
end Go.Proofs.YtkihjakbbcajbaaGreat.RP
namespace Go.Proofs.YtkihjakbbcajbaaGreat.TB
set_option linter.unusedSimpArgs false
set_option linter.unusedVariables false
open Go Go.Proofs Go.Proofs.YtkihjakbbcajbaaGreat.PM Go.Proofs.YtkihjakbbcajbaaGreat.RP
structure AGood (next:List Int) (used:List Bool) (free:Int) (l:List Int):Prop where
 low:1≤next.length
 high:next.length≤16
 same:used.length=next.length
 chain:Chain next free l
 nodup:l.Nodup
 mark:∀j:Nat,j<used.length→(used.getD j false=true↔¬(j:Int)∈l)
 end_:∀j:Nat,j<used.length→used.getD j false=true→next.getD j 0= -1
def AOk (next:List Int) (used:List Bool) (free:Int):Prop:=∃l,AGood next used free l
theorem AGood.short {next:List Int} {used:List Bool} {free:Int} {l:List Int} (g:AGood next used free l):l.length≤16:=by
 have:=nodup_le g.nodup g.chain.range
 have:=g.high
 omega
def AllOk (s used:List Bool) (next:List Int) (i:Nat):Prop:=s.getD i false=true∧(used.getD i false=true→next.getD i 0= -1)
theorem arena_l4 {s used:List Bool} {next:List Int} {free:Int} (h1:s.length=used.length) (h2:next.length=used.length) (hu:used.length≤16):
  Says (∀i,i<used.length→AllOk s used next i) (az.L4 used (used.length:Int) 0 next free s):=by
 have:=loop_all (n:=used.length) (L:=fun i=>az.L4 used (used.length:Int) (i:Int) next free s) (ok:=AllOk s used next) (stop:=some (8,())) (fun i hi=>by
  have nxt:az.L6 used (used.length:Int) (i:Int) next free s=az.L4 used (used.length:Int) ((i+1:Nat):Int) next free s:=by
   rw [az.L6_eq,W_eq (by omega) (by omega),cast_add1]
  try dsimp only
  rw [az.L4_eq,bd_pos (by omega),az.L5_eq,bd_pos (by omega),bd_pos (by omega)]
  simp only [toNat_cast]
  by_cases a:s.getD i false=true
  ·rw [bnt a]
   by_cases u:used.getD i false=true
   ·rw [bt u,bd_pos (by omega)]
    by_cases e:next.getD i 0= -1
    ·rw [bne_neg e,nxt];exact .inl ⟨⟨a,fun _=>e⟩,rfl⟩
    ·rw [bne_pos e];exact .inr ⟨fun h=>e (h.2 u),rfl⟩
   ·rw [bf (bool_not u),nxt];exact .inl ⟨⟨a,fun h=>absurd h u⟩,rfl⟩
  ·rw [bnf (bool_not a)];exact .inr ⟨fun h=>a h.1,rfl⟩)
 rcases this with ⟨h,e⟩|⟨h,e⟩
 ·refine .inl ⟨h,?_⟩
  refine Eq.trans e ?_
  try dsimp only
  rw [az.L4_eq,bd_neg (by omega)]
 ·exact .inr ⟨h,e⟩
theorem arena_walk_yes {used:List Bool} {next:List Int} {free:Int} {i:Int} {l:List Int} (h:Chain next i l):
  ∀s:List Bool,s.length=next.length→l.Nodup→(∀x∈l,s.getD x.toNat false=false)→
   az.L2 (next.length:Int) i next used free s=az.L4 used (used.length:Int) 0 next free (marks s l):=by
 induction h with
 |nil=>
  intro s hs _ _
  rw [az.L2_eq,bne_neg rfl];rfl
 |@cons i l h0 h1 hc ih=>
  intro s hs hn hf
  obtain ⟨hi,hn⟩:=List.nodup_cons.1 hn
  have hr:=ih (s.set i.toNat true) (by simpa using hs) hn (fun x hx=>by
   have hxr:=hc.range x hx
   rw [set_at h0 (by omega) hxr.1,if_neg (fun e=>hi (by rw [e];exact hx))]
   exact hf x (by simp [hx]))
  rw [az.L2_eq,bne_pos (by omega),az.L3_eq,bd_neg (by omega),bd_neg (by omega),bd_pos (by omega),bf (hf i (by simp)),az.L7_eq,bd_pos (by omega),bd_pos (by omega)]
  exact hr
theorem arena_walk_no {used:List Bool} {next:List Int} {free:Int} (d:Nat):
  ∀(s:List Bool) (i:Int),s.length=next.length→s.count false≤d→(¬∃l,Chain next i l∧l.Nodup∧∀x∈l,s.getD x.toNat false=false)→
   az.L2 (next.length:Int) i next used free s=some (8,()):=by
 induction d with
 |zero=>
  intro s i hs hd hn
  by_cases e:i= -1
  ·exact absurd ⟨[],by rw [e];exact .nil,by simp,by simp⟩ hn
  rw [az.L2_eq,bne_pos e,az.L3_eq]
  by_cases h0:i<0
  ·rw [bd_pos h0]
  by_cases h1:i≥next.length
  ·rw [bd_neg h0,bd_pos h1]
  rw [bd_neg h0,bd_neg h1,bd_pos (by omega)]
  by_cases hf:s.getD i.toNat false=true
  ·rw [bt hf]
  ·have:=count_set (by omega) (by omega) hf
   omega
 |succ d ih=>
  intro s i hs hd hn
  by_cases e:i= -1
  ·exact absurd ⟨[],by rw [e];exact .nil,by simp,by simp⟩ hn
  rw [az.L2_eq,bne_pos e,az.L3_eq]
  by_cases h0:i<0
  ·rw [bd_pos h0]
  by_cases h1:i≥next.length
  ·rw [bd_neg h0,bd_pos h1]
  rw [bd_neg h0,bd_neg h1,bd_pos (by omega)]
  by_cases hf:s.getD i.toNat false=true
  ·rw [bt hf]
  ·have hc:=count_set (s:=s) (i:=i) (by omega) (by omega) hf
   have hr:=ih (s.set i.toNat true) (next.getD i.toNat 0) (by simpa using hs) (by omega) (by
    rintro ⟨l,hl,hnd,hx⟩
    refine hn ⟨i::l,.cons (by omega) (by omega) hl,List.nodup_cons.2 ⟨fun hi=>?_,hnd⟩,?_⟩
    ·have:=hx i hi
     rw [set_at (by omega) (by omega) (by omega),if_pos rfl] at this
     exact Bool.noConfusion this
    ·intro x hxm
     rcases List.mem_cons.1 hxm with rfl|hxm
     ·exact bool_not hf
     ·have:=hx x hxm
      have hxr:=hl.range x hxm
      rw [set_at (by omega) (by omega) hxr.1] at this
      split at this
      ·exact Bool.noConfusion this
      ·exact this)
   rw [bf (bool_not hf),az.L7_eq,bd_pos (by omega),bd_pos (by omega)]
   exact hr
theorem arena_says (next:List Int) (used:List Bool) (free:Int):Says (AOk next used free) (az.F (next,used,free,())):=by
 rw [az.F_eq]
 try dsimp only
 by_cases hlow:(next.length:Int)<1
 ·rw [bd_pos hlow];exact .inr ⟨fun ⟨l,g⟩=>by have:=g.low;omega,rfl⟩
 by_cases hhigh:(next.length:Int)>16
 ·rw [bd_neg hlow,bd_pos hhigh];exact .inr ⟨fun ⟨l,g⟩=>by have:=g.high;omega,rfl⟩
 by_cases hsame:(used.length:Int)=(next.length:Int)
 ·rw [bd_neg hlow,bd_neg hhigh,bne_neg hsame,az.L1_eq,lim_small (by decide) (by omega)]
  by_cases hc:∃l,Chain next free l∧l.Nodup∧∀x∈l,used.getD x.toNat false=false
  ·obtain ⟨l,hl,hnd,hx⟩:=hc
   rw [arena_walk_yes hl used (by omega) hnd hx]
   have hr:∀x∈l,0≤x∧x<used.length:=fun x hx=>by have:=hl.range x hx;omega
   refine (arena_l4 (by rw [marks_length]) (by omega) (by omega)).congr ⟨fun h=>⟨l,by omega,by omega,by omega,hl,hnd,fun j hj=>?_,fun j hj=>(h j hj).2⟩,fun ⟨l',g⟩ i hi=>?_⟩
   ·have h2:=(marks_at hr (j:=(j:Int)) (by omega)).1 (h j hj).1
    constructor
    ·intro ht hm;have:=hx _ hm;rw [toNat_cast,ht] at this;exact Bool.noConfusion this
    ·intro hm;exact h2.resolve_right hm
   ·obtain rfl:=hl.det g.chain
    refine ⟨(marks_at hr (j:=(i:Int)) (by omega)).2 ?_,g.end_ i hi⟩
    by_cases m:(i:Int)∈l
    ·exact .inr m
    ·exact .inl ((g.mark i hi).2 m)
  ·rw [arena_walk_no (used.count false) used free (by omega) (Nat.le_refl _) hc]
   refine .inr ⟨fun ⟨l,g⟩=>hc ⟨l,g.chain,g.nodup,fun x hx=>?_⟩,rfl⟩
   have hr:=g.chain.range x hx
   have e:((x.toNat:Nat):Int)=x:=by omega
   apply bool_not
   intro h
   have hm:=(g.mark x.toNat (by omega)).1 h
   rw [e] at hm;exact hm hx
 ·rw [bd_neg hlow,bd_neg hhigh,bne_pos hsame];exact .inr ⟨fun ⟨l,g⟩=>by have:=g.same;omega,rfl⟩
end Go.Proofs.YtkihjakbbcajbaaGreat.TB
