/- Parts of the proof, joined: ZpmA, PM32, PM33, ZpmB. -/
import Derived.Test.YtkihjakbbcajbaaGreatPrim
import Derived.RangeFuncNested
import Derived.RangeFuncBound
import Derived.RangeFuncCalls
import Derived.RangeFuncLeaves
import Derived.OrdersIn
namespace Go.Proofs.YtkihjakbbcajbaaGreat.PM
open Go Go.Proofs
noncomputable section
set_option linter.unusedVariables false
def tl:List (Nat × TI):=[(1,.other),(2,.data (.int .i64)),(3,.data (.int .i64)),(4,.data .bool),(5,.data (.int .u8)),(6,.data (.int .u8)),(7,.data t14),(8,.data t14),(9,.data .str),(10,.data .str),(11,.data .str),(12,.data (.int .u64)),(13,.data t15),(14,.data t15),(15,.other),(16,.other),(17,.other),(21,.data (.int .i32)),(22,.data (.slice (.int .u8))),(23,.data (.int .u64)),(24,.data (.arr 32 (.int .u8))),(25,.data (.arr 32 (.int .u8))),(26,.data (.int .u32)),(27,.data (.arr 16 (.int .u32))),(28,.data (.slice t7)),(29,.data t8),(30,.data t8),(31,.data (.int .i64)),(33,.other),(35,.other),(37,.other),(39,.other),(40,.other),(41,.other),(42,.other),(43,.other),(45,.other),(46,.other),(47,.other),(48,.other),(49,.data t0),(50,.data t0),(51,.data t1),(52,.data t1),(53,.data (.arr 3 t0)),(54,.data (.slice (.int .u32))),(55,.data (.slice t1)),(56,.data (.slice (.int .i64))),(57,.data (.slice .bool)),(58,.data t2),(59,.data t2),(60,.data (.slice t3)),(61,.data t4),(62,.data t4),(63,.data t5),(64,.data t5),(65,.data t6),(66,.data t6),(67,.data t7),(68,.data t7),(70,.other),(71,.other),(72,.other),(73,.other),(74,.other),(75,.other),(76,.data t12),(77,.data t12),(78,.other),(79,.data (.slice t10)),(80,.data t11),(81,.data t11),(82,.data (.arr 2 (.int .i64))),(83,.data (.slice t9)),(84,.data t10),(85,.data t10),(86,.other),(87,.other),(88,.other),(89,.data t12),(90,.data t12),(91,.other),(92,.other),(93,.other),(94,.other),(95,.other),(96,.other),(97,.other),(99,.other),(100,.data t13),(101,.data t13),(102,.other),(103,.other),(105,.other),(106,.other),(107,.other),(108,.other),(109,.other),(110,.data (.int .u64)),(111,.other),(112,.other),(113,.other),(114,.other),(115,.other),(116,.other),(117,.other),(118,.other),(119,.other),(120,.other),(121,.other),(122,.other),(123,.other),(124,.other),(126,.other),(127,.other),(129,.other),(130,.other),(131,.other),(132,.other),(133,.other),(134,.other),(135,.data t9),(136,.data t9),(137,.other),(138,.other),(139,.other),(140,.other),(142,.other),(143,.other),(144,.other),(145,.other),(147,.other),(148,.other),(149,.other),(150,.other),(151,.other),(152,.other),(153,.other),(154,.other),(155,.other),(156,.other),(157,.other),(158,.other),(159,.other),(160,.other),(162,.other),(164,.other),(166,.other),(168,.other),(169,.other),(170,.other),(171,.other),(172,.other),(173,.other),(174,.other),(176,.other),(178,.other),(179,.other),(180,.other),(181,.other),(182,.other),(183,.other),(185,.other),(186,.other),(187,.other),(188,.other),(190,.other),(191,.other),(192,.other),(194,.other),(195,.other),(196,.other),(197,.other),(198,.other),(199,.other),(200,.other),(201,.other),(203,.other),(205,.other),(206,.other),(207,.other),(208,.other),(209,.other),(210,.other),(211,.other),(212,.other),(214,.other),(215,.other),(216,.other),(217,.other),(218,.other),(219,.data (.arr 4 (.int .i64))),(220,.other),(221,.other),(222,.other),(223,.data t3),(224,.data t3),(225,.other),(226,.other),(227,.other),(228,.other),(229,.other),(230,.other),(232,.other),(233,.other),(234,.other),(235,.other),(236,.other),(237,.other),(239,.other),(240,.other),(241,.other),(243,.other),(245,.other),(246,.other),(247,.other),(248,.other),(249,.other),(250,.other),(251,.other),(252,.other),(253,.other),(254,.other),(256,.other),(257,.other),(258,.other),(259,.other),(260,.other),(261,.other),(262,.other),(264,.other),(266,.other),(267,.other),(268,.other),(274,.other),(275,.data (.int .u8)),(276,.data (.int .u8)),(277,.other),(278,.other),(279,.data (.int .i32)),(280,.data (.int .i32))]
def eqs:List Nat:=[25,27,50,52,53,66,82,136,219,224]
def globs:List (Nat × PV):=[]
def prims:List (Nat × Prim):=[(48,.clone (.int .u32)),(139,.clone (.int .i64)),(144,.clone t1),(145,.clone .bool),(146,.clone t3)]
theorem primsOk:PrimsOk Tryz.prog prims:=.cons clone48<|.cons clone139<|.cons clone144<|.cons clone145<|.cons clone146<|.nil
theorem tabOk:tabB Tryz.prog tl=true:=by kernel_rfl
theorem eqOk:EqOk Tryz.prog ⟨tl,fun _=>none,[],eqs,[],[]⟩:=eqOk_of tabOk (by kernel_rfl)
theorem mixOk:Tryz.prog.follows .mixedOrders=true:=by kernel_rfl
def dw.sg:Sig:=⟨[.val (.int .i64)],[(t2,true),((.int .i64),true)]⟩
def dw.E:Env:=⟨tl,fun i=>look i [],[],eqs,globs,prims⟩
def dw.c:=cxOf dw.E dw.sg Tryz.f102
def dw.b:=body Tryz.f102
def dw.Fn:Fun:=fnOf dw.E dw.sg Tryz.f102
def dw.F (n:Int):Option (t2.den × Int × Unit):=dw.Fn.F (n,())
def dw.L1 (n:Int) (l1:List Int) (l2:List Bool):Option (t2.den × Int × Unit):=res dw.c (atJoin dw.b [1,0,1]) ⟨[(0,(.v (.int .i64) n)),(2,(.ptr 0 []))],[(0,some (.box (.agg [(.sl 1),(.sl 2),(.v (.int .i64) 0)]))),(1,some (.row (.int .i64) l1 false)),(2,some (.row .bool l2 false))],3,[]⟩
def dw.L2 (n t17_:Int) (l2:List Int) (l3:List Bool) (l4:List Int) (l5:List Bool):Option (t2.den × Int × Unit):=res dw.c (atLoop dw.b [1,1,1,0,1,0]) ⟨[(0,(.v (.int .i64) n)),(2,(.ptr 0 [])),(4,(.ptr 1 [])),(16,(.v (.int .i64) n)),(17,(.v (.int .i64) t17_))],[(0,some (.box (.agg [(.sl 2),(.sl 3),(.v (.int .i64) 0)]))),(1,some (.box (.agg [(.sl 4),(.sl 5),(.v (.int .i64) 0)]))),(2,some (.row (.int .i64) l2 false)),(3,some (.row .bool l3 false)),(4,some (.row (.int .i64) l4 false)),(5,some (.row .bool l5 false))],6,[]⟩
def dw.L3 (n t17_:Int) (l2:List Int) (l3:List Bool) (l4:List Int) (l5:List Bool):Option (t2.den × Int × Unit):=res dw.c (atJoin dw.b [1,1,1,0,1,0,0,1,0]) ⟨[(0,(.v (.int .i64) n)),(2,(.ptr 0 [])),(4,(.ptr 1 [])),(16,(.v (.int .i64) n)),(17,(.v (.int .i64) t17_))],[(0,some (.box (.agg [(.sl 2),(.sl 3),(.v (.int .i64) 0)]))),(1,some (.box (.agg [(.sl 4),(.sl 5),(.v (.int .i64) 0)]))),(2,some (.row (.int .i64) l2 false)),(3,some (.row .bool l3 false)),(4,some (.row (.int .i64) l4 false)),(5,some (.row .bool l5 false))],6,[]⟩
theorem dw.spec:FnSpec Tryz.prog globs 102 dw.Fn:=spec_of (E:=dw.E) (envOk_at tabOk eqOk primsOk (.nil)) mixOk Tryz.func102 (by kernel_rfl)
theorem dw.L1_eq (n l1 l2):dw.L1 n l1 l2=
 bif (decide ((0:Int)≤n∧(n:Int)≤n) && (lim (Int.toNat n) .bool)) then
  dw.L2 n 0 l1 l2 ([]:List Int) (List.replicate (Int.toNat n) false)
 else none:=res_eq (by kernel_rfl)
theorem dw.L2_eq (n t17_ l2 l3 l4 l5):dw.L2 n t17_ l2 l3 l4 l5=
 bif (decide ((t17_:Int)<n)) then
  dw.L3 n t17_ l2 l3 l4 l5
 else
  bif (decide ((0:Int)≤(IntKind.wrap .i64 (n - 1))∧((IntKind.wrap .i64 (n - 1)):Int)<((List.length l4:Int)))) then
   some (((List.set l4 (Int.toNat (IntKind.wrap .i64 (n - 1))) (-1)),l5,0,()),0,())
  else none:=res_eq (by kernel_rfl)
theorem dw.L3_eq (n t17_ l2 l3 l4 l5):dw.L3 n t17_ l2 l3 l4 l5=
 bif (lim ((List.length l4)+(List.length ([(IntKind.wrap .i64 (t17_+1))]:List Int))) (.int .i64)) then
  dw.L2 n (IntKind.wrap .i64 (t17_+1)) l2 l3 (l4++([(IntKind.wrap .i64 (t17_+1))]:List Int)) l5
 else none:=res_eq (by kernel_rfl)
theorem dw.F_eq (n):dw.F n=
 bif (decide ((n:Int)<1)) then
  some ((([]:List Int),([]:List Bool),0,()),2,())
 else
  bif (decide ((n:Int)>16)) then
   some ((([]:List Int),([]:List Bool),0,()),2,())
  else
   dw.L1 n ([]:List Int) ([]:List Bool):=by kernel_rfl
def gr.sg:Sig:=⟨[.val (.int .u32),.val (.int .u32)],[((.int .u32),true),((.int .u32),true)]⟩
def gr.E:Env:=⟨tl,fun i=>look i [],[],eqs,globs,prims⟩
def gr.Fn:Fun:=fnOf gr.E gr.sg Tryz.f184
theorem gr.spec:FnSpec Tryz.prog globs 184 gr.Fn:=spec_of (E:=gr.E) (envOk_at tabOk eqOk primsOk (.nil)) mixOk Tryz.func184 (by kernel_rfl)
def fu.sg:Sig:=⟨[.val (.int .u64),.val (.int .u64)],[((.int .u64),true),((.int .u64),true)]⟩
def fu.E:Env:=⟨tl,fun i=>look i [],[],eqs,globs,prims⟩
def fu.Fn:Fun:=fnOf fu.E fu.sg Tryz.f185
def fu.F (x y:Int):Option (Int × Int × Unit):=fu.Fn.F (x,y,())
theorem fu.spec:FnSpec Tryz.prog globs 185 fu.Fn:=spec_of (E:=fu.E) (envOk_at tabOk eqOk primsOk (.nil)) mixOk Tryz.func185 (by kernel_rfl)
theorem fu.F_eq (x y):fu.F x y=
 bif (decide ((0:Int)≤32)) then
  bif (decide ((0:Int)≤32)) then
   bif (decide ((0:Int)≤32)) then
    bif (decide ((0:Int)≤32)) then
     bif (decide ((0:Int)≤32)) then
      some ((IntKind.wrap .u64 ((IntKind.wrap .u64 ((IntKind.wrap .u64 ((Int.fdiv x (2 ^ min (Int.toNat 32) (IntKind.bits .u64)))*(Int.fdiv y (2 ^ min (Int.toNat 32) (IntKind.bits .u64)))))+(Int.fdiv (IntKind.wrap .u64 ((IntKind.wrap .u64 ((Int.fdiv x (2 ^ min (Int.toNat 32) (IntKind.bits .u64)))*(bits .and .u64 y 4294967295)))+(Int.fdiv (IntKind.wrap .u64 ((bits .and .u64 x 4294967295)*(bits .and .u64 y 4294967295))) (2 ^ min (Int.toNat 32) (IntKind.bits .u64))))) (2 ^ min (Int.toNat 32) (IntKind.bits .u64)))))+(Int.fdiv (IntKind.wrap .u64 ((bits .and .u64 (IntKind.wrap .u64 ((IntKind.wrap .u64 ((Int.fdiv x (2 ^ min (Int.toNat 32) (IntKind.bits .u64)))*(bits .and .u64 y 4294967295)))+(Int.fdiv (IntKind.wrap .u64 ((bits .and .u64 x 4294967295)*(bits .and .u64 y 4294967295))) (2 ^ min (Int.toNat 32) (IntKind.bits .u64))))) 4294967295)+(IntKind.wrap .u64 ((bits .and .u64 x 4294967295)*(Int.fdiv y (2 ^ min (Int.toNat 32) (IntKind.bits .u64))))))) (2 ^ min (Int.toNat 32) (IntKind.bits .u64))))),(IntKind.wrap .u64 (x*y)),())
     else none
    else none
   else none
  else none
 else none:=by kernel_rfl
def de.sg:Sig:=⟨[.val (.int .u64),.val (.int .u64)],[((.int .u64),true),((.int .u64),true)]⟩
def de.E:Env:=⟨tl,fun i=>look i [(184,gr.Fn),(185,fu.Fn)],[],eqs,globs,prims⟩
def de.c:=cxOf de.E de.sg Tryz.f174
def de.b:=body Tryz.f174
def de.Fn:Fun:=fnOf de.E de.sg Tryz.f174
def de.F (x y:Int):Option (Int × Int × Unit):=de.Fn.F (x,y,())
def de.L1 (x y:Int):Option (Int × Int × Unit):=res de.c (atJoin de.b [1,0]) ⟨[(0,(.v (.int .u64) x)),(1,(.v (.int .u64) y))],[],0,[]⟩
theorem de.spec:FnSpec Tryz.prog globs 174 de.Fn:=spec_of (E:=de.E) (envOk_at tabOk eqOk primsOk (.cons gr.spec<|.cons fu.spec<|.nil)) mixOk Tryz.func174 (by kernel_rfl)
theorem de.L1_eq (x y):de.L1 x y=
 (fu.F x y).bind fun r0=>
 some (r0.1,r0.2.1,()):=res_eq (by kernel_rfl)
theorem de.F_eq (x y):de.F x y=
 de.L1 x y:=by kernel_rfl
def ao.sg:Sig:=⟨[.val (.slice (.int .i64)),.val (.int .i64)],[((.slice (.int .i64)),true)]⟩
def ao.E:Env:=⟨tl,fun i=>look i [(174,de.Fn)],[],eqs,globs,prims⟩
def ao.c:=cxOf ao.E ao.sg Tryz.f138
def ao.b:=body Tryz.f138
def ao.Fn:Fun:=fnOf ao.E ao.sg Tryz.f138
def ao.F (x:List Int) (count:Int):Option ((List Int) × Unit):=ao.Fn.F (x,count,())
def ao.L1 (x:List Int) (count:Int):Option ((List Int) × Unit):=res ao.c (atJoin ao.b [1,0,1]) ⟨[(0,(.v (.slice (.int .i64)) x)),(1,(.v (.int .i64) count))],[],0,[]⟩
def ao.L2 (x:List Int) (lo:Int):Option ((List Int) × Unit):=res ao.c (atJoin ao.b [1,1,1,0,1]) ⟨[(0,(.v (.slice (.int .i64)) x)),(6,(.v (.int .u64) lo))],[],0,[]⟩
def ao.L3 (n:Int) (l0:List Int):Option ((List Int) × Unit):=res ao.c (atLoop ao.b [1,1,1,1,1,1,0,0]) ⟨[(7,(.sl 0)),(8,(.v (.int .i64) n))],[(0,some (.row (.int .i64) l0 false))],1,[]⟩
def ao.L4 (n:Int) (l0:List Int):Option ((List Int) × Unit):=res ao.c (atJoin ao.b [1,1,1,1,1,1,0,0,0,0,1]) ⟨[(7,(.sl 0)),(8,(.v (.int .i64) n))],[(0,some (.row (.int .i64) l0 false))],1,[]⟩
theorem ao.spec:FnSpec Tryz.prog globs 138 ao.Fn:=spec_of (E:=ao.E) (envOk_at tabOk eqOk primsOk (.cons de.spec<|.nil)) mixOk Tryz.func138 (by kernel_rfl)
theorem ao.L1_eq (x count):ao.L1 x count=
 (de.F (IntKind.wrap .u64 ((List.length x:Int))) (IntKind.wrap .u64 count)).bind fun r0=>
 bif (decide ((r0.1:Int)>0)) then
  none
 else
  bif (decide ((r0.2.1:Int)>9223372036854775807)) then
   none
  else
   ao.L2 x r0.2.1:=res_eq (by kernel_rfl)
theorem ao.L2_eq (x lo):ao.L2 x lo=
 bif (decide ((0:Int)≤(IntKind.wrap .i64 lo)∧((IntKind.wrap .i64 lo):Int)≤(IntKind.wrap .i64 lo)) && (lim (Int.toNat (IntKind.wrap .i64 lo)) (.int .i64))) then
  ao.L3 (((min (List.length x) (List.length (List.replicate (Int.toNat (IntKind.wrap .i64 lo)) (0:Int))):Nat):Int)) (splice (List.replicate (Int.toNat (IntKind.wrap .i64 lo)) (0:Int)) 0 (List.take (List.length (List.replicate (Int.toNat (IntKind.wrap .i64 lo)) (0:Int))) x))
 else none:=res_eq (by kernel_rfl)
theorem ao.L3_eq (n l0):ao.L3 n l0=
 bif (decide ((n:Int)<((List.length l0:Int)))) then
  ao.L4 n l0
 else
  some (l0,()):=res_eq (by kernel_rfl)
theorem ao.L4_eq (n l0):ao.L4 n l0=
 bif (decide ((0:Int)≤n∧(n:Int)≤((List.length l0:Int))∧(((List.length l0:Int)):Int)≤((List.length l0:Int)))) then
  bif (decide ((0:Int)≤0∧(0:Int)≤n∧(n:Int)≤((List.length l0:Int)))) then
   ao.L3 (IntKind.wrap .i64 (n+(((min (List.length (List.take ((Int.toNat n) - (Int.toNat 0)) (List.drop (Int.toNat 0) l0))) ((Int.toNat ((List.length l0:Int))) - (Int.toNat n)):Nat):Int)))) (splice l0 (Int.toNat n) (List.take ((Int.toNat ((List.length l0:Int))) - (Int.toNat n)) (List.take ((Int.toNat n) - (Int.toNat 0)) (List.drop (Int.toNat 0) l0))))
  else none
 else none:=res_eq (by kernel_rfl)
theorem ao.F_eq (x count):ao.F x count=
 bif (decide ((count:Int)<0)) then
  none
 else
  ao.L1 x count:=by kernel_rfl
def fx.sg:Sig:=⟨[.val (.int .i64)],[(t4,true),((.int .i64),true)]⟩
def fx.E:Env:=⟨tl,fun i=>look i [(138,ao.Fn)],[],eqs,globs,prims⟩
def fx.c:=cxOf fx.E fx.sg Tryz.f103
def fx.b:=body Tryz.f103
def fx.Fn:Fun:=fnOf fx.E fx.sg Tryz.f103
def fx.F (n:Int):Option (t4.den × Int × Unit):=fx.Fn.F (n,())
def fx.L1 (n:Int) (l1:List Int):Option (t4.den × Int × Unit):=res fx.c (atJoin fx.b [1,0,1]) ⟨[(0,(.v (.int .i64) n)),(2,(.ptr 0 []))],[(0,some (.box (.agg [(.sl 1),(.sl 2),(.v (.int .i64) 0),(.v (.int .i64) 0)]))),(1,some (.row (.int .i64) l1 false)),(2,some (.row (.int .i64) l1 false))],3,[]⟩
theorem fx.spec:FnSpec Tryz.prog globs 103 fx.Fn:=spec_of (E:=fx.E) (envOk_at tabOk eqOk primsOk (.cons ao.spec<|.nil)) mixOk Tryz.func103 (by kernel_rfl)
theorem fx.L1_eq (n l1):fx.L1 n l1=
 (ao.F ([(-1)]:List Int) n).bind fun r0=>
 bif (lim (List.length r0.1) (.int .i64)) then
  some ((r0.1,r0.1,(-1),(-1),()),0,())
 else none:=res_eq (by kernel_rfl)
theorem fx.F_eq (n):fx.F n=
 bif (decide ((n:Int)<1)) then
  some ((([]:List Int),([]:List Int),0,0,()),2,())
 else
  bif (decide ((n:Int)>16)) then
   some ((([]:List Int),([]:List Int),0,0,()),2,())
  else
   fx.L1 n ([]:List Int):=by kernel_rfl
def gh.sg:Sig:=⟨[],[((.slice t3),true)]⟩
def gh.E:Env:=⟨tl,fun i=>look i [],[],eqs,globs,prims⟩
def gh.Fn:Fun:=fnOf gh.E gh.sg Tryz.f104
def gh.F:Option ((List t3.den) × Unit):=gh.Fn.F ()
theorem gh.spec:FnSpec Tryz.prog globs 104 gh.Fn:=spec_of (E:=gh.E) (envOk_at tabOk eqOk primsOk (.nil)) mixOk Tryz.func104 (by kernel_rfl)
theorem gh.F_eq:gh.F=
 bif (decide ((0:Int)≤16∧(16:Int)≤16) && (lim (Int.toNat 16) t3)) then
  some ((List.replicate (Int.toNat 16) (0,0,false,())),())
 else none:=by kernel_rfl
def di.sg:Sig:=⟨[.val (.int .i64)],[(t5,true),((.int .i64),true)]⟩
def di.E:Env:=⟨tl,fun i=>look i [(102,dw.Fn),(103,fx.Fn),(104,gh.Fn)],[],eqs,globs,prims⟩
def di.c:=cxOf di.E di.sg Tryz.f72
def di.b:=body Tryz.f72
def di.Fn:Fun:=fnOf di.E di.sg Tryz.f72
def di.F (capacity:Int):Option (t5.den × Int × Unit):=di.Fn.F (capacity,())
def di.L1 (capacity:Int) (l1:List Int) (l2:List t1.den) (l3:List Int) (l4:List Bool) (l5:List t3.den):Option (t5.den × Int × Unit):=res di.c (atJoin di.b [1,0,1]) ⟨[(0,(.v (.int .i64) capacity)),(2,(.ptr 0 []))],[(0,some (.box (.agg [(.v (.int .i64) 0),(.sl 1),(.sl 2),(.agg [(.sl 3),(.sl 4),(.v (.int .i64) 0)]),(.sl 5),(.agg [(.sl 6),(.sl 7),(.v (.int .i64) 0),(.v (.int .i64) 0)])]))),(1,some (.row (.int .u32) l1 false)),(2,some (.row t1 l2 false)),(3,some (.row (.int .i64) l3 false)),(4,some (.row .bool l4 false)),(5,some (.row t3 l5 false)),(6,some (.row (.int .i64) l3 false)),(7,some (.row (.int .i64) l3 false))],8,[]⟩
theorem di.spec:FnSpec Tryz.prog globs 72 di.Fn:=spec_of (E:=di.E) (envOk_at tabOk eqOk primsOk (.cons dw.spec<|.cons fx.spec<|.cons gh.spec<|.nil)) mixOk Tryz.func72 (by kernel_rfl)
theorem di.L1_eq (capacity l1 l2 l3 l4 l5):di.L1 capacity l1 l2 l3 l4 l5=
 (dw.F capacity).bind fun r0=>
 (fx.F capacity).bind fun r1=>
 bif (decide ((0:Int)≤capacity∧(capacity:Int)≤capacity) && (lim (Int.toNat capacity) (.int .u32))) then
  bif (decide ((0:Int)≤capacity∧(capacity:Int)≤capacity) && (lim (Int.toNat capacity) t1)) then
   gh.F.bind fun r2=>
   some ((capacity,(List.replicate (Int.toNat capacity) (0:Int)),(List.replicate (Int.toNat capacity) ((0,0,0,()),0,0,0,())),r0.1,r2.1,r1.1,()),0,())
  else none
 else none:=res_eq (by kernel_rfl)
theorem di.F_eq (capacity):di.F capacity=
 bif (decide ((capacity:Int)<1)) then
  some ((0,([]:List Int),([]:List t1.den),(([]:List Int),([]:List Bool),0,()),([]:List t3.den),(([]:List Int),([]:List Int),0,0,()),()),2,())
 else
  bif (decide ((capacity:Int)>8)) then
   some ((0,([]:List Int),([]:List t1.den),(([]:List Int),([]:List Bool),0,()),([]:List t3.den),(([]:List Int),([]:List Int),0,0,()),()),2,())
  else
   di.L1 capacity ([]:List Int) ([]:List t1.den) ([]:List Int) ([]:List Bool) ([]:List t3.den):=by kernel_rfl
def cw.sg:Sig:=⟨[.val t0],[((.int .i64),true)]⟩
def cw.E:Env:=⟨tl,fun i=>look i [],[],eqs,globs,prims⟩
def cw.c:=cxOf cw.E cw.sg Tryz.f98
def cw.b:=body Tryz.f98
def cw.Fn:Fun:=fnOf cw.E cw.sg Tryz.f98
def cw.F (l:t0.den):Option (Int × Unit):=cw.Fn.F (l,())
def cw.L1:Option (Int × Unit):=res cw.c (atJoin cw.b [1,0,1]) ⟨[],[],0,[]⟩
theorem cw.spec:FnSpec Tryz.prog globs 98 cw.Fn:=spec_of (E:=cw.E) (envOk_at tabOk eqOk primsOk (.nil)) mixOk Tryz.func98 (by kernel_rfl)
theorem cw.L1_eq:cw.L1=
 some (0,()):=res_eq (by kernel_rfl)
theorem cw.F_eq (l):cw.F l=
 bif (decide ((l.1:Int)<1)) then
  some (8,())
 else
  bif (decide ((l.1:Int)>1000000000)) then
   some (8,())
  else
   bif (decide ((l.2.1:Int)<0)) then
    some (8,())
   else
    bif (decide ((l.2.1:Int)>1000000000)) then
     some (8,())
    else
     bif (decide ((l.2.2.1:Int)<1)) then
      some (8,())
     else
      bif (decide ((l.2.2.1:Int)>1000000000)) then
       some (8,())
      else
       cw.L1:=by kernel_rfl
def cx.sg:Sig:=⟨[.val t1],[((.int .i64),true)]⟩
def cx.E:Env:=⟨tl,fun i=>look i [(98,cw.Fn)],[],eqs,globs,prims⟩
def cx.c:=cxOf cx.E cx.sg Tryz.f99
def cx.b:=body Tryz.f99
def cx.Fn:Fun:=fnOf cx.E cx.sg Tryz.f99
def cx.F (b:t1.den):Option (Int × Unit):=cx.Fn.F (b,())
def cx.L1 (b0 b02:Int) (b03 b04:Int) (b05 b06:Int):Option (Int × Unit):=res cx.c (atJoin cx.b [1,0,1,1]) ⟨[(1,(.ptr 0 []))],[(0,some (.box (.agg [(.agg [(.v (.int .i64) b0),(.v (.int .i64) b02),(.v (.int .i64) b03)]),(.v (.int .i64) b04),(.v (.int .i64) b05),(.v (.int .u64) b06)])))],1,[]⟩
def cx.L2:Option (Int × Unit):=res cx.c (atJoin cx.b [1,1,1,0,1]) ⟨[],[],0,[]⟩
theorem cx.spec:FnSpec Tryz.prog globs 99 cx.Fn:=spec_of (E:=cx.E) (envOk_at tabOk eqOk primsOk (.cons cw.spec<|.nil)) mixOk Tryz.func99 (by kernel_rfl)
theorem cx.L1_eq (b0 b02 b03 b04 b05 b06):cx.L1 b0 b02 b03 b04 b05 b06=
 bif (decide ((b04:Int)<0)) then
  some (8,())
 else
  bif (decide (((IntKind.wrap .i64 (b0 - b04)):Int)<0)) then
   some (8,())
  else
   bif (decide ((b05:Int)<0)) then
    some (8,())
   else
    bif (decide ((b05:Int)≥b03)) then
     some (8,())
    else
     bif ((IntKind.wrap .i64 (b0 - b04))==0) then
      bif (decide ((b05:Int)>0)) then
       some (8,())
      else
       cx.L2
     else
      cx.L2:=res_eq (by kernel_rfl)
theorem cx.L2_eq:cx.L2=
 some (0,()):=res_eq (by kernel_rfl)
theorem cx.F_eq (b):cx.F b=
 (cw.F b.1).bind fun r0=>
 bif (r0.1 !=0) then
  some (r0.1,())
 else
  cx.L1 b.1.1 b.1.2.1 b.1.2.2.1 b.2.1 b.2.2.1 b.2.2.2.1:=by kernel_rfl
def bm.sg:Sig:=⟨[.val t4],[((.int .i64),true)]⟩
def bm.E:Env:=⟨tl,fun i=>look i [],[],eqs,globs,prims⟩
def bm.c:=cxOf bm.E bm.sg Tryz.f148
def bm.b:=body Tryz.f148
def bm.Fn:Fun:=fnOf bm.E bm.sg Tryz.f148
def bm.F (o:t4.den):Option (Int × Unit):=bm.Fn.F (o,())
def bm.L1 (n:Int) (b0 b02:List Int) (b03 b04:Int):Option (Int × Unit):=res bm.c (atJoin bm.b [1,1,0,1]) ⟨[(1,(.ptr 0 [])),(3,(.v (.int .i64) n))],[(0,some (.box (.agg [(.v (.slice (.int .i64)) b0),(.v (.slice (.int .i64)) b02),(.v (.int .i64) b03),(.v (.int .i64) b04)])))],1,[]⟩
def bm.L2 (n last i:Int) (b0 b02:List Int) (b03 b04:Int) (l1:List Bool):Option (Int × Unit):=res bm.c (atLoop bm.b [1,1,1,1,1,0,1,0]) ⟨[(1,(.ptr 0 [])),(3,(.v (.int .i64) n)),(4,(.sl 1)),(5,(.v (.int .i64) last)),(6,(.v (.int .i64) i))],[(0,some (.box (.agg [(.v (.slice (.int .i64)) b0),(.v (.slice (.int .i64)) b02),(.v (.int .i64) b03),(.v (.int .i64) b04)]))),(1,some (.row .bool l1 false))],2,[]⟩
def bm.L3 (n last i:Int) (b0 b02:List Int) (b03 b04:Int) (l1:List Bool):Option (Int × Unit):=res bm.c (atJoin bm.b [1,1,1,1,1,0,1,0,0,0,1]) ⟨[(1,(.ptr 0 [])),(3,(.v (.int .i64) n)),(4,(.sl 1)),(5,(.v (.int .i64) last)),(6,(.v (.int .i64) i))],[(0,some (.box (.agg [(.v (.slice (.int .i64)) b0),(.v (.slice (.int .i64)) b02),(.v (.int .i64) b03),(.v (.int .i64) b04)]))),(1,some (.row .bool l1 false))],2,[]⟩
def bm.L4 (last t63_ t64_:Int) (b0 b02:List Int) (b03 b04:Int) (l1:List Bool):Option (Int × Unit):=res bm.c (atLoop bm.b [1,1,1,1,1,1,0,1,0]) ⟨[(1,(.ptr 0 [])),(5,(.v (.int .i64) last)),(62,(.sl 1)),(63,(.v (.int .i64) t63_)),(64,(.v (.int .i64) t64_))],[(0,some (.box (.agg [(.v (.slice (.int .i64)) b0),(.v (.slice (.int .i64)) b02),(.v (.int .i64) b03),(.v (.int .i64) b04)]))),(1,some (.row .bool l1 false))],2,[]⟩
def bm.L5 (last t63_ t64_:Int) (b0 b02:List Int) (b03 b04:Int) (l1:List Bool):Option (Int × Unit):=res bm.c (atJoin bm.b [1,1,1,1,1,1,0,1,0,0,1,0]) ⟨[(1,(.ptr 0 [])),(5,(.v (.int .i64) last)),(62,(.sl 1)),(63,(.v (.int .i64) t63_)),(64,(.v (.int .i64) t64_))],[(0,some (.box (.agg [(.v (.slice (.int .i64)) b0),(.v (.slice (.int .i64)) b02),(.v (.int .i64) b03),(.v (.int .i64) b04)]))),(1,some (.row .bool l1 false))],2,[]⟩
def bm.L6:Option (Int × Unit):=res bm.c (atJoin bm.b [1,1,1,1,1,1,1,0,1]) ⟨[],[],0,[]⟩
def bm.L7 (last t63_ t64_:Int) (b0 b02:List Int) (b03 b04:Int) (l1:List Bool):Option (Int × Unit):=res bm.c (atJoin bm.b [1,1,1,1,1,1,0,1,0,0,1,1,0,0,1,1]) ⟨[(1,(.ptr 0 [])),(5,(.v (.int .i64) last)),(62,(.sl 1)),(63,(.v (.int .i64) t63_)),(64,(.v (.int .i64) t64_))],[(0,some (.box (.agg [(.v (.slice (.int .i64)) b0),(.v (.slice (.int .i64)) b02),(.v (.int .i64) b03),(.v (.int .i64) b04)]))),(1,some (.row .bool l1 false))],2,[]⟩
def bm.L8 (n i:Int) (b0 b02:List Int) (b03 b04:Int) (l1:List Bool):Option (Int × Unit):=res bm.c (atJoin bm.b [1,1,1,1,1,0,1,0,0,1,0,0,0,1]) ⟨[(1,(.ptr 0 [])),(3,(.v (.int .i64) n)),(4,(.sl 1)),(6,(.v (.int .i64) i))],[(0,some (.box (.agg [(.v (.slice (.int .i64)) b0),(.v (.slice (.int .i64)) b02),(.v (.int .i64) b03),(.v (.int .i64) b04)]))),(1,some (.row .bool l1 false))],2,[]⟩
theorem bm.spec:FnSpec Tryz.prog globs 148 bm.Fn:=spec_of (E:=bm.E) (envOk_at tabOk eqOk primsOk (.nil)) mixOk Tryz.func148 (by kernel_rfl)
theorem bm.L1_eq (n b0 b02 b03 b04):bm.L1 n b0 b02 b03 b04=
 bif (decide ((0:Int)≤n∧(n:Int)≤n) && (lim (Int.toNat n) .bool)) then
  bm.L2 n (-1) b03 b0 b02 b03 b04 (List.replicate (Int.toNat n) false)
 else none:=res_eq (by kernel_rfl)
theorem bm.L2_eq (n last i b0 b02 b03 b04 l1):bm.L2 n last i b0 b02 b03 b04 l1=
 bif (i !=(-1)) then
  bm.L3 n last i b0 b02 b03 b04 l1
 else
  bm.L4 last ((List.length l1:Int)) 0 b0 b02 b03 b04 l1:=res_eq (by kernel_rfl)
theorem bm.L3_eq (n last i b0 b02 b03 b04 l1):bm.L3 n last i b0 b02 b03 b04 l1=
 bif (decide ((i:Int)<0)) then
  some (8,())
 else
  bif (decide ((i:Int)≥n)) then
   some (8,())
  else
   bif (decide ((0:Int)≤i∧(i:Int)<((List.length l1:Int)))) then
    bif (List.getD l1 (Int.toNat i) false) then
     some (8,())
    else
     bif (decide ((0:Int)≤i∧(i:Int)<((List.length b0:Int)))) then
      bif ((List.getD b0 (Int.toNat i) 0) !=last) then
       some (8,())
      else
       bm.L8 n i b0 b02 b03 b04 l1
     else none
   else none:=res_eq (by kernel_rfl)
theorem bm.L4_eq (last t63_ t64_ b0 b02 b03 b04 l1):bm.L4 last t63_ t64_ b0 b02 b03 b04 l1=
 bif (decide ((t64_:Int)<t63_)) then
  bm.L5 last t63_ t64_ b0 b02 b03 b04 l1
 else
  bif (b04 !=last) then
   some (8,())
  else
   bm.L6:=res_eq (by kernel_rfl)
theorem bm.L5_eq (last t63_ t64_ b0 b02 b03 b04 l1):bm.L5 last t63_ t64_ b0 b02 b03 b04 l1=
 bif (decide ((0:Int)≤t64_∧(t64_:Int)<((List.length l1:Int)))) then
  bif (!(List.getD l1 (Int.toNat t64_) false)) then
   bif (decide ((0:Int)≤t64_∧(t64_:Int)<((List.length b0:Int)))) then
    bif ((List.getD b0 (Int.toNat t64_) 0) !=(-1)) then
     some (8,())
    else
     bif (decide ((0:Int)≤t64_∧(t64_:Int)<((List.length b02:Int)))) then
      bif ((List.getD b02 (Int.toNat t64_) 0) !=(-1)) then
       some (8,())
      else
       bm.L7 last t63_ t64_ b0 b02 b03 b04 l1
     else none
   else none
  else
   bm.L7 last t63_ t64_ b0 b02 b03 b04 l1
 else none:=res_eq (by kernel_rfl)
theorem bm.L6_eq:bm.L6=
 some (0,()):=res_eq (by kernel_rfl)
theorem bm.L7_eq (last t63_ t64_ b0 b02 b03 b04 l1):bm.L7 last t63_ t64_ b0 b02 b03 b04 l1=
 bm.L4 last t63_ (IntKind.wrap .i64 (t64_+1)) b0 b02 b03 b04 l1:=res_eq (by kernel_rfl)
theorem bm.L8_eq (n i b0 b02 b03 b04 l1):bm.L8 n i b0 b02 b03 b04 l1=
 bif (decide ((0:Int)≤i∧(i:Int)<((List.length l1:Int)))) then
  bif (decide ((0:Int)≤i∧(i:Int)<((List.length b02:Int)))) then
   bm.L2 n i (List.getD b02 (Int.toNat i) 0) b0 b02 b03 b04 (List.set l1 (Int.toNat i) true)
  else none
 else none:=res_eq (by kernel_rfl)
theorem bm.F_eq (o):bm.F o=
 bif (decide ((((List.length o.1:Int)):Int)<1)) then
  some (8,())
 else
  bif (decide ((((List.length o.1:Int)):Int)>16)) then
   some (8,())
  else
   bif (((List.length o.2.1:Int)) !=((List.length o.1:Int))) then
    some (8,())
   else
    bm.L1 ((List.length o.1:Int)) o.1 o.2.1 o.2.2.1 o.2.2.2.1:=by kernel_rfl
def eh.sg:Sig:=⟨[.val t4],[((.slice (.int .i64)),true),((.int .i64),true)]⟩
def eh.E:Env:=⟨tl,fun i=>look i [(148,bm.Fn)],[],eqs,globs,prims⟩
def eh.c:=cxOf eh.E eh.sg Tryz.f134
def eh.b:=body Tryz.f134
def eh.Fn:Fun:=fnOf eh.E eh.sg Tryz.f134
def eh.F (o:t4.den):Option ((List Int) × Int × Unit):=eh.Fn.F (o,())
def eh.L1 (b0 b02:List Int) (b03 b04:Int):Option ((List Int) × Int × Unit):=res eh.c (atJoin eh.b [1,0,1,1]) ⟨[(1,(.ptr 0 []))],[(0,some (.box (.agg [(.v (.slice (.int .i64)) b0),(.v (.slice (.int .i64)) b02),(.v (.int .i64) b03),(.v (.int .i64) b04)])))],1,[]⟩
def eh.L2 (i:Int) (b0 b02:List Int) (b03 b04:Int) (l1:List Int):Option ((List Int) × Int × Unit):=res eh.c (atLoop eh.b [1,1,1,0,1,0]) ⟨[(1,(.ptr 0 [])),(5,(.sl 1)),(6,(.v (.int .i64) i))],[(0,some (.box (.agg [(.v (.slice (.int .i64)) b0),(.v (.slice (.int .i64)) b02),(.v (.int .i64) b03),(.v (.int .i64) b04)]))),(1,some (.row (.int .i64) l1 false))],2,[]⟩
def eh.L3 (i:Int) (b0 b02:List Int) (b03 b04:Int) (l1:List Int):Option ((List Int) × Int × Unit):=res eh.c (atJoin eh.b [1,1,1,0,1,0,0,0,1]) ⟨[(1,(.ptr 0 [])),(5,(.sl 1)),(6,(.v (.int .i64) i))],[(0,some (.box (.agg [(.v (.slice (.int .i64)) b0),(.v (.slice (.int .i64)) b02),(.v (.int .i64) b03),(.v (.int .i64) b04)]))),(1,some (.row (.int .i64) l1 false))],2,[]⟩
theorem eh.spec:FnSpec Tryz.prog globs 134 eh.Fn:=spec_of (E:=eh.E) (envOk_at tabOk eqOk primsOk (.cons bm.spec<|.nil)) mixOk Tryz.func134 (by kernel_rfl)
theorem eh.L1_eq (b0 b02 b03 b04):eh.L1 b0 b02 b03 b04=
 eh.L2 b03 b0 b02 b03 b04 ([]:List Int):=res_eq (by kernel_rfl)
theorem eh.L2_eq (i b0 b02 b03 b04 l1):eh.L2 i b0 b02 b03 b04 l1=
 bif (i !=(-1)) then
  eh.L3 i b0 b02 b03 b04 l1
 else
  some (l1,0,()):=res_eq (by kernel_rfl)
theorem eh.L3_eq (i b0 b02 b03 b04 l1):eh.L3 i b0 b02 b03 b04 l1=
 bif (lim ((List.length l1)+(List.length ([i]:List Int))) (.int .i64)) then
  bif (decide ((0:Int)≤i∧(i:Int)<((List.length b02:Int)))) then
   eh.L2 (List.getD b02 (Int.toNat i) 0) b0 b02 b03 b04 (l1++([i]:List Int))
  else none
 else none:=res_eq (by kernel_rfl)
theorem eh.F_eq (o):eh.F o=
 (bm.F o).bind fun r0=>
 bif (r0.1 !=0) then
  some (([]:List Int),r0.1,())
 else
  eh.L1 o.1 o.2.1 o.2.2.1 o.2.2.2.1:=by kernel_rfl
def b8.sg:Sig:=⟨[.val t2],[((.int .i64),true)]⟩
def b8.E:Env:=⟨tl,fun i=>look i [],[],eqs,globs,prims⟩
def b8.c:=cxOf b8.E b8.sg Tryz.f140
def b8.b:=body Tryz.f140
def b8.Fn:Fun:=fnOf b8.E b8.sg Tryz.f140
def b8.F (a:t2.den):Option (Int × Unit):=b8.Fn.F (a,())
def b8.L1 (n:Int) (b0:List Int) (b02:List Bool) (b03:Int):Option (Int × Unit):=res b8.c (atJoin b8.b [1,1,0,1]) ⟨[(1,(.ptr 0 [])),(3,(.v (.int .i64) n))],[(0,some (.box (.agg [(.v (.slice (.int .i64)) b0),(.v (.slice .bool) b02),(.v (.int .i64) b03)])))],1,[]⟩
def b8.L2 (n i:Int) (b0:List Int) (b02:List Bool) (b03:Int) (l1:List Bool):Option (Int × Unit):=res b8.c (atLoop b8.b [1,1,1,1,0,1,0]) ⟨[(1,(.ptr 0 [])),(3,(.v (.int .i64) n)),(4,(.sl 1)),(5,(.v (.int .i64) i))],[(0,some (.box (.agg [(.v (.slice (.int .i64)) b0),(.v (.slice .bool) b02),(.v (.int .i64) b03)]))),(1,some (.row .bool l1 false))],2,[]⟩
def b8.L3 (n i:Int) (b0:List Int) (b02:List Bool) (b03:Int) (l1:List Bool):Option (Int × Unit):=res b8.c (atJoin b8.b [1,1,1,1,0,1,0,0,0,1]) ⟨[(1,(.ptr 0 [])),(3,(.v (.int .i64) n)),(4,(.sl 1)),(5,(.v (.int .i64) i))],[(0,some (.box (.agg [(.v (.slice (.int .i64)) b0),(.v (.slice .bool) b02),(.v (.int .i64) b03)]))),(1,some (.row .bool l1 false))],2,[]⟩
def b8.L4 (t53_:List Bool) (t54_ t55_:Int) (b0:List Int) (b02:Int) (l1:List Bool):Option (Int × Unit):=res b8.c (atLoop b8.b [1,1,1,1,1,0,1,0]) ⟨[(1,(.ptr 0 [])),(4,(.sl 1)),(53,(.v (.slice .bool) t53_)),(54,(.v (.int .i64) t54_)),(55,(.v (.int .i64) t55_))],[(0,some (.box (.agg [(.v (.slice (.int .i64)) b0),(.v (.slice .bool) t53_),(.v (.int .i64) b02)]))),(1,some (.row .bool l1 false))],2,[]⟩
def b8.L5 (t53_:List Bool) (t54_ t55_:Int) (b0:List Int) (b02:Int) (l1:List Bool):Option (Int × Unit):=res b8.c (atJoin b8.b [1,1,1,1,1,0,1,0,0,1,0]) ⟨[(1,(.ptr 0 [])),(4,(.sl 1)),(53,(.v (.slice .bool) t53_)),(54,(.v (.int .i64) t54_)),(55,(.v (.int .i64) t55_))],[(0,some (.box (.agg [(.v (.slice (.int .i64)) b0),(.v (.slice .bool) t53_),(.v (.int .i64) b02)]))),(1,some (.row .bool l1 false))],2,[]⟩
def b8.L6 (t53_:List Bool) (t54_ t55_:Int) (b0:List Int) (b02:Int) (l1:List Bool):Option (Int × Unit):=res b8.c (atJoin b8.b [1,1,1,1,1,0,1,0,0,1,1,0,0,1,1]) ⟨[(1,(.ptr 0 [])),(4,(.sl 1)),(53,(.v (.slice .bool) t53_)),(54,(.v (.int .i64) t54_)),(55,(.v (.int .i64) t55_))],[(0,some (.box (.agg [(.v (.slice (.int .i64)) b0),(.v (.slice .bool) t53_),(.v (.int .i64) b02)]))),(1,some (.row .bool l1 false))],2,[]⟩
def b8.L7 (n i:Int) (b0:List Int) (b02:List Bool) (b03:Int) (l1:List Bool):Option (Int × Unit):=res b8.c (atJoin b8.b [1,1,1,1,0,1,0,0,1,0,0,0,1]) ⟨[(1,(.ptr 0 [])),(3,(.v (.int .i64) n)),(4,(.sl 1)),(5,(.v (.int .i64) i))],[(0,some (.box (.agg [(.v (.slice (.int .i64)) b0),(.v (.slice .bool) b02),(.v (.int .i64) b03)]))),(1,some (.row .bool l1 false))],2,[]⟩
theorem b8.spec:FnSpec Tryz.prog globs 140 b8.Fn:=spec_of (E:=b8.E) (envOk_at tabOk eqOk primsOk (.nil)) mixOk Tryz.func140 (by kernel_rfl)
theorem b8.L1_eq (n b0 b02 b03):b8.L1 n b0 b02 b03=
 bif (lim (List.length b02) .bool) then
  b8.L2 n b03 b0 b02 b03 b02
 else none:=res_eq (by kernel_rfl)
theorem b8.L2_eq (n i b0 b02 b03 l1):b8.L2 n i b0 b02 b03 l1=
 bif (i !=(-1)) then
  b8.L3 n i b0 b02 b03 l1
 else
  b8.L4 b02 ((List.length b02:Int)) 0 b0 b03 l1:=res_eq (by kernel_rfl)
theorem b8.L3_eq (n i b0 b02 b03 l1):b8.L3 n i b0 b02 b03 l1=
 bif (decide ((i:Int)<0)) then
  some (8,())
 else
  bif (decide ((i:Int)≥n)) then
   some (8,())
  else
   bif (decide ((0:Int)≤i∧(i:Int)<((List.length l1:Int)))) then
    bif (List.getD l1 (Int.toNat i) false) then
     some (8,())
    else
     b8.L7 n i b0 b02 b03 l1
   else none:=res_eq (by kernel_rfl)
theorem b8.L4_eq (t53_ t54_ t55_ b0 b02 l1):b8.L4 t53_ t54_ t55_ b0 b02 l1=
 bif (decide ((t55_:Int)<t54_)) then
  b8.L5 t53_ t54_ t55_ b0 b02 l1
 else
  some (0,()):=res_eq (by kernel_rfl)
theorem b8.L5_eq (t53_ t54_ t55_ b0 b02 l1):b8.L5 t53_ t54_ t55_ b0 b02 l1=
 bif (decide ((0:Int)≤t55_∧(t55_:Int)<((List.length t53_:Int)))) then
  bif (decide ((0:Int)≤t55_∧(t55_:Int)<((List.length l1:Int)))) then
   bif (!(List.getD l1 (Int.toNat t55_) false)) then
    some (8,())
   else
    bif (List.getD t53_ (Int.toNat t55_) false) then
     bif (decide ((0:Int)≤t55_∧(t55_:Int)<((List.length b0:Int)))) then
      bif ((List.getD b0 (Int.toNat t55_) 0) !=(-1)) then
       some (8,())
      else
       b8.L6 t53_ t54_ t55_ b0 b02 l1
     else none
    else
     b8.L6 t53_ t54_ t55_ b0 b02 l1
  else none
 else none:=res_eq (by kernel_rfl)
theorem b8.L6_eq (t53_ t54_ t55_ b0 b02 l1):b8.L6 t53_ t54_ t55_ b0 b02 l1=
 b8.L4 t53_ t54_ (IntKind.wrap .i64 (t55_+1)) b0 b02 l1:=res_eq (by kernel_rfl)
theorem b8.L7_eq (n i b0 b02 b03 l1):b8.L7 n i b0 b02 b03 l1=
 bif (decide ((0:Int)≤i∧(i:Int)<((List.length l1:Int)))) then
  bif (decide ((0:Int)≤i∧(i:Int)<((List.length b0:Int)))) then
   b8.L2 n (List.getD b0 (Int.toNat i) 0) b0 b02 b03 (List.set l1 (Int.toNat i) true)
  else none
 else none:=res_eq (by kernel_rfl)
theorem b8.F_eq (a):b8.F a=
 bif (decide ((((List.length a.1:Int)):Int)<1)) then
  some (8,())
 else
  bif (decide ((((List.length a.1:Int)):Int)>16)) then
   some (8,())
  else
   bif (((List.length a.2.1:Int)) !=((List.length a.1:Int))) then
    some (8,())
   else
    b8.L1 ((List.length a.1:Int)) a.1 a.2.1 a.2.2.1:=by kernel_rfl
def fy.sg:Sig:=⟨[.val (.int .i64)],[((.int .i64),true)]⟩
def fy.E:Env:=⟨tl,fun i=>look i [],[],eqs,globs,prims⟩
def fy.Fn:Fun:=fnOf fy.E fy.sg Tryz.f176
def fy.F (i:Int):Option (Int × Unit):=fy.Fn.F (i,())
theorem fy.spec:FnSpec Tryz.prog globs 176 fy.Fn:=spec_of (E:=fy.E) (envOk_at tabOk eqOk primsOk (.nil)) mixOk Tryz.func176 (by kernel_rfl)
theorem fy.F_eq (i):fy.F i=
 some ((bits .and .i64 i 15),()):=by kernel_rfl
def g9.sg:Sig:=⟨[.val (.int .u32)],[((.int .i64),true)]⟩
def g9.E:Env:=⟨tl,fun i=>look i [],[],eqs,globs,prims⟩
def g9.Fn:Fun:=fnOf g9.E g9.sg Tryz.f177
def g9.F (key:Int):Option (Int × Unit):=g9.Fn.F (key,())
theorem g9.spec:FnSpec Tryz.prog globs 177 g9.Fn:=spec_of (E:=g9.E) (envOk_at tabOk eqOk primsOk (.nil)) mixOk Tryz.func177 (by kernel_rfl)
theorem g9.F_eq (key):g9.F key=
 bif (decide ((0:Int)≤28)) then
  some ((IntKind.wrap .i64 (Int.fdiv (IntKind.wrap .u32 (key*2654435769)) (2 ^ min (Int.toNat 28) (IntKind.bits .u32)))),())
 else none:=by kernel_rfl
def dh.sg:Sig:=⟨[.val (.slice t3),.val (.int .u32)],[((.int .i64),true),((.int .i64),true)]⟩
def dh.E:Env:=⟨tl,fun i=>look i [(176,fy.Fn),(177,g9.Fn)],[],eqs,globs,prims⟩
def dh.c:=cxOf dh.E dh.sg Tryz.f152
def dh.b:=body Tryz.f152
def dh.Fn:Fun:=fnOf dh.E dh.sg Tryz.f152
def dh.F (x:List t3.den) (key:Int):Option (Int × Int × Unit):=dh.Fn.F (x,key,())
def dh.L1 (x:List t3.den) (key i steps:Int):Option (Int × Int × Unit):=res dh.c (atLoop dh.b [1,0,1,0]) ⟨[(0,(.v (.slice t3) x)),(1,(.v (.int .u32) key)),(4,(.v (.int .i64) i)),(5,(.v (.int .i64) steps))],[],0,[]⟩
def dh.L2 (x:List t3.den) (key i steps:Int):Option (Int × Int × Unit):=res dh.c (atJoin dh.b [1,0,1,0,0,0,1]) ⟨[(0,(.v (.slice t3) x)),(1,(.v (.int .u32) key)),(4,(.v (.int .i64) i)),(5,(.v (.int .i64) steps))],[],0,[]⟩
theorem dh.spec:FnSpec Tryz.prog globs 152 dh.Fn:=spec_of (E:=dh.E) (envOk_at tabOk eqOk primsOk (.cons fy.spec<|.cons g9.spec<|.nil)) mixOk Tryz.func152 (by kernel_rfl)
theorem dh.L1_eq (x key i steps):dh.L1 x key i steps=
 bif (decide ((0:Int)≤i∧(i:Int)<((List.length x:Int)))) then
  bif (((List.getD x (Int.toNat i) (0,0,false,())).2).2).1 then
   bif (decide ((0:Int)≤i∧(i:Int)<((List.length x:Int)))) then
    bif ((List.getD x (Int.toNat i) (0,0,false,())).1 !=key) then
     dh.L2 x key i steps
    else
     some (i,(IntKind.wrap .i64 (steps+1)),())
   else none
  else
   some (i,(IntKind.wrap .i64 (steps+1)),())
 else none:=res_eq (by kernel_rfl)
theorem dh.L2_eq (x key i steps):dh.L2 x key i steps=
 (fy.F (IntKind.wrap .i64 (i+1))).bind fun r0=>
 dh.L1 x key r0.1 (IntKind.wrap .i64 (steps+1)):=res_eq (by kernel_rfl)
theorem dh.F_eq (x key):dh.F x key=
 (g9.F key).bind fun r0=>
 dh.L1 x key r0.1 0:=by kernel_rfl
def aj.sg:Sig:=⟨[.val (.slice t3)],[((.int .i64),true)]⟩
def aj.E:Env:=⟨tl,fun i=>look i [(152,dh.Fn)],[],eqs,globs,prims⟩
def aj.c:=cxOf aj.E aj.sg Tryz.f141
def aj.b:=body Tryz.f141
def aj.Fn:Fun:=fnOf aj.E aj.sg Tryz.f141
def aj.F (x:List t3.den):Option (Int × Unit):=aj.Fn.F (x,())
def aj.L1 (x:List t3.den):Option (Int × Unit):=res aj.c (atJoin aj.b [1,0,1]) ⟨[(0,(.v (.slice t3) x))],[],0,[]⟩
def aj.L2 (x:List t3.den) (n t14_ t15_:Int):Option (Int × Unit):=res aj.c (atLoop aj.b [1,1,1,0,1,0]) ⟨[(0,(.v (.slice t3) x)),(3,(.v (.int .i64) n)),(13,(.v (.slice t3) x)),(14,(.v (.int .i64) t14_)),(15,(.v (.int .i64) t15_))],[],0,[]⟩
def aj.L3 (x:List t3.den) (n t14_ t15_:Int):Option (Int × Unit):=res aj.c (atJoin aj.b [1,1,1,0,1,0,0,1,0]) ⟨[(0,(.v (.slice t3) x)),(3,(.v (.int .i64) n)),(13,(.v (.slice t3) x)),(14,(.v (.int .i64) t14_)),(15,(.v (.int .i64) t15_))],[],0,[]⟩
def aj.L4 (x:List t3.den):Option (Int × Unit):=res aj.c (atJoin aj.b [1,1,1,1,0,1]) ⟨[(0,(.v (.slice t3) x))],[],0,[]⟩
def aj.L5 (x:List t3.den) (t26_:Int):Option (Int × Unit):=res aj.c (atLoop aj.b [1,1,1,1,1,0,1,0]) ⟨[(0,(.v (.slice t3) x)),(26,(.v (.int .i64) t26_))],[],0,[]⟩
def aj.L6 (x:List t3.den) (t26_:Int):Option (Int × Unit):=res aj.c (atJoin aj.b [1,1,1,1,1,0,1,0,0,1,0]) ⟨[(0,(.v (.slice t3) x)),(26,(.v (.int .i64) t26_))],[],0,[]⟩
def aj.L7 (x:List t3.den) (i b0 b02:Int) (b03:Bool):Option (Int × Unit):=res aj.c (atJoin aj.b [1,1,1,1,1,0,1,0,0,1,1,0,0,1,1,0,1]) ⟨[(0,(.v (.slice t3) x)),(6,(.v (.int .i64) i)),(7,(.ptr 0 [])),(26,(.v (.int .i64) i))],[(0,some (.box (.agg [(.v (.int .u32) b0),(.v (.int .i64) b02),(.v .bool b03)])))],1,[]⟩
def aj.L8 (x:List t3.den) (t26_:Int):Option (Int × Unit):=res aj.c (atJoin aj.b [1,1,1,1,1,0,1,0,0,1,1,0,0,1,1,1,1,1]) ⟨[(0,(.v (.slice t3) x)),(26,(.v (.int .i64) t26_))],[],0,[]⟩
def aj.L9 (x:List t3.den) (n t14_ t15_:Int):Option (Int × Unit):=res aj.c (atJoin aj.b [1,1,1,0,1,0,0,1,1,0,0,1,1]) ⟨[(0,(.v (.slice t3) x)),(3,(.v (.int .i64) n)),(13,(.v (.slice t3) x)),(14,(.v (.int .i64) t14_)),(15,(.v (.int .i64) t15_))],[],0,[]⟩
theorem aj.spec:FnSpec Tryz.prog globs 141 aj.Fn:=spec_of (E:=aj.E) (envOk_at tabOk eqOk primsOk (.cons dh.spec<|.nil)) mixOk Tryz.func141 (by kernel_rfl)
theorem aj.L1_eq (x):aj.L1 x=
 aj.L2 x 0 ((List.length x:Int)) 0:=res_eq (by kernel_rfl)
theorem aj.L2_eq (x n t14_ t15_):aj.L2 x n t14_ t15_=
 bif (decide ((t15_:Int)<t14_)) then
  aj.L3 x n t14_ t15_
 else
  bif (decide ((n:Int)>12)) then
   some (8,())
  else
   aj.L4 x:=res_eq (by kernel_rfl)
theorem aj.L3_eq (x n t14_ t15_):aj.L3 x n t14_ t15_=
 bif (decide ((0:Int)≤t15_∧(t15_:Int)<((List.length x:Int)))) then
  bif (((List.getD x (Int.toNat t15_) (0,0,false,())).2).2).1 then
   aj.L9 x (IntKind.wrap .i64 (n+1)) t14_ t15_
  else
   aj.L9 x n t14_ t15_
 else none:=res_eq (by kernel_rfl)
theorem aj.L4_eq (x):aj.L4 x=
 aj.L5 x 0:=res_eq (by kernel_rfl)
theorem aj.L5_eq (x t26_):aj.L5 x t26_=
 bif (decide ((t26_:Int)<16)) then
  aj.L6 x t26_
 else
  some (0,()):=res_eq (by kernel_rfl)
theorem aj.L6_eq (x t26_):aj.L6 x t26_=
 bif (decide ((0:Int)≤t26_∧(t26_:Int)<((List.length x:Int)))) then
  bif (!((((List.getD x (Int.toNat t26_) (0,0,false,())).2).2).1)) then
   bif (!(Ty.beq t3 (List.getD x (Int.toNat t26_) (0,0,false,())) (0,0,false,()))) then
    some (8,())
   else
    bif (((List.getD x (Int.toNat t26_) (0,0,false,())).2).2).1 then
     bif (decide (((((List.getD x (Int.toNat t26_) (0,0,false,())).2).1):Int)<0)) then
      some (8,())
     else
      bif (decide (((((List.getD x (Int.toNat t26_) (0,0,false,())).2).1):Int)≥16)) then
       some (8,())
      else
       aj.L7 x t26_ ((List.getD x (Int.toNat t26_) (0,0,false,())).1) (((List.getD x (Int.toNat t26_) (0,0,false,())).2).1) ((((List.getD x (Int.toNat t26_) (0,0,false,())).2).2).1)
    else
     aj.L7 x t26_ ((List.getD x (Int.toNat t26_) (0,0,false,())).1) (((List.getD x (Int.toNat t26_) (0,0,false,())).2).1) ((((List.getD x (Int.toNat t26_) (0,0,false,())).2).2).1)
  else
   bif (((List.getD x (Int.toNat t26_) (0,0,false,())).2).2).1 then
    bif (decide (((((List.getD x (Int.toNat t26_) (0,0,false,())).2).1):Int)<0)) then
     some (8,())
    else
     bif (decide (((((List.getD x (Int.toNat t26_) (0,0,false,())).2).1):Int)≥16)) then
      some (8,())
     else
      aj.L7 x t26_ ((List.getD x (Int.toNat t26_) (0,0,false,())).1) (((List.getD x (Int.toNat t26_) (0,0,false,())).2).1) ((((List.getD x (Int.toNat t26_) (0,0,false,())).2).2).1)
   else
    aj.L7 x t26_ ((List.getD x (Int.toNat t26_) (0,0,false,())).1) (((List.getD x (Int.toNat t26_) (0,0,false,())).2).1) ((((List.getD x (Int.toNat t26_) (0,0,false,())).2).2).1)
 else none:=res_eq (by kernel_rfl)
theorem aj.L7_eq (x i b0 b02 b03):aj.L7 x i b0 b02 b03=
 (dh.F x b0).bind fun r0=>
 bif b03 then
  bif (r0.1 !=i) then
   some (8,())
  else
   aj.L8 x i
 else
  aj.L8 x i:=res_eq (by kernel_rfl)
theorem aj.L8_eq (x t26_):aj.L8 x t26_=
 aj.L5 x (IntKind.wrap .i64 (t26_+1)):=res_eq (by kernel_rfl)
theorem aj.L9_eq (x n t14_ t15_):aj.L9 x n t14_ t15_=
 aj.L2 x n t14_ (IntKind.wrap .i64 (t15_+1)):=res_eq (by kernel_rfl)
theorem aj.F_eq (x):aj.F x=
 bif (((List.length x:Int)) !=16) then
  some (8,())
 else
  aj.L1 x:=by kernel_rfl
def dc.sg:Sig:=⟨[.val (.slice (.int .i64)),.val (.int .i64)],[((.int .i64),true)]⟩
def dc.E:Env:=⟨tl,fun i=>look i [],[],eqs,globs,prims⟩
def dc.c:=cxOf dc.E dc.sg Tryz.f175
def dc.b:=body Tryz.f175
def dc.Fn:Fun:=fnOf dc.E dc.sg Tryz.f175
def dc.F (s:List Int) (v:Int):Option (Int × Unit):=dc.Fn.F (s,v,())
def dc.L1 (s:List Int) (v t7_ t8_:Int):Option (Int × Unit):=res dc.c (atLoop dc.b [1,0,1,0]) ⟨[(0,(.v (.slice (.int .i64)) s)),(1,(.v (.int .i64) v)),(7,(.v (.int .i64) t7_)),(8,(.v (.int .i64) t8_))],[],0,[]⟩
def dc.L2 (s:List Int) (v t7_ t8_:Int):Option (Int × Unit):=res dc.c (atJoin dc.b [1,0,1,0,0,1,0]) ⟨[(0,(.v (.slice (.int .i64)) s)),(1,(.v (.int .i64) v)),(7,(.v (.int .i64) t7_)),(8,(.v (.int .i64) t8_))],[],0,[]⟩
def dc.L3 (s:List Int) (v t7_ t8_:Int):Option (Int × Unit):=res dc.c (atJoin dc.b [1,0,1,0,0,1,1,0,0,1,1]) ⟨[(0,(.v (.slice (.int .i64)) s)),(1,(.v (.int .i64) v)),(7,(.v (.int .i64) t7_)),(8,(.v (.int .i64) t8_))],[],0,[]⟩
theorem dc.spec:FnSpec Tryz.prog globs 175 dc.Fn:=spec_of (E:=dc.E) (envOk_at tabOk eqOk primsOk (.nil)) mixOk Tryz.func175 (by kernel_rfl)
theorem dc.L1_eq (s v t7_ t8_):dc.L1 s v t7_ t8_=
 bif (decide ((t8_:Int)<t7_)) then
  dc.L2 s v t7_ t8_
 else
  some ((-1),()):=res_eq (by kernel_rfl)
theorem dc.L2_eq (s v t7_ t8_):dc.L2 s v t7_ t8_=
 bif (decide ((0:Int)≤t8_∧(t8_:Int)<((List.length s:Int)))) then
  bif (v==(List.getD s (Int.toNat t8_) 0)) then
   some (t8_,())
  else
   dc.L3 s v t7_ t8_
 else none:=res_eq (by kernel_rfl)
theorem dc.L3_eq (s v t7_ t8_):dc.L3 s v t7_ t8_=
 dc.L1 s v t7_ (IntKind.wrap .i64 (t8_+1)):=res_eq (by kernel_rfl)
theorem dc.F_eq (s v):dc.F s v=
 dc.L1 s v ((List.length s:Int)) 0:=by kernel_rfl
def ft.sg:Sig:=⟨[.val (.slice (.int .i64)),.val (.int .i64)],[(.bool,true)]⟩
def ft.E:Env:=⟨tl,fun i=>look i [(175,dc.Fn)],[],eqs,globs,prims⟩
def ft.Fn:Fun:=fnOf ft.E ft.sg Tryz.f142
def ft.F (s:List Int) (v:Int):Option (Bool × Unit):=ft.Fn.F (s,v,())
theorem ft.spec:FnSpec Tryz.prog globs 142 ft.Fn:=spec_of (E:=ft.E) (envOk_at tabOk eqOk primsOk (.cons dc.spec<|.nil)) mixOk Tryz.func142 (by kernel_rfl)
theorem ft.F_eq (s v):ft.F s v=
 (dc.F s v).bind fun r0=>
 some ((decide ((r0.1:Int)≥0)),()):=by kernel_rfl
def ee.sg:Sig:=⟨[.val (.slice t3),.val (.int .u32)],[((.int .i64),true),((.int .i64),true)]⟩
def ee.E:Env:=⟨tl,fun i=>look i [(141,aj.Fn),(152,dh.Fn)],[],eqs,globs,prims⟩
def ee.c:=cxOf ee.E ee.sg Tryz.f143
def ee.b:=body Tryz.f143
def ee.Fn:Fun:=fnOf ee.E ee.sg Tryz.f143
def ee.F (x:List t3.den) (key:Int):Option (Int × Int × Unit):=ee.Fn.F (x,key,())
def ee.L1 (x:List t3.den) (key:Int):Option (Int × Int × Unit):=res ee.c (atJoin ee.b [1,0,1,1]) ⟨[(0,(.v (.slice t3) x)),(1,(.v (.int .u32) key))],[],0,[]⟩
def ee.L2 (x:List t3.den) (i:Int):Option (Int × Int × Unit):=res ee.c (atJoin ee.b [1,1,1,0,1]) ⟨[(0,(.v (.slice t3) x)),(7,(.v (.int .i64) i))],[],0,[]⟩
theorem ee.spec:FnSpec Tryz.prog globs 143 ee.Fn:=spec_of (E:=ee.E) (envOk_at tabOk eqOk primsOk (.cons aj.spec<|.cons dh.spec<|.nil)) mixOk Tryz.func143 (by kernel_rfl)
theorem ee.L1_eq (x key):ee.L1 x key=
 (dh.F x key).bind fun r0=>
 bif (decide ((0:Int)≤r0.1∧(r0.1:Int)<((List.length x:Int)))) then
  bif (!((((List.getD x (Int.toNat r0.1) (0,0,false,())).2).2).1)) then
   some (0,6,())
  else
   ee.L2 x r0.1
 else none:=res_eq (by kernel_rfl)
theorem ee.L2_eq (x i):ee.L2 x i=
 bif (decide ((0:Int)≤i∧(i:Int)<((List.length x:Int)))) then
  some (((List.getD x (Int.toNat i) (0,0,false,())).2).1,0,())
 else none:=res_eq (by kernel_rfl)
theorem ee.F_eq (x key):ee.F x key=
 (aj.F x).bind fun r0=>
 bif (r0.1 !=0) then
  some (0,r0.1,())
 else
  ee.L1 x key:=by kernel_rfl
def af.sg:Sig:=⟨[.val t5],[((.int .i64),true)]⟩
def af.E:Env:=⟨tl,fun i=>look i [(99,cx.Fn),(134,eh.Fn),(140,b8.Fn),(141,aj.Fn),(142,ft.Fn),(143,ee.Fn)],[],eqs,globs,prims⟩
def af.c:=cxOf af.E af.sg Tryz.f106
def af.b:=body Tryz.f106
def af.Fn:Fun:=fnOf af.E af.sg Tryz.f106
def af.F (t:t5.den):Option (Int × Unit):=af.Fn.F (t,())
def af.L1 (b0:Int) (b02:List Int) (b03:List t1.den) (b04:List Int) (b05:List Bool) (b06:Int) (b07:List t3.den) (b08 b09:List Int) (b010 b011:Int):Option (Int × Unit):=res af.c (atJoin af.b [1,1,1,0,1]) ⟨[(1,(.ptr 0 []))],[(0,some (.box (.agg [(.v (.int .i64) b0),(.v (.slice (.int .u32)) b02),(.v (.slice t1) b03),(.agg [(.v (.slice (.int .i64)) b04),(.v (.slice .bool) b05),(.v (.int .i64) b06)]),(.v (.slice t3) b07),(.agg [(.v (.slice (.int .i64)) b08),(.v (.slice (.int .i64)) b09),(.v (.int .i64) b010),(.v (.int .i64) b011)])])))],1,[]⟩
def af.L2 (b0:Int) (b02:List Int) (b03:List t1.den) (b04:List Int) (b05:List Bool) (b06:Int) (b07:List t3.den) (b08 b09:List Int) (b010 b011:Int) (l1:List Int):Option (Int × Unit):=res af.c (atJoin af.b [1,1,1,1,1,0,1]) ⟨[(1,(.ptr 0 [])),(5,(.sl 1))],[(0,some (.box (.agg [(.v (.int .i64) b0),(.v (.slice (.int .u32)) b02),(.v (.slice t1) b03),(.agg [(.v (.slice (.int .i64)) b04),(.v (.slice .bool) b05),(.v (.int .i64) b06)]),(.v (.slice t3) b07),(.agg [(.v (.slice (.int .i64)) b08),(.v (.slice (.int .i64)) b09),(.v (.int .i64) b010),(.v (.int .i64) b011)])]))),(1,some (.row (.int .i64) l1 false))],2,[]⟩
def af.L3 (used:Int) (t68_:List Bool) (t69_ t70_ b0:Int) (b02:List Int) (b03:List t1.den) (b04:List Int) (b05:Int) (b06:List t3.den) (b07 b08:List Int) (b09 b010:Int) (l1:List Int):Option (Int × Unit):=res af.c (atLoop af.b [1,1,1,1,1,1,1,0,1,0]) ⟨[(1,(.ptr 0 [])),(5,(.sl 1)),(7,(.v (.int .i64) used)),(68,(.v (.slice .bool) t68_)),(69,(.v (.int .i64) t69_)),(70,(.v (.int .i64) t70_))],[(0,some (.box (.agg [(.v (.int .i64) b0),(.v (.slice (.int .u32)) b02),(.v (.slice t1) b03),(.agg [(.v (.slice (.int .i64)) b04),(.v (.slice .bool) t68_),(.v (.int .i64) b05)]),(.v (.slice t3) b06),(.agg [(.v (.slice (.int .i64)) b07),(.v (.slice (.int .i64)) b08),(.v (.int .i64) b09),(.v (.int .i64) b010)])]))),(1,some (.row (.int .i64) l1 false))],2,[]⟩
def af.L4 (used:Int) (t68_:List Bool) (t69_ t70_ b0:Int) (b02:List Int) (b03:List t1.den) (b04:List Int) (b05:Int) (b06:List t3.den) (b07 b08:List Int) (b09 b010:Int) (l1:List Int):Option (Int × Unit):=res af.c (atJoin af.b [1,1,1,1,1,1,1,0,1,0,0,1,0]) ⟨[(1,(.ptr 0 [])),(5,(.sl 1)),(7,(.v (.int .i64) used)),(68,(.v (.slice .bool) t68_)),(69,(.v (.int .i64) t69_)),(70,(.v (.int .i64) t70_))],[(0,some (.box (.agg [(.v (.int .i64) b0),(.v (.slice (.int .u32)) b02),(.v (.slice t1) b03),(.agg [(.v (.slice (.int .i64)) b04),(.v (.slice .bool) t68_),(.v (.int .i64) b05)]),(.v (.slice t3) b06),(.agg [(.v (.slice (.int .i64)) b07),(.v (.slice (.int .i64)) b08),(.v (.int .i64) b09),(.v (.int .i64) b010)])]))),(1,some (.row (.int .i64) l1 false))],2,[]⟩
def af.L5 (used:Int) (t134_:List t3.den) (t135_ t136_:Int):Option (Int × Unit):=res af.c (atLoop af.b [1,1,1,1,1,1,1,1,0,1,0]) ⟨[(7,(.v (.int .i64) used)),(134,(.v (.slice t3) t134_)),(135,(.v (.int .i64) t135_)),(136,(.v (.int .i64) t136_))],[],0,[]⟩
def af.L6 (used:Int) (t134_:List t3.den) (t135_ t136_:Int):Option (Int × Unit):=res af.c (atJoin af.b [1,1,1,1,1,1,1,1,0,1,0,0,1,0]) ⟨[(7,(.v (.int .i64) used)),(134,(.v (.slice t3) t134_)),(135,(.v (.int .i64) t135_)),(136,(.v (.int .i64) t136_))],[],0,[]⟩
def af.L7:Option (Int × Unit):=res af.c (atJoin af.b [1,1,1,1,1,1,1,1,1,0,1]) ⟨[],[],0,[]⟩
def af.L8 (used:Int) (t134_:List t3.den) (t135_ t136_:Int):Option (Int × Unit):=res af.c (atJoin af.b [1,1,1,1,1,1,1,1,0,1,0,0,1,1,0,0,1,1]) ⟨[(7,(.v (.int .i64) used)),(134,(.v (.slice t3) t134_)),(135,(.v (.int .i64) t135_)),(136,(.v (.int .i64) t136_))],[],0,[]⟩
def af.L9 (used i:Int) (is_:Bool) (t68_:List Bool) (t69_ b0:Int) (b02:List Int) (b03:List t1.den) (b04:List Int) (b05:Int) (b06:List t3.den) (b07 b08:List Int) (b09 b010:Int) (l1:List Int):Option (Int × Unit):=res af.c (atJoin af.b [1,1,1,1,1,1,1,0,1,0,0,1,1,0,0,1,0,1]) ⟨[(1,(.ptr 0 [])),(5,(.sl 1)),(7,(.v (.int .i64) used)),(8,(.v (.int .i64) i)),(9,(.v .bool is_)),(68,(.v (.slice .bool) t68_)),(69,(.v (.int .i64) t69_)),(70,(.v (.int .i64) i))],[(0,some (.box (.agg [(.v (.int .i64) b0),(.v (.slice (.int .u32)) b02),(.v (.slice t1) b03),(.agg [(.v (.slice (.int .i64)) b04),(.v (.slice .bool) t68_),(.v (.int .i64) b05)]),(.v (.slice t3) b06),(.agg [(.v (.slice (.int .i64)) b07),(.v (.slice (.int .i64)) b08),(.v (.int .i64) b09),(.v (.int .i64) b010)])]))),(1,some (.row (.int .i64) l1 false))],2,[]⟩
def af.L10 (used i:Int) (t68_:List Bool) (t69_ b0:Int) (b02:List Int) (b03:List t1.den) (b04:List Int) (b05:Int) (b06:List t3.den) (b07 b08:List Int) (b09 b010:Int) (l1:List Int):Option (Int × Unit):=res af.c (atJoin af.b [1,1,1,1,1,1,1,0,1,0,0,1,1,0,0,1,1,0,1]) ⟨[(1,(.ptr 0 [])),(5,(.sl 1)),(7,(.v (.int .i64) used)),(8,(.v (.int .i64) i)),(68,(.v (.slice .bool) t68_)),(69,(.v (.int .i64) t69_)),(70,(.v (.int .i64) i))],[(0,some (.box (.agg [(.v (.int .i64) b0),(.v (.slice (.int .u32)) b02),(.v (.slice t1) b03),(.agg [(.v (.slice (.int .i64)) b04),(.v (.slice .bool) t68_),(.v (.int .i64) b05)]),(.v (.slice t3) b06),(.agg [(.v (.slice (.int .i64)) b07),(.v (.slice (.int .i64)) b08),(.v (.int .i64) b09),(.v (.int .i64) b010)])]))),(1,some (.row (.int .i64) l1 false))],2,[]⟩
def af.L11 (used:Int) (t68_:List Bool) (t69_ t70_ b0:Int) (b02:List Int) (b03:List t1.den) (b04:List Int) (b05:Int) (b06:List t3.den) (b07 b08:List Int) (b09 b010:Int) (l1:List Int):Option (Int × Unit):=res af.c (atJoin af.b [1,1,1,1,1,1,1,0,1,0,0,1,1,0,0,1,1,1,1,1,1]) ⟨[(1,(.ptr 0 [])),(5,(.sl 1)),(7,(.v (.int .i64) used)),(68,(.v (.slice .bool) t68_)),(69,(.v (.int .i64) t69_)),(70,(.v (.int .i64) t70_))],[(0,some (.box (.agg [(.v (.int .i64) b0),(.v (.slice (.int .u32)) b02),(.v (.slice t1) b03),(.agg [(.v (.slice (.int .i64)) b04),(.v (.slice .bool) t68_),(.v (.int .i64) b05)]),(.v (.slice t3) b06),(.agg [(.v (.slice (.int .i64)) b07),(.v (.slice (.int .i64)) b08),(.v (.int .i64) b09),(.v (.int .i64) b010)])]))),(1,some (.row (.int .i64) l1 false))],2,[]⟩
theorem af.spec:FnSpec Tryz.prog globs 106 af.Fn:=spec_of (E:=af.E) (envOk_at tabOk eqOk primsOk (.cons cx.spec<|.cons eh.spec<|.cons b8.spec<|.cons aj.spec<|.cons ft.spec<|.cons ee.spec<|.nil)) mixOk Tryz.func106 (by kernel_rfl)
theorem af.L1_eq (b0 b02 b03 b04 b05 b06 b07 b08 b09 b010 b011):af.L1 b0 b02 b03 b04 b05 b06 b07 b08 b09 b010 b011=
 (eh.F (b08,b09,b010,b011,())).bind fun r0=>
 bif (r0.2.1 !=0) then
  some (8,())
 else
  af.L2 b0 b02 b03 b04 b05 b06 b07 b08 b09 b010 b011 r0.1:=res_eq (by kernel_rfl)
theorem af.L2_eq (b0 b02 b03 b04 b05 b06 b07 b08 b09 b010 b011 l1):af.L2 b0 b02 b03 b04 b05 b06 b07 b08 b09 b010 b011 l1=
 af.L3 0 b05 ((List.length b05:Int)) 0 b0 b02 b03 b04 b06 b07 b08 b09 b010 b011 l1:=res_eq (by kernel_rfl)
theorem af.L3_eq (used t68_ t69_ t70_ b0 b02 b03 b04 b05 b06 b07 b08 b09 b010 l1):af.L3 used t68_ t69_ t70_ b0 b02 b03 b04 b05 b06 b07 b08 b09 b010 l1=
 bif (decide ((t70_:Int)<t69_)) then
  af.L4 used t68_ t69_ t70_ b0 b02 b03 b04 b05 b06 b07 b08 b09 b010 l1
 else
  af.L5 used b06 ((List.length b06:Int)) 0:=res_eq (by kernel_rfl)
theorem af.L4_eq (used t68_ t69_ t70_ b0 b02 b03 b04 b05 b06 b07 b08 b09 b010 l1):af.L4 used t68_ t69_ t70_ b0 b02 b03 b04 b05 b06 b07 b08 b09 b010 l1=
 bif (decide ((0:Int)≤t70_∧(t70_:Int)<((List.length t68_:Int)))) then
  (ft.F l1 t70_).bind fun r0=>
  bif (!((List.getD t68_ (Int.toNat t70_) false)==r0.1)) then
   some (8,())
  else
   bif (!(List.getD t68_ (Int.toNat t70_) false)) then
    bif (decide ((0:Int)≤t70_∧(t70_:Int)<((List.length b02:Int)))) then
     bif ((List.getD b02 (Int.toNat t70_) 0) !=0) then
      some (8,())
     else
      bif (decide ((0:Int)≤t70_∧(t70_:Int)<((List.length b03:Int)))) then
       bif (!(Ty.beq t1 (List.getD b03 (Int.toNat t70_) ((0,0,0,()),0,0,0,())) ((0,0,0,()),0,0,0,()))) then
        some (8,())
       else
        af.L9 used t70_ (List.getD t68_ (Int.toNat t70_) false) t68_ t69_ b0 b02 b03 b04 b05 b06 b07 b08 b09 b010 l1
      else none
    else none
   else
    af.L9 used t70_ (List.getD t68_ (Int.toNat t70_) false) t68_ t69_ b0 b02 b03 b04 b05 b06 b07 b08 b09 b010 l1
 else none:=res_eq (by kernel_rfl)
theorem af.L5_eq (used t134_ t135_ t136_):af.L5 used t134_ t135_ t136_=
 bif (decide ((t136_:Int)<t135_)) then
  af.L6 used t134_ t135_ t136_
 else
  bif (used !=0) then
   some (8,())
  else
   af.L7:=res_eq (by kernel_rfl)
theorem af.L6_eq (used t134_ t135_ t136_):af.L6 used t134_ t135_ t136_=
 bif (decide ((0:Int)≤t136_∧(t136_:Int)<((List.length t134_:Int)))) then
  bif (((List.getD t134_ (Int.toNat t136_) (0,0,false,())).2).2).1 then
   af.L8 (IntKind.wrap .i64 (used - 1)) t134_ t135_ t136_
  else
   af.L8 used t134_ t135_ t136_
 else none:=res_eq (by kernel_rfl)
theorem af.L7_eq:af.L7=
 some (0,()):=res_eq (by kernel_rfl)
theorem af.L8_eq (used t134_ t135_ t136_):af.L8 used t134_ t135_ t136_=
 af.L5 used t134_ t135_ (IntKind.wrap .i64 (t136_+1)):=res_eq (by kernel_rfl)
theorem af.L9_eq (used i is_ t68_ t69_ b0 b02 b03 b04 b05 b06 b07 b08 b09 b010 l1):af.L9 used i is_ t68_ t69_ b0 b02 b03 b04 b05 b06 b07 b08 b09 b010 l1=
 bif (!is_) then
  af.L3 used t68_ t69_ (IntKind.wrap .i64 (i+1)) b0 b02 b03 b04 b05 b06 b07 b08 b09 b010 l1
 else
  af.L10 used i t68_ t69_ b0 b02 b03 b04 b05 b06 b07 b08 b09 b010 l1:=res_eq (by kernel_rfl)
theorem af.L10_eq (used i t68_ t69_ b0 b02 b03 b04 b05 b06 b07 b08 b09 b010 l1):af.L10 used i t68_ t69_ b0 b02 b03 b04 b05 b06 b07 b08 b09 b010 l1=
 bif (decide ((0:Int)≤i∧(i:Int)<((List.length b02:Int)))) then
  (ee.F b06 (List.getD b02 (Int.toNat i) 0)).bind fun r0=>
  bif (r0.2.1 !=0) then
   some (8,())
  else
   bif (r0.1 !=i) then
    some (8,())
   else
    bif (decide ((0:Int)≤i∧(i:Int)<((List.length b03:Int)))) then
     (cx.F (List.getD b03 (Int.toNat i) ((0,0,0,()),0,0,0,()))).bind fun r1=>
     bif (r1.1 !=0) then
      some (8,())
     else
      af.L11 (IntKind.wrap .i64 (used+1)) t68_ t69_ i b0 b02 b03 b04 b05 b06 b07 b08 b09 b010 l1
    else none
 else none:=res_eq (by kernel_rfl)
theorem af.L11_eq (used t68_ t69_ t70_ b0 b02 b03 b04 b05 b06 b07 b08 b09 b010 l1):af.L11 used t68_ t69_ t70_ b0 b02 b03 b04 b05 b06 b07 b08 b09 b010 l1=
 af.L3 used t68_ t69_ (IntKind.wrap .i64 (t70_+1)) b0 b02 b03 b04 b05 b06 b07 b08 b09 b010 l1:=res_eq (by kernel_rfl)
theorem af.F_eq (t):af.F t=
 bif (decide ((t.1:Int)<1)) then
  some (8,())
 else
  bif (decide ((t.1:Int)>8)) then
   some (8,())
  else
   bif (!(Ty.beq (.arr 4 (.int .i64)) ([((List.length t.2.1:Int)),((List.length t.2.2.1:Int)),((List.length t.2.2.2.1.1:Int)),((List.length t.2.2.2.2.2.1.1:Int))]:List Int) ([t.1,t.1,t.1,t.1]:List Int))) then
    some (8,())
   else
    (b8.F t.2.2.2.1).bind fun r0=>
    bif (r0.1 !=0) then
     some (8,())
    else
     (aj.F t.2.2.2.2.1).bind fun r1=>
     bif (r1.1 !=0) then
      some (8,())
     else
      af.L1 t.1 t.2.1 t.2.2.1 t.2.2.2.1.1 t.2.2.2.1.2.1 t.2.2.2.1.2.2.1 t.2.2.2.2.1 t.2.2.2.2.2.1.1 t.2.2.2.2.2.1.2.1 t.2.2.2.2.2.1.2.2.1 t.2.2.2.2.2.1.2.2.2.1:=by kernel_rfl
def f9.sg:Sig:=⟨[.val t0,.val (.int .u64)],[(t1,true),((.int .i64),true)]⟩
def f9.E:Env:=⟨tl,fun i=>look i [(98,cw.Fn)],[],eqs,globs,prims⟩
def f9.c:=cxOf f9.E f9.sg Tryz.f107
def f9.b:=body Tryz.f107
def f9.Fn:Fun:=fnOf f9.E f9.sg Tryz.f107
def f9.F (l:t0.den) (at_:Int):Option (t1.den × Int × Unit):=f9.Fn.F (l,at_,())
def f9.L1 (at_ b0:Int) (b02 b03:Int):Option (t1.den × Int × Unit):=res f9.c (atJoin f9.b [1,0,1,1]) ⟨[(1,(.v (.int .u64) at_)),(2,(.ptr 0 [])),(4,(.ptr 1 []))],[(0,some (.box (.agg [(.v (.int .i64) b0),(.v (.int .i64) b02),(.v (.int .i64) b03)]))),(1,some (.box (.agg [(.agg [(.v (.int .i64) 0),(.v (.int .i64) 0),(.v (.int .i64) 0)]),(.v (.int .i64) 0),(.v (.int .i64) 0),(.v (.int .u64) 0)])))],2,[]⟩
theorem f9.spec:FnSpec Tryz.prog globs 107 f9.Fn:=spec_of (E:=f9.E) (envOk_at tabOk eqOk primsOk (.cons cw.spec<|.nil)) mixOk Tryz.func107 (by kernel_rfl)
theorem f9.L1_eq (at_ b0 b02 b03):f9.L1 at_ b0 b02 b03=
 some (((b0,b02,b03,()),b0,0,at_,()),0,()):=res_eq (by kernel_rfl)
theorem f9.F_eq (l at_):f9.F l at_=
 (cw.F l).bind fun r0=>
 bif (r0.1 !=0) then
  some (((0,0,0,()),0,0,0,()),r0.1,())
 else
  f9.L1 at_ l.1 l.2.1 l.2.2.1:=by kernel_rfl
def fw.sg:Sig:=⟨[.val t5],[(t5,true)]⟩
def fw.E:Env:=⟨tl,fun i=>look i [],[],eqs,globs,prims⟩
def fw.Fn:Fun:=fnOf fw.E fw.sg Tryz.f108
def fw.F (t:t5.den):Option (t5.den × Unit):=fw.Fn.F (t,())
theorem fw.spec:FnSpec Tryz.prog globs 108 fw.Fn:=spec_of (E:=fw.E) (envOk_at tabOk eqOk primsOk (.nil)) mixOk Tryz.func108 (by kernel_rfl)
theorem fw.F_eq (t):fw.F t=
 bif (lim (List.length t.2.1) (.int .u32)) then
  bif (lim (List.length t.2.2.1) t1) then
   bif (lim (List.length t.2.2.2.1.1) (.int .i64)) then
    bif (lim (List.length t.2.2.2.1.2.1) .bool) then
     bif (lim (List.length t.2.2.2.2.1) t3) then
      bif (lim (List.length t.2.2.2.2.2.1.1) (.int .i64)) then
       bif (lim (List.length t.2.2.2.2.2.1.2.1) (.int .i64)) then
        some (t,())
       else none
      else none
     else none
    else none
   else none
  else none
 else none:=by kernel_rfl
def dz.sg:Sig:=⟨[.val t5,.val (.int .u32)],[((.int .i64),true)]⟩
def dz.E:Env:=⟨tl,fun i=>look i [(143,ee.Fn)],[],eqs,globs,prims⟩
def dz.c:=cxOf dz.E dz.sg Tryz.f109
def dz.b:=body Tryz.f109
def dz.Fn:Fun:=fnOf dz.E dz.sg Tryz.f109
def dz.F (t:t5.den) (key:Int):Option (Int × Unit):=dz.Fn.F (t,key,())
def dz.L1 (i:Int):Option (Int × Unit):=res dz.c (atJoin dz.b [1,1,0,1]) ⟨[(5,(.v (.int .i64) i))],[],0,[]⟩
theorem dz.spec:FnSpec Tryz.prog globs 109 dz.Fn:=spec_of (E:=dz.E) (envOk_at tabOk eqOk primsOk (.cons ee.spec<|.nil)) mixOk Tryz.func109 (by kernel_rfl)
theorem dz.L1_eq (i):dz.L1 i=
 some (i,()):=res_eq (by kernel_rfl)
theorem dz.F_eq (t key):dz.F t key=
 (ee.F t.2.2.2.2.1 key).bind fun r0=>
 bif (r0.2.1 !=0) then
  some ((-1),())
 else
  dz.L1 r0.1:=by kernel_rfl
def gb.sg:Sig:=⟨[.val t2],[(t2,true)]⟩
def gb.E:Env:=⟨tl,fun i=>look i [],[],eqs,globs,prims⟩
def gb.Fn:Fun:=fnOf gb.E gb.sg Tryz.f147
def gb.F (a:t2.den):Option (t2.den × Unit):=gb.Fn.F (a,())
theorem gb.spec:FnSpec Tryz.prog globs 147 gb.Fn:=spec_of (E:=gb.E) (envOk_at tabOk eqOk primsOk (.nil)) mixOk Tryz.func147 (by kernel_rfl)
theorem gb.F_eq (a):gb.F a=
 bif (lim (List.length a.1) (.int .i64)) then
  bif (lim (List.length a.2.1) .bool) then
   some (a,())
  else none
 else none:=by kernel_rfl
def dx.sg:Sig:=⟨[.val t2],[(t2,true),((.int .i64),true),((.int .i64),true)]⟩
def dx.E:Env:=⟨tl,fun i=>look i [(140,b8.Fn),(147,gb.Fn)],[],eqs,globs,prims⟩
def dx.c:=cxOf dx.E dx.sg Tryz.f110
def dx.b:=body Tryz.f110
def dx.Fn:Fun:=fnOf dx.E dx.sg Tryz.f110
def dx.F (a:t2.den):Option (t2.den × Int × Int × Unit):=dx.Fn.F (a,())
def dx.L1 (b0:List Int) (b02:List Bool) (b03:Int) (l2:List Int) (l3:List Bool):Option (t2.den × Int × Int × Unit):=res dx.c (atJoin dx.b [1,0,1,1]) ⟨[(1,(.ptr 0 [])),(2,(.ptr 1 []))],[(0,some (.box (.agg [(.v (.slice (.int .i64)) b0),(.v (.slice .bool) b02),(.v (.int .i64) b03)]))),(1,some (.box (.agg [(.sl 2),(.sl 3),(.v (.int .i64) 0)]))),(2,some (.row (.int .i64) l2 false)),(3,some (.row .bool l3 false))],4,[]⟩
def dx.L2 (b0:List Int) (b02:List Bool) (b03:Int) (l2:List Int) (l3:List Bool):Option (t2.den × Int × Int × Unit):=res dx.c (atJoin dx.b [1,1,0,1]) ⟨[(1,(.ptr 0 [])),(2,(.ptr 1 []))],[(0,some (.box (.agg [(.v (.slice (.int .i64)) b0),(.v (.slice .bool) b02),(.v (.int .i64) b03)]))),(1,some (.box (.agg [(.sl 2),(.sl 3),(.v (.int .i64) 0)]))),(2,some (.row (.int .i64) l2 false)),(3,some (.row .bool l3 false))],4,[]⟩
theorem dx.spec:FnSpec Tryz.prog globs 110 dx.Fn:=spec_of (E:=dx.E) (envOk_at tabOk eqOk primsOk (.cons b8.spec<|.cons gb.spec<|.nil)) mixOk Tryz.func110 (by kernel_rfl)
theorem dx.L1_eq (b0 b02 b03 l2 l3):dx.L1 b0 b02 b03 l2 l3=
 bif (b03==(-1)) then
  some ((([]:List Int),([]:List Bool),0,()),0,18,())
 else
  dx.L2 b0 b02 b03 l2 l3:=res_eq (by kernel_rfl)
theorem dx.L2_eq (b0 b02 b03 l2 l3):dx.L2 b0 b02 b03 l2 l3=
 (gb.F (b0,b02,b03,())).bind fun r0=>
 bif (decide ((0:Int)≤b03∧(b03:Int)<((List.length b0:Int)))) then
  bif (decide ((0:Int)≤b03∧(b03:Int)<((List.length r0.1.1:Int)))) then
   bif (decide ((0:Int)≤b03∧(b03:Int)<((List.length r0.1.2.1:Int)))) then
    some (((List.set r0.1.1 (Int.toNat b03) (-1)),(List.set r0.1.2.1 (Int.toNat b03) true),(List.getD b0 (Int.toNat b03) 0),()),b03,0,())
   else none
  else none
 else none:=res_eq (by kernel_rfl)
theorem dx.F_eq (a):dx.F a=
 (b8.F a).bind fun r0=>
 bif (r0.1 !=0) then
  some ((([]:List Int),([]:List Bool),0,()),0,r0.1,())
 else
  dx.L1 a.1 a.2.1 a.2.2.1 ([]:List Int) ([]:List Bool):=by kernel_rfl
def gn.sg:Sig:=⟨[.val t4],[((.int .i64),true),((.int .i64),true)]⟩
def gn.E:Env:=⟨tl,fun i=>look i [(148,bm.Fn)],[],eqs,globs,prims⟩
def gn.Fn:Fun:=fnOf gn.E gn.sg Tryz.f111
def gn.F (o:t4.den):Option (Int × Int × Unit):=gn.Fn.F (o,())
theorem gn.spec:FnSpec Tryz.prog globs 111 gn.Fn:=spec_of (E:=gn.E) (envOk_at tabOk eqOk primsOk (.cons bm.spec<|.nil)) mixOk Tryz.func111 (by kernel_rfl)
def f8.sg:Sig:=⟨[.val t4,.val (.int .i64)],[((.int .i64),true)]⟩
def f8.E:Env:=⟨tl,fun i=>look i [(148,bm.Fn)],[],eqs,globs,prims⟩
def f8.c:=cxOf f8.E f8.sg Tryz.f153
def f8.b:=body Tryz.f153
def f8.Fn:Fun:=fnOf f8.E f8.sg Tryz.f153
def f8.F (o:t4.den) (place:Int):Option (Int × Unit):=f8.Fn.F (o,place,())
def f8.L1 (place:Int) (b0 b02:List Int) (b03 b04:Int):Option (Int × Unit):=res f8.c (atJoin f8.b [1,0,1,1]) ⟨[(1,(.v (.int .i64) place)),(2,(.ptr 0 []))],[(0,some (.box (.agg [(.v (.slice (.int .i64)) b0),(.v (.slice (.int .i64)) b02),(.v (.int .i64) b03),(.v (.int .i64) b04)])))],1,[]⟩
def f8.L2:Option (Int × Unit):=res f8.c (atJoin f8.b [1,1,0,1]) ⟨[],[],0,[]⟩
theorem f8.spec:FnSpec Tryz.prog globs 153 f8.Fn:=spec_of (E:=f8.E) (envOk_at tabOk eqOk primsOk (.cons bm.spec<|.nil)) mixOk Tryz.func153 (by kernel_rfl)
theorem f8.L1_eq (place b0 b02 b03 b04):f8.L1 place b0 b02 b03 b04=
 bif (decide ((place:Int)<0)) then
  some (2,())
 else
  bif (decide ((place:Int)≥((List.length b0:Int)))) then
   some (2,())
  else
   f8.L2:=res_eq (by kernel_rfl)
theorem f8.L2_eq:f8.L2=
 some (0,()):=res_eq (by kernel_rfl)
theorem f8.F_eq (o place):f8.F o place=
 (bm.F o).bind fun r0=>
 bif (r0.1 !=0) then
  some (r0.1,())
 else
  f8.L1 place o.1 o.2.1 o.2.2.1 o.2.2.2.1:=by kernel_rfl
def gi.sg:Sig:=⟨[.val t4],[(t4,true)]⟩
def gi.E:Env:=⟨tl,fun i=>look i [],[],eqs,globs,prims⟩
def gi.Fn:Fun:=fnOf gi.E gi.sg Tryz.f154
def gi.F (o:t4.den):Option (t4.den × Unit):=gi.Fn.F (o,())
theorem gi.spec:FnSpec Tryz.prog globs 154 gi.Fn:=spec_of (E:=gi.E) (envOk_at tabOk eqOk primsOk (.nil)) mixOk Tryz.func154 (by kernel_rfl)
theorem gi.F_eq (o):gi.F o=
 bif (lim (List.length o.1) (.int .i64)) then
  bif (lim (List.length o.2.1) (.int .i64)) then
   some (o,())
  else none
 else none:=by kernel_rfl
def gm.sg:Sig:=⟨[.val t4,.val (.int .i64)],[(.bool,true)]⟩
def gm.E:Env:=⟨tl,fun i=>look i [],[],eqs,globs,prims⟩
def gm.Fn:Fun:=fnOf gm.E gm.sg Tryz.f155
def gm.F (o:t4.den) (place:Int):Option (Bool × Unit):=gm.Fn.F (o,place,())
theorem gm.spec:FnSpec Tryz.prog globs 155 gm.Fn:=spec_of (E:=gm.E) (envOk_at tabOk eqOk primsOk (.nil)) mixOk Tryz.func155 (by kernel_rfl)
theorem gm.F_eq (o place):gm.F o place=
 bif (o.2.2.1==place) then
  some (true,())
 else
  bif (decide ((0:Int)≤place∧(place:Int)<((List.length o.1:Int)))) then
   some (((List.getD o.1 (Int.toNat place) 0) !=(-1)),())
  else none:=by kernel_rfl
def fh.sg:Sig:=⟨[.io t4 true,.val (.int .i64)],[]⟩
def fh.E:Env:=⟨tl,fun i=>look i [],[],eqs,globs,prims⟩
def fh.c:=cxOf fh.E fh.sg Tryz.f156
def fh.b:=body Tryz.f156
def fh.Fn:Fun:=fnOf fh.E fh.sg Tryz.f156
def fh.F (o:t4.den) (place:Int):Option (t4.den × Unit):=fh.Fn.F (o,place,())
def fh.L1 (place p:Int) (n b0 b02:Int) (l1 l2:List Int):Option (t4.den × Unit):=res fh.c (atJoin fh.b [1,0,1]) ⟨[(0,(.ptr 0 [])),(1,(.v (.int .i64) place)),(4,(.v (.int .i64) p)),(5,(.v (.int .i64) n))],[(0,some (.box (.agg [(.sl 1),(.sl 2),(.v (.int .i64) b0),(.v (.int .i64) b02)]))),(1,some (.row (.int .i64) l1 false)),(2,some (.row (.int .i64) l2 false))],3,[(.ptr 0 [])]⟩
def fh.L2 (place b0 b02:Int) (l1 l2:List Int):Option (t4.den × Unit):=res fh.c (atJoin fh.b [1,1,0,1]) ⟨[(0,(.ptr 0 [])),(1,(.v (.int .i64) place))],[(0,some (.box (.agg [(.sl 1),(.sl 2),(.v (.int .i64) b0),(.v (.int .i64) b02)]))),(1,some (.row (.int .i64) l1 false)),(2,some (.row (.int .i64) l2 false))],3,[(.ptr 0 [])]⟩
theorem fh.spec:FnSpec Tryz.prog globs 156 fh.Fn:=spec_of (E:=fh.E) (envOk_at tabOk eqOk primsOk (.nil)) mixOk Tryz.func156 (by kernel_rfl)
theorem fh.L1_eq (place p n b0 b02 l1 l2):fh.L1 place p n b0 b02 l1 l2=
 bif (n==(-1)) then
  fh.L2 place b0 p l1 l2
 else
  bif (decide ((0:Int)≤n∧(n:Int)<((List.length l1:Int)))) then
   fh.L2 place b0 b02 (List.set l1 (Int.toNat n) p) l2
  else none:=res_eq (by kernel_rfl)
theorem fh.L2_eq (place b0 b02 l1 l2):fh.L2 place b0 b02 l1 l2=
 bif (decide ((0:Int)≤place∧(place:Int)<((List.length l1:Int)))) then
  bif (decide ((0:Int)≤place∧(place:Int)<((List.length l2:Int)))) then
   some (((List.set l1 (Int.toNat place) (-1)),(List.set l2 (Int.toNat place) (-1)),b0,b02,()),())
  else none
 else none:=res_eq (by kernel_rfl)
theorem fh.F_eq (o place):fh.F o place=
 bif (decide ((0:Int)≤place∧(place:Int)<((List.length o.1:Int)))) then
  bif (decide ((0:Int)≤place∧(place:Int)<((List.length o.2.1:Int)))) then
   bif ((List.getD o.1 (Int.toNat place) 0)==(-1)) then
    fh.L1 place (List.getD o.1 (Int.toNat place) 0) (List.getD o.2.1 (Int.toNat place) 0) (List.getD o.2.1 (Int.toNat place) 0) o.2.2.2.1 o.1 o.2.1
   else
    bif (decide ((0:Int)≤(List.getD o.1 (Int.toNat place) 0)∧((List.getD o.1 (Int.toNat place) 0):Int)<((List.length o.2.1:Int)))) then
     fh.L1 place (List.getD o.1 (Int.toNat place) 0) (List.getD o.2.1 (Int.toNat place) 0) o.2.2.1 o.2.2.2.1 o.1 (List.set o.2.1 (Int.toNat (List.getD o.1 (Int.toNat place) 0)) (List.getD o.2.1 (Int.toNat place) 0))
    else none
  else none
 else none:=by kernel_rfl
def gq.sg:Sig:=⟨[.val t4,.val (.int .i64)],[(t4,true),((.int .i64),true)]⟩
def gq.E:Env:=⟨tl,fun i=>look i [(153,f8.Fn),(154,gi.Fn),(155,gm.Fn),(156,fh.Fn)],[],eqs,globs,prims⟩
def gq.Fn:Fun:=fnOf gq.E gq.sg Tryz.f149
theorem gq.spec:FnSpec Tryz.prog globs 149 gq.Fn:=spec_of (E:=gq.E) (envOk_at tabOk eqOk primsOk (.cons f8.spec<|.cons gi.spec<|.cons gm.spec<|.cons fh.spec<|.nil)) mixOk Tryz.func149 (by kernel_rfl)
def gp.sg:Sig:=⟨[.val (.slice t3),.val (.int .u32)],[((.slice t3),true),((.int .i64),true)]⟩
def gp.E:Env:=⟨tl,fun i=>look i [(141,aj.Fn),(152,dh.Fn),(176,fy.Fn),(177,g9.Fn)],[],eqs,globs,prims⟩
def gp.Fn:Fun:=fnOf gp.E gp.sg Tryz.f150
theorem gp.spec:FnSpec Tryz.prog globs 150 gp.Fn:=spec_of (E:=gp.E) (envOk_at tabOk eqOk primsOk (.cons aj.spec<|.cons dh.spec<|.cons fy.spec<|.cons g9.spec<|.nil)) mixOk Tryz.func150 (by kernel_rfl)
def gt.sg:Sig:=⟨[.val t2,.val (.int .i64)],[(t2,true),((.int .i64),true)]⟩
def gt.E:Env:=⟨tl,fun i=>look i [(140,b8.Fn),(147,gb.Fn)],[],eqs,globs,prims⟩
def gt.Fn:Fun:=fnOf gt.E gt.sg Tryz.f151
theorem gt.spec:FnSpec Tryz.prog globs 151 gt.Fn:=spec_of (E:=gt.E) (envOk_at tabOk eqOk primsOk (.cons b8.spec<|.cons gb.spec<|.nil)) mixOk Tryz.func151 (by kernel_rfl)
def gk.sg:Sig:=⟨[.io t5 true,.val (.int .u32)],[]⟩
def gk.E:Env:=⟨tl,fun i=>look i [(109,dz.Fn),(149,gq.Fn),(150,gp.Fn),(151,gt.Fn)],[],eqs,globs,prims⟩
def gk.Fn:Fun:=fnOf gk.E gk.sg Tryz.f112
def gk.F (t:t5.den) (key:Int):Option (t5.den × Unit):=gk.Fn.F (t,key,())
theorem gk.spec:FnSpec Tryz.prog globs 112 gk.Fn:=spec_of (E:=gk.E) (envOk_at tabOk eqOk primsOk (.cons dz.spec<|.cons gq.spec<|.cons gp.spec<|.cons gt.spec<|.nil)) mixOk Tryz.func112 (by kernel_rfl)
def cm.sg:Sig:=⟨[.val (.slice t3),.val (.int .u32),.val (.int .i64)],[((.slice t3),true),((.int .i64),true)]⟩
def cm.E:Env:=⟨tl,fun i=>look i [(141,aj.Fn),(152,dh.Fn)],[],eqs,globs,prims⟩
def cm.c:=cxOf cm.E cm.sg Tryz.f113
def cm.b:=body Tryz.f113
def cm.Fn:Fun:=fnOf cm.E cm.sg Tryz.f113
def cm.F (x:List t3.den) (key place:Int):Option ((List t3.den) × Int × Unit):=cm.Fn.F (x,key,place,())
def cm.L1 (x:List t3.den) (key place:Int):Option ((List t3.den) × Int × Unit):=res cm.c (atJoin cm.b [1,0,1,1]) ⟨[(0,(.v (.slice t3) x)),(1,(.v (.int .u32) key)),(2,(.v (.int .i64) place))],[],0,[]⟩
def cm.L2 (x:List t3.den) (key place:Int):Option ((List t3.den) × Int × Unit):=res cm.c (atJoin cm.b [1,1,0,1]) ⟨[(0,(.v (.slice t3) x)),(1,(.v (.int .u32) key)),(2,(.v (.int .i64) place))],[],0,[]⟩
def cm.L3 (x:List t3.den) (key place i:Int):Option ((List t3.den) × Int × Unit):=res cm.c (atJoin cm.b [1,1,1,1,0,1]) ⟨[(0,(.v (.slice t3) x)),(1,(.v (.int .u32) key)),(2,(.v (.int .i64) place)),(9,(.v (.int .i64) i))],[],0,[]⟩
def cm.L4 (x:List t3.den) (key place:Int) (i n:Int) (t38_ t39_:Int):Option ((List t3.den) × Int × Unit):=res cm.c (atLoop cm.b [1,1,1,1,1,1,0,1,0]) ⟨[(0,(.v (.slice t3) x)),(1,(.v (.int .u32) key)),(2,(.v (.int .i64) place)),(9,(.v (.int .i64) i)),(11,(.v (.int .i64) n)),(37,(.v (.slice t3) x)),(38,(.v (.int .i64) t38_)),(39,(.v (.int .i64) t39_))],[],0,[]⟩
def cm.L5 (x:List t3.den) (key place:Int) (i n:Int) (t38_ t39_:Int):Option ((List t3.den) × Int × Unit):=res cm.c (atJoin cm.b [1,1,1,1,1,1,0,1,0,0,1,0]) ⟨[(0,(.v (.slice t3) x)),(1,(.v (.int .u32) key)),(2,(.v (.int .i64) place)),(9,(.v (.int .i64) i)),(11,(.v (.int .i64) n)),(37,(.v (.slice t3) x)),(38,(.v (.int .i64) t38_)),(39,(.v (.int .i64) t39_))],[],0,[]⟩
def cm.L6 (x:List t3.den) (key place i:Int):Option ((List t3.den) × Int × Unit):=res cm.c (atJoin cm.b [1,1,1,1,1,1,1,0,1]) ⟨[(0,(.v (.slice t3) x)),(1,(.v (.int .u32) key)),(2,(.v (.int .i64) place)),(9,(.v (.int .i64) i))],[],0,[]⟩
def cm.L7 (x:List t3.den) (key place:Int) (i n:Int) (t38_ t39_:Int):Option ((List t3.den) × Int × Unit):=res cm.c (atJoin cm.b [1,1,1,1,1,1,0,1,0,0,1,1,0,0,1,1]) ⟨[(0,(.v (.slice t3) x)),(1,(.v (.int .u32) key)),(2,(.v (.int .i64) place)),(9,(.v (.int .i64) i)),(11,(.v (.int .i64) n)),(37,(.v (.slice t3) x)),(38,(.v (.int .i64) t38_)),(39,(.v (.int .i64) t39_))],[],0,[]⟩
theorem cm.spec:FnSpec Tryz.prog globs 113 cm.Fn:=spec_of (E:=cm.E) (envOk_at tabOk eqOk primsOk (.cons aj.spec<|.cons dh.spec<|.nil)) mixOk Tryz.func113 (by kernel_rfl)
theorem cm.L1_eq (x key place):cm.L1 x key place=
 bif (decide ((place:Int)<0)) then
  some (([]:List t3.den),2,())
 else
  bif (decide ((place:Int)≥16)) then
   some (([]:List t3.den),2,())
  else
   cm.L2 x key place:=res_eq (by kernel_rfl)
theorem cm.L2_eq (x key place):cm.L2 x key place=
 (dh.F x key).bind fun r0=>
 bif (decide ((0:Int)≤r0.1∧(r0.1:Int)<((List.length x:Int)))) then
  bif (((List.getD x (Int.toNat r0.1) (0,0,false,())).2).2).1 then
   some (([]:List t3.den),14,())
  else
   cm.L3 x key place r0.1
 else none:=res_eq (by kernel_rfl)
theorem cm.L3_eq (x key place i):cm.L3 x key place i=
 cm.L4 x key place i 0 ((List.length x:Int)) 0:=res_eq (by kernel_rfl)
theorem cm.L4_eq (x key place i n t38_ t39_):cm.L4 x key place i n t38_ t39_=
 bif (decide ((t39_:Int)<t38_)) then
  cm.L5 x key place i n t38_ t39_
 else
  bif (decide ((n:Int)≥12)) then
   some (([]:List t3.den),18,())
  else
   cm.L6 x key place i:=res_eq (by kernel_rfl)
theorem cm.L5_eq (x key place i n t38_ t39_):cm.L5 x key place i n t38_ t39_=
 bif (decide ((0:Int)≤t39_∧(t39_:Int)<((List.length x:Int)))) then
  bif (((List.getD x (Int.toNat t39_) (0,0,false,())).2).2).1 then
   cm.L7 x key place i (IntKind.wrap .i64 (n+1)) t38_ t39_
  else
   cm.L7 x key place i n t38_ t39_
 else none:=res_eq (by kernel_rfl)
theorem cm.L6_eq (x key place i):cm.L6 x key place i=
 bif (lim (List.length x) t3) then
  bif (decide ((0:Int)≤i∧(i:Int)<((List.length x:Int)))) then
   some ((List.set x (Int.toNat i) (key,place,true,())),0,())
  else none
 else none:=res_eq (by kernel_rfl)
theorem cm.L7_eq (x key place i n t38_ t39_):cm.L7 x key place i n t38_ t39_=
 cm.L4 x key place i n t38_ (IntKind.wrap .i64 (t39_+1)):=res_eq (by kernel_rfl)
theorem cm.F_eq (x key place):cm.F x key place=
 (aj.F x).bind fun r0=>
 bif (r0.1 !=0) then
  some (([]:List t3.den),r0.1,())
 else
  cm.L1 x key place:=by kernel_rfl
def dj.sg:Sig:=⟨[.val t4,.val (.int .i64)],[(t4,true),((.int .i64),true)]⟩
def dj.E:Env:=⟨tl,fun i=>look i [(153,f8.Fn),(154,gi.Fn),(155,gm.Fn),(156,fh.Fn)],[],eqs,globs,prims⟩
def dj.c:=cxOf dj.E dj.sg Tryz.f114
def dj.b:=body Tryz.f114
def dj.Fn:Fun:=fnOf dj.E dj.sg Tryz.f114
def dj.F (o:t4.den) (place:Int):Option (t4.den × Int × Unit):=dj.Fn.F (o,place,())
def dj.L1 (place:Int) (b0 b02:List Int) (b03 b04:Int) (l2:List Int):Option (t4.den × Int × Unit):=res dj.c (atJoin dj.b [1,0,1,1]) ⟨[(1,(.v (.int .i64) place)),(2,(.ptr 0 [])),(4,(.ptr 1 []))],[(0,some (.box (.agg [(.v (.slice (.int .i64)) b0),(.v (.slice (.int .i64)) b02),(.v (.int .i64) b03),(.v (.int .i64) b04)]))),(1,some (.box (.agg [(.sl 2),(.sl 3),(.v (.int .i64) 0),(.v (.int .i64) 0)]))),(2,some (.row (.int .i64) l2 false)),(3,some (.row (.int .i64) l2 false))],4,[]⟩
def dj.L2 (place b1 b12:Int) (l2 l4 l5:List Int):Option (t4.den × Int × Unit):=res dj.c (atJoin dj.b [1,1,1,0,1]) ⟨[(1,(.v (.int .i64) place)),(4,(.ptr 0 [])),(7,(.ptr 1 []))],[(0,some (.box (.agg [(.sl 2),(.sl 3),(.v (.int .i64) 0),(.v (.int .i64) 0)]))),(1,some (.box (.agg [(.sl 4),(.sl 5),(.v (.int .i64) b1),(.v (.int .i64) b12)]))),(2,some (.row (.int .i64) l2 false)),(3,some (.row (.int .i64) l2 false)),(4,some (.row (.int .i64) l4 false)),(5,some (.row (.int .i64) l5 false))],6,[]⟩
def dj.L3 (place b1 b12:Int) (l2 l4 l5:List Int):Option (t4.den × Int × Unit):=res dj.c (atJoin dj.b [1,1,1,1,1,0,1]) ⟨[(1,(.v (.int .i64) place)),(4,(.ptr 0 [])),(7,(.ptr 1 []))],[(0,some (.box (.agg [(.sl 2),(.sl 3),(.v (.int .i64) 0),(.v (.int .i64) 0)]))),(1,some (.box (.agg [(.sl 4),(.sl 5),(.v (.int .i64) b1),(.v (.int .i64) b12)]))),(2,some (.row (.int .i64) l2 false)),(3,some (.row (.int .i64) l2 false)),(4,some (.row (.int .i64) l4 false)),(5,some (.row (.int .i64) l5 false))],6,[]⟩
theorem dj.spec:FnSpec Tryz.prog globs 114 dj.Fn:=spec_of (E:=dj.E) (envOk_at tabOk eqOk primsOk (.cons f8.spec<|.cons gi.spec<|.cons gm.spec<|.cons fh.spec<|.nil)) mixOk Tryz.func114 (by kernel_rfl)
theorem dj.L1_eq (place b0 b02 b03 b04 l2):dj.L1 place b0 b02 b03 b04 l2=
 (gi.F (b0,b02,b03,b04,())).bind fun r0=>
 (gm.F r0.1 place).bind fun r1=>
 bif r1.1 then
  (fh.F r0.1 place).bind fun r2=>
  dj.L2 place r2.1.2.2.1 r2.1.2.2.2.1 l2 r2.1.1 r2.1.2.1
 else
  dj.L2 place r0.1.2.2.1 r0.1.2.2.2.1 l2 r0.1.1 r0.1.2.1:=res_eq (by kernel_rfl)
theorem dj.L2_eq (place b1 b12 l2 l4 l5):dj.L2 place b1 b12 l2 l4 l5=
 bif (decide ((0:Int)≤place∧(place:Int)<((List.length l5:Int)))) then
  bif (b1==(-1)) then
   dj.L3 place b1 place l2 l4 (List.set l5 (Int.toNat place) b1)
  else
   bif (decide ((0:Int)≤b1∧(b1:Int)<((List.length l4:Int)))) then
    dj.L3 place b1 b12 l2 (List.set l4 (Int.toNat b1) place) (List.set l5 (Int.toNat place) b1)
   else none
 else none:=res_eq (by kernel_rfl)
theorem dj.L3_eq (place b1 b12 l2 l4 l5):dj.L3 place b1 b12 l2 l4 l5=
 some ((l4,l5,place,b12,()),0,()):=res_eq (by kernel_rfl)
theorem dj.F_eq (o place):dj.F o place=
 (f8.F o place).bind fun r0=>
 bif (r0.1 !=0) then
  some ((([]:List Int),([]:List Int),0,0,()),r0.1,())
 else
  dj.L1 place o.1 o.2.1 o.2.2.1 o.2.2.2.1 ([]:List Int):=by kernel_rfl
def cu.sg:Sig:=⟨[.val t5,.val (.int .u32),.val t0,.val (.int .u64)],[(t5,true),((.int .u32),true),(.bool,true),((.int .i64),true)]⟩
def cu.E:Env:=⟨tl,fun i=>look i [(106,af.Fn),(107,f9.Fn),(108,fw.Fn),(109,dz.Fn),(110,dx.Fn),(111,gn.Fn),(112,gk.Fn),(113,cm.Fn),(114,dj.Fn)],[],eqs,globs,prims⟩
def cu.c:=cxOf cu.E cu.sg Tryz.f74
def cu.b:=body Tryz.f74
def cu.Fn:Fun:=fnOf cu.E cu.sg Tryz.f74
def cu.F (t:t5.den) (key:Int) (l:t0.den) (tick:Int):Option (t5.den × Int × Bool × Int × Unit):=cu.Fn.F (t,key,l,tick,())
def cu.L1 (key tick b0:Int) (b02:List Int) (b03:List t1.den) (b04:List Int) (b05:List Bool) (b06:Int) (b07:List t3.den) (b08 b09:List Int) (b010 b011:Int) (b1 b12 b13:Int) (l3:List Int) (l4:List t1.den) (l5:List Int) (l6:List Bool) (l7:List t3.den):Option (t5.den × Int × Bool × Int × Unit):=res cu.c (atJoin cu.b [1,0,1,1]) ⟨[(1,(.v (.int .u32) key)),(3,(.v (.int .u64) tick)),(4,(.ptr 0 [])),(6,(.ptr 1 [])),(8,(.ptr 2 [])),(9,(.v (.int .u32) 0)),(10,(.v .bool false))],[(0,some (.box (.agg [(.v (.int .i64) b0),(.v (.slice (.int .u32)) b02),(.v (.slice t1) b03),(.agg [(.v (.slice (.int .i64)) b04),(.v (.slice .bool) b05),(.v (.int .i64) b06)]),(.v (.slice t3) b07),(.agg [(.v (.slice (.int .i64)) b08),(.v (.slice (.int .i64)) b09),(.v (.int .i64) b010),(.v (.int .i64) b011)])]))),(1,some (.box (.agg [(.v (.int .i64) b1),(.v (.int .i64) b12),(.v (.int .i64) b13)]))),(2,some (.box (.agg [(.v (.int .i64) 0),(.sl 3),(.sl 4),(.agg [(.sl 5),(.sl 6),(.v (.int .i64) 0)]),(.sl 7),(.agg [(.sl 8),(.sl 9),(.v (.int .i64) 0),(.v (.int .i64) 0)])]))),(3,some (.row (.int .u32) l3 false)),(4,some (.row t1 l4 false)),(5,some (.row (.int .i64) l5 false)),(6,some (.row .bool l6 false)),(7,some (.row t3 l7 false)),(8,some (.row (.int .i64) l5 false)),(9,some (.row (.int .i64) l5 false))],10,[]⟩
def cu.L2 (key b0:Int) (b02:List Int) (b03:List t1.den) (b04:List Int) (b05:List Bool) (b06:Int) (b07:List t3.den) (b08 b09:List Int) (b010 b011:Int) (b2 b22:Int) (b23 b24:Int) (b25 b26:Int) (l3:List Int) (l4:List t1.den) (l5:List Int) (l6:List Bool) (l7:List t3.den):Option (t5.den × Int × Bool × Int × Unit):=res cu.c (atJoin cu.b [1,1,1,0,1]) ⟨[(1,(.v (.int .u32) key)),(4,(.ptr 0 [])),(8,(.ptr 1 [])),(9,(.v (.int .u32) 0)),(10,(.v .bool false)),(13,(.ptr 2 []))],[(0,some (.box (.agg [(.v (.int .i64) b0),(.v (.slice (.int .u32)) b02),(.v (.slice t1) b03),(.agg [(.v (.slice (.int .i64)) b04),(.v (.slice .bool) b05),(.v (.int .i64) b06)]),(.v (.slice t3) b07),(.agg [(.v (.slice (.int .i64)) b08),(.v (.slice (.int .i64)) b09),(.v (.int .i64) b010),(.v (.int .i64) b011)])]))),(1,some (.box (.agg [(.v (.int .i64) 0),(.sl 3),(.sl 4),(.agg [(.sl 5),(.sl 6),(.v (.int .i64) 0)]),(.sl 7),(.agg [(.sl 8),(.sl 9),(.v (.int .i64) 0),(.v (.int .i64) 0)])]))),(2,some (.box (.agg [(.agg [(.v (.int .i64) b2),(.v (.int .i64) b22),(.v (.int .i64) b23)]),(.v (.int .i64) b24),(.v (.int .i64) b25),(.v (.int .u64) b26)]))),(3,some (.row (.int .u32) l3 false)),(4,some (.row t1 l4 false)),(5,some (.row (.int .i64) l5 false)),(6,some (.row .bool l6 false)),(7,some (.row t3 l7 false)),(8,some (.row (.int .i64) l5 false)),(9,some (.row (.int .i64) l5 false))],10,[]⟩
def cu.L3 (key gone:Int) (evicted:Bool) (b0 b02:Int) (b03 b04:Int) (b1 b12:Int) (b13 b14:Int) (b15 b16:Int) (l2:List Int) (l3:List t1.den) (l4:List Int) (l5:List Bool) (l6:List t3.den) (l7 l8:List Int):Option (t5.den × Int × Bool × Int × Unit):=res cu.c (atJoin cu.b [1,1,1,1,1,1,0,1,0,0,1,1]) ⟨[(1,(.v (.int .u32) key)),(8,(.ptr 0 [])),(9,(.v (.int .u32) gone)),(10,(.v .bool evicted)),(13,(.ptr 1 []))],[(0,some (.box (.agg [(.v (.int .i64) b0),(.sl 2),(.sl 3),(.agg [(.sl 4),(.sl 5),(.v (.int .i64) b02)]),(.sl 6),(.agg [(.sl 7),(.sl 8),(.v (.int .i64) b03),(.v (.int .i64) b04)])]))),(1,some (.box (.agg [(.agg [(.v (.int .i64) b1),(.v (.int .i64) b12),(.v (.int .i64) b13)]),(.v (.int .i64) b14),(.v (.int .i64) b15),(.v (.int .u64) b16)]))),(2,some (.row (.int .u32) l2 false)),(3,some (.row t1 l3 false)),(4,some (.row (.int .i64) l4 false)),(5,some (.row .bool l5 false)),(6,some (.row t3 l6 false)),(7,some (.row (.int .i64) l7 false)),(8,some (.row (.int .i64) l8 false))],9,[]⟩
def cu.L4 (gone:Int) (evicted:Bool) (i b0:Int) (b02 b03 b04:Int) (l1:List Int) (l2:List t1.den) (l3:List Int) (l4:List Bool) (l5:List t3.den) (l6 l7:List Int):Option (t5.den × Int × Bool × Int × Unit):=res cu.c (atJoin cu.b [1,1,1,1,1,1,0,1]) ⟨[(8,(.ptr 0 [])),(9,(.v (.int .u32) gone)),(10,(.v .bool evicted)),(14,(.v (.int .i64) i))],[(0,some (.box (.agg [(.v (.int .i64) b0),(.sl 1),(.sl 2),(.agg [(.sl 3),(.sl 4),(.v (.int .i64) b02)]),(.sl 5),(.agg [(.sl 6),(.sl 7),(.v (.int .i64) b03),(.v (.int .i64) b04)])]))),(1,some (.row (.int .u32) l1 false)),(2,some (.row t1 l2 false)),(3,some (.row (.int .i64) l3 false)),(4,some (.row .bool l4 false)),(5,some (.row t3 l5 false)),(6,some (.row (.int .i64) l6 false)),(7,some (.row (.int .i64) l7 false))],8,[]⟩
theorem cu.spec:FnSpec Tryz.prog globs 74 cu.Fn:=spec_of (E:=cu.E) (envOk_at tabOk eqOk primsOk (.cons af.spec<|.cons f9.spec<|.cons fw.spec<|.cons dz.spec<|.cons dx.spec<|.cons gn.spec<|.cons gk.spec<|.cons cm.spec<|.cons dj.spec<|.nil)) mixOk Tryz.func74 (by kernel_rfl)
theorem cu.L1_eq (key tick b0 b02 b03 b04 b05 b06 b07 b08 b09 b010 b011 b1 b12 b13 l3 l4 l5 l6 l7):cu.L1 key tick b0 b02 b03 b04 b05 b06 b07 b08 b09 b010 b011 b1 b12 b13 l3 l4 l5 l6 l7=
 (f9.F (b1,b12,b13,()) tick).bind fun r0=>
 bif (r0.2.1 !=0) then
  some ((0,([]:List Int),([]:List t1.den),(([]:List Int),([]:List Bool),0,()),([]:List t3.den),(([]:List Int),([]:List Int),0,0,()),()),0,false,r0.2.1,())
 else
  cu.L2 key b0 b02 b03 b04 b05 b06 b07 b08 b09 b010 b011 r0.1.1.1 r0.1.1.2.1 r0.1.1.2.2.1 r0.1.2.1 r0.1.2.2.1 r0.1.2.2.2.1 l3 l4 l5 l6 l7:=res_eq (by kernel_rfl)
theorem cu.L2_eq (key b0 b02 b03 b04 b05 b06 b07 b08 b09 b010 b011 b2 b22 b23 b24 b25 b26 l3 l4 l5 l6 l7):cu.L2 key b0 b02 b03 b04 b05 b06 b07 b08 b09 b010 b011 b2 b22 b23 b24 b25 b26 l3 l4 l5 l6 l7=
 (fw.F (b0,b02,b03,(b04,b05,b06,()),b07,(b08,b09,b010,b011,()),())).bind fun r0=>
 (dz.F r0.1 key).bind fun r1=>
 bif (decide ((r1.1:Int)<0)) then
  (dx.F r0.1.2.2.2.1).bind fun r2=>
  bif (r2.2.2.1 !=0) then
   (gn.F r0.1.2.2.2.2.2.1).bind fun r3=>
   bif (decide ((0:Int)≤r3.1∧(r3.1:Int)<((List.length r0.1.2.1:Int)))) then
    (gk.F r0.1 (List.getD r0.1.2.1 (Int.toNat r3.1) 0)).bind fun r4=>
    cu.L3 key (List.getD r0.1.2.1 (Int.toNat r3.1) 0) true r4.1.1 r4.1.2.2.2.1.2.2.1 r4.1.2.2.2.2.2.1.2.2.1 r4.1.2.2.2.2.2.1.2.2.2.1 b2 b22 b23 b24 b25 b26 r4.1.2.1 r4.1.2.2.1 r4.1.2.2.2.1.1 r4.1.2.2.2.1.2.1 r4.1.2.2.2.2.1 r4.1.2.2.2.2.2.1.1 r4.1.2.2.2.2.2.1.2.1
   else none
  else
   cu.L3 key 0 false r0.1.1 r0.1.2.2.2.1.2.2.1 r0.1.2.2.2.2.2.1.2.2.1 r0.1.2.2.2.2.2.1.2.2.2.1 b2 b22 b23 b24 b25 b26 r0.1.2.1 r0.1.2.2.1 r0.1.2.2.2.1.1 r0.1.2.2.2.1.2.1 r0.1.2.2.2.2.1 r0.1.2.2.2.2.2.1.1 r0.1.2.2.2.2.2.1.2.1
 else
  cu.L4 0 false r1.1 r0.1.1 r0.1.2.2.2.1.2.2.1 r0.1.2.2.2.2.2.1.2.2.1 r0.1.2.2.2.2.2.1.2.2.2.1 r0.1.2.1 r0.1.2.2.1 r0.1.2.2.2.1.1 r0.1.2.2.2.1.2.1 r0.1.2.2.2.2.1 r0.1.2.2.2.2.2.1.1 r0.1.2.2.2.2.2.1.2.1:=res_eq (by kernel_rfl)
theorem cu.L3_eq (key gone evicted b0 b02 b03 b04 b1 b12 b13 b14 b15 b16 l2 l3 l4 l5 l6 l7 l8):cu.L3 key gone evicted b0 b02 b03 b04 b1 b12 b13 b14 b15 b16 l2 l3 l4 l5 l6 l7 l8=
 (dx.F (l4,l5,b02,())).bind fun r0=>
 (cm.F l6 key r0.2.1).bind fun r1=>
 bif (decide ((0:Int)≤r0.2.1∧(r0.2.1:Int)<((List.length l2:Int)))) then
  bif (decide ((0:Int)≤r0.2.1∧(r0.2.1:Int)<((List.length l3:Int)))) then
   cu.L4 gone evicted r0.2.1 b0 r0.1.2.2.1 b03 b04 (List.set l2 (Int.toNat r0.2.1) key) (List.set l3 (Int.toNat r0.2.1) ((b1,b12,b13,()),b14,b15,b16,())) r0.1.1 r0.1.2.1 r1.1 l7 l8
  else none
 else none:=res_eq (by kernel_rfl)
theorem cu.L4_eq (gone evicted i b0 b02 b03 b04 l1 l2 l3 l4 l5 l6 l7):cu.L4 gone evicted i b0 b02 b03 b04 l1 l2 l3 l4 l5 l6 l7=
 (dj.F (l6,l7,b03,b04,()) i).bind fun r0=>
 some ((b0,l1,l2,(l3,l4,b02,()),l5,r0.1,()),gone,evicted,0,()):=res_eq (by kernel_rfl)
theorem cu.F_eq (t key l tick):cu.F t key l tick=
 (af.F t).bind fun r0=>
 bif (r0.1 !=0) then
  some ((0,([]:List Int),([]:List t1.den),(([]:List Int),([]:List Bool),0,()),([]:List t3.den),(([]:List Int),([]:List Int),0,0,()),()),0,false,r0.1,())
 else
  cu.L1 key tick t.1 t.2.1 t.2.2.1 t.2.2.2.1.1 t.2.2.2.1.2.1 t.2.2.2.1.2.2.1 t.2.2.2.2.1 t.2.2.2.2.2.1.1 t.2.2.2.2.2.1.2.1 t.2.2.2.2.2.1.2.2.1 t.2.2.2.2.2.1.2.2.2.1 l.1 l.2.1 l.2.2.1 ([]:List Int) ([]:List t1.den) ([]:List Int) ([]:List Bool) ([]:List t3.den):=by kernel_rfl
def dk.sg:Sig:=⟨[.val t5,.val (.int .u32),.val t1],[(t5,true),((.int .i64),true)]⟩
def dk.E:Env:=⟨tl,fun i=>look i [(99,cx.Fn),(106,af.Fn),(108,fw.Fn),(109,dz.Fn)],[],eqs,globs,prims⟩
def dk.c:=cxOf dk.E dk.sg Tryz.f75
def dk.b:=body Tryz.f75
def dk.Fn:Fun:=fnOf dk.E dk.sg Tryz.f75
def dk.F (t:t5.den) (key:Int) (b:t1.den):Option (t5.den × Int × Unit):=dk.Fn.F (t,key,b,())
def dk.L1 (key b0:Int) (b02:List Int) (b03:List t1.den) (b04:List Int) (b05:List Bool) (b06:Int) (b07:List t3.den) (b08 b09:List Int) (b010 b011:Int) (b1 b12:Int) (b13 b14:Int) (b15 b16:Int) (l3:List Int) (l4:List t1.den) (l5:List Int) (l6:List Bool) (l7:List t3.den):Option (t5.den × Int × Unit):=res dk.c (atJoin dk.b [1,0,1,1]) ⟨[(1,(.v (.int .u32) key)),(3,(.ptr 0 [])),(5,(.ptr 1 [])),(6,(.ptr 2 []))],[(0,some (.box (.agg [(.v (.int .i64) b0),(.v (.slice (.int .u32)) b02),(.v (.slice t1) b03),(.agg [(.v (.slice (.int .i64)) b04),(.v (.slice .bool) b05),(.v (.int .i64) b06)]),(.v (.slice t3) b07),(.agg [(.v (.slice (.int .i64)) b08),(.v (.slice (.int .i64)) b09),(.v (.int .i64) b010),(.v (.int .i64) b011)])]))),(1,some (.box (.agg [(.agg [(.v (.int .i64) b1),(.v (.int .i64) b12),(.v (.int .i64) b13)]),(.v (.int .i64) b14),(.v (.int .i64) b15),(.v (.int .u64) b16)]))),(2,some (.box (.agg [(.v (.int .i64) 0),(.sl 3),(.sl 4),(.agg [(.sl 5),(.sl 6),(.v (.int .i64) 0)]),(.sl 7),(.agg [(.sl 8),(.sl 9),(.v (.int .i64) 0),(.v (.int .i64) 0)])]))),(3,some (.row (.int .u32) l3 false)),(4,some (.row t1 l4 false)),(5,some (.row (.int .i64) l5 false)),(6,some (.row .bool l6 false)),(7,some (.row t3 l7 false)),(8,some (.row (.int .i64) l5 false)),(9,some (.row (.int .i64) l5 false))],10,[]⟩
def dk.L2 (key b0:Int) (b02:List Int) (b03:List t1.den) (b04:List Int) (b05:List Bool) (b06:Int) (b07:List t3.den) (b08 b09:List Int) (b010 b011:Int) (b1 b12:Int) (b13 b14:Int) (b15 b16:Int) (l3:List Int) (l4:List t1.den) (l5:List Int) (l6:List Bool) (l7:List t3.den):Option (t5.den × Int × Unit):=res dk.c (atJoin dk.b [1,1,0,1,1]) ⟨[(1,(.v (.int .u32) key)),(3,(.ptr 0 [])),(5,(.ptr 1 [])),(6,(.ptr 2 []))],[(0,some (.box (.agg [(.v (.int .i64) b0),(.v (.slice (.int .u32)) b02),(.v (.slice t1) b03),(.agg [(.v (.slice (.int .i64)) b04),(.v (.slice .bool) b05),(.v (.int .i64) b06)]),(.v (.slice t3) b07),(.agg [(.v (.slice (.int .i64)) b08),(.v (.slice (.int .i64)) b09),(.v (.int .i64) b010),(.v (.int .i64) b011)])]))),(1,some (.box (.agg [(.agg [(.v (.int .i64) b1),(.v (.int .i64) b12),(.v (.int .i64) b13)]),(.v (.int .i64) b14),(.v (.int .i64) b15),(.v (.int .u64) b16)]))),(2,some (.box (.agg [(.v (.int .i64) 0),(.sl 3),(.sl 4),(.agg [(.sl 5),(.sl 6),(.v (.int .i64) 0)]),(.sl 7),(.agg [(.sl 8),(.sl 9),(.v (.int .i64) 0),(.v (.int .i64) 0)])]))),(3,some (.row (.int .u32) l3 false)),(4,some (.row t1 l4 false)),(5,some (.row (.int .i64) l5 false)),(6,some (.row .bool l6 false)),(7,some (.row t3 l7 false)),(8,some (.row (.int .i64) l5 false)),(9,some (.row (.int .i64) l5 false))],10,[]⟩
def dk.L3 (i b0:Int) (b02:List Int) (b03:List t1.den) (b04:List Int) (b05:List Bool) (b06:Int) (b07:List t3.den) (b08 b09:List Int) (b010 b011:Int) (b1 b12:Int) (b13 b14:Int) (b15 b16:Int) (l3:List Int) (l4:List t1.den) (l5:List Int) (l6:List Bool) (l7:List t3.den):Option (t5.den × Int × Unit):=res dk.c (atJoin dk.b [1,1,1,1,0,1]) ⟨[(3,(.ptr 0 [])),(5,(.ptr 1 [])),(6,(.ptr 2 [])),(10,(.v (.int .i64) i))],[(0,some (.box (.agg [(.v (.int .i64) b0),(.v (.slice (.int .u32)) b02),(.v (.slice t1) b03),(.agg [(.v (.slice (.int .i64)) b04),(.v (.slice .bool) b05),(.v (.int .i64) b06)]),(.v (.slice t3) b07),(.agg [(.v (.slice (.int .i64)) b08),(.v (.slice (.int .i64)) b09),(.v (.int .i64) b010),(.v (.int .i64) b011)])]))),(1,some (.box (.agg [(.agg [(.v (.int .i64) b1),(.v (.int .i64) b12),(.v (.int .i64) b13)]),(.v (.int .i64) b14),(.v (.int .i64) b15),(.v (.int .u64) b16)]))),(2,some (.box (.agg [(.v (.int .i64) 0),(.sl 3),(.sl 4),(.agg [(.sl 5),(.sl 6),(.v (.int .i64) 0)]),(.sl 7),(.agg [(.sl 8),(.sl 9),(.v (.int .i64) 0),(.v (.int .i64) 0)])]))),(3,some (.row (.int .u32) l3 false)),(4,some (.row t1 l4 false)),(5,some (.row (.int .i64) l5 false)),(6,some (.row .bool l6 false)),(7,some (.row t3 l7 false)),(8,some (.row (.int .i64) l5 false)),(9,some (.row (.int .i64) l5 false))],10,[]⟩
theorem dk.spec:FnSpec Tryz.prog globs 75 dk.Fn:=spec_of (E:=dk.E) (envOk_at tabOk eqOk primsOk (.cons cx.spec<|.cons af.spec<|.cons fw.spec<|.cons dz.spec<|.nil)) mixOk Tryz.func75 (by kernel_rfl)
theorem dk.L1_eq (key b0 b02 b03 b04 b05 b06 b07 b08 b09 b010 b011 b1 b12 b13 b14 b15 b16 l3 l4 l5 l6 l7):dk.L1 key b0 b02 b03 b04 b05 b06 b07 b08 b09 b010 b011 b1 b12 b13 b14 b15 b16 l3 l4 l5 l6 l7=
 (cx.F ((b1,b12,b13,()),b14,b15,b16,())).bind fun r0=>
 bif (r0.1 !=0) then
  some ((0,([]:List Int),([]:List t1.den),(([]:List Int),([]:List Bool),0,()),([]:List t3.den),(([]:List Int),([]:List Int),0,0,()),()),r0.1,())
 else
  dk.L2 key b0 b02 b03 b04 b05 b06 b07 b08 b09 b010 b011 b1 b12 b13 b14 b15 b16 l3 l4 l5 l6 l7:=res_eq (by kernel_rfl)
theorem dk.L2_eq (key b0 b02 b03 b04 b05 b06 b07 b08 b09 b010 b011 b1 b12 b13 b14 b15 b16 l3 l4 l5 l6 l7):dk.L2 key b0 b02 b03 b04 b05 b06 b07 b08 b09 b010 b011 b1 b12 b13 b14 b15 b16 l3 l4 l5 l6 l7=
 (dz.F (b0,b02,b03,(b04,b05,b06,()),b07,(b08,b09,b010,b011,()),()) key).bind fun r0=>
 bif (decide ((r0.1:Int)<0)) then
  some ((0,([]:List Int),([]:List t1.den),(([]:List Int),([]:List Bool),0,()),([]:List t3.den),(([]:List Int),([]:List Int),0,0,()),()),6,())
 else
  dk.L3 r0.1 b0 b02 b03 b04 b05 b06 b07 b08 b09 b010 b011 b1 b12 b13 b14 b15 b16 l3 l4 l5 l6 l7:=res_eq (by kernel_rfl)
theorem dk.L3_eq (i b0 b02 b03 b04 b05 b06 b07 b08 b09 b010 b011 b1 b12 b13 b14 b15 b16 l3 l4 l5 l6 l7):dk.L3 i b0 b02 b03 b04 b05 b06 b07 b08 b09 b010 b011 b1 b12 b13 b14 b15 b16 l3 l4 l5 l6 l7=
 (fw.F (b0,b02,b03,(b04,b05,b06,()),b07,(b08,b09,b010,b011,()),())).bind fun r0=>
 bif (decide ((0:Int)≤i∧(i:Int)<((List.length r0.1.2.2.1:Int)))) then
  some ((r0.1.1,r0.1.2.1,(List.set r0.1.2.2.1 (Int.toNat i) ((b1,b12,b13,()),b14,b15,b16,())),r0.1.2.2.2.1,r0.1.2.2.2.2.1,r0.1.2.2.2.2.2.1,()),0,())
 else none:=res_eq (by kernel_rfl)
theorem dk.F_eq (t key b):dk.F t key b=
 (af.F t).bind fun r0=>
 bif (r0.1 !=0) then
  some ((0,([]:List Int),([]:List t1.den),(([]:List Int),([]:List Bool),0,()),([]:List t3.den),(([]:List Int),([]:List Int),0,0,()),()),r0.1,())
 else
  dk.L1 key t.1 t.2.1 t.2.2.1 t.2.2.2.1.1 t.2.2.2.1.2.1 t.2.2.2.1.2.2.1 t.2.2.2.2.1 t.2.2.2.2.2.1.1 t.2.2.2.2.2.1.2.1 t.2.2.2.2.2.1.2.2.1 t.2.2.2.2.2.1.2.2.2.1 b.1.1 b.1.2.1 b.1.2.2.1 b.2.1 b.2.2.1 b.2.2.2.1 ([]:List Int) ([]:List t1.den) ([]:List Int) ([]:List Bool) ([]:List t3.den):=by kernel_rfl
def dg.sg:Sig:=⟨[.val (.arr 3 t0)],[(.bool,true)]⟩
def dg.E:Env:=⟨tl,fun i=>look i [(98,cw.Fn)],[],eqs,globs,prims⟩
def dg.c:=cxOf dg.E dg.sg Tryz.f168
def dg.b:=body Tryz.f168
def dg.Fn:Fun:=fnOf dg.E dg.sg Tryz.f168
def dg.F (l:List t0.den):Option (Bool × Unit):=dg.Fn.F (l,())
def dg.L1 (t5_:List t0.den) (t6_:Int):Option (Bool × Unit):=res dg.c (atLoop dg.b [1,0,1,0]) ⟨[(5,(.v (.arr 3 t0) t5_)),(6,(.v (.int .i64) t6_))],[],0,[]⟩
def dg.L2 (t5_:List t0.den) (t6_:Int):Option (Bool × Unit):=res dg.c (atJoin dg.b [1,0,1,0,0,1,0]) ⟨[(5,(.v (.arr 3 t0) t5_)),(6,(.v (.int .i64) t6_))],[],0,[]⟩
def dg.L3 (t5_:List t0.den) (t6_:Int):Option (Bool × Unit):=res dg.c (atJoin dg.b [1,0,1,0,0,1,1,0,0,1,1]) ⟨[(5,(.v (.arr 3 t0) t5_)),(6,(.v (.int .i64) t6_))],[],0,[]⟩
theorem dg.spec:FnSpec Tryz.prog globs 168 dg.Fn:=spec_of (E:=dg.E) (envOk_at tabOk eqOk primsOk (.cons cw.spec<|.nil)) mixOk Tryz.func168 (by kernel_rfl)
theorem dg.L1_eq (t5_ t6_):dg.L1 t5_ t6_=
 bif (decide ((t6_:Int)<3)) then
  dg.L2 t5_ t6_
 else
  some (true,()):=res_eq (by kernel_rfl)
theorem dg.L2_eq (t5_ t6_):dg.L2 t5_ t6_=
 bif (decide ((0:Int)≤t6_∧(t6_:Int)<3)) then
  (cw.F (List.getD t5_ (Int.toNat t6_) (0,0,0,()))).bind fun r0=>
  bif (r0.1 !=0) then
   some (false,())
  else
   dg.L3 t5_ t6_
 else none:=res_eq (by kernel_rfl)
theorem dg.L3_eq (t5_ t6_):dg.L3 t5_ t6_=
 dg.L1 t5_ (IntKind.wrap .i64 (t6_+1)):=res_eq (by kernel_rfl)
theorem dg.F_eq (l):dg.F l=
 dg.L1 l 0:=by kernel_rfl
end
end Go.Proofs.YtkihjakbbcajbaaGreat.PM
namespace Go.Proofs.YtkihjakbbcajbaaGreat.PM
set_option linter.unusedSimpArgs false
set_option linter.unusedVariables false
open Go
def rnd (r:Option Nat):Fence:={Fence.wide with round:=r}
section
variable {P:Program} {r:Option Nat} {n:Nat} {Q:Exit→Act→World→Prop}
def onlyN (Q:Exit→Act→World→Prop):Exit→Act→World→Prop:=fun e a w=>e=.normal∧Q .normal a w
theorem wp_to {Q0:Exit→Act→World→Prop} {o:Oper} {a:Act} {w:World} {K K':Act→World→Prop} (hd:∀c,o.op≠ .defer c) (hdef:∀d w',(execOp a.eval o).run P w≠ .ok (.defer d) w') (hK:∀v w',K (a.put o.dst v) w'→K' (a.put o.dst v) w') (h:o.wp P a w K (onlyN Q0)):o.wpIn (rnd r) n P a w K' Q:=by
 unfold Oper.wp at h
 refine ⟨fun _ _=>trivial,?_⟩
 rw [Oper.semAt_eq _ _ _ hd]
 generalize (execOp a.eval o).run P w=res at h hdef ⊢
 cases res with
 |ok nx w'=>
  cases nx with
  |value v=>exact hK v w' h
  |skip=>exact hK undef w' h
  |defer d=>exact absurd rfl (hdef d w')
  |enter f args=>
   refine ⟨(fun h=>by cases h),?_⟩
   have h:Calls P f args w' fun
    |.returned v,w''=>K (a.put o.dst v) w''
    |.panicked chain,w''=>onlyN Q0 (.panic chain) a w''
    |.outgrown,_=>LetsOut (onlyN Q0):=h
   have h2:=(callsIn_wide (n:=n - 1)).2 h
   refine CallsIn.mono (F:=Fence.wide) h2 (fun e w'' he=>?_)
   cases e with
   |returned v=>exact hK v w'' he
   |panicked c=>exact absurd he.1 (by simp)
   |outgrown=>
    obtain ⟨a0,w0,he⟩:=he
    exact absurd he.1 (by simp)
  |row row args=>
   refine ⟨(fun h=>by cases h),fun c cs _=>?_⟩
   obtain ⟨v,w'',h1,h2⟩:=h c cs
   exact ⟨v,w'',hK v w'' h1,stepsIn_wide.2 h2⟩
  |_=>exact h.elim
 |halt hh w'=>
  cases hh with
  |panic v=>exact absurd h.1 (by simp)
  |_=>exact h.elim
def quiet (o:Oper):Bool:=match o.op with
 |.defer _|.call _|.nilCheck _|.recv ..|.select ..|.go _|.send ..=>false
 |_=>true
theorem quiet_defer {o:Oper} (h:quiet o=true) (c:Call):o.op≠ .defer c:=fun e=>by
 unfold quiet at h;rw [e] at h;cases h
theorem andThen_defer {α:Type} {x:Result α} {f:α→World→Result Next} {d:Deferred} {w':World} (hf:∀a w,f a w≠ .ok (.defer d) w'):x.andThen f≠ .ok (.defer d) w':=by
 cases x with
 |ok a w=>exact hf a w
 |halt h w=>intro e;simp [Result.andThen] at e
theorem quiet_run {o:Oper} (h:quiet o=true) (ρ:Operand→Value) (w:World) (d:Deferred) (w':World):(execOp ρ o).run P w≠ .ok (.defer d) w':=by
 unfold execOp
 cases ho:o.op with
 |defer c=>unfold quiet at h;rw [ho] at h;cases h
 |call c=>unfold quiet at h;rw [ho] at h;cases h
 |nilCheck x=>unfold quiet at h;rw [ho] at h;cases h
 |recv a b c=>unfold quiet at h;rw [ho] at h;cases h
 |select a b=>unfold quiet at h;rw [ho] at h;cases h
 |go c=>unfold quiet at h;rw [ho] at h;cases h
 |send a b=>unfold quiet at h;rw [ho] at h;cases h
 |_=>
  simp only [Sem.run_bind]
  first
   |exact andThen_defer (fun a w=>by simp)
   |(intro e;simp at e;done)
   |exact andThen_defer (fun a w=>by first|(simp;done)|exact andThen_defer (fun a w=>by simp))
theorem wpOp_to {Q0:Exit→Act→World→Prop} {ops:Array Oper} (hd:∀(i:Nat) o,ops[i]?=some o→quiet o=true) {i:Nat} {a:Act} {w:World} {K K':Act→World→Prop} (hK:∀a' w',(a'=a∨∃o v,ops[i]?=some o∧a'=a.put o.dst v)→K a' w'→K' a' w') (h:wpOp P ops (onlyN Q0) i K a w):wpOpIn (rnd r) n P ops Q i K' a w:=by
 unfold wpOp at h
 unfold wpOpIn
 cases ho:ops[i]? with
 |none=>rw [ho] at h;exact hK _ _ (.inl rfl) h
 |some o=>
  rw [ho] at h
  simp only at h ⊢
  split at h
  ·rename_i hw
   rw [if_pos hw]
   rcases h with h|⟨_,a0,w0,h⟩
   ·exact wp_to (quiet_defer (hd i o ho)) (fun d w'=>quiet_run (hd i o ho) _ _ d w') (fun v w'=>hK _ w' (.inr ⟨o,v,ho,rfl⟩)) h
   ·exact absurd h.1 (by simp)
  ·rename_i hw
   rw [if_neg hw]
   exact ⟨fun _ _=>trivial,hK _ _ (.inr ⟨o,undef,ho,rfl⟩) h⟩
def Fr (ops:Array Oper) (l:List Nat) (a a':Act):Prop:=∀t,(∀i∈l,∀o,ops[i]?=some o→o.dst≠some t)→a'.tmps.getD t undef=a.tmps.getD t undef
theorem put_other (a:Act) (d:Option Nat) (v:Value) (t:Nat) (h:d≠some t):(a.put d v).tmps.getD t undef=a.tmps.getD t undef:=by
 cases d with
 |none=>rfl
 |some e=>
  have:e≠t:=fun h'=>h (by rw [h'])
  simp only [Act.put,Array.getD_eq_getD_getElem?]
  rw [Array.getElem?_setIfInBounds_ne this]
theorem wpOps_to {Q0:Exit→Act→World→Prop} {ops:Array Oper} (hd:∀(i:Nat) o,ops[i]?=some o→quiet o=true):∀(l:List Nat) (a:Act) (w:World),(∀a' w',Q0 .normal a' w'→Fr ops l a a'→Q .normal a' w')→wpOps P ops (onlyN Q0) l a w→wpOpsIn (rnd r) n P ops Q l a w
 |[],a,w,hQ,h=>hQ a w h.2 (fun t _=>rfl)
 |i::l,a,w,hQ,h=>by
  rw [wpOps_cons] at h
  rw [wpOpsIn_cons]
  refine wpOp_to hd (fun a1 w1 hc h=>wpOps_to hd l a1 w1 (fun a' w' h1 h2=>hQ a' w' h1 (fun t ht=>?_)) h) h
  rw [h2 t (fun j hj=>ht j (List.mem_cons_of_mem _ hj))]
  rcases hc with rfl|⟨o,v,ho,rfl⟩
  ·rfl
  ·exact put_other a o.dst v t (ht i (List.mem_cons_self ..) o ho)
def noDefer (ops:List Oper):Bool:=ops.all quiet
theorem noDefer_at {ops:List Oper} (h:noDefer ops=true) (i:Nat) (o:Oper) (ho:ops.toArray[i]?=some o):quiet o=true:=
 List.all_eq_true.1 h o (List.mem_of_getElem? (by simpa using ho))
end
section
variable {P:Program} {E:Env} {B:Bs} {io:List PV} {r:Option Nat} {n:Nat} {Q:Exit→Act→World→Prop}
theorem regionIn_ok (hE:EnvOk P E) (hgl:E.globs=B.gl) {id:Nat} {ops:List Oper} {nx:Nat} {tm tm':List (Nat × PV)} {h h':Hp} {g:Gh} {A:Nat→Prop} {a:Act} {w:World}
  (e:(opsD E ops ops nx tm h [] (fun tm hp _=> .done (tm,hp))).ev (fun _ _=>(none:Option (List (Nat × PV) × Hp)))=some (tm',h')) (hnt:dstOk B.nt ops=true) (hnd:noDefer ops=true) (R:RS B g A a w tm h io)
  (fin:∀g A a' w,RS B g A a' w tm' h' io→(∀t,(∀o∈ops,o.dst≠some t)→a'.tmps.getD t undef=a.tmps.getD t undef)→Q .normal a' w):(Code.region id ops.toArray false).wpIn (rnd r) n P Q a w:=by
 obtain ⟨rc,tm1,hl,ran,htm,e2⟩:=opsD_ran (all:=ops) (nx:=nx) (tm0:=tm) (h0:=h) ops [] [] tm (by simp) rfl (fun _=>rfl) (fun j h=>by simp at h) (by simpa [hpS] using e)
 simp only [DT.ev,Option.some.injEq,Prod.mk.injEq] at e2
 obtain ⟨rfl,rfl⟩:=e2
 refine wpIn_region (wpOps_to (Q0:=fun _ a' w'=>∃g A,RS B g A a' w' tm1 (hpS (fun k=>(rcAt rc k).ws) h (fun _=>true) ops.length) io) (noDefer_at hnd) _ _ _ (fun a' w' ⟨g,A,R'⟩ hf=>fin g A a' w' R' (fun t ht=>hf t (fun i _ o ho=>ht o (List.mem_of_getElem? (by simpa using ho))))) ?_)
 have hz:∀{X:Nat→PV} n,tmS (dstOf ops) X tm (fun _=>false) n=tm:=fun {X} n=>by
  induction n with
  |zero=>rfl
  |succ n ih=>rw [tmS_succ];exact ih
 have hz2:∀{V:Nat→Hp} n,hpS V h (fun _=>false) n=h:=fun {V} n=>by
  induction n with
  |zero=>rfl
  |succ n ih=>rw [hpS_succ];exact ih
 have hsz:ops.toArray.size=ops.length:=by simp
 rw [hsz,List.range_eq_range']
 refine reg_seq hE hgl hl ran (dstOk_at hnt) (fun g A a w R'=>⟨rfl,g,A,R'.congr (fun t=>(htm t).symm) (fun _=>rfl)⟩) ops.length 0 (by omega) g A a w ?_
 rw [tmS_ext (S':=fun _=>false) _ (fun k _=>by simp),hpS_ext (S':=fun _=>false) _ (fun k _=>by simp),hz,hz2]
 exact R
end
end Go.Proofs.YtkihjakbbcajbaaGreat.PM
namespace Go.Proofs.YtkihjakbbcajbaaGreat.PM
set_option linter.unusedSimpArgs false
set_option linter.unusedVariables false
open Go
def subC (c:Code) (p:List Nat):Code:=(focus c p []).1
def regOps:Code→List Oper
 |.region _ ops _=>ops.toList
 |_=>[]
def rfAsg:Code→Code
 |.rangeFunc _ _ a _=>a
 |_=> .skip
def rfBdy:Code→Code
 |.rangeFunc _ _ _ b=>b
 |_=> .skip
structure BoxF where
 id:Nat
 b:Nat
 t:Ty
 x:t.den
structure Boxes (A:Nat→Prop) (w:World) (l:List BoxF):Prop where
 cell:∀q∈l,∃c e,w.heap[q.b]?=some (.cells c e (0,0))∧TRel A w q.t c.toList q.x
 out:∀q∈l,¬A q.b
 ids:(l.map (·.id)).Nodup
 bs:(l.map (·.b)).Nodup
 lt:∀r,A r→r<w.heap.size
def gL (l:List BoxF):Gh:=fun i=>(l.find? fun q=>Nat.beq i q.id).map fun q=>⟨some q.b,0,0⟩
def hpL (l:List BoxF):Hp:=l.map fun q=>(q.id,some (.box (mk q.t q.x)))
def ioL (l:List BoxF):List PV:=l.map fun q=> .ptr q.id []
def slL (l:List BoxF):List Slot:=l.map fun q=>⟨some q.b,0,0⟩
def WL (w:World) (l:List BoxF):Nat→Prop:=fun r=>w.heap.size≤r∨∃q∈l,r=q.b
def BL {gl:List (Nat × PV)} {A:Nat→Prop} {w:World} (hg:GlOk gl A w) (l:List BoxF) (nt:Nat) (df:List Deferred):Bs:=
 ⟨A,WL w l,w,nt,slL l,fun _ h=> .inl h,gl,hg,df⟩
section
variable {gl:List (Nat × PV)} {A:Nat→Prop} {w:World} {l:List BoxF}
theorem gL_at:∀{l:List BoxF} {q:BoxF},(l.map (·.id)).Nodup→q∈l→gL l q.id=some ⟨some q.b,0,0⟩
 |r::l,q,hn,hq=>by
  rw [List.map_cons,List.nodup_cons] at hn
  unfold gL
  rw [List.find?_cons]
  rcases List.mem_cons.1 hq with rfl|hq
  ·rw [Nat.beq_refl];rfl
  ·have:Nat.beq q.id r.id=false:=by
    cases hb:Nat.beq q.id r.id with
    |false=>rfl
    |true=>exact absurd (List.mem_map.2 ⟨q,hq,Nat.eq_of_beq_eq_true hb⟩) hn.1
   rw [this]
   exact gL_at hn.2 hq
theorem gL_out {l:List BoxF} {i:Nat} {s:Slot} (h:gL l i=some s):∃q∈l,q.id=i∧s=⟨some q.b,0,0⟩:=by
 unfold gL at h
 cases hf:l.find? (fun q=>Nat.beq i q.id) with
 |none=>rw [hf] at h;cases h
 |some q=>
  rw [hf] at h
  injection h with h
  exact ⟨q,List.mem_of_find?_eq_some hf,(Nat.eq_of_beq_eq_true (List.find?_some (p:=fun q:BoxF=>Nat.beq i q.id) hf)).symm,h.symm⟩
theorem hpL_at:∀{l:List BoxF} {i:Nat} {b:Blk},(hpL l).at i=some b→∃q∈l,q.id=i∧b=.box (mk q.t q.x)
 |[],_,_,h=>by cases h
 |r::l,i,b,h=>by
  unfold hpL at h
  rw [List.map_cons,at_cons] at h
  split at h
  ·injection h with h
   exact ⟨r,List.mem_cons_self ..,by symm;assumption,h.symm⟩
  ·obtain ⟨q,h1,h2⟩:=hpL_at (l:=l) h
   exact ⟨q,List.mem_cons_of_mem _ h1,h2⟩
theorem bs_inj:∀{l:List BoxF} {q r:BoxF},(l.map (·.b)).Nodup→q∈l→r∈l→q.b=r.b→q=r
 |s::l,q,r,hn,hq,hr,e=>by
  rw [List.map_cons,List.nodup_cons] at hn
  rcases List.mem_cons.1 hq with h1|h1<;>rcases List.mem_cons.1 hr with h2|h2
  ·rw [h1,h2]
  ·exact absurd (List.mem_map.2 ⟨r,h2,by rw [←e,h1]⟩:s.b∈l.map (·.b)) hn.1
  ·exact absurd (List.mem_map.2 ⟨q,h1,by rw [e,h2]⟩:s.b∈l.map (·.b)) hn.1
  ·exact bs_inj hn.2 h1 h2 e
theorem boxes_HR (C:Boxes A w l):HR (gL l) A (WL w l) w (hpL l) where
 blk i b e:=by
  obtain ⟨q,hq,rfl,rfl⟩:=hpL_at e
  obtain ⟨c,e,h1,h2⟩:=C.cell q hq
  exact ⟨_,_,c,e,gL_at C.ids hq,rfl,h1,mk_rel _ _ _ h2⟩
 own i b s r e _ hg hr:=by
  obtain ⟨q,hq,rfl,rfl⟩:=hpL_at e
  rw [gL_at C.ids hq] at hg
  injection hg with hg;subst hg
  injection hr with hr;subst hr
  exact ⟨C.out q hq,.inr ⟨q,hq,rfl⟩⟩
 inj i j b c s s' r e e' _ _ hg hg' hr hr':=by
  obtain ⟨q,hq,rfl,rfl⟩:=hpL_at e
  obtain ⟨q',hq',rfl,rfl⟩:=hpL_at e'
  rw [gL_at C.ids hq] at hg
  rw [gL_at C.ids hq'] at hg'
  injection hg with hg;subst hg
  injection hr with hr;subst hr
  injection hg' with hg';subst hg'
  injection hr' with hr'
  rw [bs_inj C.bs hq' hq hr']
 dfn i s e:=by
  obtain ⟨q,hq,rfl,rfl⟩:=gL_out e
  have:∀{l:List BoxF},q∈l→∃o,look q.id (hpL l)=some o:=by
   intro l
   induction l with
   |nil=>intro h;cases h
   |cons r l ih=>
    intro h
    unfold hpL
    rw [List.map_cons,look_cons]
    split
    ·exact ⟨_,rfl⟩
    ·rename_i hne
     rcases List.mem_cons.1 h with rfl|h
     ·exact absurd rfl hne
     ·exact ih h
  exact this hq
 lt:=C.lt
theorem ioR_L (hi:(l.map (·.id)).Nodup):∀{m:List BoxF},(∀q∈m,q∈l)→IoR (gL l) (ioL m) (slL m)
 |[],_=>trivial
 |r::m,h=>⟨⟨r.id,.inl rfl,gL_at hi (h r (List.mem_cons_self ..))⟩,ioR_L hi (fun q hq=>h q (List.mem_cons_of_mem _ hq))⟩
theorem boxes_RS (C:Boxes A w l) (hg:GlOk gl A w) {nt:Nat} {a:Act} {tm:List (Nat × PV)} (hs:a.tmps.size=nt) (htm:∀t x,look t tm=some x→t<nt∧VRel (gL l) A w x (a.tmps.getD t undef)):
  RS (BL hg l nt a.defers) (gL l) A a w tm (hpL l) (ioL l) where
 size:=hs
 defs:=rfl
 tms:=htm
 hr:=boxes_HR C
 mono _ h:=h
 in' _ h:=.inl h
 same _ _:=rfl
 keep:=.refl _ w
 io:=ioR_L C.ids (fun _ h=>h)
def BL0 {gl:List (Nat × PV)} {A:Nat→Prop} {w:World} (hg:GlOk gl A w) (l:List BoxF) (nt:Nat) (df:List Deferred):Bs:=
 ⟨A,WL w l,w,nt,[],fun _ h=> .inl h,gl,hg,df⟩
theorem boxes_RS0 (C:Boxes A w l) (hg:GlOk gl A w) {nt:Nat} {a:Act} {tm:List (Nat × PV)} (hs:a.tmps.size=nt) (htm:∀t x,look t tm=some x→t<nt∧VRel (gL l) A w x (a.tmps.getD t undef)):
  RS (BL0 hg l nt a.defers) (gL l) A a w tm (hpL l) [] where
 size:=hs
 defs:=rfl
 tms:=htm
 hr:=boxes_HR C
 mono _ h:=h
 in' _ h:=.inl h
 same _ _:=rfl
 keep:=.refl _ w
 io:=trivial
theorem boxes_of {B:Bs} {g:Gh} {A':Nat→Prop} {a:Act} {w':World} {tm:List (Nat × PV)} {h:Hp} {l l':List BoxF} (hA:B.A0=A) (R:RS B g A' a w' tm h (ioL l)) (hsl:B.sl=slL l) (C:Boxes A w l) (hz:w.heap.size≤w'.heap.size)
  (hsub:∀q∈l',∃r∈l,r.id=q.id∧r.b=q.b) (hn1:(l'.map (·.id)).Nodup) (hn2:(l'.map (·.b)).Nodup) (hq:∀q∈l',∃X,h.at q.id=some (.box X)∧flatV q.t X=some q.x∧q.t.flat=true):Boxes A w' l':=by
 have hio:=R.io
 rw [hsl] at hio
 have key:∀{m:List BoxF},IoR g (ioL m) (slL m)→∀q∈m,g q.id=some ⟨some q.b,0,0⟩:=by
  intro m
  induction m with
  |nil=>intro _ q hq;cases hq
  |cons r m ih=>
   intro hm q hq
   obtain ⟨⟨i,hi,hgi⟩,h2⟩:=hm
   rcases List.mem_cons.1 hq with rfl|hq
   ·have:i=q.id:=by
     rcases hi with hi|hi
     ·injection hi with hi;exact hi.symm
     ·cases hi
    rw [this] at hgi;exact hgi
   ·exact ih h2 q hq
 refine ⟨fun q hqm=>?_,fun q hqm=>?_,hn1,hn2,fun r hr=>Nat.lt_of_lt_of_le (C.lt r hr) hz⟩
 ·obtain ⟨X,h1,h2,h3⟩:=hq q hqm
  obtain ⟨r,hr,er,eb⟩:=hsub q hqm
  have hgq:=key hio r hr
  rw [er,eb] at hgq
  obtain ⟨s,b',c,e,k1,k2,k3,k4⟩:=R.hr.blk q.id _ h1
  rw [hgq] at k1;injection k1 with k1;subst k1
  injection k2 with k2;subst k2
  exact ⟨c,e,k3,TRel.flat _ _ _ h3 (flatV_rel _ _ _ _ k4 h2)⟩
 ·obtain ⟨r,hr,er,eb⟩:=hsub q hqm
  rw [←eb];exact C.out r hr
theorem kept_of {B:Bs} {g:Gh} {A':Nat→Prop} {a:Act} {w':World} {tm:List (Nat × PV)} {h:Hp} {io:List PV} (R:RS B g A' a w' tm h io) (hw:B.w0=w) (hW:B.W=WL w l) (C:Boxes A w l) (B0:Nat):KeepsFrom B0 w w':=by
 have hk:=R.keep
 rw [hw,hW] at hk
 refine ⟨hk.size,fun k o _ ho hc=>(hk.block k (heap_lt ho) (fun hx=>?_)).trans ho⟩
 rcases hx with hx|⟨q,hq,rfl⟩
 ·have:=heap_lt ho;omega
 ·obtain ⟨c,e,h1,_⟩:=C.cell q hq
  rw [h1] at ho;injection ho with ho;subst ho
  cases hc
theorem Boxes.turn {w':World} (C:Boxes A w l) (hA:∀r,(A r∨∃q∈l,r=q.b)→w'.heap[r]?=w.heap[r]?) (hz:w.heap.size≤w'.heap.size):Boxes A w' l:=by
 refine ⟨fun q hq=>?_,C.out,C.ids,C.bs,fun r hr=>Nat.lt_of_lt_of_le (C.lt r hr) hz⟩
 obtain ⟨c,e,k,r⟩:=C.cell q hq
 exact ⟨c,e,by rw [hA q.b (.inr ⟨q,hq,rfl⟩)];exact k,TRel.mono (fun _ h=>h) (fun r hr=>hA r (.inl hr)) _ _ _ r⟩
end
end Go.Proofs.YtkihjakbbcajbaaGreat.PM
namespace Go.Proofs.YtkihjakbbcajbaaGreat.PM
open Go Go.Proofs
noncomputable section
set_option linter.unusedVariables false
def a9.sg:Sig:=⟨[.val t7],[((.int .i64),true)]⟩
def a9.E:Env:=⟨tl,fun i=>look i [(99,cx.Fn),(106,af.Fn),(168,dg.Fn)],[],eqs,globs,prims⟩
theorem a9.envOk:EnvOk Tryz.prog a9.E:=envOk_at tabOk eqOk primsOk (.cons cx.spec<|.cons af.spec<|.cons dg.spec<|.nil)
def a9.c:=cxOf a9.E a9.sg Tryz.f128
def a9.b:=body Tryz.f128
def a9.S1 (b0:Int) (b02:List t0.den) (b03 b04:Int) (b05 b06:Int) (b07 b08 b09:Int) (b010:List Int) (b011:List t1.den) (b012:List Int) (b013:List Bool) (b014:Int) (b015:List t3.den) (b016 b017:List Int) (b018 b019 b020:Int) (b021:List Int) (b022:List t1.den) (b023:List Int) (b024:List Bool) (b025:Int) (b026:List t3.den) (b027 b028:List Int) (b029 b030:Int) (b031:List Int) (b032 b033 b034:Int):St:=⟨[(1,(.ptr 0 [])),(2,(.ptr 1 []))],[(0,some (.box (.agg [(.v (.int .u32) b0),(.v (.arr 3 t0) b02),(.agg [(.agg [(.v (.int .i64) b03),(.v (.int .i64) b04),(.v (.int .i64) b05)]),(.v (.int .i64) b06),(.v (.int .i64) b07),(.v (.int .u64) b08)]),(.agg [(.v (.int .i64) b09),(.v (.slice (.int .u32)) b010),(.v (.slice t1) b011),(.agg [(.v (.slice (.int .i64)) b012),(.v (.slice .bool) b013),(.v (.int .i64) b014)]),(.v (.slice t3) b015),(.agg [(.v (.slice (.int .i64)) b016),(.v (.slice (.int .i64)) b017),(.v (.int .i64) b018),(.v (.int .i64) b019)])]),(.agg [(.v (.int .i64) b020),(.v (.slice (.int .u32)) b021),(.v (.slice t1) b022),(.agg [(.v (.slice (.int .i64)) b023),(.v (.slice .bool) b024),(.v (.int .i64) b025)]),(.v (.slice t3) b026),(.agg [(.v (.slice (.int .i64)) b027),(.v (.slice (.int .i64)) b028),(.v (.int .i64) b029),(.v (.int .i64) b030)])]),(.v (.slice (.int .u32)) b031),(.agg [(.v (.int .u64) b032),(.v (.int .u64) b033),(.v (.int .u64) b034)])]))),(1,some (.box (.v (.int .i64) 0)))],2,[]⟩
def a9.L2 (p:t7.den) (b0:Int):Option (Int × Unit):=res a9.c (atJoin a9.b [1,1,1,1,1,0,1]) ⟨[(1,(.iptr t7 p)),(2,(.ptr 0 []))],[(0,some (.box (.v (.int .i64) b0)))],1,[]⟩
def a9.L3 (p:t7.den) (t84_:List Int) (t85_ t86_ b0:Int):Option (Int × Unit):=res a9.c (atLoop a9.b [1,1,1,1,1,1,0,1,0]) ⟨[(1,(.iptr t7 p)),(2,(.ptr 0 [])),(84,(.v (.slice (.int .u32)) t84_)),(85,(.v (.int .i64) t85_)),(86,(.v (.int .i64) t86_))],[(0,some (.box (.v (.int .i64) b0)))],1,[]⟩
def a9.L4 (p:t7.den) (t84_:List Int) (t85_ t86_ b0:Int):Option (Int × Unit):=res a9.c (atJoin a9.b [1,1,1,1,1,1,0,1,0,0,1,0]) ⟨[(1,(.iptr t7 p)),(2,(.ptr 0 [])),(84,(.v (.slice (.int .u32)) t84_)),(85,(.v (.int .i64) t85_)),(86,(.v (.int .i64) t86_))],[(0,some (.box (.v (.int .i64) b0)))],1,[]⟩
def a9.L5 (p:t7.den) (t84_:List Int) (t85_ t86_ b0:Int):Option (Int × Unit):=res a9.c (atJoin a9.b [1,1,1,1,1,1,0,1,0,0,1,1,0,0,1,1]) ⟨[(1,(.iptr t7 p)),(2,(.ptr 0 [])),(84,(.v (.slice (.int .u32)) t84_)),(85,(.v (.int .i64) t85_)),(86,(.v (.int .i64) t86_))],[(0,some (.box (.v (.int .i64) b0)))],1,[]⟩
def a9.ST (p:t7.den) (n:Int) (same:List t0.den):St:=⟨[(1,(.iptr t7 p)),(2,(.ptr 1 [])),(3,(.ptr 2 []))],[(1,some (.box (.v (.int .i64) n))),(2,some (.box (.v (.arr 3 t0) same)))],3,[]⟩
def a9.T (p:t7.den) (n:Int) (same:List t0.den):Option (Int × Unit):=res a9.c [.code (subC a9.b [1,1,1,1,1])] (a9.ST p n same)
theorem a9.L2_eq (p b0):a9.L2 p b0=
 a9.L3 p p.2.2.2.2.2.1 ((List.length p.2.2.2.2.2.1:Int)) 0 b0:=res_eq (by kernel_rfl)
theorem a9.L3_eq (p t84_ t85_ t86_ b0):a9.L3 p t84_ t85_ t86_ b0=
 bif (decide ((t86_:Int)<t85_)) then
  a9.L4 p t84_ t85_ t86_ b0
 else
  some (0,()):=res_eq (by kernel_rfl)
theorem a9.L4_eq (p t84_ t85_ t86_ b0):a9.L4 p t84_ t85_ t86_ b0=
 bif (decide ((0:Int)≤t86_∧(t86_:Int)<((List.length t84_:Int)))) then
  bif (decide ((t86_:Int)>0)) then
   bif (decide ((0:Int)≤(IntKind.wrap .i64 (t86_ - 1))∧((IntKind.wrap .i64 (t86_ - 1)):Int)<((List.length p.2.2.2.2.2.1:Int)))) then
    bif (decide (((List.getD p.2.2.2.2.2.1 (Int.toNat (IntKind.wrap .i64 (t86_ - 1))) 0):Int)≥(List.getD t84_ (Int.toNat t86_) 0))) then
     some (8,())
    else
     a9.L5 p t84_ t85_ t86_ b0
   else none
  else
   a9.L5 p t84_ t85_ t86_ b0
 else none:=res_eq (by kernel_rfl)
theorem a9.L5_eq (p t84_ t85_ t86_ b0):a9.L5 p t84_ t85_ t86_ b0=
 a9.L3 p t84_ t85_ (IntKind.wrap .i64 (t86_+1)) b0:=res_eq (by kernel_rfl)
theorem a9.T_eq (p:t7.den) (n:Int) (same:List t0.den):a9.T p n same=
 bif (!(Ty.beq (.arr 3 t0) same p.2.1)) then
  some (8,())
 else
  bif (decide ((((List.length p.2.2.2.2.2.1:Int)):Int)>8)) then
   some (8,())
  else
   a9.L2 p n:=res_eq (by kernel_rfl)
theorem a9.entry_eq (p:t7.den) (f:List It→St→Option (Int × Unit)):(entry a9.E a9.sg Tryz.f128 (p,())).ev f=
 bif (decide ((p.1:Int)≥16)) then
  some (8,())
 else
  (dg.F p.2.1).bind fun r0=>
  bif (!r0.1) then
   some (8,())
  else
   (cx.F p.2.2.1).bind fun r1=>
   bif (r1.1 !=0) then
    some (8,())
   else
    (af.F p.2.2.2.1).bind fun r2=>
    bif (r2.1 !=0) then
     some (8,())
    else
     (af.F p.2.2.2.2.1).bind fun r3=>
     bif (r3.1 !=0) then
      some (8,())
     else
      f (atJoin a9.b [1,0,1]) (a9.S1 p.1 p.2.1 p.2.2.1.1.1 p.2.2.1.1.2.1 p.2.2.1.1.2.2.1 p.2.2.1.2.1 p.2.2.1.2.2.1 p.2.2.1.2.2.2.1 p.2.2.2.1.1 p.2.2.2.1.2.1 p.2.2.2.1.2.2.1 p.2.2.2.1.2.2.2.1.1 p.2.2.2.1.2.2.2.1.2.1 p.2.2.2.1.2.2.2.1.2.2.1 p.2.2.2.1.2.2.2.2.1 p.2.2.2.1.2.2.2.2.2.1.1 p.2.2.2.1.2.2.2.2.2.1.2.1 p.2.2.2.1.2.2.2.2.2.1.2.2.1 p.2.2.2.1.2.2.2.2.2.1.2.2.2.1 p.2.2.2.2.1.1 p.2.2.2.2.1.2.1 p.2.2.2.2.1.2.2.1 p.2.2.2.2.1.2.2.2.1.1 p.2.2.2.2.1.2.2.2.1.2.1 p.2.2.2.2.1.2.2.2.1.2.2.1 p.2.2.2.2.1.2.2.2.2.1 p.2.2.2.2.1.2.2.2.2.2.1.1 p.2.2.2.2.1.2.2.2.2.2.1.2.1 p.2.2.2.2.1.2.2.2.2.2.1.2.2.1 p.2.2.2.2.1.2.2.2.2.2.1.2.2.2.1 p.2.2.2.2.2.1 p.2.2.2.2.2.2.1.1 p.2.2.2.2.2.2.1.2.1 p.2.2.2.2.2.2.1.2.2.1):=by kernel_rfl
end
end Go.Proofs.YtkihjakbbcajbaaGreat.PM
