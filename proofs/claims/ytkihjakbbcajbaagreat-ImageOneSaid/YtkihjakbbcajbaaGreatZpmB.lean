/- Parts of the proof, joined: ZpmA, PM32, PM33, ZpmB. -/
import Derived.Test.YtkihjakbbcajbaaGreatPrim
import Derived.RangeFuncNested
import Derived.RangeFuncBound
import Derived.RangeFuncCalls
import Derived.RangeFuncLeaves
import Derived.OrdersIn
namespace Go.Proofs.YtkihjakbbcajbaaGreat.PM
open Go Go.Proofs
noncomputable section
set_option linter.unusedVariables false
def tl:List (Nat × TI):=[(1,.other),(2,.data (.int .i64)),(3,.data (.int .i64)),(4,.data .bool),(5,.data (.int .u8)),(6,.data (.int .u8)),(7,.data t14),(8,.data t14),(9,.data .str),(10,.data .str),(11,.data .str),(12,.data (.int .u64)),(13,.data t15),(14,.data t15),(15,.other),(16,.other),(17,.other),(21,.data (.int .i32)),(22,.data (.slice (.int .u8))),(23,.data (.int .u64)),(24,.data (.arr 32 (.int .u8))),(25,.data (.arr 32 (.int .u8))),(26,.data (.int .u32)),(27,.data (.arr 16 (.int .u32))),(28,.data (.slice t7)),(29,.data t8),(30,.data t8),(31,.data (.int .i64)),(33,.other),(35,.other),(37,.other),(39,.other),(40,.other),(41,.other),(42,.other),(43,.other),(45,.other),(46,.other),(47,.other),(48,.other),(49,.data t0),(50,.data t0),(51,.data t1),(52,.data t1),(53,.data (.arr 3 t0)),(54,.data (.slice (.int .u32))),(55,.data (.slice t1)),(56,.data (.slice (.int .i64))),(57,.data (.slice .bool)),(58,.data t2),(59,.data t2),(60,.data (.slice t3)),(61,.data t4),(62,.data t4),(63,.data t5),(64,.data t5),(65,.data t6),(66,.data t6),(67,.data t7),(68,.data t7),(70,.other),(71,.other),(72,.other),(73,.other),(74,.other),(75,.other),(76,.data t12),(77,.data t12),(78,.other),(79,.data (.slice t10)),(80,.data t11),(81,.data t11),(82,.data (.arr 2 (.int .i64))),(83,.data (.slice t9)),(84,.data t10),(85,.data t10),(86,.other),(87,.other),(88,.other),(89,.data t12),(90,.data t12),(91,.other),(92,.other),(93,.other),(94,.other),(95,.other),(96,.other),(97,.other),(99,.other),(100,.data t13),(101,.data t13),(102,.other),(103,.other),(105,.other),(106,.other),(107,.other),(108,.other),(109,.other),(110,.data (.int .u64)),(111,.other),(112,.other),(113,.other),(114,.other),(115,.other),(116,.other),(117,.other),(118,.other),(119,.other),(120,.other),(121,.other),(122,.other),(123,.other),(124,.other),(126,.other),(127,.other),(129,.other),(130,.other),(131,.other),(132,.other),(133,.other),(134,.other),(135,.data t9),(136,.data t9),(137,.other),(138,.other),(139,.other),(140,.other),(142,.other),(143,.other),(144,.other),(145,.other),(147,.other),(148,.other),(149,.other),(150,.other),(151,.other),(152,.other),(153,.other),(154,.other),(155,.other),(156,.other),(157,.other),(158,.other),(159,.other),(160,.other),(162,.other),(164,.other),(166,.other),(168,.other),(169,.other),(170,.other),(171,.other),(172,.other),(173,.other),(174,.other),(176,.other),(178,.other),(179,.other),(180,.other),(181,.other),(182,.other),(183,.other),(185,.other),(186,.other),(187,.other),(188,.other),(190,.other),(191,.other),(192,.other),(194,.other),(195,.other),(196,.other),(197,.other),(198,.other),(199,.other),(200,.other),(201,.other),(203,.other),(205,.other),(206,.other),(207,.other),(208,.other),(209,.other),(210,.other),(211,.other),(212,.other),(214,.other),(215,.other),(216,.other),(217,.other),(218,.other),(219,.data (.arr 4 (.int .i64))),(220,.other),(221,.other),(222,.other),(223,.data t3),(224,.data t3),(225,.other),(226,.other),(227,.other),(228,.other),(229,.other),(230,.other),(232,.other),(233,.other),(234,.other),(235,.other),(236,.other),(237,.other),(239,.other),(240,.other),(241,.other),(243,.other),(245,.other),(246,.other),(247,.other),(248,.other),(249,.other),(250,.other),(251,.other),(252,.other),(253,.other),(254,.other),(256,.other),(257,.other),(258,.other),(259,.other),(260,.other),(261,.other),(262,.other),(264,.other),(266,.other),(267,.other),(268,.other),(274,.other),(275,.data (.int .u8)),(276,.data (.int .u8)),(277,.other),(278,.other),(279,.data (.int .i32)),(280,.data (.int .i32))]
def eqs:List Nat:=[25,27,50,52,53,66,82,136,219,224]
def globs:List (Nat × PV):=[]
def prims:List (Nat × Prim):=[(48,.clone (.int .u32)),(139,.clone (.int .i64)),(144,.clone t1),(145,.clone .bool),(146,.clone t3)]
theorem primsOk:PrimsOk Tryz.prog prims:=.cons clone48<|.cons clone139<|.cons clone144<|.cons clone145<|.cons clone146<|.nil
theorem tabOk:tabB Tryz.prog tl=true:=by kernel_rfl
theorem eqOk:EqOk Tryz.prog ⟨tl,fun _=>none,[],eqs,[],[]⟩:=eqOk_of tabOk (by kernel_rfl)
theorem mixOk:Tryz.prog.follows .mixedOrders=true:=by kernel_rfl
def eo.sg:Sig:=⟨[.val (.int .i64)],[(t2,true),((.int .i64),true)]⟩
def eo.E:Env:=⟨tl,fun i=>look i [],[],eqs,globs,prims⟩
def eo.c:=cxOf eo.E eo.sg Tryz.f102
def eo.b:=body Tryz.f102
def eo.Fn:Fun:=fnOf eo.E eo.sg Tryz.f102
def eo.F (n:Int):Option (t2.den × Int × Unit):=eo.Fn.F (n,())
def eo.L1 (n:Int) (l1:List Int) (l2:List Bool):Option (t2.den × Int × Unit):=res eo.c (atJoin eo.b [1,0,1]) ⟨[(0,(.v (.int .i64) n)),(2,(.ptr 0 []))],[(0,some (.box (.agg [(.sl 1),(.sl 2),(.v (.int .i64) 0)]))),(1,some (.row (.int .i64) l1 false)),(2,some (.row .bool l2 false))],3,[]⟩
def eo.L2 (n t17_:Int) (l2:List Int) (l3:List Bool) (l4:List Int) (l5:List Bool):Option (t2.den × Int × Unit):=res eo.c (atLoop eo.b [1,1,1,0,1,0]) ⟨[(0,(.v (.int .i64) n)),(2,(.ptr 0 [])),(4,(.ptr 1 [])),(16,(.v (.int .i64) n)),(17,(.v (.int .i64) t17_))],[(0,some (.box (.agg [(.sl 2),(.sl 3),(.v (.int .i64) 0)]))),(1,some (.box (.agg [(.sl 4),(.sl 5),(.v (.int .i64) 0)]))),(2,some (.row (.int .i64) l2 false)),(3,some (.row .bool l3 false)),(4,some (.row (.int .i64) l4 false)),(5,some (.row .bool l5 false))],6,[]⟩
def eo.L3 (n t17_:Int) (l2:List Int) (l3:List Bool) (l4:List Int) (l5:List Bool):Option (t2.den × Int × Unit):=res eo.c (atJoin eo.b [1,1,1,0,1,0,0,1,0]) ⟨[(0,(.v (.int .i64) n)),(2,(.ptr 0 [])),(4,(.ptr 1 [])),(16,(.v (.int .i64) n)),(17,(.v (.int .i64) t17_))],[(0,some (.box (.agg [(.sl 2),(.sl 3),(.v (.int .i64) 0)]))),(1,some (.box (.agg [(.sl 4),(.sl 5),(.v (.int .i64) 0)]))),(2,some (.row (.int .i64) l2 false)),(3,some (.row .bool l3 false)),(4,some (.row (.int .i64) l4 false)),(5,some (.row .bool l5 false))],6,[]⟩
theorem eo.spec:FnSpec Tryz.prog globs 102 eo.Fn:=spec_of (E:=eo.E) (envOk_at tabOk eqOk primsOk (.nil)) mixOk Tryz.func102 (by kernel_rfl)
theorem eo.L1_eq (n l1 l2):eo.L1 n l1 l2=
 bif (decide ((0:Int)≤n∧(n:Int)≤n) && (lim (Int.toNat n) .bool)) then
  eo.L2 n 0 l1 l2 ([]:List Int) (List.replicate (Int.toNat n) false)
 else none:=res_eq (by kernel_rfl)
theorem eo.L2_eq (n t17_ l2 l3 l4 l5):eo.L2 n t17_ l2 l3 l4 l5=
 bif (decide ((t17_:Int)<n)) then
  eo.L3 n t17_ l2 l3 l4 l5
 else
  bif (decide ((0:Int)≤(IntKind.wrap .i64 (n - 1))∧((IntKind.wrap .i64 (n - 1)):Int)<((List.length l4:Int)))) then
   some (((List.set l4 (Int.toNat (IntKind.wrap .i64 (n - 1))) (-1)),l5,0,()),0,())
  else none:=res_eq (by kernel_rfl)
theorem eo.L3_eq (n t17_ l2 l3 l4 l5):eo.L3 n t17_ l2 l3 l4 l5=
 bif (lim ((List.length l4)+(List.length ([(IntKind.wrap .i64 (t17_+1))]:List Int))) (.int .i64)) then
  eo.L2 n (IntKind.wrap .i64 (t17_+1)) l2 l3 (l4++([(IntKind.wrap .i64 (t17_+1))]:List Int)) l5
 else none:=res_eq (by kernel_rfl)
theorem eo.F_eq (n):eo.F n=
 bif (decide ((n:Int)<1)) then
  some ((([]:List Int),([]:List Bool),0,()),2,())
 else
  bif (decide ((n:Int)>16)) then
   some ((([]:List Int),([]:List Bool),0,()),2,())
  else
   eo.L1 n ([]:List Int) ([]:List Bool):=by kernel_rfl
def ix.sg:Sig:=⟨[.val (.int .u32),.val (.int .u32)],[((.int .u32),true),((.int .u32),true)]⟩
def ix.E:Env:=⟨tl,fun i=>look i [],[],eqs,globs,prims⟩
def ix.Fn:Fun:=fnOf ix.E ix.sg Tryz.f184
theorem ix.spec:FnSpec Tryz.prog globs 184 ix.Fn:=spec_of (E:=ix.E) (envOk_at tabOk eqOk primsOk (.nil)) mixOk Tryz.func184 (by kernel_rfl)
def gz.sg:Sig:=⟨[.val (.int .u64),.val (.int .u64)],[((.int .u64),true),((.int .u64),true)]⟩
def gz.E:Env:=⟨tl,fun i=>look i [],[],eqs,globs,prims⟩
def gz.Fn:Fun:=fnOf gz.E gz.sg Tryz.f185
def gz.F (x y:Int):Option (Int × Int × Unit):=gz.Fn.F (x,y,())
theorem gz.spec:FnSpec Tryz.prog globs 185 gz.Fn:=spec_of (E:=gz.E) (envOk_at tabOk eqOk primsOk (.nil)) mixOk Tryz.func185 (by kernel_rfl)
theorem gz.F_eq (x y):gz.F x y=
 bif (decide ((0:Int)≤32)) then
  bif (decide ((0:Int)≤32)) then
   bif (decide ((0:Int)≤32)) then
    bif (decide ((0:Int)≤32)) then
     bif (decide ((0:Int)≤32)) then
      some ((IntKind.wrap .u64 ((IntKind.wrap .u64 ((IntKind.wrap .u64 ((Int.fdiv x (2 ^ min (Int.toNat 32) (IntKind.bits .u64)))*(Int.fdiv y (2 ^ min (Int.toNat 32) (IntKind.bits .u64)))))+(Int.fdiv (IntKind.wrap .u64 ((IntKind.wrap .u64 ((Int.fdiv x (2 ^ min (Int.toNat 32) (IntKind.bits .u64)))*(bits .and .u64 y 4294967295)))+(Int.fdiv (IntKind.wrap .u64 ((bits .and .u64 x 4294967295)*(bits .and .u64 y 4294967295))) (2 ^ min (Int.toNat 32) (IntKind.bits .u64))))) (2 ^ min (Int.toNat 32) (IntKind.bits .u64)))))+(Int.fdiv (IntKind.wrap .u64 ((bits .and .u64 (IntKind.wrap .u64 ((IntKind.wrap .u64 ((Int.fdiv x (2 ^ min (Int.toNat 32) (IntKind.bits .u64)))*(bits .and .u64 y 4294967295)))+(Int.fdiv (IntKind.wrap .u64 ((bits .and .u64 x 4294967295)*(bits .and .u64 y 4294967295))) (2 ^ min (Int.toNat 32) (IntKind.bits .u64))))) 4294967295)+(IntKind.wrap .u64 ((bits .and .u64 x 4294967295)*(Int.fdiv y (2 ^ min (Int.toNat 32) (IntKind.bits .u64))))))) (2 ^ min (Int.toNat 32) (IntKind.bits .u64))))),(IntKind.wrap .u64 (x*y)),())
     else none
    else none
   else none
  else none
 else none:=by kernel_rfl
def dp.sg:Sig:=⟨[.val (.int .u64),.val (.int .u64)],[((.int .u64),true),((.int .u64),true)]⟩
def dp.E:Env:=⟨tl,fun i=>look i [(184,ix.Fn),(185,gz.Fn)],[],eqs,globs,prims⟩
def dp.c:=cxOf dp.E dp.sg Tryz.f174
def dp.b:=body Tryz.f174
def dp.Fn:Fun:=fnOf dp.E dp.sg Tryz.f174
def dp.F (x y:Int):Option (Int × Int × Unit):=dp.Fn.F (x,y,())
def dp.L1 (x y:Int):Option (Int × Int × Unit):=res dp.c (atJoin dp.b [1,0]) ⟨[(0,(.v (.int .u64) x)),(1,(.v (.int .u64) y))],[],0,[]⟩
theorem dp.spec:FnSpec Tryz.prog globs 174 dp.Fn:=spec_of (E:=dp.E) (envOk_at tabOk eqOk primsOk (.cons ix.spec<|.cons gz.spec<|.nil)) mixOk Tryz.func174 (by kernel_rfl)
theorem dp.L1_eq (x y):dp.L1 x y=
 (gz.F x y).bind fun r0=>
 some (r0.1,r0.2.1,()):=res_eq (by kernel_rfl)
theorem dp.F_eq (x y):dp.F x y=
 dp.L1 x y:=by kernel_rfl
def am.sg:Sig:=⟨[.val (.slice (.int .i64)),.val (.int .i64)],[((.slice (.int .i64)),true)]⟩
def am.E:Env:=⟨tl,fun i=>look i [(174,dp.Fn)],[],eqs,globs,prims⟩
def am.c:=cxOf am.E am.sg Tryz.f138
def am.b:=body Tryz.f138
def am.Fn:Fun:=fnOf am.E am.sg Tryz.f138
def am.F (x:List Int) (count:Int):Option ((List Int) × Unit):=am.Fn.F (x,count,())
def am.L1 (x:List Int) (count:Int):Option ((List Int) × Unit):=res am.c (atJoin am.b [1,0,1]) ⟨[(0,(.v (.slice (.int .i64)) x)),(1,(.v (.int .i64) count))],[],0,[]⟩
def am.L2 (x:List Int) (lo:Int):Option ((List Int) × Unit):=res am.c (atJoin am.b [1,1,1,0,1]) ⟨[(0,(.v (.slice (.int .i64)) x)),(6,(.v (.int .u64) lo))],[],0,[]⟩
def am.L3 (n:Int) (l0:List Int):Option ((List Int) × Unit):=res am.c (atLoop am.b [1,1,1,1,1,1,0,0]) ⟨[(7,(.sl 0)),(8,(.v (.int .i64) n))],[(0,some (.row (.int .i64) l0 false))],1,[]⟩
def am.L4 (n:Int) (l0:List Int):Option ((List Int) × Unit):=res am.c (atJoin am.b [1,1,1,1,1,1,0,0,0,0,1]) ⟨[(7,(.sl 0)),(8,(.v (.int .i64) n))],[(0,some (.row (.int .i64) l0 false))],1,[]⟩
theorem am.spec:FnSpec Tryz.prog globs 138 am.Fn:=spec_of (E:=am.E) (envOk_at tabOk eqOk primsOk (.cons dp.spec<|.nil)) mixOk Tryz.func138 (by kernel_rfl)
theorem am.L1_eq (x count):am.L1 x count=
 (dp.F (IntKind.wrap .u64 ((List.length x:Int))) (IntKind.wrap .u64 count)).bind fun r0=>
 bif (decide ((r0.1:Int)>0)) then
  none
 else
  bif (decide ((r0.2.1:Int)>9223372036854775807)) then
   none
  else
   am.L2 x r0.2.1:=res_eq (by kernel_rfl)
theorem am.L2_eq (x lo):am.L2 x lo=
 bif (decide ((0:Int)≤(IntKind.wrap .i64 lo)∧((IntKind.wrap .i64 lo):Int)≤(IntKind.wrap .i64 lo)) && (lim (Int.toNat (IntKind.wrap .i64 lo)) (.int .i64))) then
  am.L3 (((min (List.length x) (List.length (List.replicate (Int.toNat (IntKind.wrap .i64 lo)) (0:Int))):Nat):Int)) (splice (List.replicate (Int.toNat (IntKind.wrap .i64 lo)) (0:Int)) 0 (List.take (List.length (List.replicate (Int.toNat (IntKind.wrap .i64 lo)) (0:Int))) x))
 else none:=res_eq (by kernel_rfl)
theorem am.L3_eq (n l0):am.L3 n l0=
 bif (decide ((n:Int)<((List.length l0:Int)))) then
  am.L4 n l0
 else
  some (l0,()):=res_eq (by kernel_rfl)
theorem am.L4_eq (n l0):am.L4 n l0=
 bif (decide ((0:Int)≤n∧(n:Int)≤((List.length l0:Int))∧(((List.length l0:Int)):Int)≤((List.length l0:Int)))) then
  bif (decide ((0:Int)≤0∧(0:Int)≤n∧(n:Int)≤((List.length l0:Int)))) then
   am.L3 (IntKind.wrap .i64 (n+(((min (List.length (List.take ((Int.toNat n) - (Int.toNat 0)) (List.drop (Int.toNat 0) l0))) ((Int.toNat ((List.length l0:Int))) - (Int.toNat n)):Nat):Int)))) (splice l0 (Int.toNat n) (List.take ((Int.toNat ((List.length l0:Int))) - (Int.toNat n)) (List.take ((Int.toNat n) - (Int.toNat 0)) (List.drop (Int.toNat 0) l0))))
  else none
 else none:=res_eq (by kernel_rfl)
theorem am.F_eq (x count):am.F x count=
 bif (decide ((count:Int)<0)) then
  none
 else
  am.L1 x count:=by kernel_rfl
def i9.sg:Sig:=⟨[.val (.int .i64)],[(t4,true),((.int .i64),true)]⟩
def i9.E:Env:=⟨tl,fun i=>look i [(138,am.Fn)],[],eqs,globs,prims⟩
def i9.c:=cxOf i9.E i9.sg Tryz.f103
def i9.b:=body Tryz.f103
def i9.Fn:Fun:=fnOf i9.E i9.sg Tryz.f103
def i9.F (n:Int):Option (t4.den × Int × Unit):=i9.Fn.F (n,())
def i9.L1 (n:Int) (l1:List Int):Option (t4.den × Int × Unit):=res i9.c (atJoin i9.b [1,0,1]) ⟨[(0,(.v (.int .i64) n)),(2,(.ptr 0 []))],[(0,some (.box (.agg [(.sl 1),(.sl 2),(.v (.int .i64) 0),(.v (.int .i64) 0)]))),(1,some (.row (.int .i64) l1 false)),(2,some (.row (.int .i64) l1 false))],3,[]⟩
theorem i9.spec:FnSpec Tryz.prog globs 103 i9.Fn:=spec_of (E:=i9.E) (envOk_at tabOk eqOk primsOk (.cons am.spec<|.nil)) mixOk Tryz.func103 (by kernel_rfl)
theorem i9.L1_eq (n l1):i9.L1 n l1=
 (am.F ([(-1)]:List Int) n).bind fun r0=>
 bif (lim (List.length r0.1) (.int .i64)) then
  some ((r0.1,r0.1,(-1),(-1),()),0,())
 else none:=res_eq (by kernel_rfl)
theorem i9.F_eq (n):i9.F n=
 bif (decide ((n:Int)<1)) then
  some ((([]:List Int),([]:List Int),0,0,()),2,())
 else
  bif (decide ((n:Int)>16)) then
   some ((([]:List Int),([]:List Int),0,0,()),2,())
  else
   i9.L1 n ([]:List Int):=by kernel_rfl
def ik.sg:Sig:=⟨[],[((.slice t3),true)]⟩
def ik.E:Env:=⟨tl,fun i=>look i [],[],eqs,globs,prims⟩
def ik.Fn:Fun:=fnOf ik.E ik.sg Tryz.f104
def ik.F:Option ((List t3.den) × Unit):=ik.Fn.F ()
theorem ik.spec:FnSpec Tryz.prog globs 104 ik.Fn:=spec_of (E:=ik.E) (envOk_at tabOk eqOk primsOk (.nil)) mixOk Tryz.func104 (by kernel_rfl)
theorem ik.F_eq:ik.F=
 bif (decide ((0:Int)≤16∧(16:Int)≤16) && (lim (Int.toNat 16) t3)) then
  some ((List.replicate (Int.toNat 16) (0,0,false,())),())
 else none:=by kernel_rfl
def dt.sg:Sig:=⟨[.val (.int .i64)],[(t5,true),((.int .i64),true)]⟩
def dt.E:Env:=⟨tl,fun i=>look i [(102,eo.Fn),(103,i9.Fn),(104,ik.Fn)],[],eqs,globs,prims⟩
def dt.c:=cxOf dt.E dt.sg Tryz.f72
def dt.b:=body Tryz.f72
def dt.Fn:Fun:=fnOf dt.E dt.sg Tryz.f72
def dt.F (capacity:Int):Option (t5.den × Int × Unit):=dt.Fn.F (capacity,())
def dt.L1 (capacity:Int) (l1:List Int) (l2:List t1.den) (l3:List Int) (l4:List Bool) (l5:List t3.den):Option (t5.den × Int × Unit):=res dt.c (atJoin dt.b [1,0,1]) ⟨[(0,(.v (.int .i64) capacity)),(2,(.ptr 0 []))],[(0,some (.box (.agg [(.v (.int .i64) 0),(.sl 1),(.sl 2),(.agg [(.sl 3),(.sl 4),(.v (.int .i64) 0)]),(.sl 5),(.agg [(.sl 6),(.sl 7),(.v (.int .i64) 0),(.v (.int .i64) 0)])]))),(1,some (.row (.int .u32) l1 false)),(2,some (.row t1 l2 false)),(3,some (.row (.int .i64) l3 false)),(4,some (.row .bool l4 false)),(5,some (.row t3 l5 false)),(6,some (.row (.int .i64) l3 false)),(7,some (.row (.int .i64) l3 false))],8,[]⟩
theorem dt.spec:FnSpec Tryz.prog globs 72 dt.Fn:=spec_of (E:=dt.E) (envOk_at tabOk eqOk primsOk (.cons eo.spec<|.cons i9.spec<|.cons ik.spec<|.nil)) mixOk Tryz.func72 (by kernel_rfl)
theorem dt.L1_eq (capacity l1 l2 l3 l4 l5):dt.L1 capacity l1 l2 l3 l4 l5=
 (eo.F capacity).bind fun r0=>
 (i9.F capacity).bind fun r1=>
 bif (decide ((0:Int)≤capacity∧(capacity:Int)≤capacity) && (lim (Int.toNat capacity) (.int .u32))) then
  bif (decide ((0:Int)≤capacity∧(capacity:Int)≤capacity) && (lim (Int.toNat capacity) t1)) then
   ik.F.bind fun r2=>
   some ((capacity,(List.replicate (Int.toNat capacity) (0:Int)),(List.replicate (Int.toNat capacity) ((0,0,0,()),0,0,0,())),r0.1,r2.1,r1.1,()),0,())
  else none
 else none:=res_eq (by kernel_rfl)
theorem dt.F_eq (capacity):dt.F capacity=
 bif (decide ((capacity:Int)<1)) then
  some ((0,([]:List Int),([]:List t1.den),(([]:List Int),([]:List Bool),0,()),([]:List t3.den),(([]:List Int),([]:List Int),0,0,()),()),2,())
 else
  bif (decide ((capacity:Int)>8)) then
   some ((0,([]:List Int),([]:List t1.den),(([]:List Int),([]:List Bool),0,()),([]:List t3.den),(([]:List Int),([]:List Int),0,0,()),()),2,())
  else
   dt.L1 capacity ([]:List Int) ([]:List t1.den) ([]:List Int) ([]:List Bool) ([]:List t3.den):=by kernel_rfl
def db.sg:Sig:=⟨[.val t0],[((.int .i64),true)]⟩
def db.E:Env:=⟨tl,fun i=>look i [],[],eqs,globs,prims⟩
def db.c:=cxOf db.E db.sg Tryz.f98
def db.b:=body Tryz.f98
def db.Fn:Fun:=fnOf db.E db.sg Tryz.f98
def db.F (l:t0.den):Option (Int × Unit):=db.Fn.F (l,())
def db.L1:Option (Int × Unit):=res db.c (atJoin db.b [1,0,1]) ⟨[],[],0,[]⟩
theorem db.spec:FnSpec Tryz.prog globs 98 db.Fn:=spec_of (E:=db.E) (envOk_at tabOk eqOk primsOk (.nil)) mixOk Tryz.func98 (by kernel_rfl)
theorem db.L1_eq:db.L1=
 some (0,()):=res_eq (by kernel_rfl)
theorem db.F_eq (l):db.F l=
 bif (decide ((l.1:Int)<1)) then
  some (8,())
 else
  bif (decide ((l.1:Int)>1000000000)) then
   some (8,())
  else
   bif (decide ((l.2.1:Int)<0)) then
    some (8,())
   else
    bif (decide ((l.2.1:Int)>1000000000)) then
     some (8,())
    else
     bif (decide ((l.2.2.1:Int)<1)) then
      some (8,())
     else
      bif (decide ((l.2.2.1:Int)>1000000000)) then
       some (8,())
      else
       db.L1:=by kernel_rfl
def dc.sg:Sig:=⟨[.val t1],[((.int .i64),true)]⟩
def dc.E:Env:=⟨tl,fun i=>look i [(98,db.Fn)],[],eqs,globs,prims⟩
def dc.c:=cxOf dc.E dc.sg Tryz.f99
def dc.b:=body Tryz.f99
def dc.Fn:Fun:=fnOf dc.E dc.sg Tryz.f99
def dc.F (b:t1.den):Option (Int × Unit):=dc.Fn.F (b,())
def dc.L1 (b0 b02:Int) (b03 b04:Int) (b05 b06:Int):Option (Int × Unit):=res dc.c (atJoin dc.b [1,0,1,1]) ⟨[(1,(.ptr 0 []))],[(0,some (.box (.agg [(.agg [(.v (.int .i64) b0),(.v (.int .i64) b02),(.v (.int .i64) b03)]),(.v (.int .i64) b04),(.v (.int .i64) b05),(.v (.int .u64) b06)])))],1,[]⟩
def dc.L2:Option (Int × Unit):=res dc.c (atJoin dc.b [1,1,1,0,1]) ⟨[],[],0,[]⟩
theorem dc.spec:FnSpec Tryz.prog globs 99 dc.Fn:=spec_of (E:=dc.E) (envOk_at tabOk eqOk primsOk (.cons db.spec<|.nil)) mixOk Tryz.func99 (by kernel_rfl)
theorem dc.L1_eq (b0 b02 b03 b04 b05 b06):dc.L1 b0 b02 b03 b04 b05 b06=
 bif (decide ((b04:Int)<0)) then
  some (8,())
 else
  bif (decide (((IntKind.wrap .i64 (b0 - b04)):Int)<0)) then
   some (8,())
  else
   bif (decide ((b05:Int)<0)) then
    some (8,())
   else
    bif (decide ((b05:Int)≥b03)) then
     some (8,())
    else
     bif ((IntKind.wrap .i64 (b0 - b04))==0) then
      bif (decide ((b05:Int)>0)) then
       some (8,())
      else
       dc.L2
     else
      dc.L2:=res_eq (by kernel_rfl)
theorem dc.L2_eq:dc.L2=
 some (0,()):=res_eq (by kernel_rfl)
theorem dc.F_eq (b):dc.F b=
 (db.F b.1).bind fun r0=>
 bif (r0.1 !=0) then
  some (r0.1,())
 else
  dc.L1 b.1.1 b.1.2.1 b.1.2.2.1 b.2.1 b.2.2.1 b.2.2.2.1:=by kernel_rfl
def bm.sg:Sig:=⟨[.val t4],[((.int .i64),true)]⟩
def bm.E:Env:=⟨tl,fun i=>look i [],[],eqs,globs,prims⟩
def bm.c:=cxOf bm.E bm.sg Tryz.f148
def bm.b:=body Tryz.f148
def bm.Fn:Fun:=fnOf bm.E bm.sg Tryz.f148
def bm.F (o:t4.den):Option (Int × Unit):=bm.Fn.F (o,())
def bm.L1 (n:Int) (b0 b02:List Int) (b03 b04:Int):Option (Int × Unit):=res bm.c (atJoin bm.b [1,1,0,1]) ⟨[(1,(.ptr 0 [])),(3,(.v (.int .i64) n))],[(0,some (.box (.agg [(.v (.slice (.int .i64)) b0),(.v (.slice (.int .i64)) b02),(.v (.int .i64) b03),(.v (.int .i64) b04)])))],1,[]⟩
def bm.L2 (n last i:Int) (b0 b02:List Int) (b03 b04:Int) (l1:List Bool):Option (Int × Unit):=res bm.c (atLoop bm.b [1,1,1,1,1,0,1,0]) ⟨[(1,(.ptr 0 [])),(3,(.v (.int .i64) n)),(4,(.sl 1)),(5,(.v (.int .i64) last)),(6,(.v (.int .i64) i))],[(0,some (.box (.agg [(.v (.slice (.int .i64)) b0),(.v (.slice (.int .i64)) b02),(.v (.int .i64) b03),(.v (.int .i64) b04)]))),(1,some (.row .bool l1 false))],2,[]⟩
def bm.L3 (n last i:Int) (b0 b02:List Int) (b03 b04:Int) (l1:List Bool):Option (Int × Unit):=res bm.c (atJoin bm.b [1,1,1,1,1,0,1,0,0,0,1]) ⟨[(1,(.ptr 0 [])),(3,(.v (.int .i64) n)),(4,(.sl 1)),(5,(.v (.int .i64) last)),(6,(.v (.int .i64) i))],[(0,some (.box (.agg [(.v (.slice (.int .i64)) b0),(.v (.slice (.int .i64)) b02),(.v (.int .i64) b03),(.v (.int .i64) b04)]))),(1,some (.row .bool l1 false))],2,[]⟩
def bm.L4 (last t63_ t64_:Int) (b0 b02:List Int) (b03 b04:Int) (l1:List Bool):Option (Int × Unit):=res bm.c (atLoop bm.b [1,1,1,1,1,1,0,1,0]) ⟨[(1,(.ptr 0 [])),(5,(.v (.int .i64) last)),(62,(.sl 1)),(63,(.v (.int .i64) t63_)),(64,(.v (.int .i64) t64_))],[(0,some (.box (.agg [(.v (.slice (.int .i64)) b0),(.v (.slice (.int .i64)) b02),(.v (.int .i64) b03),(.v (.int .i64) b04)]))),(1,some (.row .bool l1 false))],2,[]⟩
def bm.L5 (last t63_ t64_:Int) (b0 b02:List Int) (b03 b04:Int) (l1:List Bool):Option (Int × Unit):=res bm.c (atJoin bm.b [1,1,1,1,1,1,0,1,0,0,1,0]) ⟨[(1,(.ptr 0 [])),(5,(.v (.int .i64) last)),(62,(.sl 1)),(63,(.v (.int .i64) t63_)),(64,(.v (.int .i64) t64_))],[(0,some (.box (.agg [(.v (.slice (.int .i64)) b0),(.v (.slice (.int .i64)) b02),(.v (.int .i64) b03),(.v (.int .i64) b04)]))),(1,some (.row .bool l1 false))],2,[]⟩
def bm.L6:Option (Int × Unit):=res bm.c (atJoin bm.b [1,1,1,1,1,1,1,0,1]) ⟨[],[],0,[]⟩
def bm.L7 (last t63_ t64_:Int) (b0 b02:List Int) (b03 b04:Int) (l1:List Bool):Option (Int × Unit):=res bm.c (atJoin bm.b [1,1,1,1,1,1,0,1,0,0,1,1,0,0,1,1]) ⟨[(1,(.ptr 0 [])),(5,(.v (.int .i64) last)),(62,(.sl 1)),(63,(.v (.int .i64) t63_)),(64,(.v (.int .i64) t64_))],[(0,some (.box (.agg [(.v (.slice (.int .i64)) b0),(.v (.slice (.int .i64)) b02),(.v (.int .i64) b03),(.v (.int .i64) b04)]))),(1,some (.row .bool l1 false))],2,[]⟩
def bm.L8 (n i:Int) (b0 b02:List Int) (b03 b04:Int) (l1:List Bool):Option (Int × Unit):=res bm.c (atJoin bm.b [1,1,1,1,1,0,1,0,0,1,0,0,0,1]) ⟨[(1,(.ptr 0 [])),(3,(.v (.int .i64) n)),(4,(.sl 1)),(6,(.v (.int .i64) i))],[(0,some (.box (.agg [(.v (.slice (.int .i64)) b0),(.v (.slice (.int .i64)) b02),(.v (.int .i64) b03),(.v (.int .i64) b04)]))),(1,some (.row .bool l1 false))],2,[]⟩
theorem bm.spec:FnSpec Tryz.prog globs 148 bm.Fn:=spec_of (E:=bm.E) (envOk_at tabOk eqOk primsOk (.nil)) mixOk Tryz.func148 (by kernel_rfl)
theorem bm.L1_eq (n b0 b02 b03 b04):bm.L1 n b0 b02 b03 b04=
 bif (decide ((0:Int)≤n∧(n:Int)≤n) && (lim (Int.toNat n) .bool)) then
  bm.L2 n (-1) b03 b0 b02 b03 b04 (List.replicate (Int.toNat n) false)
 else none:=res_eq (by kernel_rfl)
theorem bm.L2_eq (n last i b0 b02 b03 b04 l1):bm.L2 n last i b0 b02 b03 b04 l1=
 bif (i !=(-1)) then
  bm.L3 n last i b0 b02 b03 b04 l1
 else
  bm.L4 last ((List.length l1:Int)) 0 b0 b02 b03 b04 l1:=res_eq (by kernel_rfl)
theorem bm.L3_eq (n last i b0 b02 b03 b04 l1):bm.L3 n last i b0 b02 b03 b04 l1=
 bif (decide ((i:Int)<0)) then
  some (8,())
 else
  bif (decide ((i:Int)≥n)) then
   some (8,())
  else
   bif (decide ((0:Int)≤i∧(i:Int)<((List.length l1:Int)))) then
    bif (List.getD l1 (Int.toNat i) false) then
     some (8,())
    else
     bif (decide ((0:Int)≤i∧(i:Int)<((List.length b0:Int)))) then
      bif ((List.getD b0 (Int.toNat i) 0) !=last) then
       some (8,())
      else
       bm.L8 n i b0 b02 b03 b04 l1
     else none
   else none:=res_eq (by kernel_rfl)
theorem bm.L4_eq (last t63_ t64_ b0 b02 b03 b04 l1):bm.L4 last t63_ t64_ b0 b02 b03 b04 l1=
 bif (decide ((t64_:Int)<t63_)) then
  bm.L5 last t63_ t64_ b0 b02 b03 b04 l1
 else
  bif (b04 !=last) then
   some (8,())
  else
   bm.L6:=res_eq (by kernel_rfl)
theorem bm.L5_eq (last t63_ t64_ b0 b02 b03 b04 l1):bm.L5 last t63_ t64_ b0 b02 b03 b04 l1=
 bif (decide ((0:Int)≤t64_∧(t64_:Int)<((List.length l1:Int)))) then
  bif (!(List.getD l1 (Int.toNat t64_) false)) then
   bif (decide ((0:Int)≤t64_∧(t64_:Int)<((List.length b0:Int)))) then
    bif ((List.getD b0 (Int.toNat t64_) 0) !=(-1)) then
     some (8,())
    else
     bif (decide ((0:Int)≤t64_∧(t64_:Int)<((List.length b02:Int)))) then
      bif ((List.getD b02 (Int.toNat t64_) 0) !=(-1)) then
       some (8,())
      else
       bm.L7 last t63_ t64_ b0 b02 b03 b04 l1
     else none
   else none
  else
   bm.L7 last t63_ t64_ b0 b02 b03 b04 l1
 else none:=res_eq (by kernel_rfl)
theorem bm.L6_eq:bm.L6=
 some (0,()):=res_eq (by kernel_rfl)
theorem bm.L7_eq (last t63_ t64_ b0 b02 b03 b04 l1):bm.L7 last t63_ t64_ b0 b02 b03 b04 l1=
 bm.L4 last t63_ (IntKind.wrap .i64 (t64_+1)) b0 b02 b03 b04 l1:=res_eq (by kernel_rfl)
theorem bm.L8_eq (n i b0 b02 b03 b04 l1):bm.L8 n i b0 b02 b03 b04 l1=
 bif (decide ((0:Int)≤i∧(i:Int)<((List.length l1:Int)))) then
  bif (decide ((0:Int)≤i∧(i:Int)<((List.length b02:Int)))) then
   bm.L2 n i (List.getD b02 (Int.toNat i) 0) b0 b02 b03 b04 (List.set l1 (Int.toNat i) true)
  else none
 else none:=res_eq (by kernel_rfl)
theorem bm.F_eq (o):bm.F o=
 bif (decide ((((List.length o.1:Int)):Int)<1)) then
  some (8,())
 else
  bif (decide ((((List.length o.1:Int)):Int)>16)) then
   some (8,())
  else
   bif (((List.length o.2.1:Int)) !=((List.length o.1:Int))) then
    some (8,())
   else
    bm.L1 ((List.length o.1:Int)) o.1 o.2.1 o.2.2.1 o.2.2.2.1:=by kernel_rfl
def fc.sg:Sig:=⟨[.val t4],[((.slice (.int .i64)),true),((.int .i64),true)]⟩
def fc.E:Env:=⟨tl,fun i=>look i [(148,bm.Fn)],[],eqs,globs,prims⟩
def fc.c:=cxOf fc.E fc.sg Tryz.f134
def fc.b:=body Tryz.f134
def fc.Fn:Fun:=fnOf fc.E fc.sg Tryz.f134
def fc.F (o:t4.den):Option ((List Int) × Int × Unit):=fc.Fn.F (o,())
def fc.L1 (b0 b02:List Int) (b03 b04:Int):Option ((List Int) × Int × Unit):=res fc.c (atJoin fc.b [1,0,1,1]) ⟨[(1,(.ptr 0 []))],[(0,some (.box (.agg [(.v (.slice (.int .i64)) b0),(.v (.slice (.int .i64)) b02),(.v (.int .i64) b03),(.v (.int .i64) b04)])))],1,[]⟩
def fc.L2 (i:Int) (b0 b02:List Int) (b03 b04:Int) (l1:List Int):Option ((List Int) × Int × Unit):=res fc.c (atLoop fc.b [1,1,1,0,1,0]) ⟨[(1,(.ptr 0 [])),(5,(.sl 1)),(6,(.v (.int .i64) i))],[(0,some (.box (.agg [(.v (.slice (.int .i64)) b0),(.v (.slice (.int .i64)) b02),(.v (.int .i64) b03),(.v (.int .i64) b04)]))),(1,some (.row (.int .i64) l1 false))],2,[]⟩
def fc.L3 (i:Int) (b0 b02:List Int) (b03 b04:Int) (l1:List Int):Option ((List Int) × Int × Unit):=res fc.c (atJoin fc.b [1,1,1,0,1,0,0,0,1]) ⟨[(1,(.ptr 0 [])),(5,(.sl 1)),(6,(.v (.int .i64) i))],[(0,some (.box (.agg [(.v (.slice (.int .i64)) b0),(.v (.slice (.int .i64)) b02),(.v (.int .i64) b03),(.v (.int .i64) b04)]))),(1,some (.row (.int .i64) l1 false))],2,[]⟩
theorem fc.spec:FnSpec Tryz.prog globs 134 fc.Fn:=spec_of (E:=fc.E) (envOk_at tabOk eqOk primsOk (.cons bm.spec<|.nil)) mixOk Tryz.func134 (by kernel_rfl)
theorem fc.L1_eq (b0 b02 b03 b04):fc.L1 b0 b02 b03 b04=
 fc.L2 b03 b0 b02 b03 b04 ([]:List Int):=res_eq (by kernel_rfl)
theorem fc.L2_eq (i b0 b02 b03 b04 l1):fc.L2 i b0 b02 b03 b04 l1=
 bif (i !=(-1)) then
  fc.L3 i b0 b02 b03 b04 l1
 else
  some (l1,0,()):=res_eq (by kernel_rfl)
theorem fc.L3_eq (i b0 b02 b03 b04 l1):fc.L3 i b0 b02 b03 b04 l1=
 bif (lim ((List.length l1)+(List.length ([i]:List Int))) (.int .i64)) then
  bif (decide ((0:Int)≤i∧(i:Int)<((List.length b02:Int)))) then
   fc.L2 (List.getD b02 (Int.toNat i) 0) b0 b02 b03 b04 (l1++([i]:List Int))
  else none
 else none:=res_eq (by kernel_rfl)
theorem fc.F_eq (o):fc.F o=
 (bm.F o).bind fun r0=>
 bif (r0.1 !=0) then
  some (([]:List Int),r0.1,())
 else
  fc.L1 o.1 o.2.1 o.2.2.1 o.2.2.2.1:=by kernel_rfl
def b8.sg:Sig:=⟨[.val t2],[((.int .i64),true)]⟩
def b8.E:Env:=⟨tl,fun i=>look i [],[],eqs,globs,prims⟩
def b8.c:=cxOf b8.E b8.sg Tryz.f140
def b8.b:=body Tryz.f140
def b8.Fn:Fun:=fnOf b8.E b8.sg Tryz.f140
def b8.F (a:t2.den):Option (Int × Unit):=b8.Fn.F (a,())
def b8.L1 (n:Int) (b0:List Int) (b02:List Bool) (b03:Int):Option (Int × Unit):=res b8.c (atJoin b8.b [1,1,0,1]) ⟨[(1,(.ptr 0 [])),(3,(.v (.int .i64) n))],[(0,some (.box (.agg [(.v (.slice (.int .i64)) b0),(.v (.slice .bool) b02),(.v (.int .i64) b03)])))],1,[]⟩
def b8.L2 (n i:Int) (b0:List Int) (b02:List Bool) (b03:Int) (l1:List Bool):Option (Int × Unit):=res b8.c (atLoop b8.b [1,1,1,1,0,1,0]) ⟨[(1,(.ptr 0 [])),(3,(.v (.int .i64) n)),(4,(.sl 1)),(5,(.v (.int .i64) i))],[(0,some (.box (.agg [(.v (.slice (.int .i64)) b0),(.v (.slice .bool) b02),(.v (.int .i64) b03)]))),(1,some (.row .bool l1 false))],2,[]⟩
def b8.L3 (n i:Int) (b0:List Int) (b02:List Bool) (b03:Int) (l1:List Bool):Option (Int × Unit):=res b8.c (atJoin b8.b [1,1,1,1,0,1,0,0,0,1]) ⟨[(1,(.ptr 0 [])),(3,(.v (.int .i64) n)),(4,(.sl 1)),(5,(.v (.int .i64) i))],[(0,some (.box (.agg [(.v (.slice (.int .i64)) b0),(.v (.slice .bool) b02),(.v (.int .i64) b03)]))),(1,some (.row .bool l1 false))],2,[]⟩
def b8.L4 (t53_:List Bool) (t54_ t55_:Int) (b0:List Int) (b02:Int) (l1:List Bool):Option (Int × Unit):=res b8.c (atLoop b8.b [1,1,1,1,1,0,1,0]) ⟨[(1,(.ptr 0 [])),(4,(.sl 1)),(53,(.v (.slice .bool) t53_)),(54,(.v (.int .i64) t54_)),(55,(.v (.int .i64) t55_))],[(0,some (.box (.agg [(.v (.slice (.int .i64)) b0),(.v (.slice .bool) t53_),(.v (.int .i64) b02)]))),(1,some (.row .bool l1 false))],2,[]⟩
def b8.L5 (t53_:List Bool) (t54_ t55_:Int) (b0:List Int) (b02:Int) (l1:List Bool):Option (Int × Unit):=res b8.c (atJoin b8.b [1,1,1,1,1,0,1,0,0,1,0]) ⟨[(1,(.ptr 0 [])),(4,(.sl 1)),(53,(.v (.slice .bool) t53_)),(54,(.v (.int .i64) t54_)),(55,(.v (.int .i64) t55_))],[(0,some (.box (.agg [(.v (.slice (.int .i64)) b0),(.v (.slice .bool) t53_),(.v (.int .i64) b02)]))),(1,some (.row .bool l1 false))],2,[]⟩
def b8.L6 (t53_:List Bool) (t54_ t55_:Int) (b0:List Int) (b02:Int) (l1:List Bool):Option (Int × Unit):=res b8.c (atJoin b8.b [1,1,1,1,1,0,1,0,0,1,1,0,0,1,1]) ⟨[(1,(.ptr 0 [])),(4,(.sl 1)),(53,(.v (.slice .bool) t53_)),(54,(.v (.int .i64) t54_)),(55,(.v (.int .i64) t55_))],[(0,some (.box (.agg [(.v (.slice (.int .i64)) b0),(.v (.slice .bool) t53_),(.v (.int .i64) b02)]))),(1,some (.row .bool l1 false))],2,[]⟩
def b8.L7 (n i:Int) (b0:List Int) (b02:List Bool) (b03:Int) (l1:List Bool):Option (Int × Unit):=res b8.c (atJoin b8.b [1,1,1,1,0,1,0,0,1,0,0,0,1]) ⟨[(1,(.ptr 0 [])),(3,(.v (.int .i64) n)),(4,(.sl 1)),(5,(.v (.int .i64) i))],[(0,some (.box (.agg [(.v (.slice (.int .i64)) b0),(.v (.slice .bool) b02),(.v (.int .i64) b03)]))),(1,some (.row .bool l1 false))],2,[]⟩
theorem b8.spec:FnSpec Tryz.prog globs 140 b8.Fn:=spec_of (E:=b8.E) (envOk_at tabOk eqOk primsOk (.nil)) mixOk Tryz.func140 (by kernel_rfl)
theorem b8.L1_eq (n b0 b02 b03):b8.L1 n b0 b02 b03=
 bif (lim (List.length b02) .bool) then
  b8.L2 n b03 b0 b02 b03 b02
 else none:=res_eq (by kernel_rfl)
theorem b8.L2_eq (n i b0 b02 b03 l1):b8.L2 n i b0 b02 b03 l1=
 bif (i !=(-1)) then
  b8.L3 n i b0 b02 b03 l1
 else
  b8.L4 b02 ((List.length b02:Int)) 0 b0 b03 l1:=res_eq (by kernel_rfl)
theorem b8.L3_eq (n i b0 b02 b03 l1):b8.L3 n i b0 b02 b03 l1=
 bif (decide ((i:Int)<0)) then
  some (8,())
 else
  bif (decide ((i:Int)≥n)) then
   some (8,())
  else
   bif (decide ((0:Int)≤i∧(i:Int)<((List.length l1:Int)))) then
    bif (List.getD l1 (Int.toNat i) false) then
     some (8,())
    else
     b8.L7 n i b0 b02 b03 l1
   else none:=res_eq (by kernel_rfl)
theorem b8.L4_eq (t53_ t54_ t55_ b0 b02 l1):b8.L4 t53_ t54_ t55_ b0 b02 l1=
 bif (decide ((t55_:Int)<t54_)) then
  b8.L5 t53_ t54_ t55_ b0 b02 l1
 else
  some (0,()):=res_eq (by kernel_rfl)
theorem b8.L5_eq (t53_ t54_ t55_ b0 b02 l1):b8.L5 t53_ t54_ t55_ b0 b02 l1=
 bif (decide ((0:Int)≤t55_∧(t55_:Int)<((List.length t53_:Int)))) then
  bif (decide ((0:Int)≤t55_∧(t55_:Int)<((List.length l1:Int)))) then
   bif (!(List.getD l1 (Int.toNat t55_) false)) then
    some (8,())
   else
    bif (List.getD t53_ (Int.toNat t55_) false) then
     bif (decide ((0:Int)≤t55_∧(t55_:Int)<((List.length b0:Int)))) then
      bif ((List.getD b0 (Int.toNat t55_) 0) !=(-1)) then
       some (8,())
      else
       b8.L6 t53_ t54_ t55_ b0 b02 l1
     else none
    else
     b8.L6 t53_ t54_ t55_ b0 b02 l1
  else none
 else none:=res_eq (by kernel_rfl)
theorem b8.L6_eq (t53_ t54_ t55_ b0 b02 l1):b8.L6 t53_ t54_ t55_ b0 b02 l1=
 b8.L4 t53_ t54_ (IntKind.wrap .i64 (t55_+1)) b0 b02 l1:=res_eq (by kernel_rfl)
theorem b8.L7_eq (n i b0 b02 b03 l1):b8.L7 n i b0 b02 b03 l1=
 bif (decide ((0:Int)≤i∧(i:Int)<((List.length l1:Int)))) then
  bif (decide ((0:Int)≤i∧(i:Int)<((List.length b0:Int)))) then
   b8.L2 n (List.getD b0 (Int.toNat i) 0) b0 b02 b03 (List.set l1 (Int.toNat i) true)
  else none
 else none:=res_eq (by kernel_rfl)
theorem b8.F_eq (a):b8.F a=
 bif (decide ((((List.length a.1:Int)):Int)<1)) then
  some (8,())
 else
  bif (decide ((((List.length a.1:Int)):Int)>16)) then
   some (8,())
  else
   bif (((List.length a.2.1:Int)) !=((List.length a.1:Int))) then
    some (8,())
   else
    b8.L1 ((List.length a.1:Int)) a.1 a.2.1 a.2.2.1:=by kernel_rfl
def ia.sg:Sig:=⟨[.val (.int .i64)],[((.int .i64),true)]⟩
def ia.E:Env:=⟨tl,fun i=>look i [],[],eqs,globs,prims⟩
def ia.Fn:Fun:=fnOf ia.E ia.sg Tryz.f176
def ia.F (i:Int):Option (Int × Unit):=ia.Fn.F (i,())
theorem ia.spec:FnSpec Tryz.prog globs 176 ia.Fn:=spec_of (E:=ia.E) (envOk_at tabOk eqOk primsOk (.nil)) mixOk Tryz.func176 (by kernel_rfl)
theorem ia.F_eq (i):ia.F i=
 some ((bits .and .i64 i 15),()):=by kernel_rfl
def ic.sg:Sig:=⟨[.val (.int .u32)],[((.int .i64),true)]⟩
def ic.E:Env:=⟨tl,fun i=>look i [],[],eqs,globs,prims⟩
def ic.Fn:Fun:=fnOf ic.E ic.sg Tryz.f177
def ic.F (key:Int):Option (Int × Unit):=ic.Fn.F (key,())
theorem ic.spec:FnSpec Tryz.prog globs 177 ic.Fn:=spec_of (E:=ic.E) (envOk_at tabOk eqOk primsOk (.nil)) mixOk Tryz.func177 (by kernel_rfl)
theorem ic.F_eq (key):ic.F key=
 bif (decide ((0:Int)≤28)) then
  some ((IntKind.wrap .i64 (Int.fdiv (IntKind.wrap .u32 (key*2654435769)) (2 ^ min (Int.toNat 28) (IntKind.bits .u32)))),())
 else none:=by kernel_rfl
def dr.sg:Sig:=⟨[.val (.slice t3),.val (.int .u32)],[((.int .i64),true),((.int .i64),true)]⟩
def dr.E:Env:=⟨tl,fun i=>look i [(176,ia.Fn),(177,ic.Fn)],[],eqs,globs,prims⟩
def dr.c:=cxOf dr.E dr.sg Tryz.f152
def dr.b:=body Tryz.f152
def dr.Fn:Fun:=fnOf dr.E dr.sg Tryz.f152
def dr.F (x:List t3.den) (key:Int):Option (Int × Int × Unit):=dr.Fn.F (x,key,())
def dr.L1 (x:List t3.den) (key i steps:Int):Option (Int × Int × Unit):=res dr.c (atLoop dr.b [1,0,1,0]) ⟨[(0,(.v (.slice t3) x)),(1,(.v (.int .u32) key)),(4,(.v (.int .i64) i)),(5,(.v (.int .i64) steps))],[],0,[]⟩
def dr.L2 (x:List t3.den) (key i steps:Int):Option (Int × Int × Unit):=res dr.c (atJoin dr.b [1,0,1,0,0,0,1]) ⟨[(0,(.v (.slice t3) x)),(1,(.v (.int .u32) key)),(4,(.v (.int .i64) i)),(5,(.v (.int .i64) steps))],[],0,[]⟩
theorem dr.spec:FnSpec Tryz.prog globs 152 dr.Fn:=spec_of (E:=dr.E) (envOk_at tabOk eqOk primsOk (.cons ia.spec<|.cons ic.spec<|.nil)) mixOk Tryz.func152 (by kernel_rfl)
theorem dr.L1_eq (x key i steps):dr.L1 x key i steps=
 bif (decide ((0:Int)≤i∧(i:Int)<((List.length x:Int)))) then
  bif (((List.getD x (Int.toNat i) (0,0,false,())).2).2).1 then
   bif (decide ((0:Int)≤i∧(i:Int)<((List.length x:Int)))) then
    bif ((List.getD x (Int.toNat i) (0,0,false,())).1 !=key) then
     dr.L2 x key i steps
    else
     some (i,(IntKind.wrap .i64 (steps+1)),())
   else none
  else
   some (i,(IntKind.wrap .i64 (steps+1)),())
 else none:=res_eq (by kernel_rfl)
theorem dr.L2_eq (x key i steps):dr.L2 x key i steps=
 (ia.F (IntKind.wrap .i64 (i+1))).bind fun r0=>
 dr.L1 x key r0.1 (IntKind.wrap .i64 (steps+1)):=res_eq (by kernel_rfl)
theorem dr.F_eq (x key):dr.F x key=
 (ic.F key).bind fun r0=>
 dr.L1 x key r0.1 0:=by kernel_rfl
def ai.sg:Sig:=⟨[.val (.slice t3)],[((.int .i64),true)]⟩
def ai.E:Env:=⟨tl,fun i=>look i [(152,dr.Fn)],[],eqs,globs,prims⟩
def ai.c:=cxOf ai.E ai.sg Tryz.f141
def ai.b:=body Tryz.f141
def ai.Fn:Fun:=fnOf ai.E ai.sg Tryz.f141
def ai.F (x:List t3.den):Option (Int × Unit):=ai.Fn.F (x,())
def ai.L1 (x:List t3.den):Option (Int × Unit):=res ai.c (atJoin ai.b [1,0,1]) ⟨[(0,(.v (.slice t3) x))],[],0,[]⟩
def ai.L2 (x:List t3.den) (n t14_ t15_:Int):Option (Int × Unit):=res ai.c (atLoop ai.b [1,1,1,0,1,0]) ⟨[(0,(.v (.slice t3) x)),(3,(.v (.int .i64) n)),(13,(.v (.slice t3) x)),(14,(.v (.int .i64) t14_)),(15,(.v (.int .i64) t15_))],[],0,[]⟩
def ai.L3 (x:List t3.den) (n t14_ t15_:Int):Option (Int × Unit):=res ai.c (atJoin ai.b [1,1,1,0,1,0,0,1,0]) ⟨[(0,(.v (.slice t3) x)),(3,(.v (.int .i64) n)),(13,(.v (.slice t3) x)),(14,(.v (.int .i64) t14_)),(15,(.v (.int .i64) t15_))],[],0,[]⟩
def ai.L4 (x:List t3.den):Option (Int × Unit):=res ai.c (atJoin ai.b [1,1,1,1,0,1]) ⟨[(0,(.v (.slice t3) x))],[],0,[]⟩
def ai.L5 (x:List t3.den) (t26_:Int):Option (Int × Unit):=res ai.c (atLoop ai.b [1,1,1,1,1,0,1,0]) ⟨[(0,(.v (.slice t3) x)),(26,(.v (.int .i64) t26_))],[],0,[]⟩
def ai.L6 (x:List t3.den) (t26_:Int):Option (Int × Unit):=res ai.c (atJoin ai.b [1,1,1,1,1,0,1,0,0,1,0]) ⟨[(0,(.v (.slice t3) x)),(26,(.v (.int .i64) t26_))],[],0,[]⟩
def ai.L7 (x:List t3.den) (i b0 b02:Int) (b03:Bool):Option (Int × Unit):=res ai.c (atJoin ai.b [1,1,1,1,1,0,1,0,0,1,1,0,0,1,1,0,1]) ⟨[(0,(.v (.slice t3) x)),(6,(.v (.int .i64) i)),(7,(.ptr 0 [])),(26,(.v (.int .i64) i))],[(0,some (.box (.agg [(.v (.int .u32) b0),(.v (.int .i64) b02),(.v .bool b03)])))],1,[]⟩
def ai.L8 (x:List t3.den) (t26_:Int):Option (Int × Unit):=res ai.c (atJoin ai.b [1,1,1,1,1,0,1,0,0,1,1,0,0,1,1,1,1,1]) ⟨[(0,(.v (.slice t3) x)),(26,(.v (.int .i64) t26_))],[],0,[]⟩
def ai.L9 (x:List t3.den) (n t14_ t15_:Int):Option (Int × Unit):=res ai.c (atJoin ai.b [1,1,1,0,1,0,0,1,1,0,0,1,1]) ⟨[(0,(.v (.slice t3) x)),(3,(.v (.int .i64) n)),(13,(.v (.slice t3) x)),(14,(.v (.int .i64) t14_)),(15,(.v (.int .i64) t15_))],[],0,[]⟩
theorem ai.spec:FnSpec Tryz.prog globs 141 ai.Fn:=spec_of (E:=ai.E) (envOk_at tabOk eqOk primsOk (.cons dr.spec<|.nil)) mixOk Tryz.func141 (by kernel_rfl)
theorem ai.L1_eq (x):ai.L1 x=
 ai.L2 x 0 ((List.length x:Int)) 0:=res_eq (by kernel_rfl)
theorem ai.L2_eq (x n t14_ t15_):ai.L2 x n t14_ t15_=
 bif (decide ((t15_:Int)<t14_)) then
  ai.L3 x n t14_ t15_
 else
  bif (decide ((n:Int)>12)) then
   some (8,())
  else
   ai.L4 x:=res_eq (by kernel_rfl)
theorem ai.L3_eq (x n t14_ t15_):ai.L3 x n t14_ t15_=
 bif (decide ((0:Int)≤t15_∧(t15_:Int)<((List.length x:Int)))) then
  bif (((List.getD x (Int.toNat t15_) (0,0,false,())).2).2).1 then
   ai.L9 x (IntKind.wrap .i64 (n+1)) t14_ t15_
  else
   ai.L9 x n t14_ t15_
 else none:=res_eq (by kernel_rfl)
theorem ai.L4_eq (x):ai.L4 x=
 ai.L5 x 0:=res_eq (by kernel_rfl)
theorem ai.L5_eq (x t26_):ai.L5 x t26_=
 bif (decide ((t26_:Int)<16)) then
  ai.L6 x t26_
 else
  some (0,()):=res_eq (by kernel_rfl)
theorem ai.L6_eq (x t26_):ai.L6 x t26_=
 bif (decide ((0:Int)≤t26_∧(t26_:Int)<((List.length x:Int)))) then
  bif (!((((List.getD x (Int.toNat t26_) (0,0,false,())).2).2).1)) then
   bif (!(Ty.beq t3 (List.getD x (Int.toNat t26_) (0,0,false,())) (0,0,false,()))) then
    some (8,())
   else
    bif (((List.getD x (Int.toNat t26_) (0,0,false,())).2).2).1 then
     bif (decide (((((List.getD x (Int.toNat t26_) (0,0,false,())).2).1):Int)<0)) then
      some (8,())
     else
      bif (decide (((((List.getD x (Int.toNat t26_) (0,0,false,())).2).1):Int)≥16)) then
       some (8,())
      else
       ai.L7 x t26_ ((List.getD x (Int.toNat t26_) (0,0,false,())).1) (((List.getD x (Int.toNat t26_) (0,0,false,())).2).1) ((((List.getD x (Int.toNat t26_) (0,0,false,())).2).2).1)
    else
     ai.L7 x t26_ ((List.getD x (Int.toNat t26_) (0,0,false,())).1) (((List.getD x (Int.toNat t26_) (0,0,false,())).2).1) ((((List.getD x (Int.toNat t26_) (0,0,false,())).2).2).1)
  else
   bif (((List.getD x (Int.toNat t26_) (0,0,false,())).2).2).1 then
    bif (decide (((((List.getD x (Int.toNat t26_) (0,0,false,())).2).1):Int)<0)) then
     some (8,())
    else
     bif (decide (((((List.getD x (Int.toNat t26_) (0,0,false,())).2).1):Int)≥16)) then
      some (8,())
     else
      ai.L7 x t26_ ((List.getD x (Int.toNat t26_) (0,0,false,())).1) (((List.getD x (Int.toNat t26_) (0,0,false,())).2).1) ((((List.getD x (Int.toNat t26_) (0,0,false,())).2).2).1)
   else
    ai.L7 x t26_ ((List.getD x (Int.toNat t26_) (0,0,false,())).1) (((List.getD x (Int.toNat t26_) (0,0,false,())).2).1) ((((List.getD x (Int.toNat t26_) (0,0,false,())).2).2).1)
 else none:=res_eq (by kernel_rfl)
theorem ai.L7_eq (x i b0 b02 b03):ai.L7 x i b0 b02 b03=
 (dr.F x b0).bind fun r0=>
 bif b03 then
  bif (r0.1 !=i) then
   some (8,())
  else
   ai.L8 x i
 else
  ai.L8 x i:=res_eq (by kernel_rfl)
theorem ai.L8_eq (x t26_):ai.L8 x t26_=
 ai.L5 x (IntKind.wrap .i64 (t26_+1)):=res_eq (by kernel_rfl)
theorem ai.L9_eq (x n t14_ t15_):ai.L9 x n t14_ t15_=
 ai.L2 x n t14_ (IntKind.wrap .i64 (t15_+1)):=res_eq (by kernel_rfl)
theorem ai.F_eq (x):ai.F x=
 bif (((List.length x:Int)) !=16) then
  some (8,())
 else
  ai.L1 x:=by kernel_rfl
def dj.sg:Sig:=⟨[.val (.slice (.int .i64)),.val (.int .i64)],[((.int .i64),true)]⟩
def dj.E:Env:=⟨tl,fun i=>look i [],[],eqs,globs,prims⟩
def dj.c:=cxOf dj.E dj.sg Tryz.f175
def dj.b:=body Tryz.f175
def dj.Fn:Fun:=fnOf dj.E dj.sg Tryz.f175
def dj.F (s:List Int) (v:Int):Option (Int × Unit):=dj.Fn.F (s,v,())
def dj.L1 (s:List Int) (v t7_ t8_:Int):Option (Int × Unit):=res dj.c (atLoop dj.b [1,0,1,0]) ⟨[(0,(.v (.slice (.int .i64)) s)),(1,(.v (.int .i64) v)),(7,(.v (.int .i64) t7_)),(8,(.v (.int .i64) t8_))],[],0,[]⟩
def dj.L2 (s:List Int) (v t7_ t8_:Int):Option (Int × Unit):=res dj.c (atJoin dj.b [1,0,1,0,0,1,0]) ⟨[(0,(.v (.slice (.int .i64)) s)),(1,(.v (.int .i64) v)),(7,(.v (.int .i64) t7_)),(8,(.v (.int .i64) t8_))],[],0,[]⟩
def dj.L3 (s:List Int) (v t7_ t8_:Int):Option (Int × Unit):=res dj.c (atJoin dj.b [1,0,1,0,0,1,1,0,0,1,1]) ⟨[(0,(.v (.slice (.int .i64)) s)),(1,(.v (.int .i64) v)),(7,(.v (.int .i64) t7_)),(8,(.v (.int .i64) t8_))],[],0,[]⟩
theorem dj.spec:FnSpec Tryz.prog globs 175 dj.Fn:=spec_of (E:=dj.E) (envOk_at tabOk eqOk primsOk (.nil)) mixOk Tryz.func175 (by kernel_rfl)
theorem dj.L1_eq (s v t7_ t8_):dj.L1 s v t7_ t8_=
 bif (decide ((t8_:Int)<t7_)) then
  dj.L2 s v t7_ t8_
 else
  some ((-1),()):=res_eq (by kernel_rfl)
theorem dj.L2_eq (s v t7_ t8_):dj.L2 s v t7_ t8_=
 bif (decide ((0:Int)≤t8_∧(t8_:Int)<((List.length s:Int)))) then
  bif (v==(List.getD s (Int.toNat t8_) 0)) then
   some (t8_,())
  else
   dj.L3 s v t7_ t8_
 else none:=res_eq (by kernel_rfl)
theorem dj.L3_eq (s v t7_ t8_):dj.L3 s v t7_ t8_=
 dj.L1 s v t7_ (IntKind.wrap .i64 (t8_+1)):=res_eq (by kernel_rfl)
theorem dj.F_eq (s v):dj.F s v=
 dj.L1 s v ((List.length s:Int)) 0:=by kernel_rfl
def gy.sg:Sig:=⟨[.val (.slice (.int .i64)),.val (.int .i64)],[(.bool,true)]⟩
def gy.E:Env:=⟨tl,fun i=>look i [(175,dj.Fn)],[],eqs,globs,prims⟩
def gy.Fn:Fun:=fnOf gy.E gy.sg Tryz.f142
def gy.F (s:List Int) (v:Int):Option (Bool × Unit):=gy.Fn.F (s,v,())
theorem gy.spec:FnSpec Tryz.prog globs 142 gy.Fn:=spec_of (E:=gy.E) (envOk_at tabOk eqOk primsOk (.cons dj.spec<|.nil)) mixOk Tryz.func142 (by kernel_rfl)
theorem gy.F_eq (s v):gy.F s v=
 (dj.F s v).bind fun r0=>
 some ((decide ((r0.1:Int)≥0)),()):=by kernel_rfl
def fb.sg:Sig:=⟨[.val (.slice t3),.val (.int .u32)],[((.int .i64),true),((.int .i64),true)]⟩
def fb.E:Env:=⟨tl,fun i=>look i [(141,ai.Fn),(152,dr.Fn)],[],eqs,globs,prims⟩
def fb.c:=cxOf fb.E fb.sg Tryz.f143
def fb.b:=body Tryz.f143
def fb.Fn:Fun:=fnOf fb.E fb.sg Tryz.f143
def fb.F (x:List t3.den) (key:Int):Option (Int × Int × Unit):=fb.Fn.F (x,key,())
def fb.L1 (x:List t3.den) (key:Int):Option (Int × Int × Unit):=res fb.c (atJoin fb.b [1,0,1,1]) ⟨[(0,(.v (.slice t3) x)),(1,(.v (.int .u32) key))],[],0,[]⟩
def fb.L2 (x:List t3.den) (i:Int):Option (Int × Int × Unit):=res fb.c (atJoin fb.b [1,1,1,0,1]) ⟨[(0,(.v (.slice t3) x)),(7,(.v (.int .i64) i))],[],0,[]⟩
theorem fb.spec:FnSpec Tryz.prog globs 143 fb.Fn:=spec_of (E:=fb.E) (envOk_at tabOk eqOk primsOk (.cons ai.spec<|.cons dr.spec<|.nil)) mixOk Tryz.func143 (by kernel_rfl)
theorem fb.L1_eq (x key):fb.L1 x key=
 (dr.F x key).bind fun r0=>
 bif (decide ((0:Int)≤r0.1∧(r0.1:Int)<((List.length x:Int)))) then
  bif (!((((List.getD x (Int.toNat r0.1) (0,0,false,())).2).2).1)) then
   some (0,6,())
  else
   fb.L2 x r0.1
 else none:=res_eq (by kernel_rfl)
theorem fb.L2_eq (x i):fb.L2 x i=
 bif (decide ((0:Int)≤i∧(i:Int)<((List.length x:Int)))) then
  some (((List.getD x (Int.toNat i) (0,0,false,())).2).1,0,())
 else none:=res_eq (by kernel_rfl)
theorem fb.F_eq (x key):fb.F x key=
 (ai.F x).bind fun r0=>
 bif (r0.1 !=0) then
  some (0,r0.1,())
 else
  fb.L1 x key:=by kernel_rfl
def af.sg:Sig:=⟨[.val t5],[((.int .i64),true)]⟩
def af.E:Env:=⟨tl,fun i=>look i [(99,dc.Fn),(134,fc.Fn),(140,b8.Fn),(141,ai.Fn),(142,gy.Fn),(143,fb.Fn)],[],eqs,globs,prims⟩
def af.c:=cxOf af.E af.sg Tryz.f106
def af.b:=body Tryz.f106
def af.Fn:Fun:=fnOf af.E af.sg Tryz.f106
def af.F (t:t5.den):Option (Int × Unit):=af.Fn.F (t,())
def af.L1 (b0:Int) (b02:List Int) (b03:List t1.den) (b04:List Int) (b05:List Bool) (b06:Int) (b07:List t3.den) (b08 b09:List Int) (b010 b011:Int):Option (Int × Unit):=res af.c (atJoin af.b [1,1,1,0,1]) ⟨[(1,(.ptr 0 []))],[(0,some (.box (.agg [(.v (.int .i64) b0),(.v (.slice (.int .u32)) b02),(.v (.slice t1) b03),(.agg [(.v (.slice (.int .i64)) b04),(.v (.slice .bool) b05),(.v (.int .i64) b06)]),(.v (.slice t3) b07),(.agg [(.v (.slice (.int .i64)) b08),(.v (.slice (.int .i64)) b09),(.v (.int .i64) b010),(.v (.int .i64) b011)])])))],1,[]⟩
def af.L2 (b0:Int) (b02:List Int) (b03:List t1.den) (b04:List Int) (b05:List Bool) (b06:Int) (b07:List t3.den) (b08 b09:List Int) (b010 b011:Int) (l1:List Int):Option (Int × Unit):=res af.c (atJoin af.b [1,1,1,1,1,0,1]) ⟨[(1,(.ptr 0 [])),(5,(.sl 1))],[(0,some (.box (.agg [(.v (.int .i64) b0),(.v (.slice (.int .u32)) b02),(.v (.slice t1) b03),(.agg [(.v (.slice (.int .i64)) b04),(.v (.slice .bool) b05),(.v (.int .i64) b06)]),(.v (.slice t3) b07),(.agg [(.v (.slice (.int .i64)) b08),(.v (.slice (.int .i64)) b09),(.v (.int .i64) b010),(.v (.int .i64) b011)])]))),(1,some (.row (.int .i64) l1 false))],2,[]⟩
def af.L3 (used:Int) (t68_:List Bool) (t69_ t70_ b0:Int) (b02:List Int) (b03:List t1.den) (b04:List Int) (b05:Int) (b06:List t3.den) (b07 b08:List Int) (b09 b010:Int) (l1:List Int):Option (Int × Unit):=res af.c (atLoop af.b [1,1,1,1,1,1,1,0,1,0]) ⟨[(1,(.ptr 0 [])),(5,(.sl 1)),(7,(.v (.int .i64) used)),(68,(.v (.slice .bool) t68_)),(69,(.v (.int .i64) t69_)),(70,(.v (.int .i64) t70_))],[(0,some (.box (.agg [(.v (.int .i64) b0),(.v (.slice (.int .u32)) b02),(.v (.slice t1) b03),(.agg [(.v (.slice (.int .i64)) b04),(.v (.slice .bool) t68_),(.v (.int .i64) b05)]),(.v (.slice t3) b06),(.agg [(.v (.slice (.int .i64)) b07),(.v (.slice (.int .i64)) b08),(.v (.int .i64) b09),(.v (.int .i64) b010)])]))),(1,some (.row (.int .i64) l1 false))],2,[]⟩
def af.L4 (used:Int) (t68_:List Bool) (t69_ t70_ b0:Int) (b02:List Int) (b03:List t1.den) (b04:List Int) (b05:Int) (b06:List t3.den) (b07 b08:List Int) (b09 b010:Int) (l1:List Int):Option (Int × Unit):=res af.c (atJoin af.b [1,1,1,1,1,1,1,0,1,0,0,1,0]) ⟨[(1,(.ptr 0 [])),(5,(.sl 1)),(7,(.v (.int .i64) used)),(68,(.v (.slice .bool) t68_)),(69,(.v (.int .i64) t69_)),(70,(.v (.int .i64) t70_))],[(0,some (.box (.agg [(.v (.int .i64) b0),(.v (.slice (.int .u32)) b02),(.v (.slice t1) b03),(.agg [(.v (.slice (.int .i64)) b04),(.v (.slice .bool) t68_),(.v (.int .i64) b05)]),(.v (.slice t3) b06),(.agg [(.v (.slice (.int .i64)) b07),(.v (.slice (.int .i64)) b08),(.v (.int .i64) b09),(.v (.int .i64) b010)])]))),(1,some (.row (.int .i64) l1 false))],2,[]⟩
def af.L5 (used:Int) (t134_:List t3.den) (t135_ t136_:Int):Option (Int × Unit):=res af.c (atLoop af.b [1,1,1,1,1,1,1,1,0,1,0]) ⟨[(7,(.v (.int .i64) used)),(134,(.v (.slice t3) t134_)),(135,(.v (.int .i64) t135_)),(136,(.v (.int .i64) t136_))],[],0,[]⟩
def af.L6 (used:Int) (t134_:List t3.den) (t135_ t136_:Int):Option (Int × Unit):=res af.c (atJoin af.b [1,1,1,1,1,1,1,1,0,1,0,0,1,0]) ⟨[(7,(.v (.int .i64) used)),(134,(.v (.slice t3) t134_)),(135,(.v (.int .i64) t135_)),(136,(.v (.int .i64) t136_))],[],0,[]⟩
def af.L7:Option (Int × Unit):=res af.c (atJoin af.b [1,1,1,1,1,1,1,1,1,0,1]) ⟨[],[],0,[]⟩
def af.L8 (used:Int) (t134_:List t3.den) (t135_ t136_:Int):Option (Int × Unit):=res af.c (atJoin af.b [1,1,1,1,1,1,1,1,0,1,0,0,1,1,0,0,1,1]) ⟨[(7,(.v (.int .i64) used)),(134,(.v (.slice t3) t134_)),(135,(.v (.int .i64) t135_)),(136,(.v (.int .i64) t136_))],[],0,[]⟩
def af.L9 (used i:Int) (is_:Bool) (t68_:List Bool) (t69_ b0:Int) (b02:List Int) (b03:List t1.den) (b04:List Int) (b05:Int) (b06:List t3.den) (b07 b08:List Int) (b09 b010:Int) (l1:List Int):Option (Int × Unit):=res af.c (atJoin af.b [1,1,1,1,1,1,1,0,1,0,0,1,1,0,0,1,0,1]) ⟨[(1,(.ptr 0 [])),(5,(.sl 1)),(7,(.v (.int .i64) used)),(8,(.v (.int .i64) i)),(9,(.v .bool is_)),(68,(.v (.slice .bool) t68_)),(69,(.v (.int .i64) t69_)),(70,(.v (.int .i64) i))],[(0,some (.box (.agg [(.v (.int .i64) b0),(.v (.slice (.int .u32)) b02),(.v (.slice t1) b03),(.agg [(.v (.slice (.int .i64)) b04),(.v (.slice .bool) t68_),(.v (.int .i64) b05)]),(.v (.slice t3) b06),(.agg [(.v (.slice (.int .i64)) b07),(.v (.slice (.int .i64)) b08),(.v (.int .i64) b09),(.v (.int .i64) b010)])]))),(1,some (.row (.int .i64) l1 false))],2,[]⟩
def af.L10 (used i:Int) (t68_:List Bool) (t69_ b0:Int) (b02:List Int) (b03:List t1.den) (b04:List Int) (b05:Int) (b06:List t3.den) (b07 b08:List Int) (b09 b010:Int) (l1:List Int):Option (Int × Unit):=res af.c (atJoin af.b [1,1,1,1,1,1,1,0,1,0,0,1,1,0,0,1,1,0,1]) ⟨[(1,(.ptr 0 [])),(5,(.sl 1)),(7,(.v (.int .i64) used)),(8,(.v (.int .i64) i)),(68,(.v (.slice .bool) t68_)),(69,(.v (.int .i64) t69_)),(70,(.v (.int .i64) i))],[(0,some (.box (.agg [(.v (.int .i64) b0),(.v (.slice (.int .u32)) b02),(.v (.slice t1) b03),(.agg [(.v (.slice (.int .i64)) b04),(.v (.slice .bool) t68_),(.v (.int .i64) b05)]),(.v (.slice t3) b06),(.agg [(.v (.slice (.int .i64)) b07),(.v (.slice (.int .i64)) b08),(.v (.int .i64) b09),(.v (.int .i64) b010)])]))),(1,some (.row (.int .i64) l1 false))],2,[]⟩
def af.L11 (used:Int) (t68_:List Bool) (t69_ t70_ b0:Int) (b02:List Int) (b03:List t1.den) (b04:List Int) (b05:Int) (b06:List t3.den) (b07 b08:List Int) (b09 b010:Int) (l1:List Int):Option (Int × Unit):=res af.c (atJoin af.b [1,1,1,1,1,1,1,0,1,0,0,1,1,0,0,1,1,1,1,1,1]) ⟨[(1,(.ptr 0 [])),(5,(.sl 1)),(7,(.v (.int .i64) used)),(68,(.v (.slice .bool) t68_)),(69,(.v (.int .i64) t69_)),(70,(.v (.int .i64) t70_))],[(0,some (.box (.agg [(.v (.int .i64) b0),(.v (.slice (.int .u32)) b02),(.v (.slice t1) b03),(.agg [(.v (.slice (.int .i64)) b04),(.v (.slice .bool) t68_),(.v (.int .i64) b05)]),(.v (.slice t3) b06),(.agg [(.v (.slice (.int .i64)) b07),(.v (.slice (.int .i64)) b08),(.v (.int .i64) b09),(.v (.int .i64) b010)])]))),(1,some (.row (.int .i64) l1 false))],2,[]⟩
theorem af.spec:FnSpec Tryz.prog globs 106 af.Fn:=spec_of (E:=af.E) (envOk_at tabOk eqOk primsOk (.cons dc.spec<|.cons fc.spec<|.cons b8.spec<|.cons ai.spec<|.cons gy.spec<|.cons fb.spec<|.nil)) mixOk Tryz.func106 (by kernel_rfl)
theorem af.L1_eq (b0 b02 b03 b04 b05 b06 b07 b08 b09 b010 b011):af.L1 b0 b02 b03 b04 b05 b06 b07 b08 b09 b010 b011=
 (fc.F (b08,b09,b010,b011,())).bind fun r0=>
 bif (r0.2.1 !=0) then
  some (8,())
 else
  af.L2 b0 b02 b03 b04 b05 b06 b07 b08 b09 b010 b011 r0.1:=res_eq (by kernel_rfl)
theorem af.L2_eq (b0 b02 b03 b04 b05 b06 b07 b08 b09 b010 b011 l1):af.L2 b0 b02 b03 b04 b05 b06 b07 b08 b09 b010 b011 l1=
 af.L3 0 b05 ((List.length b05:Int)) 0 b0 b02 b03 b04 b06 b07 b08 b09 b010 b011 l1:=res_eq (by kernel_rfl)
theorem af.L3_eq (used t68_ t69_ t70_ b0 b02 b03 b04 b05 b06 b07 b08 b09 b010 l1):af.L3 used t68_ t69_ t70_ b0 b02 b03 b04 b05 b06 b07 b08 b09 b010 l1=
 bif (decide ((t70_:Int)<t69_)) then
  af.L4 used t68_ t69_ t70_ b0 b02 b03 b04 b05 b06 b07 b08 b09 b010 l1
 else
  af.L5 used b06 ((List.length b06:Int)) 0:=res_eq (by kernel_rfl)
theorem af.L4_eq (used t68_ t69_ t70_ b0 b02 b03 b04 b05 b06 b07 b08 b09 b010 l1):af.L4 used t68_ t69_ t70_ b0 b02 b03 b04 b05 b06 b07 b08 b09 b010 l1=
 bif (decide ((0:Int)≤t70_∧(t70_:Int)<((List.length t68_:Int)))) then
  (gy.F l1 t70_).bind fun r0=>
  bif (!((List.getD t68_ (Int.toNat t70_) false)==r0.1)) then
   some (8,())
  else
   bif (!(List.getD t68_ (Int.toNat t70_) false)) then
    bif (decide ((0:Int)≤t70_∧(t70_:Int)<((List.length b02:Int)))) then
     bif ((List.getD b02 (Int.toNat t70_) 0) !=0) then
      some (8,())
     else
      bif (decide ((0:Int)≤t70_∧(t70_:Int)<((List.length b03:Int)))) then
       bif (!(Ty.beq t1 (List.getD b03 (Int.toNat t70_) ((0,0,0,()),0,0,0,())) ((0,0,0,()),0,0,0,()))) then
        some (8,())
       else
        af.L9 used t70_ (List.getD t68_ (Int.toNat t70_) false) t68_ t69_ b0 b02 b03 b04 b05 b06 b07 b08 b09 b010 l1
      else none
    else none
   else
    af.L9 used t70_ (List.getD t68_ (Int.toNat t70_) false) t68_ t69_ b0 b02 b03 b04 b05 b06 b07 b08 b09 b010 l1
 else none:=res_eq (by kernel_rfl)
theorem af.L5_eq (used t134_ t135_ t136_):af.L5 used t134_ t135_ t136_=
 bif (decide ((t136_:Int)<t135_)) then
  af.L6 used t134_ t135_ t136_
 else
  bif (used !=0) then
   some (8,())
  else
   af.L7:=res_eq (by kernel_rfl)
theorem af.L6_eq (used t134_ t135_ t136_):af.L6 used t134_ t135_ t136_=
 bif (decide ((0:Int)≤t136_∧(t136_:Int)<((List.length t134_:Int)))) then
  bif (((List.getD t134_ (Int.toNat t136_) (0,0,false,())).2).2).1 then
   af.L8 (IntKind.wrap .i64 (used - 1)) t134_ t135_ t136_
  else
   af.L8 used t134_ t135_ t136_
 else none:=res_eq (by kernel_rfl)
theorem af.L7_eq:af.L7=
 some (0,()):=res_eq (by kernel_rfl)
theorem af.L8_eq (used t134_ t135_ t136_):af.L8 used t134_ t135_ t136_=
 af.L5 used t134_ t135_ (IntKind.wrap .i64 (t136_+1)):=res_eq (by kernel_rfl)
theorem af.L9_eq (used i is_ t68_ t69_ b0 b02 b03 b04 b05 b06 b07 b08 b09 b010 l1):af.L9 used i is_ t68_ t69_ b0 b02 b03 b04 b05 b06 b07 b08 b09 b010 l1=
 bif (!is_) then
  af.L3 used t68_ t69_ (IntKind.wrap .i64 (i+1)) b0 b02 b03 b04 b05 b06 b07 b08 b09 b010 l1
 else
  af.L10 used i t68_ t69_ b0 b02 b03 b04 b05 b06 b07 b08 b09 b010 l1:=res_eq (by kernel_rfl)
theorem af.L10_eq (used i t68_ t69_ b0 b02 b03 b04 b05 b06 b07 b08 b09 b010 l1):af.L10 used i t68_ t69_ b0 b02 b03 b04 b05 b06 b07 b08 b09 b010 l1=
 bif (decide ((0:Int)≤i∧(i:Int)<((List.length b02:Int)))) then
  (fb.F b06 (List.getD b02 (Int.toNat i) 0)).bind fun r0=>
  bif (r0.2.1 !=0) then
   some (8,())
  else
   bif (r0.1 !=i) then
    some (8,())
   else
    bif (decide ((0:Int)≤i∧(i:Int)<((List.length b03:Int)))) then
     (dc.F (List.getD b03 (Int.toNat i) ((0,0,0,()),0,0,0,()))).bind fun r1=>
     bif (r1.1 !=0) then
      some (8,())
     else
      af.L11 (IntKind.wrap .i64 (used+1)) t68_ t69_ i b0 b02 b03 b04 b05 b06 b07 b08 b09 b010 l1
    else none
 else none:=res_eq (by kernel_rfl)
theorem af.L11_eq (used t68_ t69_ t70_ b0 b02 b03 b04 b05 b06 b07 b08 b09 b010 l1):af.L11 used t68_ t69_ t70_ b0 b02 b03 b04 b05 b06 b07 b08 b09 b010 l1=
 af.L3 used t68_ t69_ (IntKind.wrap .i64 (t70_+1)) b0 b02 b03 b04 b05 b06 b07 b08 b09 b010 l1:=res_eq (by kernel_rfl)
theorem af.F_eq (t):af.F t=
 bif (decide ((t.1:Int)<1)) then
  some (8,())
 else
  bif (decide ((t.1:Int)>8)) then
   some (8,())
  else
   bif (!(Ty.beq (.arr 4 (.int .i64)) ([((List.length t.2.1:Int)),((List.length t.2.2.1:Int)),((List.length t.2.2.2.1.1:Int)),((List.length t.2.2.2.2.2.1.1:Int))]:List Int) ([t.1,t.1,t.1,t.1]:List Int))) then
    some (8,())
   else
    (b8.F t.2.2.2.1).bind fun r0=>
    bif (r0.1 !=0) then
     some (8,())
    else
     (ai.F t.2.2.2.2.1).bind fun r1=>
     bif (r1.1 !=0) then
      some (8,())
     else
      af.L1 t.1 t.2.1 t.2.2.1 t.2.2.2.1.1 t.2.2.2.1.2.1 t.2.2.2.1.2.2.1 t.2.2.2.2.1 t.2.2.2.2.2.1.1 t.2.2.2.2.2.1.2.1 t.2.2.2.2.2.1.2.2.1 t.2.2.2.2.2.1.2.2.2.1:=by kernel_rfl
def fq.sg:Sig:=⟨[.val t0,.val (.int .u64)],[(t1,true),((.int .i64),true)]⟩
def fq.E:Env:=⟨tl,fun i=>look i [(98,db.Fn)],[],eqs,globs,prims⟩
def fq.c:=cxOf fq.E fq.sg Tryz.f107
def fq.b:=body Tryz.f107
def fq.Fn:Fun:=fnOf fq.E fq.sg Tryz.f107
def fq.F (l:t0.den) (at_:Int):Option (t1.den × Int × Unit):=fq.Fn.F (l,at_,())
def fq.L1 (at_ b0:Int) (b02 b03:Int):Option (t1.den × Int × Unit):=res fq.c (atJoin fq.b [1,0,1,1]) ⟨[(1,(.v (.int .u64) at_)),(2,(.ptr 0 [])),(4,(.ptr 1 []))],[(0,some (.box (.agg [(.v (.int .i64) b0),(.v (.int .i64) b02),(.v (.int .i64) b03)]))),(1,some (.box (.agg [(.agg [(.v (.int .i64) 0),(.v (.int .i64) 0),(.v (.int .i64) 0)]),(.v (.int .i64) 0),(.v (.int .i64) 0),(.v (.int .u64) 0)])))],2,[]⟩
theorem fq.spec:FnSpec Tryz.prog globs 107 fq.Fn:=spec_of (E:=fq.E) (envOk_at tabOk eqOk primsOk (.cons db.spec<|.nil)) mixOk Tryz.func107 (by kernel_rfl)
theorem fq.L1_eq (at_ b0 b02 b03):fq.L1 at_ b0 b02 b03=
 some (((b0,b02,b03,()),b0,0,at_,()),0,()):=res_eq (by kernel_rfl)
theorem fq.F_eq (l at_):fq.F l at_=
 (db.F l).bind fun r0=>
 bif (r0.1 !=0) then
  some (((0,0,0,()),0,0,0,()),r0.1,())
 else
  fq.L1 at_ l.1 l.2.1 l.2.2.1:=by kernel_rfl
def i8.sg:Sig:=⟨[.val t5],[(t5,true)]⟩
def i8.E:Env:=⟨tl,fun i=>look i [],[],eqs,globs,prims⟩
def i8.Fn:Fun:=fnOf i8.E i8.sg Tryz.f108
def i8.F (t:t5.den):Option (t5.den × Unit):=i8.Fn.F (t,())
theorem i8.spec:FnSpec Tryz.prog globs 108 i8.Fn:=spec_of (E:=i8.E) (envOk_at tabOk eqOk primsOk (.nil)) mixOk Tryz.func108 (by kernel_rfl)
theorem i8.F_eq (t):i8.F t=
 bif (lim (List.length t.2.1) (.int .u32)) then
  bif (lim (List.length t.2.2.1) t1) then
   bif (lim (List.length t.2.2.2.1.1) (.int .i64)) then
    bif (lim (List.length t.2.2.2.1.2.1) .bool) then
     bif (lim (List.length t.2.2.2.2.1) t3) then
      bif (lim (List.length t.2.2.2.2.2.1.1) (.int .i64)) then
       bif (lim (List.length t.2.2.2.2.2.1.2.1) (.int .i64)) then
        some (t,())
       else none
      else none
     else none
    else none
   else none
  else none
 else none:=by kernel_rfl
def fa.sg:Sig:=⟨[.val t5,.val (.int .u32)],[((.int .i64),true)]⟩
def fa.E:Env:=⟨tl,fun i=>look i [(143,fb.Fn)],[],eqs,globs,prims⟩
def fa.c:=cxOf fa.E fa.sg Tryz.f109
def fa.b:=body Tryz.f109
def fa.Fn:Fun:=fnOf fa.E fa.sg Tryz.f109
def fa.F (t:t5.den) (key:Int):Option (Int × Unit):=fa.Fn.F (t,key,())
def fa.L1 (i:Int):Option (Int × Unit):=res fa.c (atJoin fa.b [1,1,0,1]) ⟨[(5,(.v (.int .i64) i))],[],0,[]⟩
theorem fa.spec:FnSpec Tryz.prog globs 109 fa.Fn:=spec_of (E:=fa.E) (envOk_at tabOk eqOk primsOk (.cons fb.spec<|.nil)) mixOk Tryz.func109 (by kernel_rfl)
theorem fa.L1_eq (i):fa.L1 i=
 some (i,()):=res_eq (by kernel_rfl)
theorem fa.F_eq (t key):fa.F t key=
 (fb.F t.2.2.2.2.1 key).bind fun r0=>
 bif (r0.2.1 !=0) then
  some ((-1),())
 else
  fa.L1 r0.1:=by kernel_rfl
def ib.sg:Sig:=⟨[.val t2],[(t2,true)]⟩
def ib.E:Env:=⟨tl,fun i=>look i [],[],eqs,globs,prims⟩
def ib.Fn:Fun:=fnOf ib.E ib.sg Tryz.f147
def ib.F (a:t2.den):Option (t2.den × Unit):=ib.Fn.F (a,())
theorem ib.spec:FnSpec Tryz.prog globs 147 ib.Fn:=spec_of (E:=ib.E) (envOk_at tabOk eqOk primsOk (.nil)) mixOk Tryz.func147 (by kernel_rfl)
theorem ib.F_eq (a):ib.F a=
 bif (lim (List.length a.1) (.int .i64)) then
  bif (lim (List.length a.2.1) .bool) then
   some (a,())
  else none
 else none:=by kernel_rfl
def ew.sg:Sig:=⟨[.val t2],[(t2,true),((.int .i64),true),((.int .i64),true)]⟩
def ew.E:Env:=⟨tl,fun i=>look i [(140,b8.Fn),(147,ib.Fn)],[],eqs,globs,prims⟩
def ew.c:=cxOf ew.E ew.sg Tryz.f110
def ew.b:=body Tryz.f110
def ew.Fn:Fun:=fnOf ew.E ew.sg Tryz.f110
def ew.F (a:t2.den):Option (t2.den × Int × Int × Unit):=ew.Fn.F (a,())
def ew.L1 (b0:List Int) (b02:List Bool) (b03:Int) (l2:List Int) (l3:List Bool):Option (t2.den × Int × Int × Unit):=res ew.c (atJoin ew.b [1,0,1,1]) ⟨[(1,(.ptr 0 [])),(2,(.ptr 1 []))],[(0,some (.box (.agg [(.v (.slice (.int .i64)) b0),(.v (.slice .bool) b02),(.v (.int .i64) b03)]))),(1,some (.box (.agg [(.sl 2),(.sl 3),(.v (.int .i64) 0)]))),(2,some (.row (.int .i64) l2 false)),(3,some (.row .bool l3 false))],4,[]⟩
def ew.L2 (b0:List Int) (b02:List Bool) (b03:Int) (l2:List Int) (l3:List Bool):Option (t2.den × Int × Int × Unit):=res ew.c (atJoin ew.b [1,1,0,1]) ⟨[(1,(.ptr 0 [])),(2,(.ptr 1 []))],[(0,some (.box (.agg [(.v (.slice (.int .i64)) b0),(.v (.slice .bool) b02),(.v (.int .i64) b03)]))),(1,some (.box (.agg [(.sl 2),(.sl 3),(.v (.int .i64) 0)]))),(2,some (.row (.int .i64) l2 false)),(3,some (.row .bool l3 false))],4,[]⟩
theorem ew.spec:FnSpec Tryz.prog globs 110 ew.Fn:=spec_of (E:=ew.E) (envOk_at tabOk eqOk primsOk (.cons b8.spec<|.cons ib.spec<|.nil)) mixOk Tryz.func110 (by kernel_rfl)
theorem ew.L1_eq (b0 b02 b03 l2 l3):ew.L1 b0 b02 b03 l2 l3=
 bif (b03==(-1)) then
  some ((([]:List Int),([]:List Bool),0,()),0,18,())
 else
  ew.L2 b0 b02 b03 l2 l3:=res_eq (by kernel_rfl)
theorem ew.L2_eq (b0 b02 b03 l2 l3):ew.L2 b0 b02 b03 l2 l3=
 (ib.F (b0,b02,b03,())).bind fun r0=>
 bif (decide ((0:Int)≤b03∧(b03:Int)<((List.length b0:Int)))) then
  bif (decide ((0:Int)≤b03∧(b03:Int)<((List.length r0.1.1:Int)))) then
   bif (decide ((0:Int)≤b03∧(b03:Int)<((List.length r0.1.2.1:Int)))) then
    some (((List.set r0.1.1 (Int.toNat b03) (-1)),(List.set r0.1.2.1 (Int.toNat b03) true),(List.getD b0 (Int.toNat b03) 0),()),b03,0,())
   else none
  else none
 else none:=res_eq (by kernel_rfl)
theorem ew.F_eq (a):ew.F a=
 (b8.F a).bind fun r0=>
 bif (r0.1 !=0) then
  some ((([]:List Int),([]:List Bool),0,()),0,r0.1,())
 else
  ew.L1 a.1 a.2.1 a.2.2.1 ([]:List Int) ([]:List Bool):=by kernel_rfl
def ir.sg:Sig:=⟨[.val t4],[((.int .i64),true),((.int .i64),true)]⟩
def ir.E:Env:=⟨tl,fun i=>look i [(148,bm.Fn)],[],eqs,globs,prims⟩
def ir.Fn:Fun:=fnOf ir.E ir.sg Tryz.f111
def ir.F (o:t4.den):Option (Int × Int × Unit):=ir.Fn.F (o,())
theorem ir.spec:FnSpec Tryz.prog globs 111 ir.Fn:=spec_of (E:=ir.E) (envOk_at tabOk eqOk primsOk (.cons bm.spec<|.nil)) mixOk Tryz.func111 (by kernel_rfl)
def fo.sg:Sig:=⟨[.val t4,.val (.int .i64)],[((.int .i64),true)]⟩
def fo.E:Env:=⟨tl,fun i=>look i [(148,bm.Fn)],[],eqs,globs,prims⟩
def fo.c:=cxOf fo.E fo.sg Tryz.f153
def fo.b:=body Tryz.f153
def fo.Fn:Fun:=fnOf fo.E fo.sg Tryz.f153
def fo.F (o:t4.den) (place:Int):Option (Int × Unit):=fo.Fn.F (o,place,())
def fo.L1 (place:Int) (b0 b02:List Int) (b03 b04:Int):Option (Int × Unit):=res fo.c (atJoin fo.b [1,0,1,1]) ⟨[(1,(.v (.int .i64) place)),(2,(.ptr 0 []))],[(0,some (.box (.agg [(.v (.slice (.int .i64)) b0),(.v (.slice (.int .i64)) b02),(.v (.int .i64) b03),(.v (.int .i64) b04)])))],1,[]⟩
def fo.L2:Option (Int × Unit):=res fo.c (atJoin fo.b [1,1,0,1]) ⟨[],[],0,[]⟩
theorem fo.spec:FnSpec Tryz.prog globs 153 fo.Fn:=spec_of (E:=fo.E) (envOk_at tabOk eqOk primsOk (.cons bm.spec<|.nil)) mixOk Tryz.func153 (by kernel_rfl)
theorem fo.L1_eq (place b0 b02 b03 b04):fo.L1 place b0 b02 b03 b04=
 bif (decide ((place:Int)<0)) then
  some (2,())
 else
  bif (decide ((place:Int)≥((List.length b0:Int)))) then
   some (2,())
  else
   fo.L2:=res_eq (by kernel_rfl)
theorem fo.L2_eq:fo.L2=
 some (0,()):=res_eq (by kernel_rfl)
theorem fo.F_eq (o place):fo.F o place=
 (bm.F o).bind fun r0=>
 bif (r0.1 !=0) then
  some (r0.1,())
 else
  fo.L1 place o.1 o.2.1 o.2.2.1 o.2.2.2.1:=by kernel_rfl
def il.sg:Sig:=⟨[.val t4],[(t4,true)]⟩
def il.E:Env:=⟨tl,fun i=>look i [],[],eqs,globs,prims⟩
def il.Fn:Fun:=fnOf il.E il.sg Tryz.f154
def il.F (o:t4.den):Option (t4.den × Unit):=il.Fn.F (o,())
theorem il.spec:FnSpec Tryz.prog globs 154 il.Fn:=spec_of (E:=il.E) (envOk_at tabOk eqOk primsOk (.nil)) mixOk Tryz.func154 (by kernel_rfl)
theorem il.F_eq (o):il.F o=
 bif (lim (List.length o.1) (.int .i64)) then
  bif (lim (List.length o.2.1) (.int .i64)) then
   some (o,())
  else none
 else none:=by kernel_rfl
def iq.sg:Sig:=⟨[.val t4,.val (.int .i64)],[(.bool,true)]⟩
def iq.E:Env:=⟨tl,fun i=>look i [],[],eqs,globs,prims⟩
def iq.Fn:Fun:=fnOf iq.E iq.sg Tryz.f155
def iq.F (o:t4.den) (place:Int):Option (Bool × Unit):=iq.Fn.F (o,place,())
theorem iq.spec:FnSpec Tryz.prog globs 155 iq.Fn:=spec_of (E:=iq.E) (envOk_at tabOk eqOk primsOk (.nil)) mixOk Tryz.func155 (by kernel_rfl)
theorem iq.F_eq (o place):iq.F o place=
 bif (o.2.2.1==place) then
  some (true,())
 else
  bif (decide ((0:Int)≤place∧(place:Int)<((List.length o.1:Int)))) then
   some (((List.getD o.1 (Int.toNat place) 0) !=(-1)),())
  else none:=by kernel_rfl
def ge.sg:Sig:=⟨[.io t4 true,.val (.int .i64)],[]⟩
def ge.E:Env:=⟨tl,fun i=>look i [],[],eqs,globs,prims⟩
def ge.c:=cxOf ge.E ge.sg Tryz.f156
def ge.b:=body Tryz.f156
def ge.Fn:Fun:=fnOf ge.E ge.sg Tryz.f156
def ge.F (o:t4.den) (place:Int):Option (t4.den × Unit):=ge.Fn.F (o,place,())
def ge.L1 (place p:Int) (n b0 b02:Int) (l1 l2:List Int):Option (t4.den × Unit):=res ge.c (atJoin ge.b [1,0,1]) ⟨[(0,(.ptr 0 [])),(1,(.v (.int .i64) place)),(4,(.v (.int .i64) p)),(5,(.v (.int .i64) n))],[(0,some (.box (.agg [(.sl 1),(.sl 2),(.v (.int .i64) b0),(.v (.int .i64) b02)]))),(1,some (.row (.int .i64) l1 false)),(2,some (.row (.int .i64) l2 false))],3,[(.ptr 0 [])]⟩
def ge.L2 (place b0 b02:Int) (l1 l2:List Int):Option (t4.den × Unit):=res ge.c (atJoin ge.b [1,1,0,1]) ⟨[(0,(.ptr 0 [])),(1,(.v (.int .i64) place))],[(0,some (.box (.agg [(.sl 1),(.sl 2),(.v (.int .i64) b0),(.v (.int .i64) b02)]))),(1,some (.row (.int .i64) l1 false)),(2,some (.row (.int .i64) l2 false))],3,[(.ptr 0 [])]⟩
theorem ge.spec:FnSpec Tryz.prog globs 156 ge.Fn:=spec_of (E:=ge.E) (envOk_at tabOk eqOk primsOk (.nil)) mixOk Tryz.func156 (by kernel_rfl)
theorem ge.L1_eq (place p n b0 b02 l1 l2):ge.L1 place p n b0 b02 l1 l2=
 bif (n==(-1)) then
  ge.L2 place b0 p l1 l2
 else
  bif (decide ((0:Int)≤n∧(n:Int)<((List.length l1:Int)))) then
   ge.L2 place b0 b02 (List.set l1 (Int.toNat n) p) l2
  else none:=res_eq (by kernel_rfl)
theorem ge.L2_eq (place b0 b02 l1 l2):ge.L2 place b0 b02 l1 l2=
 bif (decide ((0:Int)≤place∧(place:Int)<((List.length l1:Int)))) then
  bif (decide ((0:Int)≤place∧(place:Int)<((List.length l2:Int)))) then
   some (((List.set l1 (Int.toNat place) (-1)),(List.set l2 (Int.toNat place) (-1)),b0,b02,()),())
  else none
 else none:=res_eq (by kernel_rfl)
theorem ge.F_eq (o place):ge.F o place=
 bif (decide ((0:Int)≤place∧(place:Int)<((List.length o.1:Int)))) then
  bif (decide ((0:Int)≤place∧(place:Int)<((List.length o.2.1:Int)))) then
   bif ((List.getD o.1 (Int.toNat place) 0)==(-1)) then
    ge.L1 place (List.getD o.1 (Int.toNat place) 0) (List.getD o.2.1 (Int.toNat place) 0) (List.getD o.2.1 (Int.toNat place) 0) o.2.2.2.1 o.1 o.2.1
   else
    bif (decide ((0:Int)≤(List.getD o.1 (Int.toNat place) 0)∧((List.getD o.1 (Int.toNat place) 0):Int)<((List.length o.2.1:Int)))) then
     ge.L1 place (List.getD o.1 (Int.toNat place) 0) (List.getD o.2.1 (Int.toNat place) 0) o.2.2.1 o.2.2.2.1 o.1 (List.set o.2.1 (Int.toNat (List.getD o.1 (Int.toNat place) 0)) (List.getD o.2.1 (Int.toNat place) 0))
    else none
  else none
 else none:=by kernel_rfl
def iw.sg:Sig:=⟨[.val t4,.val (.int .i64)],[(t4,true),((.int .i64),true)]⟩
def iw.E:Env:=⟨tl,fun i=>look i [(153,fo.Fn),(154,il.Fn),(155,iq.Fn),(156,ge.Fn)],[],eqs,globs,prims⟩
def iw.Fn:Fun:=fnOf iw.E iw.sg Tryz.f149
theorem iw.spec:FnSpec Tryz.prog globs 149 iw.Fn:=spec_of (E:=iw.E) (envOk_at tabOk eqOk primsOk (.cons fo.spec<|.cons il.spec<|.cons iq.spec<|.cons ge.spec<|.nil)) mixOk Tryz.func149 (by kernel_rfl)
def iy.sg:Sig:=⟨[.val (.slice t3),.val (.int .u32)],[((.slice t3),true),((.int .i64),true)]⟩
def iy.E:Env:=⟨tl,fun i=>look i [(141,ai.Fn),(152,dr.Fn),(176,ia.Fn),(177,ic.Fn)],[],eqs,globs,prims⟩
def iy.Fn:Fun:=fnOf iy.E iy.sg Tryz.f150
theorem iy.spec:FnSpec Tryz.prog globs 150 iy.Fn:=spec_of (E:=iy.E) (envOk_at tabOk eqOk primsOk (.cons ai.spec<|.cons dr.spec<|.cons ia.spec<|.cons ic.spec<|.nil)) mixOk Tryz.func150 (by kernel_rfl)
def iv.sg:Sig:=⟨[.val t2,.val (.int .i64)],[(t2,true),((.int .i64),true)]⟩
def iv.E:Env:=⟨tl,fun i=>look i [(140,b8.Fn),(147,ib.Fn)],[],eqs,globs,prims⟩
def iv.Fn:Fun:=fnOf iv.E iv.sg Tryz.f151
theorem iv.spec:FnSpec Tryz.prog globs 151 iv.Fn:=spec_of (E:=iv.E) (envOk_at tabOk eqOk primsOk (.cons b8.spec<|.cons ib.spec<|.nil)) mixOk Tryz.func151 (by kernel_rfl)
def ip.sg:Sig:=⟨[.io t5 true,.val (.int .u32)],[]⟩
def ip.E:Env:=⟨tl,fun i=>look i [(109,fa.Fn),(149,iw.Fn),(150,iy.Fn),(151,iv.Fn)],[],eqs,globs,prims⟩
def ip.Fn:Fun:=fnOf ip.E ip.sg Tryz.f112
def ip.F (t:t5.den) (key:Int):Option (t5.den × Unit):=ip.Fn.F (t,key,())
theorem ip.spec:FnSpec Tryz.prog globs 112 ip.Fn:=spec_of (E:=ip.E) (envOk_at tabOk eqOk primsOk (.cons fa.spec<|.cons iw.spec<|.cons iy.spec<|.cons iv.spec<|.nil)) mixOk Tryz.func112 (by kernel_rfl)
def cu.sg:Sig:=⟨[.val (.slice t3),.val (.int .u32),.val (.int .i64)],[((.slice t3),true),((.int .i64),true)]⟩
def cu.E:Env:=⟨tl,fun i=>look i [(141,ai.Fn),(152,dr.Fn)],[],eqs,globs,prims⟩
def cu.c:=cxOf cu.E cu.sg Tryz.f113
def cu.b:=body Tryz.f113
def cu.Fn:Fun:=fnOf cu.E cu.sg Tryz.f113
def cu.F (x:List t3.den) (key place:Int):Option ((List t3.den) × Int × Unit):=cu.Fn.F (x,key,place,())
def cu.L1 (x:List t3.den) (key place:Int):Option ((List t3.den) × Int × Unit):=res cu.c (atJoin cu.b [1,0,1,1]) ⟨[(0,(.v (.slice t3) x)),(1,(.v (.int .u32) key)),(2,(.v (.int .i64) place))],[],0,[]⟩
def cu.L2 (x:List t3.den) (key place:Int):Option ((List t3.den) × Int × Unit):=res cu.c (atJoin cu.b [1,1,0,1]) ⟨[(0,(.v (.slice t3) x)),(1,(.v (.int .u32) key)),(2,(.v (.int .i64) place))],[],0,[]⟩
def cu.L3 (x:List t3.den) (key place i:Int):Option ((List t3.den) × Int × Unit):=res cu.c (atJoin cu.b [1,1,1,1,0,1]) ⟨[(0,(.v (.slice t3) x)),(1,(.v (.int .u32) key)),(2,(.v (.int .i64) place)),(9,(.v (.int .i64) i))],[],0,[]⟩
def cu.L4 (x:List t3.den) (key place:Int) (i n:Int) (t38_ t39_:Int):Option ((List t3.den) × Int × Unit):=res cu.c (atLoop cu.b [1,1,1,1,1,1,0,1,0]) ⟨[(0,(.v (.slice t3) x)),(1,(.v (.int .u32) key)),(2,(.v (.int .i64) place)),(9,(.v (.int .i64) i)),(11,(.v (.int .i64) n)),(37,(.v (.slice t3) x)),(38,(.v (.int .i64) t38_)),(39,(.v (.int .i64) t39_))],[],0,[]⟩
def cu.L5 (x:List t3.den) (key place:Int) (i n:Int) (t38_ t39_:Int):Option ((List t3.den) × Int × Unit):=res cu.c (atJoin cu.b [1,1,1,1,1,1,0,1,0,0,1,0]) ⟨[(0,(.v (.slice t3) x)),(1,(.v (.int .u32) key)),(2,(.v (.int .i64) place)),(9,(.v (.int .i64) i)),(11,(.v (.int .i64) n)),(37,(.v (.slice t3) x)),(38,(.v (.int .i64) t38_)),(39,(.v (.int .i64) t39_))],[],0,[]⟩
def cu.L6 (x:List t3.den) (key place i:Int):Option ((List t3.den) × Int × Unit):=res cu.c (atJoin cu.b [1,1,1,1,1,1,1,0,1]) ⟨[(0,(.v (.slice t3) x)),(1,(.v (.int .u32) key)),(2,(.v (.int .i64) place)),(9,(.v (.int .i64) i))],[],0,[]⟩
def cu.L7 (x:List t3.den) (key place:Int) (i n:Int) (t38_ t39_:Int):Option ((List t3.den) × Int × Unit):=res cu.c (atJoin cu.b [1,1,1,1,1,1,0,1,0,0,1,1,0,0,1,1]) ⟨[(0,(.v (.slice t3) x)),(1,(.v (.int .u32) key)),(2,(.v (.int .i64) place)),(9,(.v (.int .i64) i)),(11,(.v (.int .i64) n)),(37,(.v (.slice t3) x)),(38,(.v (.int .i64) t38_)),(39,(.v (.int .i64) t39_))],[],0,[]⟩
theorem cu.spec:FnSpec Tryz.prog globs 113 cu.Fn:=spec_of (E:=cu.E) (envOk_at tabOk eqOk primsOk (.cons ai.spec<|.cons dr.spec<|.nil)) mixOk Tryz.func113 (by kernel_rfl)
theorem cu.L1_eq (x key place):cu.L1 x key place=
 bif (decide ((place:Int)<0)) then
  some (([]:List t3.den),2,())
 else
  bif (decide ((place:Int)≥16)) then
   some (([]:List t3.den),2,())
  else
   cu.L2 x key place:=res_eq (by kernel_rfl)
theorem cu.L2_eq (x key place):cu.L2 x key place=
 (dr.F x key).bind fun r0=>
 bif (decide ((0:Int)≤r0.1∧(r0.1:Int)<((List.length x:Int)))) then
  bif (((List.getD x (Int.toNat r0.1) (0,0,false,())).2).2).1 then
   some (([]:List t3.den),14,())
  else
   cu.L3 x key place r0.1
 else none:=res_eq (by kernel_rfl)
theorem cu.L3_eq (x key place i):cu.L3 x key place i=
 cu.L4 x key place i 0 ((List.length x:Int)) 0:=res_eq (by kernel_rfl)
theorem cu.L4_eq (x key place i n t38_ t39_):cu.L4 x key place i n t38_ t39_=
 bif (decide ((t39_:Int)<t38_)) then
  cu.L5 x key place i n t38_ t39_
 else
  bif (decide ((n:Int)≥12)) then
   some (([]:List t3.den),18,())
  else
   cu.L6 x key place i:=res_eq (by kernel_rfl)
theorem cu.L5_eq (x key place i n t38_ t39_):cu.L5 x key place i n t38_ t39_=
 bif (decide ((0:Int)≤t39_∧(t39_:Int)<((List.length x:Int)))) then
  bif (((List.getD x (Int.toNat t39_) (0,0,false,())).2).2).1 then
   cu.L7 x key place i (IntKind.wrap .i64 (n+1)) t38_ t39_
  else
   cu.L7 x key place i n t38_ t39_
 else none:=res_eq (by kernel_rfl)
theorem cu.L6_eq (x key place i):cu.L6 x key place i=
 bif (lim (List.length x) t3) then
  bif (decide ((0:Int)≤i∧(i:Int)<((List.length x:Int)))) then
   some ((List.set x (Int.toNat i) (key,place,true,())),0,())
  else none
 else none:=res_eq (by kernel_rfl)
theorem cu.L7_eq (x key place i n t38_ t39_):cu.L7 x key place i n t38_ t39_=
 cu.L4 x key place i n t38_ (IntKind.wrap .i64 (t39_+1)):=res_eq (by kernel_rfl)
theorem cu.F_eq (x key place):cu.F x key place=
 (ai.F x).bind fun r0=>
 bif (r0.1 !=0) then
  some (([]:List t3.den),r0.1,())
 else
  cu.L1 x key place:=by kernel_rfl
def du.sg:Sig:=⟨[.val t4,.val (.int .i64)],[(t4,true),((.int .i64),true)]⟩
def du.E:Env:=⟨tl,fun i=>look i [(153,fo.Fn),(154,il.Fn),(155,iq.Fn),(156,ge.Fn)],[],eqs,globs,prims⟩
def du.c:=cxOf du.E du.sg Tryz.f114
def du.b:=body Tryz.f114
def du.Fn:Fun:=fnOf du.E du.sg Tryz.f114
def du.F (o:t4.den) (place:Int):Option (t4.den × Int × Unit):=du.Fn.F (o,place,())
def du.L1 (place:Int) (b0 b02:List Int) (b03 b04:Int) (l2:List Int):Option (t4.den × Int × Unit):=res du.c (atJoin du.b [1,0,1,1]) ⟨[(1,(.v (.int .i64) place)),(2,(.ptr 0 [])),(4,(.ptr 1 []))],[(0,some (.box (.agg [(.v (.slice (.int .i64)) b0),(.v (.slice (.int .i64)) b02),(.v (.int .i64) b03),(.v (.int .i64) b04)]))),(1,some (.box (.agg [(.sl 2),(.sl 3),(.v (.int .i64) 0),(.v (.int .i64) 0)]))),(2,some (.row (.int .i64) l2 false)),(3,some (.row (.int .i64) l2 false))],4,[]⟩
def du.L2 (place b1 b12:Int) (l2 l4 l5:List Int):Option (t4.den × Int × Unit):=res du.c (atJoin du.b [1,1,1,0,1]) ⟨[(1,(.v (.int .i64) place)),(4,(.ptr 0 [])),(7,(.ptr 1 []))],[(0,some (.box (.agg [(.sl 2),(.sl 3),(.v (.int .i64) 0),(.v (.int .i64) 0)]))),(1,some (.box (.agg [(.sl 4),(.sl 5),(.v (.int .i64) b1),(.v (.int .i64) b12)]))),(2,some (.row (.int .i64) l2 false)),(3,some (.row (.int .i64) l2 false)),(4,some (.row (.int .i64) l4 false)),(5,some (.row (.int .i64) l5 false))],6,[]⟩
def du.L3 (place b1 b12:Int) (l2 l4 l5:List Int):Option (t4.den × Int × Unit):=res du.c (atJoin du.b [1,1,1,1,1,0,1]) ⟨[(1,(.v (.int .i64) place)),(4,(.ptr 0 [])),(7,(.ptr 1 []))],[(0,some (.box (.agg [(.sl 2),(.sl 3),(.v (.int .i64) 0),(.v (.int .i64) 0)]))),(1,some (.box (.agg [(.sl 4),(.sl 5),(.v (.int .i64) b1),(.v (.int .i64) b12)]))),(2,some (.row (.int .i64) l2 false)),(3,some (.row (.int .i64) l2 false)),(4,some (.row (.int .i64) l4 false)),(5,some (.row (.int .i64) l5 false))],6,[]⟩
theorem du.spec:FnSpec Tryz.prog globs 114 du.Fn:=spec_of (E:=du.E) (envOk_at tabOk eqOk primsOk (.cons fo.spec<|.cons il.spec<|.cons iq.spec<|.cons ge.spec<|.nil)) mixOk Tryz.func114 (by kernel_rfl)
theorem du.L1_eq (place b0 b02 b03 b04 l2):du.L1 place b0 b02 b03 b04 l2=
 (il.F (b0,b02,b03,b04,())).bind fun r0=>
 (iq.F r0.1 place).bind fun r1=>
 bif r1.1 then
  (ge.F r0.1 place).bind fun r2=>
  du.L2 place r2.1.2.2.1 r2.1.2.2.2.1 l2 r2.1.1 r2.1.2.1
 else
  du.L2 place r0.1.2.2.1 r0.1.2.2.2.1 l2 r0.1.1 r0.1.2.1:=res_eq (by kernel_rfl)
theorem du.L2_eq (place b1 b12 l2 l4 l5):du.L2 place b1 b12 l2 l4 l5=
 bif (decide ((0:Int)≤place∧(place:Int)<((List.length l5:Int)))) then
  bif (b1==(-1)) then
   du.L3 place b1 place l2 l4 (List.set l5 (Int.toNat place) b1)
  else
   bif (decide ((0:Int)≤b1∧(b1:Int)<((List.length l4:Int)))) then
    du.L3 place b1 b12 l2 (List.set l4 (Int.toNat b1) place) (List.set l5 (Int.toNat place) b1)
   else none
 else none:=res_eq (by kernel_rfl)
theorem du.L3_eq (place b1 b12 l2 l4 l5):du.L3 place b1 b12 l2 l4 l5=
 some ((l4,l5,place,b12,()),0,()):=res_eq (by kernel_rfl)
theorem du.F_eq (o place):du.F o place=
 (fo.F o place).bind fun r0=>
 bif (r0.1 !=0) then
  some ((([]:List Int),([]:List Int),0,0,()),r0.1,())
 else
  du.L1 place o.1 o.2.1 o.2.2.1 o.2.2.2.1 ([]:List Int):=by kernel_rfl
def cz.sg:Sig:=⟨[.val t5,.val (.int .u32),.val t0,.val (.int .u64)],[(t5,true),((.int .u32),true),(.bool,true),((.int .i64),true)]⟩
def cz.E:Env:=⟨tl,fun i=>look i [(106,af.Fn),(107,fq.Fn),(108,i8.Fn),(109,fa.Fn),(110,ew.Fn),(111,ir.Fn),(112,ip.Fn),(113,cu.Fn),(114,du.Fn)],[],eqs,globs,prims⟩
def cz.c:=cxOf cz.E cz.sg Tryz.f74
def cz.b:=body Tryz.f74
def cz.Fn:Fun:=fnOf cz.E cz.sg Tryz.f74
def cz.F (t:t5.den) (key:Int) (l:t0.den) (tick:Int):Option (t5.den × Int × Bool × Int × Unit):=cz.Fn.F (t,key,l,tick,())
def cz.L1 (key tick b0:Int) (b02:List Int) (b03:List t1.den) (b04:List Int) (b05:List Bool) (b06:Int) (b07:List t3.den) (b08 b09:List Int) (b010 b011:Int) (b1 b12 b13:Int) (l3:List Int) (l4:List t1.den) (l5:List Int) (l6:List Bool) (l7:List t3.den):Option (t5.den × Int × Bool × Int × Unit):=res cz.c (atJoin cz.b [1,0,1,1]) ⟨[(1,(.v (.int .u32) key)),(3,(.v (.int .u64) tick)),(4,(.ptr 0 [])),(6,(.ptr 1 [])),(8,(.ptr 2 [])),(9,(.v (.int .u32) 0)),(10,(.v .bool false))],[(0,some (.box (.agg [(.v (.int .i64) b0),(.v (.slice (.int .u32)) b02),(.v (.slice t1) b03),(.agg [(.v (.slice (.int .i64)) b04),(.v (.slice .bool) b05),(.v (.int .i64) b06)]),(.v (.slice t3) b07),(.agg [(.v (.slice (.int .i64)) b08),(.v (.slice (.int .i64)) b09),(.v (.int .i64) b010),(.v (.int .i64) b011)])]))),(1,some (.box (.agg [(.v (.int .i64) b1),(.v (.int .i64) b12),(.v (.int .i64) b13)]))),(2,some (.box (.agg [(.v (.int .i64) 0),(.sl 3),(.sl 4),(.agg [(.sl 5),(.sl 6),(.v (.int .i64) 0)]),(.sl 7),(.agg [(.sl 8),(.sl 9),(.v (.int .i64) 0),(.v (.int .i64) 0)])]))),(3,some (.row (.int .u32) l3 false)),(4,some (.row t1 l4 false)),(5,some (.row (.int .i64) l5 false)),(6,some (.row .bool l6 false)),(7,some (.row t3 l7 false)),(8,some (.row (.int .i64) l5 false)),(9,some (.row (.int .i64) l5 false))],10,[]⟩
def cz.L2 (key b0:Int) (b02:List Int) (b03:List t1.den) (b04:List Int) (b05:List Bool) (b06:Int) (b07:List t3.den) (b08 b09:List Int) (b010 b011:Int) (b2 b22:Int) (b23 b24:Int) (b25 b26:Int) (l3:List Int) (l4:List t1.den) (l5:List Int) (l6:List Bool) (l7:List t3.den):Option (t5.den × Int × Bool × Int × Unit):=res cz.c (atJoin cz.b [1,1,1,0,1]) ⟨[(1,(.v (.int .u32) key)),(4,(.ptr 0 [])),(8,(.ptr 1 [])),(9,(.v (.int .u32) 0)),(10,(.v .bool false)),(13,(.ptr 2 []))],[(0,some (.box (.agg [(.v (.int .i64) b0),(.v (.slice (.int .u32)) b02),(.v (.slice t1) b03),(.agg [(.v (.slice (.int .i64)) b04),(.v (.slice .bool) b05),(.v (.int .i64) b06)]),(.v (.slice t3) b07),(.agg [(.v (.slice (.int .i64)) b08),(.v (.slice (.int .i64)) b09),(.v (.int .i64) b010),(.v (.int .i64) b011)])]))),(1,some (.box (.agg [(.v (.int .i64) 0),(.sl 3),(.sl 4),(.agg [(.sl 5),(.sl 6),(.v (.int .i64) 0)]),(.sl 7),(.agg [(.sl 8),(.sl 9),(.v (.int .i64) 0),(.v (.int .i64) 0)])]))),(2,some (.box (.agg [(.agg [(.v (.int .i64) b2),(.v (.int .i64) b22),(.v (.int .i64) b23)]),(.v (.int .i64) b24),(.v (.int .i64) b25),(.v (.int .u64) b26)]))),(3,some (.row (.int .u32) l3 false)),(4,some (.row t1 l4 false)),(5,some (.row (.int .i64) l5 false)),(6,some (.row .bool l6 false)),(7,some (.row t3 l7 false)),(8,some (.row (.int .i64) l5 false)),(9,some (.row (.int .i64) l5 false))],10,[]⟩
def cz.L3 (key gone:Int) (evicted:Bool) (b0 b02:Int) (b03 b04:Int) (b1 b12:Int) (b13 b14:Int) (b15 b16:Int) (l2:List Int) (l3:List t1.den) (l4:List Int) (l5:List Bool) (l6:List t3.den) (l7 l8:List Int):Option (t5.den × Int × Bool × Int × Unit):=res cz.c (atJoin cz.b [1,1,1,1,1,1,0,1,0,0,1,1]) ⟨[(1,(.v (.int .u32) key)),(8,(.ptr 0 [])),(9,(.v (.int .u32) gone)),(10,(.v .bool evicted)),(13,(.ptr 1 []))],[(0,some (.box (.agg [(.v (.int .i64) b0),(.sl 2),(.sl 3),(.agg [(.sl 4),(.sl 5),(.v (.int .i64) b02)]),(.sl 6),(.agg [(.sl 7),(.sl 8),(.v (.int .i64) b03),(.v (.int .i64) b04)])]))),(1,some (.box (.agg [(.agg [(.v (.int .i64) b1),(.v (.int .i64) b12),(.v (.int .i64) b13)]),(.v (.int .i64) b14),(.v (.int .i64) b15),(.v (.int .u64) b16)]))),(2,some (.row (.int .u32) l2 false)),(3,some (.row t1 l3 false)),(4,some (.row (.int .i64) l4 false)),(5,some (.row .bool l5 false)),(6,some (.row t3 l6 false)),(7,some (.row (.int .i64) l7 false)),(8,some (.row (.int .i64) l8 false))],9,[]⟩
def cz.L4 (gone:Int) (evicted:Bool) (i b0:Int) (b02 b03 b04:Int) (l1:List Int) (l2:List t1.den) (l3:List Int) (l4:List Bool) (l5:List t3.den) (l6 l7:List Int):Option (t5.den × Int × Bool × Int × Unit):=res cz.c (atJoin cz.b [1,1,1,1,1,1,0,1]) ⟨[(8,(.ptr 0 [])),(9,(.v (.int .u32) gone)),(10,(.v .bool evicted)),(14,(.v (.int .i64) i))],[(0,some (.box (.agg [(.v (.int .i64) b0),(.sl 1),(.sl 2),(.agg [(.sl 3),(.sl 4),(.v (.int .i64) b02)]),(.sl 5),(.agg [(.sl 6),(.sl 7),(.v (.int .i64) b03),(.v (.int .i64) b04)])]))),(1,some (.row (.int .u32) l1 false)),(2,some (.row t1 l2 false)),(3,some (.row (.int .i64) l3 false)),(4,some (.row .bool l4 false)),(5,some (.row t3 l5 false)),(6,some (.row (.int .i64) l6 false)),(7,some (.row (.int .i64) l7 false))],8,[]⟩
theorem cz.spec:FnSpec Tryz.prog globs 74 cz.Fn:=spec_of (E:=cz.E) (envOk_at tabOk eqOk primsOk (.cons af.spec<|.cons fq.spec<|.cons i8.spec<|.cons fa.spec<|.cons ew.spec<|.cons ir.spec<|.cons ip.spec<|.cons cu.spec<|.cons du.spec<|.nil)) mixOk Tryz.func74 (by kernel_rfl)
theorem cz.L1_eq (key tick b0 b02 b03 b04 b05 b06 b07 b08 b09 b010 b011 b1 b12 b13 l3 l4 l5 l6 l7):cz.L1 key tick b0 b02 b03 b04 b05 b06 b07 b08 b09 b010 b011 b1 b12 b13 l3 l4 l5 l6 l7=
 (fq.F (b1,b12,b13,()) tick).bind fun r0=>
 bif (r0.2.1 !=0) then
  some ((0,([]:List Int),([]:List t1.den),(([]:List Int),([]:List Bool),0,()),([]:List t3.den),(([]:List Int),([]:List Int),0,0,()),()),0,false,r0.2.1,())
 else
  cz.L2 key b0 b02 b03 b04 b05 b06 b07 b08 b09 b010 b011 r0.1.1.1 r0.1.1.2.1 r0.1.1.2.2.1 r0.1.2.1 r0.1.2.2.1 r0.1.2.2.2.1 l3 l4 l5 l6 l7:=res_eq (by kernel_rfl)
theorem cz.L2_eq (key b0 b02 b03 b04 b05 b06 b07 b08 b09 b010 b011 b2 b22 b23 b24 b25 b26 l3 l4 l5 l6 l7):cz.L2 key b0 b02 b03 b04 b05 b06 b07 b08 b09 b010 b011 b2 b22 b23 b24 b25 b26 l3 l4 l5 l6 l7=
 (i8.F (b0,b02,b03,(b04,b05,b06,()),b07,(b08,b09,b010,b011,()),())).bind fun r0=>
 (fa.F r0.1 key).bind fun r1=>
 bif (decide ((r1.1:Int)<0)) then
  (ew.F r0.1.2.2.2.1).bind fun r2=>
  bif (r2.2.2.1 !=0) then
   (ir.F r0.1.2.2.2.2.2.1).bind fun r3=>
   bif (decide ((0:Int)≤r3.1∧(r3.1:Int)<((List.length r0.1.2.1:Int)))) then
    (ip.F r0.1 (List.getD r0.1.2.1 (Int.toNat r3.1) 0)).bind fun r4=>
    cz.L3 key (List.getD r0.1.2.1 (Int.toNat r3.1) 0) true r4.1.1 r4.1.2.2.2.1.2.2.1 r4.1.2.2.2.2.2.1.2.2.1 r4.1.2.2.2.2.2.1.2.2.2.1 b2 b22 b23 b24 b25 b26 r4.1.2.1 r4.1.2.2.1 r4.1.2.2.2.1.1 r4.1.2.2.2.1.2.1 r4.1.2.2.2.2.1 r4.1.2.2.2.2.2.1.1 r4.1.2.2.2.2.2.1.2.1
   else none
  else
   cz.L3 key 0 false r0.1.1 r0.1.2.2.2.1.2.2.1 r0.1.2.2.2.2.2.1.2.2.1 r0.1.2.2.2.2.2.1.2.2.2.1 b2 b22 b23 b24 b25 b26 r0.1.2.1 r0.1.2.2.1 r0.1.2.2.2.1.1 r0.1.2.2.2.1.2.1 r0.1.2.2.2.2.1 r0.1.2.2.2.2.2.1.1 r0.1.2.2.2.2.2.1.2.1
 else
  cz.L4 0 false r1.1 r0.1.1 r0.1.2.2.2.1.2.2.1 r0.1.2.2.2.2.2.1.2.2.1 r0.1.2.2.2.2.2.1.2.2.2.1 r0.1.2.1 r0.1.2.2.1 r0.1.2.2.2.1.1 r0.1.2.2.2.1.2.1 r0.1.2.2.2.2.1 r0.1.2.2.2.2.2.1.1 r0.1.2.2.2.2.2.1.2.1:=res_eq (by kernel_rfl)
theorem cz.L3_eq (key gone evicted b0 b02 b03 b04 b1 b12 b13 b14 b15 b16 l2 l3 l4 l5 l6 l7 l8):cz.L3 key gone evicted b0 b02 b03 b04 b1 b12 b13 b14 b15 b16 l2 l3 l4 l5 l6 l7 l8=
 (ew.F (l4,l5,b02,())).bind fun r0=>
 (cu.F l6 key r0.2.1).bind fun r1=>
 bif (decide ((0:Int)≤r0.2.1∧(r0.2.1:Int)<((List.length l2:Int)))) then
  bif (decide ((0:Int)≤r0.2.1∧(r0.2.1:Int)<((List.length l3:Int)))) then
   cz.L4 gone evicted r0.2.1 b0 r0.1.2.2.1 b03 b04 (List.set l2 (Int.toNat r0.2.1) key) (List.set l3 (Int.toNat r0.2.1) ((b1,b12,b13,()),b14,b15,b16,())) r0.1.1 r0.1.2.1 r1.1 l7 l8
  else none
 else none:=res_eq (by kernel_rfl)
theorem cz.L4_eq (gone evicted i b0 b02 b03 b04 l1 l2 l3 l4 l5 l6 l7):cz.L4 gone evicted i b0 b02 b03 b04 l1 l2 l3 l4 l5 l6 l7=
 (du.F (l6,l7,b03,b04,()) i).bind fun r0=>
 some ((b0,l1,l2,(l3,l4,b02,()),l5,r0.1,()),gone,evicted,0,()):=res_eq (by kernel_rfl)
theorem cz.F_eq (t key l tick):cz.F t key l tick=
 (af.F t).bind fun r0=>
 bif (r0.1 !=0) then
  some ((0,([]:List Int),([]:List t1.den),(([]:List Int),([]:List Bool),0,()),([]:List t3.den),(([]:List Int),([]:List Int),0,0,()),()),0,false,r0.1,())
 else
  cz.L1 key tick t.1 t.2.1 t.2.2.1 t.2.2.2.1.1 t.2.2.2.1.2.1 t.2.2.2.1.2.2.1 t.2.2.2.2.1 t.2.2.2.2.2.1.1 t.2.2.2.2.2.1.2.1 t.2.2.2.2.2.1.2.2.1 t.2.2.2.2.2.1.2.2.2.1 l.1 l.2.1 l.2.2.1 ([]:List Int) ([]:List t1.den) ([]:List Int) ([]:List Bool) ([]:List t3.den):=by kernel_rfl
def dw.sg:Sig:=⟨[.val t5,.val (.int .u32),.val t1],[(t5,true),((.int .i64),true)]⟩
def dw.E:Env:=⟨tl,fun i=>look i [(99,dc.Fn),(106,af.Fn),(108,i8.Fn),(109,fa.Fn)],[],eqs,globs,prims⟩
def dw.c:=cxOf dw.E dw.sg Tryz.f75
def dw.b:=body Tryz.f75
def dw.Fn:Fun:=fnOf dw.E dw.sg Tryz.f75
def dw.F (t:t5.den) (key:Int) (b:t1.den):Option (t5.den × Int × Unit):=dw.Fn.F (t,key,b,())
def dw.L1 (key b0:Int) (b02:List Int) (b03:List t1.den) (b04:List Int) (b05:List Bool) (b06:Int) (b07:List t3.den) (b08 b09:List Int) (b010 b011:Int) (b1 b12:Int) (b13 b14:Int) (b15 b16:Int) (l3:List Int) (l4:List t1.den) (l5:List Int) (l6:List Bool) (l7:List t3.den):Option (t5.den × Int × Unit):=res dw.c (atJoin dw.b [1,0,1,1]) ⟨[(1,(.v (.int .u32) key)),(3,(.ptr 0 [])),(5,(.ptr 1 [])),(6,(.ptr 2 []))],[(0,some (.box (.agg [(.v (.int .i64) b0),(.v (.slice (.int .u32)) b02),(.v (.slice t1) b03),(.agg [(.v (.slice (.int .i64)) b04),(.v (.slice .bool) b05),(.v (.int .i64) b06)]),(.v (.slice t3) b07),(.agg [(.v (.slice (.int .i64)) b08),(.v (.slice (.int .i64)) b09),(.v (.int .i64) b010),(.v (.int .i64) b011)])]))),(1,some (.box (.agg [(.agg [(.v (.int .i64) b1),(.v (.int .i64) b12),(.v (.int .i64) b13)]),(.v (.int .i64) b14),(.v (.int .i64) b15),(.v (.int .u64) b16)]))),(2,some (.box (.agg [(.v (.int .i64) 0),(.sl 3),(.sl 4),(.agg [(.sl 5),(.sl 6),(.v (.int .i64) 0)]),(.sl 7),(.agg [(.sl 8),(.sl 9),(.v (.int .i64) 0),(.v (.int .i64) 0)])]))),(3,some (.row (.int .u32) l3 false)),(4,some (.row t1 l4 false)),(5,some (.row (.int .i64) l5 false)),(6,some (.row .bool l6 false)),(7,some (.row t3 l7 false)),(8,some (.row (.int .i64) l5 false)),(9,some (.row (.int .i64) l5 false))],10,[]⟩
def dw.L2 (key b0:Int) (b02:List Int) (b03:List t1.den) (b04:List Int) (b05:List Bool) (b06:Int) (b07:List t3.den) (b08 b09:List Int) (b010 b011:Int) (b1 b12:Int) (b13 b14:Int) (b15 b16:Int) (l3:List Int) (l4:List t1.den) (l5:List Int) (l6:List Bool) (l7:List t3.den):Option (t5.den × Int × Unit):=res dw.c (atJoin dw.b [1,1,0,1,1]) ⟨[(1,(.v (.int .u32) key)),(3,(.ptr 0 [])),(5,(.ptr 1 [])),(6,(.ptr 2 []))],[(0,some (.box (.agg [(.v (.int .i64) b0),(.v (.slice (.int .u32)) b02),(.v (.slice t1) b03),(.agg [(.v (.slice (.int .i64)) b04),(.v (.slice .bool) b05),(.v (.int .i64) b06)]),(.v (.slice t3) b07),(.agg [(.v (.slice (.int .i64)) b08),(.v (.slice (.int .i64)) b09),(.v (.int .i64) b010),(.v (.int .i64) b011)])]))),(1,some (.box (.agg [(.agg [(.v (.int .i64) b1),(.v (.int .i64) b12),(.v (.int .i64) b13)]),(.v (.int .i64) b14),(.v (.int .i64) b15),(.v (.int .u64) b16)]))),(2,some (.box (.agg [(.v (.int .i64) 0),(.sl 3),(.sl 4),(.agg [(.sl 5),(.sl 6),(.v (.int .i64) 0)]),(.sl 7),(.agg [(.sl 8),(.sl 9),(.v (.int .i64) 0),(.v (.int .i64) 0)])]))),(3,some (.row (.int .u32) l3 false)),(4,some (.row t1 l4 false)),(5,some (.row (.int .i64) l5 false)),(6,some (.row .bool l6 false)),(7,some (.row t3 l7 false)),(8,some (.row (.int .i64) l5 false)),(9,some (.row (.int .i64) l5 false))],10,[]⟩
def dw.L3 (i b0:Int) (b02:List Int) (b03:List t1.den) (b04:List Int) (b05:List Bool) (b06:Int) (b07:List t3.den) (b08 b09:List Int) (b010 b011:Int) (b1 b12:Int) (b13 b14:Int) (b15 b16:Int) (l3:List Int) (l4:List t1.den) (l5:List Int) (l6:List Bool) (l7:List t3.den):Option (t5.den × Int × Unit):=res dw.c (atJoin dw.b [1,1,1,1,0,1]) ⟨[(3,(.ptr 0 [])),(5,(.ptr 1 [])),(6,(.ptr 2 [])),(10,(.v (.int .i64) i))],[(0,some (.box (.agg [(.v (.int .i64) b0),(.v (.slice (.int .u32)) b02),(.v (.slice t1) b03),(.agg [(.v (.slice (.int .i64)) b04),(.v (.slice .bool) b05),(.v (.int .i64) b06)]),(.v (.slice t3) b07),(.agg [(.v (.slice (.int .i64)) b08),(.v (.slice (.int .i64)) b09),(.v (.int .i64) b010),(.v (.int .i64) b011)])]))),(1,some (.box (.agg [(.agg [(.v (.int .i64) b1),(.v (.int .i64) b12),(.v (.int .i64) b13)]),(.v (.int .i64) b14),(.v (.int .i64) b15),(.v (.int .u64) b16)]))),(2,some (.box (.agg [(.v (.int .i64) 0),(.sl 3),(.sl 4),(.agg [(.sl 5),(.sl 6),(.v (.int .i64) 0)]),(.sl 7),(.agg [(.sl 8),(.sl 9),(.v (.int .i64) 0),(.v (.int .i64) 0)])]))),(3,some (.row (.int .u32) l3 false)),(4,some (.row t1 l4 false)),(5,some (.row (.int .i64) l5 false)),(6,some (.row .bool l6 false)),(7,some (.row t3 l7 false)),(8,some (.row (.int .i64) l5 false)),(9,some (.row (.int .i64) l5 false))],10,[]⟩
theorem dw.spec:FnSpec Tryz.prog globs 75 dw.Fn:=spec_of (E:=dw.E) (envOk_at tabOk eqOk primsOk (.cons dc.spec<|.cons af.spec<|.cons i8.spec<|.cons fa.spec<|.nil)) mixOk Tryz.func75 (by kernel_rfl)
theorem dw.L1_eq (key b0 b02 b03 b04 b05 b06 b07 b08 b09 b010 b011 b1 b12 b13 b14 b15 b16 l3 l4 l5 l6 l7):dw.L1 key b0 b02 b03 b04 b05 b06 b07 b08 b09 b010 b011 b1 b12 b13 b14 b15 b16 l3 l4 l5 l6 l7=
 (dc.F ((b1,b12,b13,()),b14,b15,b16,())).bind fun r0=>
 bif (r0.1 !=0) then
  some ((0,([]:List Int),([]:List t1.den),(([]:List Int),([]:List Bool),0,()),([]:List t3.den),(([]:List Int),([]:List Int),0,0,()),()),r0.1,())
 else
  dw.L2 key b0 b02 b03 b04 b05 b06 b07 b08 b09 b010 b011 b1 b12 b13 b14 b15 b16 l3 l4 l5 l6 l7:=res_eq (by kernel_rfl)
theorem dw.L2_eq (key b0 b02 b03 b04 b05 b06 b07 b08 b09 b010 b011 b1 b12 b13 b14 b15 b16 l3 l4 l5 l6 l7):dw.L2 key b0 b02 b03 b04 b05 b06 b07 b08 b09 b010 b011 b1 b12 b13 b14 b15 b16 l3 l4 l5 l6 l7=
 (fa.F (b0,b02,b03,(b04,b05,b06,()),b07,(b08,b09,b010,b011,()),()) key).bind fun r0=>
 bif (decide ((r0.1:Int)<0)) then
  some ((0,([]:List Int),([]:List t1.den),(([]:List Int),([]:List Bool),0,()),([]:List t3.den),(([]:List Int),([]:List Int),0,0,()),()),6,())
 else
  dw.L3 r0.1 b0 b02 b03 b04 b05 b06 b07 b08 b09 b010 b011 b1 b12 b13 b14 b15 b16 l3 l4 l5 l6 l7:=res_eq (by kernel_rfl)
theorem dw.L3_eq (i b0 b02 b03 b04 b05 b06 b07 b08 b09 b010 b011 b1 b12 b13 b14 b15 b16 l3 l4 l5 l6 l7):dw.L3 i b0 b02 b03 b04 b05 b06 b07 b08 b09 b010 b011 b1 b12 b13 b14 b15 b16 l3 l4 l5 l6 l7=
 (i8.F (b0,b02,b03,(b04,b05,b06,()),b07,(b08,b09,b010,b011,()),())).bind fun r0=>
 bif (decide ((0:Int)≤i∧(i:Int)<((List.length r0.1.2.2.1:Int)))) then
  some ((r0.1.1,r0.1.2.1,(List.set r0.1.2.2.1 (Int.toNat i) ((b1,b12,b13,()),b14,b15,b16,())),r0.1.2.2.2.1,r0.1.2.2.2.2.1,r0.1.2.2.2.2.2.1,()),0,())
 else none:=res_eq (by kernel_rfl)
theorem dw.F_eq (t key b):dw.F t key b=
 (af.F t).bind fun r0=>
 bif (r0.1 !=0) then
  some ((0,([]:List Int),([]:List t1.den),(([]:List Int),([]:List Bool),0,()),([]:List t3.den),(([]:List Int),([]:List Int),0,0,()),()),r0.1,())
 else
  dw.L1 key t.1 t.2.1 t.2.2.1 t.2.2.2.1.1 t.2.2.2.1.2.1 t.2.2.2.1.2.2.1 t.2.2.2.2.1 t.2.2.2.2.2.1.1 t.2.2.2.2.2.1.2.1 t.2.2.2.2.2.1.2.2.1 t.2.2.2.2.2.1.2.2.2.1 b.1.1 b.1.2.1 b.1.2.2.1 b.2.1 b.2.2.1 b.2.2.2.1 ([]:List Int) ([]:List t1.den) ([]:List Int) ([]:List Bool) ([]:List t3.den):=by kernel_rfl
def dq.sg:Sig:=⟨[.val (.arr 3 t0)],[(.bool,true)]⟩
def dq.E:Env:=⟨tl,fun i=>look i [(98,db.Fn)],[],eqs,globs,prims⟩
def dq.c:=cxOf dq.E dq.sg Tryz.f168
def dq.b:=body Tryz.f168
def dq.Fn:Fun:=fnOf dq.E dq.sg Tryz.f168
def dq.F (l:List t0.den):Option (Bool × Unit):=dq.Fn.F (l,())
def dq.L1 (t5_:List t0.den) (t6_:Int):Option (Bool × Unit):=res dq.c (atLoop dq.b [1,0,1,0]) ⟨[(5,(.v (.arr 3 t0) t5_)),(6,(.v (.int .i64) t6_))],[],0,[]⟩
def dq.L2 (t5_:List t0.den) (t6_:Int):Option (Bool × Unit):=res dq.c (atJoin dq.b [1,0,1,0,0,1,0]) ⟨[(5,(.v (.arr 3 t0) t5_)),(6,(.v (.int .i64) t6_))],[],0,[]⟩
def dq.L3 (t5_:List t0.den) (t6_:Int):Option (Bool × Unit):=res dq.c (atJoin dq.b [1,0,1,0,0,1,1,0,0,1,1]) ⟨[(5,(.v (.arr 3 t0) t5_)),(6,(.v (.int .i64) t6_))],[],0,[]⟩
theorem dq.spec:FnSpec Tryz.prog globs 168 dq.Fn:=spec_of (E:=dq.E) (envOk_at tabOk eqOk primsOk (.cons db.spec<|.nil)) mixOk Tryz.func168 (by kernel_rfl)
theorem dq.L1_eq (t5_ t6_):dq.L1 t5_ t6_=
 bif (decide ((t6_:Int)<3)) then
  dq.L2 t5_ t6_
 else
  some (true,()):=res_eq (by kernel_rfl)
theorem dq.L2_eq (t5_ t6_):dq.L2 t5_ t6_=
 bif (decide ((0:Int)≤t6_∧(t6_:Int)<3)) then
  (db.F (List.getD t5_ (Int.toNat t6_) (0,0,0,()))).bind fun r0=>
  bif (r0.1 !=0) then
   some (false,())
  else
   dq.L3 t5_ t6_
 else none:=res_eq (by kernel_rfl)
theorem dq.L3_eq (t5_ t6_):dq.L3 t5_ t6_=
 dq.L1 t5_ (IntKind.wrap .i64 (t6_+1)):=res_eq (by kernel_rfl)
theorem dq.F_eq (l):dq.F l=
 dq.L1 l 0:=by kernel_rfl
end
end Go.Proofs.YtkihjakbbcajbaaGreat.PM
namespace Go.Proofs.YtkihjakbbcajbaaGreat.PM
set_option linter.unusedSimpArgs false
set_option linter.unusedVariables false
open Go
def rnd (r:Option Nat):Fence:={Fence.wide with round:=r}
section
variable {P:Program} {r:Option Nat} {n:Nat} {Q:Exit→Act→World→Prop}
def onlyN (Q:Exit→Act→World→Prop):Exit→Act→World→Prop:=fun e a w=>e=.normal∧Q .normal a w
theorem wp_to {Q0:Exit→Act→World→Prop} {o:Oper} {a:Act} {w:World} {K K':Act→World→Prop} (hd:∀c,o.op≠ .defer c) (hdef:∀d w',(execOp a.eval o).run P w≠ .ok (.defer d) w') (hK:∀v w',K (a.put o.dst v) w'→K' (a.put o.dst v) w') (h:o.wp P a w K (onlyN Q0)):o.wpIn (rnd r) n P a w K' Q:=by
 unfold Oper.wp at h
 refine ⟨fun _ _=>trivial,?_⟩
 rw [Oper.semAt_eq _ _ _ hd]
 generalize (execOp a.eval o).run P w=res at h hdef ⊢
 cases res with
 |ok nx w'=>
  cases nx with
  |value v=>exact hK v w' h
  |skip=>exact hK undef w' h
  |defer d=>exact absurd rfl (hdef d w')
  |enter f args=>
   refine ⟨(fun h=>by cases h),?_⟩
   have h:Calls P f args w' fun
    |.returned v,w''=>K (a.put o.dst v) w''
    |.panicked chain,w''=>onlyN Q0 (.panic chain) a w''
    |.outgrown,_=>LetsOut (onlyN Q0):=h
   have h2:=(callsIn_wide (n:=n - 1)).2 h
   refine CallsIn.mono (F:=Fence.wide) h2 (fun e w'' he=>?_)
   cases e with
   |returned v=>exact hK v w'' he
   |panicked c=>exact absurd he.1 (by simp)
   |outgrown=>
    obtain ⟨a0,w0,he⟩:=he
    exact absurd he.1 (by simp)
  |row row args=>
   refine ⟨(fun h=>by cases h),fun c cs _=>?_⟩
   obtain ⟨v,w'',h1,h2⟩:=h c cs
   exact ⟨v,w'',hK v w'' h1,stepsIn_wide.2 h2⟩
  |_=>exact h.elim
 |halt hh w'=>
  cases hh with
  |panic v=>exact absurd h.1 (by simp)
  |_=>exact h.elim
def quiet (o:Oper):Bool:=match o.op with
 |.defer _|.call _|.nilCheck _|.recv ..|.select ..|.go _|.send ..=>false
 |_=>true
theorem quiet_defer {o:Oper} (h:quiet o=true) (c:Call):o.op≠ .defer c:=fun e=>by
 unfold quiet at h;rw [e] at h;cases h
theorem andThen_defer {α:Type} {x:Result α} {f:α→World→Result Next} {d:Deferred} {w':World} (hf:∀a w,f a w≠ .ok (.defer d) w'):x.andThen f≠ .ok (.defer d) w':=by
 cases x with
 |ok a w=>exact hf a w
 |halt h w=>intro e;simp [Result.andThen] at e
theorem quiet_run {o:Oper} (h:quiet o=true) (ρ:Operand→Value) (w:World) (d:Deferred) (w':World):(execOp ρ o).run P w≠ .ok (.defer d) w':=by
 unfold execOp
 cases ho:o.op with
 |defer c=>unfold quiet at h;rw [ho] at h;cases h
 |call c=>unfold quiet at h;rw [ho] at h;cases h
 |nilCheck x=>unfold quiet at h;rw [ho] at h;cases h
 |recv a b c=>unfold quiet at h;rw [ho] at h;cases h
 |select a b=>unfold quiet at h;rw [ho] at h;cases h
 |go c=>unfold quiet at h;rw [ho] at h;cases h
 |send a b=>unfold quiet at h;rw [ho] at h;cases h
 |_=>
  simp only [Sem.run_bind]
  first
   |exact andThen_defer (fun a w=>by simp)
   |(intro e;simp at e;done)
   |exact andThen_defer (fun a w=>by first|(simp;done)|exact andThen_defer (fun a w=>by simp))
theorem wpOp_to {Q0:Exit→Act→World→Prop} {ops:Array Oper} (hd:∀(i:Nat) o,ops[i]?=some o→quiet o=true) {i:Nat} {a:Act} {w:World} {K K':Act→World→Prop} (hK:∀a' w',(a'=a∨∃o v,ops[i]?=some o∧a'=a.put o.dst v)→K a' w'→K' a' w') (h:wpOp P ops (onlyN Q0) i K a w):wpOpIn (rnd r) n P ops Q i K' a w:=by
 unfold wpOp at h
 unfold wpOpIn
 cases ho:ops[i]? with
 |none=>rw [ho] at h;exact hK _ _ (.inl rfl) h
 |some o=>
  rw [ho] at h
  simp only at h ⊢
  split at h
  ·rename_i hw
   rw [if_pos hw]
   rcases h with h|⟨_,a0,w0,h⟩
   ·exact wp_to (quiet_defer (hd i o ho)) (fun d w'=>quiet_run (hd i o ho) _ _ d w') (fun v w'=>hK _ w' (.inr ⟨o,v,ho,rfl⟩)) h
   ·exact absurd h.1 (by simp)
  ·rename_i hw
   rw [if_neg hw]
   exact ⟨fun _ _=>trivial,hK _ _ (.inr ⟨o,undef,ho,rfl⟩) h⟩
def Fr (ops:Array Oper) (l:List Nat) (a a':Act):Prop:=∀t,(∀i∈l,∀o,ops[i]?=some o→o.dst≠some t)→a'.tmps.getD t undef=a.tmps.getD t undef
theorem put_other (a:Act) (d:Option Nat) (v:Value) (t:Nat) (h:d≠some t):(a.put d v).tmps.getD t undef=a.tmps.getD t undef:=by
 cases d with
 |none=>rfl
 |some e=>
  have:e≠t:=fun h'=>h (by rw [h'])
  simp only [Act.put,Array.getD_eq_getD_getElem?]
  rw [Array.getElem?_setIfInBounds_ne this]
theorem wpOps_to {Q0:Exit→Act→World→Prop} {ops:Array Oper} (hd:∀(i:Nat) o,ops[i]?=some o→quiet o=true):∀(l:List Nat) (a:Act) (w:World),(∀a' w',Q0 .normal a' w'→Fr ops l a a'→Q .normal a' w')→wpOps P ops (onlyN Q0) l a w→wpOpsIn (rnd r) n P ops Q l a w
 |[],a,w,hQ,h=>hQ a w h.2 (fun t _=>rfl)
 |i::l,a,w,hQ,h=>by
  rw [wpOps_cons] at h
  rw [wpOpsIn_cons]
  refine wpOp_to hd (fun a1 w1 hc h=>wpOps_to hd l a1 w1 (fun a' w' h1 h2=>hQ a' w' h1 (fun t ht=>?_)) h) h
  rw [h2 t (fun j hj=>ht j (List.mem_cons_of_mem _ hj))]
  rcases hc with rfl|⟨o,v,ho,rfl⟩
  ·rfl
  ·exact put_other a o.dst v t (ht i (List.mem_cons_self ..) o ho)
def noDefer (ops:List Oper):Bool:=ops.all quiet
theorem noDefer_at {ops:List Oper} (h:noDefer ops=true) (i:Nat) (o:Oper) (ho:ops.toArray[i]?=some o):quiet o=true:=
 List.all_eq_true.1 h o (List.mem_of_getElem? (by simpa using ho))
end
section
variable {P:Program} {E:Env} {B:Bs} {io:List PV} {r:Option Nat} {n:Nat} {Q:Exit→Act→World→Prop}
theorem regionIn_ok (hE:EnvOk P E) (hgl:E.globs=B.gl) {id:Nat} {ops:List Oper} {nx:Nat} {tm tm':List (Nat × PV)} {h h':Hp} {g:Gh} {A:Nat→Prop} {a:Act} {w:World}
  (e:(opsD E ops ops nx tm h [] (fun tm hp _=> .done (tm,hp))).ev (fun _ _=>(none:Option (List (Nat × PV) × Hp)))=some (tm',h')) (hnt:dstOk B.nt ops=true) (hnd:noDefer ops=true) (R:RS B g A a w tm h io)
  (fin:∀g A a' w,RS B g A a' w tm' h' io→(∀t,(∀o∈ops,o.dst≠some t)→a'.tmps.getD t undef=a.tmps.getD t undef)→Q .normal a' w):(Code.region id ops.toArray false).wpIn (rnd r) n P Q a w:=by
 obtain ⟨rc,tm1,hl,ran,htm,e2⟩:=opsD_ran (all:=ops) (nx:=nx) (tm0:=tm) (h0:=h) ops [] [] tm (by simp) rfl (fun _=>rfl) (fun j h=>by simp at h) (by simpa [hpS] using e)
 simp only [DT.ev,Option.some.injEq,Prod.mk.injEq] at e2
 obtain ⟨rfl,rfl⟩:=e2
 refine wpIn_region (wpOps_to (Q0:=fun _ a' w'=>∃g A,RS B g A a' w' tm1 (hpS (fun k=>(rcAt rc k).ws) h (fun _=>true) ops.length) io) (noDefer_at hnd) _ _ _ (fun a' w' ⟨g,A,R'⟩ hf=>fin g A a' w' R' (fun t ht=>hf t (fun i _ o ho=>ht o (List.mem_of_getElem? (by simpa using ho))))) ?_)
 have hz:∀{X:Nat→PV} n,tmS (dstOf ops) X tm (fun _=>false) n=tm:=fun {X} n=>by
  induction n with
  |zero=>rfl
  |succ n ih=>rw [tmS_succ];exact ih
 have hz2:∀{V:Nat→Hp} n,hpS V h (fun _=>false) n=h:=fun {V} n=>by
  induction n with
  |zero=>rfl
  |succ n ih=>rw [hpS_succ];exact ih
 have hsz:ops.toArray.size=ops.length:=by simp
 rw [hsz,List.range_eq_range']
 refine reg_seq hE hgl hl ran (dstOk_at hnt) (fun g A a w R'=>⟨rfl,g,A,R'.congr (fun t=>(htm t).symm) (fun _=>rfl)⟩) ops.length 0 (by omega) g A a w ?_
 rw [tmS_ext (S':=fun _=>false) _ (fun k _=>by simp),hpS_ext (S':=fun _=>false) _ (fun k _=>by simp),hz,hz2]
 exact R
end
end Go.Proofs.YtkihjakbbcajbaaGreat.PM
namespace Go.Proofs.YtkihjakbbcajbaaGreat.PM
set_option linter.unusedSimpArgs false
set_option linter.unusedVariables false
open Go
def subC (c:Code) (p:List Nat):Code:=(focus c p []).1
def regOps:Code→List Oper
 |.region _ ops _=>ops.toList
 |_=>[]
def rfAsg:Code→Code
 |.rangeFunc _ _ a _=>a
 |_=> .skip
def rfBdy:Code→Code
 |.rangeFunc _ _ _ b=>b
 |_=> .skip
structure BoxF where
 id:Nat
 b:Nat
 t:Ty
 x:t.den
structure Boxes (A:Nat→Prop) (w:World) (l:List BoxF):Prop where
 cell:∀q∈l,∃c e,w.heap[q.b]?=some (.cells c e (0,0))∧TRel A w q.t c.toList q.x
 out:∀q∈l,¬A q.b
 ids:(l.map (·.id)).Nodup
 bs:(l.map (·.b)).Nodup
 lt:∀r,A r→r<w.heap.size
def gL (l:List BoxF):Gh:=fun i=>(l.find? fun q=>Nat.beq i q.id).map fun q=>⟨some q.b,0,0⟩
def hpL (l:List BoxF):Hp:=l.map fun q=>(q.id,some (.box (mk q.t q.x)))
def ioL (l:List BoxF):List PV:=l.map fun q=> .ptr q.id []
def slL (l:List BoxF):List Slot:=l.map fun q=>⟨some q.b,0,0⟩
def WL (w:World) (l:List BoxF):Nat→Prop:=fun r=>w.heap.size≤r∨∃q∈l,r=q.b
def BL {gl:List (Nat × PV)} {A:Nat→Prop} {w:World} (hg:GlOk gl A w) (l:List BoxF) (nt:Nat) (df:List Deferred):Bs:=
 ⟨A,WL w l,w,nt,slL l,fun _ h=> .inl h,gl,hg,df⟩
section
variable {gl:List (Nat × PV)} {A:Nat→Prop} {w:World} {l:List BoxF}
theorem gL_at:∀{l:List BoxF} {q:BoxF},(l.map (·.id)).Nodup→q∈l→gL l q.id=some ⟨some q.b,0,0⟩
 |r::l,q,hn,hq=>by
  rw [List.map_cons,List.nodup_cons] at hn
  unfold gL
  rw [List.find?_cons]
  rcases List.mem_cons.1 hq with rfl|hq
  ·rw [Nat.beq_refl];rfl
  ·have:Nat.beq q.id r.id=false:=by
    cases hb:Nat.beq q.id r.id with
    |false=>rfl
    |true=>exact absurd (List.mem_map.2 ⟨q,hq,Nat.eq_of_beq_eq_true hb⟩) hn.1
   rw [this]
   exact gL_at hn.2 hq
theorem gL_out {l:List BoxF} {i:Nat} {s:Slot} (h:gL l i=some s):∃q∈l,q.id=i∧s=⟨some q.b,0,0⟩:=by
 unfold gL at h
 cases hf:l.find? (fun q=>Nat.beq i q.id) with
 |none=>rw [hf] at h;cases h
 |some q=>
  rw [hf] at h
  injection h with h
  exact ⟨q,List.mem_of_find?_eq_some hf,(Nat.eq_of_beq_eq_true (List.find?_some (p:=fun q:BoxF=>Nat.beq i q.id) hf)).symm,h.symm⟩
theorem hpL_at:∀{l:List BoxF} {i:Nat} {b:Blk},(hpL l).at i=some b→∃q∈l,q.id=i∧b=.box (mk q.t q.x)
 |[],_,_,h=>by cases h
 |r::l,i,b,h=>by
  unfold hpL at h
  rw [List.map_cons,at_cons] at h
  split at h
  ·injection h with h
   exact ⟨r,List.mem_cons_self ..,by symm;assumption,h.symm⟩
  ·obtain ⟨q,h1,h2⟩:=hpL_at (l:=l) h
   exact ⟨q,List.mem_cons_of_mem _ h1,h2⟩
theorem bs_inj:∀{l:List BoxF} {q r:BoxF},(l.map (·.b)).Nodup→q∈l→r∈l→q.b=r.b→q=r
 |s::l,q,r,hn,hq,hr,e=>by
  rw [List.map_cons,List.nodup_cons] at hn
  rcases List.mem_cons.1 hq with h1|h1<;>rcases List.mem_cons.1 hr with h2|h2
  ·rw [h1,h2]
  ·exact absurd (List.mem_map.2 ⟨r,h2,by rw [←e,h1]⟩:s.b∈l.map (·.b)) hn.1
  ·exact absurd (List.mem_map.2 ⟨q,h1,by rw [e,h2]⟩:s.b∈l.map (·.b)) hn.1
  ·exact bs_inj hn.2 h1 h2 e
theorem boxes_HR (C:Boxes A w l):HR (gL l) A (WL w l) w (hpL l) where
 blk i b e:=by
  obtain ⟨q,hq,rfl,rfl⟩:=hpL_at e
  obtain ⟨c,e,h1,h2⟩:=C.cell q hq
  exact ⟨_,_,c,e,gL_at C.ids hq,rfl,h1,mk_rel _ _ _ h2⟩
 own i b s r e _ hg hr:=by
  obtain ⟨q,hq,rfl,rfl⟩:=hpL_at e
  rw [gL_at C.ids hq] at hg
  injection hg with hg;subst hg
  injection hr with hr;subst hr
  exact ⟨C.out q hq,.inr ⟨q,hq,rfl⟩⟩
 inj i j b c s s' r e e' _ _ hg hg' hr hr':=by
  obtain ⟨q,hq,rfl,rfl⟩:=hpL_at e
  obtain ⟨q',hq',rfl,rfl⟩:=hpL_at e'
  rw [gL_at C.ids hq] at hg
  rw [gL_at C.ids hq'] at hg'
  injection hg with hg;subst hg
  injection hr with hr;subst hr
  injection hg' with hg';subst hg'
  injection hr' with hr'
  rw [bs_inj C.bs hq' hq hr']
 dfn i s e:=by
  obtain ⟨q,hq,rfl,rfl⟩:=gL_out e
  have:∀{l:List BoxF},q∈l→∃o,look q.id (hpL l)=some o:=by
   intro l
   induction l with
   |nil=>intro h;cases h
   |cons r l ih=>
    intro h
    unfold hpL
    rw [List.map_cons,look_cons]
    split
    ·exact ⟨_,rfl⟩
    ·rename_i hne
     rcases List.mem_cons.1 h with rfl|h
     ·exact absurd rfl hne
     ·exact ih h
  exact this hq
 lt:=C.lt
theorem ioR_L (hi:(l.map (·.id)).Nodup):∀{m:List BoxF},(∀q∈m,q∈l)→IoR (gL l) (ioL m) (slL m)
 |[],_=>trivial
 |r::m,h=>⟨⟨r.id,.inl rfl,gL_at hi (h r (List.mem_cons_self ..))⟩,ioR_L hi (fun q hq=>h q (List.mem_cons_of_mem _ hq))⟩
theorem boxes_RS (C:Boxes A w l) (hg:GlOk gl A w) {nt:Nat} {a:Act} {tm:List (Nat × PV)} (hs:a.tmps.size=nt) (htm:∀t x,look t tm=some x→t<nt∧VRel (gL l) A w x (a.tmps.getD t undef)):
  RS (BL hg l nt a.defers) (gL l) A a w tm (hpL l) (ioL l) where
 size:=hs
 defs:=rfl
 tms:=htm
 hr:=boxes_HR C
 mono _ h:=h
 in' _ h:=.inl h
 same _ _:=rfl
 keep:=.refl _ w
 io:=ioR_L C.ids (fun _ h=>h)
def BL0 {gl:List (Nat × PV)} {A:Nat→Prop} {w:World} (hg:GlOk gl A w) (l:List BoxF) (nt:Nat) (df:List Deferred):Bs:=
 ⟨A,WL w l,w,nt,[],fun _ h=> .inl h,gl,hg,df⟩
theorem boxes_RS0 (C:Boxes A w l) (hg:GlOk gl A w) {nt:Nat} {a:Act} {tm:List (Nat × PV)} (hs:a.tmps.size=nt) (htm:∀t x,look t tm=some x→t<nt∧VRel (gL l) A w x (a.tmps.getD t undef)):
  RS (BL0 hg l nt a.defers) (gL l) A a w tm (hpL l) [] where
 size:=hs
 defs:=rfl
 tms:=htm
 hr:=boxes_HR C
 mono _ h:=h
 in' _ h:=.inl h
 same _ _:=rfl
 keep:=.refl _ w
 io:=trivial
theorem boxes_of {B:Bs} {g:Gh} {A':Nat→Prop} {a:Act} {w':World} {tm:List (Nat × PV)} {h:Hp} {l l':List BoxF} (hA:B.A0=A) (R:RS B g A' a w' tm h (ioL l)) (hsl:B.sl=slL l) (C:Boxes A w l) (hz:w.heap.size≤w'.heap.size)
  (hsub:∀q∈l',∃r∈l,r.id=q.id∧r.b=q.b) (hn1:(l'.map (·.id)).Nodup) (hn2:(l'.map (·.b)).Nodup) (hq:∀q∈l',∃X,h.at q.id=some (.box X)∧flatV q.t X=some q.x∧q.t.flat=true):Boxes A w' l':=by
 have hio:=R.io
 rw [hsl] at hio
 have key:∀{m:List BoxF},IoR g (ioL m) (slL m)→∀q∈m,g q.id=some ⟨some q.b,0,0⟩:=by
  intro m
  induction m with
  |nil=>intro _ q hq;cases hq
  |cons r m ih=>
   intro hm q hq
   obtain ⟨⟨i,hi,hgi⟩,h2⟩:=hm
   rcases List.mem_cons.1 hq with rfl|hq
   ·have:i=q.id:=by
     rcases hi with hi|hi
     ·injection hi with hi;exact hi.symm
     ·cases hi
    rw [this] at hgi;exact hgi
   ·exact ih h2 q hq
 refine ⟨fun q hqm=>?_,fun q hqm=>?_,hn1,hn2,fun r hr=>Nat.lt_of_lt_of_le (C.lt r hr) hz⟩
 ·obtain ⟨X,h1,h2,h3⟩:=hq q hqm
  obtain ⟨r,hr,er,eb⟩:=hsub q hqm
  have hgq:=key hio r hr
  rw [er,eb] at hgq
  obtain ⟨s,b',c,e,k1,k2,k3,k4⟩:=R.hr.blk q.id _ h1
  rw [hgq] at k1;injection k1 with k1;subst k1
  injection k2 with k2;subst k2
  exact ⟨c,e,k3,TRel.flat _ _ _ h3 (flatV_rel _ _ _ _ k4 h2)⟩
 ·obtain ⟨r,hr,er,eb⟩:=hsub q hqm
  rw [←eb];exact C.out r hr
theorem kept_of {B:Bs} {g:Gh} {A':Nat→Prop} {a:Act} {w':World} {tm:List (Nat × PV)} {h:Hp} {io:List PV} (R:RS B g A' a w' tm h io) (hw:B.w0=w) (hW:B.W=WL w l) (C:Boxes A w l) (B0:Nat):KeepsFrom B0 w w':=by
 have hk:=R.keep
 rw [hw,hW] at hk
 refine ⟨hk.size,fun k o _ ho hc=>(hk.block k (heap_lt ho) (fun hx=>?_)).trans ho⟩
 rcases hx with hx|⟨q,hq,rfl⟩
 ·have:=heap_lt ho;omega
 ·obtain ⟨c,e,h1,_⟩:=C.cell q hq
  rw [h1] at ho;injection ho with ho;subst ho
  cases hc
theorem Boxes.turn {w':World} (C:Boxes A w l) (hA:∀r,(A r∨∃q∈l,r=q.b)→w'.heap[r]?=w.heap[r]?) (hz:w.heap.size≤w'.heap.size):Boxes A w' l:=by
 refine ⟨fun q hq=>?_,C.out,C.ids,C.bs,fun r hr=>Nat.lt_of_lt_of_le (C.lt r hr) hz⟩
 obtain ⟨c,e,k,r⟩:=C.cell q hq
 exact ⟨c,e,by rw [hA q.b (.inr ⟨q,hq,rfl⟩)];exact k,TRel.mono (fun _ h=>h) (fun r hr=>hA r (.inl hr)) _ _ _ r⟩
end
end Go.Proofs.YtkihjakbbcajbaaGreat.PM
namespace Go.Proofs.YtkihjakbbcajbaaGreat.PM
open Go Go.Proofs
noncomputable section
set_option linter.unusedVariables false
def a9.sg:Sig:=⟨[.val t7],[((.int .i64),true)]⟩
def a9.E:Env:=⟨tl,fun i=>look i [(99,dc.Fn),(106,af.Fn),(168,dq.Fn)],[],eqs,globs,prims⟩
theorem a9.envOk:EnvOk Tryz.prog a9.E:=envOk_at tabOk eqOk primsOk (.cons dc.spec<|.cons af.spec<|.cons dq.spec<|.nil)
def a9.c:=cxOf a9.E a9.sg Tryz.f128
def a9.b:=body Tryz.f128
def a9.S1 (b0:Int) (b02:List t0.den) (b03 b04:Int) (b05 b06:Int) (b07 b08 b09:Int) (b010:List Int) (b011:List t1.den) (b012:List Int) (b013:List Bool) (b014:Int) (b015:List t3.den) (b016 b017:List Int) (b018 b019 b020:Int) (b021:List Int) (b022:List t1.den) (b023:List Int) (b024:List Bool) (b025:Int) (b026:List t3.den) (b027 b028:List Int) (b029 b030:Int) (b031:List Int) (b032 b033 b034:Int):St:=⟨[(1,(.ptr 0 [])),(2,(.ptr 1 []))],[(0,some (.box (.agg [(.v (.int .u32) b0),(.v (.arr 3 t0) b02),(.agg [(.agg [(.v (.int .i64) b03),(.v (.int .i64) b04),(.v (.int .i64) b05)]),(.v (.int .i64) b06),(.v (.int .i64) b07),(.v (.int .u64) b08)]),(.agg [(.v (.int .i64) b09),(.v (.slice (.int .u32)) b010),(.v (.slice t1) b011),(.agg [(.v (.slice (.int .i64)) b012),(.v (.slice .bool) b013),(.v (.int .i64) b014)]),(.v (.slice t3) b015),(.agg [(.v (.slice (.int .i64)) b016),(.v (.slice (.int .i64)) b017),(.v (.int .i64) b018),(.v (.int .i64) b019)])]),(.agg [(.v (.int .i64) b020),(.v (.slice (.int .u32)) b021),(.v (.slice t1) b022),(.agg [(.v (.slice (.int .i64)) b023),(.v (.slice .bool) b024),(.v (.int .i64) b025)]),(.v (.slice t3) b026),(.agg [(.v (.slice (.int .i64)) b027),(.v (.slice (.int .i64)) b028),(.v (.int .i64) b029),(.v (.int .i64) b030)])]),(.v (.slice (.int .u32)) b031),(.agg [(.v (.int .u64) b032),(.v (.int .u64) b033),(.v (.int .u64) b034)])]))),(1,some (.box (.v (.int .i64) 0)))],2,[]⟩
def a9.L2 (p:t7.den) (b0:Int):Option (Int × Unit):=res a9.c (atJoin a9.b [1,1,1,1,1,0,1]) ⟨[(1,(.iptr t7 p)),(2,(.ptr 0 []))],[(0,some (.box (.v (.int .i64) b0)))],1,[]⟩
def a9.L3 (p:t7.den) (t84_:List Int) (t85_ t86_ b0:Int):Option (Int × Unit):=res a9.c (atLoop a9.b [1,1,1,1,1,1,0,1,0]) ⟨[(1,(.iptr t7 p)),(2,(.ptr 0 [])),(84,(.v (.slice (.int .u32)) t84_)),(85,(.v (.int .i64) t85_)),(86,(.v (.int .i64) t86_))],[(0,some (.box (.v (.int .i64) b0)))],1,[]⟩
def a9.L4 (p:t7.den) (t84_:List Int) (t85_ t86_ b0:Int):Option (Int × Unit):=res a9.c (atJoin a9.b [1,1,1,1,1,1,0,1,0,0,1,0]) ⟨[(1,(.iptr t7 p)),(2,(.ptr 0 [])),(84,(.v (.slice (.int .u32)) t84_)),(85,(.v (.int .i64) t85_)),(86,(.v (.int .i64) t86_))],[(0,some (.box (.v (.int .i64) b0)))],1,[]⟩
def a9.L5 (p:t7.den) (t84_:List Int) (t85_ t86_ b0:Int):Option (Int × Unit):=res a9.c (atJoin a9.b [1,1,1,1,1,1,0,1,0,0,1,1,0,0,1,1]) ⟨[(1,(.iptr t7 p)),(2,(.ptr 0 [])),(84,(.v (.slice (.int .u32)) t84_)),(85,(.v (.int .i64) t85_)),(86,(.v (.int .i64) t86_))],[(0,some (.box (.v (.int .i64) b0)))],1,[]⟩
def a9.ST (p:t7.den) (n:Int) (same:List t0.den):St:=⟨[(1,(.iptr t7 p)),(2,(.ptr 1 [])),(3,(.ptr 2 []))],[(1,some (.box (.v (.int .i64) n))),(2,some (.box (.v (.arr 3 t0) same)))],3,[]⟩
def a9.T (p:t7.den) (n:Int) (same:List t0.den):Option (Int × Unit):=res a9.c [.code (subC a9.b [1,1,1,1,1])] (a9.ST p n same)
theorem a9.L2_eq (p b0):a9.L2 p b0=
 a9.L3 p p.2.2.2.2.2.1 ((List.length p.2.2.2.2.2.1:Int)) 0 b0:=res_eq (by kernel_rfl)
theorem a9.L3_eq (p t84_ t85_ t86_ b0):a9.L3 p t84_ t85_ t86_ b0=
 bif (decide ((t86_:Int)<t85_)) then
  a9.L4 p t84_ t85_ t86_ b0
 else
  some (0,()):=res_eq (by kernel_rfl)
theorem a9.L4_eq (p t84_ t85_ t86_ b0):a9.L4 p t84_ t85_ t86_ b0=
 bif (decide ((0:Int)≤t86_∧(t86_:Int)<((List.length t84_:Int)))) then
  bif (decide ((t86_:Int)>0)) then
   bif (decide ((0:Int)≤(IntKind.wrap .i64 (t86_ - 1))∧((IntKind.wrap .i64 (t86_ - 1)):Int)<((List.length p.2.2.2.2.2.1:Int)))) then
    bif (decide (((List.getD p.2.2.2.2.2.1 (Int.toNat (IntKind.wrap .i64 (t86_ - 1))) 0):Int)≥(List.getD t84_ (Int.toNat t86_) 0))) then
     some (8,())
    else
     a9.L5 p t84_ t85_ t86_ b0
   else none
  else
   a9.L5 p t84_ t85_ t86_ b0
 else none:=res_eq (by kernel_rfl)
theorem a9.L5_eq (p t84_ t85_ t86_ b0):a9.L5 p t84_ t85_ t86_ b0=
 a9.L3 p t84_ t85_ (IntKind.wrap .i64 (t86_+1)) b0:=res_eq (by kernel_rfl)
theorem a9.T_eq (p:t7.den) (n:Int) (same:List t0.den):a9.T p n same=
 bif (!(Ty.beq (.arr 3 t0) same p.2.1)) then
  some (8,())
 else
  bif (decide ((((List.length p.2.2.2.2.2.1:Int)):Int)>8)) then
   some (8,())
  else
   a9.L2 p n:=res_eq (by kernel_rfl)
theorem a9.entry_eq (p:t7.den) (f:List It→St→Option (Int × Unit)):(entry a9.E a9.sg Tryz.f128 (p,())).ev f=
 bif (decide ((p.1:Int)≥16)) then
  some (8,())
 else
  (dq.F p.2.1).bind fun r0=>
  bif (!r0.1) then
   some (8,())
  else
   (dc.F p.2.2.1).bind fun r1=>
   bif (r1.1 !=0) then
    some (8,())
   else
    (af.F p.2.2.2.1).bind fun r2=>
    bif (r2.1 !=0) then
     some (8,())
    else
     (af.F p.2.2.2.2.1).bind fun r3=>
     bif (r3.1 !=0) then
      some (8,())
     else
      f (atJoin a9.b [1,0,1]) (a9.S1 p.1 p.2.1 p.2.2.1.1.1 p.2.2.1.1.2.1 p.2.2.1.1.2.2.1 p.2.2.1.2.1 p.2.2.1.2.2.1 p.2.2.1.2.2.2.1 p.2.2.2.1.1 p.2.2.2.1.2.1 p.2.2.2.1.2.2.1 p.2.2.2.1.2.2.2.1.1 p.2.2.2.1.2.2.2.1.2.1 p.2.2.2.1.2.2.2.1.2.2.1 p.2.2.2.1.2.2.2.2.1 p.2.2.2.1.2.2.2.2.2.1.1 p.2.2.2.1.2.2.2.2.2.1.2.1 p.2.2.2.1.2.2.2.2.2.1.2.2.1 p.2.2.2.1.2.2.2.2.2.1.2.2.2.1 p.2.2.2.2.1.1 p.2.2.2.2.1.2.1 p.2.2.2.2.1.2.2.1 p.2.2.2.2.1.2.2.2.1.1 p.2.2.2.2.1.2.2.2.1.2.1 p.2.2.2.2.1.2.2.2.1.2.2.1 p.2.2.2.2.1.2.2.2.2.1 p.2.2.2.2.1.2.2.2.2.2.1.1 p.2.2.2.2.1.2.2.2.2.2.1.2.1 p.2.2.2.2.1.2.2.2.2.2.1.2.2.1 p.2.2.2.2.1.2.2.2.2.2.1.2.2.2.1 p.2.2.2.2.2.1 p.2.2.2.2.2.2.1.1 p.2.2.2.2.2.2.1.2.1 p.2.2.2.2.2.2.1.2.2.1):=by kernel_rfl
end
end Go.Proofs.YtkihjakbbcajbaaGreat.PM
