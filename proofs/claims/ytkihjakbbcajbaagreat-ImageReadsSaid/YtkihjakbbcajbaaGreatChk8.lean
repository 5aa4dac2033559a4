/- Parts of the proof, joined: ZpmA, PM32, PM33, ZpmB, Kr, Kd, Chk1, Chk2, Chk4, Chk5, Chk6, Chk7, Chk8. -/
import Derived.Test.YtkihjakbbcajbaaGreatPrim
import Derived.RangeFuncNested
import Derived.RangeFuncBound
import Derived.RangeFuncCalls
import Derived.RangeFuncLeaves
import Derived.OrdersIn
import Derived.OwnWalkIn
import Derived.RangeFuncBox
import Derived.Shelf.Abstract
import Derived.Shelf.RegionOpen
import Derived.TacticsInMore
import Derived.LoopNIn
import Derived.LoopIn
import Derived.Stop.RegionWithIn
import Derived.Test.YtkihjakbbcajbaaGreatChecked
namespace Go.Proofs.YtkihjakbbcajbaaGreat.PM
open Go Go.Proofs
noncomputable section
set_option linter.unusedVariables false
def tl:List (Nat × TI):=[(1,.other),(2,.data (.int .i64)),(3,.data (.int .i64)),(4,.data .bool),(5,.data (.int .u8)),(6,.data (.int .u8)),(7,.data t14),(8,.data t14),(9,.data .str),(10,.data .str),(11,.data .str),(12,.data (.int .u64)),(13,.data t15),(14,.data t15),(15,.other),(16,.other),(17,.other),(21,.data (.int .i32)),(22,.data (.slice (.int .u8))),(23,.data (.int .u64)),(24,.data (.arr 32 (.int .u8))),(25,.data (.arr 32 (.int .u8))),(26,.data (.int .u32)),(27,.data (.arr 16 (.int .u32))),(28,.data (.slice t7)),(29,.data t8),(30,.data t8),(31,.data (.int .i64)),(33,.other),(35,.other),(37,.other),(39,.other),(40,.other),(41,.other),(42,.other),(43,.other),(45,.other),(46,.other),(47,.other),(48,.other),(49,.data t0),(50,.data t0),(51,.data t1),(52,.data t1),(53,.data (.arr 3 t0)),(54,.data (.slice (.int .u32))),(55,.data (.slice t1)),(56,.data (.slice (.int .i64))),(57,.data (.slice .bool)),(58,.data t2),(59,.data t2),(60,.data (.slice t3)),(61,.data t4),(62,.data t4),(63,.data t5),(64,.data t5),(65,.data t6),(66,.data t6),(67,.data t7),(68,.data t7),(70,.other),(71,.other),(72,.other),(73,.other),(74,.other),(75,.other),(76,.data t12),(77,.data t12),(78,.other),(79,.data (.slice t10)),(80,.data t11),(81,.data t11),(82,.data (.arr 2 (.int .i64))),(83,.data (.slice t9)),(84,.data t10),(85,.data t10),(86,.other),(87,.other),(88,.other),(89,.data t12),(90,.data t12),(91,.other),(92,.other),(93,.other),(94,.other),(95,.other),(96,.other),(97,.other),(99,.other),(100,.data t13),(101,.data t13),(102,.other),(103,.other),(105,.other),(106,.other),(107,.other),(108,.other),(109,.other),(110,.data (.int .u64)),(111,.other),(112,.other),(113,.other),(114,.other),(115,.other),(116,.other),(117,.other),(118,.other),(119,.other),(120,.other),(121,.other),(122,.other),(123,.other),(124,.other),(126,.other),(127,.other),(129,.other),(130,.other),(131,.other),(132,.other),(133,.other),(134,.other),(135,.data t9),(136,.data t9),(137,.other),(138,.other),(139,.other),(140,.other),(142,.other),(143,.other),(144,.other),(145,.other),(147,.other),(148,.other),(149,.other),(150,.other),(151,.other),(152,.other),(153,.other),(154,.other),(155,.other),(156,.other),(157,.other),(158,.other),(159,.other),(160,.other),(162,.other),(164,.other),(166,.other),(168,.other),(169,.other),(170,.other),(171,.other),(172,.other),(173,.other),(174,.other),(176,.other),(178,.other),(179,.other),(180,.other),(181,.other),(182,.other),(183,.other),(185,.other),(186,.other),(187,.other),(188,.other),(190,.other),(191,.other),(192,.other),(194,.other),(195,.other),(196,.other),(197,.other),(198,.other),(199,.other),(200,.other),(201,.other),(203,.other),(205,.other),(206,.other),(207,.other),(208,.other),(209,.other),(210,.other),(211,.other),(212,.other),(214,.other),(215,.other),(216,.other),(217,.other),(218,.other),(219,.data (.arr 4 (.int .i64))),(220,.other),(221,.other),(222,.other),(223,.data t3),(224,.data t3),(225,.other),(226,.other),(227,.other),(228,.other),(229,.other),(230,.other),(232,.other),(233,.other),(234,.other),(235,.other),(236,.other),(237,.other),(239,.other),(240,.other),(241,.other),(243,.other),(245,.other),(246,.other),(247,.other),(248,.other),(249,.other),(250,.other),(251,.other),(252,.other),(253,.other),(254,.other),(256,.other),(257,.other),(258,.other),(259,.other),(260,.other),(261,.other),(262,.other),(264,.other),(266,.other),(267,.other),(268,.other),(274,.other),(275,.data (.int .u8)),(276,.data (.int .u8)),(277,.other),(278,.other),(279,.data (.int .i32)),(280,.data (.int .i32))]
def eqs:List Nat:=[25,27,50,52,53,66,82,136,219,224]
def globs:List (Nat × PV):=[]
def prims:List (Nat × Prim):=[(48,.clone (.int .u32)),(139,.clone (.int .i64)),(144,.clone t1),(145,.clone .bool),(146,.clone t3)]
theorem primsOk:PrimsOk Tryz.prog prims:=.cons clone48<|.cons clone139<|.cons clone144<|.cons clone145<|.cons clone146<|.nil
theorem tabOk:tabB Tryz.prog tl=true:=by kernel_rfl
theorem eqOk:EqOk Tryz.prog ⟨tl,fun _=>none,[],eqs,[],[]⟩:=eqOk_of tabOk (by kernel_rfl)
theorem mixOk:Tryz.prog.follows .mixedOrders=true:=by kernel_rfl
def dq.sg:Sig:=⟨[.val (.int .i64)],[(t2,true),((.int .i64),true)]⟩
def dq.E:Env:=⟨tl,fun i=>look i [],[],eqs,globs,prims⟩
def dq.c:=cxOf dq.E dq.sg Tryz.f102
def dq.b:=body Tryz.f102
def dq.Fn:Fun:=fnOf dq.E dq.sg Tryz.f102
def dq.F (n:Int):Option (t2.den × Int × Unit):=dq.Fn.F (n,())
def dq.L1 (n:Int) (l1:List Int) (l2:List Bool):Option (t2.den × Int × Unit):=res dq.c (atJoin dq.b [1,0,1]) ⟨[(0,(.v (.int .i64) n)),(2,(.ptr 0 []))],[(0,some (.box (.agg [(.sl 1),(.sl 2),(.v (.int .i64) 0)]))),(1,some (.row (.int .i64) l1 false)),(2,some (.row .bool l2 false))],3,[]⟩
def dq.L2 (n t17_:Int) (l2:List Int) (l3:List Bool) (l4:List Int) (l5:List Bool):Option (t2.den × Int × Unit):=res dq.c (atLoop dq.b [1,1,1,0,1,0]) ⟨[(0,(.v (.int .i64) n)),(2,(.ptr 0 [])),(4,(.ptr 1 [])),(16,(.v (.int .i64) n)),(17,(.v (.int .i64) t17_))],[(0,some (.box (.agg [(.sl 2),(.sl 3),(.v (.int .i64) 0)]))),(1,some (.box (.agg [(.sl 4),(.sl 5),(.v (.int .i64) 0)]))),(2,some (.row (.int .i64) l2 false)),(3,some (.row .bool l3 false)),(4,some (.row (.int .i64) l4 false)),(5,some (.row .bool l5 false))],6,[]⟩
def dq.L3 (n t17_:Int) (l2:List Int) (l3:List Bool) (l4:List Int) (l5:List Bool):Option (t2.den × Int × Unit):=res dq.c (atJoin dq.b [1,1,1,0,1,0,0,1,0]) ⟨[(0,(.v (.int .i64) n)),(2,(.ptr 0 [])),(4,(.ptr 1 [])),(16,(.v (.int .i64) n)),(17,(.v (.int .i64) t17_))],[(0,some (.box (.agg [(.sl 2),(.sl 3),(.v (.int .i64) 0)]))),(1,some (.box (.agg [(.sl 4),(.sl 5),(.v (.int .i64) 0)]))),(2,some (.row (.int .i64) l2 false)),(3,some (.row .bool l3 false)),(4,some (.row (.int .i64) l4 false)),(5,some (.row .bool l5 false))],6,[]⟩
theorem dq.spec:FnSpec Tryz.prog globs 102 dq.Fn:=spec_of (E:=dq.E) (envOk_at tabOk eqOk primsOk (.nil)) mixOk Tryz.func102 (by kernel_rfl)
theorem dq.L1_eq (n l1 l2):dq.L1 n l1 l2=
 bif (decide ((0:Int)≤n∧(n:Int)≤n) && (lim (Int.toNat n) .bool)) then
  dq.L2 n 0 l1 l2 ([]:List Int) (List.replicate (Int.toNat n) false)
 else none:=res_eq (by kernel_rfl)
theorem dq.L2_eq (n t17_ l2 l3 l4 l5):dq.L2 n t17_ l2 l3 l4 l5=
 bif (decide ((t17_:Int)<n)) then
  dq.L3 n t17_ l2 l3 l4 l5
 else
  bif (decide ((0:Int)≤(IntKind.wrap .i64 (n - 1))∧((IntKind.wrap .i64 (n - 1)):Int)<((List.length l4:Int)))) then
   some (((List.set l4 (Int.toNat (IntKind.wrap .i64 (n - 1))) (-1)),l5,0,()),0,())
  else none:=res_eq (by kernel_rfl)
theorem dq.L3_eq (n t17_ l2 l3 l4 l5):dq.L3 n t17_ l2 l3 l4 l5=
 bif (lim ((List.length l4)+(List.length ([(IntKind.wrap .i64 (t17_+1))]:List Int))) (.int .i64)) then
  dq.L2 n (IntKind.wrap .i64 (t17_+1)) l2 l3 (l4++([(IntKind.wrap .i64 (t17_+1))]:List Int)) l5
 else none:=res_eq (by kernel_rfl)
theorem dq.F_eq (n):dq.F n=
 bif (decide ((n:Int)<1)) then
  some ((([]:List Int),([]:List Bool),0,()),2,())
 else
  bif (decide ((n:Int)>16)) then
   some ((([]:List Int),([]:List Bool),0,()),2,())
  else
   dq.L1 n ([]:List Int) ([]:List Bool):=by kernel_rfl
def gm.sg:Sig:=⟨[.val (.int .u32),.val (.int .u32)],[((.int .u32),true),((.int .u32),true)]⟩
def gm.E:Env:=⟨tl,fun i=>look i [],[],eqs,globs,prims⟩
def gm.Fn:Fun:=fnOf gm.E gm.sg Tryz.f184
theorem gm.spec:FnSpec Tryz.prog globs 184 gm.Fn:=spec_of (E:=gm.E) (envOk_at tabOk eqOk primsOk (.nil)) mixOk Tryz.func184 (by kernel_rfl)
def fi.sg:Sig:=⟨[.val (.int .u64),.val (.int .u64)],[((.int .u64),true),((.int .u64),true)]⟩
def fi.E:Env:=⟨tl,fun i=>look i [],[],eqs,globs,prims⟩
def fi.Fn:Fun:=fnOf fi.E fi.sg Tryz.f185
def fi.F (x y:Int):Option (Int × Int × Unit):=fi.Fn.F (x,y,())
theorem fi.spec:FnSpec Tryz.prog globs 185 fi.Fn:=spec_of (E:=fi.E) (envOk_at tabOk eqOk primsOk (.nil)) mixOk Tryz.func185 (by kernel_rfl)
theorem fi.F_eq (x y):fi.F x y=
 bif (decide ((0:Int)≤32)) then
  bif (decide ((0:Int)≤32)) then
   bif (decide ((0:Int)≤32)) then
    bif (decide ((0:Int)≤32)) then
     bif (decide ((0:Int)≤32)) then
      some ((IntKind.wrap .u64 ((IntKind.wrap .u64 ((IntKind.wrap .u64 ((Int.fdiv x (2 ^ min (Int.toNat 32) (IntKind.bits .u64)))*(Int.fdiv y (2 ^ min (Int.toNat 32) (IntKind.bits .u64)))))+(Int.fdiv (IntKind.wrap .u64 ((IntKind.wrap .u64 ((Int.fdiv x (2 ^ min (Int.toNat 32) (IntKind.bits .u64)))*(bits .and .u64 y 4294967295)))+(Int.fdiv (IntKind.wrap .u64 ((bits .and .u64 x 4294967295)*(bits .and .u64 y 4294967295))) (2 ^ min (Int.toNat 32) (IntKind.bits .u64))))) (2 ^ min (Int.toNat 32) (IntKind.bits .u64)))))+(Int.fdiv (IntKind.wrap .u64 ((bits .and .u64 (IntKind.wrap .u64 ((IntKind.wrap .u64 ((Int.fdiv x (2 ^ min (Int.toNat 32) (IntKind.bits .u64)))*(bits .and .u64 y 4294967295)))+(Int.fdiv (IntKind.wrap .u64 ((bits .and .u64 x 4294967295)*(bits .and .u64 y 4294967295))) (2 ^ min (Int.toNat 32) (IntKind.bits .u64))))) 4294967295)+(IntKind.wrap .u64 ((bits .and .u64 x 4294967295)*(Int.fdiv y (2 ^ min (Int.toNat 32) (IntKind.bits .u64))))))) (2 ^ min (Int.toNat 32) (IntKind.bits .u64))))),(IntKind.wrap .u64 (x*y)),())
     else none
    else none
   else none
  else none
 else none:=by kernel_rfl
def de.sg:Sig:=⟨[.val (.int .u64),.val (.int .u64)],[((.int .u64),true),((.int .u64),true)]⟩
def de.E:Env:=⟨tl,fun i=>look i [(184,gm.Fn),(185,fi.Fn)],[],eqs,globs,prims⟩
def de.c:=cxOf de.E de.sg Tryz.f174
def de.b:=body Tryz.f174
def de.Fn:Fun:=fnOf de.E de.sg Tryz.f174
def de.F (x y:Int):Option (Int × Int × Unit):=de.Fn.F (x,y,())
def de.L1 (x y:Int):Option (Int × Int × Unit):=res de.c (atJoin de.b [1,0]) ⟨[(0,(.v (.int .u64) x)),(1,(.v (.int .u64) y))],[],0,[]⟩
theorem de.spec:FnSpec Tryz.prog globs 174 de.Fn:=spec_of (E:=de.E) (envOk_at tabOk eqOk primsOk (.cons gm.spec<|.cons fi.spec<|.nil)) mixOk Tryz.func174 (by kernel_rfl)
theorem de.L1_eq (x y):de.L1 x y=
 (fi.F x y).bind fun r0=>
 some (r0.1,r0.2.1,()):=res_eq (by kernel_rfl)
theorem de.F_eq (x y):de.F x y=
 de.L1 x y:=by kernel_rfl
def au.sg:Sig:=⟨[.val (.slice (.int .i64)),.val (.int .i64)],[((.slice (.int .i64)),true)]⟩
def au.E:Env:=⟨tl,fun i=>look i [(174,de.Fn)],[],eqs,globs,prims⟩
def au.c:=cxOf au.E au.sg Tryz.f138
def au.b:=body Tryz.f138
def au.Fn:Fun:=fnOf au.E au.sg Tryz.f138
def au.F (x:List Int) (count:Int):Option ((List Int) × Unit):=au.Fn.F (x,count,())
def au.L1 (x:List Int) (count:Int):Option ((List Int) × Unit):=res au.c (atJoin au.b [1,0,1]) ⟨[(0,(.v (.slice (.int .i64)) x)),(1,(.v (.int .i64) count))],[],0,[]⟩
def au.L2 (x:List Int) (lo:Int):Option ((List Int) × Unit):=res au.c (atJoin au.b [1,1,1,0,1]) ⟨[(0,(.v (.slice (.int .i64)) x)),(6,(.v (.int .u64) lo))],[],0,[]⟩
def au.L3 (n:Int) (l0:List Int):Option ((List Int) × Unit):=res au.c (atLoop au.b [1,1,1,1,1,1,0,0]) ⟨[(7,(.sl 0)),(8,(.v (.int .i64) n))],[(0,some (.row (.int .i64) l0 false))],1,[]⟩
def au.L4 (n:Int) (l0:List Int):Option ((List Int) × Unit):=res au.c (atJoin au.b [1,1,1,1,1,1,0,0,0,0,1]) ⟨[(7,(.sl 0)),(8,(.v (.int .i64) n))],[(0,some (.row (.int .i64) l0 false))],1,[]⟩
theorem au.spec:FnSpec Tryz.prog globs 138 au.Fn:=spec_of (E:=au.E) (envOk_at tabOk eqOk primsOk (.cons de.spec<|.nil)) mixOk Tryz.func138 (by kernel_rfl)
theorem au.L1_eq (x count):au.L1 x count=
 (de.F (IntKind.wrap .u64 ((List.length x:Int))) (IntKind.wrap .u64 count)).bind fun r0=>
 bif (decide ((r0.1:Int)>0)) then
  none
 else
  bif (decide ((r0.2.1:Int)>9223372036854775807)) then
   none
  else
   au.L2 x r0.2.1:=res_eq (by kernel_rfl)
theorem au.L2_eq (x lo):au.L2 x lo=
 bif (decide ((0:Int)≤(IntKind.wrap .i64 lo)∧((IntKind.wrap .i64 lo):Int)≤(IntKind.wrap .i64 lo)) && (lim (Int.toNat (IntKind.wrap .i64 lo)) (.int .i64))) then
  au.L3 (((min (List.length x) (List.length (List.replicate (Int.toNat (IntKind.wrap .i64 lo)) (0:Int))):Nat):Int)) (splice (List.replicate (Int.toNat (IntKind.wrap .i64 lo)) (0:Int)) 0 (List.take (List.length (List.replicate (Int.toNat (IntKind.wrap .i64 lo)) (0:Int))) x))
 else none:=res_eq (by kernel_rfl)
theorem au.L3_eq (n l0):au.L3 n l0=
 bif (decide ((n:Int)<((List.length l0:Int)))) then
  au.L4 n l0
 else
  some (l0,()):=res_eq (by kernel_rfl)
theorem au.L4_eq (n l0):au.L4 n l0=
 bif (decide ((0:Int)≤n∧(n:Int)≤((List.length l0:Int))∧(((List.length l0:Int)):Int)≤((List.length l0:Int)))) then
  bif (decide ((0:Int)≤0∧(0:Int)≤n∧(n:Int)≤((List.length l0:Int)))) then
   au.L3 (IntKind.wrap .i64 (n+(((min (List.length (List.take ((Int.toNat n) - (Int.toNat 0)) (List.drop (Int.toNat 0) l0))) ((Int.toNat ((List.length l0:Int))) - (Int.toNat n)):Nat):Int)))) (splice l0 (Int.toNat n) (List.take ((Int.toNat ((List.length l0:Int))) - (Int.toNat n)) (List.take ((Int.toNat n) - (Int.toNat 0)) (List.drop (Int.toNat 0) l0))))
  else none
 else none:=res_eq (by kernel_rfl)
theorem au.F_eq (x count):au.F x count=
 bif (decide ((count:Int)<0)) then
  none
 else
  au.L1 x count:=by kernel_rfl
def fq.sg:Sig:=⟨[.val (.int .i64)],[(t4,true),((.int .i64),true)]⟩
def fq.E:Env:=⟨tl,fun i=>look i [(138,au.Fn)],[],eqs,globs,prims⟩
def fq.c:=cxOf fq.E fq.sg Tryz.f103
def fq.b:=body Tryz.f103
def fq.Fn:Fun:=fnOf fq.E fq.sg Tryz.f103
def fq.F (n:Int):Option (t4.den × Int × Unit):=fq.Fn.F (n,())
def fq.L1 (n:Int) (l1:List Int):Option (t4.den × Int × Unit):=res fq.c (atJoin fq.b [1,0,1]) ⟨[(0,(.v (.int .i64) n)),(2,(.ptr 0 []))],[(0,some (.box (.agg [(.sl 1),(.sl 2),(.v (.int .i64) 0),(.v (.int .i64) 0)]))),(1,some (.row (.int .i64) l1 false)),(2,some (.row (.int .i64) l1 false))],3,[]⟩
theorem fq.spec:FnSpec Tryz.prog globs 103 fq.Fn:=spec_of (E:=fq.E) (envOk_at tabOk eqOk primsOk (.cons au.spec<|.nil)) mixOk Tryz.func103 (by kernel_rfl)
theorem fq.L1_eq (n l1):fq.L1 n l1=
 (au.F ([(-1)]:List Int) n).bind fun r0=>
 bif (lim (List.length r0.1) (.int .i64)) then
  some ((r0.1,r0.1,(-1),(-1),()),0,())
 else none:=res_eq (by kernel_rfl)
theorem fq.F_eq (n):fq.F n=
 bif (decide ((n:Int)<1)) then
  some ((([]:List Int),([]:List Int),0,0,()),2,())
 else
  bif (decide ((n:Int)>16)) then
   some ((([]:List Int),([]:List Int),0,0,()),2,())
  else
   fq.L1 n ([]:List Int):=by kernel_rfl
def gc.sg:Sig:=⟨[],[((.slice t3),true)]⟩
def gc.E:Env:=⟨tl,fun i=>look i [],[],eqs,globs,prims⟩
def gc.Fn:Fun:=fnOf gc.E gc.sg Tryz.f104
def gc.F:Option ((List t3.den) × Unit):=gc.Fn.F ()
theorem gc.spec:FnSpec Tryz.prog globs 104 gc.Fn:=spec_of (E:=gc.E) (envOk_at tabOk eqOk primsOk (.nil)) mixOk Tryz.func104 (by kernel_rfl)
theorem gc.F_eq:gc.F=
 bif (decide ((0:Int)≤16∧(16:Int)≤16) && (lim (Int.toNat 16) t3)) then
  some ((List.replicate (Int.toNat 16) (0,0,false,())),())
 else none:=by kernel_rfl
def dj.sg:Sig:=⟨[.val (.int .i64)],[(t5,true),((.int .i64),true)]⟩
def dj.E:Env:=⟨tl,fun i=>look i [(102,dq.Fn),(103,fq.Fn),(104,gc.Fn)],[],eqs,globs,prims⟩
def dj.c:=cxOf dj.E dj.sg Tryz.f72
def dj.b:=body Tryz.f72
def dj.Fn:Fun:=fnOf dj.E dj.sg Tryz.f72
def dj.F (capacity:Int):Option (t5.den × Int × Unit):=dj.Fn.F (capacity,())
def dj.L1 (capacity:Int) (l1:List Int) (l2:List t1.den) (l3:List Int) (l4:List Bool) (l5:List t3.den):Option (t5.den × Int × Unit):=res dj.c (atJoin dj.b [1,0,1]) ⟨[(0,(.v (.int .i64) capacity)),(2,(.ptr 0 []))],[(0,some (.box (.agg [(.v (.int .i64) 0),(.sl 1),(.sl 2),(.agg [(.sl 3),(.sl 4),(.v (.int .i64) 0)]),(.sl 5),(.agg [(.sl 6),(.sl 7),(.v (.int .i64) 0),(.v (.int .i64) 0)])]))),(1,some (.row (.int .u32) l1 false)),(2,some (.row t1 l2 false)),(3,some (.row (.int .i64) l3 false)),(4,some (.row .bool l4 false)),(5,some (.row t3 l5 false)),(6,some (.row (.int .i64) l3 false)),(7,some (.row (.int .i64) l3 false))],8,[]⟩
theorem dj.spec:FnSpec Tryz.prog globs 72 dj.Fn:=spec_of (E:=dj.E) (envOk_at tabOk eqOk primsOk (.cons dq.spec<|.cons fq.spec<|.cons gc.spec<|.nil)) mixOk Tryz.func72 (by kernel_rfl)
theorem dj.L1_eq (capacity l1 l2 l3 l4 l5):dj.L1 capacity l1 l2 l3 l4 l5=
 (dq.F capacity).bind fun r0=>
 (fq.F capacity).bind fun r1=>
 bif (decide ((0:Int)≤capacity∧(capacity:Int)≤capacity) && (lim (Int.toNat capacity) (.int .u32))) then
  bif (decide ((0:Int)≤capacity∧(capacity:Int)≤capacity) && (lim (Int.toNat capacity) t1)) then
   gc.F.bind fun r2=>
   some ((capacity,(List.replicate (Int.toNat capacity) (0:Int)),(List.replicate (Int.toNat capacity) ((0,0,0,()),0,0,0,())),r0.1,r2.1,r1.1,()),0,())
  else none
 else none:=res_eq (by kernel_rfl)
theorem dj.F_eq (capacity):dj.F capacity=
 bif (decide ((capacity:Int)<1)) then
  some ((0,([]:List Int),([]:List t1.den),(([]:List Int),([]:List Bool),0,()),([]:List t3.den),(([]:List Int),([]:List Int),0,0,()),()),2,())
 else
  bif (decide ((capacity:Int)>8)) then
   some ((0,([]:List Int),([]:List t1.den),(([]:List Int),([]:List Bool),0,()),([]:List t3.den),(([]:List Int),([]:List Int),0,0,()),()),2,())
  else
   dj.L1 capacity ([]:List Int) ([]:List t1.den) ([]:List Int) ([]:List Bool) ([]:List t3.den):=by kernel_rfl
def cy.sg:Sig:=⟨[.val t0],[((.int .i64),true)]⟩
def cy.E:Env:=⟨tl,fun i=>look i [],[],eqs,globs,prims⟩
def cy.c:=cxOf cy.E cy.sg Tryz.f98
def cy.b:=body Tryz.f98
def cy.Fn:Fun:=fnOf cy.E cy.sg Tryz.f98
def cy.F (l:t0.den):Option (Int × Unit):=cy.Fn.F (l,())
def cy.L1:Option (Int × Unit):=res cy.c (atJoin cy.b [1,0,1]) ⟨[],[],0,[]⟩
theorem cy.spec:FnSpec Tryz.prog globs 98 cy.Fn:=spec_of (E:=cy.E) (envOk_at tabOk eqOk primsOk (.nil)) mixOk Tryz.func98 (by kernel_rfl)
theorem cy.L1_eq:cy.L1=
 some (0,()):=res_eq (by kernel_rfl)
theorem cy.F_eq (l):cy.F l=
 bif (decide ((l.1:Int)<1)) then
  some (8,())
 else
  bif (decide ((l.1:Int)>1000000000)) then
   some (8,())
  else
   bif (decide ((l.2.1:Int)<0)) then
    some (8,())
   else
    bif (decide ((l.2.1:Int)>1000000000)) then
     some (8,())
    else
     bif (decide ((l.2.2.1:Int)<1)) then
      some (8,())
     else
      bif (decide ((l.2.2.1:Int)>1000000000)) then
       some (8,())
      else
       cy.L1:=by kernel_rfl
def d9.sg:Sig:=⟨[.val t1],[((.int .i64),true)]⟩
def d9.E:Env:=⟨tl,fun i=>look i [(98,cy.Fn)],[],eqs,globs,prims⟩
def d9.c:=cxOf d9.E d9.sg Tryz.f99
def d9.b:=body Tryz.f99
def d9.Fn:Fun:=fnOf d9.E d9.sg Tryz.f99
def d9.F (b:t1.den):Option (Int × Unit):=d9.Fn.F (b,())
def d9.L1 (b0 b02:Int) (b03 b04:Int) (b05 b06:Int):Option (Int × Unit):=res d9.c (atJoin d9.b [1,0,1,1]) ⟨[(1,(.ptr 0 []))],[(0,some (.box (.agg [(.agg [(.v (.int .i64) b0),(.v (.int .i64) b02),(.v (.int .i64) b03)]),(.v (.int .i64) b04),(.v (.int .i64) b05),(.v (.int .u64) b06)])))],1,[]⟩
def d9.L2:Option (Int × Unit):=res d9.c (atJoin d9.b [1,1,1,0,1]) ⟨[],[],0,[]⟩
theorem d9.spec:FnSpec Tryz.prog globs 99 d9.Fn:=spec_of (E:=d9.E) (envOk_at tabOk eqOk primsOk (.cons cy.spec<|.nil)) mixOk Tryz.func99 (by kernel_rfl)
theorem d9.L1_eq (b0 b02 b03 b04 b05 b06):d9.L1 b0 b02 b03 b04 b05 b06=
 bif (decide ((b04:Int)<0)) then
  some (8,())
 else
  bif (decide (((IntKind.wrap .i64 (b0 - b04)):Int)<0)) then
   some (8,())
  else
   bif (decide ((b05:Int)<0)) then
    some (8,())
   else
    bif (decide ((b05:Int)≥b03)) then
     some (8,())
    else
     bif ((IntKind.wrap .i64 (b0 - b04))==0) then
      bif (decide ((b05:Int)>0)) then
       some (8,())
      else
       d9.L2
     else
      d9.L2:=res_eq (by kernel_rfl)
theorem d9.L2_eq:d9.L2=
 some (0,()):=res_eq (by kernel_rfl)
theorem d9.F_eq (b):d9.F b=
 (cy.F b.1).bind fun r0=>
 bif (r0.1 !=0) then
  some (r0.1,())
 else
  d9.L1 b.1.1 b.1.2.1 b.1.2.2.1 b.2.1 b.2.2.1 b.2.2.2.1:=by kernel_rfl
def bj.sg:Sig:=⟨[.val t4],[((.int .i64),true)]⟩
def bj.E:Env:=⟨tl,fun i=>look i [],[],eqs,globs,prims⟩
def bj.c:=cxOf bj.E bj.sg Tryz.f148
def bj.b:=body Tryz.f148
def bj.Fn:Fun:=fnOf bj.E bj.sg Tryz.f148
def bj.F (o:t4.den):Option (Int × Unit):=bj.Fn.F (o,())
def bj.L1 (n:Int) (b0 b02:List Int) (b03 b04:Int):Option (Int × Unit):=res bj.c (atJoin bj.b [1,1,0,1]) ⟨[(1,(.ptr 0 [])),(3,(.v (.int .i64) n))],[(0,some (.box (.agg [(.v (.slice (.int .i64)) b0),(.v (.slice (.int .i64)) b02),(.v (.int .i64) b03),(.v (.int .i64) b04)])))],1,[]⟩
def bj.L2 (n last i:Int) (b0 b02:List Int) (b03 b04:Int) (l1:List Bool):Option (Int × Unit):=res bj.c (atLoop bj.b [1,1,1,1,1,0,1,0]) ⟨[(1,(.ptr 0 [])),(3,(.v (.int .i64) n)),(4,(.sl 1)),(5,(.v (.int .i64) last)),(6,(.v (.int .i64) i))],[(0,some (.box (.agg [(.v (.slice (.int .i64)) b0),(.v (.slice (.int .i64)) b02),(.v (.int .i64) b03),(.v (.int .i64) b04)]))),(1,some (.row .bool l1 false))],2,[]⟩
def bj.L3 (n last i:Int) (b0 b02:List Int) (b03 b04:Int) (l1:List Bool):Option (Int × Unit):=res bj.c (atJoin bj.b [1,1,1,1,1,0,1,0,0,0,1]) ⟨[(1,(.ptr 0 [])),(3,(.v (.int .i64) n)),(4,(.sl 1)),(5,(.v (.int .i64) last)),(6,(.v (.int .i64) i))],[(0,some (.box (.agg [(.v (.slice (.int .i64)) b0),(.v (.slice (.int .i64)) b02),(.v (.int .i64) b03),(.v (.int .i64) b04)]))),(1,some (.row .bool l1 false))],2,[]⟩
def bj.L4 (last t63_ t64_:Int) (b0 b02:List Int) (b03 b04:Int) (l1:List Bool):Option (Int × Unit):=res bj.c (atLoop bj.b [1,1,1,1,1,1,0,1,0]) ⟨[(1,(.ptr 0 [])),(5,(.v (.int .i64) last)),(62,(.sl 1)),(63,(.v (.int .i64) t63_)),(64,(.v (.int .i64) t64_))],[(0,some (.box (.agg [(.v (.slice (.int .i64)) b0),(.v (.slice (.int .i64)) b02),(.v (.int .i64) b03),(.v (.int .i64) b04)]))),(1,some (.row .bool l1 false))],2,[]⟩
def bj.L5 (last t63_ t64_:Int) (b0 b02:List Int) (b03 b04:Int) (l1:List Bool):Option (Int × Unit):=res bj.c (atJoin bj.b [1,1,1,1,1,1,0,1,0,0,1,0]) ⟨[(1,(.ptr 0 [])),(5,(.v (.int .i64) last)),(62,(.sl 1)),(63,(.v (.int .i64) t63_)),(64,(.v (.int .i64) t64_))],[(0,some (.box (.agg [(.v (.slice (.int .i64)) b0),(.v (.slice (.int .i64)) b02),(.v (.int .i64) b03),(.v (.int .i64) b04)]))),(1,some (.row .bool l1 false))],2,[]⟩
def bj.L6:Option (Int × Unit):=res bj.c (atJoin bj.b [1,1,1,1,1,1,1,0,1]) ⟨[],[],0,[]⟩
def bj.L7 (last t63_ t64_:Int) (b0 b02:List Int) (b03 b04:Int) (l1:List Bool):Option (Int × Unit):=res bj.c (atJoin bj.b [1,1,1,1,1,1,0,1,0,0,1,1,0,0,1,1]) ⟨[(1,(.ptr 0 [])),(5,(.v (.int .i64) last)),(62,(.sl 1)),(63,(.v (.int .i64) t63_)),(64,(.v (.int .i64) t64_))],[(0,some (.box (.agg [(.v (.slice (.int .i64)) b0),(.v (.slice (.int .i64)) b02),(.v (.int .i64) b03),(.v (.int .i64) b04)]))),(1,some (.row .bool l1 false))],2,[]⟩
def bj.L8 (n i:Int) (b0 b02:List Int) (b03 b04:Int) (l1:List Bool):Option (Int × Unit):=res bj.c (atJoin bj.b [1,1,1,1,1,0,1,0,0,1,0,0,0,1]) ⟨[(1,(.ptr 0 [])),(3,(.v (.int .i64) n)),(4,(.sl 1)),(6,(.v (.int .i64) i))],[(0,some (.box (.agg [(.v (.slice (.int .i64)) b0),(.v (.slice (.int .i64)) b02),(.v (.int .i64) b03),(.v (.int .i64) b04)]))),(1,some (.row .bool l1 false))],2,[]⟩
theorem bj.spec:FnSpec Tryz.prog globs 148 bj.Fn:=spec_of (E:=bj.E) (envOk_at tabOk eqOk primsOk (.nil)) mixOk Tryz.func148 (by kernel_rfl)
theorem bj.L1_eq (n b0 b02 b03 b04):bj.L1 n b0 b02 b03 b04=
 bif (decide ((0:Int)≤n∧(n:Int)≤n) && (lim (Int.toNat n) .bool)) then
  bj.L2 n (-1) b03 b0 b02 b03 b04 (List.replicate (Int.toNat n) false)
 else none:=res_eq (by kernel_rfl)
theorem bj.L2_eq (n last i b0 b02 b03 b04 l1):bj.L2 n last i b0 b02 b03 b04 l1=
 bif (i !=(-1)) then
  bj.L3 n last i b0 b02 b03 b04 l1
 else
  bj.L4 last ((List.length l1:Int)) 0 b0 b02 b03 b04 l1:=res_eq (by kernel_rfl)
theorem bj.L3_eq (n last i b0 b02 b03 b04 l1):bj.L3 n last i b0 b02 b03 b04 l1=
 bif (decide ((i:Int)<0)) then
  some (8,())
 else
  bif (decide ((i:Int)≥n)) then
   some (8,())
  else
   bif (decide ((0:Int)≤i∧(i:Int)<((List.length l1:Int)))) then
    bif (List.getD l1 (Int.toNat i) false) then
     some (8,())
    else
     bif (decide ((0:Int)≤i∧(i:Int)<((List.length b0:Int)))) then
      bif ((List.getD b0 (Int.toNat i) 0) !=last) then
       some (8,())
      else
       bj.L8 n i b0 b02 b03 b04 l1
     else none
   else none:=res_eq (by kernel_rfl)
theorem bj.L4_eq (last t63_ t64_ b0 b02 b03 b04 l1):bj.L4 last t63_ t64_ b0 b02 b03 b04 l1=
 bif (decide ((t64_:Int)<t63_)) then
  bj.L5 last t63_ t64_ b0 b02 b03 b04 l1
 else
  bif (b04 !=last) then
   some (8,())
  else
   bj.L6:=res_eq (by kernel_rfl)
theorem bj.L5_eq (last t63_ t64_ b0 b02 b03 b04 l1):bj.L5 last t63_ t64_ b0 b02 b03 b04 l1=
 bif (decide ((0:Int)≤t64_∧(t64_:Int)<((List.length l1:Int)))) then
  bif (!(List.getD l1 (Int.toNat t64_) false)) then
   bif (decide ((0:Int)≤t64_∧(t64_:Int)<((List.length b0:Int)))) then
    bif ((List.getD b0 (Int.toNat t64_) 0) !=(-1)) then
     some (8,())
    else
     bif (decide ((0:Int)≤t64_∧(t64_:Int)<((List.length b02:Int)))) then
      bif ((List.getD b02 (Int.toNat t64_) 0) !=(-1)) then
       some (8,())
      else
       bj.L7 last t63_ t64_ b0 b02 b03 b04 l1
     else none
   else none
  else
   bj.L7 last t63_ t64_ b0 b02 b03 b04 l1
 else none:=res_eq (by kernel_rfl)
theorem bj.L6_eq:bj.L6=
 some (0,()):=res_eq (by kernel_rfl)
theorem bj.L7_eq (last t63_ t64_ b0 b02 b03 b04 l1):bj.L7 last t63_ t64_ b0 b02 b03 b04 l1=
 bj.L4 last t63_ (IntKind.wrap .i64 (t64_+1)) b0 b02 b03 b04 l1:=res_eq (by kernel_rfl)
theorem bj.L8_eq (n i b0 b02 b03 b04 l1):bj.L8 n i b0 b02 b03 b04 l1=
 bif (decide ((0:Int)≤i∧(i:Int)<((List.length l1:Int)))) then
  bif (decide ((0:Int)≤i∧(i:Int)<((List.length b02:Int)))) then
   bj.L2 n i (List.getD b02 (Int.toNat i) 0) b0 b02 b03 b04 (List.set l1 (Int.toNat i) true)
  else none
 else none:=res_eq (by kernel_rfl)
theorem bj.F_eq (o):bj.F o=
 bif (decide ((((List.length o.1:Int)):Int)<1)) then
  some (8,())
 else
  bif (decide ((((List.length o.1:Int)):Int)>16)) then
   some (8,())
  else
   bif (((List.length o.2.1:Int)) !=((List.length o.1:Int))) then
    some (8,())
   else
    bj.L1 ((List.length o.1:Int)) o.1 o.2.1 o.2.2.1 o.2.2.2.1:=by kernel_rfl
def ed.sg:Sig:=⟨[.val t4],[((.slice (.int .i64)),true),((.int .i64),true)]⟩
def ed.E:Env:=⟨tl,fun i=>look i [(148,bj.Fn)],[],eqs,globs,prims⟩
def ed.c:=cxOf ed.E ed.sg Tryz.f134
def ed.b:=body Tryz.f134
def ed.Fn:Fun:=fnOf ed.E ed.sg Tryz.f134
def ed.F (o:t4.den):Option ((List Int) × Int × Unit):=ed.Fn.F (o,())
def ed.L1 (b0 b02:List Int) (b03 b04:Int):Option ((List Int) × Int × Unit):=res ed.c (atJoin ed.b [1,0,1,1]) ⟨[(1,(.ptr 0 []))],[(0,some (.box (.agg [(.v (.slice (.int .i64)) b0),(.v (.slice (.int .i64)) b02),(.v (.int .i64) b03),(.v (.int .i64) b04)])))],1,[]⟩
def ed.L2 (i:Int) (b0 b02:List Int) (b03 b04:Int) (l1:List Int):Option ((List Int) × Int × Unit):=res ed.c (atLoop ed.b [1,1,1,0,1,0]) ⟨[(1,(.ptr 0 [])),(5,(.sl 1)),(6,(.v (.int .i64) i))],[(0,some (.box (.agg [(.v (.slice (.int .i64)) b0),(.v (.slice (.int .i64)) b02),(.v (.int .i64) b03),(.v (.int .i64) b04)]))),(1,some (.row (.int .i64) l1 false))],2,[]⟩
def ed.L3 (i:Int) (b0 b02:List Int) (b03 b04:Int) (l1:List Int):Option ((List Int) × Int × Unit):=res ed.c (atJoin ed.b [1,1,1,0,1,0,0,0,1]) ⟨[(1,(.ptr 0 [])),(5,(.sl 1)),(6,(.v (.int .i64) i))],[(0,some (.box (.agg [(.v (.slice (.int .i64)) b0),(.v (.slice (.int .i64)) b02),(.v (.int .i64) b03),(.v (.int .i64) b04)]))),(1,some (.row (.int .i64) l1 false))],2,[]⟩
theorem ed.spec:FnSpec Tryz.prog globs 134 ed.Fn:=spec_of (E:=ed.E) (envOk_at tabOk eqOk primsOk (.cons bj.spec<|.nil)) mixOk Tryz.func134 (by kernel_rfl)
theorem ed.L1_eq (b0 b02 b03 b04):ed.L1 b0 b02 b03 b04=
 ed.L2 b03 b0 b02 b03 b04 ([]:List Int):=res_eq (by kernel_rfl)
theorem ed.L2_eq (i b0 b02 b03 b04 l1):ed.L2 i b0 b02 b03 b04 l1=
 bif (i !=(-1)) then
  ed.L3 i b0 b02 b03 b04 l1
 else
  some (l1,0,()):=res_eq (by kernel_rfl)
theorem ed.L3_eq (i b0 b02 b03 b04 l1):ed.L3 i b0 b02 b03 b04 l1=
 bif (lim ((List.length l1)+(List.length ([i]:List Int))) (.int .i64)) then
  bif (decide ((0:Int)≤i∧(i:Int)<((List.length b02:Int)))) then
   ed.L2 (List.getD b02 (Int.toNat i) 0) b0 b02 b03 b04 (l1++([i]:List Int))
  else none
 else none:=res_eq (by kernel_rfl)
theorem ed.F_eq (o):ed.F o=
 (bj.F o).bind fun r0=>
 bif (r0.1 !=0) then
  some (([]:List Int),r0.1,())
 else
  ed.L1 o.1 o.2.1 o.2.2.1 o.2.2.2.1:=by kernel_rfl
def az.sg:Sig:=⟨[.val t2],[((.int .i64),true)]⟩
def az.E:Env:=⟨tl,fun i=>look i [],[],eqs,globs,prims⟩
def az.c:=cxOf az.E az.sg Tryz.f140
def az.b:=body Tryz.f140
def az.Fn:Fun:=fnOf az.E az.sg Tryz.f140
def az.F (a:t2.den):Option (Int × Unit):=az.Fn.F (a,())
def az.L1 (n:Int) (b0:List Int) (b02:List Bool) (b03:Int):Option (Int × Unit):=res az.c (atJoin az.b [1,1,0,1]) ⟨[(1,(.ptr 0 [])),(3,(.v (.int .i64) n))],[(0,some (.box (.agg [(.v (.slice (.int .i64)) b0),(.v (.slice .bool) b02),(.v (.int .i64) b03)])))],1,[]⟩
def az.L2 (n i:Int) (b0:List Int) (b02:List Bool) (b03:Int) (l1:List Bool):Option (Int × Unit):=res az.c (atLoop az.b [1,1,1,1,0,1,0]) ⟨[(1,(.ptr 0 [])),(3,(.v (.int .i64) n)),(4,(.sl 1)),(5,(.v (.int .i64) i))],[(0,some (.box (.agg [(.v (.slice (.int .i64)) b0),(.v (.slice .bool) b02),(.v (.int .i64) b03)]))),(1,some (.row .bool l1 false))],2,[]⟩
def az.L3 (n i:Int) (b0:List Int) (b02:List Bool) (b03:Int) (l1:List Bool):Option (Int × Unit):=res az.c (atJoin az.b [1,1,1,1,0,1,0,0,0,1]) ⟨[(1,(.ptr 0 [])),(3,(.v (.int .i64) n)),(4,(.sl 1)),(5,(.v (.int .i64) i))],[(0,some (.box (.agg [(.v (.slice (.int .i64)) b0),(.v (.slice .bool) b02),(.v (.int .i64) b03)]))),(1,some (.row .bool l1 false))],2,[]⟩
def az.L4 (t53_:List Bool) (t54_ t55_:Int) (b0:List Int) (b02:Int) (l1:List Bool):Option (Int × Unit):=res az.c (atLoop az.b [1,1,1,1,1,0,1,0]) ⟨[(1,(.ptr 0 [])),(4,(.sl 1)),(53,(.v (.slice .bool) t53_)),(54,(.v (.int .i64) t54_)),(55,(.v (.int .i64) t55_))],[(0,some (.box (.agg [(.v (.slice (.int .i64)) b0),(.v (.slice .bool) t53_),(.v (.int .i64) b02)]))),(1,some (.row .bool l1 false))],2,[]⟩
def az.L5 (t53_:List Bool) (t54_ t55_:Int) (b0:List Int) (b02:Int) (l1:List Bool):Option (Int × Unit):=res az.c (atJoin az.b [1,1,1,1,1,0,1,0,0,1,0]) ⟨[(1,(.ptr 0 [])),(4,(.sl 1)),(53,(.v (.slice .bool) t53_)),(54,(.v (.int .i64) t54_)),(55,(.v (.int .i64) t55_))],[(0,some (.box (.agg [(.v (.slice (.int .i64)) b0),(.v (.slice .bool) t53_),(.v (.int .i64) b02)]))),(1,some (.row .bool l1 false))],2,[]⟩
def az.L6 (t53_:List Bool) (t54_ t55_:Int) (b0:List Int) (b02:Int) (l1:List Bool):Option (Int × Unit):=res az.c (atJoin az.b [1,1,1,1,1,0,1,0,0,1,1,0,0,1,1]) ⟨[(1,(.ptr 0 [])),(4,(.sl 1)),(53,(.v (.slice .bool) t53_)),(54,(.v (.int .i64) t54_)),(55,(.v (.int .i64) t55_))],[(0,some (.box (.agg [(.v (.slice (.int .i64)) b0),(.v (.slice .bool) t53_),(.v (.int .i64) b02)]))),(1,some (.row .bool l1 false))],2,[]⟩
def az.L7 (n i:Int) (b0:List Int) (b02:List Bool) (b03:Int) (l1:List Bool):Option (Int × Unit):=res az.c (atJoin az.b [1,1,1,1,0,1,0,0,1,0,0,0,1]) ⟨[(1,(.ptr 0 [])),(3,(.v (.int .i64) n)),(4,(.sl 1)),(5,(.v (.int .i64) i))],[(0,some (.box (.agg [(.v (.slice (.int .i64)) b0),(.v (.slice .bool) b02),(.v (.int .i64) b03)]))),(1,some (.row .bool l1 false))],2,[]⟩
theorem az.spec:FnSpec Tryz.prog globs 140 az.Fn:=spec_of (E:=az.E) (envOk_at tabOk eqOk primsOk (.nil)) mixOk Tryz.func140 (by kernel_rfl)
theorem az.L1_eq (n b0 b02 b03):az.L1 n b0 b02 b03=
 bif (lim (List.length b02) .bool) then
  az.L2 n b03 b0 b02 b03 b02
 else none:=res_eq (by kernel_rfl)
theorem az.L2_eq (n i b0 b02 b03 l1):az.L2 n i b0 b02 b03 l1=
 bif (i !=(-1)) then
  az.L3 n i b0 b02 b03 l1
 else
  az.L4 b02 ((List.length b02:Int)) 0 b0 b03 l1:=res_eq (by kernel_rfl)
theorem az.L3_eq (n i b0 b02 b03 l1):az.L3 n i b0 b02 b03 l1=
 bif (decide ((i:Int)<0)) then
  some (8,())
 else
  bif (decide ((i:Int)≥n)) then
   some (8,())
  else
   bif (decide ((0:Int)≤i∧(i:Int)<((List.length l1:Int)))) then
    bif (List.getD l1 (Int.toNat i) false) then
     some (8,())
    else
     az.L7 n i b0 b02 b03 l1
   else none:=res_eq (by kernel_rfl)
theorem az.L4_eq (t53_ t54_ t55_ b0 b02 l1):az.L4 t53_ t54_ t55_ b0 b02 l1=
 bif (decide ((t55_:Int)<t54_)) then
  az.L5 t53_ t54_ t55_ b0 b02 l1
 else
  some (0,()):=res_eq (by kernel_rfl)
theorem az.L5_eq (t53_ t54_ t55_ b0 b02 l1):az.L5 t53_ t54_ t55_ b0 b02 l1=
 bif (decide ((0:Int)≤t55_∧(t55_:Int)<((List.length t53_:Int)))) then
  bif (decide ((0:Int)≤t55_∧(t55_:Int)<((List.length l1:Int)))) then
   bif (!(List.getD l1 (Int.toNat t55_) false)) then
    some (8,())
   else
    bif (List.getD t53_ (Int.toNat t55_) false) then
     bif (decide ((0:Int)≤t55_∧(t55_:Int)<((List.length b0:Int)))) then
      bif ((List.getD b0 (Int.toNat t55_) 0) !=(-1)) then
       some (8,())
      else
       az.L6 t53_ t54_ t55_ b0 b02 l1
     else none
    else
     az.L6 t53_ t54_ t55_ b0 b02 l1
  else none
 else none:=res_eq (by kernel_rfl)
theorem az.L6_eq (t53_ t54_ t55_ b0 b02 l1):az.L6 t53_ t54_ t55_ b0 b02 l1=
 az.L4 t53_ t54_ (IntKind.wrap .i64 (t55_+1)) b0 b02 l1:=res_eq (by kernel_rfl)
theorem az.L7_eq (n i b0 b02 b03 l1):az.L7 n i b0 b02 b03 l1=
 bif (decide ((0:Int)≤i∧(i:Int)<((List.length l1:Int)))) then
  bif (decide ((0:Int)≤i∧(i:Int)<((List.length b0:Int)))) then
   az.L2 n (List.getD b0 (Int.toNat i) 0) b0 b02 b03 (List.set l1 (Int.toNat i) true)
  else none
 else none:=res_eq (by kernel_rfl)
theorem az.F_eq (a):az.F a=
 bif (decide ((((List.length a.1:Int)):Int)<1)) then
  some (8,())
 else
  bif (decide ((((List.length a.1:Int)):Int)>16)) then
   some (8,())
  else
   bif (((List.length a.2.1:Int)) !=((List.length a.1:Int))) then
    some (8,())
   else
    az.L1 ((List.length a.1:Int)) a.1 a.2.1 a.2.2.1:=by kernel_rfl
def fr.sg:Sig:=⟨[.val (.int .i64)],[((.int .i64),true)]⟩
def fr.E:Env:=⟨tl,fun i=>look i [],[],eqs,globs,prims⟩
def fr.Fn:Fun:=fnOf fr.E fr.sg Tryz.f176
def fr.F (i:Int):Option (Int × Unit):=fr.Fn.F (i,())
theorem fr.spec:FnSpec Tryz.prog globs 176 fr.Fn:=spec_of (E:=fr.E) (envOk_at tabOk eqOk primsOk (.nil)) mixOk Tryz.func176 (by kernel_rfl)
theorem fr.F_eq (i):fr.F i=
 some ((bits .and .i64 i 15),()):=by kernel_rfl
def ft.sg:Sig:=⟨[.val (.int .u32)],[((.int .i64),true)]⟩
def ft.E:Env:=⟨tl,fun i=>look i [],[],eqs,globs,prims⟩
def ft.Fn:Fun:=fnOf ft.E ft.sg Tryz.f177
def ft.F (key:Int):Option (Int × Unit):=ft.Fn.F (key,())
theorem ft.spec:FnSpec Tryz.prog globs 177 ft.Fn:=spec_of (E:=ft.E) (envOk_at tabOk eqOk primsOk (.nil)) mixOk Tryz.func177 (by kernel_rfl)
theorem ft.F_eq (key):ft.F key=
 bif (decide ((0:Int)≤28)) then
  some ((IntKind.wrap .i64 (Int.fdiv (IntKind.wrap .u32 (key*2654435769)) (2 ^ min (Int.toNat 28) (IntKind.bits .u32)))),())
 else none:=by kernel_rfl
def di.sg:Sig:=⟨[.val (.slice t3),.val (.int .u32)],[((.int .i64),true),((.int .i64),true)]⟩
def di.E:Env:=⟨tl,fun i=>look i [(176,fr.Fn),(177,ft.Fn)],[],eqs,globs,prims⟩
def di.c:=cxOf di.E di.sg Tryz.f152
def di.b:=body Tryz.f152
def di.Fn:Fun:=fnOf di.E di.sg Tryz.f152
def di.F (x:List t3.den) (key:Int):Option (Int × Int × Unit):=di.Fn.F (x,key,())
def di.L1 (x:List t3.den) (key i steps:Int):Option (Int × Int × Unit):=res di.c (atLoop di.b [1,0,1,0]) ⟨[(0,(.v (.slice t3) x)),(1,(.v (.int .u32) key)),(4,(.v (.int .i64) i)),(5,(.v (.int .i64) steps))],[],0,[]⟩
def di.L2 (x:List t3.den) (key i steps:Int):Option (Int × Int × Unit):=res di.c (atJoin di.b [1,0,1,0,0,0,1]) ⟨[(0,(.v (.slice t3) x)),(1,(.v (.int .u32) key)),(4,(.v (.int .i64) i)),(5,(.v (.int .i64) steps))],[],0,[]⟩
theorem di.spec:FnSpec Tryz.prog globs 152 di.Fn:=spec_of (E:=di.E) (envOk_at tabOk eqOk primsOk (.cons fr.spec<|.cons ft.spec<|.nil)) mixOk Tryz.func152 (by kernel_rfl)
theorem di.L1_eq (x key i steps):di.L1 x key i steps=
 bif (decide ((0:Int)≤i∧(i:Int)<((List.length x:Int)))) then
  bif (((List.getD x (Int.toNat i) (0,0,false,())).2).2).1 then
   bif (decide ((0:Int)≤i∧(i:Int)<((List.length x:Int)))) then
    bif ((List.getD x (Int.toNat i) (0,0,false,())).1 !=key) then
     di.L2 x key i steps
    else
     some (i,(IntKind.wrap .i64 (steps+1)),())
   else none
  else
   some (i,(IntKind.wrap .i64 (steps+1)),())
 else none:=res_eq (by kernel_rfl)
theorem di.L2_eq (x key i steps):di.L2 x key i steps=
 (fr.F (IntKind.wrap .i64 (i+1))).bind fun r0=>
 di.L1 x key r0.1 (IntKind.wrap .i64 (steps+1)):=res_eq (by kernel_rfl)
theorem di.F_eq (x key):di.F x key=
 (ft.F key).bind fun r0=>
 di.L1 x key r0.1 0:=by kernel_rfl
def am.sg:Sig:=⟨[.val (.slice t3)],[((.int .i64),true)]⟩
def am.E:Env:=⟨tl,fun i=>look i [(152,di.Fn)],[],eqs,globs,prims⟩
def am.c:=cxOf am.E am.sg Tryz.f141
def am.b:=body Tryz.f141
def am.Fn:Fun:=fnOf am.E am.sg Tryz.f141
def am.F (x:List t3.den):Option (Int × Unit):=am.Fn.F (x,())
def am.L1 (x:List t3.den):Option (Int × Unit):=res am.c (atJoin am.b [1,0,1]) ⟨[(0,(.v (.slice t3) x))],[],0,[]⟩
def am.L2 (x:List t3.den) (n t14_ t15_:Int):Option (Int × Unit):=res am.c (atLoop am.b [1,1,1,0,1,0]) ⟨[(0,(.v (.slice t3) x)),(3,(.v (.int .i64) n)),(13,(.v (.slice t3) x)),(14,(.v (.int .i64) t14_)),(15,(.v (.int .i64) t15_))],[],0,[]⟩
def am.L3 (x:List t3.den) (n t14_ t15_:Int):Option (Int × Unit):=res am.c (atJoin am.b [1,1,1,0,1,0,0,1,0]) ⟨[(0,(.v (.slice t3) x)),(3,(.v (.int .i64) n)),(13,(.v (.slice t3) x)),(14,(.v (.int .i64) t14_)),(15,(.v (.int .i64) t15_))],[],0,[]⟩
def am.L4 (x:List t3.den):Option (Int × Unit):=res am.c (atJoin am.b [1,1,1,1,0,1]) ⟨[(0,(.v (.slice t3) x))],[],0,[]⟩
def am.L5 (x:List t3.den) (t26_:Int):Option (Int × Unit):=res am.c (atLoop am.b [1,1,1,1,1,0,1,0]) ⟨[(0,(.v (.slice t3) x)),(26,(.v (.int .i64) t26_))],[],0,[]⟩
def am.L6 (x:List t3.den) (t26_:Int):Option (Int × Unit):=res am.c (atJoin am.b [1,1,1,1,1,0,1,0,0,1,0]) ⟨[(0,(.v (.slice t3) x)),(26,(.v (.int .i64) t26_))],[],0,[]⟩
def am.L7 (x:List t3.den) (i b0 b02:Int) (b03:Bool):Option (Int × Unit):=res am.c (atJoin am.b [1,1,1,1,1,0,1,0,0,1,1,0,0,1,1,0,1]) ⟨[(0,(.v (.slice t3) x)),(6,(.v (.int .i64) i)),(7,(.ptr 0 [])),(26,(.v (.int .i64) i))],[(0,some (.box (.agg [(.v (.int .u32) b0),(.v (.int .i64) b02),(.v .bool b03)])))],1,[]⟩
def am.L8 (x:List t3.den) (t26_:Int):Option (Int × Unit):=res am.c (atJoin am.b [1,1,1,1,1,0,1,0,0,1,1,0,0,1,1,1,1,1]) ⟨[(0,(.v (.slice t3) x)),(26,(.v (.int .i64) t26_))],[],0,[]⟩
def am.L9 (x:List t3.den) (n t14_ t15_:Int):Option (Int × Unit):=res am.c (atJoin am.b [1,1,1,0,1,0,0,1,1,0,0,1,1]) ⟨[(0,(.v (.slice t3) x)),(3,(.v (.int .i64) n)),(13,(.v (.slice t3) x)),(14,(.v (.int .i64) t14_)),(15,(.v (.int .i64) t15_))],[],0,[]⟩
theorem am.spec:FnSpec Tryz.prog globs 141 am.Fn:=spec_of (E:=am.E) (envOk_at tabOk eqOk primsOk (.cons di.spec<|.nil)) mixOk Tryz.func141 (by kernel_rfl)
theorem am.L1_eq (x):am.L1 x=
 am.L2 x 0 ((List.length x:Int)) 0:=res_eq (by kernel_rfl)
theorem am.L2_eq (x n t14_ t15_):am.L2 x n t14_ t15_=
 bif (decide ((t15_:Int)<t14_)) then
  am.L3 x n t14_ t15_
 else
  bif (decide ((n:Int)>12)) then
   some (8,())
  else
   am.L4 x:=res_eq (by kernel_rfl)
theorem am.L3_eq (x n t14_ t15_):am.L3 x n t14_ t15_=
 bif (decide ((0:Int)≤t15_∧(t15_:Int)<((List.length x:Int)))) then
  bif (((List.getD x (Int.toNat t15_) (0,0,false,())).2).2).1 then
   am.L9 x (IntKind.wrap .i64 (n+1)) t14_ t15_
  else
   am.L9 x n t14_ t15_
 else none:=res_eq (by kernel_rfl)
theorem am.L4_eq (x):am.L4 x=
 am.L5 x 0:=res_eq (by kernel_rfl)
theorem am.L5_eq (x t26_):am.L5 x t26_=
 bif (decide ((t26_:Int)<16)) then
  am.L6 x t26_
 else
  some (0,()):=res_eq (by kernel_rfl)
theorem am.L6_eq (x t26_):am.L6 x t26_=
 bif (decide ((0:Int)≤t26_∧(t26_:Int)<((List.length x:Int)))) then
  bif (!((((List.getD x (Int.toNat t26_) (0,0,false,())).2).2).1)) then
   bif (!(Ty.beq t3 (List.getD x (Int.toNat t26_) (0,0,false,())) (0,0,false,()))) then
    some (8,())
   else
    bif (((List.getD x (Int.toNat t26_) (0,0,false,())).2).2).1 then
     bif (decide (((((List.getD x (Int.toNat t26_) (0,0,false,())).2).1):Int)<0)) then
      some (8,())
     else
      bif (decide (((((List.getD x (Int.toNat t26_) (0,0,false,())).2).1):Int)≥16)) then
       some (8,())
      else
       am.L7 x t26_ ((List.getD x (Int.toNat t26_) (0,0,false,())).1) (((List.getD x (Int.toNat t26_) (0,0,false,())).2).1) ((((List.getD x (Int.toNat t26_) (0,0,false,())).2).2).1)
    else
     am.L7 x t26_ ((List.getD x (Int.toNat t26_) (0,0,false,())).1) (((List.getD x (Int.toNat t26_) (0,0,false,())).2).1) ((((List.getD x (Int.toNat t26_) (0,0,false,())).2).2).1)
  else
   bif (((List.getD x (Int.toNat t26_) (0,0,false,())).2).2).1 then
    bif (decide (((((List.getD x (Int.toNat t26_) (0,0,false,())).2).1):Int)<0)) then
     some (8,())
    else
     bif (decide (((((List.getD x (Int.toNat t26_) (0,0,false,())).2).1):Int)≥16)) then
      some (8,())
     else
      am.L7 x t26_ ((List.getD x (Int.toNat t26_) (0,0,false,())).1) (((List.getD x (Int.toNat t26_) (0,0,false,())).2).1) ((((List.getD x (Int.toNat t26_) (0,0,false,())).2).2).1)
   else
    am.L7 x t26_ ((List.getD x (Int.toNat t26_) (0,0,false,())).1) (((List.getD x (Int.toNat t26_) (0,0,false,())).2).1) ((((List.getD x (Int.toNat t26_) (0,0,false,())).2).2).1)
 else none:=res_eq (by kernel_rfl)
theorem am.L7_eq (x i b0 b02 b03):am.L7 x i b0 b02 b03=
 (di.F x b0).bind fun r0=>
 bif b03 then
  bif (r0.1 !=i) then
   some (8,())
  else
   am.L8 x i
 else
  am.L8 x i:=res_eq (by kernel_rfl)
theorem am.L8_eq (x t26_):am.L8 x t26_=
 am.L5 x (IntKind.wrap .i64 (t26_+1)):=res_eq (by kernel_rfl)
theorem am.L9_eq (x n t14_ t15_):am.L9 x n t14_ t15_=
 am.L2 x n t14_ (IntKind.wrap .i64 (t15_+1)):=res_eq (by kernel_rfl)
theorem am.F_eq (x):am.F x=
 bif (((List.length x:Int)) !=16) then
  some (8,())
 else
  am.L1 x:=by kernel_rfl
def db.sg:Sig:=⟨[.val (.slice (.int .i64)),.val (.int .i64)],[((.int .i64),true)]⟩
def db.E:Env:=⟨tl,fun i=>look i [],[],eqs,globs,prims⟩
def db.c:=cxOf db.E db.sg Tryz.f175
def db.b:=body Tryz.f175
def db.Fn:Fun:=fnOf db.E db.sg Tryz.f175
def db.F (s:List Int) (v:Int):Option (Int × Unit):=db.Fn.F (s,v,())
def db.L1 (s:List Int) (v t7_ t8_:Int):Option (Int × Unit):=res db.c (atLoop db.b [1,0,1,0]) ⟨[(0,(.v (.slice (.int .i64)) s)),(1,(.v (.int .i64) v)),(7,(.v (.int .i64) t7_)),(8,(.v (.int .i64) t8_))],[],0,[]⟩
def db.L2 (s:List Int) (v t7_ t8_:Int):Option (Int × Unit):=res db.c (atJoin db.b [1,0,1,0,0,1,0]) ⟨[(0,(.v (.slice (.int .i64)) s)),(1,(.v (.int .i64) v)),(7,(.v (.int .i64) t7_)),(8,(.v (.int .i64) t8_))],[],0,[]⟩
def db.L3 (s:List Int) (v t7_ t8_:Int):Option (Int × Unit):=res db.c (atJoin db.b [1,0,1,0,0,1,1,0,0,1,1]) ⟨[(0,(.v (.slice (.int .i64)) s)),(1,(.v (.int .i64) v)),(7,(.v (.int .i64) t7_)),(8,(.v (.int .i64) t8_))],[],0,[]⟩
theorem db.spec:FnSpec Tryz.prog globs 175 db.Fn:=spec_of (E:=db.E) (envOk_at tabOk eqOk primsOk (.nil)) mixOk Tryz.func175 (by kernel_rfl)
theorem db.L1_eq (s v t7_ t8_):db.L1 s v t7_ t8_=
 bif (decide ((t8_:Int)<t7_)) then
  db.L2 s v t7_ t8_
 else
  some ((-1),()):=res_eq (by kernel_rfl)
theorem db.L2_eq (s v t7_ t8_):db.L2 s v t7_ t8_=
 bif (decide ((0:Int)≤t8_∧(t8_:Int)<((List.length s:Int)))) then
  bif (v==(List.getD s (Int.toNat t8_) 0)) then
   some (t8_,())
  else
   db.L3 s v t7_ t8_
 else none:=res_eq (by kernel_rfl)
theorem db.L3_eq (s v t7_ t8_):db.L3 s v t7_ t8_=
 db.L1 s v t7_ (IntKind.wrap .i64 (t8_+1)):=res_eq (by kernel_rfl)
theorem db.F_eq (s v):db.F s v=
 db.L1 s v ((List.length s:Int)) 0:=by kernel_rfl
def fh.sg:Sig:=⟨[.val (.slice (.int .i64)),.val (.int .i64)],[(.bool,true)]⟩
def fh.E:Env:=⟨tl,fun i=>look i [(175,db.Fn)],[],eqs,globs,prims⟩
def fh.Fn:Fun:=fnOf fh.E fh.sg Tryz.f142
def fh.F (s:List Int) (v:Int):Option (Bool × Unit):=fh.Fn.F (s,v,())
theorem fh.spec:FnSpec Tryz.prog globs 142 fh.Fn:=spec_of (E:=fh.E) (envOk_at tabOk eqOk primsOk (.cons db.spec<|.nil)) mixOk Tryz.func142 (by kernel_rfl)
theorem fh.F_eq (s v):fh.F s v=
 (db.F s v).bind fun r0=>
 some ((decide ((r0.1:Int)≥0)),()):=by kernel_rfl
def dx.sg:Sig:=⟨[.val (.slice t3),.val (.int .u32)],[((.int .i64),true),((.int .i64),true)]⟩
def dx.E:Env:=⟨tl,fun i=>look i [(141,am.Fn),(152,di.Fn)],[],eqs,globs,prims⟩
def dx.c:=cxOf dx.E dx.sg Tryz.f143
def dx.b:=body Tryz.f143
def dx.Fn:Fun:=fnOf dx.E dx.sg Tryz.f143
def dx.F (x:List t3.den) (key:Int):Option (Int × Int × Unit):=dx.Fn.F (x,key,())
def dx.L1 (x:List t3.den) (key:Int):Option (Int × Int × Unit):=res dx.c (atJoin dx.b [1,0,1,1]) ⟨[(0,(.v (.slice t3) x)),(1,(.v (.int .u32) key))],[],0,[]⟩
def dx.L2 (x:List t3.den) (i:Int):Option (Int × Int × Unit):=res dx.c (atJoin dx.b [1,1,1,0,1]) ⟨[(0,(.v (.slice t3) x)),(7,(.v (.int .i64) i))],[],0,[]⟩
theorem dx.spec:FnSpec Tryz.prog globs 143 dx.Fn:=spec_of (E:=dx.E) (envOk_at tabOk eqOk primsOk (.cons am.spec<|.cons di.spec<|.nil)) mixOk Tryz.func143 (by kernel_rfl)
theorem dx.L1_eq (x key):dx.L1 x key=
 (di.F x key).bind fun r0=>
 bif (decide ((0:Int)≤r0.1∧(r0.1:Int)<((List.length x:Int)))) then
  bif (!((((List.getD x (Int.toNat r0.1) (0,0,false,())).2).2).1)) then
   some (0,6,())
  else
   dx.L2 x r0.1
 else none:=res_eq (by kernel_rfl)
theorem dx.L2_eq (x i):dx.L2 x i=
 bif (decide ((0:Int)≤i∧(i:Int)<((List.length x:Int)))) then
  some (((List.getD x (Int.toNat i) (0,0,false,())).2).1,0,())
 else none:=res_eq (by kernel_rfl)
theorem dx.F_eq (x key):dx.F x key=
 (am.F x).bind fun r0=>
 bif (r0.1 !=0) then
  some (0,r0.1,())
 else
  dx.L1 x key:=by kernel_rfl
def aj.sg:Sig:=⟨[.val t5],[((.int .i64),true)]⟩
def aj.E:Env:=⟨tl,fun i=>look i [(99,d9.Fn),(134,ed.Fn),(140,az.Fn),(141,am.Fn),(142,fh.Fn),(143,dx.Fn)],[],eqs,globs,prims⟩
def aj.c:=cxOf aj.E aj.sg Tryz.f106
def aj.b:=body Tryz.f106
def aj.Fn:Fun:=fnOf aj.E aj.sg Tryz.f106
def aj.F (t:t5.den):Option (Int × Unit):=aj.Fn.F (t,())
def aj.L1 (b0:Int) (b02:List Int) (b03:List t1.den) (b04:List Int) (b05:List Bool) (b06:Int) (b07:List t3.den) (b08 b09:List Int) (b010 b011:Int):Option (Int × Unit):=res aj.c (atJoin aj.b [1,1,1,0,1]) ⟨[(1,(.ptr 0 []))],[(0,some (.box (.agg [(.v (.int .i64) b0),(.v (.slice (.int .u32)) b02),(.v (.slice t1) b03),(.agg [(.v (.slice (.int .i64)) b04),(.v (.slice .bool) b05),(.v (.int .i64) b06)]),(.v (.slice t3) b07),(.agg [(.v (.slice (.int .i64)) b08),(.v (.slice (.int .i64)) b09),(.v (.int .i64) b010),(.v (.int .i64) b011)])])))],1,[]⟩
def aj.L2 (b0:Int) (b02:List Int) (b03:List t1.den) (b04:List Int) (b05:List Bool) (b06:Int) (b07:List t3.den) (b08 b09:List Int) (b010 b011:Int) (l1:List Int):Option (Int × Unit):=res aj.c (atJoin aj.b [1,1,1,1,1,0,1]) ⟨[(1,(.ptr 0 [])),(5,(.sl 1))],[(0,some (.box (.agg [(.v (.int .i64) b0),(.v (.slice (.int .u32)) b02),(.v (.slice t1) b03),(.agg [(.v (.slice (.int .i64)) b04),(.v (.slice .bool) b05),(.v (.int .i64) b06)]),(.v (.slice t3) b07),(.agg [(.v (.slice (.int .i64)) b08),(.v (.slice (.int .i64)) b09),(.v (.int .i64) b010),(.v (.int .i64) b011)])]))),(1,some (.row (.int .i64) l1 false))],2,[]⟩
def aj.L3 (used:Int) (t68_:List Bool) (t69_ t70_ b0:Int) (b02:List Int) (b03:List t1.den) (b04:List Int) (b05:Int) (b06:List t3.den) (b07 b08:List Int) (b09 b010:Int) (l1:List Int):Option (Int × Unit):=res aj.c (atLoop aj.b [1,1,1,1,1,1,1,0,1,0]) ⟨[(1,(.ptr 0 [])),(5,(.sl 1)),(7,(.v (.int .i64) used)),(68,(.v (.slice .bool) t68_)),(69,(.v (.int .i64) t69_)),(70,(.v (.int .i64) t70_))],[(0,some (.box (.agg [(.v (.int .i64) b0),(.v (.slice (.int .u32)) b02),(.v (.slice t1) b03),(.agg [(.v (.slice (.int .i64)) b04),(.v (.slice .bool) t68_),(.v (.int .i64) b05)]),(.v (.slice t3) b06),(.agg [(.v (.slice (.int .i64)) b07),(.v (.slice (.int .i64)) b08),(.v (.int .i64) b09),(.v (.int .i64) b010)])]))),(1,some (.row (.int .i64) l1 false))],2,[]⟩
def aj.L4 (used:Int) (t68_:List Bool) (t69_ t70_ b0:Int) (b02:List Int) (b03:List t1.den) (b04:List Int) (b05:Int) (b06:List t3.den) (b07 b08:List Int) (b09 b010:Int) (l1:List Int):Option (Int × Unit):=res aj.c (atJoin aj.b [1,1,1,1,1,1,1,0,1,0,0,1,0]) ⟨[(1,(.ptr 0 [])),(5,(.sl 1)),(7,(.v (.int .i64) used)),(68,(.v (.slice .bool) t68_)),(69,(.v (.int .i64) t69_)),(70,(.v (.int .i64) t70_))],[(0,some (.box (.agg [(.v (.int .i64) b0),(.v (.slice (.int .u32)) b02),(.v (.slice t1) b03),(.agg [(.v (.slice (.int .i64)) b04),(.v (.slice .bool) t68_),(.v (.int .i64) b05)]),(.v (.slice t3) b06),(.agg [(.v (.slice (.int .i64)) b07),(.v (.slice (.int .i64)) b08),(.v (.int .i64) b09),(.v (.int .i64) b010)])]))),(1,some (.row (.int .i64) l1 false))],2,[]⟩
def aj.L5 (used:Int) (t134_:List t3.den) (t135_ t136_:Int):Option (Int × Unit):=res aj.c (atLoop aj.b [1,1,1,1,1,1,1,1,0,1,0]) ⟨[(7,(.v (.int .i64) used)),(134,(.v (.slice t3) t134_)),(135,(.v (.int .i64) t135_)),(136,(.v (.int .i64) t136_))],[],0,[]⟩
def aj.L6 (used:Int) (t134_:List t3.den) (t135_ t136_:Int):Option (Int × Unit):=res aj.c (atJoin aj.b [1,1,1,1,1,1,1,1,0,1,0,0,1,0]) ⟨[(7,(.v (.int .i64) used)),(134,(.v (.slice t3) t134_)),(135,(.v (.int .i64) t135_)),(136,(.v (.int .i64) t136_))],[],0,[]⟩
def aj.L7:Option (Int × Unit):=res aj.c (atJoin aj.b [1,1,1,1,1,1,1,1,1,0,1]) ⟨[],[],0,[]⟩
def aj.L8 (used:Int) (t134_:List t3.den) (t135_ t136_:Int):Option (Int × Unit):=res aj.c (atJoin aj.b [1,1,1,1,1,1,1,1,0,1,0,0,1,1,0,0,1,1]) ⟨[(7,(.v (.int .i64) used)),(134,(.v (.slice t3) t134_)),(135,(.v (.int .i64) t135_)),(136,(.v (.int .i64) t136_))],[],0,[]⟩
def aj.L9 (used i:Int) (is_:Bool) (t68_:List Bool) (t69_ b0:Int) (b02:List Int) (b03:List t1.den) (b04:List Int) (b05:Int) (b06:List t3.den) (b07 b08:List Int) (b09 b010:Int) (l1:List Int):Option (Int × Unit):=res aj.c (atJoin aj.b [1,1,1,1,1,1,1,0,1,0,0,1,1,0,0,1,0,1]) ⟨[(1,(.ptr 0 [])),(5,(.sl 1)),(7,(.v (.int .i64) used)),(8,(.v (.int .i64) i)),(9,(.v .bool is_)),(68,(.v (.slice .bool) t68_)),(69,(.v (.int .i64) t69_)),(70,(.v (.int .i64) i))],[(0,some (.box (.agg [(.v (.int .i64) b0),(.v (.slice (.int .u32)) b02),(.v (.slice t1) b03),(.agg [(.v (.slice (.int .i64)) b04),(.v (.slice .bool) t68_),(.v (.int .i64) b05)]),(.v (.slice t3) b06),(.agg [(.v (.slice (.int .i64)) b07),(.v (.slice (.int .i64)) b08),(.v (.int .i64) b09),(.v (.int .i64) b010)])]))),(1,some (.row (.int .i64) l1 false))],2,[]⟩
def aj.L10 (used i:Int) (t68_:List Bool) (t69_ b0:Int) (b02:List Int) (b03:List t1.den) (b04:List Int) (b05:Int) (b06:List t3.den) (b07 b08:List Int) (b09 b010:Int) (l1:List Int):Option (Int × Unit):=res aj.c (atJoin aj.b [1,1,1,1,1,1,1,0,1,0,0,1,1,0,0,1,1,0,1]) ⟨[(1,(.ptr 0 [])),(5,(.sl 1)),(7,(.v (.int .i64) used)),(8,(.v (.int .i64) i)),(68,(.v (.slice .bool) t68_)),(69,(.v (.int .i64) t69_)),(70,(.v (.int .i64) i))],[(0,some (.box (.agg [(.v (.int .i64) b0),(.v (.slice (.int .u32)) b02),(.v (.slice t1) b03),(.agg [(.v (.slice (.int .i64)) b04),(.v (.slice .bool) t68_),(.v (.int .i64) b05)]),(.v (.slice t3) b06),(.agg [(.v (.slice (.int .i64)) b07),(.v (.slice (.int .i64)) b08),(.v (.int .i64) b09),(.v (.int .i64) b010)])]))),(1,some (.row (.int .i64) l1 false))],2,[]⟩
def aj.L11 (used:Int) (t68_:List Bool) (t69_ t70_ b0:Int) (b02:List Int) (b03:List t1.den) (b04:List Int) (b05:Int) (b06:List t3.den) (b07 b08:List Int) (b09 b010:Int) (l1:List Int):Option (Int × Unit):=res aj.c (atJoin aj.b [1,1,1,1,1,1,1,0,1,0,0,1,1,0,0,1,1,1,1,1,1]) ⟨[(1,(.ptr 0 [])),(5,(.sl 1)),(7,(.v (.int .i64) used)),(68,(.v (.slice .bool) t68_)),(69,(.v (.int .i64) t69_)),(70,(.v (.int .i64) t70_))],[(0,some (.box (.agg [(.v (.int .i64) b0),(.v (.slice (.int .u32)) b02),(.v (.slice t1) b03),(.agg [(.v (.slice (.int .i64)) b04),(.v (.slice .bool) t68_),(.v (.int .i64) b05)]),(.v (.slice t3) b06),(.agg [(.v (.slice (.int .i64)) b07),(.v (.slice (.int .i64)) b08),(.v (.int .i64) b09),(.v (.int .i64) b010)])]))),(1,some (.row (.int .i64) l1 false))],2,[]⟩
theorem aj.spec:FnSpec Tryz.prog globs 106 aj.Fn:=spec_of (E:=aj.E) (envOk_at tabOk eqOk primsOk (.cons d9.spec<|.cons ed.spec<|.cons az.spec<|.cons am.spec<|.cons fh.spec<|.cons dx.spec<|.nil)) mixOk Tryz.func106 (by kernel_rfl)
theorem aj.L1_eq (b0 b02 b03 b04 b05 b06 b07 b08 b09 b010 b011):aj.L1 b0 b02 b03 b04 b05 b06 b07 b08 b09 b010 b011=
 (ed.F (b08,b09,b010,b011,())).bind fun r0=>
 bif (r0.2.1 !=0) then
  some (8,())
 else
  aj.L2 b0 b02 b03 b04 b05 b06 b07 b08 b09 b010 b011 r0.1:=res_eq (by kernel_rfl)
theorem aj.L2_eq (b0 b02 b03 b04 b05 b06 b07 b08 b09 b010 b011 l1):aj.L2 b0 b02 b03 b04 b05 b06 b07 b08 b09 b010 b011 l1=
 aj.L3 0 b05 ((List.length b05:Int)) 0 b0 b02 b03 b04 b06 b07 b08 b09 b010 b011 l1:=res_eq (by kernel_rfl)
theorem aj.L3_eq (used t68_ t69_ t70_ b0 b02 b03 b04 b05 b06 b07 b08 b09 b010 l1):aj.L3 used t68_ t69_ t70_ b0 b02 b03 b04 b05 b06 b07 b08 b09 b010 l1=
 bif (decide ((t70_:Int)<t69_)) then
  aj.L4 used t68_ t69_ t70_ b0 b02 b03 b04 b05 b06 b07 b08 b09 b010 l1
 else
  aj.L5 used b06 ((List.length b06:Int)) 0:=res_eq (by kernel_rfl)
theorem aj.L4_eq (used t68_ t69_ t70_ b0 b02 b03 b04 b05 b06 b07 b08 b09 b010 l1):aj.L4 used t68_ t69_ t70_ b0 b02 b03 b04 b05 b06 b07 b08 b09 b010 l1=
 bif (decide ((0:Int)≤t70_∧(t70_:Int)<((List.length t68_:Int)))) then
  (fh.F l1 t70_).bind fun r0=>
  bif (!((List.getD t68_ (Int.toNat t70_) false)==r0.1)) then
   some (8,())
  else
   bif (!(List.getD t68_ (Int.toNat t70_) false)) then
    bif (decide ((0:Int)≤t70_∧(t70_:Int)<((List.length b02:Int)))) then
     bif ((List.getD b02 (Int.toNat t70_) 0) !=0) then
      some (8,())
     else
      bif (decide ((0:Int)≤t70_∧(t70_:Int)<((List.length b03:Int)))) then
       bif (!(Ty.beq t1 (List.getD b03 (Int.toNat t70_) ((0,0,0,()),0,0,0,())) ((0,0,0,()),0,0,0,()))) then
        some (8,())
       else
        aj.L9 used t70_ (List.getD t68_ (Int.toNat t70_) false) t68_ t69_ b0 b02 b03 b04 b05 b06 b07 b08 b09 b010 l1
      else none
    else none
   else
    aj.L9 used t70_ (List.getD t68_ (Int.toNat t70_) false) t68_ t69_ b0 b02 b03 b04 b05 b06 b07 b08 b09 b010 l1
 else none:=res_eq (by kernel_rfl)
theorem aj.L5_eq (used t134_ t135_ t136_):aj.L5 used t134_ t135_ t136_=
 bif (decide ((t136_:Int)<t135_)) then
  aj.L6 used t134_ t135_ t136_
 else
  bif (used !=0) then
   some (8,())
  else
   aj.L7:=res_eq (by kernel_rfl)
theorem aj.L6_eq (used t134_ t135_ t136_):aj.L6 used t134_ t135_ t136_=
 bif (decide ((0:Int)≤t136_∧(t136_:Int)<((List.length t134_:Int)))) then
  bif (((List.getD t134_ (Int.toNat t136_) (0,0,false,())).2).2).1 then
   aj.L8 (IntKind.wrap .i64 (used - 1)) t134_ t135_ t136_
  else
   aj.L8 used t134_ t135_ t136_
 else none:=res_eq (by kernel_rfl)
theorem aj.L7_eq:aj.L7=
 some (0,()):=res_eq (by kernel_rfl)
theorem aj.L8_eq (used t134_ t135_ t136_):aj.L8 used t134_ t135_ t136_=
 aj.L5 used t134_ t135_ (IntKind.wrap .i64 (t136_+1)):=res_eq (by kernel_rfl)
theorem aj.L9_eq (used i is_ t68_ t69_ b0 b02 b03 b04 b05 b06 b07 b08 b09 b010 l1):aj.L9 used i is_ t68_ t69_ b0 b02 b03 b04 b05 b06 b07 b08 b09 b010 l1=
 bif (!is_) then
  aj.L3 used t68_ t69_ (IntKind.wrap .i64 (i+1)) b0 b02 b03 b04 b05 b06 b07 b08 b09 b010 l1
 else
  aj.L10 used i t68_ t69_ b0 b02 b03 b04 b05 b06 b07 b08 b09 b010 l1:=res_eq (by kernel_rfl)
theorem aj.L10_eq (used i t68_ t69_ b0 b02 b03 b04 b05 b06 b07 b08 b09 b010 l1):aj.L10 used i t68_ t69_ b0 b02 b03 b04 b05 b06 b07 b08 b09 b010 l1=
 bif (decide ((0:Int)≤i∧(i:Int)<((List.length b02:Int)))) then
  (dx.F b06 (List.getD b02 (Int.toNat i) 0)).bind fun r0=>
  bif (r0.2.1 !=0) then
   some (8,())
  else
   bif (r0.1 !=i) then
    some (8,())
   else
    bif (decide ((0:Int)≤i∧(i:Int)<((List.length b03:Int)))) then
     (d9.F (List.getD b03 (Int.toNat i) ((0,0,0,()),0,0,0,()))).bind fun r1=>
     bif (r1.1 !=0) then
      some (8,())
     else
      aj.L11 (IntKind.wrap .i64 (used+1)) t68_ t69_ i b0 b02 b03 b04 b05 b06 b07 b08 b09 b010 l1
    else none
 else none:=res_eq (by kernel_rfl)
theorem aj.L11_eq (used t68_ t69_ t70_ b0 b02 b03 b04 b05 b06 b07 b08 b09 b010 l1):aj.L11 used t68_ t69_ t70_ b0 b02 b03 b04 b05 b06 b07 b08 b09 b010 l1=
 aj.L3 used t68_ t69_ (IntKind.wrap .i64 (t70_+1)) b0 b02 b03 b04 b05 b06 b07 b08 b09 b010 l1:=res_eq (by kernel_rfl)
theorem aj.F_eq (t):aj.F t=
 bif (decide ((t.1:Int)<1)) then
  some (8,())
 else
  bif (decide ((t.1:Int)>8)) then
   some (8,())
  else
   bif (!(Ty.beq (.arr 4 (.int .i64)) ([((List.length t.2.1:Int)),((List.length t.2.2.1:Int)),((List.length t.2.2.2.1.1:Int)),((List.length t.2.2.2.2.2.1.1:Int))]:List Int) ([t.1,t.1,t.1,t.1]:List Int))) then
    some (8,())
   else
    (az.F t.2.2.2.1).bind fun r0=>
    bif (r0.1 !=0) then
     some (8,())
    else
     (am.F t.2.2.2.2.1).bind fun r1=>
     bif (r1.1 !=0) then
      some (8,())
     else
      aj.L1 t.1 t.2.1 t.2.2.1 t.2.2.2.1.1 t.2.2.2.1.2.1 t.2.2.2.1.2.2.1 t.2.2.2.2.1 t.2.2.2.2.2.1.1 t.2.2.2.2.2.1.2.1 t.2.2.2.2.2.1.2.2.1 t.2.2.2.2.2.1.2.2.2.1:=by kernel_rfl
def eu.sg:Sig:=⟨[.val t0,.val (.int .u64)],[(t1,true),((.int .i64),true)]⟩
def eu.E:Env:=⟨tl,fun i=>look i [(98,cy.Fn)],[],eqs,globs,prims⟩
def eu.c:=cxOf eu.E eu.sg Tryz.f107
def eu.b:=body Tryz.f107
def eu.Fn:Fun:=fnOf eu.E eu.sg Tryz.f107
def eu.F (l:t0.den) (at_:Int):Option (t1.den × Int × Unit):=eu.Fn.F (l,at_,())
def eu.L1 (at_ b0:Int) (b02 b03:Int):Option (t1.den × Int × Unit):=res eu.c (atJoin eu.b [1,0,1,1]) ⟨[(1,(.v (.int .u64) at_)),(2,(.ptr 0 [])),(4,(.ptr 1 []))],[(0,some (.box (.agg [(.v (.int .i64) b0),(.v (.int .i64) b02),(.v (.int .i64) b03)]))),(1,some (.box (.agg [(.agg [(.v (.int .i64) 0),(.v (.int .i64) 0),(.v (.int .i64) 0)]),(.v (.int .i64) 0),(.v (.int .i64) 0),(.v (.int .u64) 0)])))],2,[]⟩
theorem eu.spec:FnSpec Tryz.prog globs 107 eu.Fn:=spec_of (E:=eu.E) (envOk_at tabOk eqOk primsOk (.cons cy.spec<|.nil)) mixOk Tryz.func107 (by kernel_rfl)
theorem eu.L1_eq (at_ b0 b02 b03):eu.L1 at_ b0 b02 b03=
 some (((b0,b02,b03,()),b0,0,at_,()),0,()):=res_eq (by kernel_rfl)
theorem eu.F_eq (l at_):eu.F l at_=
 (cy.F l).bind fun r0=>
 bif (r0.1 !=0) then
  some (((0,0,0,()),0,0,0,()),r0.1,())
 else
  eu.L1 at_ l.1 l.2.1 l.2.2.1:=by kernel_rfl
def fo.sg:Sig:=⟨[.val t5],[(t5,true)]⟩
def fo.E:Env:=⟨tl,fun i=>look i [],[],eqs,globs,prims⟩
def fo.Fn:Fun:=fnOf fo.E fo.sg Tryz.f108
def fo.F (t:t5.den):Option (t5.den × Unit):=fo.Fn.F (t,())
theorem fo.spec:FnSpec Tryz.prog globs 108 fo.Fn:=spec_of (E:=fo.E) (envOk_at tabOk eqOk primsOk (.nil)) mixOk Tryz.func108 (by kernel_rfl)
theorem fo.F_eq (t):fo.F t=
 bif (lim (List.length t.2.1) (.int .u32)) then
  bif (lim (List.length t.2.2.1) t1) then
   bif (lim (List.length t.2.2.2.1.1) (.int .i64)) then
    bif (lim (List.length t.2.2.2.1.2.1) .bool) then
     bif (lim (List.length t.2.2.2.2.1) t3) then
      bif (lim (List.length t.2.2.2.2.2.1.1) (.int .i64)) then
       bif (lim (List.length t.2.2.2.2.2.1.2.1) (.int .i64)) then
        some (t,())
       else none
      else none
     else none
    else none
   else none
  else none
 else none:=by kernel_rfl
def dy.sg:Sig:=⟨[.val t5,.val (.int .u32)],[((.int .i64),true)]⟩
def dy.E:Env:=⟨tl,fun i=>look i [(143,dx.Fn)],[],eqs,globs,prims⟩
def dy.c:=cxOf dy.E dy.sg Tryz.f109
def dy.b:=body Tryz.f109
def dy.Fn:Fun:=fnOf dy.E dy.sg Tryz.f109
def dy.F (t:t5.den) (key:Int):Option (Int × Unit):=dy.Fn.F (t,key,())
def dy.L1 (i:Int):Option (Int × Unit):=res dy.c (atJoin dy.b [1,1,0,1]) ⟨[(5,(.v (.int .i64) i))],[],0,[]⟩
theorem dy.spec:FnSpec Tryz.prog globs 109 dy.Fn:=spec_of (E:=dy.E) (envOk_at tabOk eqOk primsOk (.cons dx.spec<|.nil)) mixOk Tryz.func109 (by kernel_rfl)
theorem dy.L1_eq (i):dy.L1 i=
 some (i,()):=res_eq (by kernel_rfl)
theorem dy.F_eq (t key):dy.F t key=
 (dx.F t.2.2.2.2.1 key).bind fun r0=>
 bif (r0.2.1 !=0) then
  some ((-1),())
 else
  dy.L1 r0.1:=by kernel_rfl
def fu.sg:Sig:=⟨[.val t2],[(t2,true)]⟩
def fu.E:Env:=⟨tl,fun i=>look i [],[],eqs,globs,prims⟩
def fu.Fn:Fun:=fnOf fu.E fu.sg Tryz.f147
def fu.F (a:t2.den):Option (t2.den × Unit):=fu.Fn.F (a,())
theorem fu.spec:FnSpec Tryz.prog globs 147 fu.Fn:=spec_of (E:=fu.E) (envOk_at tabOk eqOk primsOk (.nil)) mixOk Tryz.func147 (by kernel_rfl)
theorem fu.F_eq (a):fu.F a=
 bif (lim (List.length a.1) (.int .i64)) then
  bif (lim (List.length a.2.1) .bool) then
   some (a,())
  else none
 else none:=by kernel_rfl
def dp.sg:Sig:=⟨[.val t2],[(t2,true),((.int .i64),true),((.int .i64),true)]⟩
def dp.E:Env:=⟨tl,fun i=>look i [(140,az.Fn),(147,fu.Fn)],[],eqs,globs,prims⟩
def dp.c:=cxOf dp.E dp.sg Tryz.f110
def dp.b:=body Tryz.f110
def dp.Fn:Fun:=fnOf dp.E dp.sg Tryz.f110
def dp.F (a:t2.den):Option (t2.den × Int × Int × Unit):=dp.Fn.F (a,())
def dp.L1 (b0:List Int) (b02:List Bool) (b03:Int) (l2:List Int) (l3:List Bool):Option (t2.den × Int × Int × Unit):=res dp.c (atJoin dp.b [1,0,1,1]) ⟨[(1,(.ptr 0 [])),(2,(.ptr 1 []))],[(0,some (.box (.agg [(.v (.slice (.int .i64)) b0),(.v (.slice .bool) b02),(.v (.int .i64) b03)]))),(1,some (.box (.agg [(.sl 2),(.sl 3),(.v (.int .i64) 0)]))),(2,some (.row (.int .i64) l2 false)),(3,some (.row .bool l3 false))],4,[]⟩
def dp.L2 (b0:List Int) (b02:List Bool) (b03:Int) (l2:List Int) (l3:List Bool):Option (t2.den × Int × Int × Unit):=res dp.c (atJoin dp.b [1,1,0,1]) ⟨[(1,(.ptr 0 [])),(2,(.ptr 1 []))],[(0,some (.box (.agg [(.v (.slice (.int .i64)) b0),(.v (.slice .bool) b02),(.v (.int .i64) b03)]))),(1,some (.box (.agg [(.sl 2),(.sl 3),(.v (.int .i64) 0)]))),(2,some (.row (.int .i64) l2 false)),(3,some (.row .bool l3 false))],4,[]⟩
theorem dp.spec:FnSpec Tryz.prog globs 110 dp.Fn:=spec_of (E:=dp.E) (envOk_at tabOk eqOk primsOk (.cons az.spec<|.cons fu.spec<|.nil)) mixOk Tryz.func110 (by kernel_rfl)
theorem dp.L1_eq (b0 b02 b03 l2 l3):dp.L1 b0 b02 b03 l2 l3=
 bif (b03==(-1)) then
  some ((([]:List Int),([]:List Bool),0,()),0,18,())
 else
  dp.L2 b0 b02 b03 l2 l3:=res_eq (by kernel_rfl)
theorem dp.L2_eq (b0 b02 b03 l2 l3):dp.L2 b0 b02 b03 l2 l3=
 (fu.F (b0,b02,b03,())).bind fun r0=>
 bif (decide ((0:Int)≤b03∧(b03:Int)<((List.length b0:Int)))) then
  bif (decide ((0:Int)≤b03∧(b03:Int)<((List.length r0.1.1:Int)))) then
   bif (decide ((0:Int)≤b03∧(b03:Int)<((List.length r0.1.2.1:Int)))) then
    some (((List.set r0.1.1 (Int.toNat b03) (-1)),(List.set r0.1.2.1 (Int.toNat b03) true),(List.getD b0 (Int.toNat b03) 0),()),b03,0,())
   else none
  else none
 else none:=res_eq (by kernel_rfl)
theorem dp.F_eq (a):dp.F a=
 (az.F a).bind fun r0=>
 bif (r0.1 !=0) then
  some ((([]:List Int),([]:List Bool),0,()),0,r0.1,())
 else
  dp.L1 a.1 a.2.1 a.2.2.1 ([]:List Int) ([]:List Bool):=by kernel_rfl
def gi.sg:Sig:=⟨[.val t4],[((.int .i64),true),((.int .i64),true)]⟩
def gi.E:Env:=⟨tl,fun i=>look i [(148,bj.Fn)],[],eqs,globs,prims⟩
def gi.Fn:Fun:=fnOf gi.E gi.sg Tryz.f111
def gi.F (o:t4.den):Option (Int × Int × Unit):=gi.Fn.F (o,())
theorem gi.spec:FnSpec Tryz.prog globs 111 gi.Fn:=spec_of (E:=gi.E) (envOk_at tabOk eqOk primsOk (.cons bj.spec<|.nil)) mixOk Tryz.func111 (by kernel_rfl)
def er.sg:Sig:=⟨[.val t4,.val (.int .i64)],[((.int .i64),true)]⟩
def er.E:Env:=⟨tl,fun i=>look i [(148,bj.Fn)],[],eqs,globs,prims⟩
def er.c:=cxOf er.E er.sg Tryz.f153
def er.b:=body Tryz.f153
def er.Fn:Fun:=fnOf er.E er.sg Tryz.f153
def er.F (o:t4.den) (place:Int):Option (Int × Unit):=er.Fn.F (o,place,())
def er.L1 (place:Int) (b0 b02:List Int) (b03 b04:Int):Option (Int × Unit):=res er.c (atJoin er.b [1,0,1,1]) ⟨[(1,(.v (.int .i64) place)),(2,(.ptr 0 []))],[(0,some (.box (.agg [(.v (.slice (.int .i64)) b0),(.v (.slice (.int .i64)) b02),(.v (.int .i64) b03),(.v (.int .i64) b04)])))],1,[]⟩
def er.L2:Option (Int × Unit):=res er.c (atJoin er.b [1,1,0,1]) ⟨[],[],0,[]⟩
theorem er.spec:FnSpec Tryz.prog globs 153 er.Fn:=spec_of (E:=er.E) (envOk_at tabOk eqOk primsOk (.cons bj.spec<|.nil)) mixOk Tryz.func153 (by kernel_rfl)
theorem er.L1_eq (place b0 b02 b03 b04):er.L1 place b0 b02 b03 b04=
 bif (decide ((place:Int)<0)) then
  some (2,())
 else
  bif (decide ((place:Int)≥((List.length b0:Int)))) then
   some (2,())
  else
   er.L2:=res_eq (by kernel_rfl)
theorem er.L2_eq:er.L2=
 some (0,()):=res_eq (by kernel_rfl)
theorem er.F_eq (o place):er.F o place=
 (bj.F o).bind fun r0=>
 bif (r0.1 !=0) then
  some (r0.1,())
 else
  er.L1 place o.1 o.2.1 o.2.2.1 o.2.2.2.1:=by kernel_rfl
def gd.sg:Sig:=⟨[.val t4],[(t4,true)]⟩
def gd.E:Env:=⟨tl,fun i=>look i [],[],eqs,globs,prims⟩
def gd.Fn:Fun:=fnOf gd.E gd.sg Tryz.f154
def gd.F (o:t4.den):Option (t4.den × Unit):=gd.Fn.F (o,())
theorem gd.spec:FnSpec Tryz.prog globs 154 gd.Fn:=spec_of (E:=gd.E) (envOk_at tabOk eqOk primsOk (.nil)) mixOk Tryz.func154 (by kernel_rfl)
theorem gd.F_eq (o):gd.F o=
 bif (lim (List.length o.1) (.int .i64)) then
  bif (lim (List.length o.2.1) (.int .i64)) then
   some (o,())
  else none
 else none:=by kernel_rfl
def gh.sg:Sig:=⟨[.val t4,.val (.int .i64)],[(.bool,true)]⟩
def gh.E:Env:=⟨tl,fun i=>look i [],[],eqs,globs,prims⟩
def gh.Fn:Fun:=fnOf gh.E gh.sg Tryz.f155
def gh.F (o:t4.den) (place:Int):Option (Bool × Unit):=gh.Fn.F (o,place,())
theorem gh.spec:FnSpec Tryz.prog globs 155 gh.Fn:=spec_of (E:=gh.E) (envOk_at tabOk eqOk primsOk (.nil)) mixOk Tryz.func155 (by kernel_rfl)
theorem gh.F_eq (o place):gh.F o place=
 bif (o.2.2.1==place) then
  some (true,())
 else
  bif (decide ((0:Int)≤place∧(place:Int)<((List.length o.1:Int)))) then
   some (((List.getD o.1 (Int.toNat place) 0) !=(-1)),())
  else none:=by kernel_rfl
def ez.sg:Sig:=⟨[.io t4 true,.val (.int .i64)],[]⟩
def ez.E:Env:=⟨tl,fun i=>look i [],[],eqs,globs,prims⟩
def ez.c:=cxOf ez.E ez.sg Tryz.f156
def ez.b:=body Tryz.f156
def ez.Fn:Fun:=fnOf ez.E ez.sg Tryz.f156
def ez.F (o:t4.den) (place:Int):Option (t4.den × Unit):=ez.Fn.F (o,place,())
def ez.L1 (place p:Int) (n b0 b02:Int) (l1 l2:List Int):Option (t4.den × Unit):=res ez.c (atJoin ez.b [1,0,1]) ⟨[(0,(.ptr 0 [])),(1,(.v (.int .i64) place)),(4,(.v (.int .i64) p)),(5,(.v (.int .i64) n))],[(0,some (.box (.agg [(.sl 1),(.sl 2),(.v (.int .i64) b0),(.v (.int .i64) b02)]))),(1,some (.row (.int .i64) l1 false)),(2,some (.row (.int .i64) l2 false))],3,[(.ptr 0 [])]⟩
def ez.L2 (place b0 b02:Int) (l1 l2:List Int):Option (t4.den × Unit):=res ez.c (atJoin ez.b [1,1,0,1]) ⟨[(0,(.ptr 0 [])),(1,(.v (.int .i64) place))],[(0,some (.box (.agg [(.sl 1),(.sl 2),(.v (.int .i64) b0),(.v (.int .i64) b02)]))),(1,some (.row (.int .i64) l1 false)),(2,some (.row (.int .i64) l2 false))],3,[(.ptr 0 [])]⟩
theorem ez.spec:FnSpec Tryz.prog globs 156 ez.Fn:=spec_of (E:=ez.E) (envOk_at tabOk eqOk primsOk (.nil)) mixOk Tryz.func156 (by kernel_rfl)
theorem ez.L1_eq (place p n b0 b02 l1 l2):ez.L1 place p n b0 b02 l1 l2=
 bif (n==(-1)) then
  ez.L2 place b0 p l1 l2
 else
  bif (decide ((0:Int)≤n∧(n:Int)<((List.length l1:Int)))) then
   ez.L2 place b0 b02 (List.set l1 (Int.toNat n) p) l2
  else none:=res_eq (by kernel_rfl)
theorem ez.L2_eq (place b0 b02 l1 l2):ez.L2 place b0 b02 l1 l2=
 bif (decide ((0:Int)≤place∧(place:Int)<((List.length l1:Int)))) then
  bif (decide ((0:Int)≤place∧(place:Int)<((List.length l2:Int)))) then
   some (((List.set l1 (Int.toNat place) (-1)),(List.set l2 (Int.toNat place) (-1)),b0,b02,()),())
  else none
 else none:=res_eq (by kernel_rfl)
theorem ez.F_eq (o place):ez.F o place=
 bif (decide ((0:Int)≤place∧(place:Int)<((List.length o.1:Int)))) then
  bif (decide ((0:Int)≤place∧(place:Int)<((List.length o.2.1:Int)))) then
   bif ((List.getD o.1 (Int.toNat place) 0)==(-1)) then
    ez.L1 place (List.getD o.1 (Int.toNat place) 0) (List.getD o.2.1 (Int.toNat place) 0) (List.getD o.2.1 (Int.toNat place) 0) o.2.2.2.1 o.1 o.2.1
   else
    bif (decide ((0:Int)≤(List.getD o.1 (Int.toNat place) 0)∧((List.getD o.1 (Int.toNat place) 0):Int)<((List.length o.2.1:Int)))) then
     ez.L1 place (List.getD o.1 (Int.toNat place) 0) (List.getD o.2.1 (Int.toNat place) 0) o.2.2.1 o.2.2.2.1 o.1 (List.set o.2.1 (Int.toNat (List.getD o.1 (Int.toNat place) 0)) (List.getD o.2.1 (Int.toNat place) 0))
    else none
  else none
 else none:=by kernel_rfl
def gj.sg:Sig:=⟨[.val t4,.val (.int .i64)],[(t4,true),((.int .i64),true)]⟩
def gj.E:Env:=⟨tl,fun i=>look i [(153,er.Fn),(154,gd.Fn),(155,gh.Fn),(156,ez.Fn)],[],eqs,globs,prims⟩
def gj.Fn:Fun:=fnOf gj.E gj.sg Tryz.f149
theorem gj.spec:FnSpec Tryz.prog globs 149 gj.Fn:=spec_of (E:=gj.E) (envOk_at tabOk eqOk primsOk (.cons er.spec<|.cons gd.spec<|.cons gh.spec<|.cons ez.spec<|.nil)) mixOk Tryz.func149 (by kernel_rfl)
def gn.sg:Sig:=⟨[.val (.slice t3),.val (.int .u32)],[((.slice t3),true),((.int .i64),true)]⟩
def gn.E:Env:=⟨tl,fun i=>look i [(141,am.Fn),(152,di.Fn),(176,fr.Fn),(177,ft.Fn)],[],eqs,globs,prims⟩
def gn.Fn:Fun:=fnOf gn.E gn.sg Tryz.f150
theorem gn.spec:FnSpec Tryz.prog globs 150 gn.Fn:=spec_of (E:=gn.E) (envOk_at tabOk eqOk primsOk (.cons am.spec<|.cons di.spec<|.cons fr.spec<|.cons ft.spec<|.nil)) mixOk Tryz.func150 (by kernel_rfl)
def gk.sg:Sig:=⟨[.val t2,.val (.int .i64)],[(t2,true),((.int .i64),true)]⟩
def gk.E:Env:=⟨tl,fun i=>look i [(140,az.Fn),(147,fu.Fn)],[],eqs,globs,prims⟩
def gk.Fn:Fun:=fnOf gk.E gk.sg Tryz.f151
theorem gk.spec:FnSpec Tryz.prog globs 151 gk.Fn:=spec_of (E:=gk.E) (envOk_at tabOk eqOk primsOk (.cons az.spec<|.cons fu.spec<|.nil)) mixOk Tryz.func151 (by kernel_rfl)
def gg.sg:Sig:=⟨[.io t5 true,.val (.int .u32)],[]⟩
def gg.E:Env:=⟨tl,fun i=>look i [(109,dy.Fn),(149,gj.Fn),(150,gn.Fn),(151,gk.Fn)],[],eqs,globs,prims⟩
def gg.Fn:Fun:=fnOf gg.E gg.sg Tryz.f112
def gg.F (t:t5.den) (key:Int):Option (t5.den × Unit):=gg.Fn.F (t,key,())
theorem gg.spec:FnSpec Tryz.prog globs 112 gg.Fn:=spec_of (E:=gg.E) (envOk_at tabOk eqOk primsOk (.cons dy.spec<|.cons gj.spec<|.cons gn.spec<|.cons gk.spec<|.nil)) mixOk Tryz.func112 (by kernel_rfl)
def cb.sg:Sig:=⟨[.val (.slice t3),.val (.int .u32),.val (.int .i64)],[((.slice t3),true),((.int .i64),true)]⟩
def cb.E:Env:=⟨tl,fun i=>look i [(141,am.Fn),(152,di.Fn)],[],eqs,globs,prims⟩
def cb.c:=cxOf cb.E cb.sg Tryz.f113
def cb.b:=body Tryz.f113
def cb.Fn:Fun:=fnOf cb.E cb.sg Tryz.f113
def cb.F (x:List t3.den) (key place:Int):Option ((List t3.den) × Int × Unit):=cb.Fn.F (x,key,place,())
def cb.L1 (x:List t3.den) (key place:Int):Option ((List t3.den) × Int × Unit):=res cb.c (atJoin cb.b [1,0,1,1]) ⟨[(0,(.v (.slice t3) x)),(1,(.v (.int .u32) key)),(2,(.v (.int .i64) place))],[],0,[]⟩
def cb.L2 (x:List t3.den) (key place:Int):Option ((List t3.den) × Int × Unit):=res cb.c (atJoin cb.b [1,1,0,1]) ⟨[(0,(.v (.slice t3) x)),(1,(.v (.int .u32) key)),(2,(.v (.int .i64) place))],[],0,[]⟩
def cb.L3 (x:List t3.den) (key place i:Int):Option ((List t3.den) × Int × Unit):=res cb.c (atJoin cb.b [1,1,1,1,0,1]) ⟨[(0,(.v (.slice t3) x)),(1,(.v (.int .u32) key)),(2,(.v (.int .i64) place)),(9,(.v (.int .i64) i))],[],0,[]⟩
def cb.L4 (x:List t3.den) (key place:Int) (i n:Int) (t38_ t39_:Int):Option ((List t3.den) × Int × Unit):=res cb.c (atLoop cb.b [1,1,1,1,1,1,0,1,0]) ⟨[(0,(.v (.slice t3) x)),(1,(.v (.int .u32) key)),(2,(.v (.int .i64) place)),(9,(.v (.int .i64) i)),(11,(.v (.int .i64) n)),(37,(.v (.slice t3) x)),(38,(.v (.int .i64) t38_)),(39,(.v (.int .i64) t39_))],[],0,[]⟩
def cb.L5 (x:List t3.den) (key place:Int) (i n:Int) (t38_ t39_:Int):Option ((List t3.den) × Int × Unit):=res cb.c (atJoin cb.b [1,1,1,1,1,1,0,1,0,0,1,0]) ⟨[(0,(.v (.slice t3) x)),(1,(.v (.int .u32) key)),(2,(.v (.int .i64) place)),(9,(.v (.int .i64) i)),(11,(.v (.int .i64) n)),(37,(.v (.slice t3) x)),(38,(.v (.int .i64) t38_)),(39,(.v (.int .i64) t39_))],[],0,[]⟩
def cb.L6 (x:List t3.den) (key place i:Int):Option ((List t3.den) × Int × Unit):=res cb.c (atJoin cb.b [1,1,1,1,1,1,1,0,1]) ⟨[(0,(.v (.slice t3) x)),(1,(.v (.int .u32) key)),(2,(.v (.int .i64) place)),(9,(.v (.int .i64) i))],[],0,[]⟩
def cb.L7 (x:List t3.den) (key place:Int) (i n:Int) (t38_ t39_:Int):Option ((List t3.den) × Int × Unit):=res cb.c (atJoin cb.b [1,1,1,1,1,1,0,1,0,0,1,1,0,0,1,1]) ⟨[(0,(.v (.slice t3) x)),(1,(.v (.int .u32) key)),(2,(.v (.int .i64) place)),(9,(.v (.int .i64) i)),(11,(.v (.int .i64) n)),(37,(.v (.slice t3) x)),(38,(.v (.int .i64) t38_)),(39,(.v (.int .i64) t39_))],[],0,[]⟩
theorem cb.spec:FnSpec Tryz.prog globs 113 cb.Fn:=spec_of (E:=cb.E) (envOk_at tabOk eqOk primsOk (.cons am.spec<|.cons di.spec<|.nil)) mixOk Tryz.func113 (by kernel_rfl)
theorem cb.L1_eq (x key place):cb.L1 x key place=
 bif (decide ((place:Int)<0)) then
  some (([]:List t3.den),2,())
 else
  bif (decide ((place:Int)≥16)) then
   some (([]:List t3.den),2,())
  else
   cb.L2 x key place:=res_eq (by kernel_rfl)
theorem cb.L2_eq (x key place):cb.L2 x key place=
 (di.F x key).bind fun r0=>
 bif (decide ((0:Int)≤r0.1∧(r0.1:Int)<((List.length x:Int)))) then
  bif (((List.getD x (Int.toNat r0.1) (0,0,false,())).2).2).1 then
   some (([]:List t3.den),14,())
  else
   cb.L3 x key place r0.1
 else none:=res_eq (by kernel_rfl)
theorem cb.L3_eq (x key place i):cb.L3 x key place i=
 cb.L4 x key place i 0 ((List.length x:Int)) 0:=res_eq (by kernel_rfl)
theorem cb.L4_eq (x key place i n t38_ t39_):cb.L4 x key place i n t38_ t39_=
 bif (decide ((t39_:Int)<t38_)) then
  cb.L5 x key place i n t38_ t39_
 else
  bif (decide ((n:Int)≥12)) then
   some (([]:List t3.den),18,())
  else
   cb.L6 x key place i:=res_eq (by kernel_rfl)
theorem cb.L5_eq (x key place i n t38_ t39_):cb.L5 x key place i n t38_ t39_=
 bif (decide ((0:Int)≤t39_∧(t39_:Int)<((List.length x:Int)))) then
  bif (((List.getD x (Int.toNat t39_) (0,0,false,())).2).2).1 then
   cb.L7 x key place i (IntKind.wrap .i64 (n+1)) t38_ t39_
  else
   cb.L7 x key place i n t38_ t39_
 else none:=res_eq (by kernel_rfl)
theorem cb.L6_eq (x key place i):cb.L6 x key place i=
 bif (lim (List.length x) t3) then
  bif (decide ((0:Int)≤i∧(i:Int)<((List.length x:Int)))) then
   some ((List.set x (Int.toNat i) (key,place,true,())),0,())
  else none
 else none:=res_eq (by kernel_rfl)
theorem cb.L7_eq (x key place i n t38_ t39_):cb.L7 x key place i n t38_ t39_=
 cb.L4 x key place i n t38_ (IntKind.wrap .i64 (t39_+1)):=res_eq (by kernel_rfl)
theorem cb.F_eq (x key place):cb.F x key place=
 (am.F x).bind fun r0=>
 bif (r0.1 !=0) then
  some (([]:List t3.den),r0.1,())
 else
  cb.L1 x key place:=by kernel_rfl
def dg.sg:Sig:=⟨[.val t4,.val (.int .i64)],[(t4,true),((.int .i64),true)]⟩
def dg.E:Env:=⟨tl,fun i=>look i [(153,er.Fn),(154,gd.Fn),(155,gh.Fn),(156,ez.Fn)],[],eqs,globs,prims⟩
def dg.c:=cxOf dg.E dg.sg Tryz.f114
def dg.b:=body Tryz.f114
def dg.Fn:Fun:=fnOf dg.E dg.sg Tryz.f114
def dg.F (o:t4.den) (place:Int):Option (t4.den × Int × Unit):=dg.Fn.F (o,place,())
def dg.L1 (place:Int) (b0 b02:List Int) (b03 b04:Int) (l2:List Int):Option (t4.den × Int × Unit):=res dg.c (atJoin dg.b [1,0,1,1]) ⟨[(1,(.v (.int .i64) place)),(2,(.ptr 0 [])),(4,(.ptr 1 []))],[(0,some (.box (.agg [(.v (.slice (.int .i64)) b0),(.v (.slice (.int .i64)) b02),(.v (.int .i64) b03),(.v (.int .i64) b04)]))),(1,some (.box (.agg [(.sl 2),(.sl 3),(.v (.int .i64) 0),(.v (.int .i64) 0)]))),(2,some (.row (.int .i64) l2 false)),(3,some (.row (.int .i64) l2 false))],4,[]⟩
def dg.L2 (place b1 b12:Int) (l2 l4 l5:List Int):Option (t4.den × Int × Unit):=res dg.c (atJoin dg.b [1,1,1,0,1]) ⟨[(1,(.v (.int .i64) place)),(4,(.ptr 0 [])),(7,(.ptr 1 []))],[(0,some (.box (.agg [(.sl 2),(.sl 3),(.v (.int .i64) 0),(.v (.int .i64) 0)]))),(1,some (.box (.agg [(.sl 4),(.sl 5),(.v (.int .i64) b1),(.v (.int .i64) b12)]))),(2,some (.row (.int .i64) l2 false)),(3,some (.row (.int .i64) l2 false)),(4,some (.row (.int .i64) l4 false)),(5,some (.row (.int .i64) l5 false))],6,[]⟩
def dg.L3 (place b1 b12:Int) (l2 l4 l5:List Int):Option (t4.den × Int × Unit):=res dg.c (atJoin dg.b [1,1,1,1,1,0,1]) ⟨[(1,(.v (.int .i64) place)),(4,(.ptr 0 [])),(7,(.ptr 1 []))],[(0,some (.box (.agg [(.sl 2),(.sl 3),(.v (.int .i64) 0),(.v (.int .i64) 0)]))),(1,some (.box (.agg [(.sl 4),(.sl 5),(.v (.int .i64) b1),(.v (.int .i64) b12)]))),(2,some (.row (.int .i64) l2 false)),(3,some (.row (.int .i64) l2 false)),(4,some (.row (.int .i64) l4 false)),(5,some (.row (.int .i64) l5 false))],6,[]⟩
theorem dg.spec:FnSpec Tryz.prog globs 114 dg.Fn:=spec_of (E:=dg.E) (envOk_at tabOk eqOk primsOk (.cons er.spec<|.cons gd.spec<|.cons gh.spec<|.cons ez.spec<|.nil)) mixOk Tryz.func114 (by kernel_rfl)
theorem dg.L1_eq (place b0 b02 b03 b04 l2):dg.L1 place b0 b02 b03 b04 l2=
 (gd.F (b0,b02,b03,b04,())).bind fun r0=>
 (gh.F r0.1 place).bind fun r1=>
 bif r1.1 then
  (ez.F r0.1 place).bind fun r2=>
  dg.L2 place r2.1.2.2.1 r2.1.2.2.2.1 l2 r2.1.1 r2.1.2.1
 else
  dg.L2 place r0.1.2.2.1 r0.1.2.2.2.1 l2 r0.1.1 r0.1.2.1:=res_eq (by kernel_rfl)
theorem dg.L2_eq (place b1 b12 l2 l4 l5):dg.L2 place b1 b12 l2 l4 l5=
 bif (decide ((0:Int)≤place∧(place:Int)<((List.length l5:Int)))) then
  bif (b1==(-1)) then
   dg.L3 place b1 place l2 l4 (List.set l5 (Int.toNat place) b1)
  else
   bif (decide ((0:Int)≤b1∧(b1:Int)<((List.length l4:Int)))) then
    dg.L3 place b1 b12 l2 (List.set l4 (Int.toNat b1) place) (List.set l5 (Int.toNat place) b1)
   else none
 else none:=res_eq (by kernel_rfl)
theorem dg.L3_eq (place b1 b12 l2 l4 l5):dg.L3 place b1 b12 l2 l4 l5=
 some ((l4,l5,place,b12,()),0,()):=res_eq (by kernel_rfl)
theorem dg.F_eq (o place):dg.F o place=
 (er.F o place).bind fun r0=>
 bif (r0.1 !=0) then
  some ((([]:List Int),([]:List Int),0,0,()),r0.1,())
 else
  dg.L1 place o.1 o.2.1 o.2.2.1 o.2.2.2.1 ([]:List Int):=by kernel_rfl
def cq.sg:Sig:=⟨[.val t5,.val (.int .u32),.val t0,.val (.int .u64)],[(t5,true),((.int .u32),true),(.bool,true),((.int .i64),true)]⟩
def cq.E:Env:=⟨tl,fun i=>look i [(106,aj.Fn),(107,eu.Fn),(108,fo.Fn),(109,dy.Fn),(110,dp.Fn),(111,gi.Fn),(112,gg.Fn),(113,cb.Fn),(114,dg.Fn)],[],eqs,globs,prims⟩
def cq.c:=cxOf cq.E cq.sg Tryz.f74
def cq.b:=body Tryz.f74
def cq.Fn:Fun:=fnOf cq.E cq.sg Tryz.f74
def cq.F (t:t5.den) (key:Int) (l:t0.den) (tick:Int):Option (t5.den × Int × Bool × Int × Unit):=cq.Fn.F (t,key,l,tick,())
def cq.L1 (key tick b0:Int) (b02:List Int) (b03:List t1.den) (b04:List Int) (b05:List Bool) (b06:Int) (b07:List t3.den) (b08 b09:List Int) (b010 b011:Int) (b1 b12 b13:Int) (l3:List Int) (l4:List t1.den) (l5:List Int) (l6:List Bool) (l7:List t3.den):Option (t5.den × Int × Bool × Int × Unit):=res cq.c (atJoin cq.b [1,0,1,1]) ⟨[(1,(.v (.int .u32) key)),(3,(.v (.int .u64) tick)),(4,(.ptr 0 [])),(6,(.ptr 1 [])),(8,(.ptr 2 [])),(9,(.v (.int .u32) 0)),(10,(.v .bool false))],[(0,some (.box (.agg [(.v (.int .i64) b0),(.v (.slice (.int .u32)) b02),(.v (.slice t1) b03),(.agg [(.v (.slice (.int .i64)) b04),(.v (.slice .bool) b05),(.v (.int .i64) b06)]),(.v (.slice t3) b07),(.agg [(.v (.slice (.int .i64)) b08),(.v (.slice (.int .i64)) b09),(.v (.int .i64) b010),(.v (.int .i64) b011)])]))),(1,some (.box (.agg [(.v (.int .i64) b1),(.v (.int .i64) b12),(.v (.int .i64) b13)]))),(2,some (.box (.agg [(.v (.int .i64) 0),(.sl 3),(.sl 4),(.agg [(.sl 5),(.sl 6),(.v (.int .i64) 0)]),(.sl 7),(.agg [(.sl 8),(.sl 9),(.v (.int .i64) 0),(.v (.int .i64) 0)])]))),(3,some (.row (.int .u32) l3 false)),(4,some (.row t1 l4 false)),(5,some (.row (.int .i64) l5 false)),(6,some (.row .bool l6 false)),(7,some (.row t3 l7 false)),(8,some (.row (.int .i64) l5 false)),(9,some (.row (.int .i64) l5 false))],10,[]⟩
def cq.L2 (key b0:Int) (b02:List Int) (b03:List t1.den) (b04:List Int) (b05:List Bool) (b06:Int) (b07:List t3.den) (b08 b09:List Int) (b010 b011:Int) (b2 b22:Int) (b23 b24:Int) (b25 b26:Int) (l3:List Int) (l4:List t1.den) (l5:List Int) (l6:List Bool) (l7:List t3.den):Option (t5.den × Int × Bool × Int × Unit):=res cq.c (atJoin cq.b [1,1,1,0,1]) ⟨[(1,(.v (.int .u32) key)),(4,(.ptr 0 [])),(8,(.ptr 1 [])),(9,(.v (.int .u32) 0)),(10,(.v .bool false)),(13,(.ptr 2 []))],[(0,some (.box (.agg [(.v (.int .i64) b0),(.v (.slice (.int .u32)) b02),(.v (.slice t1) b03),(.agg [(.v (.slice (.int .i64)) b04),(.v (.slice .bool) b05),(.v (.int .i64) b06)]),(.v (.slice t3) b07),(.agg [(.v (.slice (.int .i64)) b08),(.v (.slice (.int .i64)) b09),(.v (.int .i64) b010),(.v (.int .i64) b011)])]))),(1,some (.box (.agg [(.v (.int .i64) 0),(.sl 3),(.sl 4),(.agg [(.sl 5),(.sl 6),(.v (.int .i64) 0)]),(.sl 7),(.agg [(.sl 8),(.sl 9),(.v (.int .i64) 0),(.v (.int .i64) 0)])]))),(2,some (.box (.agg [(.agg [(.v (.int .i64) b2),(.v (.int .i64) b22),(.v (.int .i64) b23)]),(.v (.int .i64) b24),(.v (.int .i64) b25),(.v (.int .u64) b26)]))),(3,some (.row (.int .u32) l3 false)),(4,some (.row t1 l4 false)),(5,some (.row (.int .i64) l5 false)),(6,some (.row .bool l6 false)),(7,some (.row t3 l7 false)),(8,some (.row (.int .i64) l5 false)),(9,some (.row (.int .i64) l5 false))],10,[]⟩
def cq.L3 (key gone:Int) (evicted:Bool) (b0 b02:Int) (b03 b04:Int) (b1 b12:Int) (b13 b14:Int) (b15 b16:Int) (l2:List Int) (l3:List t1.den) (l4:List Int) (l5:List Bool) (l6:List t3.den) (l7 l8:List Int):Option (t5.den × Int × Bool × Int × Unit):=res cq.c (atJoin cq.b [1,1,1,1,1,1,0,1,0,0,1,1]) ⟨[(1,(.v (.int .u32) key)),(8,(.ptr 0 [])),(9,(.v (.int .u32) gone)),(10,(.v .bool evicted)),(13,(.ptr 1 []))],[(0,some (.box (.agg [(.v (.int .i64) b0),(.sl 2),(.sl 3),(.agg [(.sl 4),(.sl 5),(.v (.int .i64) b02)]),(.sl 6),(.agg [(.sl 7),(.sl 8),(.v (.int .i64) b03),(.v (.int .i64) b04)])]))),(1,some (.box (.agg [(.agg [(.v (.int .i64) b1),(.v (.int .i64) b12),(.v (.int .i64) b13)]),(.v (.int .i64) b14),(.v (.int .i64) b15),(.v (.int .u64) b16)]))),(2,some (.row (.int .u32) l2 false)),(3,some (.row t1 l3 false)),(4,some (.row (.int .i64) l4 false)),(5,some (.row .bool l5 false)),(6,some (.row t3 l6 false)),(7,some (.row (.int .i64) l7 false)),(8,some (.row (.int .i64) l8 false))],9,[]⟩
def cq.L4 (gone:Int) (evicted:Bool) (i b0:Int) (b02 b03 b04:Int) (l1:List Int) (l2:List t1.den) (l3:List Int) (l4:List Bool) (l5:List t3.den) (l6 l7:List Int):Option (t5.den × Int × Bool × Int × Unit):=res cq.c (atJoin cq.b [1,1,1,1,1,1,0,1]) ⟨[(8,(.ptr 0 [])),(9,(.v (.int .u32) gone)),(10,(.v .bool evicted)),(14,(.v (.int .i64) i))],[(0,some (.box (.agg [(.v (.int .i64) b0),(.sl 1),(.sl 2),(.agg [(.sl 3),(.sl 4),(.v (.int .i64) b02)]),(.sl 5),(.agg [(.sl 6),(.sl 7),(.v (.int .i64) b03),(.v (.int .i64) b04)])]))),(1,some (.row (.int .u32) l1 false)),(2,some (.row t1 l2 false)),(3,some (.row (.int .i64) l3 false)),(4,some (.row .bool l4 false)),(5,some (.row t3 l5 false)),(6,some (.row (.int .i64) l6 false)),(7,some (.row (.int .i64) l7 false))],8,[]⟩
theorem cq.spec:FnSpec Tryz.prog globs 74 cq.Fn:=spec_of (E:=cq.E) (envOk_at tabOk eqOk primsOk (.cons aj.spec<|.cons eu.spec<|.cons fo.spec<|.cons dy.spec<|.cons dp.spec<|.cons gi.spec<|.cons gg.spec<|.cons cb.spec<|.cons dg.spec<|.nil)) mixOk Tryz.func74 (by kernel_rfl)
theorem cq.L1_eq (key tick b0 b02 b03 b04 b05 b06 b07 b08 b09 b010 b011 b1 b12 b13 l3 l4 l5 l6 l7):cq.L1 key tick b0 b02 b03 b04 b05 b06 b07 b08 b09 b010 b011 b1 b12 b13 l3 l4 l5 l6 l7=
 (eu.F (b1,b12,b13,()) tick).bind fun r0=>
 bif (r0.2.1 !=0) then
  some ((0,([]:List Int),([]:List t1.den),(([]:List Int),([]:List Bool),0,()),([]:List t3.den),(([]:List Int),([]:List Int),0,0,()),()),0,false,r0.2.1,())
 else
  cq.L2 key b0 b02 b03 b04 b05 b06 b07 b08 b09 b010 b011 r0.1.1.1 r0.1.1.2.1 r0.1.1.2.2.1 r0.1.2.1 r0.1.2.2.1 r0.1.2.2.2.1 l3 l4 l5 l6 l7:=res_eq (by kernel_rfl)
theorem cq.L2_eq (key b0 b02 b03 b04 b05 b06 b07 b08 b09 b010 b011 b2 b22 b23 b24 b25 b26 l3 l4 l5 l6 l7):cq.L2 key b0 b02 b03 b04 b05 b06 b07 b08 b09 b010 b011 b2 b22 b23 b24 b25 b26 l3 l4 l5 l6 l7=
 (fo.F (b0,b02,b03,(b04,b05,b06,()),b07,(b08,b09,b010,b011,()),())).bind fun r0=>
 (dy.F r0.1 key).bind fun r1=>
 bif (decide ((r1.1:Int)<0)) then
  (dp.F r0.1.2.2.2.1).bind fun r2=>
  bif (r2.2.2.1 !=0) then
   (gi.F r0.1.2.2.2.2.2.1).bind fun r3=>
   bif (decide ((0:Int)≤r3.1∧(r3.1:Int)<((List.length r0.1.2.1:Int)))) then
    (gg.F r0.1 (List.getD r0.1.2.1 (Int.toNat r3.1) 0)).bind fun r4=>
    cq.L3 key (List.getD r0.1.2.1 (Int.toNat r3.1) 0) true r4.1.1 r4.1.2.2.2.1.2.2.1 r4.1.2.2.2.2.2.1.2.2.1 r4.1.2.2.2.2.2.1.2.2.2.1 b2 b22 b23 b24 b25 b26 r4.1.2.1 r4.1.2.2.1 r4.1.2.2.2.1.1 r4.1.2.2.2.1.2.1 r4.1.2.2.2.2.1 r4.1.2.2.2.2.2.1.1 r4.1.2.2.2.2.2.1.2.1
   else none
  else
   cq.L3 key 0 false r0.1.1 r0.1.2.2.2.1.2.2.1 r0.1.2.2.2.2.2.1.2.2.1 r0.1.2.2.2.2.2.1.2.2.2.1 b2 b22 b23 b24 b25 b26 r0.1.2.1 r0.1.2.2.1 r0.1.2.2.2.1.1 r0.1.2.2.2.1.2.1 r0.1.2.2.2.2.1 r0.1.2.2.2.2.2.1.1 r0.1.2.2.2.2.2.1.2.1
 else
  cq.L4 0 false r1.1 r0.1.1 r0.1.2.2.2.1.2.2.1 r0.1.2.2.2.2.2.1.2.2.1 r0.1.2.2.2.2.2.1.2.2.2.1 r0.1.2.1 r0.1.2.2.1 r0.1.2.2.2.1.1 r0.1.2.2.2.1.2.1 r0.1.2.2.2.2.1 r0.1.2.2.2.2.2.1.1 r0.1.2.2.2.2.2.1.2.1:=res_eq (by kernel_rfl)
theorem cq.L3_eq (key gone evicted b0 b02 b03 b04 b1 b12 b13 b14 b15 b16 l2 l3 l4 l5 l6 l7 l8):cq.L3 key gone evicted b0 b02 b03 b04 b1 b12 b13 b14 b15 b16 l2 l3 l4 l5 l6 l7 l8=
 (dp.F (l4,l5,b02,())).bind fun r0=>
 (cb.F l6 key r0.2.1).bind fun r1=>
 bif (decide ((0:Int)≤r0.2.1∧(r0.2.1:Int)<((List.length l2:Int)))) then
  bif (decide ((0:Int)≤r0.2.1∧(r0.2.1:Int)<((List.length l3:Int)))) then
   cq.L4 gone evicted r0.2.1 b0 r0.1.2.2.1 b03 b04 (List.set l2 (Int.toNat r0.2.1) key) (List.set l3 (Int.toNat r0.2.1) ((b1,b12,b13,()),b14,b15,b16,())) r0.1.1 r0.1.2.1 r1.1 l7 l8
  else none
 else none:=res_eq (by kernel_rfl)
theorem cq.L4_eq (gone evicted i b0 b02 b03 b04 l1 l2 l3 l4 l5 l6 l7):cq.L4 gone evicted i b0 b02 b03 b04 l1 l2 l3 l4 l5 l6 l7=
 (dg.F (l6,l7,b03,b04,()) i).bind fun r0=>
 some ((b0,l1,l2,(l3,l4,b02,()),l5,r0.1,()),gone,evicted,0,()):=res_eq (by kernel_rfl)
theorem cq.F_eq (t key l tick):cq.F t key l tick=
 (aj.F t).bind fun r0=>
 bif (r0.1 !=0) then
  some ((0,([]:List Int),([]:List t1.den),(([]:List Int),([]:List Bool),0,()),([]:List t3.den),(([]:List Int),([]:List Int),0,0,()),()),0,false,r0.1,())
 else
  cq.L1 key tick t.1 t.2.1 t.2.2.1 t.2.2.2.1.1 t.2.2.2.1.2.1 t.2.2.2.1.2.2.1 t.2.2.2.2.1 t.2.2.2.2.2.1.1 t.2.2.2.2.2.1.2.1 t.2.2.2.2.2.1.2.2.1 t.2.2.2.2.2.1.2.2.2.1 l.1 l.2.1 l.2.2.1 ([]:List Int) ([]:List t1.den) ([]:List Int) ([]:List Bool) ([]:List t3.den):=by kernel_rfl
def dk.sg:Sig:=⟨[.val t5,.val (.int .u32),.val t1],[(t5,true),((.int .i64),true)]⟩
def dk.E:Env:=⟨tl,fun i=>look i [(99,d9.Fn),(106,aj.Fn),(108,fo.Fn),(109,dy.Fn)],[],eqs,globs,prims⟩
def dk.c:=cxOf dk.E dk.sg Tryz.f75
def dk.b:=body Tryz.f75
def dk.Fn:Fun:=fnOf dk.E dk.sg Tryz.f75
def dk.F (t:t5.den) (key:Int) (b:t1.den):Option (t5.den × Int × Unit):=dk.Fn.F (t,key,b,())
def dk.L1 (key b0:Int) (b02:List Int) (b03:List t1.den) (b04:List Int) (b05:List Bool) (b06:Int) (b07:List t3.den) (b08 b09:List Int) (b010 b011:Int) (b1 b12:Int) (b13 b14:Int) (b15 b16:Int) (l3:List Int) (l4:List t1.den) (l5:List Int) (l6:List Bool) (l7:List t3.den):Option (t5.den × Int × Unit):=res dk.c (atJoin dk.b [1,0,1,1]) ⟨[(1,(.v (.int .u32) key)),(3,(.ptr 0 [])),(5,(.ptr 1 [])),(6,(.ptr 2 []))],[(0,some (.box (.agg [(.v (.int .i64) b0),(.v (.slice (.int .u32)) b02),(.v (.slice t1) b03),(.agg [(.v (.slice (.int .i64)) b04),(.v (.slice .bool) b05),(.v (.int .i64) b06)]),(.v (.slice t3) b07),(.agg [(.v (.slice (.int .i64)) b08),(.v (.slice (.int .i64)) b09),(.v (.int .i64) b010),(.v (.int .i64) b011)])]))),(1,some (.box (.agg [(.agg [(.v (.int .i64) b1),(.v (.int .i64) b12),(.v (.int .i64) b13)]),(.v (.int .i64) b14),(.v (.int .i64) b15),(.v (.int .u64) b16)]))),(2,some (.box (.agg [(.v (.int .i64) 0),(.sl 3),(.sl 4),(.agg [(.sl 5),(.sl 6),(.v (.int .i64) 0)]),(.sl 7),(.agg [(.sl 8),(.sl 9),(.v (.int .i64) 0),(.v (.int .i64) 0)])]))),(3,some (.row (.int .u32) l3 false)),(4,some (.row t1 l4 false)),(5,some (.row (.int .i64) l5 false)),(6,some (.row .bool l6 false)),(7,some (.row t3 l7 false)),(8,some (.row (.int .i64) l5 false)),(9,some (.row (.int .i64) l5 false))],10,[]⟩
def dk.L2 (key b0:Int) (b02:List Int) (b03:List t1.den) (b04:List Int) (b05:List Bool) (b06:Int) (b07:List t3.den) (b08 b09:List Int) (b010 b011:Int) (b1 b12:Int) (b13 b14:Int) (b15 b16:Int) (l3:List Int) (l4:List t1.den) (l5:List Int) (l6:List Bool) (l7:List t3.den):Option (t5.den × Int × Unit):=res dk.c (atJoin dk.b [1,1,0,1,1]) ⟨[(1,(.v (.int .u32) key)),(3,(.ptr 0 [])),(5,(.ptr 1 [])),(6,(.ptr 2 []))],[(0,some (.box (.agg [(.v (.int .i64) b0),(.v (.slice (.int .u32)) b02),(.v (.slice t1) b03),(.agg [(.v (.slice (.int .i64)) b04),(.v (.slice .bool) b05),(.v (.int .i64) b06)]),(.v (.slice t3) b07),(.agg [(.v (.slice (.int .i64)) b08),(.v (.slice (.int .i64)) b09),(.v (.int .i64) b010),(.v (.int .i64) b011)])]))),(1,some (.box (.agg [(.agg [(.v (.int .i64) b1),(.v (.int .i64) b12),(.v (.int .i64) b13)]),(.v (.int .i64) b14),(.v (.int .i64) b15),(.v (.int .u64) b16)]))),(2,some (.box (.agg [(.v (.int .i64) 0),(.sl 3),(.sl 4),(.agg [(.sl 5),(.sl 6),(.v (.int .i64) 0)]),(.sl 7),(.agg [(.sl 8),(.sl 9),(.v (.int .i64) 0),(.v (.int .i64) 0)])]))),(3,some (.row (.int .u32) l3 false)),(4,some (.row t1 l4 false)),(5,some (.row (.int .i64) l5 false)),(6,some (.row .bool l6 false)),(7,some (.row t3 l7 false)),(8,some (.row (.int .i64) l5 false)),(9,some (.row (.int .i64) l5 false))],10,[]⟩
def dk.L3 (i b0:Int) (b02:List Int) (b03:List t1.den) (b04:List Int) (b05:List Bool) (b06:Int) (b07:List t3.den) (b08 b09:List Int) (b010 b011:Int) (b1 b12:Int) (b13 b14:Int) (b15 b16:Int) (l3:List Int) (l4:List t1.den) (l5:List Int) (l6:List Bool) (l7:List t3.den):Option (t5.den × Int × Unit):=res dk.c (atJoin dk.b [1,1,1,1,0,1]) ⟨[(3,(.ptr 0 [])),(5,(.ptr 1 [])),(6,(.ptr 2 [])),(10,(.v (.int .i64) i))],[(0,some (.box (.agg [(.v (.int .i64) b0),(.v (.slice (.int .u32)) b02),(.v (.slice t1) b03),(.agg [(.v (.slice (.int .i64)) b04),(.v (.slice .bool) b05),(.v (.int .i64) b06)]),(.v (.slice t3) b07),(.agg [(.v (.slice (.int .i64)) b08),(.v (.slice (.int .i64)) b09),(.v (.int .i64) b010),(.v (.int .i64) b011)])]))),(1,some (.box (.agg [(.agg [(.v (.int .i64) b1),(.v (.int .i64) b12),(.v (.int .i64) b13)]),(.v (.int .i64) b14),(.v (.int .i64) b15),(.v (.int .u64) b16)]))),(2,some (.box (.agg [(.v (.int .i64) 0),(.sl 3),(.sl 4),(.agg [(.sl 5),(.sl 6),(.v (.int .i64) 0)]),(.sl 7),(.agg [(.sl 8),(.sl 9),(.v (.int .i64) 0),(.v (.int .i64) 0)])]))),(3,some (.row (.int .u32) l3 false)),(4,some (.row t1 l4 false)),(5,some (.row (.int .i64) l5 false)),(6,some (.row .bool l6 false)),(7,some (.row t3 l7 false)),(8,some (.row (.int .i64) l5 false)),(9,some (.row (.int .i64) l5 false))],10,[]⟩
theorem dk.spec:FnSpec Tryz.prog globs 75 dk.Fn:=spec_of (E:=dk.E) (envOk_at tabOk eqOk primsOk (.cons d9.spec<|.cons aj.spec<|.cons fo.spec<|.cons dy.spec<|.nil)) mixOk Tryz.func75 (by kernel_rfl)
theorem dk.L1_eq (key b0 b02 b03 b04 b05 b06 b07 b08 b09 b010 b011 b1 b12 b13 b14 b15 b16 l3 l4 l5 l6 l7):dk.L1 key b0 b02 b03 b04 b05 b06 b07 b08 b09 b010 b011 b1 b12 b13 b14 b15 b16 l3 l4 l5 l6 l7=
 (d9.F ((b1,b12,b13,()),b14,b15,b16,())).bind fun r0=>
 bif (r0.1 !=0) then
  some ((0,([]:List Int),([]:List t1.den),(([]:List Int),([]:List Bool),0,()),([]:List t3.den),(([]:List Int),([]:List Int),0,0,()),()),r0.1,())
 else
  dk.L2 key b0 b02 b03 b04 b05 b06 b07 b08 b09 b010 b011 b1 b12 b13 b14 b15 b16 l3 l4 l5 l6 l7:=res_eq (by kernel_rfl)
theorem dk.L2_eq (key b0 b02 b03 b04 b05 b06 b07 b08 b09 b010 b011 b1 b12 b13 b14 b15 b16 l3 l4 l5 l6 l7):dk.L2 key b0 b02 b03 b04 b05 b06 b07 b08 b09 b010 b011 b1 b12 b13 b14 b15 b16 l3 l4 l5 l6 l7=
 (dy.F (b0,b02,b03,(b04,b05,b06,()),b07,(b08,b09,b010,b011,()),()) key).bind fun r0=>
 bif (decide ((r0.1:Int)<0)) then
  some ((0,([]:List Int),([]:List t1.den),(([]:List Int),([]:List Bool),0,()),([]:List t3.den),(([]:List Int),([]:List Int),0,0,()),()),6,())
 else
  dk.L3 r0.1 b0 b02 b03 b04 b05 b06 b07 b08 b09 b010 b011 b1 b12 b13 b14 b15 b16 l3 l4 l5 l6 l7:=res_eq (by kernel_rfl)
theorem dk.L3_eq (i b0 b02 b03 b04 b05 b06 b07 b08 b09 b010 b011 b1 b12 b13 b14 b15 b16 l3 l4 l5 l6 l7):dk.L3 i b0 b02 b03 b04 b05 b06 b07 b08 b09 b010 b011 b1 b12 b13 b14 b15 b16 l3 l4 l5 l6 l7=
 (fo.F (b0,b02,b03,(b04,b05,b06,()),b07,(b08,b09,b010,b011,()),())).bind fun r0=>
 bif (decide ((0:Int)≤i∧(i:Int)<((List.length r0.1.2.2.1:Int)))) then
  some ((r0.1.1,r0.1.2.1,(List.set r0.1.2.2.1 (Int.toNat i) ((b1,b12,b13,()),b14,b15,b16,())),r0.1.2.2.2.1,r0.1.2.2.2.2.1,r0.1.2.2.2.2.2.1,()),0,())
 else none:=res_eq (by kernel_rfl)
theorem dk.F_eq (t key b):dk.F t key b=
 (aj.F t).bind fun r0=>
 bif (r0.1 !=0) then
  some ((0,([]:List Int),([]:List t1.den),(([]:List Int),([]:List Bool),0,()),([]:List t3.den),(([]:List Int),([]:List Int),0,0,()),()),r0.1,())
 else
  dk.L1 key t.1 t.2.1 t.2.2.1 t.2.2.2.1.1 t.2.2.2.1.2.1 t.2.2.2.1.2.2.1 t.2.2.2.2.1 t.2.2.2.2.2.1.1 t.2.2.2.2.2.1.2.1 t.2.2.2.2.2.1.2.2.1 t.2.2.2.2.2.1.2.2.2.1 b.1.1 b.1.2.1 b.1.2.2.1 b.2.1 b.2.2.1 b.2.2.2.1 ([]:List Int) ([]:List t1.den) ([]:List Int) ([]:List Bool) ([]:List t3.den):=by kernel_rfl
def gp.sg:Sig:=⟨[.val (.arr 3 t0)],[(.bool,true)]⟩
def gp.E:Env:=⟨tl,fun i=>look i [(98,cy.Fn)],[],eqs,globs,prims⟩
def gp.Fn:Fun:=fnOf gp.E gp.sg Tryz.f168
end
end Go.Proofs.YtkihjakbbcajbaaGreat.PM
namespace Go.Proofs.YtkihjakbbcajbaaGreat.PM
set_option linter.unusedSimpArgs false
set_option linter.unusedVariables false
open Go
def rnd (r:Option Nat):Fence:={Fence.wide with round:=r}
section
variable {P:Program} {r:Option Nat} {n:Nat} {Q:Exit→Act→World→Prop}
def onlyN (Q:Exit→Act→World→Prop):Exit→Act→World→Prop:=fun e a w=>e=.normal∧Q .normal a w
theorem wp_to {Q0:Exit→Act→World→Prop} {o:Oper} {a:Act} {w:World} {K K':Act→World→Prop} (hd:∀c,o.op≠ .defer c) (hdef:∀d w',(execOp a.eval o).run P w≠ .ok (.defer d) w') (hK:∀v w',K (a.put o.dst v) w'→K' (a.put o.dst v) w') (h:o.wp P a w K (onlyN Q0)):o.wpIn (rnd r) n P a w K' Q:=by
 unfold Oper.wp at h
 refine ⟨fun _ _=>trivial,?_⟩
 rw [Oper.semAt_eq _ _ _ hd]
 generalize (execOp a.eval o).run P w=res at h hdef ⊢
 cases res with
 |ok nx w'=>
  cases nx with
  |value v=>exact hK v w' h
  |skip=>exact hK undef w' h
  |defer d=>exact absurd rfl (hdef d w')
  |enter f args=>
   refine ⟨(fun h=>by cases h),?_⟩
   have h:Calls P f args w' fun
    |.returned v,w''=>K (a.put o.dst v) w''
    |.panicked chain,w''=>onlyN Q0 (.panic chain) a w''
    |.outgrown,_=>LetsOut (onlyN Q0):=h
   have h2:=(callsIn_wide (n:=n - 1)).2 h
   refine CallsIn.mono (F:=Fence.wide) h2 (fun e w'' he=>?_)
   cases e with
   |returned v=>exact hK v w'' he
   |panicked c=>exact absurd he.1 (by simp)
   |outgrown=>
    obtain ⟨a0,w0,he⟩:=he
    exact absurd he.1 (by simp)
  |row row args=>
   refine ⟨(fun h=>by cases h),fun c cs _=>?_⟩
   obtain ⟨v,w'',h1,h2⟩:=h c cs
   exact ⟨v,w'',hK v w'' h1,stepsIn_wide.2 h2⟩
  |_=>exact h.elim
 |halt hh w'=>
  cases hh with
  |panic v=>exact absurd h.1 (by simp)
  |_=>exact h.elim
def quiet (o:Oper):Bool:=match o.op with
 |.defer _|.call _|.nilCheck _|.recv ..|.select ..|.go _|.send ..=>false
 |_=>true
theorem quiet_defer {o:Oper} (h:quiet o=true) (c:Call):o.op≠ .defer c:=fun e=>by
 unfold quiet at h;rw [e] at h;cases h
theorem andThen_defer {α:Type} {x:Result α} {f:α→World→Result Next} {d:Deferred} {w':World} (hf:∀a w,f a w≠ .ok (.defer d) w'):x.andThen f≠ .ok (.defer d) w':=by
 cases x with
 |ok a w=>exact hf a w
 |halt h w=>intro e;simp [Result.andThen] at e
theorem quiet_run {o:Oper} (h:quiet o=true) (ρ:Operand→Value) (w:World) (d:Deferred) (w':World):(execOp ρ o).run P w≠ .ok (.defer d) w':=by
 unfold execOp
 cases ho:o.op with
 |defer c=>unfold quiet at h;rw [ho] at h;cases h
 |call c=>unfold quiet at h;rw [ho] at h;cases h
 |nilCheck x=>unfold quiet at h;rw [ho] at h;cases h
 |recv a b c=>unfold quiet at h;rw [ho] at h;cases h
 |select a b=>unfold quiet at h;rw [ho] at h;cases h
 |go c=>unfold quiet at h;rw [ho] at h;cases h
 |send a b=>unfold quiet at h;rw [ho] at h;cases h
 |_=>
  simp only [Sem.run_bind]
  first
   |exact andThen_defer (fun a w=>by simp)
   |(intro e;simp at e;done)
   |exact andThen_defer (fun a w=>by first|(simp;done)|exact andThen_defer (fun a w=>by simp))
theorem wpOp_to {Q0:Exit→Act→World→Prop} {ops:Array Oper} (hd:∀(i:Nat) o,ops[i]?=some o→quiet o=true) {i:Nat} {a:Act} {w:World} {K K':Act→World→Prop} (hK:∀a' w',(a'=a∨∃o v,ops[i]?=some o∧a'=a.put o.dst v)→K a' w'→K' a' w') (h:wpOp P ops (onlyN Q0) i K a w):wpOpIn (rnd r) n P ops Q i K' a w:=by
 unfold wpOp at h
 unfold wpOpIn
 cases ho:ops[i]? with
 |none=>rw [ho] at h;exact hK _ _ (.inl rfl) h
 |some o=>
  rw [ho] at h
  simp only at h ⊢
  split at h
  ·rename_i hw
   rw [if_pos hw]
   rcases h with h|⟨_,a0,w0,h⟩
   ·exact wp_to (quiet_defer (hd i o ho)) (fun d w'=>quiet_run (hd i o ho) _ _ d w') (fun v w'=>hK _ w' (.inr ⟨o,v,ho,rfl⟩)) h
   ·exact absurd h.1 (by simp)
  ·rename_i hw
   rw [if_neg hw]
   exact ⟨fun _ _=>trivial,hK _ _ (.inr ⟨o,undef,ho,rfl⟩) h⟩
def Fr (ops:Array Oper) (l:List Nat) (a a':Act):Prop:=∀t,(∀i∈l,∀o,ops[i]?=some o→o.dst≠some t)→a'.tmps.getD t undef=a.tmps.getD t undef
theorem put_other (a:Act) (d:Option Nat) (v:Value) (t:Nat) (h:d≠some t):(a.put d v).tmps.getD t undef=a.tmps.getD t undef:=by
 cases d with
 |none=>rfl
 |some e=>
  have:e≠t:=fun h'=>h (by rw [h'])
  simp only [Act.put,Array.getD_eq_getD_getElem?]
  rw [Array.getElem?_setIfInBounds_ne this]
theorem wpOps_to {Q0:Exit→Act→World→Prop} {ops:Array Oper} (hd:∀(i:Nat) o,ops[i]?=some o→quiet o=true):∀(l:List Nat) (a:Act) (w:World),(∀a' w',Q0 .normal a' w'→Fr ops l a a'→Q .normal a' w')→wpOps P ops (onlyN Q0) l a w→wpOpsIn (rnd r) n P ops Q l a w
 |[],a,w,hQ,h=>hQ a w h.2 (fun t _=>rfl)
 |i::l,a,w,hQ,h=>by
  rw [wpOps_cons] at h
  rw [wpOpsIn_cons]
  refine wpOp_to hd (fun a1 w1 hc h=>wpOps_to hd l a1 w1 (fun a' w' h1 h2=>hQ a' w' h1 (fun t ht=>?_)) h) h
  rw [h2 t (fun j hj=>ht j (List.mem_cons_of_mem _ hj))]
  rcases hc with rfl|⟨o,v,ho,rfl⟩
  ·rfl
  ·exact put_other a o.dst v t (ht i (List.mem_cons_self ..) o ho)
def noDefer (ops:List Oper):Bool:=ops.all quiet
theorem noDefer_at {ops:List Oper} (h:noDefer ops=true) (i:Nat) (o:Oper) (ho:ops.toArray[i]?=some o):quiet o=true:=
 List.all_eq_true.1 h o (List.mem_of_getElem? (by simpa using ho))
end
section
variable {P:Program} {E:Env} {B:Bs} {io:List PV} {r:Option Nat} {n:Nat} {Q:Exit→Act→World→Prop}
theorem regionIn_ok (hE:EnvOk P E) (hgl:E.globs=B.gl) {id:Nat} {ops:List Oper} {nx:Nat} {tm tm':List (Nat × PV)} {h h':Hp} {g:Gh} {A:Nat→Prop} {a:Act} {w:World}
  (e:(opsD E ops ops nx tm h [] (fun tm hp _=> .done (tm,hp))).ev (fun _ _=>(none:Option (List (Nat × PV) × Hp)))=some (tm',h')) (hnt:dstOk B.nt ops=true) (hnd:noDefer ops=true) (R:RS B g A a w tm h io)
  (fin:∀g A a' w,RS B g A a' w tm' h' io→(∀t,(∀o∈ops,o.dst≠some t)→a'.tmps.getD t undef=a.tmps.getD t undef)→Q .normal a' w):(Code.region id ops.toArray false).wpIn (rnd r) n P Q a w:=by
 obtain ⟨rc,tm1,hl,ran,htm,e2⟩:=opsD_ran (all:=ops) (nx:=nx) (tm0:=tm) (h0:=h) ops [] [] tm (by simp) rfl (fun _=>rfl) (fun j h=>by simp at h) (by simpa [hpS] using e)
 simp only [DT.ev,Option.some.injEq,Prod.mk.injEq] at e2
 obtain ⟨rfl,rfl⟩:=e2
 refine wpIn_region (wpOps_to (Q0:=fun _ a' w'=>∃g A,RS B g A a' w' tm1 (hpS (fun k=>(rcAt rc k).ws) h (fun _=>true) ops.length) io) (noDefer_at hnd) _ _ _ (fun a' w' ⟨g,A,R'⟩ hf=>fin g A a' w' R' (fun t ht=>hf t (fun i _ o ho=>ht o (List.mem_of_getElem? (by simpa using ho))))) ?_)
 have hz:∀{X:Nat→PV} n,tmS (dstOf ops) X tm (fun _=>false) n=tm:=fun {X} n=>by
  induction n with
  |zero=>rfl
  |succ n ih=>rw [tmS_succ];exact ih
 have hz2:∀{V:Nat→Hp} n,hpS V h (fun _=>false) n=h:=fun {V} n=>by
  induction n with
  |zero=>rfl
  |succ n ih=>rw [hpS_succ];exact ih
 have hsz:ops.toArray.size=ops.length:=by simp
 rw [hsz,List.range_eq_range']
 refine reg_seq hE hgl hl ran (dstOk_at hnt) (fun g A a w R'=>⟨rfl,g,A,R'.congr (fun t=>(htm t).symm) (fun _=>rfl)⟩) ops.length 0 (by omega) g A a w ?_
 rw [tmS_ext (S':=fun _=>false) _ (fun k _=>by simp),hpS_ext (S':=fun _=>false) _ (fun k _=>by simp),hz,hz2]
 exact R
end
end Go.Proofs.YtkihjakbbcajbaaGreat.PM
namespace Go.Proofs.YtkihjakbbcajbaaGreat.PM
set_option linter.unusedSimpArgs false
set_option linter.unusedVariables false
open Go
def subC (c:Code) (p:List Nat):Code:=(focus c p []).1
def regOps:Code→List Oper
 |.region _ ops _=>ops.toList
 |_=>[]
def rfAsg:Code→Code
 |.rangeFunc _ _ a _=>a
 |_=> .skip
def rfBdy:Code→Code
 |.rangeFunc _ _ _ b=>b
 |_=> .skip
structure BoxF where
 id:Nat
 b:Nat
 t:Ty
 x:t.den
structure Boxes (A:Nat→Prop) (w:World) (l:List BoxF):Prop where
 cell:∀q∈l,∃c e,w.heap[q.b]?=some (.cells c e (0,0))∧TRel A w q.t c.toList q.x
 out:∀q∈l,¬A q.b
 ids:(l.map (·.id)).Nodup
 bs:(l.map (·.b)).Nodup
 lt:∀r,A r→r<w.heap.size
def hpL (l:List BoxF):Hp:=l.map fun q=>(q.id,some (.box (mk q.t q.x)))
section
variable {gl:List (Nat × PV)} {A:Nat→Prop} {w:World} {l:List BoxF}
theorem Boxes.turn {w':World} (C:Boxes A w l) (hA:∀r,(A r∨∃q∈l,r=q.b)→w'.heap[r]?=w.heap[r]?) (hz:w.heap.size≤w'.heap.size):Boxes A w' l:=by
 refine ⟨fun q hq=>?_,C.out,C.ids,C.bs,fun r hr=>Nat.lt_of_lt_of_le (C.lt r hr) hz⟩
 obtain ⟨c,e,k,r⟩:=C.cell q hq
 exact ⟨c,e,by rw [hA q.b (.inr ⟨q,hq,rfl⟩)];exact k,TRel.mono (fun _ h=>h) (fun r hr=>hA r (.inl hr)) _ _ _ r⟩
end
end Go.Proofs.YtkihjakbbcajbaaGreat.PM
namespace Go.Proofs.YtkihjakbbcajbaaGreat.PM
open Go Go.Proofs
noncomputable section
set_option linter.unusedVariables false
def part_Check.E:Env:=⟨tl,fun i=>look i [(99,d9.Fn),(106,aj.Fn),(168,gp.Fn)],[],eqs,globs,prims⟩
def part_Check.b:=body Tryz.f128
def part_Check.S1 (b0:Int) (b02:List t0.den) (b03 b04:Int) (b05 b06:Int) (b07 b08 b09:Int) (b010:List Int) (b011:List t1.den) (b012:List Int) (b013:List Bool) (b014:Int) (b015:List t3.den) (b016 b017:List Int) (b018 b019 b020:Int) (b021:List Int) (b022:List t1.den) (b023:List Int) (b024:List Bool) (b025:Int) (b026:List t3.den) (b027 b028:List Int) (b029 b030:Int) (b031:List Int) (b032 b033 b034:Int):St:=⟨[(1,(.ptr 0 [])),(2,(.ptr 1 []))],[(0,some (.box (.agg [(.v (.int .u32) b0),(.v (.arr 3 t0) b02),(.agg [(.agg [(.v (.int .i64) b03),(.v (.int .i64) b04),(.v (.int .i64) b05)]),(.v (.int .i64) b06),(.v (.int .i64) b07),(.v (.int .u64) b08)]),(.agg [(.v (.int .i64) b09),(.v (.slice (.int .u32)) b010),(.v (.slice t1) b011),(.agg [(.v (.slice (.int .i64)) b012),(.v (.slice .bool) b013),(.v (.int .i64) b014)]),(.v (.slice t3) b015),(.agg [(.v (.slice (.int .i64)) b016),(.v (.slice (.int .i64)) b017),(.v (.int .i64) b018),(.v (.int .i64) b019)])]),(.agg [(.v (.int .i64) b020),(.v (.slice (.int .u32)) b021),(.v (.slice t1) b022),(.agg [(.v (.slice (.int .i64)) b023),(.v (.slice .bool) b024),(.v (.int .i64) b025)]),(.v (.slice t3) b026),(.agg [(.v (.slice (.int .i64)) b027),(.v (.slice (.int .i64)) b028),(.v (.int .i64) b029),(.v (.int .i64) b030)])]),(.v (.slice (.int .u32)) b031),(.agg [(.v (.int .u64) b032),(.v (.int .u64) b033),(.v (.int .u64) b034)])]))),(1,some (.box (.v (.int .i64) 0)))],2,[]⟩
end
end Go.Proofs.YtkihjakbbcajbaaGreat.PM
namespace Go.Proofs.YtkihjakbbcajbaaGreat.Kd
set_option linter.unusedSimpArgs false
set_option linter.unusedVariables false
open Go Go.Proofs Go.Proofs.YtkihjakbbcajbaaGreat.PM
def tv (all:List Oper) (X:Nat→Value) (a:Act) (S:Nat→Bool):Nat→Nat→Value
 |0,t=>a.tmps.getD t undef
 |k+1,t=>if S k=true∧dstOf all k=some t then X k else tv all X a S k t
structure AtS (all:List Oper) (X:Nat→Value) (a:Act) (n0:Nat) (S:Nat→Bool) (a':Act):Prop where
 size:a'.tmps.size=a.tmps.size
 defs:a'.defers=a.defers
 vals:∀t,a'.tmps.getD t undef=tv all X a S n0 t
section
variable {all:List Oper} {X:Nat→Value} {a:Act} {S:Nat→Bool}
theorem tv_off:∀(k t:Nat),(∀j,j<k→S j=true→dstOf all j≠some t)→tv all X a S k t=a.tmps.getD t undef
 |0,_,_=>rfl
 |k+1,t,h=>by
  unfold tv
  rw [if_neg (fun ⟨h1,h2⟩=>h k (by omega) h1 h2)]
  exact tv_off k t (fun j hj=>h j (by omega))
theorem tv_on (hd:∀i j d,dstOf all i=some d→dstOf all j=some d→i=j) {i t:Nat} (hi:dstOf all i=some t) (hs:S i=true):∀k,i<k→tv all X a S k t=X i
 |k+1,h=>by
  unfold tv
  by_cases e:i=k
  ·subst e;rw [if_pos ⟨hs,hi⟩]
  ·rw [if_neg (fun ⟨_,h2⟩=>e (hd i k t hi h2))]
   exact tv_on hd hi hs k (by omega)
theorem AtS.on {n0:Nat} {a':Act} (hd:∀i j d,dstOf all i=some d→dstOf all j=some d→i=j) (h:AtS all X a n0 S a') {i t:Nat} (hi:dstOf all i=some t) (hs:S i=true) (hk:i<n0):a'.tmps.getD t undef=X i:=
 (h.vals t).trans (tv_on hd hi hs n0 hk)
theorem AtS.off {n0:Nat} {a':Act} (h:AtS all X a n0 S a') {t:Nat} (ht:∀j,j<n0→dstOf all j≠some t):a'.tmps.getD t undef=a.tmps.getD t undef:=
 (h.vals t).trans (tv_off n0 t (fun j hj _=>ht j hj))
end
theorem ev {a:Act} {t:Nat} {v:Value} (h:a.tmps.getD t undef=v):a.eval (.tmp t)=v:=h
end Go.Proofs.YtkihjakbbcajbaaGreat.Kd
namespace Go.Proofs.YtkihjakbbcajbaaGreat.Kd
set_option linter.unusedSimpArgs false
set_option linter.unusedVariables false
open Go Go.RowKit Go.Shelf Go.Proofs Go.Proofs.YtkihjakbbcajbaaGreat.PM
attribute [local go_sem] Oper.semAt_some
def KeepB (Kb:Nat→Prop) (W W':World):Prop:=∀r,Kb r→W'.heap[r]?=W.heap[r]?
theorem KeepB.refl (Kb:Nat→Prop) (W:World):KeepB Kb W W:=fun _ _=>rfl
theorem KeepB.trans {Kb:Nat→Prop} {a b c:World} (h:KeepB Kb a b) (k:KeepB Kb b c):KeepB Kb a c:=fun r hr=>(k r hr).trans (h r hr)
theorem KeepB.drew {Kb:Nat→Prop} {a b:World} (h:KeepB Kb a b):KeepB Kb a {b with drawn:=b.drawn+1}:=h
theorem KeepB.cell {Kb:Nat→Prop} {a b:World} (h:KeepB Kb a b) {p:Addr} (hp:Kb p.block):b.cell? p=a.cell? p:=World.cell?_of_block (h _ hp)
def encs (x:Int × Int × Int × Int):Array Value:=#[.int .u32 x.1,.agg #[.int .i64 x.2.1,.int .i64 x.2.2.1,.int .i64 x.2.2.2]]
end Go.Proofs.YtkihjakbbcajbaaGreat.Kd
namespace Go.Proofs.YtkihjakbbcajbaaGreat.PM
set_option linter.unusedSimpArgs false
set_option linter.unusedVariables false
open Go Go.Proofs
def evR (E:Env) (ops:List Oper) (nx:Nat) (tm:List (Nat × PV)) (h:Hp):Option (List (Nat × PV) × Hp):=(opsD E ops ops nx tm h [] (fun tm hp _=> .done (tm,hp))).ev fun _ _=>none
def tmR (X:Option (List (Nat × PV) × Hp)):List (Nat × PV):=(X.getD ([],[])).1
def hR (X:Option (List (Nat × PV) × Hp)):Hp:=(X.getD ([],[])).2
theorem evR_some {X:Option (List (Nat × PV) × Hp)} (h:X.isSome=true):X=some (tmR X,hR X):=by
 obtain ⟨x,rfl⟩:=Option.isSome_iff_exists.1 h;rfl
noncomputable def pb:Code:=part_Check.b
noncomputable def rf1:Code:=subC pb [1,1,1,0,1,0]
noncomputable def rf2:Code:=subC pb [1,1,1,1,0,1,0]
noncomputable def bd1:Code:=rfBdy rf1
noncomputable def bd2:Code:=rfBdy rf2
noncomputable def toL (x:Int × Int × Int × Int):t0.den:=(x.2.1,x.2.2.1,x.2.2.2,())
noncomputable def bx2 (b2 b3:Nat) (n:Int) (s:List t0.den):List BoxF:=[⟨1,b2,.int .i64,n⟩,⟨2,b3,.arr 3 t0,s⟩]
noncomputable def bx3 (b2 b3 b5:Nat) (n:Int) (s:List t0.den) (x:Int × Int × Int × Int):List BoxF:=[⟨1,b2,.int .i64,n⟩,⟨2,b3,.arr 3 t0,s⟩,⟨3,b5,t0,toL x⟩]
noncomputable def hp3 (n:Int) (s:List t0.den) (x:Int × Int × Int × Int):Hp:=hpL (bx3 0 0 0 n s x)
noncomputable def a1:List Oper:=regOps (rfAsg rf1)
noncomputable def r6:List Oper:=regOps (subC bd1 [0,0])
noncomputable def r7:List Oper:=regOps (subC bd1 [0,1,0])
noncomputable def r8:List Oper:=regOps (subC bd1 [0,1,1,0,0])
noncomputable def a2:List Oper:=regOps (subC (rfAsg rf2) [0])
noncomputable def a3:List Oper:=regOps (subC (rfAsg rf2) [1])
noncomputable def r3:List Oper:=regOps (subC pb [1,1,0])
noncomputable def r4:Array Oper:=(regOps (subC pb [1,1,1,0,0])).toArray
noncomputable def r9:Array Oper:=(regOps (subC pb [1,1,1,1,0,0])).toArray
noncomputable def ct:Code:=subC pb [1,1,1,1,1]
end Go.Proofs.YtkihjakbbcajbaaGreat.PM
namespace Go.Proofs.YtkihjakbbcajbaaGreat.PM
set_option linter.unusedSimpArgs false
set_option linter.unusedVariables false
open Go Go.Proofs Go.Proofs.YtkihjakbbcajbaaGreat.Kd
def goR {S X:Type} (st:S→X→Option S):List X→S→Option S
 |[],s=>some s
 |x::xs,s=>(st s x).bind (goR st xs)
theorem goR_app {S X:Type} {st:S→X→Option S}:∀(xs ys:List X) (s:S),goR st (xs++ys) s=(goR st xs s).bind (goR st ys)
 |[],_,_=>rfl
 |x::xs,ys,s=>by
  show (st s x).bind (goR st (xs++ys))=((st s x).bind (goR st xs)).bind (goR st ys)
  cases st s x with
  |none=>rfl
  |some s'=>exact goR_app xs ys s'
def Wb (w:World) (b2 b3:Nat):Nat→Prop:=fun r=>w.heap.size≤r∨r=b2∨r=b3
structure Ground (A:Nat→Prop) (w:World) (b1 b2 b3:Nat) (c1:List Value) (p:t7.den):Prop where
 gl:GlOk globs A w
 lt:∀r,A r→r<w.heap.size
 hb1:A b1
 at1:At w ⟨b1,0,none⟩ c1
 rel:TRel A w t7 c1 p
 n2:¬A b2
 n3:¬A b3
 lt2:b2<w.heap.size
 lt3:b3<w.heap.size
structure Inv (A:Nat→Prop) (w:World) (b2 b3:Nat) (n:Int) (s:List t0.den) (W:World):Prop where
 bx:Boxes A W (bx2 b2 b3 n s)
 keep:Keep (Wb w b2 b3) w W
section
variable {A:Nat→Prop} {w:World} {b1 b2 b3:Nat} {c1:List Value} {p:t7.den} {n:Int} {s:List t0.den} {W:World}
theorem Ground.same (G:Ground A w b1 b2 b3 c1 p) (k:Keep (Wb w b2 b3) w W) (r:Nat) (hr:A r):W.heap[r]?=w.heap[r]?:=
 k.block r (G.lt r hr) (fun h=>by
  rcases h with h|rfl|rfl
  ·have:=G.lt r hr;omega
  ·exact G.n2 hr
  ·exact G.n3 hr)
theorem Ground.iptr (G:Ground A w b1 b2 b3 c1 p) (k:Keep (Wb w b2 b3) w W) (g:Gh):VRel g A W (.iptr t7 p) (.pointer (some ⟨b1,0,none⟩)):=
 mk_iptr (c:=c1) rfl G.hb1 (At.mono (G.same k b1 G.hb1) G.at1) (TRel.mono (fun _ h=>h) (G.same k) _ _ _ G.rel)
theorem Inv.own (I:Inv A w b2 b3 n s W) (lt2:b2<w.heap.size) (lt3:b3<w.heap.size) (lt:∀r,A r→r<w.heap.size) {W':World} {row:Option Nat} (hg:W.grownBy W' row) (hr:∀r,row=some r→w.heap.size≤r):Inv A w b2 b3 n s W':=by
 have same:∀r,r<w.heap.size→W'.heap[r]?=W.heap[r]?:=fun r h=>hg.block r (Nat.lt_of_lt_of_le h I.keep.size) (fun e=>by have:=hr r e.symm;omega)
 refine ⟨I.bx.turn (fun r h=>same r ?_) hg.size,I.keep.trans ⟨hg.os,hg.tape,hg.output,hg.size,fun r h hn=>hg.block r h (fun e=>hn (.inl (hr r e.symm)))⟩⟩
 rcases h with h|⟨q,hq,rfl⟩
 ·exact lt r h
 ·unfold bx2 at hq
  simp only [List.mem_cons,List.not_mem_nil,or_false] at hq
  rcases hq with rfl|rfl
  ·exact lt2
  ·exact lt3
end
end Go.Proofs.YtkihjakbbcajbaaGreat.PM
namespace Go.Proofs.YtkihjakbbcajbaaGreat.PM
set_option linter.unusedSimpArgs false
set_option linter.unusedVariables false
open Go Go.Proofs Go.Proofs.YtkihjakbbcajbaaGreat.Kd
section
variable {A:Nat→Prop} {w:World}
theorem cat_at {τ:Ty} {ys:List τ.den} {c:List Value} {ad:Addr} {j i:Nat} {v:Value} (hs:ad.spot=none) (hA:At w ad c) (h:Cat (TRel A w τ) c ys) (hj:j<ys.length) (hv:∀cs,TRel A w τ cs ys[j]→cs[i]?=some v):w.cell? ⟨ad.block,ad.off+(j*τ.size+i),none⟩=some v:=by
 have h1:=hv _ (h.nth (fun c x=>TRel.len τ c x) hj)
 have h2:c[j*τ.size+i]?=some v:=by
  rw [List.getElem?_take] at h1
  split at h1
  ·rw [List.getElem?_drop] at h1;exact h1
  ·cases h1
 have h3:=hA _ v h2
 obtain ⟨b,o,sp⟩:=ad
 cases hs
 rw [add_at] at h3
 exact h3
theorem slice_out {τ:Ty} {cs:List Value} {x:List τ.den} (h:TRel A w (.slice τ) cs x):∃a cap,cs=[.slice a x.length cap]∧∀j,j<x.length→∃b o,a=some ⟨b,o,none⟩∧A b∧∀i v,(∀(hj:j<x.length) cs,TRel A w τ cs x[j]→cs[i]?=some v)→w.cell? ⟨b,o+(j*τ.size+i),none⟩=some v:=by
 obtain ⟨a,cap,h1,_,h2⟩:=h
 refine ⟨a,cap,h1,fun j hj=>?_⟩
 obtain ⟨⟨b,o,sp⟩,e1,e2,e3,c,e4,e5⟩:=h2 (Nat.lt_of_le_of_lt (Nat.zero_le _) hj)
 cases e2
 exact ⟨b,o,e1,e3,fun i v hv=>cat_at (ad:=⟨b,o,none⟩) rfl e4 e5 hj (hv hj)⟩
end
end Go.Proofs.YtkihjakbbcajbaaGreat.PM
namespace Go.Proofs.YtkihjakbbcajbaaGreat.PM
set_option linter.unusedSimpArgs false
set_option linter.unusedVariables false
open Go Go.Proofs Go.Proofs.YtkihjakbbcajbaaGreat.Kd
def opOf (l:Array Oper) (i:Nat):Oper:=l.getD i {dst:=none,op:=.move (.tmp 0),type:=0,pos:= "",after:=#[],guard:=none}
def mark (D:Nat):Deferred:={target:=.collected D,args:=#[]}
section
variable {A:Nat→Prop} {w:World} {b1 b2 b3:Nat} {c1:List Value} {p:t7.den} {n:Int} {s:List t0.den}
theorem getD_put1 {t:Array Value} {i j:Nat} {v:Value} (h:i<t.size):(t.setIfInBounds i v).getD j undef=if i=j then v else t.getD j undef:=by
 simp only [Array.getD_eq_getD_getElem?]
 by_cases e:i=j
 ·subst e;rw [if_pos rfl];simp [h]
 ·rw [if_neg e,Array.getElem?_setIfInBounds_ne e]
theorem val_step {ops:Array Oper} {i:Nat} {l:List Nat} {a:Act} {v:Value} {m:Nat} {Q:Exit→Act→World→Prop} (ho:ops[i]?=some (opOf ops i)) (hg:(opOf ops i).guard=none) (hd:∀c,(opOf ops i).op≠ .defer c) (hr:(execOp a.eval (opOf ops i)).run Tryz.prog w=.ok (.value v) w)
  (h:wpOpsIn Fence.wide m Tryz.prog ops Q l (a.put (opOf ops i).dst v) w):wpOpsIn Fence.wide m Tryz.prog ops Q (i::l) a w:=by
 rw [wpOpsIn_cons]
 unfold wpOpIn
 rw [ho]
 simp only [Region.wanted,hg,if_true]
 refine ⟨fun _ _=>trivial,?_⟩
 rw [Oper.semAt_eq _ _ _ hd,hr]
 exact h
theorem call_step {ops:Array Oper} {i:Nat} {l:List Nat} {a:Act} {f:Nat} {args:Array Value} {m:Nat} {Q:Exit→Act→World→Prop} {R:Value→World→Prop} (ho:ops[i]?=some (opOf ops i)) (hg:(opOf ops i).guard=none) (hd:∀c,(opOf ops i).op≠ .defer c) (hr:(execOp a.eval (opOf ops i)).run Tryz.prog w=.ok (.enter f args) w)
  (hc:CallsIn Fence.wide (m - 1) Tryz.prog f args w fun e w'=>∃v,e=.returned v∧R v w') (h:∀v w',R v w'→wpOpsIn Fence.wide m Tryz.prog ops Q l (a.put (opOf ops i).dst v) w'):wpOpsIn Fence.wide m Tryz.prog ops Q (i::l) a w:=by
 rw [wpOpsIn_cons]
 unfold wpOpIn
 rw [ho]
 simp only [Region.wanted,hg,if_true]
 refine ⟨fun _ _=>trivial,?_⟩
 rw [Oper.semAt_eq _ _ _ hd,hr]
 refine ⟨(fun h=>by cases h),hc.mono ?_⟩
 rintro e w' ⟨v,rfl,hv⟩
 exact h v w' hv
end
end Go.Proofs.YtkihjakbbcajbaaGreat.PM
namespace Go.Proofs.YtkihjakbbcajbaaGreat.PM
set_option linter.unusedSimpArgs false
set_option linter.unusedVariables false
open Go Go.Proofs Go.Proofs.YtkihjakbbcajbaaGreat.Kd
noncomputable def s1P (p:t7.den):St:=part_Check.S1 p.1 p.2.1 p.2.2.1.1.1 p.2.2.1.1.2.1 p.2.2.1.1.2.2.1 p.2.2.1.2.1 p.2.2.1.2.2.1 p.2.2.1.2.2.2.1 p.2.2.2.1.1 p.2.2.2.1.2.1 p.2.2.2.1.2.2.1 p.2.2.2.1.2.2.2.1.1 p.2.2.2.1.2.2.2.1.2.1 p.2.2.2.1.2.2.2.1.2.2.1 p.2.2.2.1.2.2.2.2.1 p.2.2.2.1.2.2.2.2.2.1.1 p.2.2.2.1.2.2.2.2.2.1.2.1 p.2.2.2.1.2.2.2.2.2.1.2.2.1 p.2.2.2.1.2.2.2.2.2.1.2.2.2.1 p.2.2.2.2.1.1 p.2.2.2.2.1.2.1 p.2.2.2.2.1.2.2.1 p.2.2.2.2.1.2.2.2.1.1 p.2.2.2.2.1.2.2.2.1.2.1 p.2.2.2.2.1.2.2.2.1.2.2.1 p.2.2.2.2.1.2.2.2.2.1 p.2.2.2.2.1.2.2.2.2.2.1.1 p.2.2.2.2.1.2.2.2.2.2.1.2.1 p.2.2.2.2.1.2.2.2.2.2.1.2.2.1 p.2.2.2.2.1.2.2.2.2.2.1.2.2.2.1 p.2.2.2.2.2.1 p.2.2.2.2.2.2.1.1 p.2.2.2.2.2.2.1.2.1 p.2.2.2.2.2.2.1.2.2.1
noncomputable def q3 (p:t7.den):=evR part_Check.E r3 1000 (s1P p).tm (s1P p).hp
theorem ntmps:Tryz.f128.ntmps=104:=by kernel_rfl
section
variable {A:Nat→Prop} {w:World} {vs:List Value}
theorem leave_marks {fn:Func} {tmps:Array Value} {R:Ending→World→Prop} {v:Value}:∀(Ds:List Nat) (W:World),(∀D∈Ds,W.heap[D]?=some (.deferred (some [])))→Ds.Nodup→
  (∀W':World,(∀(r:Nat) (c:Array Value) (e:TypeId) (z:Nat × Nat),W.heap[r]?=some (Obj.cells c e z)→W'.heap[r]?=W.heap[r]?)→W'.os=W.os→W'.tape=W.tape→W'.output=W.output→W'.heap.size=W.heap.size→(∀r,r∉Ds→W'.heap[r]?=W.heap[r]?)→(results fn tmps).run Tryz.prog W'=.ok v W'∧R (.returned v) W')→
  LeavesInM Fence.wide 3 Tryz.prog fn tmps R (Ds.map mark) .returning W
 |[],W,_,_,h=>by
  obtain ⟨h1,h2⟩:=h W (fun _ _ _ _ _=>rfl) rfl rfl rfl rfl (fun _ _=>rfl)
  exact ⟨v,h1,h2⟩
 |D::Ds,W,hD,hn,h=>by
  have hd:=hD D (List.mem_cons_self ..)
  have hsz:(W.putObj D (.deferred none)).heap.size=W.heap.size:=by simp [World.putObj]
  have other:∀r,r≠D→(W.putObj D (.deferred none)).heap[r]?=W.heap[r]?:=fun r hr=>by
   simp only [World.putObj]
   rw [Array.getElem?_setIfInBounds_ne (fun e=>hr e.symm)]
  rw [List.nodup_cons] at hn
  refine ⟨by simp,.inl ⟨D,W.putObj D (.deferred none),rfl,run_takeDeferred hd,?_⟩⟩
  refine leave_marks Ds _ (fun E hE=>by rw [other E (fun e=>hn.1 (e▸hE))];exact hD E (List.mem_cons_of_mem _ hE)) hn.2 (fun W' h1 h2 h3 h4 h5 h6=>h W' (fun r c e z hr=>?_) h2 h3 h4 (h5.trans hsz) (fun r hr=>?_))
  ·have hne:r≠D:=fun e'=>by subst e';rw [hd] at hr;cases hr
   rw [h1 r c e z (by rw [other r hne];exact hr),other r hne]
  ·rw [h6 r (fun h=>hr (List.mem_cons_of_mem _ h)),other r (fun e=>hr (e▸List.mem_cons_self ..))]
end
theorem Keep.mono {V V':Nat→Prop} {a b:World} (h:∀r,V r→V' r) (k:Keep V a b):Keep V' a b:=⟨k.os,k.tape,k.output,k.size,fun r hr hn=>k.block r hr (fun hv=>hn (h r hv))⟩
end Go.Proofs.YtkihjakbbcajbaaGreat.PM
namespace Go.Proofs.YtkihjakbbcajbaaGreat.PM
set_option linter.unusedSimpArgs false
set_option linter.unusedVariables false
open Go Go.Proofs Go.Proofs.YtkihjakbbcajbaaGreat.Kd
section
variable {A A0:Nat→Prop} {w w0:World} {b1 b2 b3:Nat} {c1:List Value} {p:t7.den} {n:Int} {s:List t0.den} {vs:List Value}
theorem box_at {B:Bs} {g:Gh} {A':Nat→Prop} {a:Act} {W':World} {tm:List (Nat × PV)} {h:Hp} {io:List PV} (R:RS B g A' a W' tm h io) {id t:Nat} {X:PV} (hq:h.at id=some (.box X)) (ht:look t tm=some (.ptr id [])):
  ∃sl b c e,a.tmps.getD t undef=.pointer (some ⟨b,0,none⟩)∧g id=some sl∧sl.blk=some b∧W'.heap[b]?=some (.cells c e (0,0))∧X.rel g A' W' c.toList∧¬A' b∧B.W b:=by
 obtain ⟨s,b,c,e,h1,h2,h3,h4⟩:=R.hr.blk id _ hq
 obtain ⟨s2,b2,k1,k2,k3,_⟩:=rel_ptr (R.tms t _ ht).2
 rw [h1] at k1;injection k1 with k1;subst k1
 rw [h2] at k2;injection k2 with k2;subst k2
 obtain ⟨o1,o2⟩:=R.hr.own id _ s b hq rfl h1 h2
 exact ⟨s,b,c,e,k3,h1,h2,h3,h4,o1,o2⟩
end
end Go.Proofs.YtkihjakbbcajbaaGreat.PM
namespace Go.Proofs.YtkihjakbbcajbaaGreat.PM
set_option linter.unusedSimpArgs false
set_option linter.unusedVariables false
open Go Go.Proofs Go.Proofs.YtkihjakbbcajbaaGreat.Kd
section
variable {A A0:Nat→Prop} {w w0:World} {b1 b2 b3:Nat} {c1:List Value} {p:t7.den} {n:Int} {s:List t0.den} {vs:List Value}
theorem at_new (w:World) (o:Obj):(w.alloc o).heap[w.heap.size]?=some o:=by
 show (w.heap.push o)[w.heap.size]?=some o
 simp
end
end Go.Proofs.YtkihjakbbcajbaaGreat.PM
