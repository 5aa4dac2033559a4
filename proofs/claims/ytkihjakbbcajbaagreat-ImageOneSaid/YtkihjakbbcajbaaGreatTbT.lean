/- Parts of the proof, joined: Zpm, Plain0, TbW, TbA, TbP, TbOw, TbO, TbB, TbT. -/
import Derived.Test.YtkihjakbbcajbaaGreatZpmD
namespace Go.Proofs.YtkihjakbbcajbaaGreat.PM
open Go Go.Proofs
noncomputable section
set_option linter.unusedVariables false
def ar.sg:Sig:=⟨[.val t7],[((.int .i64),true)]⟩
def ar.E:Env:=⟨tl,fun i=>look i [(60,bg.Fn),(77,dh.Fn),(82,ae.Fn),(83,bn.Fn)],[],eqs,globs,prims⟩
def ar.c:=cxOf ar.E ar.sg Tryz.f55
def ar.b:=body Tryz.f55
def ar.Fn:Fun:=fnOf ar.E ar.sg Tryz.f55
def ar.F (p:t7.den):Option (Int × Unit):=ar.Fn.F (p,())
def ar.L1 (b0:Int) (b02:List t0.den) (b03 b04:Int) (b05 b06:Int) (b07 b08 b09:Int) (b010:List Int) (b011:List t1.den) (b012:List Int) (b013:List Bool) (b014:Int) (b015:List t3.den) (b016 b017:List Int) (b018 b019 b020:Int) (b021:List Int) (b022:List t1.den) (b023:List Int) (b024:List Bool) (b025:Int) (b026:List t3.den) (b027 b028:List Int) (b029 b030:Int) (b031:List Int) (b032 b033 b034:Int):Option (Int × Unit):=res ar.c (atJoin ar.b [1,0,1]) ⟨[(1,(.ptr 0 []))],[(0,some (.box (.agg [(.v (.int .u32) b0),(.v (.arr 3 t0) b02),(.agg [(.agg [(.v (.int .i64) b03),(.v (.int .i64) b04),(.v (.int .i64) b05)]),(.v (.int .i64) b06),(.v (.int .i64) b07),(.v (.int .u64) b08)]),(.agg [(.v (.int .i64) b09),(.v (.slice (.int .u32)) b010),(.v (.slice t1) b011),(.agg [(.v (.slice (.int .i64)) b012),(.v (.slice .bool) b013),(.v (.int .i64) b014)]),(.v (.slice t3) b015),(.agg [(.v (.slice (.int .i64)) b016),(.v (.slice (.int .i64)) b017),(.v (.int .i64) b018),(.v (.int .i64) b019)])]),(.agg [(.v (.int .i64) b020),(.v (.slice (.int .u32)) b021),(.v (.slice t1) b022),(.agg [(.v (.slice (.int .i64)) b023),(.v (.slice .bool) b024),(.v (.int .i64) b025)]),(.v (.slice t3) b026),(.agg [(.v (.slice (.int .i64)) b027),(.v (.slice (.int .i64)) b028),(.v (.int .i64) b029),(.v (.int .i64) b030)])]),(.v (.slice (.int .u32)) b031),(.agg [(.v (.int .u64) b032),(.v (.int .u64) b033),(.v (.int .u64) b034)])])))],1,[]⟩
def ar.L2 (b0:Int) (b02:List t0.den) (b03 b04:Int) (b05 b06:Int) (b07 b08 b09:Int) (b010:List Int) (b011:List t1.den) (b012:List Int) (b013:List Bool) (b014:Int) (b015:List t3.den) (b016 b017:List Int) (b018 b019 b020:Int) (b021:List Int) (b022:List t1.den) (b023:List Int) (b024:List Bool) (b025:Int) (b026:List t3.den) (b027 b028:List Int) (b029 b030:Int) (b031:List Int) (b032 b033 b034:Int):Option (Int × Unit):=res ar.c (atJoin ar.b [1,1,0,1]) ⟨[(1,(.ptr 0 []))],[(0,some (.box (.agg [(.v (.int .u32) b0),(.v (.arr 3 t0) b02),(.agg [(.agg [(.v (.int .i64) b03),(.v (.int .i64) b04),(.v (.int .i64) b05)]),(.v (.int .i64) b06),(.v (.int .i64) b07),(.v (.int .u64) b08)]),(.agg [(.v (.int .i64) b09),(.v (.slice (.int .u32)) b010),(.v (.slice t1) b011),(.agg [(.v (.slice (.int .i64)) b012),(.v (.slice .bool) b013),(.v (.int .i64) b014)]),(.v (.slice t3) b015),(.agg [(.v (.slice (.int .i64)) b016),(.v (.slice (.int .i64)) b017),(.v (.int .i64) b018),(.v (.int .i64) b019)])]),(.agg [(.v (.int .i64) b020),(.v (.slice (.int .u32)) b021),(.v (.slice t1) b022),(.agg [(.v (.slice (.int .i64)) b023),(.v (.slice .bool) b024),(.v (.int .i64) b025)]),(.v (.slice t3) b026),(.agg [(.v (.slice (.int .i64)) b027),(.v (.slice (.int .i64)) b028),(.v (.int .i64) b029),(.v (.int .i64) b030)])]),(.v (.slice (.int .u32)) b031),(.agg [(.v (.int .u64) b032),(.v (.int .u64) b033),(.v (.int .u64) b034)])])))],1,[]⟩
def ar.L3 (b0:Int) (b02:List t0.den) (b03 b04:Int) (b05 b06:Int) (b07 b08 b09:Int) (b010:List Int) (b011:List t1.den) (b012:List Int) (b013:List Bool) (b014:Int) (b015:List t3.den) (b016 b017:List Int) (b018 b019 b020:Int) (b021:List Int) (b022:List t1.den) (b023:List Int) (b024:List Bool) (b025:Int) (b026:List t3.den) (b027 b028:List Int) (b029 b030:Int) (b031:List Int) (b032 b033 b034:Int):Option (Int × Unit):=res ar.c (atJoin ar.b [1,1,1,0,1]) ⟨[(1,(.ptr 0 []))],[(0,some (.box (.agg [(.v (.int .u32) b0),(.v (.arr 3 t0) b02),(.agg [(.agg [(.v (.int .i64) b03),(.v (.int .i64) b04),(.v (.int .i64) b05)]),(.v (.int .i64) b06),(.v (.int .i64) b07),(.v (.int .u64) b08)]),(.agg [(.v (.int .i64) b09),(.v (.slice (.int .u32)) b010),(.v (.slice t1) b011),(.agg [(.v (.slice (.int .i64)) b012),(.v (.slice .bool) b013),(.v (.int .i64) b014)]),(.v (.slice t3) b015),(.agg [(.v (.slice (.int .i64)) b016),(.v (.slice (.int .i64)) b017),(.v (.int .i64) b018),(.v (.int .i64) b019)])]),(.agg [(.v (.int .i64) b020),(.v (.slice (.int .u32)) b021),(.v (.slice t1) b022),(.agg [(.v (.slice (.int .i64)) b023),(.v (.slice .bool) b024),(.v (.int .i64) b025)]),(.v (.slice t3) b026),(.agg [(.v (.slice (.int .i64)) b027),(.v (.slice (.int .i64)) b028),(.v (.int .i64) b029),(.v (.int .i64) b030)])]),(.v (.slice (.int .u32)) b031),(.agg [(.v (.int .u64) b032),(.v (.int .u64) b033),(.v (.int .u64) b034)])])))],1,[]⟩
def ar.L4 (i b0:Int) (b02:List t0.den) (b03 b04:Int) (b05 b06:Int) (b07 b08 b09:Int) (b010:List Int) (b011:List t1.den) (b012:List Int) (b013:List Bool) (b014:Int) (b015:List t3.den) (b016 b017:List Int) (b018 b019 b020:Int) (b021:List Int) (b022:List t1.den) (b023:List Int) (b024:List Bool) (b025:Int) (b026:List t3.den) (b027 b028:List Int) (b029 b030:Int) (b031:List Int) (b032 b033 b034:Int):Option (Int × Unit):=res ar.c (atLoop ar.b [1,1,1,1,0,1,0]) ⟨[(1,(.ptr 0 [])),(3,(.v (.int .i64) i))],[(0,some (.box (.agg [(.v (.int .u32) b0),(.v (.arr 3 t0) b02),(.agg [(.agg [(.v (.int .i64) b03),(.v (.int .i64) b04),(.v (.int .i64) b05)]),(.v (.int .i64) b06),(.v (.int .i64) b07),(.v (.int .u64) b08)]),(.agg [(.v (.int .i64) b09),(.v (.slice (.int .u32)) b010),(.v (.slice t1) b011),(.agg [(.v (.slice (.int .i64)) b012),(.v (.slice .bool) b013),(.v (.int .i64) b014)]),(.v (.slice t3) b015),(.agg [(.v (.slice (.int .i64)) b016),(.v (.slice (.int .i64)) b017),(.v (.int .i64) b018),(.v (.int .i64) b019)])]),(.agg [(.v (.int .i64) b020),(.v (.slice (.int .u32)) b021),(.v (.slice t1) b022),(.agg [(.v (.slice (.int .i64)) b023),(.v (.slice .bool) b024),(.v (.int .i64) b025)]),(.v (.slice t3) b026),(.agg [(.v (.slice (.int .i64)) b027),(.v (.slice (.int .i64)) b028),(.v (.int .i64) b029),(.v (.int .i64) b030)])]),(.v (.slice (.int .u32)) b031),(.agg [(.v (.int .u64) b032),(.v (.int .u64) b033),(.v (.int .u64) b034)])])))],1,[]⟩
def ar.L5 (i b0:Int) (b02:List t0.den) (b03 b04:Int) (b05 b06:Int) (b07 b08 b09:Int) (b010:List Int) (b011:List t1.den) (b012:List Int) (b013:List Bool) (b014:Int) (b015:List t3.den) (b016 b017:List Int) (b018 b019 b020:Int) (b021:List Int) (b022:List t1.den) (b023:List Int) (b024:List Bool) (b025:Int) (b026:List t3.den) (b027 b028:List Int) (b029 b030:Int) (b031:List Int) (b032 b033 b034:Int):Option (Int × Unit):=res ar.c (atJoin ar.b [1,1,1,1,0,1,0,0,0,1]) ⟨[(1,(.ptr 0 [])),(3,(.v (.int .i64) i))],[(0,some (.box (.agg [(.v (.int .u32) b0),(.v (.arr 3 t0) b02),(.agg [(.agg [(.v (.int .i64) b03),(.v (.int .i64) b04),(.v (.int .i64) b05)]),(.v (.int .i64) b06),(.v (.int .i64) b07),(.v (.int .u64) b08)]),(.agg [(.v (.int .i64) b09),(.v (.slice (.int .u32)) b010),(.v (.slice t1) b011),(.agg [(.v (.slice (.int .i64)) b012),(.v (.slice .bool) b013),(.v (.int .i64) b014)]),(.v (.slice t3) b015),(.agg [(.v (.slice (.int .i64)) b016),(.v (.slice (.int .i64)) b017),(.v (.int .i64) b018),(.v (.int .i64) b019)])]),(.agg [(.v (.int .i64) b020),(.v (.slice (.int .u32)) b021),(.v (.slice t1) b022),(.agg [(.v (.slice (.int .i64)) b023),(.v (.slice .bool) b024),(.v (.int .i64) b025)]),(.v (.slice t3) b026),(.agg [(.v (.slice (.int .i64)) b027),(.v (.slice (.int .i64)) b028),(.v (.int .i64) b029),(.v (.int .i64) b030)])]),(.v (.slice (.int .u32)) b031),(.agg [(.v (.int .u64) b032),(.v (.int .u64) b033),(.v (.int .u64) b034)])])))],1,[]⟩
def ar.L6 (i b0:Int) (b02:List t0.den) (b03 b04:Int) (b05 b06:Int) (b07 b08 b09:Int) (b010:List Int) (b011:List t1.den) (b012:List Int) (b013:List Bool) (b014:Int) (b015:List t3.den) (b016 b017:List Int) (b018 b019 b020:Int) (b021:List Int) (b022:List t1.den) (b023:List Int) (b024:List Bool) (b025:Int) (b026:List t3.den) (b027 b028:List Int) (b029 b030:Int) (b031:List Int) (b032 b033 b034:Int):Option (Int × Unit):=res ar.c (atJoin ar.b [1,1,1,1,0,1,0,0,1,0,0,1]) ⟨[(1,(.ptr 0 [])),(3,(.v (.int .i64) i))],[(0,some (.box (.agg [(.v (.int .u32) b0),(.v (.arr 3 t0) b02),(.agg [(.agg [(.v (.int .i64) b03),(.v (.int .i64) b04),(.v (.int .i64) b05)]),(.v (.int .i64) b06),(.v (.int .i64) b07),(.v (.int .u64) b08)]),(.agg [(.v (.int .i64) b09),(.v (.slice (.int .u32)) b010),(.v (.slice t1) b011),(.agg [(.v (.slice (.int .i64)) b012),(.v (.slice .bool) b013),(.v (.int .i64) b014)]),(.v (.slice t3) b015),(.agg [(.v (.slice (.int .i64)) b016),(.v (.slice (.int .i64)) b017),(.v (.int .i64) b018),(.v (.int .i64) b019)])]),(.agg [(.v (.int .i64) b020),(.v (.slice (.int .u32)) b021),(.v (.slice t1) b022),(.agg [(.v (.slice (.int .i64)) b023),(.v (.slice .bool) b024),(.v (.int .i64) b025)]),(.v (.slice t3) b026),(.agg [(.v (.slice (.int .i64)) b027),(.v (.slice (.int .i64)) b028),(.v (.int .i64) b029),(.v (.int .i64) b030)])]),(.v (.slice (.int .u32)) b031),(.agg [(.v (.int .u64) b032),(.v (.int .u64) b033),(.v (.int .u64) b034)])])))],1,[]⟩
theorem ar.spec:FnSpec Tryz.prog globs 55 ar.Fn:=spec_of (E:=ar.E) (envOk_at tabOk eqOk primsOk (.cons bg.spec<|.cons dh.spec<|.cons ae.spec<|.cons bn.spec<|.nil)) mixOk Tryz.func55 (by kernel_rfl)
theorem ar.L1_eq (b0 b02 b03 b04 b05 b06 b07 b08 b09 b010 b011 b012 b013 b014 b015 b016 b017 b018 b019 b020 b021 b022 b023 b024 b025 b026 b027 b028 b029 b030 b031 b032 b033 b034):ar.L1 b0 b02 b03 b04 b05 b06 b07 b08 b09 b010 b011 b012 b013 b014 b015 b016 b017 b018 b019 b020 b021 b022 b023 b024 b025 b026 b027 b028 b029 b030 b031 b032 b033 b034=
 (ae.F (b09,b010,b011,(b012,b013,b014,()),b015,(b016,b017,b018,b019,()),())).bind fun r0=>
 bif (r0.1 !=0) then
  some (8,())
 else
  (ae.F (b020,b021,b022,(b023,b024,b025,()),b026,(b027,b028,b029,b030,()),())).bind fun r1=>
  bif (r1.1 !=0) then
   some (8,())
  else
   bif (decide ((0:Int)≤1∧(1:Int)<3)) then
    (bn.F (b09,b010,b011,(b012,b013,b014,()),b015,(b016,b017,b018,b019,()),()) (List.getD b02 (Int.toNat 1) (0,0,0,())) 4294967295).bind fun r2=>
    bif (!r2.1) then
     some (8,())
    else
     bif (decide ((0:Int)≤2∧(2:Int)<3)) then
      (bn.F (b020,b021,b022,(b023,b024,b025,()),b026,(b027,b028,b029,b030,()),()) (List.getD b02 (Int.toNat 2) (0,0,0,())) 65535).bind fun r3=>
      bif (!r3.1) then
       some (8,())
      else
       ar.L2 b0 b02 b03 b04 b05 b06 b07 b08 b09 b010 b011 b012 b013 b014 b015 b016 b017 b018 b019 b020 b021 b022 b023 b024 b025 b026 b027 b028 b029 b030 b031 b032 b033 b034
     else none
   else none:=res_eq (by kernel_rfl)
theorem ar.L2_eq (b0 b02 b03 b04 b05 b06 b07 b08 b09 b010 b011 b012 b013 b014 b015 b016 b017 b018 b019 b020 b021 b022 b023 b024 b025 b026 b027 b028 b029 b030 b031 b032 b033 b034):ar.L2 b0 b02 b03 b04 b05 b06 b07 b08 b09 b010 b011 b012 b013 b014 b015 b016 b017 b018 b019 b020 b021 b022 b023 b024 b025 b026 b027 b028 b029 b030 b031 b032 b033 b034=
 bif (decide ((((List.length b031:Int)):Int)>8)) then
  some (8,())
 else
  ar.L3 b0 b02 b03 b04 b05 b06 b07 b08 b09 b010 b011 b012 b013 b014 b015 b016 b017 b018 b019 b020 b021 b022 b023 b024 b025 b026 b027 b028 b029 b030 b031 b032 b033 b034:=res_eq (by kernel_rfl)
theorem ar.L3_eq (b0 b02 b03 b04 b05 b06 b07 b08 b09 b010 b011 b012 b013 b014 b015 b016 b017 b018 b019 b020 b021 b022 b023 b024 b025 b026 b027 b028 b029 b030 b031 b032 b033 b034):ar.L3 b0 b02 b03 b04 b05 b06 b07 b08 b09 b010 b011 b012 b013 b014 b015 b016 b017 b018 b019 b020 b021 b022 b023 b024 b025 b026 b027 b028 b029 b030 b031 b032 b033 b034=
 ar.L4 1 b0 b02 b03 b04 b05 b06 b07 b08 b09 b010 b011 b012 b013 b014 b015 b016 b017 b018 b019 b020 b021 b022 b023 b024 b025 b026 b027 b028 b029 b030 b031 b032 b033 b034:=res_eq (by kernel_rfl)
theorem ar.L4_eq (i b0 b02 b03 b04 b05 b06 b07 b08 b09 b010 b011 b012 b013 b014 b015 b016 b017 b018 b019 b020 b021 b022 b023 b024 b025 b026 b027 b028 b029 b030 b031 b032 b033 b034):ar.L4 i b0 b02 b03 b04 b05 b06 b07 b08 b09 b010 b011 b012 b013 b014 b015 b016 b017 b018 b019 b020 b021 b022 b023 b024 b025 b026 b027 b028 b029 b030 b031 b032 b033 b034=
 bif (decide ((i:Int)<((List.length b031:Int)))) then
  ar.L5 i b0 b02 b03 b04 b05 b06 b07 b08 b09 b010 b011 b012 b013 b014 b015 b016 b017 b018 b019 b020 b021 b022 b023 b024 b025 b026 b027 b028 b029 b030 b031 b032 b033 b034
 else
  some (0,()):=res_eq (by kernel_rfl)
theorem ar.L5_eq (i b0 b02 b03 b04 b05 b06 b07 b08 b09 b010 b011 b012 b013 b014 b015 b016 b017 b018 b019 b020 b021 b022 b023 b024 b025 b026 b027 b028 b029 b030 b031 b032 b033 b034):ar.L5 i b0 b02 b03 b04 b05 b06 b07 b08 b09 b010 b011 b012 b013 b014 b015 b016 b017 b018 b019 b020 b021 b022 b023 b024 b025 b026 b027 b028 b029 b030 b031 b032 b033 b034=
 bif (decide ((0:Int)≤(IntKind.wrap .i64 (i - 1))∧((IntKind.wrap .i64 (i - 1)):Int)<((List.length b031:Int)))) then
  bif (decide ((0:Int)≤i∧(i:Int)<((List.length b031:Int)))) then
   bif (decide (((List.getD b031 (Int.toNat (IntKind.wrap .i64 (i - 1))) 0):Int)≥(List.getD b031 (Int.toNat i) 0))) then
    some (8,())
   else
    ar.L6 i b0 b02 b03 b04 b05 b06 b07 b08 b09 b010 b011 b012 b013 b014 b015 b016 b017 b018 b019 b020 b021 b022 b023 b024 b025 b026 b027 b028 b029 b030 b031 b032 b033 b034
  else none
 else none:=res_eq (by kernel_rfl)
theorem ar.L6_eq (i b0 b02 b03 b04 b05 b06 b07 b08 b09 b010 b011 b012 b013 b014 b015 b016 b017 b018 b019 b020 b021 b022 b023 b024 b025 b026 b027 b028 b029 b030 b031 b032 b033 b034):ar.L6 i b0 b02 b03 b04 b05 b06 b07 b08 b09 b010 b011 b012 b013 b014 b015 b016 b017 b018 b019 b020 b021 b022 b023 b024 b025 b026 b027 b028 b029 b030 b031 b032 b033 b034=
 ar.L4 (IntKind.wrap .i64 (i+1)) b0 b02 b03 b04 b05 b06 b07 b08 b09 b010 b011 b012 b013 b014 b015 b016 b017 b018 b019 b020 b021 b022 b023 b024 b025 b026 b027 b028 b029 b030 b031 b032 b033 b034:=res_eq (by kernel_rfl)
theorem ar.F_eq (p):ar.F p=
 bif (decide ((p.1:Int)≥16)) then
  some (8,())
 else
  (bg.F p.2.1).bind fun r0=>
  bif (!r0.1) then
   some (8,())
  else
   (dh.F p.2.2.1).bind fun r1=>
   bif (r1.1 !=0) then
    some (8,())
   else
    bif (decide ((0:Int)≤0∧(0:Int)<3)) then
     bif (!(Ty.beq t0 p.2.2.1.1 (List.getD p.2.1 (Int.toNat 0) (0,0,0,())))) then
      some (8,())
     else
      ar.L1 p.1 p.2.1 p.2.2.1.1.1 p.2.2.1.1.2.1 p.2.2.1.1.2.2.1 p.2.2.1.2.1 p.2.2.1.2.2.1 p.2.2.1.2.2.2.1 p.2.2.2.1.1 p.2.2.2.1.2.1 p.2.2.2.1.2.2.1 p.2.2.2.1.2.2.2.1.1 p.2.2.2.1.2.2.2.1.2.1 p.2.2.2.1.2.2.2.1.2.2.1 p.2.2.2.1.2.2.2.2.1 p.2.2.2.1.2.2.2.2.2.1.1 p.2.2.2.1.2.2.2.2.2.1.2.1 p.2.2.2.1.2.2.2.2.2.1.2.2.1 p.2.2.2.1.2.2.2.2.2.1.2.2.2.1 p.2.2.2.2.1.1 p.2.2.2.2.1.2.1 p.2.2.2.2.1.2.2.1 p.2.2.2.2.1.2.2.2.1.1 p.2.2.2.2.1.2.2.2.1.2.1 p.2.2.2.2.1.2.2.2.1.2.2.1 p.2.2.2.2.1.2.2.2.2.1 p.2.2.2.2.1.2.2.2.2.2.1.1 p.2.2.2.2.1.2.2.2.2.2.1.2.1 p.2.2.2.2.1.2.2.2.2.2.1.2.2.1 p.2.2.2.2.1.2.2.2.2.2.1.2.2.2.1 p.2.2.2.2.2.1 p.2.2.2.2.2.2.1.1 p.2.2.2.2.2.2.1.2.1 p.2.2.2.2.2.2.1.2.2.1
    else none:=by kernel_rfl
def bd.sg:Sig:=⟨[.val (.slice t7)],[((.int .i64),true)]⟩
def bd.E:Env:=⟨tl,fun i=>look i [(55,ar.Fn)],[],eqs,globs,prims⟩
def bd.c:=cxOf bd.E bd.sg Tryz.f32
def bd.b:=body Tryz.f32
def bd.Fn:Fun:=fnOf bd.E bd.sg Tryz.f32
def bd.F (l:List t7.den):Option (Int × Unit):=bd.Fn.F (l,())
def bd.L1 (l:List t7.den):Option (Int × Unit):=res bd.c (atJoin bd.b [1,0,1]) ⟨[(0,(.v (.slice t7) l))],[],0,[]⟩
def bd.L2 (l:List t7.den) (i:Int):Option (Int × Unit):=res bd.c (atLoop bd.b [1,1,0,1,0]) ⟨[(0,(.v (.slice t7) l)),(3,(.v (.int .i64) i))],[],0,[]⟩
def bd.L3 (l:List t7.den) (i:Int):Option (Int × Unit):=res bd.c (atJoin bd.b [1,1,0,1,0,0,0,1]) ⟨[(0,(.v (.slice t7) l)),(3,(.v (.int .i64) i))],[],0,[]⟩
def bd.L4 (l:List t7.den) (i:Int):Option (Int × Unit):=res bd.c (atJoin bd.b [1,1,0,1,0,0,1,0,0,1]) ⟨[(0,(.v (.slice t7) l)),(3,(.v (.int .i64) i))],[],0,[]⟩
theorem bd.spec:FnSpec Tryz.prog globs 32 bd.Fn:=spec_of (E:=bd.E) (envOk_at tabOk eqOk primsOk (.cons ar.spec<|.nil)) mixOk Tryz.func32 (by kernel_rfl)
theorem bd.L1_eq (l):bd.L1 l=
 bd.L2 l 0:=res_eq (by kernel_rfl)
theorem bd.L2_eq (l i):bd.L2 l i=
 bif (decide ((i:Int)<((List.length l:Int)))) then
  bd.L3 l i
 else
  some (0,()):=res_eq (by kernel_rfl)
theorem bd.L3_eq (l i):bd.L3 l i=
 bif (decide ((0:Int)≤i∧(i:Int)<((List.length l:Int)))) then
  (ar.F (List.getD l (Int.toNat i) d7_)).bind fun r0=>
  bif (r0.1 !=0) then
   some (8,())
  else
   bif (decide ((i:Int)>0)) then
    bif (decide ((0:Int)≤i∧(i:Int)<((List.length l:Int)))) then
     bif (decide ((0:Int)≤(IntKind.wrap .i64 (i - 1))∧((IntKind.wrap .i64 (i - 1)):Int)<((List.length l:Int)))) then
      bif (decide ((((List.getD l (Int.toNat i) d7_).1):Int)≤((List.getD l (Int.toNat (IntKind.wrap .i64 (i - 1))) d7_).1))) then
       some (8,())
      else
       bd.L4 l i
     else none
    else none
   else
    bd.L4 l i
 else none:=res_eq (by kernel_rfl)
theorem bd.L4_eq (l i):bd.L4 l i=
 bd.L2 l (IntKind.wrap .i64 (i+1)):=res_eq (by kernel_rfl)
theorem bd.F_eq (l):bd.F l=
 bif (decide ((((List.length l:Int)):Int)>8)) then
  some (4,())
 else
  bd.L1 l:=by kernel_rfl
def cq.sg:Sig:=⟨[.val (.slice t1),.val (.int .u64)],[(.bool,true)]⟩
def cq.E:Env:=⟨tl,fun i=>look i [],[],eqs,globs,prims⟩
def cq.c:=cxOf cq.E cq.sg Tryz.f33
def cq.b:=body Tryz.f33
def cq.Fn:Fun:=fnOf cq.E cq.sg Tryz.f33
def cq.F (l:List t1.den) (tick:Int):Option (Bool × Unit):=cq.Fn.F (l,tick,())
def cq.L1 (l:List t1.den) (tick i:Int):Option (Bool × Unit):=res cq.c (atLoop cq.b [1,0,1,0]) ⟨[(0,(.v (.slice t1) l)),(1,(.v (.int .u64) tick)),(5,(.v (.int .i64) i))],[],0,[]⟩
def cq.L2 (l:List t1.den) (tick i:Int):Option (Bool × Unit):=res cq.c (atJoin cq.b [1,0,1,0,0,0,1]) ⟨[(0,(.v (.slice t1) l)),(1,(.v (.int .u64) tick)),(5,(.v (.int .i64) i))],[],0,[]⟩
def cq.L3 (l:List t1.den) (tick i:Int):Option (Bool × Unit):=res cq.c (atJoin cq.b [1,0,1,0,0,1,0,0,1]) ⟨[(0,(.v (.slice t1) l)),(1,(.v (.int .u64) tick)),(5,(.v (.int .i64) i))],[],0,[]⟩
theorem cq.spec:FnSpec Tryz.prog globs 33 cq.Fn:=spec_of (E:=cq.E) (envOk_at tabOk eqOk primsOk (.nil)) mixOk Tryz.func33 (by kernel_rfl)
theorem cq.L1_eq (l tick i):cq.L1 l tick i=
 bif (decide ((i:Int)<((List.length l:Int)))) then
  cq.L2 l tick i
 else
  some (false,()):=res_eq (by kernel_rfl)
theorem cq.L2_eq (l tick i):cq.L2 l tick i=
 bif (decide ((0:Int)≤i∧(i:Int)<((List.length l:Int)))) then
  bif (decide (((((((List.getD l (Int.toNat i) ((0,0,0,()),0,0,0,())).2).2).2).1):Int)>tick)) then
   some (true,())
  else
   cq.L3 l tick i
 else none:=res_eq (by kernel_rfl)
theorem cq.L3_eq (l tick i):cq.L3 l tick i=
 cq.L1 l tick (IntKind.wrap .i64 (i+1)):=res_eq (by kernel_rfl)
theorem cq.F_eq (l tick):cq.F l tick=
 cq.L1 l tick 0:=by kernel_rfl
def ag.sg:Sig:=⟨[.val t8],[((.int .i64),true)]⟩
def ag.E:Env:=⟨tl,fun i=>look i [(32,bd.Fn),(33,cq.Fn)],[],eqs,globs,prims⟩
def ag.c:=cxOf ag.E ag.sg Tryz.f13
def ag.b:=body Tryz.f13
def ag.Fn:Fun:=fnOf ag.E ag.sg Tryz.f13
def ag.F (s:t8.den):Option (Int × Unit):=ag.Fn.F (s,())
def ag.L1 (b0:Int) (b02 b03:List Int) (b04:List t7.den):Option (Int × Unit):=res ag.c (atJoin ag.b [1,0,1]) ⟨[(1,(.ptr 0 []))],[(0,some (.box (.agg [(.v (.int .u64) b0),(.v (.arr 32 (.int .u8)) b02),(.v (.arr 16 (.int .u32)) b03),(.v (.slice t7) b04)])))],1,[]⟩
def ag.L2 (i b0:Int) (b02 b03:List Int) (b04:List t7.den):Option (Int × Unit):=res ag.c (atLoop ag.b [1,1,0,1,0]) ⟨[(1,(.ptr 0 [])),(3,(.v (.int .i64) i))],[(0,some (.box (.agg [(.v (.int .u64) b0),(.v (.arr 32 (.int .u8)) b02),(.v (.arr 16 (.int .u32)) b03),(.v (.slice t7) b04)])))],1,[]⟩
def ag.L3 (i b0:Int) (b02 b03:List Int) (b04:List t7.den):Option (Int × Unit):=res ag.c (atJoin ag.b [1,1,0,1,0,0,0,1]) ⟨[(1,(.ptr 0 [])),(3,(.v (.int .i64) i))],[(0,some (.box (.agg [(.v (.int .u64) b0),(.v (.arr 32 (.int .u8)) b02),(.v (.arr 16 (.int .u32)) b03),(.v (.slice t7) b04)])))],1,[]⟩
def ag.L4 (i b0:Int) (b02 b03:List Int) (b04:List t7.den):Option (Int × Unit):=res ag.c (atLoop ag.b [1,1,1,0,1,0]) ⟨[(1,(.ptr 0 [])),(4,(.v (.int .i64) i))],[(0,some (.box (.agg [(.v (.int .u64) b0),(.v (.arr 32 (.int .u8)) b02),(.v (.arr 16 (.int .u32)) b03),(.v (.slice t7) b04)])))],1,[]⟩
def ag.L5 (i b0:Int) (b02 b03:List Int) (b04:List t7.den):Option (Int × Unit):=res ag.c (atJoin ag.b [1,1,1,0,1,0,0,0,1]) ⟨[(1,(.ptr 0 [])),(4,(.v (.int .i64) i))],[(0,some (.box (.agg [(.v (.int .u64) b0),(.v (.arr 32 (.int .u8)) b02),(.v (.arr 16 (.int .u32)) b03),(.v (.slice t7) b04)])))],1,[]⟩
def ag.L6 (i b0:Int) (b02 b03:List Int) (b04:List t7.den):Option (Int × Unit):=res ag.c (atJoin ag.b [1,1,1,0,1,0,0,1,0,0,1,1]) ⟨[(1,(.ptr 0 [])),(4,(.v (.int .i64) i))],[(0,some (.box (.agg [(.v (.int .u64) b0),(.v (.arr 32 (.int .u8)) b02),(.v (.arr 16 (.int .u32)) b03),(.v (.slice t7) b04)])))],1,[]⟩
def ag.L7 (i b0:Int) (b02 b03:List Int) (b04:List t7.den):Option (Int × Unit):=res ag.c (atJoin ag.b [1,1,0,1,0,0,1,0,0,1]) ⟨[(1,(.ptr 0 [])),(3,(.v (.int .i64) i))],[(0,some (.box (.agg [(.v (.int .u64) b0),(.v (.arr 32 (.int .u8)) b02),(.v (.arr 16 (.int .u32)) b03),(.v (.slice t7) b04)])))],1,[]⟩
theorem ag.spec:FnSpec Tryz.prog globs 13 ag.Fn:=spec_of (E:=ag.E) (envOk_at tabOk eqOk primsOk (.cons bd.spec<|.cons cq.spec<|.nil)) mixOk Tryz.func13 (by kernel_rfl)
theorem ag.L1_eq (b0 b02 b03 b04):ag.L1 b0 b02 b03 b04=
 ag.L2 0 b0 b02 b03 b04:=res_eq (by kernel_rfl)
theorem ag.L2_eq (i b0 b02 b03 b04):ag.L2 i b0 b02 b03 b04=
 bif (decide ((i:Int)<16)) then
  ag.L3 i b0 b02 b03 b04
 else
  ag.L4 0 b0 b02 b03 b04:=res_eq (by kernel_rfl)
theorem ag.L3_eq (i b0 b02 b03 b04):ag.L3 i b0 b02 b03 b04=
 bif (decide ((0:Int)≤i∧(i:Int)<16)) then
  bif (decide (((List.getD b03 (Int.toNat i) 0):Int)>1000000)) then
   some (8,())
  else
   ag.L7 i b0 b02 b03 b04
 else none:=res_eq (by kernel_rfl)
theorem ag.L4_eq (i b0 b02 b03 b04):ag.L4 i b0 b02 b03 b04=
 bif (decide ((i:Int)<((List.length b04:Int)))) then
  ag.L5 i b0 b02 b03 b04
 else
  some (0,()):=res_eq (by kernel_rfl)
theorem ag.L5_eq (i b0 b02 b03 b04):ag.L5 i b0 b02 b03 b04=
 bif (decide ((0:Int)≤i∧(i:Int)<((List.length b04:Int)))) then
  bif (decide ((((((((((List.getD b04 (Int.toNat i) d7_).2).2).1).2).2).2).1):Int)>b0)) then
   some (8,())
  else
   (cq.F ((((((((List.getD b04 (Int.toNat i) d7_).2).2).2).1).2).2).1) b0).bind fun r0=>
   bif r0.1 then
    some (8,())
   else
    (cq.F (((((((((List.getD b04 (Int.toNat i) d7_).2).2).2).2).1).2).2).1) b0).bind fun r1=>
    bif r1.1 then
     some (8,())
    else
     ag.L6 i b0 b02 b03 b04
 else none:=res_eq (by kernel_rfl)
theorem ag.L6_eq (i b0 b02 b03 b04):ag.L6 i b0 b02 b03 b04=
 ag.L4 (IntKind.wrap .i64 (i+1)) b0 b02 b03 b04:=res_eq (by kernel_rfl)
theorem ag.L7_eq (i b0 b02 b03 b04):ag.L7 i b0 b02 b03 b04=
 ag.L2 (IntKind.wrap .i64 (i+1)) b0 b02 b03 b04:=res_eq (by kernel_rfl)
theorem ag.F_eq (s):ag.F s=
 (bd.F s.2.2.2.1).bind fun r0=>
 bif (r0.1 !=0) then
  some (8,())
 else
  ag.L1 s.1 s.2.1 s.2.2.1 s.2.2.2.1:=by kernel_rfl
def fm.sg:Sig:=⟨[.val t8],[(t8,true),((.int .i64),true)]⟩
def fm.E:Env:=⟨tl,fun i=>look i [(24,de.Fn),(35,g9.Fn)],[],eqs,globs,prims⟩
def fm.c:=cxOf fm.E fm.sg Tryz.f15
def fm.b:=body Tryz.f15
def fm.Fn:Fun:=fnOf fm.E fm.sg Tryz.f15
def fm.F (s:t8.den):Option (t8.den × Int × Unit):=fm.Fn.F (s,())
def fm.L1 (b0 b02:List Int) (b1:Int) (b12 b13:List Int) (l2:List t7.den) (l3:List t10.den):Option (t8.den × Int × Unit):=res fm.c (atJoin fm.b [1,1,0,1]) ⟨[(2,(.ptr 0 [])),(4,(.ptr 1 []))],[(0,some (.box (.agg [(.v (.int .u64) 0),(.v (.arr 32 (.int .u8)) b0),(.v (.arr 16 (.int .u32)) b02),(.sl 2)]))),(1,some (.box (.agg [(.v (.int .u64) b1),(.v (.arr 32 (.int .u8)) b12),(.v (.arr 16 (.int .u32)) b13),(.sl 3)]))),(2,some (.row t7 l2 false)),(3,some (.row t10 l3 false))],4,[]⟩
theorem fm.spec:FnSpec Tryz.prog globs 15 fm.Fn:=spec_of (E:=fm.E) (envOk_at tabOk eqOk primsOk (.cons de.spec<|.cons g9.spec<|.nil)) mixOk Tryz.func15 (by kernel_rfl)
theorem fm.L1_eq (b0 b02 b1 b12 b13 l2 l3):fm.L1 b0 b02 b1 b12 b13 l2 l3=
 (de.F (b1,b12,b13,l3,())).bind fun r0=>
 some (r0.1,r0.2.1,()):=res_eq (by kernel_rfl)
theorem fm.F_eq (s):fm.F s=
 (g9.F s).bind fun r0=>
 bif (r0.2.1 !=0) then
  some ((0,(List.replicate 32 (0:Int)),(List.replicate 16 (0:Int)),([]:List t7.den),()),r0.2.1,())
 else
  fm.L1 (List.replicate 32 (0:Int)) (List.replicate 16 (0:Int)) r0.1.1 r0.1.2.1 r0.1.2.2.1 ([]:List t7.den) r0.1.2.2.2.1:=by kernel_rfl
def gi.sg:Sig:=⟨[.val t2],[(.bool,true)]⟩
def gi.E:Env:=⟨tl,fun i=>look i [],[],eqs,globs,prims⟩
def gi.Fn:Fun:=fnOf gi.E gi.sg Tryz.f171
def gi.F (a:t2.den):Option (Bool × Unit):=gi.Fn.F (a,())
theorem gi.spec:FnSpec Tryz.prog globs 171 gi.Fn:=spec_of (E:=gi.E) (envOk_at tabOk eqOk primsOk (.nil)) mixOk Tryz.func171 (by kernel_rfl)
theorem gi.F_eq (a):gi.F a=
 bif (decide ((((List.length a.1:Int)):Int)>100)) then
  some (true,())
 else
  some ((decide ((((List.length a.2.1:Int)):Int)>100)),()):=by kernel_rfl
def gm.sg:Sig:=⟨[.val t4],[(.bool,true)]⟩
def gm.E:Env:=⟨tl,fun i=>look i [],[],eqs,globs,prims⟩
def gm.Fn:Fun:=fnOf gm.E gm.sg Tryz.f172
def gm.F (o:t4.den):Option (Bool × Unit):=gm.Fn.F (o,())
theorem gm.spec:FnSpec Tryz.prog globs 172 gm.Fn:=spec_of (E:=gm.E) (envOk_at tabOk eqOk primsOk (.nil)) mixOk Tryz.func172 (by kernel_rfl)
theorem gm.F_eq (o):gm.F o=
 bif (decide ((((List.length o.1:Int)):Int)>100)) then
  some (true,())
 else
  some ((decide ((((List.length o.2.1:Int)):Int)>100)),()):=by kernel_rfl
def fr.sg:Sig:=⟨[.val t5],[(.bool,true)]⟩
def fr.E:Env:=⟨tl,fun i=>look i [(171,gi.Fn),(172,gm.Fn)],[],eqs,globs,prims⟩
def fr.Fn:Fun:=fnOf fr.E fr.sg Tryz.f133
def fr.F (t:t5.den):Option (Bool × Unit):=fr.Fn.F (t,())
theorem fr.spec:FnSpec Tryz.prog globs 133 fr.Fn:=spec_of (E:=fr.E) (envOk_at tabOk eqOk primsOk (.cons gi.spec<|.cons gm.spec<|.nil)) mixOk Tryz.func133 (by kernel_rfl)
theorem fr.F_eq (t):fr.F t=
 bif (decide ((((List.length t.2.1:Int)):Int)>100)) then
  some (true,())
 else
  bif (decide ((((List.length t.2.2.1:Int)):Int)>100)) then
   some (true,())
  else
   bif (decide ((((List.length t.2.2.2.2.1:Int)):Int)>100)) then
    some (true,())
   else
    (gi.F t.2.2.2.1).bind fun r0=>
    bif r0.1 then
     some (true,())
    else
     (gm.F t.2.2.2.2.2.1).bind fun r1=>
     some (r1.1,()):=by kernel_rfl
def fx.sg:Sig:=⟨[.val t7],[(.bool,true)]⟩
def fx.E:Env:=⟨tl,fun i=>look i [(133,fr.Fn)],[],eqs,globs,prims⟩
def fx.Fn:Fun:=fnOf fx.E fx.sg Tryz.f91
def fx.F (p:t7.den):Option (Bool × Unit):=fx.Fn.F (p,())
theorem fx.spec:FnSpec Tryz.prog globs 91 fx.Fn:=spec_of (E:=fx.E) (envOk_at tabOk eqOk primsOk (.cons fr.spec<|.nil)) mixOk Tryz.func91 (by kernel_rfl)
theorem fx.F_eq (p):fx.F p=
 (fr.F p.2.2.2.1).bind fun r0=>
 bif r0.1 then
  some (true,())
 else
  (fr.F p.2.2.2.2.1).bind fun r1=>
  bif r1.1 then
   some (true,())
  else
   some ((decide ((((List.length p.2.2.2.2.2.1:Int)):Int)>100)),()):=by kernel_rfl
def ce.sg:Sig:=⟨[.val (.slice t7)],[(.bool,true)]⟩
def ce.E:Env:=⟨tl,fun i=>look i [(91,fx.Fn)],[],eqs,globs,prims⟩
def ce.c:=cxOf ce.E ce.sg Tryz.f62
def ce.b:=body Tryz.f62
def ce.Fn:Fun:=fnOf ce.E ce.sg Tryz.f62
def ce.F (l:List t7.den):Option (Bool × Unit):=ce.Fn.F (l,())
def ce.L1 (l:List t7.den) (i:Int):Option (Bool × Unit):=res ce.c (atLoop ce.b [1,0,1,0]) ⟨[(0,(.v (.slice t7) l)),(3,(.v (.int .i64) i))],[],0,[]⟩
def ce.L2 (l:List t7.den) (i:Int):Option (Bool × Unit):=res ce.c (atJoin ce.b [1,0,1,0,0,0,1]) ⟨[(0,(.v (.slice t7) l)),(3,(.v (.int .i64) i))],[],0,[]⟩
def ce.L3 (l:List t7.den) (i:Int):Option (Bool × Unit):=res ce.c (atJoin ce.b [1,0,1,0,0,1,0,0,1]) ⟨[(0,(.v (.slice t7) l)),(3,(.v (.int .i64) i))],[],0,[]⟩
theorem ce.spec:FnSpec Tryz.prog globs 62 ce.Fn:=spec_of (E:=ce.E) (envOk_at tabOk eqOk primsOk (.cons fx.spec<|.nil)) mixOk Tryz.func62 (by kernel_rfl)
theorem ce.L1_eq (l i):ce.L1 l i=
 bif (decide ((i:Int)<((List.length l:Int)))) then
  bif (decide ((i:Int)≤20)) then
   ce.L2 l i
  else
   some ((decide ((((List.length l:Int)):Int)>20)),())
 else
  some ((decide ((((List.length l:Int)):Int)>20)),()):=res_eq (by kernel_rfl)
theorem ce.L2_eq (l i):ce.L2 l i=
 bif (decide ((0:Int)≤i∧(i:Int)<((List.length l:Int)))) then
  (fx.F (List.getD l (Int.toNat i) d7_)).bind fun r0=>
  bif r0.1 then
   some (true,())
  else
   ce.L3 l i
 else none:=res_eq (by kernel_rfl)
theorem ce.L3_eq (l i):ce.L3 l i=
 ce.L1 l (IntKind.wrap .i64 (i+1)):=res_eq (by kernel_rfl)
theorem ce.F_eq (l):ce.F l=
 ce.L1 l 0:=by kernel_rfl
def gh.sg:Sig:=⟨[.val t8],[(.bool,true)]⟩
def gh.E:Env:=⟨tl,fun i=>look i [(62,ce.Fn)],[],eqs,globs,prims⟩
def gh.Fn:Fun:=fnOf gh.E gh.sg Tryz.f39
def gh.F (s:t8.den):Option (Bool × Unit):=gh.Fn.F (s,())
theorem gh.spec:FnSpec Tryz.prog globs 39 gh.Fn:=spec_of (E:=gh.E) (envOk_at tabOk eqOk primsOk (.cons ce.spec<|.nil)) mixOk Tryz.func39 (by kernel_rfl)
theorem gh.F_eq (s):gh.F s=
 (ce.F s.2.2.2.1).bind fun r0=>
 some (r0.1,()):=by kernel_rfl
def fu.sg:Sig:=⟨[.val t8],[(.bool,true)]⟩
def fu.E:Env:=⟨tl,fun i=>look i [(39,gh.Fn)],[],eqs,globs,prims⟩
def fu.Fn:Fun:=fnOf fu.E fu.sg Tryz.f18
def fu.F (s:t8.den):Option (Bool × Unit):=fu.Fn.F (s,())
theorem fu.spec:FnSpec Tryz.prog globs 18 fu.Fn:=spec_of (E:=fu.E) (envOk_at tabOk eqOk primsOk (.cons gh.spec<|.nil)) mixOk Tryz.func18 (by kernel_rfl)
theorem fu.F_eq (s):fu.F s=
 (gh.F s).bind fun r0=>
 some (r0.1,()):=by kernel_rfl
def ej.sg:Sig:=⟨[.val t8,.val t8],[((.int .i64),true)]⟩
def ej.E:Env:=⟨tl,fun i=>look i [(13,ag.Fn)],[],eqs,globs,prims⟩
def ej.c:=cxOf ej.E ej.sg Tryz.f19
def ej.b:=body Tryz.f19
def ej.Fn:Fun:=fnOf ej.E ej.sg Tryz.f19
def ej.F (a:t8.den) (b:t8.den):Option (Int × Unit):=ej.Fn.F (a,b,())
def ej.L1 (b0:Int) (b02 b03:List Int) (b04:List t7.den):Option (Int × Unit):=res ej.c (atJoin ej.b [1,0,1]) ⟨[(3,(.ptr 0 []))],[(0,some (.box (.agg [(.v (.int .u64) b0),(.v (.arr 32 (.int .u8)) b02),(.v (.arr 16 (.int .u32)) b03),(.v (.slice t7) b04)])))],1,[]⟩
theorem ej.spec:FnSpec Tryz.prog globs 19 ej.Fn:=spec_of (E:=ej.E) (envOk_at tabOk eqOk primsOk (.cons ag.spec<|.nil)) mixOk Tryz.func19 (by kernel_rfl)
theorem ej.L1_eq (b0 b02 b03 b04):ej.L1 b0 b02 b03 b04=
 (ag.F (b0,b02,b03,b04,())).bind fun r0=>
 some (r0.1,()):=res_eq (by kernel_rfl)
theorem ej.F_eq (a b):ej.F a b=
 (ag.F a).bind fun r0=>
 bif (r0.1 !=0) then
  (ag.F a).bind fun r1=>
  some (r1.1,())
 else
  ej.L1 b.1 b.2.1 b.2.2.1 b.2.2.2.1:=by kernel_rfl
def cf.sg:Sig:=⟨[.val (.slice t9),.val (.slice t9)],[(.bool,true)]⟩
def cf.E:Env:=⟨tl,fun i=>look i [],[],eqs,globs,prims⟩
def cf.c:=cxOf cf.E cf.sg Tryz.f94
def cf.b:=body Tryz.f94
def cf.Fn:Fun:=fnOf cf.E cf.sg Tryz.f94
def cf.F (s1 s2:List t9.den):Option (Bool × Unit):=cf.Fn.F (s1,s2,())
def cf.L1 (s1 s2:List t9.den):Option (Bool × Unit):=res cf.c (atJoin cf.b [1,0,1]) ⟨[(0,(.v (.slice t9) s1)),(1,(.v (.slice t9) s2))],[],0,[]⟩
def cf.L2 (s1 s2:List t9.den) (t12_ t13_:Int):Option (Bool × Unit):=res cf.c (atLoop cf.b [1,1,0,1,0]) ⟨[(0,(.v (.slice t9) s1)),(1,(.v (.slice t9) s2)),(12,(.v (.int .i64) t12_)),(13,(.v (.int .i64) t13_))],[],0,[]⟩
def cf.L3 (s1 s2:List t9.den) (t12_ t13_:Int):Option (Bool × Unit):=res cf.c (atJoin cf.b [1,1,0,1,0,0,1,0]) ⟨[(0,(.v (.slice t9) s1)),(1,(.v (.slice t9) s2)),(12,(.v (.int .i64) t12_)),(13,(.v (.int .i64) t13_))],[],0,[]⟩
def cf.L4 (s1 s2:List t9.den) (t12_ t13_:Int):Option (Bool × Unit):=res cf.c (atJoin cf.b [1,1,0,1,0,0,1,1,0,0,1,1]) ⟨[(0,(.v (.slice t9) s1)),(1,(.v (.slice t9) s2)),(12,(.v (.int .i64) t12_)),(13,(.v (.int .i64) t13_))],[],0,[]⟩
theorem cf.spec:FnSpec Tryz.prog globs 94 cf.Fn:=spec_of (E:=cf.E) (envOk_at tabOk eqOk primsOk (.nil)) mixOk Tryz.func94 (by kernel_rfl)
theorem cf.L1_eq (s1 s2):cf.L1 s1 s2=
 cf.L2 s1 s2 ((List.length s1:Int)) 0:=res_eq (by kernel_rfl)
theorem cf.L2_eq (s1 s2 t12_ t13_):cf.L2 s1 s2 t12_ t13_=
 bif (decide ((t13_:Int)<t12_)) then
  cf.L3 s1 s2 t12_ t13_
 else
  some (true,()):=res_eq (by kernel_rfl)
theorem cf.L3_eq (s1 s2 t12_ t13_):cf.L3 s1 s2 t12_ t13_=
 bif (decide ((0:Int)≤t13_∧(t13_:Int)<((List.length s1:Int)))) then
  bif (decide ((0:Int)≤t13_∧(t13_:Int)<((List.length s2:Int)))) then
   bif (!(Ty.beq t9 (List.getD s1 (Int.toNat t13_) d9_) (List.getD s2 (Int.toNat t13_) d9_))) then
    some (false,())
   else
    cf.L4 s1 s2 t12_ t13_
  else none
 else none:=res_eq (by kernel_rfl)
theorem cf.L4_eq (s1 s2 t12_ t13_):cf.L4 s1 s2 t12_ t13_=
 cf.L2 s1 s2 t12_ (IntKind.wrap .i64 (t13_+1)):=res_eq (by kernel_rfl)
theorem cf.F_eq (s1 s2):cf.F s1 s2=
 bif (((List.length s1:Int)) !=((List.length s2:Int))) then
  some (false,())
 else
  cf.L1 s1 s2:=by kernel_rfl
def ci.sg:Sig:=⟨[.val (.slice (.int .u32)),.val (.slice (.int .u32))],[(.bool,true)]⟩
def ci.E:Env:=⟨tl,fun i=>look i [],[],eqs,globs,prims⟩
def ci.c:=cxOf ci.E ci.sg Tryz.f95
def ci.b:=body Tryz.f95
def ci.Fn:Fun:=fnOf ci.E ci.sg Tryz.f95
def ci.F (s1 s2:List Int):Option (Bool × Unit):=ci.Fn.F (s1,s2,())
def ci.L1 (s1 s2:List Int):Option (Bool × Unit):=res ci.c (atJoin ci.b [1,0,1]) ⟨[(0,(.v (.slice (.int .u32)) s1)),(1,(.v (.slice (.int .u32)) s2))],[],0,[]⟩
def ci.L2 (s1 s2:List Int) (t12_ t13_:Int):Option (Bool × Unit):=res ci.c (atLoop ci.b [1,1,0,1,0]) ⟨[(0,(.v (.slice (.int .u32)) s1)),(1,(.v (.slice (.int .u32)) s2)),(12,(.v (.int .i64) t12_)),(13,(.v (.int .i64) t13_))],[],0,[]⟩
def ci.L3 (s1 s2:List Int) (t12_ t13_:Int):Option (Bool × Unit):=res ci.c (atJoin ci.b [1,1,0,1,0,0,1,0]) ⟨[(0,(.v (.slice (.int .u32)) s1)),(1,(.v (.slice (.int .u32)) s2)),(12,(.v (.int .i64) t12_)),(13,(.v (.int .i64) t13_))],[],0,[]⟩
def ci.L4 (s1 s2:List Int) (t12_ t13_:Int):Option (Bool × Unit):=res ci.c (atJoin ci.b [1,1,0,1,0,0,1,1,0,0,1,1]) ⟨[(0,(.v (.slice (.int .u32)) s1)),(1,(.v (.slice (.int .u32)) s2)),(12,(.v (.int .i64) t12_)),(13,(.v (.int .i64) t13_))],[],0,[]⟩
theorem ci.spec:FnSpec Tryz.prog globs 95 ci.Fn:=spec_of (E:=ci.E) (envOk_at tabOk eqOk primsOk (.nil)) mixOk Tryz.func95 (by kernel_rfl)
theorem ci.L1_eq (s1 s2):ci.L1 s1 s2=
 ci.L2 s1 s2 ((List.length s1:Int)) 0:=res_eq (by kernel_rfl)
theorem ci.L2_eq (s1 s2 t12_ t13_):ci.L2 s1 s2 t12_ t13_=
 bif (decide ((t13_:Int)<t12_)) then
  ci.L3 s1 s2 t12_ t13_
 else
  some (true,()):=res_eq (by kernel_rfl)
theorem ci.L3_eq (s1 s2 t12_ t13_):ci.L3 s1 s2 t12_ t13_=
 bif (decide ((0:Int)≤t13_∧(t13_:Int)<((List.length s1:Int)))) then
  bif (decide ((0:Int)≤t13_∧(t13_:Int)<((List.length s2:Int)))) then
   bif ((List.getD s1 (Int.toNat t13_) 0) !=(List.getD s2 (Int.toNat t13_) 0)) then
    some (false,())
   else
    ci.L4 s1 s2 t12_ t13_
  else none
 else none:=res_eq (by kernel_rfl)
theorem ci.L4_eq (s1 s2 t12_ t13_):ci.L4 s1 s2 t12_ t13_=
 ci.L2 s1 s2 t12_ (IntKind.wrap .i64 (t13_+1)):=res_eq (by kernel_rfl)
theorem ci.F_eq (s1 s2):ci.F s1 s2=
 bif (((List.length s1:Int)) !=((List.length s2:Int))) then
  some (false,())
 else
  ci.L1 s1 s2:=by kernel_rfl
def gb.sg:Sig:=⟨[.val t10,.val t10],[(.bool,true)]⟩
def gb.E:Env:=⟨tl,fun i=>look i [(94,cf.Fn),(95,ci.Fn)],[],eqs,globs,prims⟩
def gb.Fn:Fun:=fnOf gb.E gb.sg Tryz.f65
def gb.F (a:t10.den) (b:t10.den):Option (Bool × Unit):=gb.Fn.F (a,b,())
theorem gb.spec:FnSpec Tryz.prog globs 65 gb.Fn:=spec_of (E:=gb.E) (envOk_at tabOk eqOk primsOk (.cons cf.spec<|.cons ci.spec<|.nil)) mixOk Tryz.func65 (by kernel_rfl)
theorem gb.F_eq (a b):gb.F a b=
 bif (a.1==b.1) then
  bif (Ty.beq (.arr 3 t0) a.2.1 b.2.1) then
   bif (Ty.beq (.arr 2 (.int .i64)) a.2.2.1 b.2.2.1) then
    bif (Ty.beq t1 a.2.2.2.1 b.2.2.2.1) then
     bif (Ty.beq t6 a.2.2.2.2.2.2.2.1 b.2.2.2.2.2.2.2.1) then
      (cf.F a.2.2.2.2.1 b.2.2.2.2.1).bind fun r0=>
      bif r0.1 then
       (cf.F a.2.2.2.2.2.1 b.2.2.2.2.2.1).bind fun r1=>
       bif r1.1 then
        (ci.F a.2.2.2.2.2.2.1 b.2.2.2.2.2.2.1).bind fun r2=>
        some (r2.1,())
       else
        some (false,())
      else
       some (false,())
     else
      some (false,())
    else
     some (false,())
   else
    some (false,())
  else
   some (false,())
 else
  some (false,()):=by kernel_rfl
def cb.sg:Sig:=⟨[.val (.slice t10),.val (.slice t10),.fn 65],[(.bool,true)]⟩
def cb.E:Env:=⟨tl,fun i=>look i [(65,gb.Fn)],[],eqs,globs,prims⟩
def cb.c:=cxOf cb.E cb.sg Tryz.f64
def cb.b:=body Tryz.f64
def cb.Fn:Fun:=fnOf cb.E cb.sg Tryz.f64
def cb.F (s1 s2:List t10.den):Option (Bool × Unit):=cb.Fn.F (s1,s2,())
def cb.L1 (s1 s2:List t10.den):Option (Bool × Unit):=res cb.c (atJoin cb.b [1,0,1]) ⟨[(0,(.v (.slice t10) s1)),(1,(.v (.slice t10) s2)),(2,(.fn 65 []))],[],0,[]⟩
def cb.L2 (s2 t15_:List t10.den) (t16_ t17_:Int):Option (Bool × Unit):=res cb.c (atLoop cb.b [1,1,0,1,0]) ⟨[(1,(.v (.slice t10) s2)),(2,(.fn 65 [])),(15,(.v (.slice t10) t15_)),(16,(.v (.int .i64) t16_)),(17,(.v (.int .i64) t17_))],[],0,[]⟩
def cb.L3 (s2 t15_:List t10.den) (t16_ t17_:Int):Option (Bool × Unit):=res cb.c (atJoin cb.b [1,1,0,1,0,0,1,0]) ⟨[(1,(.v (.slice t10) s2)),(2,(.fn 65 [])),(15,(.v (.slice t10) t15_)),(16,(.v (.int .i64) t16_)),(17,(.v (.int .i64) t17_))],[],0,[]⟩
def cb.L4 (s2 t15_:List t10.den) (t16_ t17_:Int):Option (Bool × Unit):=res cb.c (atJoin cb.b [1,1,0,1,0,0,1,1,0,0,1,1,1]) ⟨[(1,(.v (.slice t10) s2)),(2,(.fn 65 [])),(15,(.v (.slice t10) t15_)),(16,(.v (.int .i64) t16_)),(17,(.v (.int .i64) t17_))],[],0,[]⟩
theorem cb.spec:FnSpec Tryz.prog globs 64 cb.Fn:=spec_of (E:=cb.E) (envOk_at tabOk eqOk primsOk (.cons gb.spec<|.nil)) mixOk Tryz.func64 (by kernel_rfl)
theorem cb.L1_eq (s1 s2):cb.L1 s1 s2=
 cb.L2 s2 s1 ((List.length s1:Int)) 0:=res_eq (by kernel_rfl)
theorem cb.L2_eq (s2 t15_ t16_ t17_):cb.L2 s2 t15_ t16_ t17_=
 bif (decide ((t17_:Int)<t16_)) then
  cb.L3 s2 t15_ t16_ t17_
 else
  some (true,()):=res_eq (by kernel_rfl)
theorem cb.L3_eq (s2 t15_ t16_ t17_):cb.L3 s2 t15_ t16_ t17_=
 bif (decide ((0:Int)≤t17_∧(t17_:Int)<((List.length t15_:Int)))) then
  bif (decide ((0:Int)≤t17_∧(t17_:Int)<((List.length s2:Int)))) then
   (gb.F (List.getD t15_ (Int.toNat t17_) d10_) (List.getD s2 (Int.toNat t17_) d10_)).bind fun r0=>
   bif (!r0.1) then
    some (false,())
   else
    cb.L4 s2 t15_ t16_ t17_
  else none
 else none:=res_eq (by kernel_rfl)
theorem cb.L4_eq (s2 t15_ t16_ t17_):cb.L4 s2 t15_ t16_ t17_=
 cb.L2 s2 t15_ t16_ (IntKind.wrap .i64 (t17_+1)):=res_eq (by kernel_rfl)
theorem cb.F_eq (s1 s2):cb.F s1 s2=
 bif (((List.length s1:Int)) !=((List.length s2:Int))) then
  some (false,())
 else
  cb.L1 s1 s2:=by kernel_rfl
def i6.sg:Sig:=⟨[.val t11,.val t11],[(.bool,true)]⟩
def i6.E:Env:=⟨tl,fun i=>look i [(64,cb.Fn),(65,gb.Fn)],[],eqs,globs,prims⟩
def i6.Fn:Fun:=fnOf i6.E i6.sg Tryz.f42
def i6.F (a:t11.den) (b:t11.den):Option (Bool × Unit):=i6.Fn.F (a,b,())
theorem i6.spec:FnSpec Tryz.prog globs 42 i6.Fn:=spec_of (E:=i6.E) (envOk_at tabOk eqOk primsOk (.cons cb.spec<|.cons gb.spec<|.nil)) mixOk Tryz.func42 (by kernel_rfl)
theorem i6.F_eq (a b):i6.F a b=
 bif (a.1==b.1) then
  bif (Ty.beq (.arr 32 (.int .u8)) a.2.1 b.2.1) then
   bif (Ty.beq (.arr 16 (.int .u32)) a.2.2.1 b.2.2.1) then
    (cb.F a.2.2.2.1 b.2.2.2.1).bind fun r0=>
    some (r0.1,())
   else
    some (false,())
  else
   some (false,())
 else
  some (false,()):=by kernel_rfl
def i5.sg:Sig:=⟨[.val t8,.val t8,.fn 41,.fn 42],[(.bool,true)]⟩
def i5.E:Env:=⟨tl,fun i=>look i [(41,eu.Fn),(42,i6.Fn)],[],eqs,globs,prims⟩
def i5.Fn:Fun:=fnOf i5.E i5.sg Tryz.f40
def i5.F (a:t8.den) (b:t8.den):Option (Bool × Unit):=i5.Fn.F (a,b,())
theorem i5.spec:FnSpec Tryz.prog globs 40 i5.Fn:=spec_of (E:=i5.E) (envOk_at tabOk eqOk primsOk (.cons eu.spec<|.cons i6.spec<|.nil)) mixOk Tryz.func40 (by kernel_rfl)
theorem i5.F_eq (a b):i5.F a b=
 (eu.F a).bind fun r0=>
 (eu.F b).bind fun r1=>
 (i6.F r0.1 r1.1).bind fun r2=>
 some (r2.1,()):=by kernel_rfl
def ez.sg:Sig:=⟨[.val t8,.val t8],[(.bool,true),((.int .i64),true)]⟩
def ez.E:Env:=⟨tl,fun i=>look i [(34,fy.Fn),(40,i5.Fn),(41,eu.Fn),(42,i6.Fn)],[],eqs,globs,prims⟩
def ez.c:=cxOf ez.E ez.sg Tryz.f20
def ez.b:=body Tryz.f20
def ez.Fn:Fun:=fnOf ez.E ez.sg Tryz.f20
def ez.F (a:t8.den) (b:t8.den):Option (Bool × Int × Unit):=ez.Fn.F (a,b,())
def ez.L1 (b0:Int) (b02 b03:List Int) (b04:List t7.den) (b1:Int) (b12 b13:List Int) (b14:List t7.den):Option (Bool × Int × Unit):=res ez.c (atJoin ez.b [1,0,1,1]) ⟨[(2,(.ptr 0 [])),(3,(.ptr 1 []))],[(0,some (.box (.agg [(.v (.int .u64) b0),(.v (.arr 32 (.int .u8)) b02),(.v (.arr 16 (.int .u32)) b03),(.v (.slice t7) b04)]))),(1,some (.box (.agg [(.v (.int .u64) b1),(.v (.arr 32 (.int .u8)) b12),(.v (.arr 16 (.int .u32)) b13),(.v (.slice t7) b14)])))],2,[]⟩
def ez.L2 (b0:Int) (b02 b03:List Int) (b04:List t7.den) (b1:Int) (b12 b13:List Int) (b14:List t7.den):Option (Bool × Int × Unit):=res ez.c (atJoin ez.b [1,1,0,1,1]) ⟨[(2,(.ptr 0 [])),(3,(.ptr 1 []))],[(0,some (.box (.agg [(.v (.int .u64) b0),(.v (.arr 32 (.int .u8)) b02),(.v (.arr 16 (.int .u32)) b03),(.v (.slice t7) b04)]))),(1,some (.box (.agg [(.v (.int .u64) b1),(.v (.arr 32 (.int .u8)) b12),(.v (.arr 16 (.int .u32)) b13),(.v (.slice t7) b14)])))],2,[]⟩
theorem ez.spec:FnSpec Tryz.prog globs 20 ez.Fn:=spec_of (E:=ez.E) (envOk_at tabOk eqOk primsOk (.cons fy.spec<|.cons i5.spec<|.cons eu.spec<|.cons i6.spec<|.nil)) mixOk Tryz.func20 (by kernel_rfl)
theorem ez.L1_eq (b0 b02 b03 b04 b1 b12 b13 b14):ez.L1 b0 b02 b03 b04 b1 b12 b13 b14=
 (fy.F (b1,b12,b13,b14,())).bind fun r0=>
 bif (r0.1 !=0) then
  some (false,r0.1,())
 else
  ez.L2 b0 b02 b03 b04 b1 b12 b13 b14:=res_eq (by kernel_rfl)
theorem ez.L2_eq (b0 b02 b03 b04 b1 b12 b13 b14):ez.L2 b0 b02 b03 b04 b1 b12 b13 b14=
 (i5.F (b0,b02,b03,b04,()) (b1,b12,b13,b14,())).bind fun r0=>
 some (r0.1,0,()):=res_eq (by kernel_rfl)
theorem ez.F_eq (a b):ez.F a b=
 (fy.F a).bind fun r0=>
 bif (r0.1 !=0) then
  some (false,r0.1,())
 else
  ez.L1 a.1 a.2.1 a.2.2.1 a.2.2.2.1 b.1 b.2.1 b.2.2.1 b.2.2.2.1:=by kernel_rfl
def gn.sg:Sig:=⟨[.val t7],[(t7,true)]⟩
def gn.E:Env:=⟨tl,fun i=>look i [(96,gd.Fn)],[],eqs,globs,prims⟩
def gn.Fn:Fun:=fnOf gn.E gn.sg Tryz.f66
def gn.F (p:t7.den):Option (t7.den × Unit):=gn.Fn.F (p,())
theorem gn.spec:FnSpec Tryz.prog globs 66 gn.Fn:=spec_of (E:=gn.E) (envOk_at tabOk eqOk primsOk (.cons gd.spec<|.nil)) mixOk Tryz.func66 (by kernel_rfl)
theorem gn.F_eq (p):gn.F p=
 (gd.F p.2.2.2.1).bind fun r0=>
 (gd.F p.2.2.2.2.1).bind fun r1=>
 bif (lim ((List.length ([]:List Int))+(List.length p.2.2.2.2.2.1)) (.int .u32)) then
  some ((p.1,p.2.1,p.2.2.1,r0.1,r1.1,(([]:List Int)++p.2.2.2.2.2.1),p.2.2.2.2.2.2.1,()),())
 else none:=by kernel_rfl
def da.sg:Sig:=⟨[.val (.slice t7)],[((.slice t7),true)]⟩
def da.E:Env:=⟨tl,fun i=>look i [(66,gn.Fn)],[],eqs,globs,prims⟩
def da.c:=cxOf da.E da.sg Tryz.f43
def da.b:=body Tryz.f43
def da.Fn:Fun:=fnOf da.E da.sg Tryz.f43
def da.F (l:List t7.den):Option ((List t7.den) × Unit):=da.Fn.F (l,())
def da.L1 (l:List t7.den) (i:Int) (l0:List t7.den):Option ((List t7.den) × Unit):=res da.c (atLoop da.b [1,1,0,1,0]) ⟨[(0,(.v (.slice t7) l)),(3,(.sl 0)),(4,(.v (.int .i64) i))],[(0,some (.row t7 l0 false))],1,[]⟩
def da.L2 (l:List t7.den) (i:Int) (l0:List t7.den):Option ((List t7.den) × Unit):=res da.c (atJoin da.b [1,1,0,1,0,0,0,1]) ⟨[(0,(.v (.slice t7) l)),(3,(.sl 0)),(4,(.v (.int .i64) i))],[(0,some (.row t7 l0 false))],1,[]⟩
theorem da.spec:FnSpec Tryz.prog globs 43 da.Fn:=spec_of (E:=da.E) (envOk_at tabOk eqOk primsOk (.cons gn.spec<|.nil)) mixOk Tryz.func43 (by kernel_rfl)
theorem da.L1_eq (l i l0):da.L1 l i l0=
 bif (decide ((i:Int)<((List.length l:Int)))) then
  da.L2 l i l0
 else
  some (l0,()):=res_eq (by kernel_rfl)
theorem da.L2_eq (l i l0):da.L2 l i l0=
 bif (decide ((0:Int)≤i∧(i:Int)<((List.length l:Int)))) then
  (gn.F (List.getD l (Int.toNat i) d7_)).bind fun r0=>
  bif (lim ((List.length l0)+(List.length ([r0.1]:List t7.den))) t7) then
   da.L1 l (IntKind.wrap .i64 (i+1)) (l0++([r0.1]:List t7.den))
  else none
 else none:=res_eq (by kernel_rfl)
theorem da.F_eq (l):da.F l=
 da.L1 l 0 ([]:List t7.den):=by kernel_rfl
def gk.sg:Sig:=⟨[.val t8],[(t8,true)]⟩
def gk.E:Env:=⟨tl,fun i=>look i [(43,da.Fn)],[],eqs,globs,prims⟩
def gk.Fn:Fun:=fnOf gk.E gk.sg Tryz.f21
def gk.F (s:t8.den):Option (t8.den × Unit):=gk.Fn.F (s,())
theorem gk.spec:FnSpec Tryz.prog globs 21 gk.Fn:=spec_of (E:=gk.E) (envOk_at tabOk eqOk primsOk (.cons da.spec<|.nil)) mixOk Tryz.func21 (by kernel_rfl)
theorem gk.F_eq (s):gk.F s=
 (da.F s.2.2.2.1).bind fun r0=>
 some ((s.1,s.2.1,s.2.2.1,r0.1,()),()):=by kernel_rfl
def cv.sg:Sig:=⟨[.val t8,.val t8],[(.bool,true)]⟩
def cv.E:Env:=⟨tl,fun i=>look i [(7,ao.Fn),(9,fk.Fn),(11,gj.Fn),(12,gc.Fn),(14,bw.Fn),(15,fm.Fn),(17,i7.Fn),(18,fu.Fn),(19,ej.Fn),(20,ez.Fn),(21,gk.Fn)],[],eqs,globs,prims⟩
def cv.c:=cxOf cv.E cv.sg Tryz.f6
def cv.b:=body Tryz.f6
def cv.Fn:Fun:=fnOf cv.E cv.sg Tryz.f6
def cv.F (s:t8.den) (t:t8.den):Option (Bool × Unit):=cv.Fn.F (s,t,())
def cv.L1 (ok:Bool) (b0:Int) (b02 b03:List Int) (b04:List t7.den) (b1:Int) (b12 b13:List Int) (b14:List t7.den):Option (Bool × Unit):=res cv.c (atJoin cv.b [1,1,0,1]) ⟨[(2,(.ptr 0 [])),(3,(.ptr 1 [])),(5,(.v .bool ok))],[(0,some (.box (.agg [(.v (.int .u64) b0),(.v (.arr 32 (.int .u8)) b02),(.v (.arr 16 (.int .u32)) b03),(.v (.slice t7) b04)]))),(1,some (.box (.agg [(.v (.int .u64) b1),(.v (.arr 32 (.int .u8)) b12),(.v (.arr 16 (.int .u32)) b13),(.v (.slice t7) b14)])))],2,[]⟩
def cv.L2 (ok:Bool) (b0:Int) (b02 b03:List Int) (b04:List t7.den) (b1:Int) (b12 b13:List Int) (b14:List t7.den) (l2:List Int):Option (Bool × Unit):=res cv.c (atJoin cv.b [1,1,1,1,1,1,1,1,0,1]) ⟨[(2,(.ptr 0 [])),(3,(.ptr 1 [])),(5,(.v .bool ok)),(6,(.sl 2))],[(0,some (.box (.agg [(.v (.int .u64) b0),(.v (.arr 32 (.int .u8)) b02),(.v (.arr 16 (.int .u32)) b03),(.v (.slice t7) b04)]))),(1,some (.box (.agg [(.v (.int .u64) b1),(.v (.arr 32 (.int .u8)) b12),(.v (.arr 16 (.int .u32)) b13),(.v (.slice t7) b14)]))),(2,some (.row (.int .u8) l2 true))],3,[]⟩
theorem cv.spec:FnSpec Tryz.prog globs 6 cv.Fn:=spec_of (E:=cv.E) (envOk_at tabOk eqOk primsOk (.cons ao.spec<|.cons fk.spec<|.cons gj.spec<|.cons gc.spec<|.cons bw.spec<|.cons fm.spec<|.cons i7.spec<|.cons fu.spec<|.cons ej.spec<|.cons ez.spec<|.cons gk.spec<|.nil)) mixOk Tryz.func6 (by kernel_rfl)
theorem cv.L1_eq (ok b0 b02 b03 b04 b1 b12 b13 b14):cv.L1 ok b0 b02 b03 b04 b1 b12 b13 b14=
 (bw.F (b0,b02,b03,b04,())).bind fun r0=>
 (bw.F (b1,b12,b13,b14,())).bind fun r1=>
 (ao.F r0.1).bind fun r2=>
 (fm.F (b0,b02,b03,b04,())).bind fun r3=>
 (ez.F (b0,b02,b03,b04,()) (b1,b12,b13,b14,())).bind fun r4=>
 bif (r0.2.1 !=0) then
  some (false,())
 else
  bif (r1.2.1 !=0) then
   some (false,())
  else
   bif (r2.2.1 !=0) then
    some (false,())
   else
    bif (r3.2.1 !=0) then
     some (false,())
    else
     bif (r4.2.1 !=0) then
      some (false,())
     else
      (gj.F r2.1 r3.1).bind fun r5=>
      bif (!r5.1) then
       some (false,())
      else
       bif (!(r4.1==(decide ((List.map (fun n=>UInt8.ofNat (Int.toNat n)) r0.1)=(List.map (fun n=>UInt8.ofNat (Int.toNat n)) r1.1))))) then
        some (false,())
       else
        cv.L2 ok b0 b02 b03 b04 b1 b12 b13 b14 r0.1:=res_eq (by kernel_rfl)
theorem cv.L2_eq (ok b0 b02 b03 b04 b1 b12 b13 b14 l2):cv.L2 ok b0 b02 b03 b04 b1 b12 b13 b14 l2=
 (i7.F (b0,b02,b03,b04,())).bind fun r0=>
 (gk.F (b0,b02,b03,b04,())).bind fun r1=>
 (bw.F ((max b0 b1),r1.1.2.1,r1.1.2.2.1,r1.1.2.2.2.1,())).bind fun r2=>
 (fk.F l2 r2.1).bind fun r3=>
 bif ok then
  bif (r0.2.1==0) then
   bif (r0.1==((List.length l2:Int))) then
    bif (decide ((r0.1:Int)≥105)) then
     bif (decide ((r0.1:Int)≤4665)) then
      bif (r2.2.1==0) then
       bif (r3.2.1==0) then
        some (r3.1,())
       else
        some (false,())
      else
       some (false,())
     else
      some (false,())
    else
     some (false,())
   else
    some (false,())
  else
   some (false,())
 else
  some (false,()):=res_eq (by kernel_rfl)
theorem cv.F_eq (s t):cv.F s t=
 gc.F.bind fun r0=>
 (fu.F s).bind fun r1=>
 bif r1.1 then
  some (r0.1,())
 else
  (fu.F t).bind fun r2=>
  bif r2.1 then
   some (r0.1,())
  else
   (ej.F s t).bind fun r3=>
   bif (r3.1 !=0) then
    some (r0.1,())
   else
    bif (!r0.1) then
     some (r0.1,())
    else
     cv.L1 r0.1 s.1 s.2.1 s.2.2.1 s.2.2.2.1 t.1 t.2.1 t.2.2.1 t.2.2.2.1:=by kernel_rfl
end
end Go.Proofs.YtkihjakbbcajbaaGreat.PM
namespace Go.Proofs.YtkihjakbbcajbaaGreat.RP
set_option linter.unusedSimpArgs false
set_option linter.unusedVariables false
open Go Go.Proofs.YtkihjakbbcajbaaGreat.PM
theorem bd_pos {α:Type} {p:Prop} [Decidable p] {a b:α} (h:p):(bif decide p then a else b)=a:=by simp [h]
theorem bd_neg {α:Type} {p:Prop} [Decidable p] {a b:α} (h:¬p):(bif decide p then a else b)=b:=by simp [h]
theorem W_eq {x:Int} (h1: -9223372036854775808≤x) (h2:x≤9223372036854775807):IntKind.wrap .i64 x=x:=by rw [IntKind.wrap_i64];omega
theorem lim_ok {n:Nat} {u:Ty} (h:n*u.bytes≤140737488355328):lim n u=true:=decide_eq_true h
theorem lim_ok_small {n:Nat} {u:Ty} {α:Type} {a b:α} (hu:u.bytes≤1000000) (h:n≤100000000):(bif lim n u then a else b)=a:=by
 rw [lim_ok (Nat.le_trans (Nat.mul_le_mul h hu) (by decide))];rfl
theorem bne_pos {α:Type} {x y:Int} {a b:α} (h:x≠y):(bif x !=y then a else b)=a:=by rw [bne_iff_ne.2 h];rfl
theorem bne_neg {α:Type} {x y:Int} {a b:α} (h:x=y):(bif x !=y then a else b)=b:=by rw [h,bne_self_eq_false];rfl
theorem beq_pos {α:Type} {x y:Int} {a b:α} (h:x=y):(bif x==y then a else b)=a:=by rw [h,beq_self_eq_true];rfl
theorem beq_neg {α:Type} {x y:Int} {a b:α} (h:x≠y):(bif x==y then a else b)=b:=by
 rw [show (x==y)=false by simpa using h];rfl
theorem ob {α β:Type} {f:α→Option β} {x:α}:(some x).bind f=f x:=rfl
theorem toNat_cast (n:Nat):Int.toNat (n:Int)=n:=Int.toNat_natCast n
theorem toNat_sub1 {n:Nat} (h:0<n):Int.toNat ((n:Int) - 1)=n - 1:=by omega
theorem cast_add1 (n:Nat):((n:Int)+1)=((n+1:Nat):Int):=by omega
theorem getD_get {α:Type} {l:List α} {i:Nat} {d:α} (h:i<l.length):l.getD i d=l[i]:=by simp [List.getD,h]
end Go.Proofs.YtkihjakbbcajbaaGreat.RP
namespace Go.Proofs.YtkihjakbbcajbaaGreat.RP
set_option linter.unusedSimpArgs false
set_option linter.unusedVariables false
open Go Go.Proofs.YtkihjakbbcajbaaGreat.PM
@[reducible] def Z (x:Int):Int:=x
def Says (P:Prop) (o:Option (Int × Unit)):Prop:=(P∧o=some (0,()))∨(¬P∧o=some (8,()))
theorem Says.yes {P:Prop} {o:Option (Int × Unit)} (h:Says P o) (p:P):o=some (0,()):=by
 rcases h with h|h
 ·exact h.2
 ·exact absurd p h.1
theorem Says.no {P:Prop} {o:Option (Int × Unit)} (h:Says P o) (p:¬P):o=some (8,()):=by
 rcases h with h|h
 ·exact absurd h.1 p
 ·exact h.2
theorem Says.congr {P Q:Prop} {o:Option (Int × Unit)} (h:Says P o) (e:P↔Q):Says Q o:=by
 rcases h with h|h
 ·exact .inl ⟨e.1 h.1,h.2⟩
 ·exact .inr ⟨fun q=>h.1 (e.2 q),h.2⟩
theorem Says.eq {P:Prop} {o q:Option (Int × Unit)} (h:Says P o) (k:Says P q):o=q:=by
 rcases h with h|h
 ·rw [h.2,k.yes h.1]
 ·rw [h.2,k.no h.1]
theorem loop_all {R:Type} {n:Nat} {L:Nat→R} {ok:Nat→Prop} {stop:R} (h:∀i,i<n→(ok i∧L i=L (i+1))∨(¬ok i∧L i=stop)):
  ((∀i,i<n→ok i)∧L 0=L n)∨((¬∀i,i<n→ok i)∧L 0=stop):=by
 induction n with
 |zero=>exact .inl ⟨fun i hi=>by omega,rfl⟩
 |succ n ih=>
  rcases ih (fun i hi=>h i (by omega)) with ⟨h1,h2⟩|⟨h1,h2⟩
  ·rcases h n (by omega) with ⟨h3,h4⟩|⟨h3,h4⟩
   ·exact .inl ⟨fun i hi=>by
     by_cases e:i=n
     ·rw [e];exact h3
     ·exact h1 i (by omega),h2.trans h4⟩
   ·exact .inr ⟨fun h5=>h3 (h5 n (by omega)),h2.trans h4⟩
  ·exact .inr ⟨fun h3=>h1 fun i hi=>h3 i (by omega),h2⟩
theorem loop_go {R:Type} {n:Nat} {L:Nat→R} (h:∀i,i<n→L i=L (i+1)):L 0=L n:=by
 induction n with
 |zero=>rfl
 |succ n ih=>rw [ih (fun i hi=>h i (by omega)),h n (by omega)]
inductive Chain (next:List Int):Int→List Int→Prop
 |nil:Chain next (-1) []
 |cons {i:Int} {l:List Int} (h0:0≤i) (h1:i<next.length) (h:Chain next (next.getD i.toNat 0) l):Chain next i (i::l)
theorem Chain.det {next:List Int} {i:Int} {l l':List Int} (h:Chain next i l) (h':Chain next i l'):l=l':=by
 induction h generalizing l' with
 |nil=>cases h' with
  |nil=>rfl
  |cons h0=>omega
 |cons h0 h1 _ ih=>cases h' with
  |nil=>omega
  |cons _ _ h2=>rw [ih h2]
theorem Chain.range {next:List Int} {i:Int} {l:List Int} (h:Chain next i l):∀x∈l,0≤x∧x<next.length:=by
 induction h with
 |nil=>simp
 |cons h0 h1 _ ih=>
  intro x hx
  rcases List.mem_cons.1 hx with rfl|hx
  ·exact ⟨h0,h1⟩
  ·exact ih x hx
theorem set_at {α:Type} {l:List α} {i j:Int} {v d:α} (h0:0≤i) (h1:i<l.length) (h2:0≤j):(l.set i.toNat v).getD j.toNat d=if i=j then v else l.getD j.toNat d:=by
 simp only [List.getD_eq_getElem?_getD,List.getElem?_set]
 by_cases e:i=j
 ·subst e;rw [if_pos rfl,if_pos rfl,if_pos (by omega)];rfl
 ·rw [if_neg (by omega),if_neg e]
theorem nodup_le {l:List Int} {n:Nat} (h:l.Nodup) (hr:∀x∈l,0≤x∧x<n):l.length≤n:=by
 have h2:l ⊆ (List.range n).map Int.ofNat:=by
  intro x hx
  have:=hr x hx
  exact List.mem_map.2 ⟨x.toNat,by simp;omega,by simp;omega⟩
 have:=List.Nodup.length_le_of_subset h h2
 simpa using this
theorem nodup_snoc {acc:List Int} {i:Int} (h:acc.Nodup) (hi:¬i∈acc):(acc++[i]).Nodup:=by
 rw [List.nodup_append]
 refine ⟨h,by simp,fun a ha b hb=>?_⟩
 rw [List.mem_singleton.1 hb]
 rintro rfl
 exact hi ha
def marks (s:List Bool) (l:List Int):List Bool:=l.foldl (fun s x=>s.set x.toNat true) s
theorem marks_length (s:List Bool) (l:List Int):(marks s l).length=s.length:=by
 induction l generalizing s with
 |nil=>rfl
 |cons x l ih=>show (marks (s.set x.toNat true) l).length=_;rw [ih];simp
theorem marks_at {s:List Bool} {l:List Int} (hl:∀x∈l,0≤x∧x<s.length) {j:Int} (hj:0≤j):(marks s l).getD j.toNat false=true↔(s.getD j.toNat false=true∨j∈l):=by
 induction l generalizing s with
 |nil=>simp [marks]
 |cons x l ih=>
  have hx:=hl x (by simp)
  show (marks (s.set x.toNat true) l).getD j.toNat false=true↔_
  rw [ih (by intro y hy;have:=hl y (by simp [hy]);simpa using this),set_at hx.1 hx.2 hj]
  by_cases e:x=j
  ·subst e;simp
  ·rw [if_neg e];simp [show ¬j=x from fun h=>e h.symm]
theorem count_set {s:List Bool} {i:Int} (h0:0≤i) (h1:i<s.length) (hf:¬s.getD i.toNat false=true):(s.set i.toNat true).count false+1=s.count false:=by
 have hi:i.toNat<s.length:=by omega
 have e:s[i.toNat]=false:=by
  simp [List.getD_eq_getElem?_getD,List.getElem?_eq_getElem hi] at hf
  exact hf
 rw [List.count_set hi,e]
 have:0<s.count false:=List.count_pos_iff.2 (by rw [←e];exact List.getElem_mem hi)
 simp;omega
theorem bool_not {b:Bool} (h:¬b=true):b=false:=by simpa using h
theorem bt {α:Type} {b:Bool} {x y:α} (h:b=true):(bif b then x else y)=x:=by rw [h];rfl
theorem bf {α:Type} {b:Bool} {x y:α} (h:b=false):(bif b then x else y)=y:=by rw [h];rfl
theorem bnt {α:Type} {b:Bool} {x y:α} (h:b=true):(bif !b then x else y)=y:=by rw [h];rfl
theorem bnf {α:Type} {b:Bool} {x y:α} (h:b=false):(bif !b then x else y)=x:=by rw [h];rfl
theorem lim_small {n:Nat} {u:Ty} {α:Type} {a b:α} (hu:u.bytes≤1000000) (h:n≤100000000):(bif lim n u then a else b)=a:=lim_ok_small hu h
theorem allB_iff {α:Type} {f:α→α→Bool} (h:∀a b,f a b=true↔a=b):∀xs ys:List α,allB f xs ys=true↔xs=ys
 |[],[]=>by simp [allB]
 |[],y::ys=>by simp [allB]
 |x::xs,[]=>by simp [allB]
 |x::xs,y::ys=>by
  rw [allB,Bool.and_eq_true,h x y,allB_iff h xs ys]
  simp
theorem beq_iff:∀(t:Ty) (a b:t.den),Ty.beq t a b=true↔a=b
 |.int _,x,y=>by unfold Ty.beq;exact decide_eq_true_iff
 |.bool,x,y=>by unfold Ty.beq;exact beq_iff_eq
 |.str,x,y=>by unfold Ty.beq;exact decide_eq_true_iff
 |.unit,_,_=>by unfold Ty.beq;exact ⟨fun _=>rfl,fun _=>rfl⟩
 |.pair a b,(x1,x2),(y1,y2)=>by
  unfold Ty.beq
  rw [Bool.and_eq_true,beq_iff a,beq_iff b]
  exact ⟨fun h=>Prod.ext h.1 h.2,fun h=>⟨congrArg Prod.fst h,congrArg Prod.snd h⟩⟩
 |.arr _ t,x,y=>by unfold Ty.beq;exact allB_iff (beq_iff t) x y
 |.slice t,x,y=>by unfold Ty.beq;exact allB_iff (beq_iff t) x y
theorem nbeq_pos {t:Ty} {x y:t.den} {α:Type} {a b:α} (h:x≠y):(bif !(Ty.beq t x y) then a else b)=a:=by
 rw [bool_not (fun e=>h ((beq_iff t x y).1 e))];rfl
theorem nbeq_neg {t:Ty} {x y:t.den} {α:Type} {a b:α} (h:x=y):(bif !(Ty.beq t x y) then a else b)=b:=by
 rw [(beq_iff t x y).2 h];rfl
theorem tbeq_pos {t:Ty} {x y:t.den} {α:Type} {a b:α} (h:x=y):(bif Ty.beq t x y then a else b)=a:=by
 rw [(beq_iff t x y).2 h];rfl
theorem tbeq_neg {t:Ty} {x y:t.den} {α:Type} {a b:α} (h:x≠y):(bif Ty.beq t x y then a else b)=b:=by
 rw [bool_not (fun e=>h ((beq_iff t x y).1 e))];rfl
theorem Says.done:Says True (some (0,())):=.inl ⟨trivial,rfl⟩
theorem Says.guard {p P:Prop} [Decidable p] {o:Option (Int × Unit)} (h:¬p→Says P o):Says (¬p∧P) (bif decide p then some (8,()) else o):=by
 by_cases q:p
 ·rw [bd_pos q];exact .inr ⟨fun k=>k.1 q,rfl⟩
 ·rw [bd_neg q]
  rcases h q with h|h
  ·exact .inl ⟨⟨q,h.1⟩,h.2⟩
  ·exact .inr ⟨fun k=>h.1 k.2,h.2⟩
theorem Says.neq {x y:Int} {P:Prop} {o:Option (Int × Unit)} (h:x=y→Says P o):Says (x=y∧P) (bif x !=y then some (8,()) else o):=by
 by_cases q:x=y
 ·rw [bne_neg q]
  rcases h q with h|h
  ·exact .inl ⟨⟨q,h.1⟩,h.2⟩
  ·exact .inr ⟨fun k=>h.1 k.2,h.2⟩
 ·rw [bne_pos q];exact .inr ⟨fun k=>q k.1,rfl⟩
theorem Says.flag {b:Bool} {P:Prop} {o:Option (Int × Unit)} (h:b=true→Says P o):Says (b=true∧P) (bif !b then some (8,()) else o):=by
 cases b with
 |false=>exact .inr ⟨fun k=>(by cases k.1),rfl⟩
 |true=>
  rcases h rfl with h|h
  ·exact .inl ⟨⟨rfl,h.1⟩,h.2⟩
  ·exact .inr ⟨fun k=>h.1 k.2,h.2⟩
theorem Says.same {t:Ty} {x y:t.den} {P:Prop} {o:Option (Int × Unit)} (h:x=y→Says P o):Says (x=y∧P) (bif !(Ty.beq t x y) then some (8,()) else o):=
 (Says.flag (b:=Ty.beq t x y) fun e=>h ((beq_iff t x y).1 e)).congr (and_congr (beq_iff t x y) Iff.rfl)
theorem Says.call {P Q:Prop} {o:Option (Int × Unit)} {f:Int × Unit→Option (Int × Unit)} (h:Says P o) (k:P→Says Q (f (0,()))) (k8:f (8,())=some (8,())):Says (P∧Q) (o.bind f):=by
 rcases h with ⟨h,e⟩|⟨h,e⟩
 ·rw [e]
  rcases k h with k|k
  ·exact .inl ⟨⟨h,k.1⟩,k.2⟩
  ·exact .inr ⟨fun q=>k.1 q.2,k.2⟩
 ·rw [e];exact .inr ⟨fun q=>h q.1,k8⟩
theorem Says.cond {b:Bool} {P Q:Prop} {o q:Option (Int × Unit)} (h1:b=true→Says P o) (h2:b=false→Says Q q):Says ((b=true→P)∧(b=false→Q)) (bif b then o else q):=by
 cases b with
 |true=>exact (h1 rfl).congr ⟨fun p=>⟨fun _=>p,fun h=>(by cases h)⟩,fun k=>k.1 rfl⟩
 |false=>exact (h2 rfl).congr ⟨fun p=>⟨fun h=>(by cases h),fun _=>p⟩,fun k=>k.2 rfl⟩
theorem find_loop {R:Type} {n:Nat} {L:Nat→R} {p:Nat→Prop} {hit:Nat→R} {miss:R} (h:∀i,i<n→(p i∧L i=hit i)∨(¬p i∧L i=L (i+1))) (hm:L n=miss):
  (∃i,i<n∧p i∧(∀j,j<i→¬p j)∧L 0=hit i)∨((∀i,i<n→¬p i)∧L 0=miss):=by
 have go:∀m,m≤n→(∃i,i<m∧p i∧(∀j,j<i→¬p j)∧L 0=hit i)∨((∀i,i<m→¬p i)∧L 0=L m):=by
  intro m
  induction m with
  |zero=>exact fun _=> .inr ⟨fun i hi=>by omega,rfl⟩
  |succ m ih=>
   intro hm
   rcases ih (by omega) with ⟨i,h1,h2,h3,h4⟩|⟨h1,h2⟩
   ·exact .inl ⟨i,by omega,h2,h3,h4⟩
   ·rcases h m (by omega) with ⟨h3,h4⟩|⟨h3,h4⟩
    ·exact .inl ⟨m,by omega,h3,h1,h2.trans h4⟩
    ·refine .inr ⟨fun i hi=>?_,h2.trans h4⟩
     by_cases e:i=m
     ·rw [e];exact h3
     ·exact h1 i (by omega)
 rcases go n (Nat.le_refl _) with h1|⟨h1,h2⟩
 ·exact .inl h1
 ·exact .inr ⟨h1,h2.trans hm⟩
theorem walk_gen {L:Int→List Int→Option (List Int × Bool × Unit)} {next:List Int} (hn:next.length≤100)
  (h:∀i acc,acc.length≤100→L i acc=if i= -1 then some (acc,true,()) else if i<0 then some ([],false,()) else if i≥next.length then some ([],false,()) else if i∈acc then some ([],false,()) else L (next.getD i.toNat 0) (acc++[i])) (d:Nat):
  ∀(acc:List Int) (i:Int),acc.Nodup→(∀x∈acc,0≤x∧x<next.length)→next.length - acc.length≤d→
   (∃l,Chain next i l∧(acc++l).Nodup∧L i acc=some (acc++l,true,()))∨((¬∃l,Chain next i l∧(acc++l).Nodup)∧L i acc=some ([],false,())):=by
 induction d with
 |zero=>
  intro acc i hnd hr hd
  have hlen:=nodup_le hnd hr
  rw [h i acc (by omega)]
  by_cases e:i= -1
  ·rw [if_pos e]
   exact .inl ⟨[],by rw [e];exact .nil,by simpa using hnd,by rw [List.append_nil]⟩
  rw [if_neg e]
  by_cases h0:i<0
  ·rw [if_pos h0];exact .inr ⟨fun ⟨l,hl,_⟩=>by cases hl<;>omega,rfl⟩
  rw [if_neg h0]
  by_cases h1:i≥next.length
  ·rw [if_pos h1];exact .inr ⟨fun ⟨l,hl,_⟩=>by cases hl<;>omega,rfl⟩
  rw [if_neg h1]
  by_cases hm:i∈acc
  ·rw [if_pos hm]
   refine .inr ⟨fun ⟨l,hl,hn2⟩=>?_,rfl⟩
   cases hl with
   |nil=>omega
   |cons a b c=>exact (List.nodup_append.1 hn2).2.2 i hm i (by simp) rfl
  ·have:=nodup_le (nodup_snoc hnd hm) (n:=next.length) (fun x hx=>by
    rcases List.mem_append.1 hx with hx|hx
    ·exact hr x hx
    ·rw [List.mem_singleton.1 hx];omega)
   simp at this
   omega
 |succ d ih=>
  intro acc i hnd hr hd
  have hlen:=nodup_le hnd hr
  rw [h i acc (by omega)]
  by_cases e:i= -1
  ·rw [if_pos e]
   exact .inl ⟨[],by rw [e];exact .nil,by simpa using hnd,by rw [List.append_nil]⟩
  rw [if_neg e]
  by_cases h0:i<0
  ·rw [if_pos h0];exact .inr ⟨fun ⟨l,hl,_⟩=>by cases hl<;>omega,rfl⟩
  rw [if_neg h0]
  by_cases h1:i≥next.length
  ·rw [if_pos h1];exact .inr ⟨fun ⟨l,hl,_⟩=>by cases hl<;>omega,rfl⟩
  rw [if_neg h1]
  by_cases hm:i∈acc
  ·rw [if_pos hm]
   refine .inr ⟨fun ⟨l,hl,hn2⟩=>?_,rfl⟩
   cases hl with
   |nil=>omega
   |cons a b c=>exact (List.nodup_append.1 hn2).2.2 i hm i (by simp) rfl
  ·rw [if_neg hm]
   rcases ih (acc++[i]) (next.getD i.toNat 0) (nodup_snoc hnd hm) (fun x hx=>by
    rcases List.mem_append.1 hx with hx|hx
    ·exact hr x hx
    ·rw [List.mem_singleton.1 hx];omega) (by simp;omega) with ⟨l,hl,hn2,e2⟩|⟨hx,e2⟩
   ·exact .inl ⟨i::l,.cons (by omega) (by omega) hl,by simpa using hn2,by rw [e2];simp⟩
   ·refine .inr ⟨fun ⟨l,hl,hn2⟩=>?_,e2⟩
    cases hl with
    |nil=>omega
    |cons a b c=>exact hx ⟨_,c,by simpa using hn2⟩
theorem count_of_sub {U:List Int}:∀{S:List Int},U.Nodup→(∀x∈U,x∈S)→S.length=U.length→∀p,S.count p=U.count p:=by
 induction U with
 |nil=>
  intro S _ _ hl p
  have:S=[]:=List.length_eq_zero_iff.1 hl
  rw [this]
 |cons u U ih=>
  intro S hn hs hl p
  obtain ⟨h1,h2⟩:=List.nodup_cons.1 hn
  have hu:=hs u (by simp)
  have h3:=ih (S:=S.erase u) h2 (fun x hx=>(List.mem_erase_of_ne (fun e=>h1 (by rw [←e];exact hx))).2 (hs x (by simp [hx]))) (by
   rw [List.length_erase_of_mem hu,hl];simp) p
  rw [List.count_erase] at h3
  rw [List.count_cons]
  by_cases e:u=p
  ·subst e
   have:=List.count_pos_iff.2 hu
   simp at h3 ⊢
   omega
  ·have e2:(u==p)=false:=by simpa using e
   rw [e2] at h3 ⊢
   simp at h3 ⊢
   exact h3
theorem nodup_of_count {S:List Int} (h:∀p,S.count p≤1):S.Nodup:=by
 induction S with
 |nil=>exact List.nodup_nil
 |cons a S ih=>
  refine List.nodup_cons.2 ⟨fun hm=>?_,ih fun p=>Nat.le_trans ?_ (h p)⟩
  ·have h1:=h a
   have h2:=List.count_pos_iff.2 hm
   rw [List.count_cons] at h1
   simp at h1
   omega
  ·rw [List.count_cons];omega
theorem inj_of_nodup_map {α β:Type} {f:α→β}:∀{l:List α},(l.map f).Nodup→∀a∈l,∀b∈l,f a=f b→a=b
 |[],_,a,ha,_,_,_=>by cases ha
 |c::l,h,a,ha,b,hb,e=>by
  obtain ⟨h1,h2⟩:=List.nodup_cons.1 h
  by_cases ea:a=c
  ·by_cases eb:b=c
   ·rw [ea,eb]
   ·have hb:b∈l:=(List.mem_cons.1 hb).resolve_left eb
    exact (h1 (List.mem_map.2 ⟨b,hb,by rw [←e,ea]⟩)).elim
  ·have ha:a∈l:=(List.mem_cons.1 ha).resolve_left ea
   by_cases eb:b=c
   ·exact (h1 (List.mem_map.2 ⟨a,ha,by rw [e,eb]⟩)).elim
   ·exact inj_of_nodup_map h2 a ha b ((List.mem_cons.1 hb).resolve_left eb) e
theorem count_mem {used:List Bool} {l:List Int} (hn:l.Nodup) (hr:∀x∈l,0≤x∧x<used.length) (h:∀i:Nat,i<used.length→(used.getD i false=true↔(i:Int)∈l)):used.countP id=l.length:=by
 have e:used=(List.range used.length).map (fun i=>used.getD i false):=by
  refine List.ext_getElem (by simp) fun i h1 h2=>?_
  simp only [List.getElem_map,List.getElem_range]
  rw [getD_get h1]
 have e2:used.countP id=((List.range used.length).filter (fun i=>used.getD i false)).length:=by
  conv=>lhs;rw [e]
  rw [List.countP_map,List.countP_eq_length_filter];rfl
 rw [e2]
 have hU:((List.range used.length).filter (fun i=>used.getD i false)).Nodup:=List.Pairwise.filter _ List.nodup_range
 have h1:(((List.range used.length).filter (fun i=>used.getD i false)).map Int.ofNat).length≤l.length:=by
  refine List.Nodup.length_le_of_subset ?_ ?_
  ·refine List.Pairwise.map _ (fun a b hab e=>hab (Int.ofNat.inj e)) hU
  ·intro x hx
   obtain ⟨i,hi,rfl⟩:=List.mem_map.1 hx
   have:=List.mem_filter.1 hi
   exact (h i (List.mem_range.1 this.1)).1 this.2
 have h2:l.length≤(((List.range used.length).filter (fun i=>used.getD i false)).map Int.ofNat).length:=by
  refine List.Nodup.length_le_of_subset hn ?_
  intro x hx
  have hx2:=hr x hx
  have ex:((x.toNat:Nat):Int)=x:=by omega
  refine List.mem_map.2 ⟨x.toNat,List.mem_filter.2 ⟨List.mem_range.2 (by omega),(h x.toNat (by omega)).2 (by rw [ex];exact hx)⟩,ex⟩
 rw [List.length_map] at h1 h2
 omega
theorem Says.bflag {P Q:Prop} {r:Option (Bool × Unit)} (h:(P∧r=some (true,()))∨(¬P∧r=some (false,()))) {f:Bool × Unit→Option (Int × Unit)} (hf:f (false,())=some (8,())) (ht:P→Says Q (f (true,()))):Says (P∧Q) (r.bind f):=by
 rcases h with ⟨h,e⟩|⟨h,e⟩
 ·rw [e]
  rcases ht h with k|k
  ·exact .inl ⟨⟨h,k.1⟩,k.2⟩
  ·exact .inr ⟨fun q=>k.1 q.2,k.2⟩
 ·rw [e];exact .inr ⟨fun q=>h q.1,hf⟩
end Go.Proofs.YtkihjakbbcajbaaGreat.RP
namespace Go.Proofs.YtkihjakbbcajbaaGreat.TB
set_option linter.unusedSimpArgs false
set_option linter.unusedVariables false
open Go Go.Proofs Go.Proofs.YtkihjakbbcajbaaGreat.PM Go.Proofs.YtkihjakbbcajbaaGreat.RP
structure AGood (next:List Int) (used:List Bool) (free:Int) (l:List Int):Prop where
 low:1≤next.length
 high:next.length≤16
 same:used.length=next.length
 chain:Chain next free l
 nodup:l.Nodup
 mark:∀j:Nat,j<used.length→(used.getD j false=true↔¬(j:Int)∈l)
 end_:∀j:Nat,j<used.length→used.getD j false=true→next.getD j 0= -1
def AOk (next:List Int) (used:List Bool) (free:Int):Prop:=∃l,AGood next used free l
theorem AGood.short {next:List Int} {used:List Bool} {free:Int} {l:List Int} (g:AGood next used free l):l.length≤16:=by
 have:=nodup_le g.nodup g.chain.range
 have:=g.high
 omega
def AllOk (s used:List Bool) (next:List Int) (i:Nat):Prop:=s.getD i false=true∧(used.getD i false=true→next.getD i 0= -1)
theorem arena_l4 {s used:List Bool} {next:List Int} {free:Int} (h1:s.length=used.length) (h2:next.length=used.length) (hu:used.length≤16):
  Says (∀i,i<used.length→AllOk s used next i) (b8.L4 used (used.length:Int) 0 next free s):=by
 have:=loop_all (n:=used.length) (L:=fun i=>b8.L4 used (used.length:Int) (i:Int) next free s) (ok:=AllOk s used next) (stop:=some (8,())) (fun i hi=>by
  have nxt:b8.L6 used (used.length:Int) (i:Int) next free s=b8.L4 used (used.length:Int) ((i+1:Nat):Int) next free s:=by
   rw [b8.L6_eq,W_eq (by omega) (by omega),cast_add1]
  try dsimp only
  rw [b8.L4_eq,bd_pos (by omega),b8.L5_eq,bd_pos (by omega),bd_pos (by omega)]
  simp only [toNat_cast]
  by_cases a:s.getD i false=true
  ·rw [bnt a]
   by_cases u:used.getD i false=true
   ·rw [bt u,bd_pos (by omega)]
    by_cases e:next.getD i 0= -1
    ·rw [bne_neg e,nxt];exact .inl ⟨⟨a,fun _=>e⟩,rfl⟩
    ·rw [bne_pos e];exact .inr ⟨fun h=>e (h.2 u),rfl⟩
   ·rw [bf (bool_not u),nxt];exact .inl ⟨⟨a,fun h=>absurd h u⟩,rfl⟩
  ·rw [bnf (bool_not a)];exact .inr ⟨fun h=>a h.1,rfl⟩)
 rcases this with ⟨h,e⟩|⟨h,e⟩
 ·refine .inl ⟨h,?_⟩
  refine Eq.trans e ?_
  try dsimp only
  rw [b8.L4_eq,bd_neg (by omega)]
 ·exact .inr ⟨h,e⟩
theorem arena_walk_yes {used:List Bool} {next:List Int} {free:Int} {i:Int} {l:List Int} (h:Chain next i l):
  ∀s:List Bool,s.length=next.length→l.Nodup→(∀x∈l,s.getD x.toNat false=false)→
   b8.L2 (next.length:Int) i next used free s=b8.L4 used (used.length:Int) 0 next free (marks s l):=by
 induction h with
 |nil=>
  intro s hs _ _
  rw [b8.L2_eq,bne_neg rfl];rfl
 |@cons i l h0 h1 hc ih=>
  intro s hs hn hf
  obtain ⟨hi,hn⟩:=List.nodup_cons.1 hn
  have hr:=ih (s.set i.toNat true) (by simpa using hs) hn (fun x hx=>by
   have hxr:=hc.range x hx
   rw [set_at h0 (by omega) hxr.1,if_neg (fun e=>hi (by rw [e];exact hx))]
   exact hf x (by simp [hx]))
  rw [b8.L2_eq,bne_pos (by omega),b8.L3_eq,bd_neg (by omega),bd_neg (by omega),bd_pos (by omega),bf (hf i (by simp)),b8.L7_eq,bd_pos (by omega),bd_pos (by omega)]
  exact hr
theorem arena_walk_no {used:List Bool} {next:List Int} {free:Int} (d:Nat):
  ∀(s:List Bool) (i:Int),s.length=next.length→s.count false≤d→(¬∃l,Chain next i l∧l.Nodup∧∀x∈l,s.getD x.toNat false=false)→
   b8.L2 (next.length:Int) i next used free s=some (8,()):=by
 induction d with
 |zero=>
  intro s i hs hd hn
  by_cases e:i= -1
  ·exact absurd ⟨[],by rw [e];exact .nil,by simp,by simp⟩ hn
  rw [b8.L2_eq,bne_pos e,b8.L3_eq]
  by_cases h0:i<0
  ·rw [bd_pos h0]
  by_cases h1:i≥next.length
  ·rw [bd_neg h0,bd_pos h1]
  rw [bd_neg h0,bd_neg h1,bd_pos (by omega)]
  by_cases hf:s.getD i.toNat false=true
  ·rw [bt hf]
  ·have:=count_set (by omega) (by omega) hf
   omega
 |succ d ih=>
  intro s i hs hd hn
  by_cases e:i= -1
  ·exact absurd ⟨[],by rw [e];exact .nil,by simp,by simp⟩ hn
  rw [b8.L2_eq,bne_pos e,b8.L3_eq]
  by_cases h0:i<0
  ·rw [bd_pos h0]
  by_cases h1:i≥next.length
  ·rw [bd_neg h0,bd_pos h1]
  rw [bd_neg h0,bd_neg h1,bd_pos (by omega)]
  by_cases hf:s.getD i.toNat false=true
  ·rw [bt hf]
  ·have hc:=count_set (s:=s) (i:=i) (by omega) (by omega) hf
   have hr:=ih (s.set i.toNat true) (next.getD i.toNat 0) (by simpa using hs) (by omega) (by
    rintro ⟨l,hl,hnd,hx⟩
    refine hn ⟨i::l,.cons (by omega) (by omega) hl,List.nodup_cons.2 ⟨fun hi=>?_,hnd⟩,?_⟩
    ·have:=hx i hi
     rw [set_at (by omega) (by omega) (by omega),if_pos rfl] at this
     exact Bool.noConfusion this
    ·intro x hxm
     rcases List.mem_cons.1 hxm with rfl|hxm
     ·exact bool_not hf
     ·have:=hx x hxm
      have hxr:=hl.range x hxm
      rw [set_at (by omega) (by omega) hxr.1] at this
      split at this
      ·exact Bool.noConfusion this
      ·exact this)
   rw [bf (bool_not hf),b8.L7_eq,bd_pos (by omega),bd_pos (by omega)]
   exact hr
theorem arena_says (next:List Int) (used:List Bool) (free:Int):Says (AOk next used free) (b8.F (next,used,free,())):=by
 rw [b8.F_eq]
 try dsimp only
 by_cases hlow:(next.length:Int)<1
 ·rw [bd_pos hlow];exact .inr ⟨fun ⟨l,g⟩=>by have:=g.low;omega,rfl⟩
 by_cases hhigh:(next.length:Int)>16
 ·rw [bd_neg hlow,bd_pos hhigh];exact .inr ⟨fun ⟨l,g⟩=>by have:=g.high;omega,rfl⟩
 by_cases hsame:(used.length:Int)=(next.length:Int)
 ·rw [bd_neg hlow,bd_neg hhigh,bne_neg hsame,b8.L1_eq,lim_small (by decide) (by omega)]
  by_cases hc:∃l,Chain next free l∧l.Nodup∧∀x∈l,used.getD x.toNat false=false
  ·obtain ⟨l,hl,hnd,hx⟩:=hc
   rw [arena_walk_yes hl used (by omega) hnd hx]
   have hr:∀x∈l,0≤x∧x<used.length:=fun x hx=>by have:=hl.range x hx;omega
   refine (arena_l4 (by rw [marks_length]) (by omega) (by omega)).congr ⟨fun h=>⟨l,by omega,by omega,by omega,hl,hnd,fun j hj=>?_,fun j hj=>(h j hj).2⟩,fun ⟨l',g⟩ i hi=>?_⟩
   ·have h2:=(marks_at hr (j:=(j:Int)) (by omega)).1 (h j hj).1
    constructor
    ·intro ht hm;have:=hx _ hm;rw [toNat_cast,ht] at this;exact Bool.noConfusion this
    ·intro hm;exact h2.resolve_right hm
   ·obtain rfl:=hl.det g.chain
    refine ⟨(marks_at hr (j:=(i:Int)) (by omega)).2 ?_,g.end_ i hi⟩
    by_cases m:(i:Int)∈l
    ·exact .inr m
    ·exact .inl ((g.mark i hi).2 m)
  ·rw [arena_walk_no (used.count false) used free (by omega) (Nat.le_refl _) hc]
   refine .inr ⟨fun ⟨l,g⟩=>hc ⟨l,g.chain,g.nodup,fun x hx=>?_⟩,rfl⟩
   have hr:=g.chain.range x hx
   have e:((x.toNat:Nat):Int)=x:=by omega
   apply bool_not
   intro h
   have hm:=(g.mark x.toNat (by omega)).1 h
   rw [e] at hm;exact hm hx
 ·rw [bd_neg hlow,bd_neg hhigh,bne_pos hsame];exact .inr ⟨fun ⟨l,g⟩=>by have:=g.same;omega,rfl⟩
end Go.Proofs.YtkihjakbbcajbaaGreat.TB
namespace Go.Proofs.YtkihjakbbcajbaaGreat.TB
set_option linter.unusedSimpArgs false
set_option linter.unusedVariables false
open Go Go.Proofs Go.Proofs.YtkihjakbbcajbaaGreat.PM Go.Proofs.YtkihjakbbcajbaaGreat.RP
@[reducible] noncomputable def cl (x:List t3.den) (i:Int):t3.den:=List.getD x (Int.toNat i) (0,0,false,())
theorem and15_fin:∀n:Fin 81,PM.bits .and .i64 ((n.val:Int) - 40) 15=((n.val:Int) - 40) % 16:=by decide+kernel
theorem wrap_f {a:Int} (h0: -40≤a) (h1:a≤40):ia.F a=some (a % 16,()):=by
 rw [ia.F_eq]
 have:=and15_fin ⟨(a+40).toNat,by omega⟩
 have e:(((a+40).toNat:Int) - 40)=a:=by omega
 simp only [e] at this
 rw [this]
def hm (key:Int):Int:=((key*2654435769) % 4294967296) / 268435456
theorem hm_range (key:Int):0≤hm key∧hm key<16:=by unfold hm;omega
theorem home_f (key:Int):ic.F key=some (hm key,()):=by
 rw [ic.F_eq,bd_pos (by decide),show (2:Int) ^ min (Int.toNat 28) (IntKind.bits .u32)=268435456 by decide,Int.fdiv_eq_ediv_of_nonneg _ (by decide),IntKind.wrap_u32,W_eq]
 ·rfl
 ·omega
 ·omega
def Oth (x:List t3.den) (key:Int) (d:Nat):Prop:=∀e:Nat,e<d→(cl x ((hm key+e) % 16)).2.2.1=true∧(cl x ((hm key+e) % 16)).1≠key
def Ends (x:List t3.den) (key:Int) (d:Nat):Prop:=(cl x ((hm key+d) % 16)).2.2.1=true→(cl x ((hm key+d) % 16)).1=key
theorem next_pos (h:Int) (e:Nat):((h+(e:Int)) % 16+1) % 16=(h+((e+1:Nat):Int)) % 16:=by omega
theorem look_l1 {x:List t3.den} {key:Int} (hx:x.length=16) {d:Nat} (hd:d≤16) (hp:Oth x key d) (hq:Ends x key d) (n:Nat):
  ∀e:Nat,e+n=d→dr.L1 x key ((hm key+e) % 16) (e:Int)=some ((hm key+d) % 16,(d:Int)+1,()):=by
 induction n with
 |zero=>
  intro e he
  have:e=d:=by omega
  subst this
  rw [dr.L1_eq,bd_pos (by omega),W_eq (by omega) (by omega)]
  by_cases u:(cl x ((hm key+e) % 16)).2.2.1=true
  ·rw [bt u,bd_pos (by omega),bne_neg (hq u)]
  ·rw [bf (bool_not u)]
 |succ n ih=>
  intro e he
  obtain ⟨u,v⟩:=hp e (by omega)
  rw [dr.L1_eq,bd_pos (by omega),bt u,bd_pos (by omega),bne_pos v,dr.L2_eq,W_eq (x:=(hm key+e) % 16+1) (by omega) (by omega),wrap_f (by omega) (by omega),ob,next_pos,W_eq (by omega) (by omega),cast_add1]
  exact ih (e+1) (by omega)
theorem look_f {x:List t3.den} {key:Int} (hx:x.length=16) {d:Nat} (hd:d≤16) (hp:Oth x key d) (hq:Ends x key d):
  dr.F x key=some ((hm key+d) % 16,(d:Int)+1,()):=by
 have h:=look_l1 hx hd hp hq d 0 (by omega)
 have:=hm_range key
 rw [dr.F_eq,home_f,ob]
 rw [show (hm key+((0:Nat):Int)) % 16=hm key by omega] at h
 exact h
noncomputable def cnt (x:List t3.den):Nat:=x.countP (·.2.2.1)
theorem cl_get {x:List t3.den} {i:Nat} (h:i<x.length):cl x (i:Int)=x[i]:=by
 unfold cl;rw [toNat_cast,getD_get h]
theorem free_ex {x:List t3.den} (hx:x.length=16) (hc:cnt x≤12):∃i:Int,0≤i∧i<16∧(cl x i).2.2.1=false:=by
 by_cases h:∀c∈x,c.2.2.1=true
 ·have:cnt x=x.length:=List.countP_eq_length.2 h
  omega
 ·obtain ⟨c,hc,hu⟩:∃c∈x,¬c.2.2.1=true:=by
   apply Classical.byContradiction;intro hn;exact h fun c hc=>Classical.byContradiction fun hu=>hn ⟨c,hc,hu⟩
  obtain ⟨i,hi,rfl⟩:=List.mem_iff_getElem.1 hc
  exact ⟨i,by omega,by omega,by rw [cl_get hi];exact bool_not hu⟩
theorem first_ex (P:Nat→Prop) (n:Nat) (h:P n):∃d,d≤n∧P d∧∀e,e<d→¬P e:=by
 induction n using Nat.strongRecOn with
 |_ n ih=>
  by_cases hq:∃e,e<n∧P e
  ·obtain ⟨e,he,hp⟩:=hq
   obtain ⟨d,h1,h2,h3⟩:=ih e he hp
   exact ⟨d,by omega,h2,h3⟩
  ·exact ⟨n,Nat.le_refl _,h,fun e he hp=>hq ⟨e,he,hp⟩⟩
theorem look_ex {x:List t3.den} (hx:x.length=16) (hc:cnt x≤12) (key:Int):∃d:Nat,d<16∧Oth x key d∧Ends x key d:=by
 obtain ⟨i,h0,h1,hu⟩:=free_ex hx hc
 have hr:=hm_range key
 obtain ⟨d,hd,hp,hq⟩:=first_ex (fun d=>Ends x key d) ((i - hm key) % 16).toNat (by
  intro u
  rw [show (hm key+(((i - hm key) % 16).toNat:Int)) % 16=i by omega] at u
  rw [hu] at u;exact absurd u (by simp))
 exact ⟨d,by omega,fun e he=>by
  have:=hq e he
  unfold Ends at this
  by_cases u:(cl x ((hm key+e) % 16)).2.2.1=true
  ·exact ⟨u,fun hk=>this fun _=>hk⟩
  ·exact absurd (fun u'=>absurd u' u) this,hp⟩
theorem take_cnt {x:List t3.den} {i:Nat} (h:i<x.length):(x.take (i+1)).countP (·.2.2.1)=(x.take i).countP (·.2.2.1)+(if (cl x (i:Int)).2.2.1=true then 1 else 0):=by
 rw [←List.take_append_getElem h,List.countP_append,cl_get h]
 simp [List.countP_cons]
theorem cnt_le (x:List t3.den) (i:Nat):(x.take i).countP (·.2.2.1)≤x.length:=by
 have:=List.countP_le_length (p:=fun c:t3.den=>c.2.2.1) (l:=x.take i)
 have:=List.length_take_le' i x
 omega
structure POk (x:List t3.den):Prop where
 len:x.length=16
 few:cnt x≤12
 zero:∀i:Int,0≤i→i<16→(cl x i).2.2.1=false→cl x i=(0,0,false,())
 place:∀i:Int,0≤i→i<16→(cl x i).2.2.1=true→0≤Z (cl x i).2.1∧Z (cl x i).2.1<16
 uniq:∀i j:Int,0≤i→i<16→0≤j→j<16→(cl x i).2.2.1=true→(cl x j).2.2.1=true→(cl x i).1=(cl x j).1→i=j
 path:∀i:Int,0≤i→i<16→(cl x i).2.2.1=true→∀e:Nat,(e:Int)<(i - hm (cl x i).1) % 16→(cl x ((hm (cl x i).1+e) % 16)).2.2.1=true
def CellOk (x:List t3.den) (i:Int):Prop:=
 ((cl x i).2.2.1=false→cl x i=(0,0,false,()))∧
 ((cl x i).2.2.1=true→0≤Z (cl x i).2.1∧Z (cl x i).2.1<16∧Oth x (cl x i).1 ((i - hm (cl x i).1) % 16).toNat)
theorem look_at {x:List t3.den} (i:Int) (h0:0≤i) (h1:i<16) {d:Nat} (hd:d<16) (hp:Oth x (cl x i).1 d) (hq:Ends x (cl x i).1 d):
  (hm (cl x i).1+d) % 16=i↔Oth x (cl x i).1 ((i - hm (cl x i).1) % 16).toNat:=by
 have hr:=hm_range (cl x i).1
 constructor
 ·intro h
  rw [show ((i - hm (cl x i).1) % 16).toNat=d by omega];exact hp
 ·intro h
  generalize hD:((i - hm (cl x i).1) % 16).toNat=D at h
  have hi:(hm (cl x i).1+D) % 16=i:=by omega
  rcases Nat.lt_trichotomy d D with hl|he|hg
  ·have:=h d hl
   exact absurd (hq this.1) this.2
  ·rw [he];exact hi
  ·have:=hp D hg
   rw [hi] at this
   exact absurd rfl this.2
theorem cells_of_valid {x:List t3.den} (h:POk x) (i:Int) (h0:0≤i) (h1:i<16):CellOk x i:=by
 refine ⟨h.zero i h0 h1,fun u=>⟨(h.place i h0 h1 u).1,(h.place i h0 h1 u).2,fun e he=>?_⟩⟩
 have hr:=hm_range (cl x i).1
 have hu:=h.path i h0 h1 u e (by omega)
 refine ⟨hu,fun hk=>?_⟩
 have:=h.uniq _ i (by omega) (by omega) h0 h1 hu u hk
 omega
theorem valid_of_cells {x:List t3.den} (hx:x.length=16) (hc:cnt x≤12) (h:∀i:Int,0≤i→i<16→CellOk x i):POk x where
 len:=hx
 few:=hc
 zero i h0 h1:=(h i h0 h1).1
 place i h0 h1 u:=⟨((h i h0 h1).2 u).1,((h i h0 h1).2 u).2.1⟩
 uniq i j h0 h1 g0 g1 u v hk:=by
  obtain ⟨d,hd,hp,hq⟩:=look_ex hx hc (cl x i).1
  have a:=(look_at i h0 h1 hd hp hq).2 ((h i h0 h1).2 u).2.2
  have b:=(look_at j g0 g1 hd (hk▸hp) (hk▸hq)).2 ((h j g0 g1).2 v).2.2
  rw [hk] at a;omega
 path i h0 h1 u e he:=(((h i h0 h1).2 u).2.2 e (by omega)).1
theorem check_l5_step {x:List t3.den} (hx:x.length=16) (hc:cnt x≤12) {i:Nat} (h1:i<16):
  (CellOk x (i:Int)∧ai.L5 x (i:Int)=ai.L5 x ((i+1:Nat):Int))∨(¬CellOk x (i:Int)∧ai.L5 x (i:Int)=some (8,())):=by
 obtain ⟨d,hd,hp,hq⟩:=look_ex hx hc (cl x (i:Int)).1
 have hl:=look_f hx (by omega) hp hq
 have hat:=look_at (i:Int) (by omega) (by omega) hd hp hq
 have nxt:ai.L8 x (i:Int)=ai.L5 x ((i+1:Nat):Int):=by
  rw [ai.L8_eq,W_eq (by omega) (by omega),cast_add1]
 rw [ai.L5_eq,bd_pos (by omega),ai.L6_eq,bd_pos (by omega)]
 by_cases u:(cl x (i:Int)).2.2.1=true
 ·have nz:¬((cl x (i:Int)).2.2.1=false):=by rw [u];simp
  rw [bnt u,bt u]
  by_cases p0:Z (cl x (i:Int)).2.1<0
  ·rw [bd_pos (by exact p0)];exact .inr ⟨fun hc=>by have:=(hc.2 u).1;omega,rfl⟩
  by_cases p1:Z (cl x (i:Int)).2.1≥16
  ·rw [bd_neg (by exact p0),bd_pos (by exact p1)];exact .inr ⟨fun hc=>by have:=(hc.2 u).2.1;omega,rfl⟩
  rw [bd_neg (by exact p0),bd_neg (by exact p1),ai.L7_eq,hl,ob,bt u]
  by_cases hh:(hm (cl x (i:Int)).1+d) % 16=(i:Int)
  ·rw [bne_neg hh,nxt]
   exact .inl ⟨⟨fun uf=>absurd uf nz,fun _=>⟨by omega,by omega,hat.1 hh⟩⟩,rfl⟩
  ·rw [bne_pos hh]
   exact .inr ⟨fun hc=>hh (hat.2 (hc.2 u).2.2),rfl⟩
 ·have uf:=bool_not u
  rw [bnf uf]
  by_cases z:cl x (i:Int)=(0,0,false,())
  ·rw [nbeq_neg z,bf uf,ai.L7_eq,hl,ob,bf uf,nxt]
   exact .inl ⟨⟨fun _=>z,fun ut=>absurd ut u⟩,rfl⟩
  ·rw [nbeq_pos z];exact .inr ⟨fun hc=>z (hc.1 uf),rfl⟩
theorem probe_says (x:List t3.den):Says (POk x) (ai.F x):=by
 rw [ai.F_eq]
 by_cases hx:(x.length:Int)=16
 ·have hx':x.length=16:=by omega
  rw [bne_neg hx,ai.L1_eq]
  have h2:=loop_go (n:=x.length) (L:=fun i=>ai.L2 x (((x.take i).countP (·.2.2.1):Nat):Int) (x.length:Int) (i:Int)) (fun i hi=>by
   have hle:=cnt_le x i
   try dsimp only
   rw [ai.L2_eq,bd_pos (by omega),ai.L3_eq,bd_pos (by omega),take_cnt hi]
   by_cases u:(cl x (i:Int)).2.2.1=true
   ·rw [bt u,if_pos u,ai.L9_eq,W_eq (by omega) (by omega),W_eq (by omega) (by omega),cast_add1,cast_add1]
   ·rw [bf (bool_not u),if_neg u,ai.L9_eq,W_eq (x:=(i:Int)+1) (by omega) (by omega),cast_add1];rfl)
  try dsimp only at h2
  rw [List.take_of_length_le (Nat.le_refl _)] at h2
  have h3:ai.L2 x 0 (x.length:Int) 0=ai.L2 x (cnt x:Int) (x.length:Int) (x.length:Int):=h2
  rw [h3,ai.L2_eq,bd_neg (by omega)]
  by_cases hc:cnt x≤12
  ·rw [bd_neg (by omega),ai.L4_eq]
   rcases loop_all (n:=16) (L:=fun i=>ai.L5 x (i:Int)) (ok:=fun i=>CellOk x (i:Int)) (stop:=some (8,())) (fun i hi=>check_l5_step hx' hc hi) with ⟨a,e⟩|⟨a,e⟩
   ·refine .inl ⟨valid_of_cells hx' hc fun i h0 h1=>?_,Eq.trans e ?_⟩
    ·have:=a i.toNat (by omega)
     rw [show ((i.toNat:Nat):Int)=i by omega] at this
     exact this
    ·try dsimp only
     rw [ai.L5_eq,bd_neg (by decide)]
   ·exact .inr ⟨fun h=>a fun i hi=>cells_of_valid h i (by omega) (by omega),e⟩
  ·rw [bd_pos (by omega)];exact .inr ⟨fun h=>hc h.few,rfl⟩
 ·rw [bne_pos hx];exact .inr ⟨fun h=>hx (by rw [h.len];rfl),rfl⟩
theorem found {x:List t3.den} (h:POk x) (key:Int):∃d:Nat,d<16∧Oth x key d∧Ends x key d∧dr.F x key=some ((hm key+d) % 16,(d:Int)+1,())∧
  (((cl x ((hm key+d) % 16)).2.2.1=true∧(cl x ((hm key+d) % 16)).1=key)∨
   ((cl x ((hm key+d) % 16)).2.2.1=false∧(∀j:Int,0≤j→j<16→¬((cl x j).2.2.1=true∧(cl x j).1=key)))):=by
 obtain ⟨d,hd,hp,hq⟩:=look_ex h.len h.few key
 have hr:=hm_range key
 refine ⟨d,hd,hp,hq,look_f h.len (by omega) hp hq,?_⟩
 by_cases u:(cl x ((hm key+d) % 16)).2.2.1=true
 ·exact Or.inl ⟨u,hq u⟩
 ·refine Or.inr ⟨bool_not u,?_⟩
  intro j h0 h1 ⟨v,e⟩
  have ho:=((cells_of_valid h j h0 h1).2 v).2.2
  have:=(look_at j h0 h1 hd (e▸hp) (e▸hq)).2 ho
  rw [e] at this;rw [this] at u;exact u v
theorem probe_Find_ok {x:List t3.den} (h:POk x) (key:Int):
  (∃i:Int,0≤i∧i<16∧(cl x i).2.2.1=true∧(cl x i).1=key∧fb.F x key=some ((cl x i).2.1,0,()))∨
  ((∀j:Int,0≤j→j<16→¬((cl x j).2.2.1=true∧(cl x j).1=key))∧fb.F x key=some (0,6,())):=by
 obtain ⟨d,hd,hp,hq,hl,hc⟩:=found h key
 have hx:=h.len
 have hr:=hm_range key
 rw [fb.F_eq,(probe_says x).yes h,ob,bne_neg rfl,fb.L1_eq,hl,ob,bd_pos (by dsimp only;omega)]
 rcases hc with ⟨u,e⟩|⟨u,n⟩
 ·refine .inl ⟨(hm key+d) % 16,by omega,by omega,u,e,?_⟩
  rw [bnt u,fb.L2_eq,bd_pos (by dsimp only;omega)]
 ·refine .inr ⟨n,?_⟩
  rw [bnf u]
end Go.Proofs.YtkihjakbbcajbaaGreat.TB
namespace Go.Proofs.YtkihjakbbcajbaaGreat.TB
set_option linter.unusedSimpArgs false
set_option linter.unusedVariables false
open Go.Proofs.YtkihjakbbcajbaaGreat.RP
@[reducible] def rd (l:List Int) (i:Int):Int:=l.getD i.toNat 0
def row (n:Nat) (f:Int→Int):List Int:=(List.range n).map (fun i:Nat=>f (i:Int))
theorem row_len (n:Nat) (f:Int→Int):(row n f).length=n:=by simp [row]
theorem row_congr {n:Nat} {f g:Int→Int} (h:∀i:Int,0≤i→i<n→f i=g i):row n f=row n g:=by
 unfold row
 refine List.map_congr_left fun i hi=>?_
 have:=List.mem_range.1 hi
 exact h i (by omega) (by omega)
theorem set_row (n:Nat) (f:Int→Int) (p v:Int) (h0:0≤p):(row n f).set p.toNat v=row n (fun i=>if i=p then v else f i):=by
 refine List.ext_getElem (by simp [row]) fun i h1 h2=>?_
 simp only [row,List.getElem_set,List.getElem_map,List.getElem_range]
 by_cases e:p.toNat=i
 ·rw [if_pos e,if_pos (by omega)]
 ·rw [if_neg e,if_neg (by omega)]
theorem rd_row {n:Nat} {f:Int→Int} {i:Int} (h0:0≤i) (h1:i<n):rd (row n f) i=f i:=by
 have e:((i.toNat:Nat):Int)=i:=by omega
 unfold rd row
 rw [List.getD_eq_getElem?_getD,List.getElem?_map,List.getElem?_range (by omega)]
 simp [e]
theorem row_of (xs:List Int):xs=row xs.length (rd xs):=by
 refine List.ext_getElem (by simp [row]) fun i h1 h2=>?_
 simp [row,rd,List.getD_eq_getElem?_getD,h1]
theorem row_nil (n:Nat):row n (fun _=> -1)=List.replicate n (-1):=by
 simp [row,List.map_const',List.length_range]
def hd (e:Int):List Int→Int
 |[]=>e
 |y::_=>y
def lst:Int→List Int→Int
 |c,[]=>c
 |_,y::l=>lst y l
def pv:Int→List Int→Int→Int
 |_,[],_=> -1
 |c,y::l,x=>if x=y then c else pv y l x
def nx (e:Int):List Int→Int→Int
 |[],_=> -1
 |y::l,x=>if x=y then hd e l else nx e l x
theorem hd_app (e:Int) (A B:List Int):hd e (A++B)=hd (hd e B) A:=by cases A<;>rfl
theorem lst_app (c:Int) (A B:List Int):lst c (A++B)=lst (lst c A) B:=by
 induction A generalizing c with
 |nil=>rfl
 |cons y l ih=>exact ih y
theorem lst_mem {A:List Int} (h:A≠[]) (c:Int):lst c A∈A:=by
 induction A generalizing c with
 |nil=>exact absurd rfl h
 |cons y l ih=>
  cases l with
  |nil=>exact List.mem_cons_self
  |cons z l=>exact List.mem_cons_of_mem _ (ih (by simp) y)
theorem lst_any {A:List Int} (h:A≠[]) (c d:Int):lst c A=lst d A:=by cases A with
 |nil=>exact absurd rfl h
 |cons y l=>rfl
theorem hd_mem {A:List Int} (h:A≠[]) (c:Int):hd c A∈A:=by cases A with
 |nil=>exact absurd rfl h
 |cons y l=>exact List.mem_cons_self
theorem pv_app (c:Int) (A B:List Int) (x:Int):pv c (A++B) x=if x∈A then pv c A x else pv (lst c A) B x:=by
 induction A generalizing c with
 |nil=>simp [lst]
 |cons y l ih=>
  rw [List.cons_append,pv,pv,lst]
  by_cases e:x=y
  ·simp [e]
  ·rw [if_neg e,if_neg e,ih]
   simp [e]
theorem nx_app (e:Int) (A B:List Int) (x:Int):nx e (A++B) x=if x∈A then nx (hd e B) A x else nx e B x:=by
 induction A with
 |nil=>simp
 |cons y l ih=>
  rw [List.cons_append,nx,nx]
  by_cases h:x=y
  ·simp [h,hd_app]
  ·rw [if_neg h,if_neg h,ih]
   simp [h]
theorem pv_out {c:Int} {A:List Int} {x:Int} (h:x∉A):pv c A x= -1:=by
 induction A generalizing c with
 |nil=>rfl
 |cons y l ih=>
  rw [pv,if_neg (fun e=>h (by rw [e];exact List.mem_cons_self)),ih (fun m=>h (List.mem_cons_of_mem _ m))]
theorem nx_out {e:Int} {A:List Int} {x:Int} (h:x∉A):nx e A x= -1:=by
 induction A with
 |nil=>rfl
 |cons y l ih=>
  rw [nx,if_neg (fun e=>h (by rw [e];exact List.mem_cons_self)),ih (fun m=>h (List.mem_cons_of_mem _ m))]
theorem nx_lst {e c:Int} {A:List Int} (h:A≠[]) (hn:A.Nodup):nx e A (lst c A)=e:=by
 induction A generalizing c with
 |nil=>exact absurd rfl h
 |cons y l ih=>
  rw [nx,lst]
  cases l with
  |nil=>simp [lst,hd]
  |cons z l=>
   have hm:lst y (z::l)∈z::l:=lst_mem (by simp) y
   rw [if_neg (fun e=>(List.nodup_cons.1 hn).1 (by rw [←e];exact hm))]
   exact ih (by simp) (List.nodup_cons.1 hn).2
theorem nx_else {e d c:Int} {A:List Int} {x:Int} (hx:x≠lst c A):nx e A x=nx d A x:=by
 induction A generalizing c with
 |nil=>rfl
 |cons y l ih=>
  rw [nx,nx]
  by_cases h:x=y
  ·rw [if_pos h,if_pos h]
   cases l with
   |nil=>exact absurd h hx
   |cons z l=>rfl
  ·rw [if_neg h,if_neg h]
   exact ih (c:=y) hx
theorem pv_else {c d:Int} {B:List Int} {x:Int} (hx:x≠hd (-1) B∨B=[]):pv c B x=pv d B x:=by
 cases B with
 |nil=>rfl
 |cons y l=>
  have h:x≠y:=by rcases hx with h|h;exact h;cases h
  rw [pv,pv,if_neg h,if_neg h]
def Ok (n:Nat) (L:List Int):Prop:=L.Nodup∧∀x∈L,0≤x∧x<n
def PV (n:Nat) (L:List Int):List Int:=row n (pv (-1) L)
def NX (n:Nat) (L:List Int):List Int:=row n (nx (-1) L)
theorem PV_len (n:Nat) (L:List Int):(PV n L).length=n:=row_len _ _
theorem NX_len (n:Nat) (L:List Int):(NX n L).length=n:=row_len _ _
theorem rd_PV {n:Nat} {L:List Int} {i:Int} (h0:0≤i) (h1:i<n):rd (PV n L) i=pv (-1) L i:=rd_row h0 h1
theorem rd_NX {n:Nat} {L:List Int} {i:Int} (h0:0≤i) (h1:i<n):rd (NX n L) i=nx (-1) L i:=rd_row h0 h1
theorem Ok.nil (n:Nat):Ok n []:=⟨List.nodup_nil,fun _ h=>by cases h⟩
theorem Ok.app {n:Nat} {A B:List Int} (h:Ok n (A++B)):Ok n A∧Ok n B∧∀x∈A,x∉B:=by
 obtain ⟨h1,h2⟩:=h
 obtain ⟨a,b,c⟩:=List.nodup_append.1 h1
 exact ⟨⟨a,fun x hx=>h2 x (List.mem_append_left _ hx)⟩,⟨b,fun x hx=>h2 x (List.mem_append_right _ hx)⟩,fun x hx hb=>c x hx x hb rfl⟩
theorem Ok.hd_ne {n:Nat} {B:List Int} (h:Ok n B):hd (-1) B= -1↔B=[]:=by
 constructor
 ·intro e
  apply Classical.byContradiction
  intro hb
  have:=h.2 _ (hd_mem hb (-1))
  omega
 ·rintro rfl;rfl
theorem Ok.lst_ne {n:Nat} {B:List Int} (h:Ok n B):lst (-1) B= -1↔B=[]:=by
 constructor
 ·intro e
  apply Classical.byContradiction
  intro hb
  have:=h.2 _ (lst_mem hb (-1))
  omega
 ·rintro rfl;rfl
theorem Ok.len {n:Nat} {L:List Int} (h:Ok n L):L.length≤n:=by
 induction n generalizing L with
 |zero=>
  cases L with
  |nil=>exact Nat.le_refl _
  |cons y l=>have:=h.2 y List.mem_cons_self;omega
 |succ n ih=>
  by_cases m:(n:Int)∈L
  ·have h2:Ok n (L.erase (n:Int)):=⟨h.1.erase _,fun x hx=>by
    have h3:=(h.1.mem_erase_iff).1 hx
    have:=h.2 x h3.2
    have:=h3.1
    omega⟩
   have:=ih h2
   rw [List.length_erase_of_mem m] at this
   omega
  ·have:=ih (L:=L) ⟨h.1,fun x hx=>by
    have h3:=h.2 x hx
    have:x≠n:=fun e=>m (by rw [←e];exact hx)
    omega⟩
   omega
theorem PV_snoc {n:Nat} {A:List Int} {y:Int} (h:Ok n (A++[y])):PV n (A++[y])=(PV n A).set y.toNat (lst (-1) A):=by
 obtain ⟨hA,hB,hd_⟩:=h.app
 have hy:=hB.2 y List.mem_cons_self
 unfold PV
 rw [set_row _ _ _ _ hy.1]
 refine row_congr fun i h0 h1=>?_
 rw [pv_app]
 by_cases m:i∈A
 ·rw [if_pos m,if_neg (fun e=>hd_ i m (by rw [e];exact List.mem_cons_self))]
 ·rw [if_neg m,pv_out m];rfl
theorem NX_snoc {n:Nat} {A:List Int} {y:Int} (h:Ok n (A++[y])) (hne:A≠[]):NX n (A++[y])=(NX n A).set (lst (-1) A).toNat y:=by
 obtain ⟨hA,hB,hd_⟩:=h.app
 have hl:=hA.2 _ (lst_mem hne (-1))
 unfold NX
 rw [set_row _ _ _ _ hl.1]
 refine row_congr fun i h0 h1=>?_
 rw [nx_app]
 by_cases m:i∈A
 ·rw [if_pos m]
  by_cases e:i=lst (-1) A
  ·rw [if_pos e,e,nx_lst hne hA.1];rfl
  ·rw [if_neg e];exact nx_else e
 ·rw [if_neg m,if_neg (fun e=>m (by rw [e];exact lst_mem hne _)),nx_out m,nx,nx]
  split<;>rfl
theorem NX_one (n:Nat) (y:Int):NX n [y]=NX n []:=by
 refine row_congr fun i _ _=>?_
 simp [nx,hd]
theorem PV_one (n:Nat) (y:Int):PV n [y]=PV n []:=by
 refine row_congr fun i _ _=>?_
 simp [pv]
def putIf (xs:List Int) (i v:Int):List Int:=if i= -1 then xs else xs.set i.toNat v
theorem PV_out {n:Nat} {A B:List Int} {p:Int} (h:Ok n (A++p::B)):(putIf (PV n (A++p::B)) (hd (-1) B) (lst (-1) A)).set p.toNat (-1)=PV n (A++B):=by
 obtain ⟨hA,hpB,hd_⟩:=h.app
 have hp:=hpB.2 p List.mem_cons_self
 have hB:Ok n B:=⟨(List.nodup_cons.1 hpB.1).2,fun x hx=>hpB.2 x (List.mem_cons_of_mem _ hx)⟩
 have hpn:p∉B:=(List.nodup_cons.1 hpB.1).1
 have hpA:p∉A:=fun m=>hd_ p m List.mem_cons_self
 have key:∀i,pv (-1) (A++p::B) i=if i∈A then pv (-1) A i else if i=p then lst (-1) A else pv p B i:=fun i=>by rw [pv_app];rfl
 unfold putIf PV
 by_cases e:hd (-1) B= -1
 ·rw [if_pos e,set_row _ _ _ _ hp.1]
  have eB:B=[]:=(hB.hd_ne).1 e
  subst eB
  refine row_congr fun i h0 h1=>?_
  rw [key,List.append_nil]
  by_cases q:i=p
  ·rw [if_pos q,q,pv_out hpA]
  ·rw [if_neg q,if_neg q]
   by_cases m:i∈A
   ·rw [if_pos m]
   ·rw [if_neg m,pv_out m];rfl
 ·rw [if_neg e]
  have hne:B≠[]:=fun hb=>e ((hB.hd_ne).2 hb)
  have hm:=hd_mem hne (-1)
  have hh:=hB.2 _ hm
  rw [set_row _ _ _ _ hh.1,set_row _ _ _ _ hp.1]
  refine row_congr fun i h0 h1=>?_
  rw [key,pv_app]
  by_cases q:i=p
  ·rw [if_pos q,q,if_neg hpA,pv_out hpn]
  ·rw [if_neg q,if_neg q]
   by_cases m:i∈A
   ·rw [if_pos m,if_pos m,if_neg (fun e2=>hd_ i m (by rw [e2];exact List.mem_cons_of_mem _ hm))]
   ·rw [if_neg m,if_neg m]
    by_cases e2:i=hd (-1) B
    ·rw [if_pos e2]
     cases B with
     |nil=>exact absurd rfl hne
     |cons b l=>rw [pv,if_pos (show i=b from e2)]
    ·rw [if_neg e2];exact pv_else (.inl e2)
theorem NX_out {n:Nat} {A B:List Int} {p:Int} (h:Ok n (A++p::B)):(putIf (NX n (A++p::B)) (lst (-1) A) (hd (-1) B)).set p.toNat (-1)=NX n (A++B):=by
 obtain ⟨hA,hpB,hd_⟩:=h.app
 have hp:=hpB.2 p List.mem_cons_self
 have hB:Ok n B:=⟨(List.nodup_cons.1 hpB.1).2,fun x hx=>hpB.2 x (List.mem_cons_of_mem _ hx)⟩
 have hpn:p∉B:=(List.nodup_cons.1 hpB.1).1
 have hpA:p∉A:=fun m=>hd_ p m List.mem_cons_self
 have key:∀i,nx (-1) (A++p::B) i=if i∈A then nx p A i else if i=p then hd (-1) B else nx (-1) B i:=fun i=>by rw [nx_app];rfl
 unfold putIf NX
 by_cases e:lst (-1) A= -1
 ·rw [if_pos e,set_row _ _ _ _ hp.1]
  have eA:A=[]:=(hA.lst_ne).1 e
  subst eA
  refine row_congr fun i h0 h1=>?_
  rw [key,List.nil_append]
  by_cases q:i=p
  ·rw [if_pos q,q,nx_out hpn]
  ·rw [if_neg q,if_neg q];simp
 ·rw [if_neg e]
  have hne:A≠[]:=fun hb=>e ((hA.lst_ne).2 hb)
  have hm:=lst_mem hne (-1)
  have hh:=hA.2 _ hm
  rw [set_row _ _ _ _ hh.1,set_row _ _ _ _ hp.1]
  refine row_congr fun i h0 h1=>?_
  rw [key,nx_app]
  by_cases q:i=p
  ·rw [if_pos q,q,if_neg hpA,nx_out hpn]
  ·rw [if_neg q,if_neg q]
   by_cases m:i∈A
   ·rw [if_pos m,if_pos m]
    by_cases e2:i=lst (-1) A
    ·rw [if_pos e2,e2,nx_lst hne hA.1]
    ·rw [if_neg e2];exact nx_else e2
   ·rw [if_neg m,if_neg m,if_neg (fun e2=>m (by rw [e2];exact hm))]
theorem PV_cons {n:Nat} {L:List Int} {p:Int} (h:Ok n (p::L)):PV n (p::L)=putIf (PV n L) (hd (-1) L) p:=by
 have hp:=h.2 p List.mem_cons_self
 have hL:Ok n L:=⟨(List.nodup_cons.1 h.1).2,fun x hx=>h.2 x (List.mem_cons_of_mem _ hx)⟩
 have hpn:p∉L:=(List.nodup_cons.1 h.1).1
 unfold putIf PV
 by_cases e:hd (-1) L= -1
 ·rw [if_pos e]
  have eL:L=[]:=(hL.hd_ne).1 e
  subst eL
  refine row_congr fun i h0 h1=>?_
  simp [pv]
 ·rw [if_neg e]
  have hne:L≠[]:=fun hb=>e ((hL.hd_ne).2 hb)
  have hh:=hL.2 _ (hd_mem hne (-1))
  rw [set_row _ _ _ _ hh.1]
  refine row_congr fun i h0 h1=>?_
  rw [pv]
  by_cases q:i=p
  ·rw [if_pos q,if_neg (fun e2=>hpn (by rw [←q,e2];exact hd_mem hne _)),q,pv_out hpn]
  ·rw [if_neg q]
   by_cases e2:i=hd (-1) L
   ·rw [if_pos e2]
    cases L with
    |nil=>exact absurd rfl hne
    |cons b l=>rw [pv,if_pos (show i=b from e2)]
   ·rw [if_neg e2];exact pv_else (.inl e2)
theorem NX_cons {n:Nat} {L:List Int} {p:Int} (h:Ok n (p::L)):NX n (p::L)=(NX n L).set p.toNat (hd (-1) L):=by
 have hp:=h.2 p List.mem_cons_self
 unfold NX
 rw [set_row _ _ _ _ hp.1]
 rfl
def path (N:List Int):Int→List Int→Prop
 |i,[]=>i= -1
 |i,y::l=>i=y∧y≠ -1∧path N (rd N y) l
theorem nx_of_path {N:List Int} {i:Int} {L:List Int} (h:path N i L) (hn:L.Nodup):i=hd (-1) L∧∀x∈L,rd N x=nx (-1) L x:=by
 induction L generalizing i with
 |nil=>exact ⟨h,fun _ m=>by cases m⟩
 |cons y l ih=>
  obtain ⟨h1,h2,h3⟩:=h
  obtain ⟨e1,e2⟩:=ih h3 (List.nodup_cons.1 hn).2
  refine ⟨h1,fun x hx=>?_⟩
  rw [nx]
  by_cases q:x=y
  ·rw [if_pos q,q,e1]
  ·rw [if_neg q]
   exact e2 x (by rcases List.mem_cons.1 hx with m|m;exact absurd m q;exact m)
def both (P N:List Int):Int→Int→List Int→Prop
 |_,i,[]=>i= -1
 |c,i,y::l=>i=y∧y≠ -1∧rd P y=c∧both P N y (rd N y) l
theorem both_path {P N:List Int} {c i:Int} {L:List Int} (h:both P N c i L):path N i L:=by
 induction L generalizing c i with
 |nil=>exact h
 |cons y l ih=>exact ⟨h.1,h.2.1,ih h.2.2.2⟩
theorem both_pv {P N:List Int} {c i:Int} {L:List Int} (h:both P N c i L) (hn:L.Nodup):∀x∈L,rd P x=pv c L x:=by
 induction L generalizing c i with
 |nil=>exact fun _ m=>by cases m
 |cons y l ih=>
  intro x hx
  rw [pv]
  by_cases q:x=y
  ·rw [if_pos q,q];exact h.2.2.1
  ·rw [if_neg q]
   exact ih h.2.2.2 (List.nodup_cons.1 hn).2 x (by rcases List.mem_cons.1 hx with m|m;exact absurd m q;exact m)
theorem both_made {n:Nat} {A B:List Int} (h:Ok n (A++B)):both (PV n (A++B)) (NX n (A++B)) (lst (-1) A) (hd (-1) B) B:=by
 induction B generalizing A with
 |nil=>rfl
 |cons y l ih=>
  obtain ⟨hA,hB,hd_⟩:=h.app
  have hy:=hB.2 y List.mem_cons_self
  have e:A++y::l=(A++[y])++l:=by simp
  have hm:y∉A:=fun m=>hd_ y m List.mem_cons_self
  refine ⟨rfl,by omega,?_,?_⟩
  ·rw [rd_PV hy.1 hy.2,pv_app,if_neg hm,pv,if_pos rfl]
  ·have h2:=ih (A:=A++[y]) (by rw [←e];exact h)
   rw [lst_app] at h2
   rw [rd_NX hy.1 hy.2,nx_app,if_neg hm,nx,if_pos rfl,e]
   exact h2
end Go.Proofs.YtkihjakbbcajbaaGreat.TB
namespace Go.Proofs.YtkihjakbbcajbaaGreat.TB
set_option linter.unusedSimpArgs false
set_option linter.unusedVariables false
open Go Go.Proofs Go.Proofs.YtkihjakbbcajbaaGreat.PM Go.Proofs.YtkihjakbbcajbaaGreat.RP
inductive Both (prev next:List Int):Int→Int→List Int→Prop
 |nil (c:Int):Both prev next c (-1) []
 |cons {c i:Int} {l:List Int} (h0:0≤i) (h1:i<next.length) (hp:prev.getD i.toNat 0=c) (h:Both prev next i (next.getD i.toNat 0) l):Both prev next c i (i::l)
theorem Both.chain {prev next:List Int} {c i:Int} {l:List Int} (h:Both prev next c i l):Chain next i l:=by
 induction h with
 |nil=>exact .nil
 |cons h0 h1 _ _ ih=>exact .cons h0 h1 ih
theorem Both.to {prev next:List Int} {c i:Int} {l:List Int} (h:Both prev next c i l):both prev next c i l:=by
 induction h with
 |nil=>rfl
 |cons h0 h1 hp _ ih=>exact ⟨rfl,by omega,hp,ih⟩
theorem Both.of {prev next:List Int}:∀{l:List Int} {c i:Int},both prev next c i l→(∀x∈l,0≤x∧x<next.length)→Both prev next c i l
 |[],c,i,h,_=>by
  have e:i= -1:=h
  rw [e];exact .nil c
 |y::l,c,i,h,hr=>by
  obtain ⟨h1,h2,h3,h4⟩:=h
  subst h1
  have:=hr i (by simp)
  exact .cons this.1 this.2 h3 (Both.of h4 fun x hx=>hr x (by simp [hx]))
structure OGood (prev next:List Int) (head tail:Int) (l:List Int):Prop where
 low:1≤prev.length
 high:prev.length≤16
 same:next.length=prev.length
 both:Both prev next (-1) head l
 nodup:l.Nodup
 out:∀j:Nat,j<prev.length→¬(j:Int)∈l→prev.getD j 0= -1∧next.getD j 0= -1
 tail:tail=lst (-1) l
def OOk (prev next:List Int) (head tail:Int):Prop:=∃l,OGood prev next head tail l
theorem OGood.ok {prev next:List Int} {head tail:Int} {l:List Int} (g:OGood prev next head tail l):Ok prev.length l:=
 ⟨g.nodup,fun x hx=>by have:=g.both.chain.range x hx;have:=g.same;omega⟩
theorem OGood.det {prev next:List Int} {head tail:Int} {l l':List Int} (g:OGood prev next head tail l) (g':OGood prev next head tail l'):l=l':=g.both.chain.det g'.both.chain
theorem OGood.short {prev next:List Int} {head tail:Int} {l:List Int} (g:OGood prev next head tail l):l.length≤16:=by
 have:=g.ok.len
 have:=g.high
 omega
theorem OGood.made {prev next:List Int} {head tail:Int} {l:List Int} (g:OGood prev next head tail l):prev=PV prev.length l∧next=NX prev.length l∧head=hd (-1) l∧tail=lst (-1) l:=by
 have hb:=g.both.to
 have hn:=nx_of_path (both_path hb) g.nodup
 have hp:=both_pv hb g.nodup
 refine ⟨?_,?_,hn.1,g.tail⟩
 ·refine Eq.trans (row_of prev) (row_congr fun i h0 h1=>?_)
  by_cases m:i∈l
  ·exact hp i m
  ·have:=g.out i.toNat (by omega) (by rw [show ((i.toNat:Nat):Int)=i by omega];exact m)
   rw [pv_out m];exact this.1
 ·refine Eq.trans (row_of next) ?_
  rw [g.same]
  refine row_congr fun i h0 h1=>?_
  by_cases m:i∈l
  ·exact hn.2 i m
  ·have:=g.out i.toNat (by omega) (by rw [show ((i.toNat:Nat):Int)=i by omega];exact m)
   rw [nx_out m];exact this.2
theorem OGood.of {n:Nat} {l:List Int} (h1:1≤n) (h2:n≤16) (h:Ok n l):OGood (PV n l) (NX n l) (hd (-1) l) (lst (-1) l) l where
 low:=by rw [PV_len];exact h1
 high:=by rw [PV_len];exact h2
 same:=by rw [PV_len,NX_len]
 both:=Both.of (both_made (A:=[]) h) (by rw [NX_len];exact h.2)
 nodup:=h.1
 out j hj hm:=by
  rw [PV_len] at hj
  have a:=rd_PV (L:=l) (n:=n) (i:=(j:Int)) (by omega) (by omega)
  have b:=rd_NX (L:=l) (n:=n) (i:=(j:Int)) (by omega) (by omega)
  unfold rd at a b
  rw [toNat_cast] at a b
  rw [a,b]
  exact ⟨pv_out hm,nx_out hm⟩
 tail:=rfl
theorem lru_walk_yes {prev next:List Int} {head tail last i:Int} {l:List Int} (hl:prev.length=next.length) (h:Both prev next last i l):
  ∀s:List Bool,s.length=next.length→l.Nodup→(∀x∈l,s.getD x.toNat false=false)→
   bm.L2 (next.length:Int) last i prev next head tail s=bm.L4 (lst last l) (next.length:Int) 0 prev next head tail (marks s l):=by
 induction h with
 |nil c=>
  intro s hs _ _
  rw [bm.L2_eq,bne_neg rfl,←hs];rfl
 |@cons c i l h0 h1 hp hc ih=>
  intro s hs hn hf
  obtain ⟨hi,hn⟩:=List.nodup_cons.1 hn
  have hr:=ih (s.set i.toNat true) (by simpa using hs) hn (fun x hx=>by
   have hxr:=hc.chain.range x hx
   rw [set_at h0 (by omega) hxr.1,if_neg (fun e=>hi (by rw [e];exact hx))]
   exact hf x (by simp [hx]))
  rw [bm.L2_eq,bne_pos (by omega),bm.L3_eq,bd_neg (by omega),bd_neg (by omega),bd_pos (by omega),bf (hf i (by simp)),bd_pos (by omega),bne_neg hp,bm.L8_eq,bd_pos (by omega),bd_pos (by omega)]
  exact hr
theorem lru_walk_no {prev next:List Int} {head tail:Int} (hl:prev.length=next.length) (d:Nat):
  ∀(s:List Bool) (last i:Int),s.length=next.length→s.count false≤d→(¬∃l,Both prev next last i l∧l.Nodup∧∀x∈l,s.getD x.toNat false=false)→
   bm.L2 (next.length:Int) last i prev next head tail s=some (8,()):=by
 induction d with
 |zero=>
  intro s last i hs hd hn
  by_cases e:i= -1
  ·exact absurd ⟨[],by rw [e];exact .nil _,by simp,by simp⟩ hn
  rw [bm.L2_eq,bne_pos e,bm.L3_eq]
  by_cases h0:i<0
  ·rw [bd_pos h0]
  by_cases h1:i≥next.length
  ·rw [bd_neg h0,bd_pos h1]
  rw [bd_neg h0,bd_neg h1,bd_pos (by omega)]
  by_cases hf:s.getD i.toNat false=true
  ·rw [bt hf]
  ·have:=count_set (by omega) (by omega) hf
   omega
 |succ d ih=>
  intro s last i hs hd hn
  by_cases e:i= -1
  ·exact absurd ⟨[],by rw [e];exact .nil _,by simp,by simp⟩ hn
  rw [bm.L2_eq,bne_pos e,bm.L3_eq]
  by_cases h0:i<0
  ·rw [bd_pos h0]
  by_cases h1:i≥next.length
  ·rw [bd_neg h0,bd_pos h1]
  rw [bd_neg h0,bd_neg h1,bd_pos (by omega)]
  by_cases hf:s.getD i.toNat false=true
  ·rw [bt hf]
  rw [bf (bool_not hf),bd_pos (by omega)]
  by_cases hp:prev.getD i.toNat 0=last
  ·have hc:=count_set (s:=s) (i:=i) (by omega) (by omega) hf
   have hr:=ih (s.set i.toNat true) i (next.getD i.toNat 0) (by simpa using hs) (by omega) (by
    rintro ⟨l,hl,hnd,hx⟩
    refine hn ⟨i::l,.cons (by omega) (by omega) hp hl,List.nodup_cons.2 ⟨fun hi=>?_,hnd⟩,?_⟩
    ·have:=hx i hi
     rw [set_at (by omega) (by omega) (by omega),if_pos rfl] at this
     exact Bool.noConfusion this
    ·intro x hxm
     rcases List.mem_cons.1 hxm with rfl|hxm
     ·exact bool_not hf
     ·have:=hx x hxm
      have hxr:=hl.chain.range x hxm
      rw [set_at (by omega) (by omega) hxr.1] at this
      split at this
      ·exact Bool.noConfusion this
      ·exact this)
   rw [bne_neg hp,bm.L8_eq,bd_pos (by omega),bd_pos (by omega)]
   exact hr
  ·rw [bne_pos hp]
def OutOk (s:List Bool) (prev next:List Int) (i:Nat):Prop:=s.getD i false=false→prev.getD i 0= -1∧next.getD i 0= -1
theorem lru_l4 {s:List Bool} {prev next:List Int} {head tail last:Int} (h1:s.length=next.length) (h2:prev.length=next.length) (hu:next.length≤16):
  Says ((∀i,i<next.length→OutOk s prev next i)∧tail=last) (bm.L4 last (next.length:Int) 0 prev next head tail s):=by
 have:=loop_all (n:=next.length) (L:=fun i=>bm.L4 last (next.length:Int) (i:Int) prev next head tail s) (ok:=OutOk s prev next) (stop:=some (8,())) (fun i hi=>by
  have nxt:bm.L7 last (next.length:Int) (i:Int) prev next head tail s=bm.L4 last (next.length:Int) ((i+1:Nat):Int) prev next head tail s:=by
   rw [bm.L7_eq,W_eq (by omega) (by omega),cast_add1]
  try dsimp only
  rw [bm.L4_eq,bd_pos (by omega),bm.L5_eq,bd_pos (by omega)]
  simp only [toNat_cast]
  by_cases a:s.getD i false=true
  ·rw [bnt a,nxt];exact .inl ⟨fun h=>(by rw [a] at h;cases h),rfl⟩
  ·rw [bnf (bool_not a),bd_pos (by omega)]
   by_cases e:prev.getD i 0= -1
   ·rw [bne_neg e,bd_pos (by omega)]
    by_cases f:next.getD i 0= -1
    ·rw [bne_neg f,nxt];exact .inl ⟨fun _=>⟨e,f⟩,rfl⟩
    ·rw [bne_pos f];exact .inr ⟨fun h=>f (h (bool_not a)).2,rfl⟩
   ·rw [bne_pos e];exact .inr ⟨fun h=>e (h (bool_not a)).1,rfl⟩)
 rcases this with ⟨h,e⟩|⟨h,e⟩
 ·have e2:bm.L4 last (next.length:Int) 0 prev next head tail s=bm.L4 last (next.length:Int) (next.length:Int) prev next head tail s:=e
  rw [e2,bm.L4_eq,bd_neg (by omega)]
  by_cases t:tail=last
  ·rw [bne_neg t,bm.L6_eq];exact .inl ⟨⟨h,t⟩,rfl⟩
  ·rw [bne_pos t];exact .inr ⟨fun h=>t h.2,rfl⟩
 ·exact .inr ⟨fun h2=>h h2.1,e⟩
theorem lru_says (prev next:List Int) (head tail:Int):Says (OOk prev next head tail) (bm.F (prev,next,head,tail,())):=by
 rw [bm.F_eq]
 try dsimp only
 by_cases hlow:(prev.length:Int)<1
 ·rw [bd_pos hlow];exact .inr ⟨fun ⟨l,g⟩=>by have:=g.low;omega,rfl⟩
 by_cases hhigh:(prev.length:Int)>16
 ·rw [bd_neg hlow,bd_pos hhigh];exact .inr ⟨fun ⟨l,g⟩=>by have:=g.high;omega,rfl⟩
 by_cases hsame:(next.length:Int)=(prev.length:Int)
 ·have hl:prev.length=next.length:=by omega
  rw [bd_neg hlow,bd_neg hhigh,bne_neg hsame,bm.L1_eq,decide_eq_true (show (0:Int)≤(prev.length:Int)∧(prev.length:Int)≤(prev.length:Int) by omega),Bool.true_and,lim_small (by decide) (by omega),toNat_cast,hl]
  have h0:∀i:Nat,(List.replicate next.length false).getD i false=false:=fun i=>by simp [List.getD_eq_getElem?_getD,List.getElem?_replicate];split<;>rfl
  by_cases hc:∃l,Both prev next (-1) head l∧l.Nodup
  ·obtain ⟨l,hb,hnd⟩:=hc
   rw [lru_walk_yes hl hb _ (by simp) hnd (fun x _=>h0 _)]
   have hr:∀x∈l,0≤x∧x<(List.replicate next.length false).length:=fun x hx=>by have:=hb.chain.range x hx;simp;omega
   have hm:∀i:Nat,(marks (List.replicate next.length false) l).getD i false=true↔(i:Int)∈l:=fun i=>by
    have:=marks_at hr (j:=(i:Int)) (by omega)
    rw [toNat_cast,h0] at this
    simpa using this
   refine (lru_l4 (by rw [marks_length];simp) hl (by omega)).congr ⟨fun h=>⟨l,by omega,by omega,by omega,hb,hnd,fun j hj m=>h.1 j (by omega) (bool_not fun e=>m ((hm j).1 e)),h.2⟩,fun ⟨l',g⟩=>?_⟩
   obtain rfl:=hb.chain.det g.both.chain
   exact ⟨fun i hi e=>g.out i (by omega) fun m=>(by rw [(hm i).2 m] at e;cases e),g.tail⟩
  ·rw [lru_walk_no hl ((List.replicate next.length false).count false) _ _ _ (by simp) (Nat.le_refl _) (fun ⟨l,a,b,_⟩=>hc ⟨l,a,b⟩)]
   exact .inr ⟨fun ⟨l,g⟩=>hc ⟨l,g.both,g.nodup⟩,rfl⟩
 ·rw [bd_neg hlow,bd_neg hhigh,bne_pos hsame];exact .inr ⟨fun ⟨l,g⟩=>by have:=g.same;omega,rfl⟩
theorem list_walk {prev next:List Int} {head tail i:Int} {l:List Int} (h:Chain next i l):∀acc:List Int,acc.length+l.length≤1000→fc.L2 i prev next head tail acc=some (acc++l,0,()):=by
 induction h with
 |nil=>
  intro acc _
  rw [fc.L2_eq,bne_neg rfl,List.append_nil]
 |@cons i l h0 h1 hc ih=>
  intro acc ha
  have ha:acc.length+(l.length+1)≤1000:=ha
  rw [fc.L2_eq,bne_pos (by omega),fc.L3_eq,lim_small (by decide) (by simp;omega),bd_pos (by omega),ih _ (by simp;omega)]
  simp
theorem lru_List_ok {prev next:List Int} {head tail:Int} {l:List Int} (g:OGood prev next head tail l):fc.F (prev,next,head,tail,())=some (l,0,()):=by
 have:=g.short
 rw [fc.F_eq,(lru_says prev next head tail).yes ⟨l,g⟩,ob,bne_neg rfl,fc.L1_eq]
 try dsimp only
 rw [list_walk g.both.chain [] (by simp;omega)]
 rfl
theorem lru_List_no {prev next:List Int} {head tail:Int} (h:¬OOk prev next head tail):fc.F (prev,next,head,tail,())=some ([],8,()):=by
 rw [fc.F_eq,(lru_says prev next head tail).no h,ob,bne_pos (by decide)]
end Go.Proofs.YtkihjakbbcajbaaGreat.TB
namespace Go.Proofs.YtkihjakbbcajbaaGreat.TB
set_option linter.unusedSimpArgs false
set_option linter.unusedVariables false
open Go Go.Proofs Go.Proofs.YtkihjakbbcajbaaGreat.PM Go.Proofs.YtkihjakbbcajbaaGreat.RP
def LimOk (l:t0.den):Prop:=¬(Z l.1)<1∧¬(Z l.1)>1000000000∧¬(Z l.2.1)<0∧¬(Z l.2.1)>1000000000∧¬(Z l.2.2.1)<1∧¬(Z l.2.2.1)>1000000000∧True
theorem limit_says (l:t0.den):Says (LimOk l) (db.F l):=by
 rw [db.F_eq]
 exact .guard fun _=> .guard fun _=> .guard fun _=> .guard fun _=> .guard fun _=> .guard fun _=>by rw [db.L1_eq];exact .done
def BktOk (b:t1.den):Prop:=LimOk b.1∧¬(Z b.2.1)<0∧¬((Z b.1.1) - Z b.2.1)<0∧¬(Z b.2.2.1)<0∧¬(Z b.2.2.1)≥Z b.1.2.2.1∧((Z b.1.1) - Z b.2.1=0→¬(Z b.2.2.1)>0)
theorem bucket_says (b:t1.den) (hb:(Z b.2.1)≤9223372036854775807):Says (BktOk b) (dc.F b):=by
 rw [dc.F_eq]
 refine (limit_says b.1).call (fun hl=>?_) rfl
 obtain ⟨h1,h2,_⟩:=hl
 rw [bne_neg rfl,dc.L1_eq]
 refine .guard fun a=>?_
 have e:IntKind.wrap .i64 ((Z b.1.1) - Z b.2.1)=(Z b.1.1) - Z b.2.1:=W_eq (by omega) (by omega)
 rw [e]
 refine .guard fun _=> .guard fun _=> .guard fun _=>?_
 by_cases z:(Z b.1.1) - Z b.2.1=0
 ·rw [beq_pos z]
  by_cases w:(Z b.2.2.1)>0
  ·rw [bd_pos (by exact w)];exact .inr ⟨fun h=>h z w,rfl⟩
  ·rw [bd_neg (by exact w),dc.L2_eq];exact .inl ⟨fun _=>w,rfl⟩
 ·rw [beq_neg z,dc.L2_eq];exact .inl ⟨fun h=>absurd h z,rfl⟩
theorem index_l1 {s:List Int} {v:Int} (hs:s.length≤1000):∀(k i:Nat),i+k=s.length→∃r:Int,dj.L1 s v (s.length:Int) (i:Int)=some (r,())∧(0≤r↔v∈s.drop i)
 |0,i,h=>by
  refine ⟨-1,by rw [dj.L1_eq,bd_neg (by omega)],?_⟩
  rw [List.drop_of_length_le (by omega)];simp
 |k+1,i,h=>by
  have hi:i<s.length:=by omega
  rw [dj.L1_eq,bd_pos (by omega),dj.L2_eq,bd_pos (by omega)]
  simp only [toNat_cast]
  rw [getD_get hi,List.drop_eq_getElem_cons hi]
  by_cases e:v=s[i]
  ·exact ⟨i,by rw [beq_pos e],⟨fun _=>by rw [e];exact List.mem_cons_self,fun _=>by omega⟩⟩
  ·obtain ⟨r,h1,h2⟩:=index_l1 hs k (i+1) (by omega)
   refine ⟨r,by rw [beq_neg e,dj.L3_eq,W_eq (by omega) (by omega),cast_add1,h1],?_⟩
   rw [h2,List.mem_cons]
   exact ⟨Or.inr,fun h=>h.resolve_left e⟩
theorem contains_f {s:List Int} (hs:s.length≤1000) (v:Int):gy.F s v=some (decide (v∈s),()):=by
 obtain ⟨r,h1,h2⟩:=index_l1 (v:=v) hs s.length 0 (by omega)
 have h1:dj.L1 s v (s.length:Int) 0=some (r,()):=h1
 rw [gy.F_eq,dj.F_eq,h1,ob]
 rw [List.drop_zero] at h2
 show some (decide (r≥0),())=_
 rw [decide_eq_decide.2 h2]
end Go.Proofs.YtkihjakbbcajbaaGreat.TB
namespace Go.Proofs.YtkihjakbbcajbaaGreat.TB
set_option linter.unusedSimpArgs false
set_option linter.unusedVariables false
open Go Go.Proofs Go.Proofs.YtkihjakbbcajbaaGreat.PM Go.Proofs.YtkihjakbbcajbaaGreat.RP
@[reducible] noncomputable def b0_:t1.den:=((0,0,0,()),0,0,0,())
def RowOk (keys:List Int) (bks:List t1.den) (used:List Bool) (x:List t3.den) (l:List Int) (i:Nat):Prop:=
 (used.getD i false=true↔(i:Int)∈l)∧
 (used.getD i false=false→keys.getD i 0=0∧bks.getD i b0_=b0_)∧
 (used.getD i false=true→(∃j:Int,0≤j∧j<16∧(cl x j).2.2.1=true∧(cl x j).1=keys.getD i 0∧(cl x j).2.1=(i:Int))∧BktOk (bks.getD i b0_))
structure TGood (cap:Int) (keys:List Int) (bks:List t1.den) (next:List Int) (used:List Bool) (free:Int) (x:List t3.den) (prev nxt:List Int) (head tail:Int) (l:List Int):Prop where
 low:1≤cap
 high:cap≤8
 nkeys:(keys.length:Int)=cap
 nbks:(bks.length:Int)=cap
 nnext:(next.length:Int)=cap
 nprev:(prev.length:Int)=cap
 arena:AOk next used free
 index:POk x
 order:OGood prev nxt head tail l
 row:∀i:Nat,i<used.length→RowOk keys bks used x l i
 count:used.countP id=cnt x
def TOk (t:t5.den):Prop:=∃l,TGood t.1 t.2.1 t.2.2.1 t.2.2.2.1.1 t.2.2.2.1.2.1 t.2.2.2.1.2.2.1 t.2.2.2.2.1 t.2.2.2.2.2.1.1 t.2.2.2.2.2.1.2.1 t.2.2.2.2.2.1.2.2.1 t.2.2.2.2.2.1.2.2.2.1 l
theorem take_count {used:List Bool} {i:Nat} (h:i<used.length):(used.take (i+1)).countP id=(used.take i).countP id+(if used.getD i false=true then 1 else 0):=by
 rw [←List.take_append_getElem h,List.countP_append,getD_get h]
 simp [List.countP_cons]
theorem count_le (used:List Bool) (i:Nat):(used.take i).countP id≤used.length:=by
 have:=List.countP_le_length (p:=id) (l:=used.take i)
 have:=List.length_take_le' i used
 omega
theorem table_l5 {x:List t3.den} (hx:x.length=16) (n:Nat) (hn:n≤1000):Says (n=cnt x) (af.L5 (n:Int) x (x.length:Int) 0):=by
 have h2:=loop_go (n:=x.length) (L:=fun i=>af.L5 ((n:Int) - (((x.take i).countP (·.2.2.1):Nat):Int)) x (x.length:Int) (i:Int)) (fun i hi=>by
  have hle:=cnt_le x i
  try dsimp only
  rw [af.L5_eq,bd_pos (by omega),af.L6_eq,bd_pos (by omega),take_cnt hi]
  by_cases u:(cl x (i:Int)).2.2.1=true
  ·rw [bt u,if_pos u,af.L8_eq,W_eq (by omega) (by omega),W_eq (by omega) (by omega),cast_add1]
   congr 1
   omega
  ·rw [bf (bool_not u),if_neg u,af.L8_eq,W_eq (x:=(i:Int)+1) (by omega) (by omega),cast_add1];rfl)
 try dsimp only at h2
 rw [List.take_of_length_le (Nat.le_refl _)] at h2
 have h3:af.L5 ((n:Int) - ((0:Nat):Int)) x (x.length:Int) 0=af.L5 ((n:Int) - (cnt x:Int)) x (x.length:Int) (x.length:Int):=h2
 rw [show ((n:Int) - ((0:Nat):Int))=n by omega] at h3
 rw [h3,af.L5_eq,bd_neg (by omega)]
 by_cases e:n=cnt x
 ·rw [bne_neg (by omega),af.L7_eq];exact .inl ⟨e,rfl⟩
 ·rw [bne_pos (by omega)];exact .inr ⟨e,rfl⟩
theorem table_l3 {cap:Int} {keys:List Int} {bks:List t1.den} {next:List Int} {used:List Bool} {free:Int} {x:List t3.den} {prev nxt:List Int} {head tail:Int} {l:List Int}
  (hk:keys.length=used.length) (hb:bks.length=used.length) (hu:used.length≤8) (hx:POk x) (hl:l.length≤16) (hw:∀c∈bks,Z c.2.1≤9223372036854775807):
  Says ((∀i,i<used.length→RowOk keys bks used x l i)∧used.countP id=cnt x) (af.L3 0 used (used.length:Int) 0 cap keys bks next free x prev nxt head tail l):=by
 have hx16:=hx.len
 rcases loop_all (n:=used.length) (L:=fun i=>af.L3 (((used.take i).countP id:Nat):Int) used (used.length:Int) (i:Int) cap keys bks next free x prev nxt head tail l) (ok:=RowOk keys bks used x l) (stop:=some (8,())) (fun i hi=>by
  have hle:=count_le used i
  try dsimp only
  rw [take_count hi]
  rw [af.L3_eq,bd_pos (by omega),af.L4_eq,bd_pos (by omega),contains_f (by omega),ob]
  simp only [toNat_cast]
  by_cases u:used.getD i false=true
  ·rw [if_pos u]
   rw [u]
   by_cases m:(i:Int)∈l
   ·rw [decide_eq_true m,bnt (b:=true==true) rfl,bnt rfl,af.L9_eq,bnt rfl,af.L10_eq,bd_pos (by omega)]
    simp only [toNat_cast]
    have hbi:Z (bks.getD i b0_).2.1≤9223372036854775807:=by
     rw [getD_get (by omega)];exact hw _ (List.getElem_mem _)
    rcases probe_Find_ok hx (keys.getD i 0) with ⟨j,h0,h1,v,e,f⟩|⟨n,f⟩
    ·rw [f,ob,bne_neg rfl]
     by_cases q:Z (cl x j).2.1=(i:Int)
     ·rw [bne_neg q,bd_pos (by omega)]
      rcases bucket_says _ hbi with ⟨ok,g⟩|⟨ok,g⟩
      ·rw [g,ob,bne_neg rfl,af.L11_eq,W_eq (by omega) (by omega),W_eq (by omega) (by omega),cast_add1,cast_add1]
       exact .inl ⟨⟨⟨fun _=>m,fun _=>u⟩,fun h=>(by rw [u] at h;cases h),fun _=>⟨⟨j,h0,h1,v,e,q⟩,ok⟩⟩,rfl⟩
      ·rw [g,ob,bne_pos (by decide)]
       exact .inr ⟨fun h=>ok (h.2.2 u).2,rfl⟩
     ·rw [bne_pos q]
      refine .inr ⟨fun h=>?_,rfl⟩
      obtain ⟨⟨k,a,b,c,d,g⟩,_⟩:=h.2.2 u
      exact q (by rw [hx.uniq j k h0 h1 a b v c (e.trans d.symm)];exact g)
    ·rw [f,ob,bne_pos (by decide)]
     refine .inr ⟨fun h=>?_,rfl⟩
     obtain ⟨⟨k,a,b,c,d,g⟩,_⟩:=h.2.2 u
     exact n k a b ⟨c,d⟩
   ·rw [decide_eq_false m]
    exact .inr ⟨fun h=>m (h.1.1 u),rfl⟩
  ·have uf:=bool_not u
   rw [if_neg u]
   rw [uf]
   by_cases m:(i:Int)∈l
   ·rw [decide_eq_true m]
    exact .inr ⟨fun h=>u (h.1.2 m),rfl⟩
   ·rw [decide_eq_false m,bnt (b:=false==false) rfl,bnf rfl,bd_pos (by omega)]
    by_cases k0:keys.getD i 0=0
    ·rw [bne_neg k0,bd_pos (by omega)]
     by_cases z:bks.getD i b0_=b0_
     ·rw [nbeq_neg z,af.L9_eq,bnf rfl,W_eq (by omega) (by omega),cast_add1]
      exact .inl ⟨⟨⟨fun h=>absurd h u,fun h=>absurd h m⟩,fun _=>⟨k0,z⟩,fun h=>absurd h u⟩,rfl⟩
     ·rw [nbeq_pos z]
      exact .inr ⟨fun h=>z (h.2.1 uf).2,rfl⟩
    ·rw [bne_pos k0]
     exact .inr ⟨fun h=>k0 (h.2.1 uf).1,rfl⟩) with ⟨a,e⟩|⟨a,e⟩
 ·have e2:af.L3 0 used (used.length:Int) 0 cap keys bks next free x prev nxt head tail l=af.L3 (((used.take used.length).countP id:Nat):Int) used (used.length:Int) (used.length:Int) cap keys bks next free x prev nxt head tail l:=e
  have hle:=count_le used used.length
  rw [List.take_of_length_le (Nat.le_refl _)] at e2 hle
  rw [e2,af.L3_eq,bd_neg (by omega)]
  exact (table_l5 hx16 (used.countP id) (by omega)).congr ⟨fun h=>⟨a,h⟩,fun h=>h.2⟩
 ·exact .inr ⟨fun h=>a h.1,e⟩
theorem table_says (t:t5.den) (hw:∀c∈t.2.2.1,Z c.2.1≤9223372036854775807):Says (TOk t) (af.F t):=by
 obtain ⟨cap,keys,bks,⟨next,used,free,⟨⟩⟩,x,⟨prev,nxt,head,tail,⟨⟩⟩,⟨⟩⟩:=t
 rw [af.F_eq]
 dsimp only at hw ⊢
 refine Says.congr (P:=¬(Z cap<1)∧¬(Z cap>8)∧(([(keys.length:Int),(bks.length:Int),(next.length:Int),(prev.length:Int)]:List Int)=[cap,cap,cap,cap])∧AOk next used free∧POk x∧∃l,OGood prev nxt head tail l∧(∀i,i<used.length→RowOk keys bks used x l i)∧used.countP id=cnt x) ?_ ?_
 ·refine .guard fun c0=> .guard fun c1=> .same (t:=.arr 4 (.int .i64)) fun hs=>?_
  have c0:¬Z cap<1:=c0
  have c1:¬Z cap>8:=c1
  have hs:[(keys.length:Int),(bks.length:Int),(next.length:Int),(prev.length:Int)]=[Z cap,Z cap,Z cap,Z cap]:=hs
  simp only [List.cons.injEq,and_true] at hs
  obtain ⟨s1,s2,s3,s4⟩:=hs
  refine (arena_says next used free).call (fun ha=>?_) rfl
  rw [bne_neg rfl]
  refine (probe_says x).call (fun hp=>?_) rfl
  rw [bne_neg rfl,af.L1_eq]
  have hlen:used.length=next.length:=by obtain ⟨_,g⟩:=ha;exact g.same
  by_cases ho:OOk prev nxt head tail
  ·obtain ⟨l,g⟩:=ho
   rw [lru_List_ok g,ob,bne_neg rfl,af.L2_eq]
   have hs:=g.short
   refine (table_l3 (cap:=cap) (next:=next) (free:=free) (prev:=prev) (nxt:=nxt) (head:=head) (tail:=tail) (by omega) (by omega) (by omega) hp hs hw).congr ⟨fun h=>⟨l,g,h⟩,fun ⟨l',g',h⟩=>?_⟩
   obtain rfl:=g.det g'
   exact h
  ·rw [lru_List_no ho,ob,bne_pos (by decide)]
   exact .inr ⟨fun ⟨l,g,_⟩=>ho ⟨l,g⟩,rfl⟩
 ·constructor
  ·rintro ⟨c0,c1,hs,ha,hp,l,g,hr,hc⟩
   simp only [List.cons.injEq,and_true] at hs
   obtain ⟨s1,s2,s3,s4⟩:=hs
   exact ⟨l,Int.not_lt.1 c0,Int.not_lt.1 c1,s1,s2,s3,s4,ha,hp,g,hr,hc⟩
  ·rintro ⟨l,g⟩
   have h1:=g.low
   have h2:=g.high
   refine ⟨Int.not_lt.2 h1,Int.not_lt.2 h2,?_,g.arena,g.index,l,g.order,g.row,g.count⟩
   rw [g.nkeys,g.nbks,g.nnext,g.nprev]
end Go.Proofs.YtkihjakbbcajbaaGreat.TB
