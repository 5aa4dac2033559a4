/- Parts of the proof, joined: PM1, PM2, PM3, PM4. -/
import Derived.Orders
import Derived.Tactics
import Derived.Below
import Derived.Laws.IdiomCopy
namespace Go.Proofs.YtkihjakbbcajbaaGreat.PM
set_option linter.unusedSimpArgs false
set_option linter.unusedVariables false
open Go
noncomputable section
inductive Ty where
 |int (k:IntKind)|bool|str|unit|pair (a b:Ty)|arr (n:Nat) (t:Ty)|slice (t:Ty)
 deriving DecidableEq
@[reducible] def Ty.den:Ty→Type
 |.int _=>Int
 |.bool=>Bool
 |.str=>List UInt8
 |.unit=>Unit
 |.pair a b=>a.den × b.den
 |.arr _ t=>List t.den
 |.slice t=>List t.den
def Ty.size:Ty→Nat
 |.int _|.bool|.str|.slice _=>1
 |.unit=>0
 |.pair a b=>a.size+b.size
 |.arr n t=>n*t.size
def Ty.bytes:Ty→Nat
 |.int _|.bool=>8
 |.str=>16
 |.slice _=>24
 |.unit=>0
 |.pair a b=>a.bytes+b.bytes
 |.arr n t=>n*t.bytes
def Ty.agg:Ty→Bool
 |.unit|.pair _ _|.arr _ _=>true
 |_=>false
def Ty.flat:Ty→Bool
 |.slice _=>false
 |.pair a b=>a.flat && b.flat
 |.arr _ t=>t.flat
 |_=>true
def Ty.plain:Ty→Bool
 |.slice _=>false
 |.arr _ t=>t.plain
 |.pair a b=>a.plain && b.plain
 |_=>true
def Ty.zero:(t:Ty)→t.den
 |.int _=>(0:Int)
 |.bool=>false
 |.str=>[]
 |.unit=>()
 |.pair a b=>(a.zero,b.zero)
 |.arr n t=>List.replicate n t.zero
 |.slice _=>[]
def allB {α:Type} (f:α→α→Bool):List α→List α→Bool
 |[],[]=>true
 |x::xs,y::ys=>f x y && allB f xs ys
 |_,_=>false
def Ty.beq:(t:Ty)→t.den→t.den→Bool
 |.int _,x,y=>decide ((x:Int)=y)
 |.bool,x,y=>(x:Bool)==y
 |.str,x,y=>decide ((x:List UInt8)=y)
 |.unit,_,_=>true
 |.pair a b,x,y=>a.beq x.1 y.1 && b.beq x.2 y.2
 |.arr _ t,x,y=>allB t.beq x y
 |.slice t,x,y=>allB t.beq x y
def castT (t u:Ty) (x:t.den):Option u.den:=if h:t=u then some (h▸x) else none
inductive Stp where
 |fld (i off:Nat)|idx (i sz n:Nat)|elt (i sz:Nat)
 deriving DecidableEq
def Stp.off:Stp→Nat
 |.fld _ o=>o
 |.idx i s _=>i*s
 |.elt i s=>i*s
def poff:List Stp→Nat
 |[]=>0
 |s::p=>s.off+poff p
inductive PV where
 |v (t:Ty) (x:t.den)
 |agg (xs:List PV)
 |sl (id:Nat)
 |sv (id:Nat) (p:List Stp) (off len sz n:Nat)
 |ptr (id:Nat) (p:List Stp)
 |iptr (t:Ty) (x:t.den)
 |nils
 |fn (f:Nat) (caps:List PV)
 |tup (xs:List PV)
 |undef
inductive Blk where
 |box (x:PV)
 |row (t:Ty) (xs:List t.den) (fz:Bool)
inductive Q (α:Type):Type 1 where
 |ret (a:α)
 |fail
 |rd (id:Nat) (k:Blk→Q α)
 |wr (id:Nat) (b:Option Blk) (k:Q α)
 |new (id:Nat) (b:Blk) (k:Q α)
 |ask (b:Bool) (k:Q α)
 |br (b:Bool) (x y:Q α)
 |opt {β:Type} (o:Option β) (k:β→Q α)
def Q.bind {α β:Type}:Q α→(α→Q β)→Q β
 |.ret a,f=>f a
 |.fail,_=> .fail
 |.rd id k,f=> .rd id fun b=>(k b).bind f
 |.wr id b k,f=> .wr id b (k.bind f)
 |.new id b k,f=> .new id b (k.bind f)
 |.ask b k,f=> .ask b (k.bind f)
 |.br b x y,f=> .br b (x.bind f) (y.bind f)
 |.opt o k,f=> .opt o fun x=>(k x).bind f
instance:Monad Q where
 pure:=Q.ret
 bind:=Q.bind
def get {α:Type}:Option α→Q α
 |some a=> .ret a
 |none=> .fail
def look {α:Type} (i:Nat):List (Nat × α)→Option α
 |[]=>none
 |(j,x)::r=>cond (Nat.beq i j) (some x) (look i r)
abbrev Hp:=List (Nat × Option Blk)
def Hp.at (h:Hp) (i:Nat):Option Blk:=(look i h).bind id
mutual
def mk:(t:Ty)→t.den→PV
 |.pair a b,x=> .agg (mk a x.1::mks b x.2)
 |.unit,_=> .agg []
 |t,x=> .v t x
def mks:(t:Ty)→t.den→List PV
 |.pair a b,x=>mk a x.1::mks b x.2
 |.unit,_=>[]
 |t,x=>[.v t x]
end
def fldTy:Ty→Nat→Option Ty
 |.pair a _,0=>some a
 |.pair _ b,i+1=>fldTy b i
 |_,_=>none
def fldOff:Ty→Nat→Option Nat
 |.pair _ _,0=>some 0
 |.pair a b,i+1=>(fldOff b i).map (a.size+·)
 |_,_=>none
def fldGet:(t:Ty)→t.den→Nat→Option ((u:Ty) × u.den)
 |.pair a _,x,0=>some ⟨a,x.1⟩
 |.pair _ b,x,i+1=>fldGet b x.2 i
 |_,_,_=>none
def setI {α:Type}:List α→Nat→α→List α
 |[],_,_=>[]
 |_::r,0,y=>y::r
 |x::r,i+1,y=>x::setI r i y
mutual
def PV.size:PV→Nat
 |.v t _=>t.size
 |.agg xs=>sizes xs
 |_=>1
def sizes:List PV→Nat
 |[]=>0
 |x::xs=>x.size+sizes xs
end
def getF:List PV→Nat→Nat→Option PV
 |[],_,_=>none
 |x::_,0,o=>cond (Nat.beq o 0) (some x) none
 |x::xs,i+1,o=>cond (Nat.ble x.size o) (getF xs i (o - x.size)) none
def getP:List Stp→PV→Option PV
 |[],x=>some x
 |.fld i o::p,.agg xs=>(getF xs i o).bind (getP p)
 |.idx i s n::p,.v (.arr m t) xs=>cond (Nat.beq m n && Nat.beq s t.size) (getP p (mk t (xs.getD i t.zero))) none
 |_,_=>none
mutual
def flatV:(t:Ty)→PV→Option t.den
 |.pair a b,.agg (x::xs)=>(flatV a x).bind fun p=>(flatVs b xs).bind fun q=>some (p,q)
 |.unit,.agg []=>some ()
 |t,.v u x=>castT u t x
 |_,_=>none
def flatVs:(t:Ty)→List PV→Option t.den
 |.pair a b,x::xs=>(flatV a x).bind fun p=>(flatVs b xs).bind fun q=>some (p,q)
 |.unit,[]=>some ()
 |_,_=>none
end
mutual
def dec:(t:Ty)→PV→Q t.den
 |.pair a b,.agg (x::xs)=>(dec a x).bind fun p=>(decs b xs).bind fun q=> .ret (p,q)
 |.unit,.agg []=> .ret ()
 |.slice t,.sl id=> .rd id fun
   |.row u xs _=>get (castT (.slice u) (.slice t) xs)
   |_=> .fail
 |.slice t,.sv id p off len sz n=> .rd id fun
   |.row u xs _=>(get (castT (.slice u) (.slice t) xs)).bind fun ys=>match p with
    |[]=>cond (Nat.beq sz t.size && Nat.beq n 0) (.ret ((ys.drop off).take len)) .fail
    |_=> .fail
   |.box x=>match getP p x with
    |some (.v (.arr m u) xs)=>cond (Nat.beq m n && Nat.beq sz t.size && !Nat.beq n 0) ((get (castT (.slice u) (.slice t) xs)).bind fun ys=> .ret ((ys.drop off).take len)) .fail
    |_=> .fail
 |.slice _,.nils=> .ret []
 |t,.v u x=>get (castT u t x)
 |_,_=> .fail
def decs:(t:Ty)→List PV→Q t.den
 |.pair a b,x::xs=>(dec a x).bind fun p=>(decs b xs).bind fun q=> .ret (p,q)
 |.unit,[]=> .ret ()
 |_,_=> .fail
end
inductive TI where
 |data (t:Ty)
 |other
inductive PK where
 |val (t:Ty)|io (t:Ty) (own:Bool)|mu (t:Ty)|fn (f:Nat)|eat (t:Ty)|clo (f:Nat) (t:Ty)
def argTy:List PK→Ty
 |[]=> .unit
 |.val t::r=> .pair t (argTy r)
 |.io t _::r=> .pair t (argTy r)
 |.mu t::r=> .pair (.slice t) (argTy r)
 |.fn _::r=>argTy r
 |.eat t::r=> .pair (.slice t) (argTy r)
 |.clo _ t::r=> .pair t (argTy r)
def resTy:List (Ty × Bool)→Ty
 |[]=> .unit
 |(t,_)::r=> .pair t (resTy r)
def outTy:List PK→List (Ty × Bool)→Ty
 |[],rs=>resTy rs
 |.io t _::r,rs=> .pair t (outTy r rs)
 |.mu t::r,rs=> .pair (.slice t) (outTy r rs)
 |.val _::r,rs=>outTy r rs
 |.fn _::r,rs=>outTy r rs
 |.eat _::r,rs=>outTy r rs
 |.clo _ t::r,rs=> .pair t (outTy r rs)
structure Sig where
 ps:List PK
 rs:List (Ty × Bool)
structure Fun where
 sig:Sig
 F:(argTy sig.ps).den→Option (outTy sig.ps sig.rs).den
inductive Prim where
 |clone (u:Ty)|ins (u:Ty)|del (u:Ty)|grow (u:Ty)|cmp
structure Env where
 tl:List (Nat × TI)
 fns:Nat→Option Fun
 share:List Nat
 eqs:List Nat
 globs:List (Nat × PV)
 prim:List (Nat × Prim)
def Env.tab (E:Env) (t:Nat):Option TI:=look t E.tl
def Env.data (E:Env) (t:Nat):Q Ty:=match E.tab t with
 |some (.data τ)=> .ret τ
 |_=> .fail
def Env.elem (E:Env) (t:Nat):Q Ty:=match E.tab t with
 |some (.data (.slice τ))=> .ret τ
 |_=> .fail
mutual
def imp:(t:Ty)→t.den→Nat→Q (PV × Nat)
 |.slice t,x,n=> .new n (.row t x false) (.ret (.sl n,n+1))
 |.pair a b,x,n=>(imp a x.1 n).bind fun p=>(imps b x.2 p.2).bind fun q=> .ret (.agg (p.1::q.1),q.2)
 |.unit,_,n=> .ret (.agg [],n)
 |t,x,n=> .ret (.v t x,n)
def imps:(t:Ty)→t.den→Nat→Q (List PV × Nat)
 |.pair a b,x,n=>(imp a x.1 n).bind fun p=>(imps b x.2 p.2).bind fun q=> .ret (p.1::q.1,q.2)
 |.unit,_,n=> .ret ([],n)
 |.slice t,x,n=> .new n (.row t x false) (.ret ([.sl n],n+1))
 |t,x,n=> .ret ([.v t x],n)
end
mutual
def eat:PV→Q Unit
 |.sl id=> .rd id fun
   |.row _ _ false=> .wr id none (.ret ())
   |_=> .fail
 |.agg xs=>eats xs
 |.v t _=>cond t.flat (.ret ()) .fail
 |.nils=> .ret ()
 |_=> .fail
def eats:List PV→Q Unit
 |[]=> .ret ()
 |x::xs=>(eat x).bind fun _=>eats xs
end
mutual
def frz:PV→Q Unit
 |.sl id=> .rd id fun
   |.row t xs _=> .wr id (some (.row t xs true)) (.ret ())
   |_=> .fail
 |.sv id _ _ _ _ n=> .rd id fun
   |.row t xs _=>cond (Nat.beq n 0) (.wr id (some (.row t xs true)) (.ret ())) .fail
   |_=> .fail
 |.agg xs=>frzs xs
 |.v _ _=> .ret ()
 |.nils=> .ret ()
 |_=> .fail
def frzs:List PV→Q Unit
 |[]=> .ret ()
 |x::xs=>(frz x).bind fun _=>frzs xs
end
mutual
def fits:Ty→PV→Bool
 |.pair a b,.agg (x::xs)=>fits a x && fitss b xs
 |.unit,.agg []=>true
 |.slice _,.sl _=>true
 |.slice _,.sv _ _ _ _ _ _=>true
 |t,.v u _=>decide (t=u)
 |_,_=>false
def fitss:Ty→List PV→Bool
 |.pair a b,x::xs=>fits a x && fitss b xs
 |.unit,[]=>true
 |_,_=>false
end
def lone:PV→Bool
 |.ptr _ _|.fn _ _=>true
 |_=>false
def fitsI:TI→PV→Bool
 |.data t,x=>fits t x
 |.other,x=>lone x
def seat (t:TI) (x:PV) (n:Nat):Q PV:=match x with
 |.nils=>match t with
  |.data (.slice τ)=> .new n (.row τ [] false) (.ret (.sl n))
  |_=> .fail
 |x=> .ret x
def seatT (t:Ty) (x:PV) (n:Nat):Q PV:=seat (.data t) x n
def typed (t:Ty) (x:PV):Q t.den:=(dec t x).bind fun y=>cond t.flat (.ret y) ((frz x).bind fun _=> .ret y)
def lim (n:Nat) (t:Ty):Bool:=decide (n*t.bytes≤140737488355328)
def splice {α:Type} (xs:List α) (o:Nat) (ys:List α):List α:=xs.take o++ys++xs.drop (o+ys.length)
def rdPath (p:List Stp) (x:PV):Q PV:=get (getP p x)
def setP:List Stp→PV→PV→Option PV
 |[],_,y=>some y
 |.fld i _::p,.agg xs,y=>(xs[i]?).bind fun x=>(setP p x y).bind fun z=>some (.agg (setI xs i z))
 |.idx i _ _::p,.v (.arr n t) xs,y=>cond t.flat ((setP p (mk t (xs.getD i t.zero)) y).bind fun e=>(flatV t e).bind fun e=>some (.v (.arr n t) (xs.set i e))) none
 |_,_,_=>none
def ptrQ (a:PV):Q PV:=match a with
 |.iptr u x=> .ret (mk u x)
 |.ptr id p=> .rd id fun
  |.box x=>rdPath p x
  |.row u xs _=>match p with
   |.elt i s::p=>cond (Nat.beq s u.size) (rdPath p (mk u (xs.getD i u.zero))) .fail
   |_=> .fail
 |_=> .fail
def loadQ (E:Env) (t:Nat) (a:PV):Q PV:=
 (get (E.tab t)).bind fun τ=>(ptrQ a).bind fun x=>cond (fitsI τ x) (.ret x) .fail
def putQ (τ:TI) (a y:PV):Q PV:=match a with
 |.ptr id p=> .rd id fun
  |.box x=>match getP p x,setP p x y with
   |some o,some z=>cond (fitsI τ o) (.wr id (some (.box z)) (.ret .undef)) .fail
   |_,_=> .fail
  |.row u xs _=>match p with
   |.elt i s::p=>match getP p (mk u (xs.getD i u.zero)),setP p (mk u (xs.getD i u.zero)) y with
    |some o,some z=>cond (Nat.beq s u.size && fitsI τ o) ((typed u z).bind fun e=> .rd id fun
     |.row v ys false=>(get (castT (.slice v) (.slice u) ys)).bind fun ys=> .wr id (some (.row u (List.set ys i e) false)) (.ret .undef)
     |_=> .fail) .fail
    |_,_=> .fail
   |_=> .fail
 |_=> .fail
def storeQ (E:Env) (t:Nat) (a y:PV) (nw:Nat):Q PV:=
 (get (E.tab t)).bind fun τ=>(seat τ y nw).bind fun y=>cond (fitsI τ y) (putQ τ a y) .fail
def fieldAddrQ (E:Env) (t:Nat) (x:PV) (i:Nat):Q PV:=
 (E.data t).bind fun τ=>match fldTy τ i,fldOff τ i with
  |some u,some o=>cond (Nat.ble 1 u.size) (match x with
   |.ptr id p=> .ret (.ptr id (p++[.fld i o]))
   |.iptr v y=>(get (castT v τ y)).bind fun y=>match fldGet τ y i with
    |some z=> .ret (.iptr z.1 z.2)
    |none=> .fail
   |_=> .fail) .fail
  |_,_=> .fail
def intOf:PV→Q Int
 |.v (.int _) n=> .ret n
 |_=> .fail
def sliceElt (u:Ty) (x:PV) (i:Int):Q PV:=match x with
 |.sl id=> .rd id fun
  |.row v xs _=>cond (decide (u=v)) (.ask (decide (0≤i∧i<xs.length)) (.ret (.ptr id [.elt i.toNat u.size]))) .fail
  |_=> .fail
 |.sv id p off len sz n=>cond (Nat.beq sz u.size) (.ask (decide (0≤i∧i<len)) (cond (Nat.beq n 0) (.ret (.ptr id [.elt (off+i.toNat) u.size])) (.ret (.ptr id (p++[.idx (off+i.toNat) u.size n]))))) .fail
 |.v v xs=>(get (castT v (.slice u) xs)).bind fun xs=> .ask (decide (0≤i∧i<xs.length)) (.ret (.iptr u (xs.getD i.toNat u.zero)))
 |_=> .fail
def arrElt (n:Nat) (u:Ty) (x:PV) (i:Int):Q PV:=match x with
 |.ptr id p=> .ask (decide (0≤i∧i<n)) (.ret (.ptr id (p++[.idx i.toNat u.size n])))
 |.iptr v xs=>(get (castT v (.arr n u) xs)).bind fun xs=> .ask (decide (0≤i∧i<n)) (.ret (.iptr u (List.getD (α:=u.den) xs i.toNat u.zero)))
 |_=> .fail
def indexAddrQ (E:Env) (t:Nat) (x i:PV):Q PV:=
 (E.data t).bind fun τ=>(intOf i).bind fun i=>match τ with
  |.slice u=>sliceElt u x i
  |.arr n u=>arrElt n u x i
  |_=> .fail
def indexQ (E:Env) (t:Nat) (x i:PV):Q PV:=
 (E.data t).bind fun τ=>(intOf i).bind fun i=>match τ with
  |.arr n u=>match x with
   |.v v xs=>(get (castT v (.arr n u) xs)).bind fun xs=> .ask (decide (0≤i∧i<n)) (.ret (mk u (List.getD (α:=u.den) xs i.toNat u.zero)))
   |_=> .fail
  |_=> .fail
def bits (op:BinOp) (k:IntKind) (x y:Int):Int:=
 let a:=BitVec.ofInt k.bits x
 let b:=BitVec.ofInt k.bits y
 match op with
 |.and=>k.wrap (a &&& b).toNat
 |.or=>k.wrap (a|||b).toNat
 |.xor=>k.wrap (a ^^^ b).toNat
 |_=>k.wrap (a &&& ~~~b).toNat
def binI (op:BinOp) (k:IntKind) (a b:Int):Q PV:=match op with
 |.add=> .ret (.v (.int k) (k.wrap (a+b)))
 |.sub=> .ret (.v (.int k) (k.wrap (a - b)))
 |.mul=> .ret (.v (.int k) (k.wrap (a*b)))
 |.quo=> .ask (decide (b≠0)) (.ret (.v (.int k) (k.wrap (a.tdiv b))))
 |.rem=> .ask (decide (b≠0)) (.ret (.v (.int k) (a.tmod b)))
 |.eql=> .ret (.v .bool (a==b))
 |.neq=> .ret (.v .bool (a !=b))
 |.lss=> .ret (.v .bool (decide (a<b)))
 |.leq=> .ret (.v .bool (decide (a≤b)))
 |.gtr=> .ret (.v .bool (decide (a>b)))
 |.geq=> .ret (.v .bool (decide (a≥b)))
 |.shl|.shr=> .fail
 |op=> .ret (.v (.int k) (bits op k a b))
def eqQ (op:BinOp) (b:Bool):Q PV:=match op with
 |.eql=> .ret (.v .bool b)
 |.neq=> .ret (.v .bool (!b))
 |_=> .fail
def binQ (E:Env) (op:BinOp) (t:Nat) (x y:PV):Q PV:=match x,y with
 |.v (.int k) a,.v (.int l) b=>match op with
  |.shl=> .ask (decide (0≤(b:Int))) (.ret (.v (.int k) (k.wrap (a*2 ^ min b.toNat k.bits))))
  |.shr=> .ask (decide (0≤(b:Int))) (.ret (.v (.int k) (a.fdiv (2 ^ min b.toNat k.bits))))
  |op=>cond (decide (k=l)) (binI op k a b) .fail
 |.v .str a,.v .str b=>eqQ op (decide (a=b))
 |.v .bool a,.v .bool b=>(E.data t).bind fun τ=>match τ with
  |.bool=>eqQ op (a==b)
  |_=> .fail
 |x,y=>(E.data t).bind fun τ=>cond (E.eqs.any (Nat.beq t) && (τ.plain && τ.agg)) ((dec τ x).bind fun a=>(dec τ y).bind fun b=>eqQ op (τ.beq a b)) .fail
def unQ (op:UnOp) (x:PV):Q PV:=match op,x with
 |.neg,.v (.int k) n=> .ret (.v (.int k) (k.wrap (0 - n)))
 |.xor,.v (.int k) n=> .ret (.v (.int k) (bits .xor k (if k.signed then -1 else k.max) n))
 |.not,.v .bool b=> .ret (.v .bool (!b))
 |_,_=> .fail
def convQ (E:Env) (src dst:Nat) (x:PV):Q PV:=
 (E.data src).bind fun σ=>(E.data dst).bind fun τ=>match τ with
  |.int k=>match x with
   |.v (.int _) n=> .ret (.v (.int k) (k.wrap n))
   |_=> .fail
  |.str=>cond (decide (σ=.slice (.int .u8))) ((dec (.slice (.int .u8)) x).bind fun b=> .ret (.v .str ((b:List Int).map fun n=>UInt8.ofNat n.toNat))) .fail
  |_=> .fail
def putF:(ts:Ty)→List (Nat × PV)→List PV→Nat→Q (List PV)
 |_,[],xs,_=> .ret xs
 |τ,(i,x)::r,xs,n=>match fldTy τ i,fldOff τ i with
  |some u,some o=>(seatT u x n).bind fun x=>match getF xs i o with
   |some old=>cond (fits u x && Nat.beq old.size u.size) (putF τ r (setI xs i x) (n+1)) .fail
   |none=> .fail
  |_,_=> .fail
def putA (t:Ty):List (Nat × PV)→List t.den→Q (List t.den)
 |[],xs=> .ret xs
 |(i,x)::r,xs=>(typed t x).bind fun y=>cond (Nat.blt i xs.length && Nat.beq x.size t.size) (putA t r (xs.set i y)) .fail
def buildQ (E:Env) (t:Nat) (ps:List (Nat × PV)) (nw:Nat):Q PV:=
 (E.data t).bind fun τ=>match τ with
  |.arr n u=>(putA u ps (List.replicate n u.zero)).bind fun xs=> .ret (.v (.arr n u) xs)
  |τ=>(imp τ τ.zero nw).bind fun z=>match z.1 with
   |.agg xs=>(putF τ ps xs z.2).bind fun xs=> .ret (.agg xs)
   |_=> .fail
def buildSliceQ (E:Env) (t n:Nat) (ps:List (Nat × PV)) (nw:Nat):Q PV:=
 (E.elem t).bind fun u=>cond (Nat.ble (n*u.size) 16777216 && Nat.ble 1 u.size) ((putA u ps (List.replicate n u.zero)).bind fun xs=> .new nw (.row u xs false) (.ret (.sl nw))) .fail
def makeSliceQ (E:Env) (t:Nat) (l c:PV) (nw:Nat):Q PV:=
 (E.elem t).bind fun u=>(intOf l).bind fun l=>(intOf c).bind fun c=>
 .ask (decide (0≤l∧l≤c) && lim c.toNat u) (cond (Nat.ble 1 u.size) (.new nw (.row u (List.replicate l.toNat u.zero) false) (.ret (.sl nw))) .fail)
def optInt:Option PV→Int→Q Int
 |none,d=> .ret d
 |some x,_=>intOf x
def cutQ (lo hi:Option PV) (n:Int) (f:Nat→Nat→Q PV):Q PV:=
 (optInt hi n).bind fun h=>(optInt lo 0).bind fun l=> .ask (decide (0≤l∧l≤h∧h≤n)) (f l.toNat h.toNat)
def sliceQ (E:Env) (t:Nat) (x:PV) (lo hi:Option PV):Q PV:=
 (E.data t).bind fun τ=>match τ with
  |.slice u=>cond (Nat.ble 1 u.size) (match x with
   |.v v xs=>(get (castT v (.slice u) xs)).bind fun xs=>cutQ lo hi xs.length fun l h=> .ret (.v (.slice u) ((xs.drop l).take (h - l)))
   |.sl id=> .rd id fun
    |.row v xs _=>cond (decide (u=v)) (cutQ lo hi xs.length fun l h=> .ret (.sv id [] l (h - l) u.size 0)) .fail
    |_=> .fail
   |.sv id p off len sz n=>cond (Nat.beq sz u.size) (cutQ lo hi len fun l h=> .ret (.sv id p (off+l) (h - l) sz n)) .fail
   |_=> .fail) .fail
  |.arr n u=>match x with
   |.ptr id p=>cond (Nat.ble 1 u.size && Nat.ble 1 n) (cutQ lo hi n fun l h=> .ret (.sv id p l (h - l) u.size n)) .fail
   |_=> .fail
  |_=> .fail
def appendTo (u:Ty) (s:PV) (ys:List u.den) (share:Bool) (nw:Nat):Q PV:=match s with
 |.sl id=> .rd id fun
  |.row v xs false=>(get (castT (.slice v) (.slice u) xs)).bind fun xs=> .ask (lim (xs.length+ys.length) u)
    (cond share (.wr id (some (.row u xs true)) (.new nw (.row u (xs++ys) true) (.ret (.sl nw)))) (.wr id none (.new nw (.row u (xs++ys) false) (.ret (.sl nw)))))
  |_=> .fail
 |.sv id p off len sz n=> .rd id fun
  |.row v xs false=>cond (Nat.beq off 0 && Nat.beq n 0 && Nat.beq sz u.size) ((get (castT (.slice v) (.slice u) xs)).bind fun xs=> .ask (lim (len+ys.length) u)
    (.br (decide (len+ys.length≤xs.length)) (.wr id (some (.row u (splice xs len ys) false)) (.ret (.sv id p 0 (len+ys.length) u.size 0)))
     (.wr id none (.new nw (.row u (xs.take len++ys) false) (.ret (.sl nw)))))) .fail
  |_=> .fail
 |_=> .fail
def appendQ (E:Env) (t:Nat) (s y:PV) (share:Bool) (nw:Nat):Q PV:=
 (E.elem t).bind fun u=>cond (Nat.ble 1 u.size) ((dec (.slice u) y).bind fun ys=>(seatT (.slice u) s (nw+1)).bind fun s=>appendTo u s ys share nw) .fail
def appendZQ (E:Env) (t t':Nat) (s y:PV) (share:Bool) (nw:Nat):Q PV:=
 (E.elem t).bind fun u=>(E.data t').bind fun τ=>match τ,y with
  |.int _,.v (.int .i64) n=>cond (Nat.ble 1 u.size) (.ask (decide (0≤(n:Int)) && lim n.toNat u) ((seatT (.slice u) s (nw+1)).bind fun s=>appendTo u s (List.replicate n.toNat u.zero) share nw)) .fail
  |_,_=> .fail
def copyTo (u:Ty) (d:PV) (ys:List u.den):Q PV:=match d with
 |.sl id=> .rd id fun
  |.row v xs false=>(get (castT (.slice v) (.slice u) xs)).bind fun xs=> .wr id (some (.row u (splice xs 0 (ys.take xs.length)) false)) (.ret (.v (.int .i64) (min ys.length xs.length:Nat)))
  |_=> .fail
 |.sv id p off len sz n=> .rd id fun
  |.row v xs false=>cond (Nat.beq sz u.size && Nat.beq n 0) ((get (castT (.slice v) (.slice u) xs)).bind fun xs=> .wr id (some (.row u (splice xs off (ys.take len)) false)) (.ret (.v (.int .i64) (min ys.length len:Nat)))) .fail
  |.box x=>match getP p x with
   |some (.v (.arr m v) xs)=>cond (Nat.beq m n && Nat.beq sz u.size && u.flat && !Nat.beq n 0) ((get (castT (.slice v) (.slice u) xs)).bind fun xs=>match setP p x (.v (.arr n u) (splice xs off (ys.take len))) with
    |some z=> .wr id (some (.box z)) (.ret (.v (.int .i64) (min ys.length len:Nat)))
    |none=> .fail) .fail
   |_=> .fail
  |_=> .fail
 |_=> .fail
def copyQ (E:Env) (t:Nat) (d s:PV):Q PV:=
 (E.elem t).bind fun u=>(dec (.slice u) s).bind fun ys=>copyTo u d ys
def clearQ (E:Env) (t:Nat) (d:PV):Q PV:=
 (E.elem t).bind fun u=>match d with
  |.sv id _ off len sz n=> .rd id fun
   |.row v xs false=>cond (Nat.beq sz u.size && Nat.beq n 0) ((get (castT (.slice v) (.slice u) xs)).bind fun xs=> .wr id (some (.row u (splice xs off (List.replicate len u.zero)) false)) (.ret .undef)) .fail
   |_=> .fail
  |_=> .fail
def lenQ (E:Env) (t:Nat) (x:PV):Q PV:=
 (E.data t).bind fun τ=>match τ with
  |.slice u=>(match x with
   |.sl id=> .rd id fun
    |.row _ xs _=> .ret (.v (.int .i64) (xs.length:Int))
    |_=> .fail
   |.sv _ _ _ len _ _=> .ret (.v (.int .i64) (len:Int))
   |.v v xs=>(get (castT v (.slice u) xs)).bind fun xs=> .ret (.v (.int .i64) (xs.length:Int))
   |.nils=> .ret (.v (.int .i64) (0:Int))
   |_=> .fail)
  |.arr n _=> .ret (.v (.int .i64) (n:Int))
  |_=> .fail
def builtinQ (E:Env) (b:Builtin) (ts:List Nat) (args:List PV) (share:Bool) (nw:Nat):Q PV:=
 match b,ts,args with
 |.len,[t],[x]=>lenQ E t x
 |.append,[t,t'],[s,y]=>cond (Nat.beq t t') (appendQ E t s y share nw) (appendZQ E t t' s y share nw)
 |.copy,t::_,[d,s]=>copyQ E t d s
 |.clear,t::_,[d]=>clearQ E t d
 |.min,_,[.v (.int k) a,.v (.int l) b]=>cond (decide (k=l)) (.ret (.v (.int k) (min a b:Int))) .fail
 |.max,_,[.v (.int k) a,.v (.int l) b]=>cond (decide (k=l)) (.ret (.v (.int k) (max a b:Int))) .fail
 |_,_,_=> .fail
def hasImm (t:Ty) (own:Bool):Bool:=match own,t with
 |false,t=>!t.flat
 |true,.slice u=>!u.flat
 |true,.pair a b=>hasImm a true||hasImm b true
 |true,.arr _ u=>!u.flat
 |true,_=>false
def Sig.needs (s:Sig):Bool:=
 s.rs.any (fun r=>hasImm r.1 r.2)||s.ps.any fun
  |.io t own=>hasImm t own
  |.mu t=>!t.flat
  |.eat t=>!t.flat
  |.clo _ t=>!t.flat
  |_=>false
def ioTy:List PK→Ty
 |[]=> .unit
 |.val _::r=>ioTy r
 |.fn _::r=>ioTy r
 |.io t _::r=> .pair t (ioTy r)
 |.mu t::r=> .pair (.slice t) (ioTy r)
 |.eat t::r=> .pair (.slice t) (ioTy r)
 |.clo _ t::r=> .pair t (ioTy r)
def boxIO (t:Ty) (own:Bool) (x:PV):Q t.den:=match x with
 |.ptr id []=> .rd id fun
   |.box c=>(dec t c).bind fun a=> .wr id none ((cond own (eat c) (frz c)).bind fun _=> .ret a)
   |_=> .fail
 |_=> .fail
def rowIO (t:Ty) (x:PV):Q (List t.den):=match x with
 |.sl id=> .rd id fun
   |.row u ys false=>(get (castT (.slice u) (.slice t) ys)).bind fun a=> .wr id none (.ret a)
   |_=> .fail
 |_=> .fail
def fnIO (f:Nat) (x:PV):Q Unit:=match x with
 |.fn g []=>cond (Nat.beq f g) (.ret ()) .fail
 |_=> .fail
def eatIO (t:Ty) (x:PV):Q (List t.den):=match x with
 |.nils=> .ret []
 |x=>rowIO t x
def cloIO (f:Nat) (t:Ty) (x:PV):Q t.den:=match x with
 |.fn g [.ptr id p]=>cond (Nat.beq f g) (boxIO t false (.ptr id p)) .fail
 |_=> .fail
def takeIO:(ps:List PK)→List PV→Q (ioTy ps).den
 |[],xs=>match xs with
  |[]=> .ret ()
  |_::_=> .fail
 |.val _::r,xs=>match xs with
  |_::xs=>takeIO r xs
  |[]=> .fail
 |.fn f::r,xs=>match xs with
  |x::xs=>(fnIO f x).bind fun _=>takeIO r xs
  |[]=> .fail
 |.io t own::r,xs=>match xs with
  |x::xs=>(boxIO t own x).bind fun a=>(takeIO r xs).bind fun b=> .ret (a,b)
  |[]=> .fail
 |.mu t::r,xs=>match xs with
  |x::xs=>(rowIO t x).bind fun a=>(takeIO r xs).bind fun b=> .ret (a,b)
  |[]=> .fail
 |.eat t::r,xs=>match xs with
  |x::xs=>(eatIO t x).bind fun a=>(takeIO r xs).bind fun b=> .ret (a,b)
  |[]=> .fail
 |.clo f t::r,xs=>match xs with
  |x::xs=>(cloIO f t x).bind fun a=>(takeIO r xs).bind fun b=> .ret (a,b)
  |[]=> .fail
def takeV:(ps:List PK)→List PV→(ioTy ps).den→Q (argTy ps).den
 |[],_,_=> .ret ()
 |.val t::r,xs,y=>match xs with
  |x::xs=>(dec t x).bind fun a=>(takeV r xs y).bind fun b=> .ret (a,b)
  |[]=> .fail
 |.io _ _::r,xs,y=>(takeV r xs.tail y.2).bind fun b=> .ret (y.1,b)
 |.mu _::r,xs,y=>(takeV r xs.tail y.2).bind fun b=> .ret (y.1,b)
 |.fn _::r,xs,y=>takeV r xs.tail y
 |.eat _::r,xs,y=>(takeV r xs.tail y.2).bind fun b=> .ret (y.1,b)
 |.clo _ _::r,xs,y=>(takeV r xs.tail y.2).bind fun b=> .ret (y.1,b)
def frzArgs:List PK→List PV→Q Unit
 |[],_=> .ret ()
 |.val _::r,xs=>match xs with
  |x::xs=>(frz x).bind fun _=>frzArgs r xs
  |[]=> .ret ()
 |.io _ _::r,xs=>frzArgs r xs.tail
 |.mu _::r,xs=>frzArgs r xs.tail
 |.fn _::r,xs=>frzArgs r xs.tail
 |.eat _::r,xs=>frzArgs r xs.tail
 |.clo _ _::r,xs=>frzArgs r xs.tail
def impO (t:Ty) (own:Bool) (y:t.den) (n:Nat):Q (PV × Nat):=cond own (imp t y n) (.ret (mk t y,n))
def takeRes:(rs:List (Ty × Bool))→(resTy rs).den→Nat→Q (List PV)
 |[],_,_=> .ret []
 |(t,own)::r,y,n=>(impO t own y.1 n).bind fun p=>(takeRes r y.2 p.2).bind fun q=> .ret (p.1::q)
def backBox (t:Ty) (own:Bool) (x:PV) (y:t.den) (n:Nat):Q Nat:=match x with
 |.ptr id _=>(impO t own y n).bind fun p=> .wr id (some (.box p.1)) (.ret p.2)
 |_=> .fail
def backClo (t:Ty) (x:PV) (y:t.den) (n:Nat):Q Nat:=match x with
 |.fn _ [p]=>backBox t false p y n
 |_=> .fail
def backRow (t:Ty) (x:PV) (y:List t.den):Q Unit:=match x with
 |.sl id=> .wr id (some (.row t y false)) (.ret ())
 |_=> .fail
def back:(ps:List PK)→(rs:List (Ty × Bool))→List PV→(outTy ps rs).den→Nat→Q (List PV)
 |[],rs,_,y,n=>takeRes rs y n
 |.io t own::r,rs,xs,y,n=>match xs with
  |x::xs=>(backBox t own x y.1 n).bind fun n=>back r rs xs y.2 n
  |[]=> .fail
 |.mu t::r,rs,xs,y,n=>match xs with
  |x::xs=>(backRow t x y.1).bind fun _=>back r rs xs y.2 n
  |[]=> .fail
 |.val _::r,rs,xs,y,n=>back r rs xs.tail y n
 |.fn _::r,rs,xs,y,n=>back r rs xs.tail y n
 |.eat _::r,rs,xs,y,n=>back r rs xs.tail y n
 |.clo _ t::r,rs,xs,y,n=>match xs with
  |x::xs=>(backClo t x y.1 n).bind fun n=>back r rs xs y.2 n
  |[]=> .fail
def pack:List PV→PV
 |[x]=>x
 |xs=> .tup xs
def callQ (f:Fun) (args:List PV) (nw:Nat):Q PV:=
 (takeIO f.sig.ps args).bind fun y=>(takeV f.sig.ps args y).bind fun a=>
 (cond f.sig.needs (frzArgs f.sig.ps args) (.ret ())).bind fun _=>
 .opt (f.F a) fun y=>(back f.sig.ps f.sig.rs args y nw).bind fun l=> .ret (pack l)
def int64:PV→Q Int
 |.v (.int .i64) n=> .ret n
 |_=> .fail
def cmpB:List Int→List Int→Int
 |[],[]=>0
 |[],_::_=> -1
 |_::_,[]=>1
 |x::xs,y::ys=>bif Nat.blt (x.toNat % 256) (y.toNat % 256) then -1 else bif Nat.blt (y.toNat % 256) (x.toNat % 256) then 1 else cmpB xs ys
def ownRow (u:Ty) (x:PV):Q (List u.den):=match x with
 |.sl id=> .rd id fun
  |.row t xs false=>(get (castT (.slice t) (.slice u) xs)).bind fun xs=> .wr id none (.ret xs)
  |_=> .fail
 |_=> .fail
def primQ (p:Prim) (args:List PV) (nw:Nat):Q PV:=match p with
 |.clone u=>match args with
  |[x]=>(dec (.slice u) x).bind fun ys=> .ask (lim (List.length (α:=u.den) ys) u) (cond (Nat.ble 1 u.size) (.new nw (.row u ys false) (.ret (.sl nw))) .fail)
  |_=> .fail
 |.ins u=>match args with
  |[x,i,v]=>(ownRow u x).bind fun xs=>(int64 i).bind fun i=>(dec (.slice u) v).bind fun ys=>
   .ask (decide (0≤i∧i≤xs.length) && lim (xs.length+List.length (α:=u.den) ys) u) (cond (Nat.ble 1 u.size) (.new nw (.row u (xs.take i.toNat++ys++xs.drop i.toNat) false) (.ret (.sl nw))) .fail)
  |_=> .fail
 |.del u=>match args with
  |[x,i,j]=>(ownRow u x).bind fun xs=>(int64 i).bind fun i=>(int64 j).bind fun j=>
   .ask (decide (0≤i∧i≤j∧j≤xs.length)) (cond (Nat.ble 1 u.size) (.new nw (.row u (xs.take i.toNat++xs.drop j.toNat) false) (.ret (.sl nw))) .fail)
  |_=> .fail
 |.grow u=>match args with
  |[.nils,n]=>(int64 n).bind fun n=> .ask (decide (0≤n) && lim n.toNat u) (cond (Nat.ble 1 u.size) (.new nw (.row u [] false) (.ret (.sl nw))) .fail)
  |_=> .fail
 |.cmp=>match args with
  |[x,y]=>(dec (.slice (.int .u8)) x).bind fun xs=>(dec (.slice (.int .u8)) y).bind fun ys=> .ret (.v (.int .i64) (cmpB xs ys))
  |_=> .fail
structure St where
 tm:List (Nat × PV)
 hp:Hp
 nx:Nat
 io:List PV
def cst:Value→Option PV
 |.int k n=>some (.v (.int k) n)
 |.bool b=>some (.v .bool b)
 |.string s=>some (.v .str s.data.toList)
 |.slice none 0 0=>some .nils
 |_=>none
def opd (gl tm:List (Nat × PV)):Operand→Option PV
 |.tmp t=>look t tm
 |.const v=>cst v
 |.func f=>some (.fn f [])
 |.global g=>look g gl
def opds (gl tm:List (Nat × PV)):List Operand→Option (List PV)
 |[]=>some []
 |x::xs=>(opd gl tm x).bind fun a=>(opds gl tm xs).bind fun b=>some (a::b)
def partsQ (gl tm:List (Nat × PV)):List (Nat × Operand)→Option (List (Nat × PV))
 |[]=>some []
 |(i,x)::xs=>(opd gl tm x).bind fun a=>(partsQ gl tm xs).bind fun b=>some ((i,a)::b)
def oopd (gl tm:List (Nat × PV)):Option Operand→Option (Option PV)
 |none=>some none
 |some x=>(opd gl tm x).map some
def seatI (E:Env) (t:Nat) (x:PV) (nw:Nat):Q PV:=match x with
 |.nils=>(get (E.tab t)).bind fun τ=>seat τ x nw
 |x=> .ret x
def ptrs (xs:List PV):Bool:=xs.all fun
 |.ptr _ _=>true
 |_=>false
def opQ (E:Env) (tm:List (Nat × PV)) (o:Oper) (nw:Nat):Q PV:=match o.op with
 |.move x|.assign x=>(get (opd E.globs tm x)).bind fun x=>seatI E o.type x nw
 |.pick c a b=>(get (opd E.globs tm c)).bind fun c=>match c with
  |.v .bool t=> .br t ((get (opd E.globs tm a)).bind fun x=>seatI E o.type x nw) ((get (opd E.globs tm b)).bind fun x=>seatI E o.type x nw)
  |_=> .fail
 |.alloc t=>(E.data t).bind fun τ=>(imp τ τ.zero (nw+1)).bind fun p=> .new nw (.box p.1) (.ret (.ptr nw []))
 |.box t x=>(get (E.tab t)).bind fun τ=>(get (opd E.globs tm x)).bind fun x=>(seat τ x (nw+1)).bind fun x=>cond (fitsI τ x) (.new nw (.box x) (.ret (.ptr nw []))) .fail
 |.build t ps=>(get (partsQ E.globs tm ps.toList)).bind fun ps=>buildQ E t ps nw
 |.buildSlice t n ps=>(get (partsQ E.globs tm ps.toList)).bind fun ps=>buildSliceQ E t n ps nw
 |.load t a=>(get (opd E.globs tm a)).bind fun a=>loadQ E t a
 |.store t a y=>(get (opd E.globs tm a)).bind fun a=>(get (opd E.globs tm y)).bind fun y=>storeQ E t a y nw
 |.nilCheck x=>(get (opd E.globs tm x)).bind fun x=>match x with
  |.ptr id p=> .ret (.ptr id p)
  |.iptr t x=> .ret (.iptr t x)
  |_=> .fail
 |.binOp op t x y _=>(get (opd E.globs tm x)).bind fun x=>(get (opd E.globs tm y)).bind fun y=>binQ E op t x y
 |.unOp op _ x=>(get (opd E.globs tm x)).bind fun x=>unQ op x
 |.convert s t x=>(get (opd E.globs tm x)).bind fun x=>convQ E s t x
 |.makeSlice t l c=>(get (opd E.globs tm l)).bind fun l=>(get (opd E.globs tm c)).bind fun c=>makeSliceQ E t l c nw
 |.slice t x lo hi mx=>cond mx.isNone ((get (opd E.globs tm x)).bind fun x=>(get (oopd E.globs tm lo)).bind fun lo=>(get (oopd E.globs tm hi)).bind fun hi=>sliceQ E t x lo hi) .fail
 |.fieldAddr t x i=>(get (opd E.globs tm x)).bind fun x=>fieldAddrQ E t x i
 |.indexAddr t x i=>(get (opd E.globs tm x)).bind fun x=>(get (opd E.globs tm i)).bind fun i=>indexAddrQ E t x i
 |.index t x i=>(get (opd E.globs tm x)).bind fun x=>(get (opd E.globs tm i)).bind fun i=>indexQ E t x i
 |.makeFunc f first caps=>match f with
  |.func f=>cond first.toList.isEmpty ((get (opds E.globs tm caps.toList)).bind fun xs=>cond (ptrs xs) (.ret (.fn f xs)) .fail) .fail
  |_=> .fail
 |.extract x i=>(get (opd E.globs tm x)).bind fun x=>match x with
  |.tup xs=>get xs[i]?
  |_=> .fail
 |.call c=>(get (opds E.globs tm c.args.toList)).bind fun args=>match c.callee with
  |.builtin b=>builtinQ E b c.argTypes.toList args (match o.dst with|some d=>E.share.any (Nat.beq d)|none=>false) nw
  |.value f=>(get (opd E.globs tm f)).bind fun f=>match f with
   |.fn g caps=>match look g E.prim with
    |some p=>cond caps.isEmpty (primQ p args nw) .fail
    |none=>(get (E.fns g)).bind fun f=>cond (ptrs caps) (callQ f (args++caps) nw) .fail
   |_=> .fail
  |_=> .fail
 |_=> .fail
inductive It where
 |code (c:Code)|blk (id:Nat)|lp (b:Code)|join
inductive DT (ρ:Type):Type 1 where
 |fail
 |done (x:ρ)
 |cut (its:List It) (st:St)
 |br (b:Bool) (x y:DT ρ)
 |opt {β:Type} (o:Option β) (k:β→DT ρ)
def DT.ev {ρ:Type} (f:List It→St→Option ρ):DT ρ→Option ρ
 |.fail=>none
 |.done x=>some x
 |.cut its st=>f its st
 |.br b x y=>cond b (x.ev f) (y.ev f)
 |.opt o k=>o.bind fun v=>(k v).ev f
def Q.toD {α ρ:Type}:Q α→Hp→List Nat→List Nat→(α→Hp→List Nat→List Nat→DT ρ)→DT ρ
 |.ret a,h,r,w,K=>K a h r w
 |.fail,_,_,_,_=> .fail
 |.rd id k,h,r,w,K=>match h.at id with
  |some b=>(k b).toD h (id::r) w K
  |none=> .fail
 |.wr id b k,h,r,w,K=>match look id h with
  |some _=>k.toD ((id,b)::h) r (id::w) K
  |none=> .fail
 |.new id b k,h,r,w,K=>match look id h with
  |some _=> .fail
  |none=>k.toD ((id,some b)::h) r (id::w) K
 |.ask b k,h,r,w,K=> .br b (k.toD h r w K) .fail
 |.br b x y,h,r,w,K=> .br b (x.toD h r w K) (y.toD h r w K)
 |.opt o k,h,r,w,K=> .opt o fun x=>(k x).toD h r w K
def putT (tm:List (Nat × PV)) (d:Option Nat) (x:PV):List (Nat × PV):=match d with
 |some d=>(d,x)::tm
 |none=>tm
def dstOf (ops:List Oper) (j:Nat):Option Nat:=(ops[j]?).bind (·.dst)
def opD {ρ:Type} (E:Env) (all:List Oper) (o:Oper) (nw:Nat) (tm:List (Nat × PV)) (hp:Hp) (K:List (Nat × PV)→Hp→List Nat→List Nat→DT ρ):DT ρ:=
 match o.guard with
 |none=>(opQ E tm o nw).toD hp [] [] fun x hp r w=>K (putT tm o.dst x) hp r w
 |some (j,want)=>match dstOf all j with
  |none=> .fail
  |some d=>match look d tm with
   |some (.v .bool b)=>match want with
    |true=> .br b ((opQ E ((d,.v .bool true)::tm) o nw).toD hp [] [] fun x hp r w=>K (putT ((d,.v .bool true)::tm) o.dst x) hp r w)
      (K (putT ((d,.v .bool false)::tm) o.dst .undef) hp [] [])
    |false=> .br b (K (putT ((d,.v .bool true)::tm) o.dst .undef) hp [] [])
      ((opQ E ((d,.v .bool false)::tm) o nw).toD hp [] [] fun x hp r w=>K (putT ((d,.v .bool false)::tm) o.dst x) hp r w)
   |some .undef=>K (putT tm o.dst .undef) hp [] []
   |_=> .fail
def opsD {ρ:Type} (E:Env) (all:List Oper):List Oper→Nat→List (Nat × PV)→Hp→List (List Nat × List Nat)→(List (Nat × PV)→Hp→List (List Nat × List Nat)→DT ρ)→DT ρ
 |[],_,tm,hp,fp,K=>K tm hp fp
 |o::os,nw,tm,hp,fp,K=>opD E all o nw tm hp fun tm hp r w=>opsD E all os (nw+64) tm hp (fp++[(r,w)]) K
def binds (e:Edge):Bool:=match e.ground with
 |.textOnly _|.gcOnly _=>false
 |_=>true
def maskE:List Edge→List Nat→Nat
 |[],_=>0
 |e::r,ms=>cond (binds e) (Nat.lor (Nat.lor (Nat.shiftLeft 1 e.on) (ms.getD e.on 0)) (maskE r ms)) (maskE r ms)
def masks:List Oper→List Nat→List Nat
 |[],ms=>ms
 |o::os,ms=>masks os (ms++[maskE o.after.toList ms])
def apartL (xs ys:List Nat):Bool:=!(xs.any fun x=>ys.any (Nat.beq x))
def fpApart (x y:List Nat × List Nat):Bool:=apartL x.2 y.1 && apartL x.2 y.2 && apartL x.1 y.2
def drawOne (all:List Oper) (m:Nat) (oj:Oper) (fj:List Nat × List Nat):List Oper→List (List Nat × List Nat)→Nat→Bool
 |o::os,f::fs,i=>(Nat.testBit m i||(o.apart all.toArray oj && fpApart f fj)) && drawOne all m oj fj os fs (i+1)
 |_,_,_=>true
def drawAll (all:List Oper) (fps:List (List Nat × List Nat)) (ms:List Nat):List Oper→List (List Nat × List Nat)→Nat→Bool
 |o::os,f::fs,j=>drawOne all (ms.getD j 0) o f (all.take j) fps 0 && drawAll all fps ms os fs (j+1)
 |_,_,_=>true
def drawOk (ops:List Oper) (fps:List (List Nat × List Nat)):Bool:=drawAll ops fps (masks ops []) ops fps 0
def bit (t:Nat):Nat:=Nat.shiftLeft 1 t
def has (m t:Nat):Bool:=Nat.testBit m t
def minusBit (m t:Nat):Nat:=cond (has m t) (m - bit t) m
def usesO:List Operand→Nat
 |[]=>0
 |.tmp t::r=>Nat.lor (bit t) (usesO r)
 |_::r=>usesO r
def liveOps (all:List Oper):List Oper→Nat→Nat
 |[],m=>m
 |o::r,m=>
  let m:=liveOps all r m
  let m:=match o.dst with|some d=>minusBit m d|none=>m
  let m:=Nat.lor m (usesO o.op.operands.toList)
  match o.guard with
  |some (j,_)=>match dstOf all j with|some d=>Nat.lor m (bit d)|none=>m
  |none=>m
def liveC (ret:Nat):Code→(Nat→Nat)→Nat→Nat
 |.skip,_,m=>m
 |.region _ ops _,_,m=>liveOps ops.toList ops.toList m
 |.seq a b,ex,m=>liveC ret a ex (liveC ret b ex m)
 |.cond c a b,ex,m=>Nat.lor (usesO [c]) (Nat.lor (liveC ret a ex m) (liveC ret b ex m))
 |.block id b,ex,m=>liveC ret b (fun i=>cond (Nat.beq i id) m (ex i)) m
 |.loop b,ex,_=>liveC ret b ex 0
 |.exit id,ex,_=>ex id
 |.scope b,ex,m=>liveC ret b ex m
 |.ret,_,_=>ret
 |_,_,m=>m
def liveI (ret:Nat):List It→Nat × (Nat→Nat)
 |[]=>(ret,fun _=>0)
 |it::k=>
  let r:=liveI ret k
  match it with
  |.code c=>(liveC ret c r.2 r.1,r.2)
  |.blk id=>(r.1,fun i=>cond (Nat.beq i id) r.1 (r.2 i))
  |.lp b=>(liveC ret b r.2 0,r.2)
  |.join=>r
mutual
def idsV:PV→List Nat→List Nat
 |.sl id,acc=>cond (acc.any (Nat.beq id)) acc (acc++[id])
 |.sv id _ _ _ _ _,acc=>cond (acc.any (Nat.beq id)) acc (acc++[id])
 |.ptr id _,acc=>cond (acc.any (Nat.beq id)) acc (acc++[id])
 |.agg xs,acc=>idsL xs acc
 |.tup xs,acc=>idsL xs acc
 |.fn _ xs,acc=>idsL xs acc
 |_,acc=>acc
def idsL:List PV→List Nat→List Nat
 |[],acc=>acc
 |x::xs,acc=>idsL xs (idsV x acc)
end
def idsT:List (Nat × PV)→List Nat→List Nat
 |[],acc=>acc
 |(_,x)::r,acc=>idsT r (idsV x acc)
def idsB (hp:Hp):List Nat→List Nat→List Nat
 |[],acc=>acc
 |i::r,acc=>match hp.at i with
  |some (.box x)=>idsB hp r (idsV x acc)
  |_=>idsB hp r acc
def pos (i:Nat):List Nat→Nat→Option Nat
 |[],_=>none
 |j::r,n=>cond (Nat.beq i j) (some n) (pos i r (n+1))
mutual
def renV (l:List Nat):PV→Option PV
 |.sl id=>(pos id l 0).map .sl
 |.sv id p o n s m=>(pos id l 0).map fun i=> .sv i p o n s m
 |.ptr id p=>(pos id l 0).map fun i=> .ptr i p
 |.agg xs=>(renL l xs).map .agg
 |.tup xs=>(renL l xs).map .tup
 |.fn f xs=>(renL l xs).map (.fn f)
 |x=>some x
def renL (l:List Nat):List PV→Option (List PV)
 |[]=>some []
 |x::xs=>(renV l x).bind fun a=>(renL l xs).bind fun b=>some (a::b)
end
def renT (l:List Nat):List (Nat × PV)→Option (List (Nat × PV))
 |[]=>some []
 |(t,x)::r=>(renV l x).bind fun a=>(renT l r).bind fun b=>some ((t,a)::b)
def renB (l:List Nat):Blk→Option Blk
 |.box x=>(renV l x).map .box
 |.row t xs f=>some (.row t xs f)
def renH (hp:Hp) (l:List Nat):List Nat→Nat→Option Hp
 |[],_=>some []
 |i::r,n=>match hp.at i with
  |some b=>(renB l b).bind fun b=>(renH hp l r (n+1)).bind fun h=>some ((n,some b)::h)
  |none=>(renH hp l r (n+1)).bind fun h=>some ((n,none)::h)
def keepT (m:Nat) (tm:List (Nat × PV)):Nat→Nat→List (Nat × PV)
 |0,_=>[]
 |k+1,t=>cond (has m t) (match look t tm with
   |some x=>(t,x)::keepT m tm k (t+1)
   |none=>keepT m tm k (t+1)) (keepT m tm k (t+1))
def nodupB:List Nat→Bool
 |[]=>true
 |i::r=>!(r.any (Nat.beq i)) && nodupB r
def norm (nt m:Nat) (st:St):Option St:=
 let tm:=keepT m st.tm nt 0
 let l:=idsT tm (idsL st.io [])
 let l:=idsB st.hp l l
 let l:=idsB st.hp l l
 let l:=idsB st.hp l l
 cond (nodupB l) ((renT l tm).bind fun tm=>(renH st.hp l l 0).bind fun hp=>(renL l st.io).bind fun io=>some ⟨tm,hp,l.length,io⟩) none
def exitI (id:Nat):List It→Option (List It)
 |[]=>none
 |.blk j::k=>cond (Nat.beq id j) (some k) (exitI id k)
 |_::k=>exitI id k
def litC (tm:List (Nat × PV)):Operand→Bool→List (Nat × PV)
 |.tmp t,b=>(t,.v .bool b)::tm
 |_,_=>tm
structure Cx (ρ:Type) where
 E:Env
 nt:Nat
 ret:Nat
 fin:St→DT ρ
 finR:St→DT ρ
def seg {ρ:Type} (C:Cx ρ):Nat→List It→St→DT ρ
 |0,_,_=> .fail
 |_+1,[],st=>C.fin st
 |n+1,it::k,st=>match it with
  |.blk _=>seg C n k st
  |.join=>match norm C.nt (liveI C.ret k).1 st with
   |some st=> .cut k st
   |none=> .fail
  |.lp b=>match norm C.nt (liveI C.ret (.lp b::k)).1 st with
   |some st=> .cut (.code b::.lp b::k) st
   |none=> .fail
  |.code c=>match c with
   |.skip=>seg C n k st
   |.seq a b=>seg C n (.code a::.code b::k) st
   |.block id b=>seg C n (.code b::.blk id::k) st
   |.loop b=>seg C n (.lp b::k) st
   |.exit id=>match exitI id k with
    |some k=>seg C n k st
    |none=> .fail
   |.ret=>C.finR st
   |.cond c a b=>match opd C.E.globs st.tm c with
    |some (.v .bool t)=> .br t (seg C n (.code a::.join::k) ⟨litC st.tm c true,st.hp,st.nx,st.io⟩) (seg C n (.code b::.join::k) ⟨litC st.tm c false,st.hp,st.nx,st.io⟩)
    |_=> .fail
   |.region _ ops draw=>opsD C.E ops.toList ops.toList st.nx st.tm st.hp [] fun tm hp fp=>
    cond (!draw||drawOk ops.toList fp) (seg C n k ⟨tm,hp,st.nx+64*ops.size,st.io⟩) .fail
   |_=> .fail
def run {ρ:Type} (C:Cx ρ):Nat→List It→St→Option ρ
 |0,_,_=>none
 |n+1,its,st=>(seg C 100000 its st).ev (run C n)
def lm {ρ:Type} (g:Nat→Option ρ):Option ρ:=open Classical in if h:∃r n,g n=some r then some h.choose else none
def res {ρ:Type} (C:Cx ρ) (its:List It) (st:St):Option ρ:=lm fun n=>run C n its st
def start:(ps:List PK)→(argTy ps).den→Nat→Nat→Q (List (Nat × PV) × List PV × Nat)
 |[],_,_,n=> .ret ([],[],n)
 |.val t::r,x,i,n=>(start r x.2 (i+1) n).bind fun q=> .ret ((i,mk t x.1)::q.1,q.2)
 |.io t own::r,x,i,n=>(cond own (imp t x.1 (n+1)) (.ret (mk t x.1,n+1))).bind fun p=> .new n (.box p.1) ((start r x.2 (i+1) p.2).bind fun q=> .ret ((i,.ptr n [])::q.1,.ptr n []::q.2.1,q.2.2))
 |.mu t::r,x,i,n=> .new n (.row t x.1 false) ((start r x.2 (i+1) (n+1)).bind fun q=> .ret ((i,.sl n)::q.1,.sl n::q.2.1,q.2.2))
 |.fn f::r,x,i,n=>(start r x (i+1) n).bind fun q=> .ret ((i,.fn f [])::q.1,q.2)
 |.eat t::r,x,i,n=> .new n (.row t x.1 false) ((start r x.2 (i+1) (n+1)).bind fun q=> .ret ((i,.sl n)::q.1,q.2))
 |.clo f t::r,x,i,n=> .new n (.box (mk t x.1)) ((start r x.2 (i+1) (n+1)).bind fun q=> .ret ((i,.fn f [.ptr n []])::q.1,.ptr n []::q.2.1,q.2.2))
def give (t:Ty) (own:Bool) (x:PV):Q t.den:=cond own ((dec t x).bind fun y=>(eat x).bind fun _=> .ret y) (typed t x)
def resV (st:St):ResultVar→Q PV
 |.tmp t=>get (look t st.tm)
 |.cell t _=>match look t st.tm with
  |some (.ptr id [])=> .rd id fun
   |.box x=> .ret x
   |_=> .fail
  |_=> .fail
def gives (st:St):(rs:List (Ty × Bool))→List ResultVar→Q (resTy rs).den
 |[],[]=> .ret ()
 |(t,own)::r,v::vs=>(resV st v).bind fun x=>(give t own x).bind fun y=>(gives st r vs).bind fun q=> .ret (y,q)
 |_,_=> .fail
def outBox (t:Ty) (own:Bool) (x:PV):Q t.den:=match x with
 |.ptr id _=> .rd id fun
   |.box c=> .wr id none (give t own c)
   |_=> .fail
 |_=> .fail
def outs (st:St) (rs:List (Ty × Bool)) (vs:List ResultVar):(ps:List PK)→List PV→Q (outTy ps rs).den
 |[],_=>gives st rs vs
 |.val _::r,l=>outs st rs vs r l
 |.fn _::r,l=>outs st rs vs r l
 |.eat _::r,l=>outs st rs vs r l
 |.clo _ t::r,l=>match l with
  |x::l=>(outBox t false x).bind fun y=>(outs st rs vs r l).bind fun q=> .ret (y,q)
  |[]=> .fail
 |.io t own::r,l=>match l with
  |x::l=>(outBox t own x).bind fun y=>(outs st rs vs r l).bind fun q=> .ret (y,q)
  |[]=> .fail
 |.mu t::r,l=>match l with
  |x::l=>(rowIO t x).bind fun y=>(outs st rs vs r l).bind fun q=> .ret (y,q)
  |[]=> .fail
def retMask:List ResultVar→Nat
 |[]=>0
 |.tmp t::r=>Nat.lor (bit t) (retMask r)
 |.cell t _::r=>Nat.lor (bit t) (retMask r)
def cxOf (E:Env) (s:Sig) (fn:Func):Cx (outTy s.ps s.rs).den where
 E:=E
 nt:=fn.ntmps
 ret:=retMask fn.results.toList
 fin:=fun st=>(outs st s.rs fn.results.toList s.ps st.io).toD st.hp [] [] fun y _ _ _=> .done y
 finR:=fun st=>(outs st s.rs fn.results.toList s.ps st.io).toD st.hp [] [] fun y _ _ _=> .done y
def body (fn:Func):Code:=match fn.body with
 |some c=>c
 |none=> .skip
def entry (E:Env) (s:Sig) (fn:Func) (x:(argTy s.ps).den):DT (outTy s.ps s.rs).den:=
 (start s.ps x 0 0).toD [] [] [] fun q hp _ _=>seg (cxOf E s fn) 100000 [.code (body fn)] ⟨q.1,hp,q.2.2,q.2.1⟩
def fnOf (E:Env) (s:Sig) (fn:Func):Fun:=⟨s,fun x=>(entry E s fn x).ev (res (cxOf E s fn))⟩
def focus:Code→List Nat→List It→Code × List It
 |.seq a b,0::p,k=>focus a p (.code b::k)
 |.seq _ b,1::p,k=>focus b p k
 |.block id b,0::p,k=>focus b p (.blk id::k)
 |.loop b,0::p,k=>focus b p (.lp b::k)
 |.cond _ a _,0::p,k=>focus a p (.join::k)
 |.cond _ _ b,1::p,k=>focus b p (.join::k)
 |c,_,k=>(c,k)
def atLoop (c:Code) (p:List Nat):List It:=match focus c p [] with
 |(.loop b,k)=> .code b::.lp b::k
 |_=>[]
def atJoin (c:Code) (p:List Nat):List It:=(focus c p []).2
end
end Go.Proofs.YtkihjakbbcajbaaGreat.PM
namespace Go.Proofs.YtkihjakbbcajbaaGreat.PM
set_option linter.unusedSimpArgs false
set_option linter.unusedVariables false
open Go
theorem DT.ev_mono {ρ:Type} {f g:List It→St→Option ρ} (h:∀its st r,f its st=some r→g its st=some r):
  ∀(d:DT ρ) (r:ρ),d.ev f=some r→d.ev g=some r
 |.fail,_,e=>by simp [DT.ev] at e
 |.done _,_,e=>e
 |.cut its st,r,e=>h its st r e
 |.br b x y,r,e=>by
  cases b
  ·exact DT.ev_mono h y r e
  ·exact DT.ev_mono h x r e
 |.opt o k,r,e=>by
  cases o with
  |none=>simp [DT.ev] at e
  |some v=>exact DT.ev_mono h (k v) r e
theorem run_step {ρ:Type} (C:Cx ρ):∀(n:Nat) (its:List It) (st:St) (r:ρ),run C n its st=some r→run C (n+1) its st=some r
 |0,_,_,_,e=>by simp [run] at e
 |n+1,its,st,r,e=>DT.ev_mono (run_step C n) (seg C 100000 its st) r e
theorem run_mono {ρ:Type} (C:Cx ρ) {n m:Nat} (h:n≤m) {its:List It} {st:St} {r:ρ} (e:run C n its st=some r):run C m its st=some r:=by
 induction h with
 |refl=>exact e
 |step _ ih=>exact run_step C _ its st r ih
theorem lm_some {ρ:Type} {g:Nat→Option ρ} (hm:∀n m r,n≤m→g n=some r→g m=some r) {n:Nat} {r:ρ} (h:g n=some r):lm g=some r:=by
 have hx:∃r n,g n=some r:=⟨r,n,h⟩
 unfold lm
 rw [dif_pos hx]
 obtain ⟨m,hm'⟩:=hx.choose_spec
 have h1:=hm m (max n m) _ (Nat.le_max_right _ _) hm'
 have h2:=hm n (max n m) _ (Nat.le_max_left _ _) h
 rw [h1] at h2
 exact h2
theorem lm_out {ρ:Type} {g:Nat→Option ρ} {r:ρ} (h:lm g=some r):∃n,g n=some r:=by
 unfold lm at h
 split at h
 ·rename_i hx
  obtain ⟨m,hm⟩:=hx.choose_spec
  have:hx.choose=r:=by injection h
  exact ⟨m,this▸hm⟩
 ·cases h
theorem res_some {ρ:Type} {C:Cx ρ} {n:Nat} {its:List It} {st:St} {r:ρ} (h:run C n its st=some r):res C its st=some r:=
 lm_some (g:=fun n=>run C n its st) (fun _ _ _ hl e=>run_mono C hl e) h
theorem res_out {ρ:Type} {C:Cx ρ} {its:List It} {st:St} {r:ρ} (h:res C its st=some r):∃n,run C n its st=some r:=lm_out h
theorem ev_res {ρ:Type} (C:Cx ρ):∀(d:DT ρ) (r:ρ),d.ev (res C)=some r→∃n,d.ev (run C n)=some r
 |.fail,_,e=>by simp [DT.ev] at e
 |.done _,_,e=>⟨0,e⟩
 |.cut _ _,_,e=>res_out e
 |.br b x y,r,e=>by
  cases b
  ·exact ev_res C y r e
  ·exact ev_res C x r e
 |.opt o k,r,e=>by
  cases o with
  |none=>simp [DT.ev] at e
  |some v=>exact ev_res C (k v) r e
theorem res_eq0 {ρ:Type} (C:Cx ρ) (its:List It) (st:St):res C its st=(seg C 100000 its st).ev (res C):=by
 cases h:(seg C 100000 its st).ev (res C) with
 |some r=>
  obtain ⟨n,hn⟩:=ev_res C _ r h
  exact res_some (n:=n+1) hn
 |none=>
  cases hr:res C its st with
  |none=>rfl
  |some r=>
   obtain ⟨n,hn⟩:=res_out hr
   cases n with
   |zero=>simp [run] at hn
   |succ n=>
    have:=DT.ev_mono (fun its st r e=>res_some e) _ r (show (seg C 100000 its st).ev (run C n)=some r from hn)
    rw [h] at this;cases this
theorem res_eq {ρ:Type} {C:Cx ρ} {its:List It} {st:St} {o:Option ρ} (h:(seg C 100000 its st).ev (res C)=o):res C its st=o:=(res_eq0 C its st).trans h
end Go.Proofs.YtkihjakbbcajbaaGreat.PM
namespace Go.Proofs.YtkihjakbbcajbaaGreat.PM
set_option linter.unusedSimpArgs false
set_option linter.unusedVariables false
open Go
def At (w:World) (a:Addr) (c:List Value):Prop:=∀j v,c[j]?=some v→w.cell? (a.add j)=some v
def Cat {α:Type} (P:List Value→α→Prop):List Value→List α→Prop
 |cs,[]=>cs=[]
 |cs,x::xs=>∃c d,cs=c++d∧P c x∧Cat P d xs
def TRel (A:Nat→Prop) (w:World):(t:Ty)→List Value→t.den→Prop
 |.int k,cs,x=>cs=[.int k x]
 |.bool,cs,x=>cs=[.bool x]
 |.str,cs,x=>∃s:ByteArray,cs=[.string s]∧s.data.toList=x
 |.unit,cs,_=>cs=[]
 |.pair a b,cs,x=>∃c d,cs=c++d∧TRel A w a c x.1∧TRel A w b d x.2
 |.arr n t,cs,x=>List.length (α:=t.den) x=n∧Cat (TRel A w t) cs x
 |.slice t,cs,x=>∃a cap,cs=[.slice a (List.length (α:=t.den) x) cap]∧List.length (α:=t.den) x≤cap∧
   (0<List.length (α:=t.den) x→∃ad:Addr,a=some ad∧ad.spot=none∧A ad.block∧∃c,At w ad c∧Cat (TRel A w t) c x)
theorem Cat.mono {α:Type} {P R:List Value→α→Prop} (h:∀c x,P c x→R c x):∀{cs:List Value} {xs:List α},Cat P cs xs→Cat R cs xs
 |_,[],e=>e
 |_,_::_,⟨c,d,e,p,r⟩=>⟨c,d,e,h c _ p,r.mono h⟩
theorem Cat.len {α:Type} {P:List Value→α→Prop} {s:Nat} (h:∀c x,P c x→c.length=s):∀{cs:List Value} {xs:List α},Cat P cs xs→cs.length=xs.length*s
 |_,[],e=>by cases e;simp
 |_,_::_,⟨c,d,e,p,r⟩=>by
  have:=r.len h;have:=h c _ p;subst e
  simp only [List.length_append,List.length_cons,Nat.succ_mul];omega
theorem Cat.append {α:Type} {P:List Value→α→Prop}:∀{cs ds:List Value} {xs ys:List α},Cat P cs xs→Cat P ds ys→Cat P (cs++ds) (xs++ys)
 |_,_,[],_,e,r=>by cases e;exact r
 |_,_,_::_,_,⟨c,d,e,p,q⟩,r=>⟨c,_,by rw [e,List.append_assoc],p,q.append r⟩
theorem Cat.split {α:Type} {P:List Value→α→Prop} {s:Nat} (h:∀c x,P c x→c.length=s):∀{cs:List Value} {xs ys:List α},Cat P cs (xs++ys)→
  Cat P (cs.take (xs.length*s)) xs∧Cat P (cs.drop (xs.length*s)) ys
 |cs,[],ys,e=>by simpa [Cat] using e
 |_,x::xs,ys,⟨c,d,e,p,q⟩=>by
  obtain ⟨i1,i2⟩:=Cat.split h q
  have hc:=h c x p
  subst e
  have e1:(x::xs).length*s=c.length+xs.length*s:=by rw [hc];simp only [List.length_cons,Nat.succ_mul];omega
  rw [e1,List.take_length_add_append,List.drop_length_add_append]
  exact ⟨⟨c,_,rfl,p,i1⟩,i2⟩
theorem Cat.take {α:Type} {P:List Value→α→Prop} {s:Nat} (h:∀c x,P c x→c.length=s) {cs:List Value} {xs:List α} (r:Cat P cs xs) (n:Nat) (hn:n≤xs.length):Cat P (cs.take (n*s)) (xs.take n):=by
 have r':Cat P cs (xs.take n++xs.drop n):=by rwa [List.take_append_drop]
 have:=(Cat.split h r').1
 rwa [List.length_take,Nat.min_eq_left hn] at this
theorem Cat.drop {α:Type} {P:List Value→α→Prop} {s:Nat} (h:∀c x,P c x→c.length=s) {cs:List Value} {xs:List α} (r:Cat P cs xs) (n:Nat) (hn:n≤xs.length):Cat P (cs.drop (n*s)) (xs.drop n):=by
 have r':Cat P cs (xs.take n++xs.drop n):=by rwa [List.take_append_drop]
 have:=(Cat.split h r').2
 rwa [List.length_take,Nat.min_eq_left hn] at this
theorem Cat.nth {α:Type} {P:List Value→α→Prop} {s:Nat} (h:∀c x,P c x→c.length=s) {cs:List Value} {xs:List α} (r:Cat P cs xs) {i:Nat} (hi:i<xs.length):P ((cs.drop (i*s)).take s) xs[i]:=by
 have:=Cat.drop h r i (by omega)
 rw [List.drop_eq_getElem_cons hi] at this
 obtain ⟨c,d,e,p,_⟩:=this
 rw [e,←h c _ p,List.take_left]
 exact p
theorem Cat.one {α:Type} {P:List Value→α→Prop} {c:List Value} {x:α} (h:P c x):Cat P c [x]:=⟨c,[],by simp,h,rfl⟩
theorem Cat.replicate {α:Type} {P:List Value→α→Prop} {c:List Value} {x:α} (h:P c x):∀n:Nat,Cat P (List.replicate n c).flatten (List.replicate n x)
 |0=>rfl
 |n+1=>⟨c,(List.replicate n c).flatten,by rw [List.replicate_succ,List.flatten_cons],h,Cat.replicate h n⟩
theorem TRel.len {A:Nat→Prop} {w:World}:∀(t:Ty) (cs:List Value) (x:t.den),TRel A w t cs x→cs.length=t.size
 |.int _,_,_,e=>by cases e;rfl
 |.bool,_,_,e=>by cases e;rfl
 |.str,_,_,⟨_,e,_⟩=>by cases e;rfl
 |.unit,_,_,e=>by cases e;rfl
 |.pair a b,_,x,⟨c,d,e,h1,h2⟩=>by
  subst e;rw [List.length_append,TRel.len a c x.1 h1,TRel.len b d x.2 h2];rfl
 |.arr n t,_,x,⟨h1,h2⟩=>by
  rw [Cat.len (TRel.len t) h2,h1];rfl
 |.slice t,_,_,⟨_,_,e,_⟩=>by cases e;rfl
theorem At.mono {w w':World} {a:Addr} {c:List Value} (h:w'.heap[a.block]?=w.heap[a.block]?) (r:At w a c):At w' a c:=fun j v e=>by
 have:=r j v e
 rw [←this]
 have hb:(a.add j).block=a.block:=by unfold Addr.add;split<;>rfl
 unfold World.cell?
 rw [hb,h]
theorem TRel.mono {A A':Nat→Prop} {w w':World} (hA:∀r,A r→A' r) (hw:∀r,A r→w'.heap[r]?=w.heap[r]?):
  ∀(t:Ty) (cs:List Value) (x:t.den),TRel A w t cs x→TRel A' w' t cs x
 |.int _,_,_,e=>e
 |.bool,_,_,e=>e
 |.str,_,_,e=>e
 |.unit,_,_,e=>e
 |.pair a b,_,x,⟨c,d,e,h1,h2⟩=>⟨c,d,e,TRel.mono hA hw a c x.1 h1,TRel.mono hA hw b d x.2 h2⟩
 |.arr n t,_,x,⟨h1,h2⟩=>⟨h1,h2.mono (TRel.mono hA hw t)⟩
 |.slice t,_,_,⟨a,cap,e,h1,h2⟩=>⟨a,cap,e,h1,fun hl=>by
   obtain ⟨ad,e1,e2,e3,c,e4,e5⟩:=h2 hl
   exact ⟨ad,e1,e2,hA _ e3,c,e4.mono (hw _ e3),e5.mono (TRel.mono hA hw t)⟩⟩
theorem TRel.flat {A A':Nat→Prop} {w w':World}:∀(t:Ty) (cs:List Value) (x:t.den),t.flat=true→TRel A w t cs x→TRel A' w' t cs x
 |.int _,_,_,_,e=>e
 |.bool,_,_,_,e=>e
 |.str,_,_,_,e=>e
 |.unit,_,_,_,e=>e
 |.pair a b,_,x,hf,⟨c,d,e,h1,h2⟩=>by
  have hf':a.flat=true∧b.flat=true:=by simpa [Ty.flat] using hf
  exact ⟨c,d,e,TRel.flat a c x.1 hf'.1 h1,TRel.flat b d x.2 hf'.2 h2⟩
 |.arr n t,_,x,hf,⟨h1,h2⟩=>⟨h1,h2.mono (fun c x=>TRel.flat t c x hf)⟩
theorem Cat.all {α:Type} {P:List Value→α→Prop} {C:Value→Prop} (h:∀c x,P c x→∀v∈c,C v):∀{cs:List Value} {xs:List α},Cat P cs xs→∀v∈cs,C v
 |_,[],e=>by cases e;simp
 |_,_::_,⟨c,d,e,p,r⟩=>by
  intro v hv;rw [e] at hv
  rcases List.mem_append.1 hv with hv|hv
  ·exact h c _ p v hv
  ·exact r.all h v hv
theorem TRel.one {A:Nat→Prop} {w:World}:∀(t:Ty) (cs:List Value) (x:t.den),TRel A w t cs x→∀v∈cs,v.oneCell'=true
 |.int _,_,_,e=>by cases e;simp [Value.oneCell']
 |.bool,_,_,e=>by cases e;simp [Value.oneCell']
 |.str,_,_,⟨_,e,_⟩=>by cases e;simp [Value.oneCell']
 |.unit,_,_,e=>by cases e;simp
 |.pair a b,_,x,⟨c,d,e,h1,h2⟩=>by
  intro v hv;rw [e] at hv
  rcases List.mem_append.1 hv with hv|hv
  ·exact TRel.one a c x.1 h1 v hv
  ·exact TRel.one b d x.2 h2 v hv
 |.arr n t,_,x,⟨_,h2⟩=>h2.all (TRel.one t)
 |.slice t,_,_,⟨_,_,e,_⟩=>by cases e;simp [Value.oneCell']
structure Slot where
 blk:Option Nat
 cap:Nat
 len:Nat
abbrev Gh:=Nat→Option Slot
def aggP:PV→Bool
 |.agg _=>true
 |.v t _=>t.agg
 |_=>false
def pok (len:Nat):List Stp→Prop
 |[]=>True
 |.fld _ _::p=>pok len p
 |.idx i _ n::p=>i<n∧pok len p
 |.elt i _::p=>i<len∧pok len p
def SlV (s:Slot) (v:Value):Prop:=match s.blk with
 |some b=>v=.slice (some ⟨b,0,none⟩) s.len s.cap
 |none=>v=.slice none 0 0∧s.len=0∧s.cap=0
def SvV (s:Slot) (p:List Stp) (off len sz n:Nat) (v:Value):Prop:=
 pok s.len p∧off+len≤(if n=0 then s.len else n)∧(n=0→p=[])∧(s.blk=none→s.len=0∧s.cap=0∧n=0)∧∃a cap,v=.slice a len cap∧len≤cap∧(n=0∧off=0→cap=s.cap)∧
  ((0<len∨off=0)→a=s.blk.map fun b=>⟨b,poff p+off*sz,none⟩)
section
variable (g:Gh) (A:Nat→Prop) (w:World)
mutual
def PV.rel:PV→List Value→Prop
 |.v t x,cs=>TRel A w t cs x
 |.agg xs,cs=>rels xs cs
 |.sl i,cs=>∃s v,g i=some s∧cs=[v]∧SlV s v
 |.sv i p off len sz n,cs=>∃s v,g i=some s∧cs=[v]∧SvV s p off len sz n v
 |.ptr i p,cs=>∃s b,g i=some s∧s.blk=some b∧cs=[.pointer (some ⟨b,poff p,none⟩)]∧pok s.len p
 |.iptr t x,cs=>∃a c,cs=[.pointer (some a)]∧a.spot=none∧A a.block∧At w a c∧TRel A w t c x
 |.nils,cs=>cs=[.slice none 0 0]
 |.fn f caps,cs=>∃vs,cs=[.func (.func f) #[] vs]∧rels caps vs.toList
 |.tup xs,cs=>∃vs,cs=[.tuple vs]∧tups xs vs.toList
 |.undef,cs=>cs=[Go.undef]
def rels:List PV→List Value→Prop
 |[],cs=>cs=[]
 |x::xs,cs=>∃c d,cs=c++d∧x.rel c∧rels xs d
def tups:List PV→List Value→Prop
 |[],vs=>vs=[]
 |x::xs,vs=>∃v r,vs=v::r∧(match aggP x with
   |true=>∃cs,v=.agg cs∧x.rel cs.toList
   |false=>x.rel [v])∧tups xs r
end
def VRel (x:PV) (v:Value):Prop:=match aggP x with
 |true=>∃cs,v=.agg cs∧x.rel g A w cs.toList
 |false=>x.rel g A w [v]
end
def Gh.le (g g':Gh):Prop:=∀i s,g i=some s→g' i=some s
section
variable {g g':Gh} {A A':Nat→Prop} {w w':World}
mutual
theorem PV.rel_mono (hg:g.le g') (hA:∀r,A r→A' r) (hw:∀r,A r→w'.heap[r]?=w.heap[r]?):∀(x:PV) (cs:List Value),x.rel g A w cs→x.rel g' A' w' cs
 |.v t x,cs,h=>by unfold PV.rel at*;exact TRel.mono hA hw t cs x h
 |.agg xs,cs,h=>by unfold PV.rel at*;exact rels_mono hg hA hw xs cs h
 |.sl i,cs,h=>by unfold PV.rel at*;obtain ⟨s,v,h1,h2⟩:=h;exact ⟨s,v,hg _ _ h1,h2⟩
 |.sv i p off len sz n,cs,h=>by unfold PV.rel at*;obtain ⟨s,v,h1,h2⟩:=h;exact ⟨s,v,hg _ _ h1,h2⟩
 |.ptr i p,cs,h=>by unfold PV.rel at*;obtain ⟨s,b,h1,h2⟩:=h;exact ⟨s,b,hg _ _ h1,h2⟩
 |.iptr t x,cs,h=>by
  unfold PV.rel at*;obtain ⟨a,c,h1,h2,h3,h4,h5⟩:=h
  exact ⟨a,c,h1,h2,hA _ h3,h4.mono (hw _ h3),TRel.mono hA hw t c x h5⟩
 |.nils,cs,h=>by unfold PV.rel at*;exact h
 |.fn f caps,cs,h=>by unfold PV.rel at*;obtain ⟨vs,h1,h2⟩:=h;exact ⟨vs,h1,rels_mono hg hA hw caps vs.toList h2⟩
 |.tup xs,cs,h=>by unfold PV.rel at*;obtain ⟨vs,h1,h2⟩:=h;exact ⟨vs,h1,tups_mono hg hA hw xs vs.toList h2⟩
 |.undef,cs,h=>by unfold PV.rel at*;exact h
theorem rels_mono (hg:g.le g') (hA:∀r,A r→A' r) (hw:∀r,A r→w'.heap[r]?=w.heap[r]?):∀(xs:List PV) (cs:List Value),rels g A w xs cs→rels g' A' w' xs cs
 |[],cs,h=>by unfold rels at*;exact h
 |x::xs,cs,h=>by
  unfold rels at*;obtain ⟨c,d,h1,h2,h3⟩:=h
  exact ⟨c,d,h1,PV.rel_mono hg hA hw x c h2,rels_mono hg hA hw xs d h3⟩
theorem tups_mono (hg:g.le g') (hA:∀r,A r→A' r) (hw:∀r,A r→w'.heap[r]?=w.heap[r]?):∀(xs:List PV) (cs:List Value),tups g A w xs cs→tups g' A' w' xs cs
 |[],cs,h=>by unfold tups at*;exact h
 |x::xs,cs,h=>by
  unfold tups at*;obtain ⟨v,r,h1,h2,h3⟩:=h
  refine ⟨v,r,h1,?_,tups_mono hg hA hw xs r h3⟩
  cases hx:aggP x with
  |true=>rw [hx] at h2;obtain ⟨cs,e,h2⟩:=h2;exact ⟨cs,e,PV.rel_mono hg hA hw x _ h2⟩
  |false=>rw [hx] at h2;exact PV.rel_mono hg hA hw x _ h2
end
theorem VRel.mono (hg:g.le g') (hA:∀r,A r→A' r) (hw:∀r,A r→w'.heap[r]?=w.heap[r]?) {x:PV} {v:Value} (h:VRel g A w x v):VRel g' A' w' x v:=by
 unfold VRel at*
 cases hx:aggP x with
 |true=>rw [hx] at h;obtain ⟨cs,e,h2⟩:=h;exact ⟨cs,e,PV.rel_mono hg hA hw x _ h2⟩
 |false=>rw [hx] at h;exact PV.rel_mono hg hA hw x _ h
mutual
theorem PV.rel_len:∀(x:PV) (cs:List Value),x.rel g A w cs→cs.length=x.size
 |.v t x,cs,h=>by unfold PV.rel at h;unfold PV.size;exact TRel.len t cs x h
 |.agg xs,cs,h=>by unfold PV.rel at h;unfold PV.size;exact rels_len xs cs h
 |.sl i,cs,h=>by unfold PV.rel at h;obtain ⟨s,v,_,rfl,_⟩:=h;rfl
 |.sv i p off len sz n,cs,h=>by unfold PV.rel at h;obtain ⟨s,v,_,rfl,_⟩:=h;rfl
 |.ptr i p,cs,h=>by unfold PV.rel at h;obtain ⟨s,b,_,_,rfl,_⟩:=h;rfl
 |.iptr t x,cs,h=>by unfold PV.rel at h;obtain ⟨a,c,rfl,_⟩:=h;rfl
 |.nils,cs,h=>by unfold PV.rel at h;cases h;rfl
 |.fn f caps,cs,h=>by unfold PV.rel at h;obtain ⟨vs,rfl,_⟩:=h;rfl
 |.tup xs,cs,h=>by unfold PV.rel at h;obtain ⟨vs,rfl,_⟩:=h;rfl
 |.undef,cs,h=>by unfold PV.rel at h;cases h;rfl
theorem rels_len:∀(xs:List PV) (cs:List Value),rels g A w xs cs→cs.length=sizes xs
 |[],cs,h=>by unfold rels at h;cases h;rfl
 |x::xs,cs,h=>by
  unfold rels at h;obtain ⟨c,d,rfl,h2,h3⟩:=h
  rw [List.length_append,PV.rel_len x c h2,rels_len xs d h3];rfl
end
mutual
theorem mk_rel:∀(t:Ty) (x:t.den) (cs:List Value),TRel A w t cs x→(mk t x).rel g A w cs
 |.pair a b,x,cs,h=>by
  obtain ⟨c,d,e,h1,h2⟩:=h
  unfold mk PV.rel rels
  exact ⟨c,d,e,mk_rel a x.1 c h1,mks_rel b x.2 d h2⟩
 |.unit,_,cs,h=>by unfold mk PV.rel rels;exact h
 |.int _,_,_,h=>by unfold mk PV.rel;exact h
 |.bool,_,_,h=>by unfold mk PV.rel;exact h
 |.str,_,_,h=>by unfold mk PV.rel;exact h
 |.arr _ _,_,_,h=>by unfold mk PV.rel;exact h
 |.slice _,_,_,h=>by unfold mk PV.rel;exact h
theorem mks_rel:∀(t:Ty) (x:t.den) (cs:List Value),TRel A w t cs x→rels g A w (mks t x) cs
 |.pair a b,x,cs,h=>by
  obtain ⟨c,d,e,h1,h2⟩:=h
  unfold mks rels
  exact ⟨c,d,e,mk_rel a x.1 c h1,mks_rel b x.2 d h2⟩
 |.unit,_,cs,h=>by unfold mks rels;exact h
 |.int k,x,cs,h=>by unfold mks rels PV.rel;exact ⟨cs,[],by simp,h,by unfold rels;rfl⟩
 |.bool,x,cs,h=>by unfold mks rels PV.rel;exact ⟨cs,[],by simp,h,by unfold rels;rfl⟩
 |.str,x,cs,h=>by unfold mks rels PV.rel;exact ⟨cs,[],by simp,h,by unfold rels;rfl⟩
 |.arr n t,x,cs,h=>by unfold mks rels PV.rel;exact ⟨cs,[],by simp,h,by unfold rels;rfl⟩
 |.slice t,x,cs,h=>by unfold mks rels PV.rel;exact ⟨cs,[],by simp,h,by unfold rels;rfl⟩
end
theorem isAgg_mk:∀(t:Ty) (x:t.den),aggP (mk t x)=t.agg
 |.pair a b,x=>by unfold mk;rfl
 |.unit,_=>by unfold mk;rfl
 |.int _,_=>by unfold mk;rfl
 |.bool,_=>by unfold mk;rfl
 |.str,_=>by unfold mk;rfl
 |.arr _ _,_=>by unfold mk;rfl
 |.slice _,_=>by unfold mk;rfl
theorem cast_some {t u:Ty} {x:t.den} {y:u.den} (h:castT t u x=some y):∃e:t=u,e▸x=y:=by
 unfold castT at h
 split at h
 ·rename_i e;exact ⟨e,by injection h⟩
 ·cases h
theorem cast_self {t:Ty} {x y:t.den} (h:castT t t x=some y):x=y:=by
 obtain ⟨_,e⟩:=cast_some h
 exact e
theorem getF_rel:∀(xs:List PV) (i o:Nat) (cs:List Value) (x:PV),rels g A w xs cs→getF xs i o=some x→∃pre ys post,cs=pre++ys++post∧pre.length=o∧x.rel g A w ys∧xs[i]?=some x
 |[],_,_,_,_,_,e=>by simp [getF] at e
 |x::xs,0,o,cs,y,h,e=>by
  unfold rels at h;obtain ⟨c,d,rfl,h2,h3⟩:=h
  unfold getF at e
  cases ho:Nat.beq o 0 with
  |false=>rw [ho] at e;cases e
  |true=>
   rw [ho] at e
   have:o=0:=Nat.eq_of_beq_eq_true ho
   subst this
   injection e with e;subst e
   exact ⟨[],c,d,by simp,rfl,h2,rfl⟩
 |x::xs,i+1,o,cs,y,h,e=>by
  unfold rels at h;obtain ⟨c,d,rfl,h2,h3⟩:=h
  unfold getF at e
  cases ho:Nat.ble x.size o with
  |false=>rw [ho] at e;cases e
  |true=>
   rw [ho] at e
   have hle:x.size≤o:=Nat.le_of_ble_eq_true ho
   obtain ⟨pre,ys,post,e1,e2,e3,e4⟩:=getF_rel xs i (o - x.size) d y h3 e
   have hl:=PV.rel_len x c h2
   exact ⟨c++pre,ys,post,by rw [e1];simp [List.append_assoc],by rw [List.length_append];omega,e3,by simpa using e4⟩
theorem getD_eq {α:Type} (xs:List α) (i:Nat) (d:α) (h:i<xs.length):xs.getD i d=xs[i]:=by simp [List.getD,h]
theorem cut3 {α:Type} (cs:List α) (k s:Nat):cs=cs.take k++(cs.drop k).take s++cs.drop (k+s):=by
 rw [List.append_assoc,←List.drop_drop,List.take_append_drop,List.take_append_drop]
theorem getP_rel {L:Nat}:∀(p:List Stp) (x y:PV) (cs:List Value),x.rel g A w cs→pok L p→getP p x=some y→∃pre ys post,cs=pre++ys++post∧pre.length=poff p∧y.rel g A w ys
 |[],x,y,cs,h,_,e=>by
  unfold getP at e;injection e with e;subst e
  exact ⟨[],cs,[],by simp,rfl,h⟩
 |.fld i o::p,x,y,cs,h,hp,e=>by
  obtain ⟨xs,rfl⟩:∃xs,x=.agg xs:=by
   cases x with
   |agg xs=>exact ⟨xs,rfl⟩
   |_=>simp [getP] at e
  simp only [getP] at e
  rw [Option.bind_eq_some_iff] at e
  obtain ⟨z,e1,e2⟩:=e
  unfold PV.rel at h
  obtain ⟨pre,ys,post,q1,q2,q3,_⟩:=getF_rel xs i o cs z h e1
  obtain ⟨pre',ys',post',r1,r2,r3⟩:=getP_rel p z y ys q3 hp e2
  exact ⟨pre++pre',ys',post'++post,by rw [q1,r1];simp [List.append_assoc],by rw [List.length_append,q2,r2];rfl,r3⟩
 |.idx i s n::p,x,y,cs,h,hp,e=>by
  obtain ⟨m,t,xs,rfl⟩:∃m t,∃xs:(Ty.arr m t).den,x=.v (.arr m t) xs:=by
   cases x with
   |v t xs=>
    cases t with
    |arr m t=>exact ⟨m,t,xs,rfl⟩
    |_=>simp [getP] at e
   |_=>simp [getP] at e
  simp only [getP] at e
  cases hc:(Nat.beq m n && Nat.beq s t.size) with
  |false=>rw [hc] at e;cases e
  |true=>
   rw [hc] at e
   rw [Bool.and_eq_true] at hc
   have h1:m=n:=Nat.eq_of_beq_eq_true hc.1
   have h2:s=t.size:=Nat.eq_of_beq_eq_true hc.2
   unfold PV.rel at h
   obtain ⟨hl,hcat⟩:=h
   have hi:i<List.length (α:=t.den) xs:=by rw [hl,h1];exact hp.1
   have hn:=Cat.nth (TRel.len t) hcat hi
   have e':getP p (mk t (List.getD (α:=t.den) xs i t.zero))=some y:=e
   rw [getD_eq (α:=t.den) xs i _ hi] at e'
   obtain ⟨pre',ys',post',r1,r2,r3⟩:=getP_rel p _ y _ (mk_rel t _ _ hn) hp.2 e'
   have hcl:=Cat.len (TRel.len t) hcat
   refine ⟨cs.take (i*t.size)++pre',ys',post'++cs.drop (i*t.size+t.size),?_,?_,r3⟩
   ·have:=cut3 cs (i*t.size) t.size
    rw [r1] at this
    simpa only [List.append_assoc] using this
   ·rw [List.length_append,r2,List.length_take,Nat.min_eq_left (by
     rw [hcl];exact Nat.mul_le_mul_right _ (by omega))]
    subst h2;rfl
 |.elt i s::p,x,y,cs,h,hp,e=>by
  cases x<;>simp [getP] at e
mutual
theorem flatV_rel:∀(t:Ty) (x:PV) (y:t.den) (cs:List Value),x.rel g A w cs→flatV t x=some y→TRel A w t cs y
 |.pair a b,x,y,cs,h,e=>by
  cases x with
  |agg xs=>
   cases xs with
   |nil=>simp [flatV] at e
   |cons x xs=>
    simp only [flatV,Option.bind_eq_some_iff] at e
    obtain ⟨p,e1,q,e2,e3⟩:=e
    injection e3 with e3;subst e3
    unfold PV.rel rels at h
    obtain ⟨c,d,rfl,h1,h2⟩:=h
    exact ⟨c,d,rfl,flatV_rel a x p c h1 e1,flatVs_rel b xs q d h2 e2⟩
  |v u z=>
   simp only [flatV] at e
   obtain ⟨rfl,rfl⟩:=cast_some e
   unfold PV.rel at h;exact h
  |_=>simp [flatV] at e
 |.unit,x,y,cs,h,e=>by
  cases x with
  |agg xs=>
   cases xs with
   |nil=>unfold PV.rel rels at h;exact h
   |cons x xs=>simp [flatV] at e
  |v u z=>
   simp only [flatV] at e
   obtain ⟨rfl,rfl⟩:=cast_some e
   unfold PV.rel at h;exact h
  |_=>simp [flatV] at e
 |.int k,x,y,cs,h,e=>by
  cases x with
  |v u z=>simp only [flatV] at e;obtain ⟨rfl,rfl⟩:=cast_some e;unfold PV.rel at h;exact h
  |_=>simp [flatV] at e
 |.bool,x,y,cs,h,e=>by
  cases x with
  |v u z=>simp only [flatV] at e;obtain ⟨rfl,rfl⟩:=cast_some e;unfold PV.rel at h;exact h
  |_=>simp [flatV] at e
 |.str,x,y,cs,h,e=>by
  cases x with
  |v u z=>simp only [flatV] at e;obtain ⟨rfl,rfl⟩:=cast_some e;unfold PV.rel at h;exact h
  |_=>simp [flatV] at e
 |.arr n t,x,y,cs,h,e=>by
  cases x with
  |v u z=>simp only [flatV] at e;obtain ⟨rfl,rfl⟩:=cast_some e;unfold PV.rel at h;exact h
  |_=>simp [flatV] at e
 |.slice t,x,y,cs,h,e=>by
  cases x with
  |v u z=>simp only [flatV] at e;obtain ⟨rfl,rfl⟩:=cast_some e;unfold PV.rel at h;exact h
  |_=>simp [flatV] at e
theorem flatVs_rel:∀(t:Ty) (xs:List PV) (y:t.den) (cs:List Value),rels g A w xs cs→flatVs t xs=some y→TRel A w t cs y
 |.pair a b,xs,y,cs,h,e=>by
  cases xs with
  |nil=>simp [flatVs] at e
  |cons x xs=>
   simp only [flatVs,Option.bind_eq_some_iff] at e
   obtain ⟨p,e1,q,e2,e3⟩:=e
   injection e3 with e3;subst e3
   unfold rels at h
   obtain ⟨c,d,rfl,h1,h2⟩:=h
   exact ⟨c,d,rfl,flatV_rel a x p c h1 e1,flatVs_rel b xs q d h2 e2⟩
 |.unit,xs,y,cs,h,e=>by
  cases xs with
  |nil=>unfold rels at h;exact h
  |cons x xs=>simp [flatVs] at e
 |.int _,_,_,_,_,e=>by simp [flatVs] at e
 |.bool,_,_,_,_,e=>by simp [flatVs] at e
 |.str,_,_,_,_,e=>by simp [flatVs] at e
 |.arr _ _,_,_,_,_,e=>by simp [flatVs] at e
 |.slice _,_,_,_,_,e=>by simp [flatVs] at e
end
theorem setI_rel:∀(xs:List PV) (i o:Nat) (cs:List Value) (x z:PV) (zs:List Value),rels g A w xs cs→getF xs i o=some x→z.rel g A w zs→zs.length=x.size→
  ∃pre ys post,cs=pre++ys++post∧pre.length=o∧x.rel g A w ys∧rels g A w (setI xs i z) (pre++zs++post)
 |[],_,_,_,_,_,_,_,e,_,_=>by simp [getF] at e
 |x::xs,0,o,cs,y,z,zs,h,e,hz,hl=>by
  unfold rels at h;obtain ⟨c,d,rfl,h2,h3⟩:=h
  unfold getF at e
  cases ho:Nat.beq o 0 with
  |false=>rw [ho] at e;cases e
  |true=>
   rw [ho] at e
   have:o=0:=Nat.eq_of_beq_eq_true ho
   subst this
   injection e with e;subst e
   exact ⟨[],c,d,by simp,rfl,h2,by unfold setI rels;exact ⟨zs,d,by simp,hz,h3⟩⟩
 |x::xs,i+1,o,cs,y,z,zs,h,e,hz,hl=>by
  unfold rels at h;obtain ⟨c,d,rfl,h2,h3⟩:=h
  unfold getF at e
  cases ho:Nat.ble x.size o with
  |false=>rw [ho] at e;cases e
  |true=>
   rw [ho] at e
   have hle:x.size≤o:=Nat.le_of_ble_eq_true ho
   obtain ⟨pre,ys,post,e1,e2,e3,e4⟩:=setI_rel xs i (o - x.size) d y z zs h3 e hz hl
   have hl:=PV.rel_len x c h2
   exact ⟨c++pre,ys,post,by rw [e1];simp [List.append_assoc],by rw [List.length_append];omega,e3,by
    unfold setI rels;exact ⟨c,_,by simp [List.append_assoc],h2,e4⟩⟩
theorem Cat.set {α:Type} {P:List Value→α→Prop} {s:Nat} (h:∀c x,P c x→c.length=s) {cs:List Value} {xs:List α} (r:Cat P cs xs) {i:Nat} (hi:i<xs.length) {c:List Value} {x:α} (hx:P c x):
  Cat P (cs.take (i*s)++c++cs.drop (i*s+s)) (xs.set i x):=by
 have h1:=Cat.take h r i (by omega)
 have h2:=Cat.drop h r (i+1) (by omega)
 rw [Nat.succ_mul] at h2
 rw [List.set_eq_take_append_cons_drop,if_pos hi]
 have:=(h1.append (Cat.one hx)).append h2
 simpa using this
theorem setP_rel {L:Nat}:∀(p:List Stp) (x y z x':PV) (cs zs:List Value),x.rel g A w cs→pok L p→getP p x=some y→setP p x z=some x'→z.rel g A w zs→zs.length=y.size→
  ∃pre ys post,cs=pre++ys++post∧pre.length=poff p∧ys.length=zs.length∧x'.rel g A w (pre++zs++post)
 |[],x,y,z,x',cs,zs,h,_,e,e',hz,hl=>by
  unfold getP at e;injection e with e;subst e
  unfold setP at e';injection e' with e';subst e'
  exact ⟨[],cs,[],by simp,rfl,by rw [hl,PV.rel_len x cs h],by simpa using hz⟩
 |.fld i o::p,x,y,z,x',cs,zs,h,hp,e,e',hz,hl=>by
  obtain ⟨xs,rfl⟩:∃xs,x=.agg xs:=by
   cases x with
   |agg xs=>exact ⟨xs,rfl⟩
   |_=>simp [getP] at e
  simp only [getP] at e
  rw [Option.bind_eq_some_iff] at e
  obtain ⟨u,e1,e2⟩:=e
  simp only [setP,Option.bind_eq_some_iff] at e'
  obtain ⟨u',f1,u2,f2,f3⟩:=e'
  injection f3 with f3;subst f3
  unfold PV.rel at h
  obtain ⟨pre0,ys0,post0,q1,q2,q3,q4⟩:=getF_rel xs i o cs u h e1
  rw [q4] at f1;injection f1 with f1;subst f1
  obtain ⟨pre',ys',post',r1,r2,r3,r4⟩:=setP_rel p u y z u2 ys0 zs q3 hp e2 f2 hz hl
  have hlen:(pre'++zs++post').length=u.size:=by
   have:=PV.rel_len u ys0 q3
   rw [r1] at this
   simp only [List.length_append] at this ⊢
   omega
  obtain ⟨pre,ys,post,s1,s2,s3,s4⟩:=setI_rel xs i o cs u u2 _ h e1 r4 hlen
  have hpre:pre=pre0:=by
   have:cs.take o=pre:=by rw [s1,List.append_assoc,←s2,List.take_left]
   have:cs.take o=pre0:=by rw [q1,List.append_assoc,←q2,List.take_left]
   simp_all
  subst hpre
  have hys:ys++post=ys0++post0:=by
   have:=s1.symm.trans q1
   simpa [List.append_assoc] using this
  have hl1:ys.length=ys0.length:=by rw [PV.rel_len u ys s3,PV.rel_len u ys0 q3]
  obtain ⟨rfl,rfl⟩:=List.append_inj hys hl1
  refine ⟨pre++pre',ys',post'++post,by rw [s1,r1];simp [List.append_assoc],by rw [List.length_append,s2,r2];rfl,r3,?_⟩
  unfold PV.rel
  simpa only [List.append_assoc] using s4
 |.idx i s n::p,x,y,z,x',cs,zs,h,hp,e,e',hz,hl=>by
  obtain ⟨m,t,xs,rfl⟩:∃m t,∃xs:(Ty.arr m t).den,x=.v (.arr m t) xs:=by
   cases x with
   |v t xs=>
    cases t with
    |arr m t=>exact ⟨m,t,xs,rfl⟩
    |_=>simp [getP] at e
   |_=>simp [getP] at e
  simp only [getP] at e
  cases hc:(Nat.beq m n && Nat.beq s t.size) with
  |false=>rw [hc] at e;cases e
  |true=>
   rw [hc] at e
   rw [Bool.and_eq_true] at hc
   have h1:m=n:=Nat.eq_of_beq_eq_true hc.1
   have h2:s=t.size:=Nat.eq_of_beq_eq_true hc.2
   simp only [setP] at e'
   cases hf:t.flat with
   |false=>rw [hf] at e';cases e'
   |true=>
    rw [hf] at e'
    simp only [cond_true,Option.bind_eq_some_iff] at e'
    obtain ⟨u2,f2,u3,f3,f4⟩:=e'
    injection f4 with f4;subst f4
    unfold PV.rel at h
    obtain ⟨hlx,hcat⟩:=h
    have hi:i<List.length (α:=t.den) xs:=by rw [hlx,h1];exact hp.1
    have hn:=Cat.nth (TRel.len t) hcat hi
    have e2:getP p (mk t (List.getD (α:=t.den) xs i t.zero))=some y:=e
    rw [getD_eq (α:=t.den) xs i _ hi] at e2
    have f2':setP p (mk t (List.getD (α:=t.den) xs i t.zero)) z=some u2:=f2
    rw [getD_eq (α:=t.den) xs i _ hi] at f2'
    obtain ⟨pre',ys',post',r1,r2,r3,r4⟩:=setP_rel p _ y z u2 _ zs (mk_rel t _ _ hn) hp.2 e2 f2' hz hl
    have ht:=flatV_rel t u2 u3 _ r4 f3
    have hs:=Cat.set (TRel.len t) hcat hi ht
    have hcl:=Cat.len (TRel.len t) hcat
    have hc3:=cut3 cs (i*t.size) t.size
    refine ⟨cs.take (i*t.size)++pre',ys',post'++cs.drop (i*t.size+t.size),?_,?_,r3,?_⟩
    ·rw [r1] at hc3
     simpa only [List.append_assoc] using hc3
    ·rw [List.length_append,r2,List.length_take,Nat.min_eq_left (by
      rw [hcl];exact Nat.mul_le_mul_right _ (by omega))]
     subst h2;rfl
    ·unfold PV.rel
     exact ⟨by rw [List.length_set];exact hlx,by simpa only [List.append_assoc] using hs⟩
 |.elt i s::p,x,y,z,x',cs,zs,h,hp,e,e',hz,hl=>by
  cases x<;>simp [getP] at e
end
end Go.Proofs.YtkihjakbbcajbaaGreat.PM
namespace Go.Proofs.YtkihjakbbcajbaaGreat.PM
set_option linter.unusedSimpArgs false
set_option linter.unusedVariables false
open Go
def Q.Ok {α:Type}:Q α→Hp→α→Hp→Prop
 |.ret x,h,a,h'=>a=x∧h'=h
 |.fail,_,_,_=>False
 |.rd id k,h,a,h'=>∃b,h.at id=some b∧(k b).Ok h a h'
 |.wr id b k,h,a,h'=>(∃o,look id h=some o)∧k.Ok ((id,b)::h) a h'
 |.new id b k,h,a,h'=>look id h=none∧k.Ok ((id,some b)::h) a h'
 |.ask b k,h,a,h'=>b=true∧k.Ok h a h'
 |.br b x y,h,a,h'=>(b=true∧x.Ok h a h')∨(b=false∧y.Ok h a h')
 |.opt o k,h,a,h'=>∃v,o=some v∧(k v).Ok h a h'
theorem Ok_bind {α β:Type}:∀(q:Q α) (f:α→Q β) (h:Hp) (b:β) (h':Hp),(q.bind f).Ok h b h'↔∃a h1,q.Ok h a h1∧(f a).Ok h1 b h'
 |.ret x,f,h,b,h'=>by
  simp only [Q.bind,Q.Ok]
  exact ⟨fun e=>⟨x,h,⟨rfl,rfl⟩,e⟩,fun ⟨_,_,⟨rfl,rfl⟩,e⟩=>e⟩
 |.fail,f,h,b,h'=>by simp [Q.bind,Q.Ok]
 |.rd id k,f,h,b,h'=>by
  simp only [Q.bind,Q.Ok,fun c=>Ok_bind (k c) f h b h']
  exact ⟨fun ⟨c,e,a,h1,q,r⟩=>⟨a,h1,⟨c,e,q⟩,r⟩,fun ⟨a,h1,⟨c,e,q⟩,r⟩=>⟨c,e,a,h1,q,r⟩⟩
 |.wr id c k,f,h,b,h'=>by
  simp only [Q.bind,Q.Ok,Ok_bind k f]
  exact ⟨fun ⟨e,a,h1,q,r⟩=>⟨a,h1,⟨e,q⟩,r⟩,fun ⟨a,h1,⟨e,q⟩,r⟩=>⟨e,a,h1,q,r⟩⟩
 |.new id c k,f,h,b,h'=>by
  simp only [Q.bind,Q.Ok,Ok_bind k f]
  exact ⟨fun ⟨e,a,h1,q,r⟩=>⟨a,h1,⟨e,q⟩,r⟩,fun ⟨a,h1,⟨e,q⟩,r⟩=>⟨e,a,h1,q,r⟩⟩
 |.ask c k,f,h,b,h'=>by
  simp only [Q.bind,Q.Ok,Ok_bind k f]
  exact ⟨fun ⟨e,a,h1,q,r⟩=>⟨a,h1,⟨e,q⟩,r⟩,fun ⟨a,h1,⟨e,q⟩,r⟩=>⟨e,a,h1,q,r⟩⟩
 |.br c x y,f,h,b,h'=>by
  simp only [Q.bind,Q.Ok,Ok_bind x f,Ok_bind y f]
  constructor
  ·rintro (⟨e,a,h1,q,r⟩|⟨e,a,h1,q,r⟩)
   ·exact ⟨a,h1,.inl ⟨e,q⟩,r⟩
   ·exact ⟨a,h1,.inr ⟨e,q⟩,r⟩
  ·rintro ⟨a,h1,⟨e,q⟩|⟨e,q⟩,r⟩
   ·exact .inl ⟨e,a,h1,q,r⟩
   ·exact .inr ⟨e,a,h1,q,r⟩
 |.opt o k,f,h,b,h'=>by
  simp only [Q.bind,Q.Ok,fun c=>Ok_bind (k c) f h b h']
  exact ⟨fun ⟨c,e,a,h1,q,r⟩=>⟨a,h1,⟨c,e,q⟩,r⟩,fun ⟨a,h1,⟨c,e,q⟩,r⟩=>⟨c,e,a,h1,q,r⟩⟩
theorem Ok_ret {α:Type} (x:α) (h:Hp) (a:α) (h':Hp):(Q.ret x).Ok h a h'↔a=x∧h'=h:=Iff.rfl
theorem Ok_fail {α:Type} (h:Hp) (a:α) (h':Hp):(Q.fail:Q α).Ok h a h'↔False:=Iff.rfl
theorem Ok_get {α:Type} (o:Option α) (h:Hp) (a:α) (h':Hp):(get o).Ok h a h'↔o=some a∧h'=h:=by
 cases o with
 |none=>simp [get,Q.Ok]
 |some x=>simp only [get,Q.Ok,Option.some.injEq];exact ⟨fun ⟨e,f⟩=>⟨e.symm,f⟩,fun ⟨e,f⟩=>⟨e.symm,f⟩⟩
theorem Ok_ask {α:Type} (b:Bool) (k:Q α) (h:Hp) (a:α) (h':Hp):(Q.ask b k).Ok h a h'↔b=true∧k.Ok h a h':=Iff.rfl
theorem Ok_cond {α:Type} (b:Bool) (x y:Q α) (h:Hp) (a:α) (h':Hp):(cond b x y).Ok h a h'↔(b=true∧x.Ok h a h')∨(b=false∧y.Ok h a h'):=by
 cases b<;>simp
theorem Ok_need (b:Bool) (h:Hp) (a:Unit) (h':Hp):(cond b (Q.ret ()) Q.fail).Ok h a h'↔b=true∧h'=h:=by
 cases b<;>simp [Q.Ok]
theorem look_cons {α:Type} (i j:Nat) (x:α) (r:List (Nat × α)):look i ((j,x)::r)=if i=j then some x else look i r:=by
 show cond (Nat.beq i j) _ _=_
 by_cases h:i=j
 ·subst h;rw [if_pos rfl,Nat.beq_refl];rfl
 ·rw [if_neg h]
  have:Nat.beq i j=false:=by
   cases hb:Nat.beq i j with
   |false=>rfl
   |true=>exact absurd (Nat.eq_of_beq_eq_true hb) h
  rw [this];rfl
theorem at_cons (h:Hp) (i j:Nat) (b:Option Blk):Hp.at ((j,b)::h) i=if i=j then b else h.at i:=by
 unfold Hp.at
 rw [look_cons]
 split
 ·cases b<;>rfl
 ·rfl
theorem at_look {h:Hp} {i:Nat} {b:Blk} (e:h.at i=some b):look i h=some (some b):=by
 unfold Hp.at at e
 cases hl:look i h with
 |none=>rw [hl] at e;cases e
 |some o=>rw [hl] at e;cases o with
  |none=>cases e
  |some c=>injection e with e;rw [e]
theorem at_none {h:Hp} {i:Nat} (e:look i h=none):h.at i=none:=by unfold Hp.at;rw [e];rfl
def Blk.live:Blk→Bool
 |.box _=>true
 |.row _ _ fz=>!fz
def RowAt (A:Nat→Prop) (w:World) (s:Slot) (t:Ty) (xs:List t.den):Prop:=s.len=xs.length∧match s.blk with
 |none=>s.len=0∧s.cap=0
 |some b=>s.len≤s.cap∧∃c e,w.heap[b]?=some (.cells c e (0,0))∧s.cap*t.size≤c.size∧Cat (TRel A w t) (c.toList.take (s.len*t.size)) xs
def BRel (g:Gh) (A:Nat→Prop) (w:World) (i:Nat):Blk→Prop
 |.box x=>∃s b c e,g i=some s∧s.blk=some b∧w.heap[b]?=some (.cells c e (0,0))∧x.rel g A w c.toList
 |.row t xs fz=>∃s,g i=some s∧RowAt A w s t xs∧(fz=true→∀b,s.blk=some b→A b)
structure HR (g:Gh) (A W:Nat→Prop) (w:World) (h:Hp):Prop where
 blk:∀i b,h.at i=some b→BRel g A w i b
 own:∀i b s r,h.at i=some b→b.live=true→g i=some s→s.blk=some r→¬A r∧W r
 inj:∀i j b c s s' r,h.at i=some b→h.at j=some c→b.live=true→c.live=true→g i=some s→g j=some s'→s.blk=some r→s'.blk=some r→i=j
 dfn:∀i s,g i=some s→∃o,look i h=some o
 lt:∀r,A r→r<w.heap.size
def Rd (g:Gh) (A:Nat→Prop) (h:Hp) (r:Nat):Prop:=A r∨∃i b s,h.at i=some b∧g i=some s∧s.blk=some r
theorem heap_lt {w:World} {b:Nat} {o:Obj} (h:w.heap[b]?=some o):b<w.heap.size:=by
 rcases Nat.lt_or_ge b w.heap.size with hl|hl
 ·exact hl
 ·rw [Array.getElem?_eq_none hl] at h;cases h
theorem At_block {w:World} {b:Nat} {c:Array Value} {e:TypeId} {fz:Nat × Nat} (h:w.heap[b]?=some (.cells c e fz)) {o:Nat} {ys:List Value} (hy:∀j v,ys[j]?=some v→c[o+j]?=some v):
  At w ⟨b,o,none⟩ ys:=fun j v e'=>by
 have:(Addr.add ⟨b,o,none⟩ j)=⟨b,o+j,none⟩:=by unfold Addr.add;split<;>simp_all
 rw [this]
 unfold World.cell?
 simp only [h,Option.isSome_none,Bool.false_eq_true,if_false]
 exact hy j v e'
theorem sub_getElem {α:Type} {c:List α} {k n:Nat} {j:Nat} {v:α} (h:((c.drop k).take n)[j]?=some v):c[k+j]?=some v:=by
 rw [List.getElem?_take] at h
 split at h
 ·rwa [List.getElem?_drop] at h
 ·cases h
section
variable {g:Gh} {A W:Nat→Prop} {w:World} {h:Hp}
theorem Rd.of (r:Nat) (ha:A r):Rd g A h r:=.inl ha
theorem row_TRel {s:Slot} {t:Ty} {xs:List t.den} {B:Nat→Prop} (hB:∀r,A r→B r) (hr:RowAt A w s t xs) (hb:∀b,s.blk=some b→B b) {v:Value} (hv:SlV s v):TRel B w (.slice t) [v] xs:=by
 obtain ⟨h1,h2⟩:=hr
 unfold SlV at hv
 cases hs:s.blk with
 |none=>
  rw [hs] at hv h2
  obtain ⟨rfl,h3,h4⟩:=hv
  exact ⟨none,0,by rw [←h1,h3],by omega,fun hl=>by omega⟩
 |some b=>
  rw [hs] at hv h2
  subst hv
  obtain ⟨h3,c,e,h4,h5,h6⟩:=h2
  refine ⟨_,s.cap,by rw [h1],by omega,fun _=>⟨_,rfl,rfl,hb b hs,_,At_block h4 (ys:=c.toList.take (s.len*t.size)) (fun j v hj=>?_),h6.mono (TRel.mono hB (fun _ _=>rfl) t)⟩⟩
  rw [List.getElem?_take] at hj
  split at hj
  ·simpa using hj
  ·cases hj
theorem arr_take {t:Ty} {cs:List Value} {xs:List t.den} {A:Nat→Prop} {w:World} (h:Cat (TRel A w t) cs xs) (o n:Nat) (hl:o+n≤xs.length):
  Cat (TRel A w t) ((cs.drop (o*t.size)).take (n*t.size)) ((xs.drop o).take n):=
 (h.drop (TRel.len t) o (by omega)).take (TRel.len t) n (by rw [List.length_drop];omega)
theorem view_TRel {s:Slot} {t:Ty} {xs:List t.den} {B:Nat→Prop} (hB:∀r,A r→B r) (hr:RowAt A w s t xs) (hb:∀b,s.blk=some b→B b) {off len:Nat} {v:Value} (hv:SvV s [] off len t.size 0 v):
  TRel B w (.slice t) [v] ((xs.drop off).take len):=by
 obtain ⟨h1,h2⟩:=hr
 obtain ⟨_,hlen,_,_,a,cap,rfl,hcap,_,ha⟩:=hv
 rw [if_pos rfl] at hlen
 have hll:((xs.drop off).take len).length=len:=by rw [List.length_take,List.length_drop];omega
 refine ⟨a,cap,by rw [hll],by rw [hll];exact hcap,fun hl=>?_⟩
 rw [hll] at hl
 have ha':=ha (.inl hl)
 cases hs:s.blk with
 |none=>rw [hs] at h2;omega
 |some b=>
  rw [hs] at h2 ha'
  obtain ⟨h3,c,e,h4,h5,h6⟩:=h2
  have hq:=arr_take h6 off len (by omega)
  refine ⟨_,ha',rfl,hb b hs,_,At_block h4 (ys:=((c.toList.take (s.len*t.size)).drop (off*t.size)).take (len*t.size)) (fun j v hj=>?_),hq.mono (TRel.mono hB (fun _ _=>rfl) t)⟩
  have hj':=sub_getElem hj
  rw [List.getElem?_take] at hj'
  split at hj'
  ·simpa [poff] using hj'
  ·cases hj'
theorem arrview_TRel {s:Slot} {t:Ty} {m:Nat} {B:Nat→Prop} (hB:∀r,A r→B r) {x:PV} {p:List Stp} {xs:(Ty.arr m t).den} {b:Nat} {c:Array Value} {e:TypeId} (hs:s.blk=some b) (hh:w.heap[b]?=some (.cells c e (0,0)))
  (hx:x.rel g A w c.toList) (hp:getP p x=some (.v (.arr m t) xs)) (hb:B b) {off len:Nat} (hm:m≠0) {v:Value} (hv:SvV s p off len t.size m v):
  TRel B w (.slice t) [v] ((List.drop (α:=t.den) off xs).take len):=by
 obtain ⟨hpk,hlen,_,_,a,cap,rfl,hcap,_,ha⟩:=hv
 rw [if_neg hm] at hlen
 obtain ⟨pre,ys,post,e1,e2,e3⟩:=getP_rel p x _ _ hx hpk hp
 unfold PV.rel at e3
 obtain ⟨hl,hcat⟩:=e3
 have hll:((List.drop (α:=t.den) off xs).take len).length=len:=by rw [List.length_take,List.length_drop];omega
 refine ⟨a,cap,by rw [hll],by rw [hll];exact hcap,fun hl'=>?_⟩
 rw [hll] at hl'
 have ha':=ha (.inl hl')
 rw [hs] at ha'
 have hq:=arr_take hcat off len (by omega)
 refine ⟨_,ha',rfl,hb,_,At_block hh (ys:=(ys.drop (off*t.size)).take (len*t.size)) (fun j v hj=>?_),hq.mono (TRel.mono hB (fun _ _=>rfl) t)⟩
 have hj':=sub_getElem hj
 have:c.toList[poff p+off*t.size+j]?=some v:=by
  rw [e1,List.append_assoc,List.getElem?_append_right (by omega),←e2]
  have hlt:off*t.size+j<ys.length:=(List.getElem?_eq_some_iff.1 hj').1
  rw [List.getElem?_append_left (by omega)]
  rw [←hj'];congr 1;omega
 simpa using this
mutual
theorem dec_rel (H:HR g A W w h):∀(t:Ty) (x:PV) (y:t.den) (h':Hp) (cs:List Value),x.rel g A w cs→(dec t x).Ok h y h'→h'=h∧TRel (Rd g A h) w t cs y
 |.pair a b,x,y,h',cs,hx,e=>by
  cases x with
  |agg xs=>
   cases xs with
   |nil=>simp [dec,Q.Ok] at e
   |cons x xs=>
    simp only [dec,Ok_bind,Ok_ret] at e
    obtain ⟨p,h1,e1,q,h2,e2,rfl,rfl⟩:=e
    unfold PV.rel rels at hx
    obtain ⟨c,d,rfl,hc,hd⟩:=hx
    obtain ⟨q1,r1⟩:=dec_rel H a x p _ c hc e1
    rw [q1] at e2
    obtain ⟨q2,r2⟩:=decs_rel H b xs q _ d hd e2
    exact ⟨q2,c,d,rfl,r1,r2⟩
  |v u z=>
   simp only [dec,Ok_get] at e
   obtain ⟨e,rfl⟩:=e
   obtain ⟨rfl,rfl⟩:=cast_some e
   unfold PV.rel at hx
   exact ⟨rfl,hx.mono Rd.of (fun _ _=>rfl)⟩
  |_=>simp [dec,Q.Ok] at e
 |.unit,x,y,h',cs,hx,e=>by
  cases x with
  |agg xs=>
   cases xs with
   |nil=>simp only [dec,Ok_ret] at e;unfold PV.rel rels at hx;exact ⟨e.2,hx⟩
   |cons x xs=>simp [dec,Q.Ok] at e
  |v u z=>
   simp only [dec,Ok_get] at e
   obtain ⟨e,rfl⟩:=e
   obtain ⟨rfl,rfl⟩:=cast_some e
   unfold PV.rel at hx
   exact ⟨rfl,hx.mono Rd.of (fun _ _=>rfl)⟩
  |_=>simp [dec,Q.Ok] at e
 |.int k,x,y,h',cs,hx,e=>by
  cases x with
  |v u z=>
   simp only [dec,Ok_get] at e
   obtain ⟨e,rfl⟩:=e
   obtain ⟨rfl,rfl⟩:=cast_some e
   unfold PV.rel at hx
   exact ⟨rfl,hx.mono Rd.of (fun _ _=>rfl)⟩
  |_=>simp [dec,Q.Ok] at e
 |.bool,x,y,h',cs,hx,e=>by
  cases x with
  |v u z=>
   simp only [dec,Ok_get] at e
   obtain ⟨e,rfl⟩:=e
   obtain ⟨rfl,rfl⟩:=cast_some e
   unfold PV.rel at hx
   exact ⟨rfl,hx.mono Rd.of (fun _ _=>rfl)⟩
  |_=>simp [dec,Q.Ok] at e
 |.str,x,y,h',cs,hx,e=>by
  cases x with
  |v u z=>
   simp only [dec,Ok_get] at e
   obtain ⟨e,rfl⟩:=e
   obtain ⟨rfl,rfl⟩:=cast_some e
   unfold PV.rel at hx
   exact ⟨rfl,hx.mono Rd.of (fun _ _=>rfl)⟩
  |_=>simp [dec,Q.Ok] at e
 |.arr n t,x,y,h',cs,hx,e=>by
  cases x with
  |v u z=>
   simp only [dec,Ok_get] at e
   obtain ⟨e,rfl⟩:=e
   obtain ⟨rfl,rfl⟩:=cast_some e
   unfold PV.rel at hx
   exact ⟨rfl,hx.mono Rd.of (fun _ _=>rfl)⟩
  |_=>simp [dec,Q.Ok] at e
 |.slice t,x,y,h',cs,hx,e=>by
  cases x with
  |v u z=>
   simp only [dec,Ok_get] at e
   obtain ⟨e,rfl⟩:=e
   obtain ⟨rfl,rfl⟩:=cast_some e
   unfold PV.rel at hx
   exact ⟨rfl,hx.mono Rd.of (fun _ _=>rfl)⟩
  |nils=>
   simp only [dec,Ok_ret] at e
   obtain ⟨rfl,rfl⟩:=e
   unfold PV.rel at hx
   subst hx
   exact ⟨rfl,none,0,rfl,Nat.le_refl _,fun hl=>absurd hl (Nat.lt_irrefl 0)⟩
  |sl id=>
   simp only [dec,Q.Ok] at e
   obtain ⟨b,hb,e⟩:=e
   cases b with
   |box x=>simp [Q.Ok] at e
   |row u xs fz=>
    simp only [Ok_get] at e
    obtain ⟨e,rfl⟩:=e
    obtain ⟨eq,rfl⟩:=cast_some e
    injection eq with eq
    subst eq
    unfold PV.rel at hx
    obtain ⟨s,v,hg,rfl,hv⟩:=hx
    obtain ⟨s',hg',hr,_⟩:=H.blk id _ hb
    rw [hg] at hg';injection hg' with hg';subst hg'
    exact ⟨rfl,row_TRel Rd.of hr (fun b hs=> .inr ⟨id,_,s,hb,hg,hs⟩) hv⟩
  |sv id p off len sz n=>
   simp only [dec,Q.Ok] at e
   obtain ⟨b,hb,e⟩:=e
   unfold PV.rel at hx
   obtain ⟨s,v,hg,rfl,hv⟩:=hx
   cases b with
   |row u xs fz=>
    simp only [Ok_bind,Ok_get] at e
    obtain ⟨ys,h1,⟨e,rfl⟩,e'⟩:=e
    obtain ⟨eq,rfl⟩:=cast_some e
    injection eq with eq
    subst eq
    cases p with
    |cons a p=>simp [Q.Ok] at e'
    |nil=>
     simp only [Ok_cond,Ok_ret,Ok_fail,and_false,or_false,Bool.and_eq_true] at e'
     obtain ⟨⟨e1,e2⟩,rfl,rfl⟩:=e'
     have e1:=Nat.eq_of_beq_eq_true e1
     have e2:=Nat.eq_of_beq_eq_true e2
     subst e1 e2
     obtain ⟨s',hg',hr,_⟩:=H.blk id _ hb
     rw [hg] at hg';injection hg' with hg';subst hg'
     exact ⟨rfl,view_TRel Rd.of hr (fun b hs=> .inr ⟨id,_,s,hb,hg,hs⟩) hv⟩
   |box x=>
    simp only at e
    split at e
    ·rename_i m u xs hp
     simp only [Ok_cond,Ok_bind,Ok_get,Ok_ret,Ok_fail,and_false,or_false,Bool.and_eq_true] at e
     obtain ⟨⟨⟨e1,e2⟩,e3⟩,ys,h1,⟨e,rfl⟩,rfl,rfl⟩:=e
     obtain ⟨eq,rfl⟩:=cast_some e
     injection eq with eq
     subst eq
     have e1:=Nat.eq_of_beq_eq_true e1
     have e2:=Nat.eq_of_beq_eq_true e2
     subst e1 e2
     have hm:m≠0:=by rintro rfl;simp at e3
     obtain ⟨s',b,c,ty,hg',hs,hh,hx⟩:=H.blk id _ hb
     rw [hg] at hg';injection hg' with hg';subst hg'
     exact ⟨rfl,arrview_TRel Rd.of hs hh hx hp (.inr ⟨id,_,s,hb,hg,hs⟩) hm hv⟩
    ·simp [Q.Ok] at e
  |_=>simp [dec,Q.Ok] at e
theorem decs_rel (H:HR g A W w h):∀(t:Ty) (xs:List PV) (y:t.den) (h':Hp) (cs:List Value),rels g A w xs cs→(decs t xs).Ok h y h'→h'=h∧TRel (Rd g A h) w t cs y
 |.pair a b,xs,y,h',cs,hx,e=>by
  cases xs with
  |nil=>simp [decs,Q.Ok] at e
  |cons x xs=>
   simp only [decs,Ok_bind,Ok_ret] at e
   obtain ⟨p,h1,e1,q,h2,e2,rfl,rfl⟩:=e
   unfold rels at hx
   obtain ⟨c,d,rfl,hc,hd⟩:=hx
   obtain ⟨q1,r1⟩:=dec_rel H a x p _ c hc e1
   rw [q1] at e2
   obtain ⟨q2,r2⟩:=decs_rel H b xs q _ d hd e2
   exact ⟨q2,c,d,rfl,r1,r2⟩
 |.unit,xs,y,h',cs,hx,e=>by
  cases xs with
  |nil=>simp only [decs,Ok_ret] at e;unfold rels at hx;exact ⟨e.2,hx⟩
  |cons x xs=>simp [decs,Q.Ok] at e
 |.int _,_,_,_,_,_,e=>by simp [decs,Q.Ok] at e
 |.bool,_,_,_,_,_,e=>by simp [decs,Q.Ok] at e
 |.str,_,_,_,_,_,e=>by simp [decs,Q.Ok] at e
 |.arr _ _,_,_,_,_,_,e=>by simp [decs,Q.Ok] at e
 |.slice _,_,_,_,_,_,e=>by simp [decs,Q.Ok] at e
end
end
end Go.Proofs.YtkihjakbbcajbaaGreat.PM
