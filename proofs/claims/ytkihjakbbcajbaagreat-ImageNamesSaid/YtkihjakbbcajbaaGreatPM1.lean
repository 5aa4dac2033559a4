/- The pure machine: a small interpreter of the program's operations over typed values (numbers, lists, tuples) and a local heap; plain definitions. -/
import Derived.Orders
import Derived.Tactics
import Derived.Below
namespace Go.Proofs.YtkihjakbbcajbaaGreat.PM
set_option linter.unusedSimpArgs false
set_option linter.unusedVariables false
open Go
noncomputable section

inductive Ty where
  | int (k : IntKind) | bool | str | unit | pair (a b : Ty) | arr (n : Nat) (t : Ty) | slice (t : Ty)
  deriving DecidableEq

@[reducible] def Ty.den : Ty → Type
  | .int _ => Int
  | .bool => Bool
  | .str => List UInt8
  | .unit => Unit
  | .pair a b => a.den × b.den
  | .arr _ t => List t.den
  | .slice t => List t.den

def Ty.size : Ty → Nat
  | .int _ | .bool | .str | .slice _ => 1
  | .unit => 0
  | .pair a b => a.size + b.size
  | .arr n t => n * t.size
def Ty.bytes : Ty → Nat
  | .int _ | .bool => 8
  | .str => 16
  | .slice _ => 24
  | .unit => 0
  | .pair a b => a.bytes + b.bytes
  | .arr n t => n * t.bytes
def Ty.agg : Ty → Bool
  | .unit | .pair _ _ | .arr _ _ => true
  | _ => false
/-- No slice in it. -/
def Ty.flat : Ty → Bool
  | .slice _ => false
  | .pair a b => a.flat && b.flat
  | .arr _ t => t.flat
  | _ => true
/-- No slice in it: what '==' compares. -/
def Ty.plain : Ty → Bool
  | .slice _ => false
  | .arr _ t => t.plain
  | .pair a b => a.plain && b.plain
  | _ => true
def Ty.zero : (t : Ty) → t.den
  | .int _ => (0 : Int)
  | .bool => false
  | .str => []
  | .unit => ()
  | .pair a b => (a.zero, b.zero)
  | .arr n t => List.replicate n t.zero
  | .slice _ => []
def allB {α : Type} (f : α → α → Bool) : List α → List α → Bool
  | [], [] => true
  | x :: xs, y :: ys => f x y && allB f xs ys
  | _, _ => false
def Ty.beq : (t : Ty) → t.den → t.den → Bool
  | .int _, x, y => decide ((x : Int) = y)
  | .bool, x, y => (x : Bool) == y
  | .str, x, y => decide ((x : List UInt8) = y)
  | .unit, _, _ => true
  | .pair a b, x, y => a.beq x.1 y.1 && b.beq x.2 y.2
  | .arr _ t, x, y => allB t.beq x y
  | .slice t, x, y => allB t.beq x y

def castT (t u : Ty) (x : t.den) : Option u.den := if h : t = u then some (h ▸ x) else none

inductive Stp where
  | fld (i off : Nat) | idx (i sz n : Nat) | elt (i sz : Nat)
  deriving DecidableEq
def Stp.off : Stp → Nat
  | .fld _ o => o
  | .idx i s _ => i * s
  | .elt i s => i * s
def poff : List Stp → Nat
  | [] => 0
  | s :: p => s.off + poff p

inductive PV where
  | v (t : Ty) (x : t.den)
  | agg (xs : List PV)
  | sl (id : Nat)
  | sv (id : Nat) (p : List Stp) (off len sz n : Nat)
  | ptr (id : Nat) (p : List Stp)
  | iptr (t : Ty) (x : t.den)
  | nils
  | fn (f : Nat) (caps : List PV)
  | tup (xs : List PV)
  | undef

inductive Blk where
  | box (x : PV)
  | row (t : Ty) (xs : List t.den) (fz : Bool)

inductive Q (α : Type) : Type 1 where
  | ret (a : α)
  | fail
  | rd (id : Nat) (k : Blk → Q α)
  | wr (id : Nat) (b : Option Blk) (k : Q α)
  | new (id : Nat) (b : Blk) (k : Q α)
  | ask (b : Bool) (k : Q α)
  | br (b : Bool) (x y : Q α)
  | opt {β : Type} (o : Option β) (k : β → Q α)
def Q.bind {α β : Type} : Q α → (α → Q β) → Q β
  | .ret a, f => f a
  | .fail, _ => .fail
  | .rd id k, f => .rd id fun b => (k b).bind f
  | .wr id b k, f => .wr id b (k.bind f)
  | .new id b k, f => .new id b (k.bind f)
  | .ask b k, f => .ask b (k.bind f)
  | .br b x y, f => .br b (x.bind f) (y.bind f)
  | .opt o k, f => .opt o fun x => (k x).bind f
instance : Monad Q where
  pure := Q.ret
  bind := Q.bind
def get {α : Type} : Option α → Q α
  | some a => .ret a
  | none => .fail
def rdB (id : Nat) : Q Blk := .rd id .ret
def wrB (id : Nat) (b : Option Blk) : Q Unit := .wr id b (.ret ())
def newB (id : Nat) (b : Blk) : Q Unit := .new id b (.ret ())
def askB (b : Bool) : Q Unit := .ask b (.ret ())

def look {α : Type} (i : Nat) : List (Nat × α) → Option α
  | [] => none
  | (j, x) :: r => cond (Nat.beq i j) (some x) (look i r)
abbrev Hp := List (Nat × Option Blk)
def Hp.at (h : Hp) (i : Nat) : Option Blk := (look i h).bind id
/- values -/
mutual
def mk : (t : Ty) → t.den → PV
  | .pair a b, x => .agg (mk a x.1 :: mks b x.2)
  | .unit, _ => .agg []
  | t, x => .v t x
def mks : (t : Ty) → t.den → List PV
  | .pair a b, x => mk a x.1 :: mks b x.2
  | .unit, _ => []
  | t, x => [.v t x]
end
def fldTy : Ty → Nat → Option Ty
  | .pair a _, 0 => some a
  | .pair _ b, i + 1 => fldTy b i
  | _, _ => none
def fldOff : Ty → Nat → Option Nat
  | .pair _ _, 0 => some 0
  | .pair a b, i + 1 => (fldOff b i).map (a.size + ·)
  | _, _ => none
def fldGet : (t : Ty) → t.den → Nat → Option ((u : Ty) × u.den)
  | .pair a _, x, 0 => some ⟨a, x.1⟩
  | .pair _ b, x, i + 1 => fldGet b x.2 i
  | _, _, _ => none
def expand : PV → PV
  | .v t x => mk t x
  | x => x
def setI {α : Type} : List α → Nat → α → List α
  | [], _, _ => []
  | _ :: r, 0, y => y :: r
  | x :: r, i + 1, y => x :: setI r i y

/- what is seen of a list of cells: a row's list, or an array in a box -/
mutual
def PV.size : PV → Nat
  | .v t _ => t.size
  | .agg xs => sizes xs
  | _ => 1
def sizes : List PV → Nat
  | [] => 0
  | x :: xs => x.size + sizes xs
end
def getF : List PV → Nat → Nat → Option PV
  | [], _, _ => none
  | x :: _, 0, o => cond (Nat.beq o 0) (some x) none
  | x :: xs, i + 1, o => cond (Nat.ble x.size o) (getF xs i (o - x.size)) none
def getP : List Stp → PV → Option PV
  | [], x => some x
  | .fld i o :: p, .agg xs => (getF xs i o).bind (getP p)
  | .idx i s n :: p, .v (.arr m t) xs => cond (Nat.beq m n && Nat.beq s t.size) (getP p (mk t (xs.getD i t.zero))) none
  | _, _ => none
/- a value without rows and pointers, typed -/
mutual
def flatV : (t : Ty) → PV → Option t.den
  | .pair a b, .agg (x :: xs) => (flatV a x).bind fun p => (flatVs b xs).bind fun q => some (p, q)
  | .unit, .agg [] => some ()
  | t, .v u x => castT u t x
  | _, _ => none
def flatVs : (t : Ty) → List PV → Option t.den
  | .pair a b, x :: xs => (flatV a x).bind fun p => (flatVs b xs).bind fun q => some (p, q)
  | .unit, [] => some ()
  | _, _ => none
end

mutual
def dec : (t : Ty) → PV → Q t.den
  | .pair a b, .agg (x :: xs) => (dec a x).bind fun p => (decs b xs).bind fun q => .ret (p, q)
  | .unit, .agg [] => .ret ()
  | .slice t, .sl id => .rd id fun
      | .row u xs _ => get (castT (.slice u) (.slice t) xs)
      | _ => .fail
  | .slice t, .sv id p off len sz n => .rd id fun
      | .row u xs _ => (get (castT (.slice u) (.slice t) xs)).bind fun ys => match p with
        | [] => cond (Nat.beq sz t.size && Nat.beq n 0) (.ret ((ys.drop off).take len)) .fail
        | _ => .fail
      | .box x => match getP p x with
        | some (.v (.arr m u) xs) => cond (Nat.beq m n && Nat.beq sz t.size && !Nat.beq n 0) ((get (castT (.slice u) (.slice t) xs)).bind fun ys => .ret ((ys.drop off).take len)) .fail
        | _ => .fail
  | .slice _, .nils => .ret []
  | t, .v u x => get (castT u t x)
  | _, _ => .fail
def decs : (t : Ty) → List PV → Q t.den
  | .pair a b, x :: xs => (dec a x).bind fun p => (decs b xs).bind fun q => .ret (p, q)
  | .unit, [] => .ret ()
  | _, _ => .fail
end
/- types of the program, contracts -/
inductive TI where
  | data (t : Ty)
  | other
inductive PK where
  | val (t : Ty) | io (t : Ty) (own : Bool) | mu (t : Ty) | fn (f : Nat) | eat (t : Ty) | clo (f : Nat) (t : Ty)
def argTy : List PK → Ty
  | [] => .unit
  | .val t :: r => .pair t (argTy r)
  | .io t _ :: r => .pair t (argTy r)
  | .mu t :: r => .pair (.slice t) (argTy r)
  | .fn _ :: r => argTy r
  | .eat t :: r => .pair (.slice t) (argTy r)
  | .clo _ t :: r => .pair t (argTy r)
def resTy : List (Ty × Bool) → Ty
  | [] => .unit
  | (t, _) :: r => .pair t (resTy r)
def outTy : List PK → List (Ty × Bool) → Ty
  | [], rs => resTy rs
  | .io t _ :: r, rs => .pair t (outTy r rs)
  | .mu t :: r, rs => .pair (.slice t) (outTy r rs)
  | .val _ :: r, rs => outTy r rs
  | .fn _ :: r, rs => outTy r rs
  | .eat _ :: r, rs => outTy r rs
  | .clo _ t :: r, rs => .pair t (outTy r rs)
structure Sig where
  ps : List PK
  rs : List (Ty × Bool)
structure Fun where
  sig : Sig
  F : (argTy sig.ps).den → Option (outTy sig.ps sig.rs).den
/-- Functions of the library that are told at once: slices.Clone, slices.Insert and slices.Delete of a row of the call's own, slices.Grow of nil, bytealg.Compare. -/
inductive Prim where
  | clone (u : Ty) | ins (u : Ty) | del (u : Ty) | grow (u : Ty) | cmp
structure Env where
  tl : List (Nat × TI)
  fns : Nat → Option Fun
  share : List Nat
  eqs : List Nat
  globs : List (Nat × PV)
  prim : List (Nat × Prim)

def Env.tab (E : Env) (t : Nat) : Option TI := look t E.tl
def Env.data (E : Env) (t : Nat) : Q Ty := match E.tab t with
  | some (.data τ) => .ret τ
  | _ => .fail
def Env.elem (E : Env) (t : Nat) : Q Ty := match E.tab t with
  | some (.data (.slice τ)) => .ret τ
  | _ => .fail

mutual
def imp : (t : Ty) → t.den → Nat → Q (PV × Nat)
  | .slice t, x, n => .new n (.row t x false) (.ret (.sl n, n + 1))
  | .pair a b, x, n => (imp a x.1 n).bind fun p => (imps b x.2 p.2).bind fun q => .ret (.agg (p.1 :: q.1), q.2)
  | .unit, _, n => .ret (.agg [], n)
  | t, x, n => .ret (.v t x, n)
def imps : (t : Ty) → t.den → Nat → Q (List PV × Nat)
  | .pair a b, x, n => (imp a x.1 n).bind fun p => (imps b x.2 p.2).bind fun q => .ret (p.1 :: q.1, q.2)
  | .unit, _, n => .ret ([], n)
  | .slice t, x, n => .new n (.row t x false) (.ret ([.sl n], n + 1))
  | t, x, n => .ret ([.v t x], n)
end
mutual
/-- The rows that a value holds are given away: none of them is frozen, none is named twice. -/
def eat : PV → Q Unit
  | .sl id => .rd id fun
      | .row _ _ false => .wr id none (.ret ())
      | _ => .fail
  | .agg xs => eats xs
  | .v t _ => cond t.flat (.ret ()) .fail
  | .nils => .ret ()
  | _ => .fail
def eats : List PV → Q Unit
  | [] => .ret ()
  | x :: xs => (eat x).bind fun _ => eats xs
end
mutual
/-- The rows that a value holds are not written from here on. -/
def frz : PV → Q Unit
  | .sl id => .rd id fun
      | .row t xs _ => .wr id (some (.row t xs true)) (.ret ())
      | _ => .fail
  | .sv id _ _ _ _ n => .rd id fun
      | .row t xs _ => cond (Nat.beq n 0) (.wr id (some (.row t xs true)) (.ret ())) .fail
      | _ => .fail
  | .agg xs => frzs xs
  | .v _ _ => .ret ()
  | .nils => .ret ()
  | _ => .fail
def frzs : List PV → Q Unit
  | [] => .ret ()
  | x :: xs => (frz x).bind fun _ => frzs xs
end
mutual
def fits : Ty → PV → Bool
  | .pair a b, .agg (x :: xs) => fits a x && fitss b xs
  | .unit, .agg [] => true
  | .slice _, .sl _ => true
  | .slice _, .sv _ _ _ _ _ _ => true
  | t, .v u _ => decide (t = u)
  | _, _ => false
def fitss : Ty → List PV → Bool
  | .pair a b, x :: xs => fits a x && fitss b xs
  | .unit, [] => true
  | _, _ => false
end
def lone : PV → Bool
  | .ptr _ _ | .fn _ _ => true
  | _ => false
def fitsI : TI → PV → Bool
  | .data t, x => fits t x
  | .other, x => lone x
/-- nil, where a slice is meant, is an empty row. -/
def seat (t : TI) (x : PV) (n : Nat) : Q PV := match x with
  | .nils => match t with
    | .data (.slice τ) => .new n (.row τ [] false) (.ret (.sl n))
    | _ => .fail
  | x => .ret x
def seatT (t : Ty) (x : PV) (n : Nat) : Q PV := seat (.data t) x n
/-- A value that goes into a list: typed, its rows frozen. -/
def typed (t : Ty) (x : PV) : Q t.den := (dec t x).bind fun y => cond t.flat (.ret y) ((frz x).bind fun _ => .ret y)

def lim (n : Nat) (t : Ty) : Bool := decide (n * t.bytes ≤ 140737488355328)

def splice {α : Type} (xs : List α) (o : Nat) (ys : List α) : List α := xs.take o ++ ys ++ xs.drop (o + ys.length)

def rdPath (p : List Stp) (x : PV) : Q PV := get (getP p x)
def setP : List Stp → PV → PV → Option PV
  | [], _, y => some y
  | .fld i _ :: p, .agg xs, y => (xs[i]?).bind fun x => (setP p x y).bind fun z => some (.agg (setI xs i z))
  | .idx i _ _ :: p, .v (.arr n t) xs, y => cond t.flat ((setP p (mk t (xs.getD i t.zero)) y).bind fun e => (flatV t e).bind fun e => some (.v (.arr n t) (xs.set i e))) none
  | _, _, _ => none

def ptrQ (a : PV) : Q PV := match a with
  | .iptr u x => .ret (mk u x)
  | .ptr id p => .rd id fun
    | .box x => rdPath p x
    | .row u xs _ => match p with
      | .elt i s :: p => cond (Nat.beq s u.size) (rdPath p (mk u (xs.getD i u.zero))) .fail
      | _ => .fail
  | _ => .fail
def loadQ (E : Env) (t : Nat) (a : PV) : Q PV :=
  (get (E.tab t)).bind fun τ => (ptrQ a).bind fun x => cond (fitsI τ x) (.ret x) .fail
def putQ (τ : TI) (a y : PV) : Q PV := match a with
  | .ptr id p => .rd id fun
    | .box x => match getP p x, setP p x y with
      | some o, some z => cond (fitsI τ o) (.wr id (some (.box z)) (.ret .undef)) .fail
      | _, _ => .fail
    | .row u xs _ => match p with
      | .elt i s :: p => match getP p (mk u (xs.getD i u.zero)), setP p (mk u (xs.getD i u.zero)) y with
        | some o, some z => cond (Nat.beq s u.size && fitsI τ o) ((typed u z).bind fun e => .rd id fun
          | .row v ys false => (get (castT (.slice v) (.slice u) ys)).bind fun ys => .wr id (some (.row u (List.set ys i e) false)) (.ret .undef)
          | _ => .fail) .fail
        | _, _ => .fail
      | _ => .fail
  | _ => .fail
def storeQ (E : Env) (t : Nat) (a y : PV) (nw : Nat) : Q PV :=
  (get (E.tab t)).bind fun τ => (seat τ y nw).bind fun y => cond (fitsI τ y) (putQ τ a y) .fail

def fieldAddrQ (E : Env) (t : Nat) (x : PV) (i : Nat) : Q PV :=
  (E.data t).bind fun τ => match fldTy τ i, fldOff τ i with
    | some u, some o => cond (Nat.ble 1 u.size) (match x with
      | .ptr id p => .ret (.ptr id (p ++ [.fld i o]))
      | .iptr v y => (get (castT v τ y)).bind fun y => match fldGet τ y i with
        | some z => .ret (.iptr z.1 z.2)
        | none => .fail
      | _ => .fail) .fail
    | _, _ => .fail
def intOf : PV → Q Int
  | .v (.int _) n => .ret n
  | _ => .fail
def sliceElt (u : Ty) (x : PV) (i : Int) : Q PV := match x with
  | .sl id => .rd id fun
    | .row v xs _ => cond (decide (u = v)) (.ask (decide (0 ≤ i ∧ i < xs.length)) (.ret (.ptr id [.elt i.toNat u.size]))) .fail
    | _ => .fail
  | .sv id p off len sz n => cond (Nat.beq sz u.size) (.ask (decide (0 ≤ i ∧ i < len)) (cond (Nat.beq n 0) (.ret (.ptr id [.elt (off + i.toNat) u.size])) (.ret (.ptr id (p ++ [.idx (off + i.toNat) u.size n]))))) .fail
  | .v v xs => (get (castT v (.slice u) xs)).bind fun xs => .ask (decide (0 ≤ i ∧ i < xs.length)) (.ret (.iptr u (xs.getD i.toNat u.zero)))
  | _ => .fail
def arrElt (n : Nat) (u : Ty) (x : PV) (i : Int) : Q PV := match x with
  | .ptr id p => .ask (decide (0 ≤ i ∧ i < n)) (.ret (.ptr id (p ++ [.idx i.toNat u.size n])))
  | .iptr v xs => (get (castT v (.arr n u) xs)).bind fun xs => .ask (decide (0 ≤ i ∧ i < n)) (.ret (.iptr u (List.getD (α := u.den) xs i.toNat u.zero)))
  | _ => .fail
def indexAddrQ (E : Env) (t : Nat) (x i : PV) : Q PV :=
  (E.data t).bind fun τ => (intOf i).bind fun i => match τ with
    | .slice u => sliceElt u x i
    | .arr n u => arrElt n u x i
    | _ => .fail
def indexQ (E : Env) (t : Nat) (x i : PV) : Q PV :=
  (E.data t).bind fun τ => (intOf i).bind fun i => match τ with
    | .arr n u => match x with
      | .v v xs => (get (castT v (.arr n u) xs)).bind fun xs => .ask (decide (0 ≤ i ∧ i < n)) (.ret (mk u (List.getD (α := u.den) xs i.toNat u.zero)))
      | _ => .fail
    | _ => .fail

def bits (op : BinOp) (k : IntKind) (x y : Int) : Int :=
  let a := BitVec.ofInt k.bits x
  let b := BitVec.ofInt k.bits y
  match op with
  | .and => k.wrap (a &&& b).toNat
  | .or => k.wrap (a ||| b).toNat
  | .xor => k.wrap (a ^^^ b).toNat
  | _ => k.wrap (a &&& ~~~b).toNat
def binI (op : BinOp) (k : IntKind) (a b : Int) : Q PV := match op with
  | .add => .ret (.v (.int k) (k.wrap (a + b)))
  | .sub => .ret (.v (.int k) (k.wrap (a - b)))
  | .mul => .ret (.v (.int k) (k.wrap (a * b)))
  | .quo => .ask (decide (b ≠ 0)) (.ret (.v (.int k) (k.wrap (a.tdiv b))))
  | .rem => .ask (decide (b ≠ 0)) (.ret (.v (.int k) (a.tmod b)))
  | .eql => .ret (.v .bool (a == b))
  | .neq => .ret (.v .bool (a != b))
  | .lss => .ret (.v .bool (decide (a < b)))
  | .leq => .ret (.v .bool (decide (a ≤ b)))
  | .gtr => .ret (.v .bool (decide (a > b)))
  | .geq => .ret (.v .bool (decide (a ≥ b)))
  | .shl | .shr => .fail
  | op => .ret (.v (.int k) (bits op k a b))
def eqQ (op : BinOp) (b : Bool) : Q PV := match op with
  | .eql => .ret (.v .bool b)
  | .neq => .ret (.v .bool (!b))
  | _ => .fail
def binQ (E : Env) (op : BinOp) (t : Nat) (x y : PV) : Q PV := match x, y with
  | .v (.int k) a, .v (.int l) b => match op with
    | .shl => .ask (decide (0 ≤ (b : Int))) (.ret (.v (.int k) (k.wrap (a * 2 ^ min b.toNat k.bits))))
    | .shr => .ask (decide (0 ≤ (b : Int))) (.ret (.v (.int k) (a.fdiv (2 ^ min b.toNat k.bits))))
    | op => cond (decide (k = l)) (binI op k a b) .fail
  | .v .str a, .v .str b => eqQ op (decide (a = b))
  | .v .bool a, .v .bool b => (E.data t).bind fun τ => match τ with
    | .bool => eqQ op (a == b)
    | _ => .fail
  | x, y => (E.data t).bind fun τ => cond (E.eqs.any (Nat.beq t) && (τ.plain && τ.agg)) ((dec τ x).bind fun a => (dec τ y).bind fun b => eqQ op (τ.beq a b)) .fail
def unQ (op : UnOp) (x : PV) : Q PV := match op, x with
  | .neg, .v (.int k) n => .ret (.v (.int k) (k.wrap (0 - n)))
  | .xor, .v (.int k) n => .ret (.v (.int k) (bits .xor k (if k.signed then -1 else k.max) n))
  | .not, .v .bool b => .ret (.v .bool (!b))
  | _, _ => .fail
def convQ (E : Env) (src dst : Nat) (x : PV) : Q PV :=
  (E.data src).bind fun σ => (E.data dst).bind fun τ => match τ with
    | .int k => match x with
      | .v (.int _) n => .ret (.v (.int k) (k.wrap n))
      | _ => .fail
    | .str => cond (decide (σ = .slice (.int .u8))) ((dec (.slice (.int .u8)) x).bind fun b => .ret (.v .str ((b : List Int).map fun n => UInt8.ofNat n.toNat))) .fail
    | _ => .fail

/- literals: the zero value, and parts put into it one after another -/
def allNil : List PV → Bool
  | [] => true
  | .nils :: r => allNil r
  | _ :: _ => false
def putF : (ts : Ty) → List (Nat × PV) → List PV → Nat → Q (List PV)
  | _, [], xs, _ => .ret xs
  | τ, (i, x) :: r, xs, n => match fldTy τ i, fldOff τ i with
    | some u, some o => (seatT u x n).bind fun x => match getF xs i o with
      | some old => cond (fits u x && Nat.beq old.size u.size) (putF τ r (setI xs i x) (n + 1)) .fail
      | none => .fail
    | _, _ => .fail
def putA (t : Ty) : List (Nat × PV) → List t.den → Q (List t.den)
  | [], xs => .ret xs
  | (i, x) :: r, xs => (typed t x).bind fun y => cond (Nat.blt i xs.length && Nat.beq x.size t.size) (putA t r (xs.set i y)) .fail
def buildQ (E : Env) (t : Nat) (ps : List (Nat × PV)) (nw : Nat) : Q PV :=
  (E.data t).bind fun τ => match τ with
    | .arr n u => (putA u ps (List.replicate n u.zero)).bind fun xs => .ret (.v (.arr n u) xs)
    | τ => (imp τ τ.zero nw).bind fun z => match z.1 with
      | .agg xs => (putF τ ps xs z.2).bind fun xs => .ret (.agg xs)
      | _ => .fail
def buildSliceQ (E : Env) (t n : Nat) (ps : List (Nat × PV)) (nw : Nat) : Q PV :=
  (E.elem t).bind fun u => cond (Nat.ble (n * u.size) 16777216 && Nat.ble 1 u.size) ((putA u ps (List.replicate n u.zero)).bind fun xs => .new nw (.row u xs false) (.ret (.sl nw))) .fail
def makeSliceQ (E : Env) (t : Nat) (l c : PV) (nw : Nat) : Q PV :=
  (E.elem t).bind fun u => (intOf l).bind fun l => (intOf c).bind fun c =>
  .ask (decide (0 ≤ l ∧ l ≤ c) && lim c.toNat u) (cond (Nat.ble 1 u.size) (.new nw (.row u (List.replicate l.toNat u.zero) false) (.ret (.sl nw))) .fail)
def optInt : Option PV → Int → Q Int
  | none, d => .ret d
  | some x, _ => intOf x
def cutQ (lo hi : Option PV) (n : Int) (f : Nat → Nat → Q PV) : Q PV :=
  (optInt hi n).bind fun h => (optInt lo 0).bind fun l => .ask (decide (0 ≤ l ∧ l ≤ h ∧ h ≤ n)) (f l.toNat h.toNat)
def sliceQ (E : Env) (t : Nat) (x : PV) (lo hi : Option PV) : Q PV :=
  (E.data t).bind fun τ => match τ with
    | .slice u => cond (Nat.ble 1 u.size) (match x with
      | .v v xs => (get (castT v (.slice u) xs)).bind fun xs => cutQ lo hi xs.length fun l h => .ret (.v (.slice u) ((xs.drop l).take (h - l)))
      | .sl id => .rd id fun
        | .row v xs _ => cond (decide (u = v)) (cutQ lo hi xs.length fun l h => .ret (.sv id [] l (h - l) u.size 0)) .fail
        | _ => .fail
      | .sv id p off len sz n => cond (Nat.beq sz u.size) (cutQ lo hi len fun l h => .ret (.sv id p (off + l) (h - l) sz n)) .fail
      | _ => .fail) .fail
    | .arr n u => match x with
      | .ptr id p => cond (Nat.ble 1 u.size && Nat.ble 1 n) (cutQ lo hi n fun l h => .ret (.sv id p l (h - l) u.size n)) .fail
      | _ => .fail
    | _ => .fail

def appendTo (u : Ty) (s : PV) (ys : List u.den) (share : Bool) (nw : Nat) : Q PV := match s with
  | .sl id => .rd id fun
    | .row v xs false => (get (castT (.slice v) (.slice u) xs)).bind fun xs => .ask (lim (xs.length + ys.length) u)
        (cond share (.wr id (some (.row u xs true)) (.new nw (.row u (xs ++ ys) true) (.ret (.sl nw)))) (.wr id none (.new nw (.row u (xs ++ ys) false) (.ret (.sl nw)))))
    | _ => .fail
  | .sv id p off len sz n => .rd id fun
    | .row v xs false => cond (Nat.beq off 0 && Nat.beq n 0 && Nat.beq sz u.size) ((get (castT (.slice v) (.slice u) xs)).bind fun xs => .ask (lim (len + ys.length) u)
        (.br (decide (len + ys.length ≤ xs.length)) (.wr id (some (.row u (splice xs len ys) false)) (.ret (.sv id p 0 (len + ys.length) u.size 0)))
          (.wr id none (.new nw (.row u (xs.take len ++ ys) false) (.ret (.sl nw)))))) .fail
    | _ => .fail
  | _ => .fail
def appendQ (E : Env) (t : Nat) (s y : PV) (share : Bool) (nw : Nat) : Q PV :=
  (E.elem t).bind fun u => cond (Nat.ble 1 u.size) ((dec (.slice u) y).bind fun ys => (seatT (.slice u) s (nw + 1)).bind fun s => appendTo u s ys share nw) .fail
def appendZQ (E : Env) (t t' : Nat) (s y : PV) (share : Bool) (nw : Nat) : Q PV :=
  (E.elem t).bind fun u => (E.data t').bind fun τ => match τ, y with
    | .int _, .v (.int .i64) n => cond (Nat.ble 1 u.size) (.ask (decide (0 ≤ (n : Int)) && lim n.toNat u) ((seatT (.slice u) s (nw + 1)).bind fun s => appendTo u s (List.replicate n.toNat u.zero) share nw)) .fail
    | _, _ => .fail
def copyTo (u : Ty) (d : PV) (ys : List u.den) : Q PV := match d with
  | .sl id => .rd id fun
    | .row v xs false => (get (castT (.slice v) (.slice u) xs)).bind fun xs => .wr id (some (.row u (splice xs 0 (ys.take xs.length)) false)) (.ret (.v (.int .i64) (min ys.length xs.length : Nat)))
    | _ => .fail
  | .sv id p off len sz n => .rd id fun
    | .row v xs false => cond (Nat.beq sz u.size && Nat.beq n 0) ((get (castT (.slice v) (.slice u) xs)).bind fun xs => .wr id (some (.row u (splice xs off (ys.take len)) false)) (.ret (.v (.int .i64) (min ys.length len : Nat)))) .fail
    | .box x => match getP p x with
      | some (.v (.arr m v) xs) => cond (Nat.beq m n && Nat.beq sz u.size && u.flat && !Nat.beq n 0) ((get (castT (.slice v) (.slice u) xs)).bind fun xs => match setP p x (.v (.arr n u) (splice xs off (ys.take len))) with
        | some z => .wr id (some (.box z)) (.ret (.v (.int .i64) (min ys.length len : Nat)))
        | none => .fail) .fail
      | _ => .fail
    | _ => .fail
  | _ => .fail
def copyQ (E : Env) (t : Nat) (d s : PV) : Q PV :=
  (E.elem t).bind fun u => (dec (.slice u) s).bind fun ys => copyTo u d ys
def clearQ (E : Env) (t : Nat) (d : PV) : Q PV :=
  (E.elem t).bind fun u => match d with
    | .sv id _ off len sz n => .rd id fun
      | .row v xs false => cond (Nat.beq sz u.size && Nat.beq n 0) ((get (castT (.slice v) (.slice u) xs)).bind fun xs => .wr id (some (.row u (splice xs off (List.replicate len u.zero)) false)) (.ret .undef)) .fail
      | _ => .fail
    | _ => .fail
def lenQ (E : Env) (t : Nat) (x : PV) : Q PV :=
  (E.data t).bind fun τ => match τ with
    | .slice u => (match x with
      | .sl id => .rd id fun
        | .row _ xs _ => .ret (.v (.int .i64) (xs.length : Int))
        | _ => .fail
      | .sv _ _ _ len _ _ => .ret (.v (.int .i64) (len : Int))
      | .v v xs => (get (castT v (.slice u) xs)).bind fun xs => .ret (.v (.int .i64) (xs.length : Int))
      | .nils => .ret (.v (.int .i64) (0 : Int))
      | _ => .fail)
    | .arr n _ => .ret (.v (.int .i64) (n : Int))
    | _ => .fail
def builtinQ (E : Env) (b : Builtin) (ts : List Nat) (args : List PV) (share : Bool) (nw : Nat) : Q PV :=
  match b, ts, args with
  | .len, [t], [x] => lenQ E t x
  | .append, [t, t'], [s, y] => cond (Nat.beq t t') (appendQ E t s y share nw) (appendZQ E t t' s y share nw)
  | .copy, t :: _, [d, s] => copyQ E t d s
  | .clear, t :: _, [d] => clearQ E t d
  | .min, _, [.v (.int k) a, .v (.int l) b] => cond (decide (k = l)) (.ret (.v (.int k) (min a b : Int))) .fail
  | .max, _, [.v (.int k) a, .v (.int l) b] => cond (decide (k = l)) (.ret (.v (.int k) (max a b : Int))) .fail
  | _, _, _ => .fail

/- calls -/
def hasImm (t : Ty) (own : Bool) : Bool := match own, t with
  | false, t => !t.flat
  | true, .slice u => !u.flat
  | true, .pair a b => hasImm a true || hasImm b true
  | true, .arr _ u => !u.flat
  | true, _ => false
def Sig.needs (s : Sig) : Bool :=
  s.rs.any (fun r => hasImm r.1 r.2) || s.ps.any fun
    | .io t own => hasImm t own
    | .mu t => !t.flat
    | .eat t => !t.flat
    | .clo _ t => !t.flat
    | _ => false
def ioTy : List PK → Ty
  | [] => .unit
  | .val _ :: r => ioTy r
  | .fn _ :: r => ioTy r
  | .io t _ :: r => .pair t (ioTy r)
  | .mu t :: r => .pair (.slice t) (ioTy r)
  | .eat t :: r => .pair (.slice t) (ioTy r)
  | .clo _ t :: r => .pair t (ioTy r)
/-- Boxes and rows that the callee may write: given away. -/
def boxIO (t : Ty) (own : Bool) (x : PV) : Q t.den := match x with
  | .ptr id [] => .rd id fun
      | .box c => (dec t c).bind fun a => .wr id none ((cond own (eat c) (frz c)).bind fun _ => .ret a)
      | _ => .fail
  | _ => .fail
def rowIO (t : Ty) (x : PV) : Q (List t.den) := match x with
  | .sl id => .rd id fun
      | .row u ys false => (get (castT (.slice u) (.slice t) ys)).bind fun a => .wr id none (.ret a)
      | _ => .fail
  | _ => .fail
def fnIO (f : Nat) (x : PV) : Q Unit := match x with
  | .fn g [] => cond (Nat.beq f g) (.ret ()) .fail
  | _ => .fail
/-- A row that the callee takes as its own; nil: none. -/
def eatIO (t : Ty) (x : PV) : Q (List t.den) := match x with
  | .nils => .ret []
  | x => rowIO t x
/-- A function with a captured box, which the callee may write. -/
def cloIO (f : Nat) (t : Ty) (x : PV) : Q t.den := match x with
  | .fn g [.ptr id p] => cond (Nat.beq f g) (boxIO t false (.ptr id p)) .fail
  | _ => .fail
def takeIO : (ps : List PK) → List PV → Q (ioTy ps).den
  | [], xs => match xs with
    | [] => .ret ()
    | _ :: _ => .fail
  | .val _ :: r, xs => match xs with
    | _ :: xs => takeIO r xs
    | [] => .fail
  | .fn f :: r, xs => match xs with
    | x :: xs => (fnIO f x).bind fun _ => takeIO r xs
    | [] => .fail
  | .io t own :: r, xs => match xs with
    | x :: xs => (boxIO t own x).bind fun a => (takeIO r xs).bind fun b => .ret (a, b)
    | [] => .fail
  | .mu t :: r, xs => match xs with
    | x :: xs => (rowIO t x).bind fun a => (takeIO r xs).bind fun b => .ret (a, b)
    | [] => .fail
  | .eat t :: r, xs => match xs with
    | x :: xs => (eatIO t x).bind fun a => (takeIO r xs).bind fun b => .ret (a, b)
    | [] => .fail
  | .clo f t :: r, xs => match xs with
    | x :: xs => (cloIO f t x).bind fun a => (takeIO r xs).bind fun b => .ret (a, b)
    | [] => .fail
def takeV : (ps : List PK) → List PV → (ioTy ps).den → Q (argTy ps).den
  | [], _, _ => .ret ()
  | .val t :: r, xs, y => match xs with
    | x :: xs => (dec t x).bind fun a => (takeV r xs y).bind fun b => .ret (a, b)
    | [] => .fail
  | .io _ _ :: r, xs, y => (takeV r xs.tail y.2).bind fun b => .ret (y.1, b)
  | .mu _ :: r, xs, y => (takeV r xs.tail y.2).bind fun b => .ret (y.1, b)
  | .fn _ :: r, xs, y => takeV r xs.tail y
  | .eat _ :: r, xs, y => (takeV r xs.tail y.2).bind fun b => .ret (y.1, b)
  | .clo _ _ :: r, xs, y => (takeV r xs.tail y.2).bind fun b => .ret (y.1, b)
def frzArgs : List PK → List PV → Q Unit
  | [], _ => .ret ()
  | .val _ :: r, xs => match xs with
    | x :: xs => (frz x).bind fun _ => frzArgs r xs
    | [] => .ret ()
  | .io _ _ :: r, xs => frzArgs r xs.tail
  | .mu _ :: r, xs => frzArgs r xs.tail
  | .fn _ :: r, xs => frzArgs r xs.tail
  | .eat _ :: r, xs => frzArgs r xs.tail
  | .clo _ _ :: r, xs => frzArgs r xs.tail
def impO (t : Ty) (own : Bool) (y : t.den) (n : Nat) : Q (PV × Nat) := cond own (imp t y n) (.ret (mk t y, n))
def takeRes : (rs : List (Ty × Bool)) → (resTy rs).den → Nat → Q (List PV)
  | [], _, _ => .ret []
  | (t, own) :: r, y, n => (impO t own y.1 n).bind fun p => (takeRes r y.2 p.2).bind fun q => .ret (p.1 :: q)
def backBox (t : Ty) (own : Bool) (x : PV) (y : t.den) (n : Nat) : Q Nat := match x with
  | .ptr id _ => (impO t own y n).bind fun p => .wr id (some (.box p.1)) (.ret p.2)
  | _ => .fail
def backClo (t : Ty) (x : PV) (y : t.den) (n : Nat) : Q Nat := match x with
  | .fn _ [p] => backBox t false p y n
  | _ => .fail
def backRow (t : Ty) (x : PV) (y : List t.den) : Q Unit := match x with
  | .sl id => .wr id (some (.row t y false)) (.ret ())
  | _ => .fail
def back : (ps : List PK) → (rs : List (Ty × Bool)) → List PV → (outTy ps rs).den → Nat → Q (List PV)
  | [], rs, _, y, n => takeRes rs y n
  | .io t own :: r, rs, xs, y, n => match xs with
    | x :: xs => (backBox t own x y.1 n).bind fun n => back r rs xs y.2 n
    | [] => .fail
  | .mu t :: r, rs, xs, y, n => match xs with
    | x :: xs => (backRow t x y.1).bind fun _ => back r rs xs y.2 n
    | [] => .fail
  | .val _ :: r, rs, xs, y, n => back r rs xs.tail y n
  | .fn _ :: r, rs, xs, y, n => back r rs xs.tail y n
  | .eat _ :: r, rs, xs, y, n => back r rs xs.tail y n
  | .clo _ t :: r, rs, xs, y, n => match xs with
    | x :: xs => (backClo t x y.1 n).bind fun n => back r rs xs y.2 n
    | [] => .fail
def pack : List PV → PV
  | [x] => x
  | xs => .tup xs
def callQ (f : Fun) (args : List PV) (nw : Nat) : Q PV :=
  (takeIO f.sig.ps args).bind fun y => (takeV f.sig.ps args y).bind fun a =>
  (cond f.sig.needs (frzArgs f.sig.ps args) (.ret ())).bind fun _ =>
  .opt (f.F a) fun y => (back f.sig.ps f.sig.rs args y nw).bind fun l => .ret (pack l)

def int64 : PV → Q Int
  | .v (.int .i64) n => .ret n
  | _ => .fail
/-- Bytes in the order of words. -/
def cmpB : List Int → List Int → Int
  | [], [] => 0
  | [], _ :: _ => -1
  | _ :: _, [] => 1
  | x :: xs, y :: ys => bif Nat.blt (x.toNat % 256) (y.toNat % 256) then -1 else bif Nat.blt (y.toNat % 256) (x.toNat % 256) then 1 else cmpB xs ys
def ownRow (u : Ty) (x : PV) : Q (List u.den) := match x with
  | .sl id => .rd id fun
    | .row t xs false => (get (castT (.slice t) (.slice u) xs)).bind fun xs => .wr id none (.ret xs)
    | _ => .fail
  | _ => .fail
def primQ (p : Prim) (args : List PV) (nw : Nat) : Q PV := match p with
  | .clone u => match args with
    | [x] => (dec (.slice u) x).bind fun ys => .ask (lim (List.length (α := u.den) ys) u) (cond (Nat.ble 1 u.size) (.new nw (.row u ys false) (.ret (.sl nw))) .fail)
    | _ => .fail
  | .ins u => match args with
    | [x, i, v] => (ownRow u x).bind fun xs => (int64 i).bind fun i => (dec (.slice u) v).bind fun ys =>
      .ask (decide (0 ≤ i ∧ i ≤ xs.length) && lim (xs.length + List.length (α := u.den) ys) u) (cond (Nat.ble 1 u.size) (.new nw (.row u (xs.take i.toNat ++ ys ++ xs.drop i.toNat) false) (.ret (.sl nw))) .fail)
    | _ => .fail
  | .del u => match args with
    | [x, i, j] => (ownRow u x).bind fun xs => (int64 i).bind fun i => (int64 j).bind fun j =>
      .ask (decide (0 ≤ i ∧ i ≤ j ∧ j ≤ xs.length)) (cond (Nat.ble 1 u.size) (.new nw (.row u (xs.take i.toNat ++ xs.drop j.toNat) false) (.ret (.sl nw))) .fail)
    | _ => .fail
  | .grow u => match args with
    | [.nils, n] => (int64 n).bind fun n => .ask (decide (0 ≤ n) && lim n.toNat u) (cond (Nat.ble 1 u.size) (.new nw (.row u [] false) (.ret (.sl nw))) .fail)
    | _ => .fail
  | .cmp => match args with
    | [x, y] => (dec (.slice (.int .u8)) x).bind fun xs => (dec (.slice (.int .u8)) y).bind fun ys => .ret (.v (.int .i64) (cmpB xs ys))
    | _ => .fail
/- operations -/
structure St where
  tm : List (Nat × PV)
  hp : Hp
  nx : Nat
  io : List PV
def cst : Value → Option PV
  | .int k n => some (.v (.int k) n)
  | .bool b => some (.v .bool b)
  | .string s => some (.v .str s.data.toList)
  | .slice none 0 0 => some .nils
  | _ => none
def opd (gl tm : List (Nat × PV)) : Operand → Option PV
  | .tmp t => look t tm
  | .const v => cst v
  | .func f => some (.fn f [])
  | .global g => look g gl
def opds (gl tm : List (Nat × PV)) : List Operand → Option (List PV)
  | [] => some []
  | x :: xs => (opd gl tm x).bind fun a => (opds gl tm xs).bind fun b => some (a :: b)
def partsQ (gl tm : List (Nat × PV)) : List (Nat × Operand) → Option (List (Nat × PV))
  | [] => some []
  | (i, x) :: xs => (opd gl tm x).bind fun a => (partsQ gl tm xs).bind fun b => some ((i, a) :: b)
def oopd (gl tm : List (Nat × PV)) : Option Operand → Option (Option PV)
  | none => some none
  | some x => (opd gl tm x).map some
def seatI (E : Env) (t : Nat) (x : PV) (nw : Nat) : Q PV := match x with
  | .nils => (get (E.tab t)).bind fun τ => seat τ x nw
  | x => .ret x
def ptrs (xs : List PV) : Bool := xs.all fun
  | .ptr _ _ => true
  | _ => false
def opQ (E : Env) (tm : List (Nat × PV)) (o : Oper) (nw : Nat) : Q PV := match o.op with
  | .move x | .assign x => (get (opd E.globs tm x)).bind fun x => seatI E o.type x nw
  | .pick c a b => (get (opd E.globs tm c)).bind fun c => match c with
    | .v .bool t => .br t ((get (opd E.globs tm a)).bind fun x => seatI E o.type x nw) ((get (opd E.globs tm b)).bind fun x => seatI E o.type x nw)
    | _ => .fail
  | .alloc t => (E.data t).bind fun τ => (imp τ τ.zero (nw + 1)).bind fun p => .new nw (.box p.1) (.ret (.ptr nw []))
  | .box t x => (get (E.tab t)).bind fun τ => (get (opd E.globs tm x)).bind fun x => (seat τ x (nw + 1)).bind fun x => cond (fitsI τ x) (.new nw (.box x) (.ret (.ptr nw []))) .fail
  | .build t ps => (get (partsQ E.globs tm ps.toList)).bind fun ps => buildQ E t ps nw
  | .buildSlice t n ps => (get (partsQ E.globs tm ps.toList)).bind fun ps => buildSliceQ E t n ps nw
  | .load t a => (get (opd E.globs tm a)).bind fun a => loadQ E t a
  | .store t a y => (get (opd E.globs tm a)).bind fun a => (get (opd E.globs tm y)).bind fun y => storeQ E t a y nw
  | .nilCheck x => (get (opd E.globs tm x)).bind fun x => match x with
    | .ptr id p => .ret (.ptr id p)
    | .iptr t x => .ret (.iptr t x)
    | _ => .fail
  | .binOp op t x y _ => (get (opd E.globs tm x)).bind fun x => (get (opd E.globs tm y)).bind fun y => binQ E op t x y
  | .unOp op _ x => (get (opd E.globs tm x)).bind fun x => unQ op x
  | .convert s t x => (get (opd E.globs tm x)).bind fun x => convQ E s t x
  | .makeSlice t l c => (get (opd E.globs tm l)).bind fun l => (get (opd E.globs tm c)).bind fun c => makeSliceQ E t l c nw
  | .slice t x lo hi mx => cond mx.isNone ((get (opd E.globs tm x)).bind fun x => (get (oopd E.globs tm lo)).bind fun lo => (get (oopd E.globs tm hi)).bind fun hi => sliceQ E t x lo hi) .fail
  | .fieldAddr t x i => (get (opd E.globs tm x)).bind fun x => fieldAddrQ E t x i
  | .indexAddr t x i => (get (opd E.globs tm x)).bind fun x => (get (opd E.globs tm i)).bind fun i => indexAddrQ E t x i
  | .index t x i => (get (opd E.globs tm x)).bind fun x => (get (opd E.globs tm i)).bind fun i => indexQ E t x i
  | .makeFunc f first caps => match f with
    | .func f => cond first.toList.isEmpty ((get (opds E.globs tm caps.toList)).bind fun xs => cond (ptrs xs) (.ret (.fn f xs)) .fail) .fail
    | _ => .fail
  | .extract x i => (get (opd E.globs tm x)).bind fun x => match x with
    | .tup xs => get xs[i]?
    | _ => .fail
  | .call c => (get (opds E.globs tm c.args.toList)).bind fun args => match c.callee with
    | .builtin b => builtinQ E b c.argTypes.toList args (match o.dst with | some d => E.share.any (Nat.beq d) | none => false) nw
    | .value f => (get (opd E.globs tm f)).bind fun f => match f with
      | .fn g caps => match look g E.prim with
        | some p => cond caps.isEmpty (primQ p args nw) .fail
        | none => (get (E.fns g)).bind fun f => cond (ptrs caps) (callQ f (args ++ caps) nw) .fail
      | _ => .fail
    | _ => .fail
  | _ => .fail

inductive It where
  | code (c : Code) | blk (id : Nat) | lp (b : Code) | join
/-- What a stretch of steps comes to: partings, answers of other functions, and the next place to stand at. -/
inductive DT (ρ : Type) : Type 1 where
  | fail
  | done (x : ρ)
  | cut (its : List It) (st : St)
  | br (b : Bool) (x y : DT ρ)
  | opt {β : Type} (o : Option β) (k : β → DT ρ)
def DT.ev {ρ : Type} (f : List It → St → Option ρ) : DT ρ → Option ρ
  | .fail => none
  | .done x => some x
  | .cut its st => f its st
  | .br b x y => cond b (x.ev f) (y.ev f)
  | .opt o k => o.bind fun v => (k v).ev f
def Q.toD {α ρ : Type} : Q α → Hp → List Nat → List Nat → (α → Hp → List Nat → List Nat → DT ρ) → DT ρ
  | .ret a, h, r, w, K => K a h r w
  | .fail, _, _, _, _ => .fail
  | .rd id k, h, r, w, K => match h.at id with
    | some b => (k b).toD h (id :: r) w K
    | none => .fail
  | .wr id b k, h, r, w, K => match look id h with
    | some _ => k.toD ((id, b) :: h) r (id :: w) K
    | none => .fail
  | .new id b k, h, r, w, K => match look id h with
    | some _ => .fail
    | none => k.toD ((id, some b) :: h) r (id :: w) K
  | .ask b k, h, r, w, K => .br b (k.toD h r w K) .fail
  | .br b x y, h, r, w, K => .br b (x.toD h r w K) (y.toD h r w K)
  | .opt o k, h, r, w, K => .opt o fun x => (k x).toD h r w K

/- regions -/
def putT (tm : List (Nat × PV)) (d : Option Nat) (x : PV) : List (Nat × PV) := match d with
  | some d => (d, x) :: tm
  | none => tm
def dstOf (ops : List Oper) (j : Nat) : Option Nat := (ops[j]?).bind (·.dst)
/-- One operation behind its guard. A guard that is not known parts the way, and is known from there on. -/
def opD {ρ : Type} (E : Env) (all : List Oper) (o : Oper) (nw : Nat) (tm : List (Nat × PV)) (hp : Hp) (K : List (Nat × PV) → Hp → List Nat → List Nat → DT ρ) : DT ρ :=
  match o.guard with
  | none => (opQ E tm o nw).toD hp [] [] fun x hp r w => K (putT tm o.dst x) hp r w
  | some (j, want) => match dstOf all j with
    | none => .fail
    | some d => match look d tm with
      | some (.v .bool b) => match want with
        | true => .br b ((opQ E ((d, .v .bool true) :: tm) o nw).toD hp [] [] fun x hp r w => K (putT ((d, .v .bool true) :: tm) o.dst x) hp r w)
            (K (putT ((d, .v .bool false) :: tm) o.dst .undef) hp [] [])
        | false => .br b (K (putT ((d, .v .bool true) :: tm) o.dst .undef) hp [] [])
            ((opQ E ((d, .v .bool false) :: tm) o nw).toD hp [] [] fun x hp r w => K (putT ((d, .v .bool false) :: tm) o.dst x) hp r w)
      | some .undef => K (putT tm o.dst .undef) hp [] []
      | _ => .fail
def opsD {ρ : Type} (E : Env) (all : List Oper) : List Oper → Nat → List (Nat × PV) → Hp → List (List Nat × List Nat) → (List (Nat × PV) → Hp → List (List Nat × List Nat) → DT ρ) → DT ρ
  | [], _, tm, hp, fp, K => K tm hp fp
  | o :: os, nw, tm, hp, fp, K => opD E all o nw tm hp fun tm hp r w => opsD E all os (nw + 64) tm hp (fp ++ [(r, w)]) K
def binds (e : Edge) : Bool := match e.ground with
  | .textOnly _ | .gcOnly _ => false
  | _ => true
def maskE : List Edge → List Nat → Nat
  | [], _ => 0
  | e :: r, ms => cond (binds e) (Nat.lor (Nat.lor (Nat.shiftLeft 1 e.on) (ms.getD e.on 0)) (maskE r ms)) (maskE r ms)
/-- For each operation those that must come before it. -/
def masks : List Oper → List Nat → List Nat
  | [], ms => ms
  | o :: os, ms => masks os (ms ++ [maskE o.after.toList ms])
def apartL (xs ys : List Nat) : Bool := !(xs.any fun x => ys.any (Nat.beq x))
def fpApart (x y : List Nat × List Nat) : Bool := apartL x.2 y.1 && apartL x.2 y.2 && apartL x.1 y.2
def drawOne (all : List Oper) (m : Nat) (oj : Oper) (fj : List Nat × List Nat) : List Oper → List (List Nat × List Nat) → Nat → Bool
  | o :: os, f :: fs, i => (Nat.testBit m i || (o.apart all.toArray oj && fpApart f fj)) && drawOne all m oj fj os fs (i + 1)
  | _, _, _ => true
def drawAll (all : List Oper) (fps : List (List Nat × List Nat)) (ms : List Nat) : List Oper → List (List Nat × List Nat) → Nat → Bool
  | o :: os, f :: fs, j => drawOne all (ms.getD j 0) o f (all.take j) fps 0 && drawAll all fps ms os fs (j + 1)
  | _, _, _ => true
def drawOk (ops : List Oper) (fps : List (List Nat × List Nat)) : Bool := drawAll ops fps (masks ops []) ops fps 0

/- which slots are read later -/
def bit (t : Nat) : Nat := Nat.shiftLeft 1 t
def has (m t : Nat) : Bool := Nat.testBit m t
def minusBit (m t : Nat) : Nat := cond (has m t) (m - bit t) m
def usesO : List Operand → Nat
  | [] => 0
  | .tmp t :: r => Nat.lor (bit t) (usesO r)
  | _ :: r => usesO r
def liveOps (all : List Oper) : List Oper → Nat → Nat
  | [], m => m
  | o :: r, m =>
    let m := liveOps all r m
    let m := match o.dst with | some d => minusBit m d | none => m
    let m := Nat.lor m (usesO o.op.operands.toList)
    match o.guard with
    | some (j, _) => match dstOf all j with | some d => Nat.lor m (bit d) | none => m
    | none => m
def liveC (ret : Nat) : Code → (Nat → Nat) → Nat → Nat
  | .skip, _, m => m
  | .region _ ops _, _, m => liveOps ops.toList ops.toList m
  | .seq a b, ex, m => liveC ret a ex (liveC ret b ex m)
  | .cond c a b, ex, m => Nat.lor (usesO [c]) (Nat.lor (liveC ret a ex m) (liveC ret b ex m))
  | .block id b, ex, m => liveC ret b (fun i => cond (Nat.beq i id) m (ex i)) m
  | .loop b, ex, _ => liveC ret b ex 0
  | .exit id, ex, _ => ex id
  | .scope b, ex, m => liveC ret b ex m
  | .ret, _, _ => ret
  | _, _, m => m
def liveI (ret : Nat) : List It → Nat × (Nat → Nat)
  | [] => (ret, fun _ => 0)
  | it :: k =>
    let r := liveI ret k
    match it with
    | .code c => (liveC ret c r.2 r.1, r.2)
    | .blk id => (r.1, fun i => cond (Nat.beq i id) r.1 (r.2 i))
    | .lp b => (liveC ret b r.2 0, r.2)
    | .join => r

/- the same state in few words: slots that are read later, rows and boxes that they hold, numbered anew -/
mutual
def idsV : PV → List Nat → List Nat
  | .sl id, acc => cond (acc.any (Nat.beq id)) acc (acc ++ [id])
  | .sv id _ _ _ _ _, acc => cond (acc.any (Nat.beq id)) acc (acc ++ [id])
  | .ptr id _, acc => cond (acc.any (Nat.beq id)) acc (acc ++ [id])
  | .agg xs, acc => idsL xs acc
  | .tup xs, acc => idsL xs acc
  | .fn _ xs, acc => idsL xs acc
  | _, acc => acc
def idsL : List PV → List Nat → List Nat
  | [], acc => acc
  | x :: xs, acc => idsL xs (idsV x acc)
end
def idsT : List (Nat × PV) → List Nat → List Nat
  | [], acc => acc
  | (_, x) :: r, acc => idsT r (idsV x acc)
/-- what boxes hold, too: boxes hold rows, and pointers to boxes, three deep -/
def idsB (hp : Hp) : List Nat → List Nat → List Nat
  | [], acc => acc
  | i :: r, acc => match hp.at i with
    | some (.box x) => idsB hp r (idsV x acc)
    | _ => idsB hp r acc
def pos (i : Nat) : List Nat → Nat → Option Nat
  | [], _ => none
  | j :: r, n => cond (Nat.beq i j) (some n) (pos i r (n + 1))
mutual
def renV (l : List Nat) : PV → Option PV
  | .sl id => (pos id l 0).map .sl
  | .sv id p o n s m => (pos id l 0).map fun i => .sv i p o n s m
  | .ptr id p => (pos id l 0).map fun i => .ptr i p
  | .agg xs => (renL l xs).map .agg
  | .tup xs => (renL l xs).map .tup
  | .fn f xs => (renL l xs).map (.fn f)
  | x => some x
def renL (l : List Nat) : List PV → Option (List PV)
  | [] => some []
  | x :: xs => (renV l x).bind fun a => (renL l xs).bind fun b => some (a :: b)
end
def renT (l : List Nat) : List (Nat × PV) → Option (List (Nat × PV))
  | [] => some []
  | (t, x) :: r => (renV l x).bind fun a => (renT l r).bind fun b => some ((t, a) :: b)
def renB (l : List Nat) : Blk → Option Blk
  | .box x => (renV l x).map .box
  | .row t xs f => some (.row t xs f)
def renH (hp : Hp) (l : List Nat) : List Nat → Nat → Option Hp
  | [], _ => some []
  | i :: r, n => match hp.at i with
    | some b => (renB l b).bind fun b => (renH hp l r (n + 1)).bind fun h => some ((n, some b) :: h)
    | none => (renH hp l r (n + 1)).bind fun h => some ((n, none) :: h)
def keepT (m : Nat) (tm : List (Nat × PV)) : Nat → Nat → List (Nat × PV)
  | 0, _ => []
  | k + 1, t => cond (has m t) (match look t tm with
      | some x => (t, x) :: keepT m tm k (t + 1)
      | none => keepT m tm k (t + 1)) (keepT m tm k (t + 1))
def nodupB : List Nat → Bool
  | [] => true
  | i :: r => !(r.any (Nat.beq i)) && nodupB r
def norm (nt m : Nat) (st : St) : Option St :=
  let tm := keepT m st.tm nt 0
  let l := idsT tm (idsL st.io [])
  let l := idsB st.hp l l
  let l := idsB st.hp l l
  let l := idsB st.hp l l
  cond (nodupB l) ((renT l tm).bind fun tm => (renH st.hp l l 0).bind fun hp => (renL l st.io).bind fun io => some ⟨tm, hp, l.length, io⟩) none

def exitI (id : Nat) : List It → Option (List It)
  | [] => none
  | .blk j :: k => cond (Nat.beq id j) (some k) (exitI id k)
  | _ :: k => exitI id k
def litC (tm : List (Nat × PV)) : Operand → Bool → List (Nat × PV)
  | .tmp t, b => (t, .v .bool b) :: tm
  | _, _ => tm
/-- What a function is run with: contracts, number of slots, slots that its results are read from, and what is done at its end. -/
structure Cx (ρ : Type) where
  E : Env
  nt : Nat
  ret : Nat
  fin : St → DT ρ
  finR : St → DT ρ
/-- The stretch up to the next place behind a parting or at a round's head. -/
def seg {ρ : Type} (C : Cx ρ) : Nat → List It → St → DT ρ
  | 0, _, _ => .fail
  | _ + 1, [], st => C.fin st
  | n + 1, it :: k, st => match it with
    | .blk _ => seg C n k st
    | .join => match norm C.nt (liveI C.ret k).1 st with
      | some st => .cut k st
      | none => .fail
    | .lp b => match norm C.nt (liveI C.ret (.lp b :: k)).1 st with
      | some st => .cut (.code b :: .lp b :: k) st
      | none => .fail
    | .code c => match c with
      | .skip => seg C n k st
      | .seq a b => seg C n (.code a :: .code b :: k) st
      | .block id b => seg C n (.code b :: .blk id :: k) st
      | .loop b => seg C n (.lp b :: k) st
      | .exit id => match exitI id k with
        | some k => seg C n k st
        | none => .fail
      | .ret => C.finR st
      | .cond c a b => match opd C.E.globs st.tm c with
        | some (.v .bool t) => .br t (seg C n (.code a :: .join :: k) ⟨litC st.tm c true, st.hp, st.nx, st.io⟩) (seg C n (.code b :: .join :: k) ⟨litC st.tm c false, st.hp, st.nx, st.io⟩)
        | _ => .fail
      | .region _ ops draw => opsD C.E ops.toList ops.toList st.nx st.tm st.hp [] fun tm hp fp =>
        cond (!draw || drawOk ops.toList fp) (seg C n k ⟨tm, hp, st.nx + 64 * ops.size, st.io⟩) .fail
      | _ => .fail
def run {ρ : Type} (C : Cx ρ) : Nat → List It → St → Option ρ
  | 0, _, _ => none
  | n + 1, its, st => (seg C 100000 its st).ev (run C n)
/-- What a monotone way of steps comes to. -/
def lm {ρ : Type} (g : Nat → Option ρ) : Option ρ := open Classical in if h : ∃ r n, g n = some r then some h.choose else none
def res {ρ : Type} (C : Cx ρ) (its : List It) (st : St) : Option ρ := lm fun n => run C n its st

/- a function: its parameters laid out, its results gathered -/
def start : (ps : List PK) → (argTy ps).den → Nat → Nat → Q (List (Nat × PV) × List PV × Nat)
  | [], _, _, n => .ret ([], [], n)
  | .val t :: r, x, i, n => (start r x.2 (i + 1) n).bind fun q => .ret ((i, mk t x.1) :: q.1, q.2)
  | .io t own :: r, x, i, n => (cond own (imp t x.1 (n + 1)) (.ret (mk t x.1, n + 1))).bind fun p => .new n (.box p.1) ((start r x.2 (i + 1) p.2).bind fun q => .ret ((i, .ptr n []) :: q.1, .ptr n [] :: q.2.1, q.2.2))
  | .mu t :: r, x, i, n => .new n (.row t x.1 false) ((start r x.2 (i + 1) (n + 1)).bind fun q => .ret ((i, .sl n) :: q.1, .sl n :: q.2.1, q.2.2))
  | .fn f :: r, x, i, n => (start r x (i + 1) n).bind fun q => .ret ((i, .fn f []) :: q.1, q.2)
  | .eat t :: r, x, i, n => .new n (.row t x.1 false) ((start r x.2 (i + 1) (n + 1)).bind fun q => .ret ((i, .sl n) :: q.1, q.2))
  | .clo f t :: r, x, i, n => .new n (.box (mk t x.1)) ((start r x.2 (i + 1) (n + 1)).bind fun q => .ret ((i, .fn f [.ptr n []]) :: q.1, .ptr n [] :: q.2.1, q.2.2))
def give (t : Ty) (own : Bool) (x : PV) : Q t.den := cond own ((dec t x).bind fun y => (eat x).bind fun _ => .ret y) (typed t x)
def resV (st : St) : ResultVar → Q PV
  | .tmp t => get (look t st.tm)
  | .cell t _ => match look t st.tm with
    | some (.ptr id []) => .rd id fun
      | .box x => .ret x
      | _ => .fail
    | _ => .fail
def gives (st : St) : (rs : List (Ty × Bool)) → List ResultVar → Q (resTy rs).den
  | [], [] => .ret ()
  | (t, own) :: r, v :: vs => (resV st v).bind fun x => (give t own x).bind fun y => (gives st r vs).bind fun q => .ret (y, q)
  | _, _ => .fail
def outBox (t : Ty) (own : Bool) (x : PV) : Q t.den := match x with
  | .ptr id _ => .rd id fun
      | .box c => .wr id none (give t own c)
      | _ => .fail
  | _ => .fail
/-- The boxes and rows that came in, as they are at the end, then the results. -/
def outs (st : St) (rs : List (Ty × Bool)) (vs : List ResultVar) : (ps : List PK) → List PV → Q (outTy ps rs).den
  | [], _ => gives st rs vs
  | .val _ :: r, l => outs st rs vs r l
  | .fn _ :: r, l => outs st rs vs r l
  | .eat _ :: r, l => outs st rs vs r l
  | .clo _ t :: r, l => match l with
    | x :: l => (outBox t false x).bind fun y => (outs st rs vs r l).bind fun q => .ret (y, q)
    | [] => .fail
  | .io t own :: r, l => match l with
    | x :: l => (outBox t own x).bind fun y => (outs st rs vs r l).bind fun q => .ret (y, q)
    | [] => .fail
  | .mu t :: r, l => match l with
    | x :: l => (rowIO t x).bind fun y => (outs st rs vs r l).bind fun q => .ret (y, q)
    | [] => .fail
/-- Slots that the results are read from. -/
def retMask : List ResultVar → Nat
  | [] => 0
  | .tmp t :: r => Nat.lor (bit t) (retMask r)
  | .cell t _ :: r => Nat.lor (bit t) (retMask r)
def cxOf (E : Env) (s : Sig) (fn : Func) : Cx (outTy s.ps s.rs).den where
  E := E
  nt := fn.ntmps
  ret := retMask fn.results.toList
  fin := fun st => (outs st s.rs fn.results.toList s.ps st.io).toD st.hp [] [] fun y _ _ _ => .done y
  finR := fun st => (outs st s.rs fn.results.toList s.ps st.io).toD st.hp [] [] fun y _ _ _ => .done y
def body (fn : Func) : Code := match fn.body with
  | some c => c
  | none => .skip
/-- A function's run up to its first place. -/
def entry (E : Env) (s : Sig) (fn : Func) (x : (argTy s.ps).den) : DT (outTy s.ps s.rs).den :=
  (start s.ps x 0 0).toD [] [] [] fun q hp _ _ => seg (cxOf E s fn) 100000 [.code (body fn)] ⟨q.1, hp, q.2.2, q.2.1⟩
def fnOf (E : Env) (s : Sig) (fn : Func) : Fun := ⟨s, fun x => (entry E s fn x).ev (res (cxOf E s fn))⟩
/-- Where a run stands: the code at a path of a body, and what is done behind it. -/
def focus : Code → List Nat → List It → Code × List It
  | .seq a b, 0 :: p, k => focus a p (.code b :: k)
  | .seq _ b, 1 :: p, k => focus b p k
  | .block id b, 0 :: p, k => focus b p (.blk id :: k)
  | .loop b, 0 :: p, k => focus b p (.lp b :: k)
  | .cond _ a _, 0 :: p, k => focus a p (.join :: k)
  | .cond _ _ b, 1 :: p, k => focus b p (.join :: k)
  | c, _, k => (c, k)
/-- A round's head of the loop at a path; what is done behind the parting at a path. -/
def atLoop (c : Code) (p : List Nat) : List It := match focus c p [] with
  | (.loop b, k) => .code b :: .lp b :: k
  | _ => []
def atJoin (c : Code) (p : List Nat) : List It := (focus c p []).2
end
end Go.Proofs.YtkihjakbbcajbaaGreat.PM
