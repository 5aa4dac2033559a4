/- Parts of the proof, joined: ImgP2, ImgP3, ImgP4, ImgP5, ImgR1, ImgR2, ImgR3, ImgR4, ImgR5, TbNr, Le, TwR, ImgT1, ImgT2, ImgT3, ImgM1, ImgM2, ImgB1. -/
import Derived.Test.YtkihjakbbcajbaaGreatImgP1
namespace Go.Proofs.YtkihjakbbcajbaaGreat.TB
set_option linter.unusedSimpArgs false
set_option linter.unusedVariables false
open Go Go.Proofs Go.Proofs.YtkihjakbbcajbaaGreat.PM Go.Proofs.YtkihjakbbcajbaaGreat.RP
@[reducible] def w8 (n:Int):Int:=IntKind.wrap .u8 n
@[reducible] def w64 (n:Int):Int:=IntKind.wrap .u64 n
noncomputable def bt8 (n:Int) (k:Nat):Int:=IntKind.wrap .u8 (Int.fdiv n (2 ^ min (Int.toNat (IntKind.wrap .i64 (8*(k:Int)))) (IntKind.bits .u64)))
noncomputable def be (n:Int):Nat→List Int
 |0=>[]
 |k+1=>bt8 n k::be n k
theorem be_len (n:Int):∀k,(be n k).length=k
 |0=>rfl
 |k+1=>by rw [be,List.length_cons,be_len n k]
theorem be_one (x:Int):be (w64 x) 1=[w8 x]:=by
 have h:(2:Int) ^ min (Int.toNat (IntKind.wrap .i64 (8*((0:Nat):Int)))) (IntKind.bits .u64)=1:=by decide
 show [bt8 (w64 x) 0]=_
 rw [bt8,h,show Int.fdiv (w64 x) 1=w64 x by simp]
 show [IntKind.wrap .u8 (IntKind.wrap .u64 x)]=[IntKind.wrap .u8 x]
 rw [IntKind.wrap_u64,IntKind.wrap_u8,IntKind.wrap_u8]
 congr 1
 omega
theorem flat_len {α:Type} {f:α→List Int} {c:Nat}:∀(x:List α),(∀y∈x,(f y).length≤c)→(x.flatMap f).length≤c*x.length
 |[],_=>Nat.zero_le _
 |y::x,h=>by
  have h1:=h y List.mem_cons_self
  have h2:=flat_len x fun z hz=>h z (List.mem_cons_of_mem _ hz)
  rw [List.flatMap_cons,List.length_append,List.length_cons,Nat.mul_succ]
  omega
theorem flat_take {α:Type} {f:α→List Int} {x:List α} {i:Nat} (h:i<x.length):(x.take (i+1)).flatMap f=(x.take i).flatMap f++f x[i]:=by
 rw [←List.take_append_getElem h,List.flatMap_append,List.flatMap_cons,List.flatMap_nil,List.append_nil]
theorem flat_range {f:Nat→List Int} (i:Nat):(List.range (i+1)).flatMap f=(List.range i).flatMap f++f i:=by
 rw [List.range_succ,List.flatMap_append,List.flatMap_cons,List.flatMap_nil,List.append_nil]
theorem put_l1 (n:Int):∀(k:Nat) (l:List Int),k≤8→l.length+k≤50000010→az.L1 n ((k:Int) - 1) l=some ((l++be n k,()),())
 |0,l,_,_=>by rw [az.L1_eq,bd_neg (by omega),be,List.append_nil]
 |k+1,l,hk,hl=>by
  have e:((k+1:Nat):Int) - 1=(k:Int):=by omega
  rw [az.L1_eq,bd_pos (by omega),az.L2_eq,e,bd_pos (by rw [W_eq (by omega) (by omega)];omega),lim_small (by decide) (by simp only [List.length_cons,List.length_nil];omega),W_eq (x:=(k:Int) - 1) (by omega) (by omega),put_l1 n k _ (by omega) (by simp only [List.length_append,List.length_cons,List.length_nil];omega),List.append_assoc]
  rfl
theorem put_f (n:Int) (k:Nat) {l:List Int} (hk:k≤8) (hl:l.length≤50000000):az.F (l,()) n (k:Int)=some ((l++be n k,()),()):=by
 rw [az.F_eq,W_eq (by omega) (by omega),put_l1 n k l hk (by omega)]
theorem put8 {l:List Int} (hl:l.length≤50000000) (n:Int):az.F (l,()) n 8=some ((l++be n 8,()),()):=put_f n 8 (by decide) hl
theorem put4 {l:List Int} (hl:l.length≤50000000) (n:Int):az.F (l,()) n 4=some ((l++be n 4,()),()):=put_f n 4 (by decide) hl
theorem put1 {l:List Int} (hl:l.length≤50000000) (x:Int):az.F (l,()) (w64 x) 1=some ((l++[w8 x],()),()):=by
 rw [←be_one];exact put_f (w64 x) 1 (by decide) hl
noncomputable def bkB (b:t1.den):List Int:=be (w64 b.2.1) 8++(be (w64 b.2.2.1) 8++be b.2.2.2.1 8)
theorem bkB_len (b:t1.den):(bkB b).length=24:=by simp only [bkB,List.length_append,be_len]
theorem wbkt_f {l:List Int} (h:l.length≤40000000) (b:t1.den):fh.F (l,()) b=some ((l++bkB b,()),()):=by
 rw [fh.F_eq,put8 (by omega),ob]
 dsimp only
 rw [put8 (by simp only [List.length_append,be_len];omega),ob]
 dsimp only
 rw [put8 (by simp only [List.length_append,be_len];omega),ob,List.append_assoc,List.append_assoc]
 rfl
noncomputable def hdB (h:t9.den):List Int:=be (w64 h.1) 4++bkB h.2.1
theorem hdB_len (h:t9.den):(hdB h).length=28:=by simp only [hdB,List.length_append,be_len,bkB_len]
noncomputable def hlB (x:List t9.den):List Int:=w8 (x.length:Int)::x.flatMap hdB
theorem hl_len (x:List t9.den):(x.flatMap hdB).length≤28*x.length:=flat_len x fun y _=>Nat.le_of_eq (hdB_len y)
theorem hlB_len (x:List t9.den):(hlB x).length≤28*x.length+1:=by
 rw [hlB,List.length_cons];have:=hl_len x;omega
theorem wheld_f {l:List Int} (h:l.length≤30000000) {x:List t9.den} (hx:x.length≤1000):cx.F (l,()) x=some ((l++hlB x,()),()):=by
 have h2:=loop_go (n:=x.length) (L:=fun i=>cx.L1 x (x.length:Int) (i:Int) (l++(w8 (x.length:Int)::(x.take i).flatMap hdB))) (fun i hi=>by
  have h3:=hl_len (x.take i)
  rw [List.length_take] at h3
  try dsimp only
  rw [cx.L1_eq,bd_pos (by omega),cx.L2_eq,bd_pos (by omega)]
  simp only [toNat_cast]
  rw [getD_get hi,put4 (by simp only [List.length_append,List.length_cons];omega),ob]
  dsimp only
  rw [wbkt_f (by simp only [List.length_append,List.length_cons,be_len];omega),ob,W_eq (by omega) (by omega),cast_add1,flat_take hi]
  simp only [hdB,List.append_assoc,List.cons_append])
 have h2:cx.L1 x (x.length:Int) 0 (l++[w8 (x.length:Int)])=cx.L1 x (x.length:Int) (x.length:Int) (l++(w8 (x.length:Int)::(x.take x.length).flatMap hdB)):=h2
 rw [cx.F_eq,put1 (by omega),ob]
 dsimp only
 rw [h2,cx.L1_eq,bd_neg (by omega),List.take_of_length_le (Nat.le_refl _)]
 rfl
noncomputable def lmB (x:List t0.den) (i:Nat):List Int:=be (w64 (x.getD i (0,0,0,())).1) 4++(be (w64 (x.getD i (0,0,0,())).2.1) 4++be (w64 (x.getD i (0,0,0,())).2.2.1) 4)
theorem lmB_len (x:List t0.den) (i:Nat):(lmB x i).length=12:=by simp only [lmB,List.length_append,be_len]
noncomputable def rvB (u:Int):List Int:=be (w64 u) 4
theorem rvB_len (u:Int):(rvB u).length=4:=be_len _ _
noncomputable def accB (a:t10.den):List Int:=
 w8 a.1::((List.range 3).flatMap (lmB a.2.1)++(w8 (List.getD a.2.2.1 (Int.toNat 0) 0)::w8 (List.getD a.2.2.1 (Int.toNat 1) 0)::(bkB a.2.2.2.1++(hlB a.2.2.2.2.1++(hlB a.2.2.2.2.2.1++(w8 (List.length a.2.2.2.2.2.2.1:Int)::(List.flatMap rvB a.2.2.2.2.2.2.1++(be a.2.2.2.2.2.2.2.1.1 8++(be a.2.2.2.2.2.2.2.1.2.1 8++be a.2.2.2.2.2.2.2.1.2.2.1 8)))))))))
structure ASmall (a:t10.den):Prop where
 us:List.length a.2.2.2.2.1≤1000
 es:List.length a.2.2.2.2.2.1≤1000
 rv:List.length a.2.2.2.2.2.2.1≤1000
theorem lm_len (x:List t0.den) (i:Nat):((List.range i).flatMap (lmB x)).length≤12*i:=by
 have:=flat_len (c:=12) (f:=lmB x) (List.range i) fun y _=>Nat.le_of_eq (lmB_len x y)
 rwa [List.length_range] at this
theorem rv_len (x:List Int):(x.flatMap rvB).length≤4*x.length:=flat_len x fun y _=>Nat.le_of_eq (rvB_len y)
theorem accB_len {a:t10.den} (s:ASmall a):(accB a).length≤100000:=by
 obtain ⟨h1,h2,h3⟩:=s
 have a1:=lm_len a.2.1 3
 have a2:=hlB_len a.2.2.2.2.1
 have a3:=hlB_len a.2.2.2.2.2.1
 have a4:=rv_len a.2.2.2.2.2.2.1
 simp only [accB,List.length_append,List.length_cons,be_len,bkB_len]
 omega
theorem wacc_f {l:List Int} (h:l.length≤20000000) {a:t10.den} (s:ASmall a):ak.F (l,()) a=some ((l++accB a,()),()):=by
 obtain ⟨h1,h2,h3⟩:=s
 obtain ⟨tn,lims,caps,⟨⟨o1,o2,o3,⟨⟩⟩,o4,o5,o6,⟨⟩⟩,us,es,rv,⟨y1,y2,y3,⟨⟩⟩,⟨⟩⟩:=a
 dsimp only at h1 h2 h3
 have q1:=lm_len lims 3
 have q2:=hlB_len us
 have q3:=hlB_len es
 have e1:=loop_go (n:=3) (L:=fun i=>ak.L1 lims (i:Int) tn caps o1 o2 o3 o4 o5 o6 us es rv y1 y2 y3 (l++(w8 tn::(List.range i).flatMap (lmB lims)))) (fun i hi=>by
  have q:=lm_len lims i
  try dsimp only
  rw [ak.L1_eq,bd_pos (by omega),ak.L2_eq,bd_pos (by omega)]
  simp only [toNat_cast]
  rw [put4 (by simp only [List.length_append,List.length_cons];omega),ob]
  dsimp only
  rw [put4 (by simp only [List.length_append,List.length_cons,be_len];omega),ob]
  dsimp only
  rw [put4 (by simp only [List.length_append,List.length_cons,be_len];omega),ob,W_eq (by omega) (by omega),cast_add1,flat_range]
  simp only [lmB,List.append_assoc,List.cons_append])
 have e1:ak.L1 lims 0 tn caps o1 o2 o3 o4 o5 o6 us es rv y1 y2 y3 (l++[w8 tn])=ak.L1 lims ((3:Nat):Int) tn caps o1 o2 o3 o4 o5 o6 us es rv y1 y2 y3 (l++(w8 tn::(List.range 3).flatMap (lmB lims))):=e1
 have e2:=fun (l0:List Int) (hl0:l0.length≤25000000)=>loop_go (n:=rv.length) (L:=fun i=>ak.L3 rv (rv.length:Int) (i:Int) tn lims caps o1 o2 o3 o4 o5 o6 us es y1 y2 y3 (l0++(rv.take i).flatMap rvB)) (fun i hi=>by
  have q:=rv_len (rv.take i)
  rw [List.length_take] at q
  try dsimp only
  rw [ak.L3_eq,bd_pos (by omega),ak.L4_eq,bd_pos (by omega)]
  simp only [toNat_cast]
  rw [put4 (by simp only [List.length_append];omega),ob,W_eq (by omega) (by omega),cast_add1,flat_take hi,getD_get hi]
  simp only [rvB,List.append_assoc])
 have e2:∀(l0:List Int),l0.length≤25000000→ak.L3 rv (rv.length:Int) 0 tn lims caps o1 o2 o3 o4 o5 o6 us es y1 y2 y3 l0=ak.L3 rv (rv.length:Int) (rv.length:Int) tn lims caps o1 o2 o3 o4 o5 o6 us es y1 y2 y3 (l0++rv.flatMap rvB):=fun l0 hl0=>by
  have:=e2 l0 hl0
  rw [List.take_of_length_le (Nat.le_refl _)] at this
  refine Eq.trans ?_ this
  show _=ak.L3 _ _ 0 _ _ _ _ _ _ _ _ _ _ _ _ _ _ (l0++[])
  rw [List.append_nil]
 have q4:=rv_len rv
 rw [ak.F_eq]
 dsimp only
 rw [put1 (by omega),ob]
 dsimp only
 rw [e1,ak.L1_eq,bd_neg (by omega),bd_pos (by decide),put1 (by simp only [List.length_append,List.length_cons,List.length_nil];omega),ob,bd_pos (by decide)]
 dsimp only
 rw [put1 (by simp only [List.length_append,List.length_cons,List.length_nil];omega),ob]
 dsimp only
 rw [wbkt_f (by simp only [List.length_append,List.length_cons,List.length_nil];omega),ob]
 dsimp only
 rw [wheld_f (by simp only [List.length_append,List.length_cons,List.length_nil,bkB_len];omega) h1,ob]
 dsimp only
 rw [wheld_f (by simp only [List.length_append,List.length_cons,List.length_nil,bkB_len];omega) h2,ob]
 dsimp only
 rw [put1 (by simp only [List.length_append,List.length_cons,List.length_nil,bkB_len];omega),ob]
 dsimp only
 rw [e2 _ (by simp only [List.length_append,List.length_cons,List.length_nil,bkB_len];omega),ak.L3_eq,bd_neg (by omega),put8 (by simp only [List.length_append,List.length_cons,List.length_nil,bkB_len];omega),ob]
 dsimp only
 rw [put8 (by simp only [List.length_append,List.length_cons,List.length_nil,bkB_len,be_len];omega),ob]
 dsimp only
 rw [put8 (by simp only [List.length_append,List.length_cons,List.length_nil,bkB_len,be_len];omega),ob]
 simp only [accB,List.append_assoc,List.cons_append,List.nil_append]
end Go.Proofs.YtkihjakbbcajbaaGreat.TB
namespace Go.Proofs.YtkihjakbbcajbaaGreat.TB
set_option linter.unusedSimpArgs false
set_option linter.unusedVariables false
open Go Go.Proofs Go.Proofs.YtkihjakbbcajbaaGreat.PM Go.Proofs.YtkihjakbbcajbaaGreat.RP
section
variable {cap:Int} {keys:List Int} {bks:List t1.den} {next:List Int} {used:List Bool} {free:Int} {x:List t3.den} {prev nxt:List Int} {head tail:Int} {l:List Int}
noncomputable def hd_ (keys:List Int) (bks:List t1.den) (p:Int):t9.den:=(keys.getD p.toNat 0,bks.getD p.toNat b0_,())
theorem rheld_f (g:TGood cap keys bks next used free x prev nxt head tail l) (hw:∀c∈bks,Z c.2.1≤9223372036854775807):dy.F (cap,keys,bks,(next,used,free,()),x,(prev,nxt,head,tail,()),())=some (l.map (hd_ keys bks),()):=by
 obtain ⟨l1,l2,l3,l4,l5,l6,l7⟩:=g.lens
 have hs:=g.order.short
 rw [dy.F_eq,keys_f g hw,ob]
 dsimp only
 have h2:=loop_go (n:=l.length) (L:=fun i=>dy.L1 ((l.map (fun p=>keys.getD p.toNat 0)).length:Int) (i:Int) cap keys bks next used free x prev nxt head tail ((l.take i).map (hd_ keys bks)) (l.map (fun p=>keys.getD p.toNat 0))) (fun i hi=>by
  have hm:l[i]∈l:=List.getElem_mem hi
  have e3:(l.map (fun p=>keys.getD p.toNat 0)).getD i 0=keys.getD (l[i]).toNat 0:=by
   rw [getD_get (by rw [List.length_map];exact hi),List.getElem_map]
  try dsimp only
  rw [dy.L1_eq,bd_pos (by rw [List.length_map];omega),dy.L2_eq,bd_pos (by rw [List.length_map];omega)]
  simp only [toNat_cast]
  rw [e3,get_f g hw (g.has_of hm),ob]
  dsimp only
  rw [lim_small (by decide) (by simp;omega),W_eq (by omega) (by omega),cast_add1,←List.take_append_getElem hi,List.map_append]
  rfl)
 refine Eq.trans h2 ?_
 try dsimp only
 rw [dy.L1_eq,bd_neg (by rw [List.length_map];omega),List.take_of_length_le (Nat.le_refl _)]
end
@[irreducible] noncomputable def heldOf (t:t5.den):List t9.den:=match dy.F t with
 |some (us,_)=>us
 |none=>[]
theorem heldOf_good {cap:Int} {keys:List Int} {bks:List t1.den} {next:List Int} {used:List Bool} {free:Int} {x:List t3.den} {prev nxt:List Int} {head tail:Int} {l:List Int} (g:TGood cap keys bks next used free x prev nxt head tail l) (hw:∀c∈bks,Z c.2.1≤9223372036854775807):heldOf (cap,keys,bks,(next,used,free,()),x,(prev,nxt,head,tail,()),())=l.map (hd_ keys bks):=by
 unfold heldOf;rw [rheld_f g hw]
theorem held_is {t:t5.den} (h:TOk t) (w:TWf t):(heldOf t).length≤16∧dy.F t=some (heldOf t,()):=by
 obtain ⟨cap,keys,bks,⟨next,used,free,⟨⟩⟩,x,⟨prev,nxt,head,tail,⟨⟩⟩,⟨⟩⟩:=t
 obtain ⟨l,g⟩:=h
 rw [heldOf_good g w.lev]
 have hs:=g.order.short
 exact ⟨by rw [List.length_map];exact hs,rheld_f g w.lev⟩
noncomputable def accOf (p:t7.den):t10.den:=(p.1,p.2.1,[p.2.2.2.1.1,p.2.2.2.2.1.1],p.2.2.1,heldOf p.2.2.2.1,heldOf p.2.2.2.2.1,p.2.2.2.2.2.1,p.2.2.2.2.2.2.1,())
theorem accOf_small {p:t7.den} (h:PartOk p) (w:PWf p):ASmall (accOf p):=by
 obtain ⟨h1,h2,h3,h4,h5,h6,h7,h8,h9,_⟩:=h
 have a:=(held_is h4 w.us).1
 have b:=(held_is h5 w.es).1
 refine ⟨?_,?_,?_⟩
 ·dsimp only [accOf]
  omega
 ·dsimp only [accOf]
  omega
 ·dsimp only [accOf]
  omega
theorem rof_f {s:t8.den} (hl:List.length s.2.2.2.1≤8) (h:∀p∈s.2.2.2.1,PartOk p) (w:∀p∈s.2.2.2.1,PWf p):eu.F s=some ((s.1,s.2.1,s.2.2.1,List.map accOf s.2.2.2.1,()),()):=by
 obtain ⟨now,seed,ep,ps,⟨⟩⟩:=s
 dsimp only at hl h w
 rw [eu.F_eq]
 dsimp only
 generalize List.replicate 32 (0:Int)=r1
 generalize List.replicate 16 (0:Int)=r2
 have h2:=loop_go (n:=ps.length) (L:=fun i=>eu.L1 ps (ps.length:Int) (i:Int) r1 r2 now seed ep [] ((ps.take i).map accOf)) (fun i hi=>by
  have hm:ps[i]∈ps:=List.getElem_mem hi
  obtain ⟨q1,q2,q3,q4,q5,q6,q7,q8,q9,_⟩:=h _ hm
  have ww:=w _ hm
  try dsimp only
  rw [eu.L1_eq,bd_pos (by omega),eu.L2_eq,bd_pos (by omega)]
  simp only [toNat_cast]
  rw [getD_get hi,(held_is q4 ww.us).2,ob,(held_is q5 ww.es).2,ob,lim_small (by decide) (by omega)]
  dsimp only
  rw [lim_small (by decide) (by simp;omega),W_eq (by omega) (by omega),cast_add1,←List.take_append_getElem hi,List.map_append]
  rfl)
 refine Eq.trans h2 ?_
 try dsimp only
 rw [eu.L1_eq,bd_neg (by omega),List.take_of_length_le (Nat.le_refl _)]
end Go.Proofs.YtkihjakbbcajbaaGreat.TB
namespace Go.Proofs.YtkihjakbbcajbaaGreat.TB
set_option linter.unusedSimpArgs false
set_option linter.unusedVariables false
open Go Go.Proofs Go.Proofs.YtkihjakbbcajbaaGreat.PM Go.Proofs.YtkihjakbbcajbaaGreat.RP
def LateL (l:List t1.den) (t:Int):Prop:=∃b∈l,Z b.2.2.2.1>t
def LateP (p:t7.den) (t:Int):Prop:=Z p.2.2.1.2.2.2.1>t∨LateL p.2.2.2.1.2.2.1 t∨LateL p.2.2.2.2.1.2.2.1 t
theorem late_at {l:List t1.den} {t:Int}:LateL l t↔∃i:Nat,∃h:i<l.length,Z (l[i]).2.2.2.1>t:=by
 constructor
 ·rintro ⟨b,hb,h⟩
  obtain ⟨i,hi,rfl⟩:=List.mem_iff_getElem.1 hb
  exact ⟨i,hi,h⟩
 ·rintro ⟨i,hi,h⟩
  exact ⟨_,List.getElem_mem hi,h⟩
theorem clate1_f (b:t1.den) (t:Int):gq.F b t=some (t,decide (Z b.2.2.2.1>t),()):=gq.F_eq b t
theorem contB_f {l:List t1.den} (hl:l.length≤1000) (t:Int):(LateL l t∧ek.F l t=some (t,true,()))∨(¬LateL l t∧ek.F l t=some (t,false,())):=by
 rw [ek.F_eq,bh.F_eq]
 rcases find_loop (n:=l.length) (L:=fun i=>bh.L1 l (l.length:Int) (i:Int) t) (p:=fun i:Nat=>∃h:i<l.length,Z (l[i]).2.2.2.1>t) (hit:=fun i=>some (t,(i:Int),())) (miss:=some (t, -1,())) (fun i hi=>by
  try dsimp only
  rw [bh.L1_eq,bd_pos (by omega),bh.L2_eq,bd_pos (by omega)]
  simp only [toNat_cast]
  rw [getD_get hi,clate1_f,ob]
  dsimp only
  by_cases h:Z (l[i]).2.2.2.1>t
  ·rw [bd_pos h];exact .inl ⟨⟨hi,h⟩,rfl⟩
  ·rw [bd_neg h,bh.L3_eq,W_eq (by omega) (by omega),cast_add1];exact .inr ⟨fun ⟨_,z⟩=>h z,rfl⟩) (by
  try dsimp only
  rw [bh.L1_eq,bd_neg (by omega)]) with ⟨i,hi,h1,_,h2⟩|⟨h1,h2⟩
 ·refine .inl ⟨late_at.2 ⟨i,h1⟩,?_⟩
  rw [show bh.L1 l (l.length:Int) 0 t=_ from h2,ob]
  dsimp only
  rw [decide_eq_true (by omega)]
 ·refine .inr ⟨fun z=>?_,?_⟩
  ·obtain ⟨i,hi,h⟩:=late_at.1 z
   exact h1 i hi ⟨hi,h⟩
  ·rw [show bh.L1 l (l.length:Int) 0 t=_ from h2,ob]
   rfl
theorem late20_f {l:List t1.den} (hl:l.length≤1000) (t:Int):(LateL l t∧cq.F l t=some (true,()))∨(¬LateL l t∧cq.F l t=some (false,())):=by
 rw [cq.F_eq]
 rcases find_loop (n:=l.length) (L:=fun i=>cq.L1 l t (i:Int)) (p:=fun i:Nat=>∃h:i<l.length,Z (l[i]).2.2.2.1>t) (hit:=fun i=>some (true,())) (miss:=some (false,())) (fun i hi=>by
  try dsimp only
  rw [cq.L1_eq,bd_pos (by omega),cq.L2_eq,bd_pos (by omega)]
  simp only [toNat_cast]
  rw [getD_get hi]
  by_cases h:Z (l[i]).2.2.2.1>t
  ·rw [bd_pos h];exact .inl ⟨⟨hi,h⟩,rfl⟩
  ·rw [bd_neg h,cq.L3_eq,W_eq (by omega) (by omega),cast_add1];exact .inr ⟨fun ⟨_,z⟩=>h z,rfl⟩) (by
  try dsimp only
  rw [cq.L1_eq,bd_neg (by omega)]) with ⟨i,hi,h1,_,h2⟩|⟨h1,h2⟩
 ·exact .inl ⟨late_at.2 ⟨i,h1⟩,h2⟩
 ·refine .inr ⟨fun z=>?_,h2⟩
  obtain ⟨i,hi,h⟩:=late_at.1 z
  exact h1 i hi ⟨hi,h⟩
theorem alate_f {p:t7.den} (s:PSmall p) (t:Int):(LateP p t∧ig.F p t=some (true,()))∨(¬LateP p t∧ig.F p t=some (false,())):=by
 have h1:=s.us.bks
 have h2:=s.es.bks
 rw [ig.F_eq,clate1_f,ob]
 dsimp only
 by_cases a:Z p.2.2.1.2.2.2.1>t
 ·rw [bd_pos a];exact .inl ⟨.inl a,rfl⟩
 rw [bd_neg a]
 rcases contB_f (l:=p.2.2.2.1.2.2.1) (by omega) t with ⟨b,e⟩|⟨b,e⟩
 ·rw [e,ob,bt rfl];exact .inl ⟨.inr (.inl b),rfl⟩
 rw [e,ob,bf rfl]
 dsimp only
 rcases contB_f (l:=p.2.2.2.2.1.2.2.1) (by omega) t with ⟨c,e⟩|⟨c,e⟩
 ·rw [e,ob];exact .inl ⟨.inr (.inr c),rfl⟩
 ·rw [e,ob];exact .inr ⟨fun z=>z.elim a fun z=>z.elim b c,rfl⟩
theorem contP_f {l:List t7.den} (hl:l.length≤1000) (hs:∀p∈l,PSmall p) (s:t8.den):((∃p∈l,LateP p s.1)∧fd.F l s=some (s,true,()))∨((¬∃p∈l,LateP p s.1)∧fd.F l s=some (s,false,())):=by
 obtain ⟨now,seed,ep,ps,⟨⟩⟩:=s
 rw [fd.F_eq,bi.F_eq]
 dsimp only
 rcases find_loop (n:=l.length) (L:=fun i=>bi.L1 l (l.length:Int) (i:Int) now seed ep ps) (p:=fun i:Nat=>∃h:i<l.length,LateP l[i] now) (hit:=fun i=>some ((now,seed,ep,ps,()),(i:Int),())) (miss:=some ((now,seed,ep,ps,()), -1,())) (fun i hi=>by
  try dsimp only
  rw [bi.L1_eq,bd_pos (by omega),bi.L2_eq,bd_pos (by omega)]
  simp only [toNat_cast]
  rw [getD_get hi,gr.F_eq]
  dsimp only
  rcases alate_f (hs _ (List.getElem_mem hi)) now with ⟨a,e⟩|⟨a,e⟩
  ·rw [e,ob,ob,bt rfl];exact .inl ⟨⟨hi,a⟩,rfl⟩
  ·rw [e,ob,ob,bf rfl,bi.L3_eq,W_eq (by omega) (by omega),cast_add1];exact .inr ⟨fun ⟨_,z⟩=>a z,rfl⟩) (by
  try dsimp only
  rw [bi.L1_eq,bd_neg (by omega)]) with ⟨i,hi,⟨_,h1⟩,_,h2⟩|⟨h1,h2⟩
 ·refine .inl ⟨⟨_,List.getElem_mem hi,h1⟩,?_⟩
  rw [show bi.L1 l (l.length:Int) 0 now seed ep ps=_ from h2,ob]
  dsimp only
  rw [decide_eq_true (by omega)]
 ·refine .inr ⟨fun ⟨p,hp,z⟩=>?_,?_⟩
  ·obtain ⟨i,hi,rfl⟩:=List.mem_iff_getElem.1 hp
   exact h1 i hi ⟨hi,z⟩
  ·rw [show bi.L1 l (l.length:Int) 0 now seed ep ps=_ from h2,ob]
   rfl
def EpOk (ep:List Int):Prop:=∀i:Nat,i<16→¬Z (ep.getD i 0)>1000000
theorem max_l2 {ep:List Int} (hl:ep.length=16):∀(k i:Nat) (m:Int),i+k=16→∃m',dz.L2 ep m (i:Int)=some (m',())∧(m'>1000000↔m>1000000∨∃j:Nat,i≤j∧j<16∧Z (ep.getD j 0)>1000000)
 |0,i,m,h=>by
  rw [dz.L2_eq,bd_neg (by omega)]
  refine ⟨m,rfl,.inl,fun h=>h.elim id fun ⟨j,h1,h2,_⟩=>by omega⟩
 |k+1,i,m,h=>by
  obtain ⟨m',e,hm⟩:=max_l2 hl k (i+1) (max m (ep.getD i 0)) (by omega)
  rw [dz.L2_eq,bd_pos (by omega),dz.L3_eq,bd_pos (by omega),W_eq (by omega) (by omega),cast_add1,toNat_cast]
  refine ⟨m',e,hm.trans ⟨?_,?_⟩⟩
  ·rintro (h1|⟨j,h1,h2,h3⟩)
   ·by_cases h2:m>1000000
    ·exact .inl h2
    ·exact .inr ⟨i,Nat.le_refl _,by omega,by show ep.getD i 0>1000000;omega⟩
   ·exact .inr ⟨j,by omega,h2,h3⟩
  ·rintro (h1|⟨j,h1,h2,h3⟩)
   ·exact .inl (by omega)
   ·by_cases e:j=i
    ·subst e
     have h3:ep.getD j 0>1000000:=h3
     exact .inl (by omega)
    ·exact .inr ⟨j,by omega,h2,h3⟩
theorem max_f {ep:List Int} (hl:ep.length=16):∃m,dz.F ep=some (m,())∧(m>1000000↔¬EpOk ep):=by
 obtain ⟨m',e,hm⟩:=max_l2 hl 15 1 (ep.getD 0 0) rfl
 refine ⟨m',?_,hm.trans ?_⟩
 ·rw [dz.F_eq,bd_neg (by omega),dz.L1_eq,bd_pos (by omega)]
  exact e
 ·constructor
  ·rintro (h|⟨j,h1,h2,h3⟩) o
   ·exact o 0 (by omega) h
   ·exact o j h2 h3
  ·intro h
   apply Classical.byContradiction
   intro n
   refine h fun i hi z=>n ?_
   by_cases e:i=0
   ·subst e;exact .inl z
   ·exact .inr ⟨i,by omega,hi,z⟩
structure SVal (s:t8.den):Prop where
 reg:GReg s.2.2.2.1
 ep:EpOk s.2.2.1
 late:¬∃p∈s.2.2.2.1,LateP p s.1
structure SWf (s:t8.den):Prop where
 few:List.length s.2.2.2.1≤20
 small:∀p∈s.2.2.2.1,PSmall p
 wf:∀p∈s.2.2.2.1,PWf p
 eps:List.length s.2.2.1=16
 seed:List.length s.2.1=32
theorem svalid_says {s:t8.den} (w:SWf s):Says (SVal s) (fy.F s):=by
 obtain ⟨few,sm,wf,eps,_⟩:=w
 obtain ⟨now,seed,ep,ps,⟨⟩⟩:=s
 dsimp only at few sm wf eps
 rw [fy.F_eq,fi.F_eq]
 dsimp only
 rcases check_f wf few with ⟨g,e,_⟩|⟨g,c,hc,e,_⟩
 ·rw [e,ob,bne_neg rfl,fi.L1_eq,bd_pos (by decide)]
  obtain ⟨m,em,hm⟩:=max_f eps
  have et:List.take ((Int.toNat 16) - (Int.toNat 0)) (List.drop (Int.toNat 0) ep)=ep:=by
   show List.take 16 ep=ep
   exact List.take_of_length_le (by omega)
  rw [et,em,ob]
  dsimp only
  by_cases a:m>1000000
  ·rw [bd_pos a];exact .inr ⟨fun z=>hm.1 a z.ep,rfl⟩
  rw [bd_neg a]
  have ho:EpOk ep:=Classical.byContradiction fun z=>a (hm.2 z)
  rcases contP_f (l:=ps) (by omega) sm (now,seed,ep,ps,()) with ⟨b,e⟩|⟨b,e⟩
  ·rw [e,ob,bt rfl];exact .inr ⟨fun z=>z.late b,rfl⟩
  ·rw [e,ob,bf rfl,fi.L2_eq];exact .inl ⟨⟨g,ho,b⟩,rfl⟩
 ·have c0:c≠0:=by omega
  rw [e,ob,bne_pos c0];exact .inr ⟨fun z=>g z.reg,rfl⟩
theorem rvalid_says {s:t8.den} (w:SWf s):Says (SVal s) (ag.F s):=by
 obtain ⟨few,sm,wf,eps,_⟩:=w
 obtain ⟨now,seed,ep,ps,⟨⟩⟩:=s
 dsimp only at few sm wf eps
 rw [ag.F_eq]
 dsimp only
 rcases check_f wf few with ⟨g,_,e⟩|⟨g,c,hc,_,e⟩
 ·rw [e,ob,bne_neg rfl,ag.L1_eq]
  have a:=loop_all (n:=16) (L:=fun i=>ag.L2 (i:Int) now seed ep ps) (ok:=fun i=>¬Z (ep.getD i 0)>1000000) (stop:=some (8,())) (fun i hi=>by
   try dsimp only
   rw [ag.L2_eq,bd_pos (by omega),ag.L3_eq,bd_pos (by omega)]
   simp only [toNat_cast]
   by_cases h:Z (ep.getD i 0)>1000000
   ·rw [bd_pos h];exact .inr ⟨fun z=>z h,rfl⟩
   ·rw [bd_neg h,ag.L7_eq,W_eq (by omega) (by omega),cast_add1];exact .inl ⟨h,rfl⟩)
  have b:=loop_all (n:=ps.length) (L:=fun i=>ag.L4 (i:Int) now seed ep ps) (ok:=fun i=>∀h:i<ps.length,¬LateP ps[i] now) (stop:=some (8,())) (fun i hi=>by
   have h1:=(sm _ (List.getElem_mem hi)).us.bks
   have h2:=(sm _ (List.getElem_mem hi)).es.bks
   try dsimp only
   rw [ag.L4_eq,bd_pos (by omega),ag.L5_eq,bd_pos (by omega)]
   simp only [toNat_cast]
   rw [getD_get hi]
   by_cases a:Z (ps[i]).2.2.1.2.2.2.1>now
   ·rw [bd_pos a];exact .inr ⟨fun z=>z hi (.inl a),rfl⟩
   rw [bd_neg a]
   rcases late20_f (l:=(ps[i]).2.2.2.1.2.2.1) (by omega) now with ⟨b,e⟩|⟨b,e⟩
   ·rw [e,ob,bt rfl];exact .inr ⟨fun z=>z hi (.inr (.inl b)),rfl⟩
   rw [e,ob,bf rfl]
   rcases late20_f (l:=(ps[i]).2.2.2.2.1.2.2.1) (by omega) now with ⟨c,e⟩|⟨c,e⟩
   ·rw [e,ob,bt rfl];exact .inr ⟨fun z=>z hi (.inr (.inr c)),rfl⟩
   ·rw [e,ob,bf rfl,ag.L6_eq,W_eq (by omega) (by omega),cast_add1]
    exact .inl ⟨fun _ z=>z.elim a fun z=>z.elim b c,rfl⟩)
  rcases a with ⟨a,e⟩|⟨a,e⟩
  ·rw [show ag.L2 0 now seed ep ps=_ from e]
   try dsimp only
   rw [ag.L2_eq,bd_neg (by omega)]
   rcases b with ⟨b,e⟩|⟨b,e⟩
   ·rw [show ag.L4 0 now seed ep ps=_ from e]
    try dsimp only
    rw [ag.L4_eq,bd_neg (by omega)]
    refine .inl ⟨⟨g,a,fun ⟨p,hp,z⟩=>?_⟩,rfl⟩
    obtain ⟨i,hi,rfl⟩:=List.mem_iff_getElem.1 hp
    exact b i hi hi z
   ·rw [show ag.L4 0 now seed ep ps=_ from e]
    exact .inr ⟨fun z=>b fun i hi h z2=>z.late ⟨_,List.getElem_mem h,z2⟩,rfl⟩
  ·rw [show ag.L2 0 now seed ep ps=_ from e]
   exact .inr ⟨fun z=>a z.ep,rfl⟩
 ·have c0:c≠0:=by omega
  rw [e,ob,bne_pos c0];exact .inr ⟨fun z=>g z.reg,rfl⟩
end Go.Proofs.YtkihjakbbcajbaaGreat.TB
namespace Go.Proofs.YtkihjakbbcajbaaGreat.TB
set_option linter.unusedSimpArgs false
set_option linter.unusedVariables false
open Go Go.Proofs Go.Proofs.YtkihjakbbcajbaaGreat.PM Go.Proofs.YtkihjakbbcajbaaGreat.RP
noncomputable def epB (ep:List Int) (i:Nat):List Int:=be (w64 (ep.getD i 0)) 4
theorem ep_len (ep:List Int) (i:Nat):((List.range i).flatMap (epB ep)).length≤4*i:=by
 have:=flat_len (c:=4) (f:=epB ep) (List.range i) fun y _=>Nat.le_of_eq (be_len _ _)
 rwa [List.length_range] at this
noncomputable def mdB (now:Int) (seed ep:List Int) (ac:List t10.den):List Int:=
 be now 8++(List.take 32 seed++((List.range 16).flatMap (epB ep)++(w8 (ac.length:Int)::ac.flatMap accB)))
theorem ac_len {ac:List t10.den} (h:∀a∈ac,ASmall a):(ac.flatMap accB).length≤100000*ac.length:=flat_len ac fun a ha=>accB_len (h a ha)
theorem wep_l2 {now:Int} {seed ep:List Int} {ac:List t10.den} {b:List Int} (hb:b.length≤1000):bw.L2 ep 0 now seed ac b=bw.L4 (ac.length:Int) 0 ac ((b++(List.range 16).flatMap (epB ep))++[w8 (ac.length:Int)]):=by
 have e1:=loop_go (n:=16) (L:=fun i=>bw.L2 ep (i:Int) now seed ac (b++(List.range i).flatMap (epB ep))) (fun i hi=>by
  have q:=ep_len ep i
  try dsimp only
  rw [bw.L2_eq,bd_pos (by omega),bw.L3_eq,bd_pos (by omega)]
  simp only [toNat_cast]
  rw [put4 (by simp only [List.length_append];omega),ob,W_eq (by omega) (by omega),cast_add1,flat_range]
  simp only [epB,List.append_assoc])
 have e1:bw.L2 ep 0 now seed ac (b++[])=bw.L2 ep ((16:Nat):Int) now seed ac (b++(List.range 16).flatMap (epB ep)):=e1
 rw [List.append_nil] at e1
 have q:=ep_len ep 16
 rw [e1,bw.L2_eq,bd_neg (by omega),put1 (by simp only [List.length_append,List.length_cons,List.length_nil];omega),ob]
theorem wacc_l4 {ac:List t10.den} {b:List Int} (hb:b.length≤2000) (hl:ac.length≤100) (ha:∀a∈ac,ASmall a):bw.L4 (ac.length:Int) 0 ac b=some (b++ac.flatMap accB,0,()):=by
 have e1:=loop_go (n:=ac.length) (L:=fun i=>bw.L4 (ac.length:Int) (i:Int) ac (b++(ac.take i).flatMap accB)) (fun i hi=>by
  have q:=ac_len (ac:=ac.take i) fun a h=>ha a (List.mem_of_mem_take h)
  rw [List.length_take] at q
  try dsimp only
  rw [bw.L4_eq,bd_pos (by omega),bw.L5_eq,bd_pos (by omega)]
  simp only [toNat_cast]
  rw [getD_get hi,wacc_f (by simp only [List.length_append];omega) (ha _ (List.getElem_mem hi)),ob,W_eq (by omega) (by omega),cast_add1,flat_take hi,List.append_assoc])
 have e1:bw.L4 (ac.length:Int) 0 ac (b++[])=bw.L4 (ac.length:Int) (ac.length:Int) ac (b++(ac.take ac.length).flatMap accB):=e1
 rw [List.append_nil,List.take_of_length_le (Nat.le_refl _)] at e1
 rw [e1,bw.L4_eq,bd_neg (by omega)]
noncomputable def imB (s:t8.den):List Int:=mdB s.1 s.2.1 s.2.2.1 (List.map accOf s.2.2.2.1)
theorem accs_small {s:t8.den} (w:SWf s) (v:SVal s):∀a∈List.map accOf s.2.2.2.1,ASmall a:=fun a ha=>by
 obtain ⟨p,hp,rfl⟩:=List.mem_map.1 ha
 exact accOf_small (v.reg.ok p hp) (w.wf p hp)
theorem of_f {s:t8.den} (w:SWf s) (v:SVal s):g9.F s=some ((s.1,s.2.1,s.2.2.1,List.map accOf s.2.2.2.1,()),0,()):=by
 rw [g9.F_eq,(svalid_says w).yes v,ob,bne_neg rfl,g9.L1_eq]
 rw [show eu.F (s.1,s.2.1,s.2.2.1,s.2.2.2.1,())=_ from rof_f v.reg.len v.reg.ok w.wf,ob]
theorem write_f {s:t8.den} (w:SWf s) (v:SVal s):bw.F s=some (imB s,0,()):=by
 have q0:=be_len s.1 8
 have q:=ep_len s.2.2.1 16
 have hl:=v.reg.len
 have hs:=w.seed
 rw [bw.F_eq,(svalid_says w).yes v,ob,bne_neg rfl,bw.L1_eq,show g9.F (s.1,s.2.1,s.2.2.1,s.2.2.2.1,())=_ from of_f w v,ob]
 dsimp only
 rw [put8 (by decide),ob,bd_pos (by decide)]
 dsimp only
 have et:List.take ((Int.toNat 32) - (Int.toNat 0)) (List.drop (Int.toNat 0) s.2.1)=List.take 32 s.2.1:=rfl
 rw [et,List.nil_append,lim_small (by decide) (by rw [List.length_take];omega),wep_l2 (by rw [List.length_append,List.length_take];omega),wacc_l4 (by simp only [List.length_append,List.length_take,List.length_cons,List.length_nil];omega) (by rw [List.length_map];omega) (accs_small w v)]
 simp only [imB,mdB,List.append_assoc,List.cons_append,List.nil_append]
end Go.Proofs.YtkihjakbbcajbaaGreat.TB
namespace Go.Proofs.YtkihjakbbcajbaaGreat.TB
set_option linter.unusedSimpArgs false
set_option linter.unusedVariables false
open Go Go.Proofs Go.Proofs.YtkihjakbbcajbaaGreat.PM Go.Proofs.YtkihjakbbcajbaaGreat.RP
def vN:List Int→Nat→Nat
 |[],n=>n
 |x::xs,n=>vN xs (n*256+x.toNat)
def Bytes (b:List Int):Prop:=∀x∈b,0≤Z x∧Z x<256
theorem vN_snoc (x:Int):∀(xs:List Int) (n:Nat),vN (xs++[x]) n=vN xs n*256+x.toNat
 |[],_=>rfl
 |y::ys,n=>vN_snoc x ys _
theorem vN_lt:∀(xs:List Int) (n:Nat),Bytes xs→vN xs n<(n+1)*256 ^ xs.length
 |[],n,_=>by simp [vN]
 |x::xs,n,h=>by
  have hx:0≤x∧x<256:=h x List.mem_cons_self
  have:=vN_lt xs (n*256+x.toNat) fun y hy=>h y (List.mem_cons_of_mem _ hy)
  have h2:n*256+x.toNat+1≤(n+1)*256:=by omega
  have h3:(n*256+x.toNat+1)*256 ^ xs.length≤((n+1)*256)*256 ^ xs.length:=Nat.mul_le_mul_right _ h2
  rw [List.length_cons,Nat.pow_succ]
  show vN xs (n*256+x.toNat)<(n+1)*(256 ^ xs.length*256)
  have h4:(n+1)*256*256 ^ xs.length=(n+1)*(256 ^ xs.length*256):=by
   rw [Nat.mul_assoc,Nat.mul_comm 256]
  omega
theorem vN_small {xs:List Int} (h:Bytes xs) (hl:xs.length≤8):vN xs 0<18446744073709551616:=by
 have h1:=vN_lt xs 0 h
 have h2:256 ^ xs.length≤256 ^ 8:=Nat.pow_le_pow_right (by decide) hl
 have h3:(256:Nat) ^ 8=18446744073709551616:=by decide
 omega
theorem or_bytes {m c:Nat} (hc:c<256) (hm:m*256+c<18446744073709551616):PM.bits .or .u64 ((m*256:Nat):Int) (c:Int)=((m*256+c:Nat):Int):=by
 have e:m*256|||c=m*256+c:=by
  have:=Nat.two_pow_add_eq_or_of_lt (i:=8) (b:=c) (by omega) m
  rw [Nat.mul_comm m 256]
  exact this.symm
 show IntKind.wrap .u64 (((BitVec.ofInt 64 ((m*256:Nat):Int))|||(BitVec.ofInt 64 ((c:Nat):Int))).toNat:Int)=_
 rw [BitVec.toNat_or,BitVec.toNat_ofInt,BitVec.toNat_ofInt]
 have e1:((((m*256:Nat):Int)) % ((2 ^ 64:Nat):Int)).toNat=m*256:=by
  have:(2:Nat) ^ 64=18446744073709551616:=by decide
  rw [this];omega
 have e2:(((c:Nat):Int) % ((2 ^ 64:Nat):Int)).toNat=c:=by
  have:(2:Nat) ^ 64=18446744073709551616:=by decide
  rw [this];omega
 rw [e1,e2,e,IntKind.wrap_u64]
 omega
theorem Bytes.take {b:List Int} (h:Bytes b) (k:Nat):Bytes (b.take k):=fun x hx=>h x (List.mem_of_mem_take hx)
theorem Bytes.drop {b:List Int} (h:Bytes b) (k:Nat):Bytes (b.drop k):=fun x hx=>h x (List.mem_of_mem_drop hx)
theorem vN_step {b:List Int} (hb:Bytes b) {i:Nat} (hi:i<b.length) (h8:i<8):vN (b.take (i+1)) 0=vN (b.take i) 0*256+(b.getD i 0).toNat∧0≤b.getD i 0∧b.getD i 0<256∧vN (b.take i) 0*256+(b.getD i 0).toNat<18446744073709551616:=by
 have e:vN (b.take (i+1)) 0=vN (b.take i) 0*256+(b.getD i 0).toNat:=by rw [take_snoc hi,vN_snoc]
 have hx:0≤b.getD i 0∧b.getD i 0<256:=by rw [getD_get hi];exact hb _ (List.getElem_mem hi)
 have:=vN_small (hb.take (i+1)) (by rw [List.length_take];omega)
 exact ⟨e,hx.1,hx.2,by omega⟩
theorem get_ok {b:List Int} (hb:Bytes b) (s:Bool) {k:Nat} (k8:k≤8) (h:k≤b.length) (hl:b.length≤100000):ah.F (b,s,()) (k:Int)=some ((b.drop k,s,()),((vN (b.take k) 0:Nat):Int),()):=by
 rw [ah.F_eq]
 dsimp only
 rw [bd_neg (by omega),ah.L1_eq,bd_pos (by omega)]
 have et:List.take (Int.toNat (k:Int) - Int.toNat 0) (List.drop (Int.toNat 0) b)=b.take k:=by rw [toNat_cast];rfl
 rw [et]
 have tl:(b.take k).length=k:=by rw [List.length_take];omega
 have e2:=loop_go (n:=k) (L:=fun i=>ah.L2 (k:Int) ((vN (b.take i) 0:Nat):Int) (b.take k) (k:Int) (i:Int) b s) (fun i hi=>by
  obtain ⟨v1,v2,v3,v4⟩:=vN_step hb (i:=i) (by omega) (by omega)
  have eg:(b.take k).getD i 0=b.getD i 0:=by rw [getD_get (by omega),getD_get (by omega),List.getElem_take]
  obtain ⟨c,hc⟩:∃c:Nat,b.getD i 0=(c:Int):=⟨(b.getD i 0).toNat,by omega⟩
  rw [hc] at v1 v2 v3 v4
  rw [toNat_cast] at v1 v4
  have p8:(2:Int) ^ min (Int.toNat 8) (IntKind.bits .u64)=256:=by decide
  try dsimp only
  rw [ah.L2_eq,bd_pos (by omega),ah.L3_eq,bd_pos (by omega),bd_pos (by decide)]
  simp only [toNat_cast]
  rw [eg,hc,p8,W_eq (by omega) (by omega),cast_add1,v1]
  have w1:IntKind.wrap .u64 (((vN (b.take i) 0:Nat):Int)*256)=((vN (b.take i) 0*256:Nat):Int):=by rw [IntKind.wrap_u64];omega
  have w2:IntKind.wrap .u64 ((c:Nat):Int)=((c:Nat):Int):=by rw [IntKind.wrap_u64];omega
  rw [w1,w2,or_bytes (by omega) v4])
 have e2:ah.L2 (k:Int) 0 (b.take k) (k:Int) 0 b s=ah.L2 (k:Int) ((vN (b.take k) 0:Nat):Int) (b.take k) (k:Int) (k:Int) b s:=e2
 rw [tl,e2,ah.L2_eq,bd_neg (by omega),bd_pos (by omega)]
 simp only [toNat_cast]
 rw [List.take_of_length_le (by rw [List.length_drop];omega)]
theorem get_no {b:List Int} (s:Bool) {k:Nat} (h:¬k≤b.length):ah.F (b,s,()) (k:Int)=some (([],true,()),0,()):=by
 rw [ah.F_eq]
 dsimp only
 rw [bd_pos (by omega)]
theorem take_ok {b:List Int} (hb:Bytes b) (s:Bool) {k:Nat} (k8:k≤8) (h:k≤b.length) (hl:b.length≤100000):au.F (b,s,()) (k:Int)=some ((b.drop k,s,()),((vN (b.take k) 0:Nat):Int),()):=by
 rw [au.F_eq]
 dsimp only
 rw [bd_neg (by omega),au.L1_eq]
 have e2:=loop_go (n:=k) (L:=fun i=>au.L2 (k:Int) ((vN (b.take i) 0:Nat):Int) (i:Int) b s) (fun i hi=>by
  obtain ⟨v1,v2,v3,v4⟩:=vN_step hb (i:=i) (by omega) (by omega)
  obtain ⟨c,hc⟩:∃c:Nat,b.getD i 0=(c:Int):=⟨(b.getD i 0).toNat,by omega⟩
  rw [hc] at v1 v2 v3 v4
  rw [toNat_cast] at v1 v4
  have p8:(2:Int) ^ min (Int.toNat 8) (IntKind.bits .u64)=256:=by decide
  try dsimp only
  rw [au.L2_eq,bd_pos (by omega),au.L3_eq,bd_pos (by decide),bd_pos (by omega)]
  simp only [toNat_cast]
  rw [hc,p8,W_eq (by omega) (by omega),cast_add1,v1]
  have w1:IntKind.wrap .u64 (IntKind.wrap .u64 (((vN (b.take i) 0:Nat):Int)*256)+IntKind.wrap .u64 ((c:Nat):Int))=((vN (b.take i) 0*256+c:Nat):Int):=by rw [IntKind.wrap_u64,IntKind.wrap_u64,IntKind.wrap_u64];omega
  rw [w1])
 have e2:au.L2 (k:Int) 0 0 b s=au.L2 (k:Int) ((vN (b.take k) 0:Nat):Int) (k:Int) b s:=e2
 rw [e2,au.L2_eq,bd_neg (by omega),bd_pos (by omega)]
 simp only [toNat_cast]
 rw [List.take_of_length_le (by rw [List.length_drop];omega)]
theorem take_no {b:List Int} (s:Bool) {k:Nat} (h:¬k≤b.length):au.F (b,s,()) (k:Int)=some ((b,true,()),0,()):=by
 rw [au.F_eq]
 dsimp only
 rw [bd_pos (by omega)]
end Go.Proofs.YtkihjakbbcajbaaGreat.TB
namespace Go.Proofs.YtkihjakbbcajbaaGreat.TB
set_option linter.unusedSimpArgs false
set_option linter.unusedVariables false
open Go Go.Proofs Go.Proofs.YtkihjakbbcajbaaGreat.PM Go.Proofs.YtkihjakbbcajbaaGreat.RP
noncomputable def nA (b:List Int) (i k:Nat):Int:=((vN ((b.drop i).take k) 0:Nat):Int)
theorem get_short (b:List Int) (hb:Bytes b) (hl:b.length≤100000) {k:Nat} (k8:k≤8):∃b' n,Bytes b'∧b'.length≤b.length∧ah.F (b,true,()) (k:Int)=some ((b',true,()),n,()):=by
 by_cases h:k≤b.length
 ·exact ⟨b.drop k,_,hb.drop k,by rw [List.length_drop];omega,get_ok hb true k8 h hl⟩
 ·exact ⟨[],0,(fun x hx=>by cases hx),Nat.zero_le _,get_no true h⟩
theorem take_short (b:List Int) (hb:Bytes b) (hl:b.length≤100000) {k:Nat} (k8:k≤8):∃b' n,Bytes b'∧b'.length≤b.length∧au.F (b,true,()) (k:Int)=some ((b',true,()),n,()):=by
 by_cases h:k≤b.length
 ·exact ⟨b.drop k,_,hb.drop k,by rw [List.length_drop];omega,take_ok hb true k8 h hl⟩
 ·exact ⟨b,0,hb,Nat.le_refl _,take_no true h⟩
end Go.Proofs.YtkihjakbbcajbaaGreat.TB
namespace Go.Proofs.YtkihjakbbcajbaaGreat.RD
set_option linter.unusedSimpArgs false
set_option linter.unusedVariables false
open Go Go.Proofs Go.Proofs.YtkihjakbbcajbaaGreat.PM Go.Proofs.YtkihjakbbcajbaaGreat.RP Go.Proofs.YtkihjakbbcajbaaGreat.TB
def SOk (b:List Int):Prop:=Bytes b∧b.length≤100000
@[reducible] def PR (α:Type):Type:=List Int→Option (α × List Int)
def RR (r:t12.den):Option (List Int)→Prop
 |some b=>SOk b∧r=(b,false,())
 |none=>∃b,SOk b∧r=(b,true,())
def Rds {α:Type} (o:Option (t12.den × α × Unit)):Option (α × List Int)→Prop
 |some (v,b)=>SOk b∧o=some ((b,false,()),v,())
 |none=>∃b v,SOk b∧o=some ((b,true,()),v,())
theorem stp {α β X:Type} (C:Option X→Option β→Prop) {o:Option (t12.den × α × Unit)} {s:Option (List Int)} {P:PR α} {Q:α × List Int→Option β} {G:t12.den × α × Unit→Option X} (h:Rds o (s.bind P))
  (k:∀r v s',RR r s'→(∀b,s'=some b→s.bind P=some (v,b))→C (G (r,v,())) (s'.bind fun b=>Q (v,b))):C (o.bind G) (s.bind fun b=>(P b).bind Q):=by
 have e:(s.bind fun b=>(P b).bind Q)=(s.bind P).bind Q:=by cases s<;>rfl
 rw [e]
 cases hp:s.bind P with
 |none=>
  rw [hp] at h
  obtain ⟨b,v,hb,rfl⟩:=h
  exact k (b,true,()) v none ⟨b,hb,rfl⟩ (fun b e=>by cases e)
 |some x=>
  obtain ⟨v,b⟩:=x
  rw [hp] at h
  obtain ⟨hb,rfl⟩:=h
  exact k (b,false,()) v (some b) ⟨hb,rfl⟩ (fun b' e=>by rw [hp,Option.some.inj e])
theorem ret {α:Type} {r:t12.den} {s:Option (List Int)} (h:RR r s) (v:α):Rds (some (r,v,())) (s.bind fun b=>some (v,b)):=by
 cases s with
 |none=>
  obtain ⟨b,hb,rfl⟩:=h
  exact ⟨b,v,hb,rfl⟩
 |some b=>
  obtain ⟨hb,rfl⟩:=h
  exact ⟨hb,rfl⟩
noncomputable def pN (k:Nat):PR Int:=fun b=>if k≤b.length then some (nA b 0 k,b.drop k) else none
theorem SOk.drop {b:List Int} (h:SOk b) (k:Nat):SOk (b.drop k):=⟨h.1.drop k,by have:=h.2;rw [List.length_drop];omega⟩
theorem SOk.nil:SOk []:=⟨fun x hx=>(by cases hx),Nat.zero_le _⟩
theorem get_run {r:t12.den} {s:Option (List Int)} (h:RR r s) {k:Nat} (k8:k≤8):Rds (ah.F r (k:Int)) (s.bind (pN k)):=by
 cases s with
 |none=>
  obtain ⟨b,hb,rfl⟩:=h
  obtain ⟨b',n,h1,h2,h3⟩:=get_short b hb.1 hb.2 k8
  exact ⟨b',n,⟨h1,Nat.le_trans h2 hb.2⟩,h3⟩
 |some b=>
  obtain ⟨hb,rfl⟩:=h
  show Rds _ (pN k b)
  unfold pN
  split
  ·rename_i hk;exact ⟨hb.drop k,get_ok hb.1 false k8 hk hb.2⟩
  ·rename_i hk;exact ⟨[],0,.nil,get_no false hk⟩
theorem take_run {r:t12.den} {s:Option (List Int)} (h:RR r s) {k:Nat} (k8:k≤8):Rds (au.F r (k:Int)) (s.bind (pN k)):=by
 cases s with
 |none=>
  obtain ⟨b,hb,rfl⟩:=h
  obtain ⟨b',n,h1,h2,h3⟩:=take_short b hb.1 hb.2 k8
  exact ⟨b',n,⟨h1,Nat.le_trans h2 hb.2⟩,h3⟩
 |some b=>
  obtain ⟨hb,rfl⟩:=h
  show Rds _ (pN k b)
  unfold pN
  split
  ·rename_i hk;exact ⟨hb.drop k,take_ok hb.1 false k8 hk hb.2⟩
  ·rename_i hk;exact ⟨b,0,hb,take_no false hk⟩
section
variable {r:t12.den} {s:Option (List Int)} (h:RR r s)
include h
theorem g1:Rds (ah.F r 1) (s.bind (pN 1)):=get_run h (k:=1) (by decide)
theorem g4:Rds (ah.F r 4) (s.bind (pN 4)):=get_run h (k:=4) (by decide)
theorem g8:Rds (ah.F r 8) (s.bind (pN 8)):=get_run h (k:=8) (by decide)
theorem k1:Rds (au.F r 1) (s.bind (pN 1)):=take_run h (k:=1) (by decide)
theorem k4:Rds (au.F r 4) (s.bind (pN 4)):=take_run h (k:=4) (by decide)
theorem k8:Rds (au.F r 8) (s.bind (pN 8)):=take_run h (k:=8) (by decide)
theorem num1 {s':Option (List Int)} {v:Int} (hp:∀b,s'=some b→s.bind (pN 1)=some (v,b)):s'=none∨∃n:Nat,n<256∧v=(n:Int):=by
 cases s' with
 |none=>exact .inl rfl
 |some b=>
  right
  have hp:=hp b rfl
  cases s with
  |none=>cases hp
  |some b0=>
   obtain ⟨hb,rfl⟩:=h
   have hp:pN 1 b0=some (v,b):=hp
   unfold pN at hp
   split at hp
   ·have:=congrArg (fun x=>x.1) (Option.some.inj hp)
    refine ⟨_,?_,this.symm⟩
    have h2:=vN_lt (b0.drop 0|>.take 1) 0 ((hb.1.drop 0).take 1)
    have h3:256 ^ (List.take 1 (List.drop 0 b0)).length≤256 ^ 1:=Nat.pow_le_pow_right (by decide) (by rw [List.length_take];omega)
    omega
   ·cases hp
end
noncomputable def pB (l:t0.den):PR t1.den:=fun b=>(pN 8 b).bind fun x=>(pN 8 x.2).bind fun y=>(pN 8 y.2).bind fun z=>some ((l,IntKind.wrap .i64 x.1,IntKind.wrap .i64 y.1,z.1,()),z.2)
theorem gbkt {r:t12.den} {s:Option (List Int)} (h:RR r s) (l:t0.den):Rds (fg.F r l) (s.bind (pB l)):=by
 rw [fg.F_eq]
 refine stp Rds (g8 h) fun r1 v1 s1 h1 _=>?_
 dsimp only
 refine stp Rds (g8 h1) fun r2 v2 s2 h2 _=>?_
 dsimp only
 refine stp Rds (g8 h2) fun r3 v3 s3 h3 _=>?_
 dsimp only
 exact ret h3 _
noncomputable def pRep {α:Type}:Nat→PR α→PR (List α)
 |0,_=>fun b=>some ([],b)
 |k+1,p=>fun b=>(p b).bind fun x=>(pRep k p x.2).bind fun y=>some (x.1::y.1,y.2)
noncomputable def pH (l:t0.den):PR t9.den:=fun b=>(pN 4 b).bind fun x=>(pB l x.2).bind fun y=>some ((IntKind.wrap .u32 x.1,y.1,()),y.2)
noncomputable def pHl (l:t0.den):PR (List t9.den):=fun b=>(pN 1 b).bind fun x=>pRep x.1.toNat (pH l) x.2
theorem rep_H (k:Nat) (l:t0.den) (acc:List t9.den):(fun b=>(pRep (k+1) (pH l) b).bind fun y=>some (acc++y.1,y.2))=fun b=>(pN 4 b).bind fun x=>(pB l x.2).bind fun y=>(pRep k (pH l) y.2).bind fun z=>some ((acc++[(IntKind.wrap .u32 x.1,y.1,())])++z.1,z.2):=by
 funext b
 simp only [pRep,pH,Option.bind_assoc,Option.bind_some,List.append_assoc,List.cons_append,List.nil_append]
theorem rep_nil {α:Type} (k:Nat) (p:PR α) (s:Option (List Int)):(s.bind fun b=>(pRep k p b).bind fun y=>some (([]:List α)++y.1,y.2))=s.bind fun b=>pRep k p b:=by
 cases s with
 |none=>rfl
 |some b=>
  show (pRep k p b).bind _=pRep k p b
  cases pRep k p b<;>rfl
theorem u64_dec {k:Nat} (h:k≤100000):IntKind.wrap .u64 (((k+1:Nat):Int) - 1)=(k:Int):=by rw [IntKind.wrap_u64];omega
theorem gheld_short {r:t12.den} (h:RR r none) (n b1 b12 b13:Int) (acc:List t9.den):Rds (cy.L1 n r.1 r.2.1 b1 b12 b13 acc) none:=by
 obtain ⟨b,hb,rfl⟩:=h
 rw [cy.L1_eq]
 by_cases hn:n>0
 ·rw [bd_pos hn,bnt rfl];exact ⟨b,acc,hb,rfl⟩
 ·rw [bd_neg hn];exact ⟨b,acc,hb,rfl⟩
theorem gheld_l1 (l:t0.den):∀(k:Nat) (acc:List t9.den) (r:t12.den) (s:Option (List Int)),RR r s→acc.length+k≤1000→Rds (cy.L1 (k:Int) r.1 r.2.1 l.1 l.2.1 l.2.2.1 acc) (s.bind fun b=>(pRep k (pH l) b).bind fun y=>some (acc++y.1,y.2))
 |k,acc,r,none,h,hl=>gheld_short h _ _ _ _ _
 |0,acc,r,some b,h,hl=>by
  obtain ⟨hb,rfl⟩:=h
  rw [cy.L1_eq,bd_neg (by omega)]
  show Rds _ (some (acc++[],b))
  rw [List.append_nil]
  exact ⟨hb,rfl⟩
 |k+1,acc,r,some b,h,hl=>by
  have h0:=h
  obtain ⟨hb,rfl⟩:=h
  rw [cy.L1_eq,bd_pos (by omega),bnf rfl,cy.L2_eq,rep_H]
  refine stp Rds (g4 h0) fun r1 v1 s1 h1 _=>?_
  dsimp only
  refine stp Rds (gbkt h1 l) fun r2 v2 s2 h2 _=>?_
  dsimp only
  rw [lim_small (by decide) (by simp only [List.length_cons,List.length_nil];omega),u64_dec (by omega)]
  exact gheld_l1 l k _ r2 s2 h2 (by simp only [List.length_append,List.length_cons,List.length_nil];omega)
theorem gheld {r:t12.den} {s:Option (List Int)} (h:RR r s) (l:t0.den):Rds (cy.F r l) (s.bind (pHl l)):=by
 rw [cy.F_eq]
 refine stp Rds (g1 h) fun r1 v1 s1 h1 e1=>?_
 dsimp only
 rcases num1 h e1 with rfl|⟨n,hn,rfl⟩
 ·exact gheld_short h1 _ _ _ _ _
 ·rw [toNat_cast,←rep_nil]
  exact gheld_l1 l n [] r1 s1 h1 (by simp only [List.length_nil];omega)
end Go.Proofs.YtkihjakbbcajbaaGreat.RD
namespace Go.Proofs.YtkihjakbbcajbaaGreat.RD
set_option linter.unusedSimpArgs false
set_option linter.unusedVariables false
open Go Go.Proofs Go.Proofs.YtkihjakbbcajbaaGreat.PM Go.Proofs.YtkihjakbbcajbaaGreat.RP Go.Proofs.YtkihjakbbcajbaaGreat.TB
@[reducible] noncomputable def z0:t0.den:=(0,0,0,())
noncomputable def pL:PR t0.den:=fun b=>(pN 4 b).bind fun x=>(pN 4 x.2).bind fun y=>(pN 4 y.2).bind fun z=>some ((IntKind.wrap .i64 x.1,IntKind.wrap .i64 y.1,IntKind.wrap .i64 z.1,()),z.2)
noncomputable def pC:PR Int:=fun b=>(pN 1 b).bind fun x=>some (IntKind.wrap .i64 x.1,x.2)
noncomputable def pV:PR Int:=fun b=>(pN 4 b).bind fun x=>some (IntKind.wrap .u32 x.1,x.2)
noncomputable def pVl:PR (List Int):=fun b=>(pN 1 b).bind fun x=>pRep x.1.toNat pV x.2
noncomputable def pTl:PR t6.den:=fun b=>(pN 8 b).bind fun x=>(pN 8 x.2).bind fun y=>(pN 8 y.2).bind fun z=>some ((x.1,y.1,z.1,()),z.2)
noncomputable def pA2 (tn:Int) (lims:List t0.den) (caps:List Int):PR t10.den:=fun b=>
 (pB (lims.getD 0 z0) b).bind fun x3=>(pHl (lims.getD 1 z0) x3.2).bind fun x4=>(pHl (lims.getD 2 z0) x4.2).bind fun x5=>(pVl x5.2).bind fun x6=>(pTl x6.2).bind fun x7=>some ((tn,lims,caps,x3.1,x4.1,x5.1,x6.1,x7.1,()),x7.2)
noncomputable def pA:PR t10.den:=fun b=>
 (pN 1 b).bind fun x0=>(pRep 3 pL x0.2).bind fun x1=>(pRep 2 pC x1.2).bind fun x2=>pA2 (IntKind.wrap .u32 x0.1) x1.1 x2.1 x2.2
theorem set_mid {α:Type} (acc:List α) (z:α) (rest:List α) (v:α):(acc++z::rest).set acc.length v=acc++v::rest:=by
 rw [List.set_append_right _ _ (Nat.le_refl _),Nat.sub_self];rfl
theorem getD_mid {α:Type} (acc:List α) (z:α) (rest:List α) (d:α):(acc++z::rest).getD acc.length d=z:=by
 rw [List.getD_eq_getElem?_getD,List.getElem?_append_right (Nat.le_refl _),Nat.sub_self];rfl
theorem bind_nil {α β:Type} (s:Option (List Int)) (K:List α→List Int→Option β) (acc:List α) (p:PR α):(s.bind fun b=>(pRep 0 p b).bind fun y=>K (acc++y.1) y.2)=s.bind (K acc):=by
 cases s with
 |none=>rfl
 |some b=>
  show K (acc++[]) b=K acc b
  rw [List.append_nil]
theorem rep_L {β:Type} (k:Nat) (acc:List t0.den) (K:List t0.den→List Int→Option β):(fun b=>(pRep (k+1) pL b).bind fun y=>K (acc++y.1) y.2)=fun b=>(pN 4 b).bind fun x=>(pN 4 x.2).bind fun y=>(pN 4 y.2).bind fun z=>(pRep k pL z.2).bind fun y'=>K ((acc++[(IntKind.wrap .i64 x.1,IntKind.wrap .i64 y.1,IntKind.wrap .i64 z.1,())])++y'.1) y'.2:=by
 funext b
 simp only [pRep,pL,Option.bind_assoc,Option.bind_some,List.append_assoc,List.cons_append,List.nil_append]
theorem rep_C {β:Type} (k:Nat) (acc:List Int) (K:List Int→List Int→Option β):(fun b=>(pRep (k+1) pC b).bind fun y=>K (acc++y.1) y.2)=fun b=>(pN 1 b).bind fun x=>(pRep k pC x.2).bind fun y'=>K ((acc++[IntKind.wrap .i64 x.1])++y'.1) y'.2:=by
 funext b
 simp only [pRep,pC,Option.bind_assoc,Option.bind_some,List.append_assoc,List.cons_append,List.nil_append]
theorem rep_V {β:Type} (k:Nat) (acc:List Int) (K:List Int→List Int→Option β):(fun b=>(pRep (k+1) pV b).bind fun y=>K (acc++y.1) y.2)=fun b=>(pN 4 b).bind fun x=>(pRep k pV x.2).bind fun y'=>K ((acc++[IntKind.wrap .u32 x.1])++y'.1) y'.2:=by
 funext b
 simp only [pRep,pV,Option.bind_assoc,Option.bind_some,List.append_assoc,List.cons_append,List.nil_append]
theorem len_snoc {α:Type} (acc:List α) (v:α):((acc.length:Nat):Int)+1=(((acc++[v]).length:Nat):Int):=by simp
section
variable (tn:Int) (lims b1:List t0.den) (caps b12:List Int) (o1 o2 o3 o4 o5 o6:Int) (l3:List t9.den) (l5:List Int) (us es:List t9.den)
noncomputable def mkA (rv:List Int) (y:t6.den):t10.den:=(tn,lims,caps,((o1,o2,o3,()),o4,o5,o6,()),us,es,rv,y,())
theorem gend {r:t12.den} {s:Option (List Int)} (h:RR r s) (rv:List Int):Rds ((ah.F (r.1,r.2.1,()) 8).bind fun r0=>(ah.F r0.1 8).bind fun r1=>(ah.F r1.1 8).bind fun r2=>some (r2.1,(tn,lims,caps,((o1,o2,o3,()),o4,o5,o6,()),us,es,rv,(r0.2.1,r1.2.1,r2.2.1,()),()),()))
  (s.bind fun b=>(pTl b).bind fun x=>some (mkA tn lims caps o1 o2 o3 o4 o5 o6 us es rv x.1,x.2)):=by
 have e:(fun b=>(pTl b).bind fun x=>some (mkA tn lims caps o1 o2 o3 o4 o5 o6 us es rv x.1,x.2))=fun b=>(pN 8 b).bind fun x=>(pN 8 x.2).bind fun y=>(pN 8 y.2).bind fun z=>some (mkA tn lims caps o1 o2 o3 o4 o5 o6 us es rv (x.1,y.1,z.1,()),z.2):=by
  funext b
  simp only [pTl,Option.bind_assoc,Option.bind_some]
 rw [e]
 refine stp Rds (g8 h) fun r1 v1 s1 h1 _=>?_
 dsimp only
 refine stp Rds (g8 h1) fun r2 v2 s2 h2 _=>?_
 dsimp only
 refine stp Rds (g8 h2) fun r3 v3 s3 h3 _=>?_
 exact ret h3 _
theorem gacc_short {r:t12.den} (h:RR r none) (n:Int) (rv:List Int):Rds (ab.L5 n r.1 r.2.1 b1 b12 tn lims caps o1 o2 o3 o4 o5 o6 l3 l5 us es rv) none:=by
 have e:=gend tn lims caps o1 o2 o3 o4 o5 o6 us es h rv
 obtain ⟨b,hb,rfl⟩:=h
 rw [ab.L5_eq]
 by_cases hn:n>0
 ·rw [bd_pos hn,bnt rfl];exact e
 ·rw [bd_neg hn];exact e
theorem gacc_l5:∀(k:Nat) (rv:List Int) (r:t12.den) (s:Option (List Int)),RR r s→rv.length+k≤1000→Rds (ab.L5 (k:Int) r.1 r.2.1 b1 b12 tn lims caps o1 o2 o3 o4 o5 o6 l3 l5 us es rv) (s.bind fun b=>(pRep k pV b).bind fun y=>(pTl y.2).bind fun x=>some (mkA tn lims caps o1 o2 o3 o4 o5 o6 us es (rv++y.1) x.1,x.2))
 |k,rv,r,none,h,hl=>gacc_short tn lims b1 caps b12 o1 o2 o3 o4 o5 o6 l3 l5 us es h _ _
 |0,rv,r,some b,h,hl=>by
  have e:=gend tn lims caps o1 o2 o3 o4 o5 o6 us es h rv
  rw [ab.L5_eq,bd_neg (by omega),bind_nil (K:=fun l c=>(pTl c).bind fun x=>some (mkA tn lims caps o1 o2 o3 o4 o5 o6 us es l x.1,x.2))]
  exact e
 |k+1,rv,r,some b,h,hl=>by
  have h0:=h
  obtain ⟨hb,rfl⟩:=h
  rw [ab.L5_eq,bd_pos (by omega),bnf rfl,ab.L6_eq,rep_V (K:=fun l c=>(pTl c).bind fun x=>some (mkA tn lims caps o1 o2 o3 o4 o5 o6 us es l x.1,x.2))]
  refine stp Rds (g4 h0) fun r1 v1 s1 h1 _=>?_
  dsimp only
  rw [lim_small (by decide) (by simp only [List.length_cons,List.length_nil];omega),u64_dec (by omega)]
  exact gacc_l5 k _ r1 s1 h1 (by simp only [List.length_append,List.length_cons,List.length_nil];omega)
theorem gacc_l5' {r:t12.den} {s:Option (List Int)} (h:RR r s):Rds ((ah.F r 1).bind fun r3=>ab.L5 r3.2.1 r3.1.1 r3.1.2.1 b1 b12 tn lims caps o1 o2 o3 o4 o5 o6 l3 l5 us es []) (s.bind fun b=>(pVl b).bind fun y=>(pTl y.2).bind fun x=>some (mkA tn lims caps o1 o2 o3 o4 o5 o6 us es y.1 x.1,x.2)):=by
 have e:(fun b=>(pVl b).bind fun y=>(pTl y.2).bind fun x=>some (mkA tn lims caps o1 o2 o3 o4 o5 o6 us es y.1 x.1,x.2))=fun b=>(pN 1 b).bind fun z=>(pRep z.1.toNat pV z.2).bind fun y=>(pTl y.2).bind fun x=>some (mkA tn lims caps o1 o2 o3 o4 o5 o6 us es y.1 x.1,x.2):=by
  funext b
  simp only [pVl,Option.bind_assoc,Option.bind_some]
 rw [e]
 refine stp Rds (g1 h) fun r1 v1 s1 h1 e1=>?_
 dsimp only
 rcases num1 h e1 with rfl|⟨n,hn,rfl⟩
 ·exact gacc_short tn lims b1 caps b12 o1 o2 o3 o4 o5 o6 l3 l5 us es h1 _ _
 ·rw [toNat_cast]
  exact gacc_l5 tn lims b1 caps b12 o1 o2 o3 o4 o5 o6 l3 l5 us es n [] r1 s1 h1 (by simp only [List.length_nil];omega)
end
section
variable (tn:Int) (b1:List t0.den) (b12:List Int)
theorem gacc_l3e (lims:List t0.den) (caps:List Int) {r:t12.den} {s:Option (List Int)} (h:RR r s):Rds (ab.L3 2 r.1 r.2.1 b1 b12 tn lims caps [] []) (s.bind (pA2 tn lims caps)):=by
 rw [ab.L3_eq,bd_neg (by decide),bd_pos (by decide)]
 refine stp Rds (gbkt h _) fun r1 v1 s1 h1 _=>?_
 dsimp only
 rw [bd_pos (by decide)]
 refine stp Rds (gheld h1 _) fun r2 v2 s2 h2 _=>?_
 dsimp only
 rw [bd_pos (by decide)]
 refine stp Rds (gheld h2 _) fun r3 v3 s3 h3 _=>?_
 dsimp only
 exact gacc_l5' tn lims b1 caps b12 _ _ _ _ _ _ [] [] _ _ h3
theorem gacc_l3 (lims:List t0.den):∀(k:Nat) (caps:List Int) (r:t12.den) (s:Option (List Int)),RR r s→caps.length+k=2→Rds (ab.L3 (caps.length:Int) r.1 r.2.1 b1 b12 tn lims (caps++List.replicate k 0) [] []) (s.bind fun b=>(pRep k pC b).bind fun y=>pA2 tn lims (caps++y.1) y.2)
 |0,caps,r,s,h,hl=>by
  rw [bind_nil (K:=fun l=>pA2 tn lims l)]
  have e:caps.length=2:=by omega
  rw [e,List.replicate_zero,List.append_nil]
  exact gacc_l3e tn b1 b12 lims caps h
 |k+1,caps,r,s,h,hl=>by
  rw [ab.L3_eq,bd_pos (by omega),ab.L4_eq,rep_C (K:=fun l=>pA2 tn lims l)]
  refine stp Rds (g1 h) fun r1 v1 s1 h1 _=>?_
  dsimp only
  have e:caps++IntKind.wrap .i64 v1::List.replicate k 0=(caps++[IntKind.wrap .i64 v1])++List.replicate k 0:=by rw [List.append_assoc];rfl
  rw [bd_pos (by omega),W_eq (by omega) (by omega),toNat_cast,List.replicate_succ,set_mid,len_snoc caps (IntKind.wrap .i64 v1),e]
  exact gacc_l3 lims k _ r1 s1 h1 (by simp only [List.length_append,List.length_cons,List.length_nil];omega)
theorem gacc_l1:∀(k:Nat) (lims:List t0.den) (r:t12.den) (s:Option (List Int)),RR r s→lims.length+k=3→Rds (ab.L1 (lims.length:Int) r.1 r.2.1 b1 (List.replicate 2 0) tn (lims++List.replicate k z0) [] []) (s.bind fun b=>(pRep k pL b).bind fun y=>(pRep 2 pC y.2).bind fun w=>pA2 tn (lims++y.1) w.1 w.2)
 |0,lims,r,s,h,hl=>by
  rw [bind_nil (K:=fun l c=>(pRep 2 pC c).bind fun w=>pA2 tn l w.1 w.2)]
  rw [ab.L1_eq,bd_neg (by omega),List.replicate_zero,List.append_nil]
  exact gacc_l3 tn b1 _ lims 2 [] r s h rfl
 |k+1,lims,r,s,h,hl=>by
  rw [ab.L1_eq,bd_pos (by omega),ab.L2_eq,bd_pos (by omega),rep_L (K:=fun l c=>(pRep 2 pC c).bind fun w=>pA2 tn l w.1 w.2)]
  refine stp Rds (g4 h) fun r1 v1 s1 h1 _=>?_
  dsimp only
  refine stp Rds (g4 h1) fun r2 v2 s2 h2 _=>?_
  dsimp only
  refine stp Rds (g4 h2) fun r3 v3 s3 h3 _=>?_
  dsimp only
  have e:∀v:t0.den,lims++v::List.replicate k z0=(lims++[v])++List.replicate k z0:=fun v=>by rw [List.append_assoc];rfl
  rw [W_eq (by omega) (by omega),toNat_cast,show List.replicate (k+1) z0=z0::List.replicate k z0 from rfl]
  simp only [set_mid,getD_mid]
  rw [len_snoc lims (IntKind.wrap .i64 v1,IntKind.wrap .i64 v2,IntKind.wrap .i64 v3,()),e]
  exact gacc_l1 k _ r3 s3 h3 (by simp only [List.length_append,List.length_cons,List.length_nil];omega)
end
theorem gacc {r:t12.den} {s:Option (List Int)} (h:RR r s):Rds (ab.F r) (s.bind pA):=by
 rw [ab.F_eq]
 refine stp Rds (g1 h) fun r1 v1 s1 h1 _=>?_
 exact gacc_l1 _ _ 3 [] r1 s1 h1 rfl
end Go.Proofs.YtkihjakbbcajbaaGreat.RD
namespace Go.Proofs.YtkihjakbbcajbaaGreat.RD
set_option linter.unusedSimpArgs false
set_option linter.unusedVariables false
open Go Go.Proofs Go.Proofs.YtkihjakbbcajbaaGreat.PM Go.Proofs.YtkihjakbbcajbaaGreat.RP Go.Proofs.YtkihjakbbcajbaaGreat.TB
noncomputable def pS:PR Int:=fun b=>(pN 1 b).bind fun x=>some (IntKind.wrap .u8 x.1,x.2)
noncomputable def pAl:PR (List t10.den):=fun b=>(pN 1 b).bind fun x=>pRep x.1.toNat pA x.2
noncomputable def pM:PR t11.den:=fun b=>(pN 8 b).bind fun x0=>(pRep 32 pS x0.2).bind fun x1=>(pRep 16 pV x1.2).bind fun x2=>(pAl x2.2).bind fun x3=>some ((x0.1,x1.1,x2.1,x3.1,()),x3.2)
@[reducible] noncomputable def zS:t8.den:=(0,List.replicate 32 (0:Int),List.replicate 16 (0:Int),([]:List t7.den),())
def Out (B:t11.den→Option (t8.den × Int × Unit)) (o:Option (t8.den × Int × Unit)):Option (t11.den × List Int)→Prop
 |some (m,[])=>o=B m
 |some (m,_::_)=>o=some (zS,12,())
 |none=>o=some (zS,12,())
theorem rep_S {β:Type} (k:Nat) (acc:List Int) (K:List Int→List Int→Option β):(fun b=>(pRep (k+1) pS b).bind fun y=>K (acc++y.1) y.2)=fun b=>(pN 1 b).bind fun x=>(pRep k pS x.2).bind fun y'=>K ((acc++[IntKind.wrap .u8 x.1])++y'.1) y'.2:=by
 funext b
 simp only [pRep,pS,Option.bind_assoc,Option.bind_some,List.append_assoc,List.cons_append,List.nil_append]
theorem rep_A {β:Type} (k:Nat) (acc:List t10.den) (K:List t10.den→List Int→Option β):(fun b=>(pRep (k+1) pA b).bind fun y=>K (acc++y.1) y.2)=fun b=>(pA b).bind fun x=>(pRep k pA x.2).bind fun y'=>K ((acc++[x.1])++y'.1) y'.2:=by
 funext b
 simp only [pRep,Option.bind_assoc,Option.bind_some,List.append_assoc,List.cons_append,List.nil_append]
noncomputable def kM (now:Int) (seed ep:List Int) (ac:List t10.den) (b:List Int):Option (t11.den × List Int):=some ((now,seed,ep,ac,()),b)
noncomputable def kA (now:Int) (seed ep:List Int) (b:List Int):Option (t11.den × List Int):=(pAl b).bind fun x=>kM now seed ep x.1 x.2
noncomputable def kE (now:Int) (seed:List Int) (b:List Int):Option (t11.den × List Int):=(pRep 16 pV b).bind fun x=>kA now seed x.1 x.2
theorem pM_k:pM=fun b=>(pN 8 b).bind fun x=>(pRep 32 pS x.2).bind fun y=>kE x.1 y.1 y.2:=rfl
section
variable (z1 z2:List Int)
noncomputable def gB (m:t11.den):Option (t8.den × Int × Unit):=ao.L8 z1 z2 m.1 m.2.1 m.2.2.1 [] m.2.2.2.1
theorem gparse_end (now:Int) (seed ep:List Int) (ac:List t10.den) {r:t12.den} {s:Option (List Int)} (h:RR r s):Out (gB z1 z2) (bif r.2.1 then some (zS,12,()) else bif decide ((List.length r.1:Int)>0) then some (zS,12,()) else ao.L8 z1 z2 now seed ep [] ac) (s.bind (kM now seed ep ac)):=by
 cases s with
 |none=>obtain ⟨b,hb,rfl⟩:=h;rfl
 |some b=>
  obtain ⟨hb,rfl⟩:=h
  cases b with
  |nil=>rfl
  |cons x xs=>rw [bf rfl,bd_pos (by simp only [List.length_cons];omega)];rfl
theorem gparse_short (now:Int) (seed ep:List Int) (n:Int) (ac:List t10.den) {r:t12.den} (h:RR r none):Out (gB z1 z2) (ao.L6 n z1 z2 r.1 r.2.1 now seed ep [] ac) none:=by
 have e:=gparse_end z1 z2 now seed ep ac h
 obtain ⟨b,hb,rfl⟩:=h
 rw [ao.L6_eq]
 by_cases hn:n>0
 ·rw [bd_pos hn,bnt rfl];exact e
 ·rw [bd_neg hn];exact e
theorem gparse_l6 (now:Int) (seed ep:List Int):∀(k:Nat) (ac:List t10.den) (r:t12.den) (s:Option (List Int)),RR r s→ac.length+k≤1000→Out (gB z1 z2) (ao.L6 (k:Int) z1 z2 r.1 r.2.1 now seed ep [] ac) (s.bind fun b=>(pRep k pA b).bind fun y=>kM now seed ep (ac++y.1) y.2)
 |k,ac,r,none,h,hl=>gparse_short z1 z2 now seed ep _ _ h
 |0,ac,r,some b,h,hl=>by
  have e:=gparse_end z1 z2 now seed ep ac h
  rw [ao.L6_eq,bd_neg (by omega),bind_nil (K:=kM now seed ep)]
  exact e
 |k+1,ac,r,some b,h,hl=>by
  have h0:=h
  obtain ⟨hb,rfl⟩:=h
  rw [ao.L6_eq,bd_pos (by omega),bnf rfl,ao.L7_eq,rep_A (K:=kM now seed ep)]
  refine stp (Out (gB z1 z2)) (gacc h0) fun r1 v1 s1 h1 _=>?_
  dsimp only
  rw [lim_small (by decide) (by simp only [List.length_cons,List.length_nil];omega),u64_dec (by omega)]
  exact gparse_l6 now seed ep k _ r1 s1 h1 (by simp only [List.length_append,List.length_cons,List.length_nil];omega)
theorem gparse_l4e (now:Int) (seed ep:List Int) {r:t12.den} {s:Option (List Int)} (h:RR r s):Out (gB z1 z2) (ao.L4 16 z1 z2 r.1 r.2.1 now seed ep [] []) (s.bind (kA now seed ep)):=by
 have e:kA now seed ep=fun b=>(pN 1 b).bind fun x=>(pRep x.1.toNat pA x.2).bind fun y=>kM now seed ep y.1 y.2:=by
  funext b
  simp only [kA,pAl,Option.bind_assoc,Option.bind_some]
 rw [ao.L4_eq,bd_neg (by decide),e]
 refine stp (Out (gB z1 z2)) (g1 h) fun r1 v1 s1 h1 e1=>?_
 dsimp only
 rcases num1 h e1 with rfl|⟨n,hn,rfl⟩
 ·exact gparse_short z1 z2 now seed ep _ _ h1
 ·rw [toNat_cast]
  exact gparse_l6 z1 z2 now seed ep n [] r1 s1 h1 (by simp only [List.length_nil];omega)
theorem gparse_l4 (now:Int) (seed:List Int):∀(k:Nat) (ep:List Int) (r:t12.den) (s:Option (List Int)),RR r s→ep.length+k=16→Out (gB z1 z2) (ao.L4 (ep.length:Int) z1 z2 r.1 r.2.1 now seed (ep++List.replicate k 0) [] []) (s.bind fun b=>(pRep k pV b).bind fun y=>kA now seed (ep++y.1) y.2)
 |0,ep,r,s,h,hl=>by
  have e:ep.length=16:=by omega
  rw [bind_nil (K:=fun l=>kA now seed l),e,List.replicate_zero,List.append_nil]
  exact gparse_l4e z1 z2 now seed ep h
 |k+1,ep,r,s,h,hl=>by
  rw [ao.L4_eq,bd_pos (by omega),ao.L5_eq,rep_V (K:=fun l=>kA now seed l)]
  refine stp (Out (gB z1 z2)) (g4 h) fun r1 v1 s1 h1 _=>?_
  dsimp only
  have e:ep++IntKind.wrap .u32 v1::List.replicate k 0=(ep++[IntKind.wrap .u32 v1])++List.replicate k 0:=by rw [List.append_assoc];rfl
  rw [bd_pos (by omega),W_eq (by omega) (by omega),toNat_cast,List.replicate_succ,set_mid,len_snoc ep (IntKind.wrap .u32 v1),e]
  exact gparse_l4 now seed k _ r1 s1 h1 (by simp only [List.length_append,List.length_cons,List.length_nil];omega)
theorem gparse_l2 (now:Int):∀(k:Nat) (seed:List Int) (r:t12.den) (s:Option (List Int)),RR r s→seed.length+k=32→Out (gB z1 z2) (ao.L2 (seed.length:Int) z1 z2 r.1 r.2.1 now (seed++List.replicate k 0) (List.replicate 16 0) [] []) (s.bind fun b=>(pRep k pS b).bind fun y=>kE now (seed++y.1) y.2)
 |0,seed,r,s,h,hl=>by
  rw [bind_nil (K:=fun l=>kE now l),ao.L2_eq,bd_neg (by omega),List.replicate_zero,List.append_nil]
  exact gparse_l4 z1 z2 now seed 16 [] r s h rfl
 |k+1,seed,r,s,h,hl=>by
  rw [ao.L2_eq,bd_pos (by omega),ao.L3_eq,rep_S (K:=fun l=>kE now l)]
  refine stp (Out (gB z1 z2)) (g1 h) fun r1 v1 s1 h1 _=>?_
  dsimp only
  have e:seed++IntKind.wrap .u8 v1::List.replicate k 0=(seed++[IntKind.wrap .u8 v1])++List.replicate k 0:=by rw [List.append_assoc];rfl
  rw [bd_pos (by omega),W_eq (by omega) (by omega),toNat_cast,show List.replicate (k+1) (0:Int)=0::List.replicate k 0 from rfl,set_mid,len_snoc seed (IntKind.wrap .u8 v1),e]
  exact gparse_l2 now k _ r1 s1 h1 (by simp only [List.length_append,List.length_cons,List.length_nil];omega)
end
theorem gparse {b:List Int} (hb:Bytes b) (hl:b.length≤5000):Out (gB (List.replicate 32 0) (List.replicate 16 0)) (ao.F b) (pM b):=by
 have h:RR (b,false,()) (some b):=⟨⟨hb,by omega⟩,rfl⟩
 rw [ao.F_eq,bd_neg (by omega),ao.L1_eq,pM_k]
 refine stp (s:=some b) (Out (gB (List.replicate 32 0) (List.replicate 16 0))) (g8 h) fun r1 v1 s1 h1 _=>?_
 exact gparse_l2 _ _ v1 32 [] r1 s1 h1 rfl
end Go.Proofs.YtkihjakbbcajbaaGreat.RD
namespace Go.Proofs.YtkihjakbbcajbaaGreat.TB
set_option linter.unusedSimpArgs false
set_option linter.unusedVariables false
open Go Go.Proofs Go.Proofs.YtkihjakbbcajbaaGreat.PM Go.Proofs.YtkihjakbbcajbaaGreat.RP
theorem new13_f {n:Nat} (h1:1≤n) (h2:n≤16):ca.F (n:Int)=some ((newN n,List.replicate n false,0,()),0,()):=by
 rw [ca.F_eq,bd_neg (by omega),bd_neg (by omega),ca.L1_eq]
 have h:=loop_go (n:=n) (L:=fun i=>ca.L2 (n:Int) (i:Int) [] [] ((List.range i).map (fun i:Nat=>if i+1<n then ((i+1:Nat):Int) else -1)) (List.replicate i false)) (fun i hi=>by
  try dsimp only
  rw [ca.L2_eq,bd_pos (by omega),ca.L3_eq,W_eq (by omega) (by omega),List.range_succ,List.map_append,List.replicate_succ',List.map_cons,List.map_nil]
  by_cases e:i+1<n
  ·rw [bd_pos (by omega),lim_small (by decide) (by simp;omega),ca.L4_eq,lim_small (by decide) (by simp;omega),W_eq (by omega) (by omega),if_pos e,cast_add1]
  ·rw [bd_neg (by omega),lim_small (by decide) (by simp;omega),ca.L4_eq,lim_small (by decide) (by simp;omega),W_eq (by omega) (by omega),if_neg e,cast_add1])
 have h:ca.L2 (n:Int) 0 [] [] [] []=ca.L2 (n:Int) (n:Int) [] [] (newN n) (List.replicate n false):=h
 rw [h,ca.L2_eq,bd_neg (by omega)]
theorem new15_f {n:Nat} (h1:1≤n) (h2:n≤16):f0.F (n:Int)=some ((PV n [],NX n [], -1, -1,()),0,()):=by
 rw [f0.F_eq,bd_neg (by omega),bd_neg (by omega),f0.L1_eq,made_f (by omega) (Ok.nil n)]
 rfl
theorem new16_f {n:Nat} (h1:1≤n) (h2:n≤8):eh.F (n:Int)=some (NT n,0,()):=by
 have e:decide ((0:Int)≤(n:Int)∧(n:Int)≤(n:Int))=true:=decide_eq_true (by omega)
 rw [eh.F_eq,bd_neg (by omega),bd_neg (by omega),eh.L1_eq,e,Bool.true_and,Bool.true_and,toNat_cast,lim_small (by decide) (by omega),lim_small (by decide) (by omega),decide_eq_true (by decide),Bool.true_and,lim_small (by decide) (by decide),new13_f h1 (by omega),ob,new15_f h1 (by omega),ob]
 rfl
end Go.Proofs.YtkihjakbbcajbaaGreat.TB
namespace Go.Proofs.YtkihjakbbcajbaaGreat.PM
def Le {α:Type} (a b:Option α):Prop:=∀y,a=some y→b=some y
theorem Le.refl {α:Type} (a:Option α):Le a a:=fun _ h=>h
theorem Le.none {α:Type} (a:Option α):Le Option.none a:=fun _ h=>by cases h
theorem Le.cond {α:Type} {c:Bool} {x x' y y':Option α} (h1:Le x x') (h2:Le y y'):Le (bif c then x else y) (bif c then x' else y'):=by
 cases c with
 |true=>exact h1
 |false=>exact h2
theorem Le.bind {α β:Type} {a a':Option α} {f g:α→Option β} (h1:Le a a') (h2:∀x,Le (f x) (g x)):Le (a.bind f) (a'.bind g):=fun y h=>by
 cases ha:a with
 |none=>rw [ha] at h;cases h
 |some x=>
  rw [ha] at h
  rw [h1 x ha]
  exact h2 x y h
end Go.Proofs.YtkihjakbbcajbaaGreat.PM
namespace Go.Proofs.YtkihjakbbcajbaaGreat.PM
set_option linter.unusedSimpArgs false
set_option linter.unusedVariables false
open Go Go.Proofs
noncomputable section
def gz.G (mm_:Nat) (x:Int) (y:Int):Option (Int × Int × Unit):=
 bif (decide ((0:Int)≤32)) then
 bif (decide ((0:Int)≤32)) then
  bif (decide ((0:Int)≤32)) then
  bif (decide ((0:Int)≤32)) then
   bif (decide ((0:Int)≤32)) then
   some ((IntKind.wrap .u64 ((IntKind.wrap .u64 ((IntKind.wrap .u64 ((Int.fdiv x (2 ^ min (Int.toNat 32) (IntKind.bits .u64)))*(Int.fdiv y (2 ^ min (Int.toNat 32) (IntKind.bits .u64)))))+(Int.fdiv (IntKind.wrap .u64 ((IntKind.wrap .u64 ((Int.fdiv x (2 ^ min (Int.toNat 32) (IntKind.bits .u64)))*(bits .and .u64 y 4294967295)))+(Int.fdiv (IntKind.wrap .u64 ((bits .and .u64 x 4294967295)*(bits .and .u64 y 4294967295))) (2 ^ min (Int.toNat 32) (IntKind.bits .u64))))) (2 ^ min (Int.toNat 32) (IntKind.bits .u64)))))+(Int.fdiv (IntKind.wrap .u64 ((bits .and .u64 (IntKind.wrap .u64 ((IntKind.wrap .u64 ((Int.fdiv x (2 ^ min (Int.toNat 32) (IntKind.bits .u64)))*(bits .and .u64 y 4294967295)))+(Int.fdiv (IntKind.wrap .u64 ((bits .and .u64 x 4294967295)*(bits .and .u64 y 4294967295))) (2 ^ min (Int.toNat 32) (IntKind.bits .u64))))) 4294967295)+(IntKind.wrap .u64 ((bits .and .u64 x 4294967295)*(Int.fdiv y (2 ^ min (Int.toNat 32) (IntKind.bits .u64))))))) (2 ^ min (Int.toNat 32) (IntKind.bits .u64))))),(IntKind.wrap .u64 (x*y)),())
   else none
  else none
  else none
 else none
 else none
theorem gz.G_le (mm_:Nat) (x:Int) (y:Int):Le (gz.G mm_ x y) (gz.F x y):=by
 rw [gz.F_eq];unfold gz.G;(repeat' (with_reducible first|exact Le.refl _|refine Le.cond ?_ ?_|refine Le.bind ?_ fun _=>?_))
@[reducible] def dp.KT:Type:=(Int→Int→(Option (Int × Int × Unit)))
@[reducible] def dp.Ok (KK_:dp.KT):Prop:=(∀x y,Le (KK_ x y) (dp.L1 x y))
def dp.step (mm_:Nat) (KK_:dp.KT):dp.KT:=((fun x y=>
 ((gz.G mm_) x y).bind fun r0=>
 some (r0.1,r0.2.1,())))
def dp.K (mm_:Nat):Nat→dp.KT
|0=>((fun _ _=>none))
|nn_+1=>dp.step mm_ (dp.K mm_ nn_)
theorem dp.step_le (mm_:Nat) (KK_:dp.KT) (hh_:dp.Ok KK_):dp.Ok (dp.step mm_ KK_):=by
 refine fun _ _=>?_
 rw [dp.L1_eq]
 all_goals dsimp only [dp.step]
 all_goals (repeat' (with_reducible first|exact hh_ _ _|exact gz.G_le mm_ _ _|exact Le.refl _|refine Le.cond ?_ ?_|refine Le.bind ?_ fun _=>?_))
theorem dp.K_le (mm_:Nat):∀nn_,dp.Ok (dp.K mm_ nn_)
|0=>fun _ _=>Le.none _
|nn_+1=>dp.step_le mm_ (dp.K mm_ nn_) (dp.K_le mm_ nn_)
def dp.G (mm_:Nat) (x:Int) (y:Int):Option (Int × Int × Unit):=
 (dp.K mm_ mm_) x y
theorem dp.G_le (mm_:Nat) (x:Int) (y:Int):Le (dp.G mm_ x y) (dp.F x y):=by
 rw [dp.F_eq];unfold dp.G;(repeat' (with_reducible first|exact (dp.K_le mm_ mm_) _ _|exact gz.G_le mm_ _ _|exact Le.refl _|refine Le.cond ?_ ?_|refine Le.bind ?_ fun _=>?_))
@[reducible] def am.KT:Type:=((List Int)→Int→(Option ((List Int) × Unit))) × ((List Int)→Int→(Option ((List Int) × Unit))) × (Int→(List Int)→(Option ((List Int) × Unit))) × (Int→(List Int)→(Option ((List Int) × Unit)))
@[reducible] def am.Ok (KK_:am.KT):Prop:=(∀x count,Le (KK_.1 x count) (am.L1 x count))∧(∀x lo,Le (KK_.2.1 x lo) (am.L2 x lo))∧(∀n l0,Le (KK_.2.2.1 n l0) (am.L3 n l0))∧(∀n l0,Le (KK_.2.2.2 n l0) (am.L4 n l0))
def am.step (mm_:Nat) (KK_:am.KT):am.KT:=((fun x count=>
 ((dp.G mm_) (IntKind.wrap .u64 ((List.length x:Int))) (IntKind.wrap .u64 count)).bind fun r0=>
 bif (decide ((r0.1:Int)>0)) then
 none
 else
 bif (decide ((r0.2.1:Int)>9223372036854775807)) then
  none
 else
  KK_.2.1 x r0.2.1),
(fun x lo=>
 bif (decide ((0:Int)≤(IntKind.wrap .i64 lo)∧((IntKind.wrap .i64 lo):Int)≤(IntKind.wrap .i64 lo)) && (lim (Int.toNat (IntKind.wrap .i64 lo)) (.int .i64))) then
 KK_.2.2.1 (((min (List.length x) (List.length (List.replicate (Int.toNat (IntKind.wrap .i64 lo)) (0:Int))):Nat):Int)) (splice (List.replicate (Int.toNat (IntKind.wrap .i64 lo)) (0:Int)) 0 (List.take (List.length (List.replicate (Int.toNat (IntKind.wrap .i64 lo)) (0:Int))) x))
 else none),
(fun n l0=>
 bif (decide ((n:Int)<((List.length l0:Int)))) then
 KK_.2.2.2 n l0
 else
 some (l0,())),
(fun n l0=>
 bif (decide ((0:Int)≤n∧(n:Int)≤((List.length l0:Int))∧(((List.length l0:Int)):Int)≤((List.length l0:Int)))) then
 bif (decide ((0:Int)≤0∧(0:Int)≤n∧(n:Int)≤((List.length l0:Int)))) then
  KK_.2.2.1 (IntKind.wrap .i64 (n+(((min (List.length (List.take ((Int.toNat n) - (Int.toNat 0)) (List.drop (Int.toNat 0) l0))) ((Int.toNat ((List.length l0:Int))) - (Int.toNat n)):Nat):Int)))) (splice l0 (Int.toNat n) (List.take ((Int.toNat ((List.length l0:Int))) - (Int.toNat n)) (List.take ((Int.toNat n) - (Int.toNat 0)) (List.drop (Int.toNat 0) l0))))
 else none
 else none))
def am.K (mm_:Nat):Nat→am.KT
|0=>((fun _ _=>none),(fun _ _=>none),(fun _ _=>none),(fun _ _=>none))
|nn_+1=>am.step mm_ (am.K mm_ nn_)
theorem am.step_le (mm_:Nat) (KK_:am.KT) (hh_:am.Ok KK_):am.Ok (am.step mm_ KK_):=by
 refine ⟨fun _ _=>?_,fun _ _=>?_,fun _ _=>?_,fun _ _=>?_⟩
 rw [am.L1_eq];rotate_left
 rw [am.L2_eq];rotate_left
 rw [am.L3_eq];rotate_left
 rw [am.L4_eq];rotate_left
 all_goals dsimp only [am.step]
 all_goals (repeat' (with_reducible first|exact hh_.1 _ _|exact hh_.2.1 _ _|exact hh_.2.2.1 _ _|exact hh_.2.2.2 _ _|exact dp.G_le mm_ _ _|exact Le.refl _|refine Le.cond ?_ ?_|refine Le.bind ?_ fun _=>?_))
theorem am.K_le (mm_:Nat):∀nn_,am.Ok (am.K mm_ nn_)
|0=>⟨fun _ _=>Le.none _,fun _ _=>Le.none _,fun _ _=>Le.none _,fun _ _=>Le.none _⟩
|nn_+1=>am.step_le mm_ (am.K mm_ nn_) (am.K_le mm_ nn_)
def am.G (mm_:Nat) (x:(List Int)) (count:Int):Option ((List Int) × Unit):=
 bif (decide ((count:Int)<0)) then
 none
 else
 (am.K mm_ mm_).1 x count
theorem am.G_le (mm_:Nat) (x:(List Int)) (count:Int):Le (am.G mm_ x count) (am.F x count):=by
 rw [am.F_eq];unfold am.G;(repeat' (with_reducible first|exact (am.K_le mm_ mm_).1 _ _|exact (am.K_le mm_ mm_).2.1 _ _|exact (am.K_le mm_ mm_).2.2.1 _ _|exact (am.K_le mm_ mm_).2.2.2 _ _|exact dp.G_le mm_ _ _|exact Le.refl _|refine Le.cond ?_ ?_|refine Le.bind ?_ fun _=>?_))
end
end Go.Proofs.YtkihjakbbcajbaaGreat.PM
namespace Go.Proofs.YtkihjakbbcajbaaGreat.RD
set_option linter.unusedSimpArgs false
set_option linter.unusedVariables false
open Go Go.Proofs Go.Proofs.YtkihjakbbcajbaaGreat.PM Go.Proofs.YtkihjakbbcajbaaGreat.RP Go.Proofs.YtkihjakbbcajbaaGreat.TB Go.Proofs.YtkihjakbbcajbaaGreat.Kd
theorem rep_all:((List.range 8).all fun n=>decide (am.G 100 [-1] ((n+1:Nat):Int)=some (List.replicate (n+1) (-1),())))=true:=by kernel_rfl
theorem rep_f {n:Nat} (h1:1≤n) (h2:n≤8):am.F [-1] (n:Int)=some (List.replicate n (-1),()):=by
 have h:=List.all_eq_true.1 rep_all (n - 1) (List.mem_range.2 (by omega))
 rw [decide_eq_true_eq,show n - 1+1=n by omega] at h
 exact am.G_le 100 _ _ _ h
theorem lru_New_f {n:Nat} (h1:1≤n) (h2:n≤8):i9.F (n:Int)=some ((PV n [],NX n [], -1, -1,()),0,()):=by
 rw [i9.F_eq,bd_neg (by omega),bd_neg (by omega),i9.L1_eq,rep_f h1 h2,ob,lim_small (by decide) (by dsimp only;rw [List.length_replicate];omega)]
 have e0:List.replicate n (-1)=PV n []:=(row_nil n).symm
 have e1:PV n []=NX n []:=by rw [←e0];exact (row_nil n).symm
 rw [e0]
 conv=>lhs;arg 1;arg 1;arg 2;rw [e1]
theorem arena_New_f {n:Nat} (h1:1≤n) (h2:n≤16):eo.F (n:Int)=some ((newN n,List.replicate n false,0,()),0,()):=by
 have e:decide ((0:Int)≤(n:Int)∧(n:Int)≤(n:Int))=true:=decide_eq_true (by omega)
 rw [eo.F_eq,bd_neg (by omega),bd_neg (by omega),eo.L1_eq,e,Bool.true_and,toNat_cast,lim_small (by decide) (by omega)]
 have h:=loop_go (n:=n) (L:=fun i=>eo.L2 (n:Int) (i:Int) [] [] ((List.range i).map (fun i:Nat=>((i+1:Nat):Int))) (List.replicate n false)) (fun i hi=>by
  try dsimp only
  rw [eo.L2_eq,bd_pos (by omega),eo.L3_eq,W_eq (by omega) (by omega),lim_small (by decide) (by simp;omega),List.range_succ,List.map_append,List.map_cons,List.map_nil,cast_add1])
 have h:eo.L2 (n:Int) 0 [] [] [] (List.replicate n false)=eo.L2 (n:Int) (n:Int) [] [] ((List.range n).map (fun i:Nat=>((i+1:Nat):Int))) (List.replicate n false):=h
 rw [h,eo.L2_eq,bd_neg (by omega),W_eq (by omega) (by omega),bd_pos (by rw [List.length_map,List.length_range];omega)]
 have hn:((n:Int) - 1).toNat=n - 1:=by omega
 have e2:((List.range n).map (fun i:Nat=>((i+1:Nat):Int))).set (n - 1) (-1)=newN n:=by
  refine List.ext_getElem (by rw [List.length_set,List.length_map,List.length_range,newN_len]) fun i a b=>?_
  rw [newN_len] at b
  rw [List.getElem_set,List.getElem_map,List.getElem_range]
  have:=newN_at b
  rw [getD_get (by rw [newN_len];exact b)] at this
  rw [this]
  by_cases q:i+1<n
  ·rw [if_neg (by omega),if_pos q]
  ·rw [if_pos (by omega),if_neg q]
 rw [hn,e2]
theorem probe_New_f:ik.F=some (List.replicate 16 c0_,()):=by
 rw [ik.F_eq,decide_eq_true (by decide),Bool.true_and,lim_small (by decide) (by decide)]
 rfl
theorem table_New_f {n:Nat} (h1:1≤n) (h2:n≤8):dt.F (n:Int)=some (NT n,0,()):=by
 have e:decide ((0:Int)≤(n:Int)∧(n:Int)≤(n:Int))=true:=decide_eq_true (by omega)
 rw [dt.F_eq,bd_neg (by omega),bd_neg (by omega),dt.L1_eq,arena_New_f h1 (by omega),ob,lru_New_f h1 h2,ob,e,Bool.true_and,Bool.true_and,toNat_cast,lim_small (by decide) (by omega),lim_small (by decide) (by omega),probe_New_f,ob]
 rfl
def Lev (bks:List t1.den):Prop:=∀c∈bks,Z c.2.1≤9223372036854775807
theorem Lev.set {bks:List t1.den} (h:Lev bks) {b:t1.den} (hb:Z b.2.1≤9223372036854775807) (i:Nat):Lev (bks.set i b):=fun c hc=>by
 rcases List.mem_or_eq_of_mem_set hc with h1|rfl
 ·exact h c h1
 ·exact hb
theorem new_lev (n:Nat):Lev (List.replicate n b0_):=fun c hc=>by
 rw [List.eq_of_mem_replicate hc];decide
theorem new_none (k p:Int):¬Has (List.replicate 16 c0_) k p:=fun ⟨m,a,b,u,_⟩=>by
 rw [cl_new] at u;cases u
theorem bkt_lev {b:t1.den} (h:BktOk b):Z b.2.1≤9223372036854775807:=by
 obtain ⟨⟨h1,h2,_⟩,h3,h4,_⟩:=h
 omega
section
variable {cap:Int} {keys:List Int} {bks:List t1.den} {next:List Int} {used:List Bool} {free:Int} {x:List t3.den} {prev nxt:List Int} {head tail:Int} {l:List Int}
theorem set_good (g:TGood cap keys bks next used free x prev nxt head tail l) {p:Int} (m:p∈l) {b:t1.den} (hb:BktOk b):TGood cap keys (bks.set p.toNat b) next used free x prev nxt head tail l:=by
 have hr:=g.mem_range m
 obtain ⟨l1,l2,l3,l4,l5,l6,l7⟩:=g.lens
 refine ⟨g.low,g.high,g.nkeys,by rw [List.length_set];exact g.nbks,g.nnext,g.nprev,g.arena,g.index,g.order,fun i hi=>?_,g.count⟩
 obtain ⟨r1,r2,r3⟩:=g.row i hi
 unfold RowOk
 rw [set_nat hr.1 (by omega)]
 by_cases e:p=(i:Int)
 ·rw [if_pos e]
  have hu:=r1.2 (e▸m)
  refine ⟨r1,fun h=>(by rw [hu] at h;cases h),fun h=>⟨(r3 h).1,hb⟩⟩
 ·rw [if_neg e];exact ⟨r1,r2,r3⟩
theorem set_f (g:TGood cap keys bks next used free x prev nxt head tail l) (hw:Lev bks) {key p:Int} (h:Has x key p) {b:t1.den} (hb:BktOk b):
  dw.F (cap,keys,bks,(next,used,free,()),x,(prev,nxt,head,tail,()),()) key b=some ((cap,keys,bks.set p.toNat b,(next,used,free,()),x,(prev,nxt,head,tail,()),()),0,()):=by
 have hr:=g.mem_range (g.has_mem h)
 obtain ⟨l1,l2,l3,l4,l5,l6,l7⟩:=g.lens
 rw [dw.F_eq,tcheck_f g hw,ob,bne_neg rfl,dw.L1_eq]
 rw [show dc.F _=_ from (bucket_says b (bkt_lev hb)).yes hb,ob,bne_neg rfl,dw.L2_eq,place_has g h,ob,bd_neg (by dsimp only;omega),dw.L3_eq,ttwin_f g,ob,bd_pos (by dsimp only;omega)]
theorem step_has (g:TGood cap keys bks next used free x prev nxt head tail l) (hw:Lev bks) {lim:t0.den} (hl:LimOk lim) {h:t9.den} (hb:BktOk h.2.1) {p:Int} (hp:Has x h.1 p):
  ∃(prev' nxt':List Int) (head' tail':Int),tStep lim (cap,keys,bks,(next,used,free,()),x,(prev,nxt,head,tail,()),()) h=some (cap,keys,bks.set p.toNat h.2.1,(next,used,free,()),x,(prev',nxt',head',tail',()),())∧TGood cap keys (bks.set p.toNat h.2.1) next used free x prev' nxt' head' tail' (p::l.erase p):=by
 obtain ⟨prev',nxt',head',tail',e2,g'⟩:=touch_good g (g.has_mem hp)
 refine ⟨prev',nxt',head',tail',?_,set_good g' (by simp) hb⟩
 unfold tStep
 rw [use_has g hw hl 0 hp e2,ob]
 dsimp only
 rw [set_f g' hw hp hb,ob]
theorem step_new (g:TGood cap keys bks next used free x prev nxt head tail l) (hw:Lev bks) {lim:t0.den} (hl:LimOk lim) {h:t9.den} (hb:BktOk h.2.1) (n:∀p,¬Has x h.1 p) {i:Int} {fl:List Int} (ga:AGood next used free (i::fl)):
  ∃(next':List Int) (used':List Bool) (free':Int) (x':List t3.den) (prev' nxt':List Int) (head' tail':Int),
   ew.F (next,used,free,())=some ((next',used',free',()),i,0,())∧cu.F x h.1 i=some (x',0,())∧du.F (prev,nxt,head,tail,()) i=some ((prev',nxt',head',tail',()),0,())∧
   tStep lim (cap,keys,bks,(next,used,free,()),x,(prev,nxt,head,tail,()),()) h=some (cap,keys.set i.toNat h.1,bks.set i.toNat h.2.1,(next',used',free',()),x',(prev',nxt',head',tail',()),())∧
   (∀b:t1.den,BktOk b→∀bks2,TGood cap keys bks2 next used free x prev nxt head tail l→TGood cap (keys.set i.toNat h.1) (bks2.set i.toNat b) next' used' free' x' prev' nxt' head' tail' (i::l))∧(∀k q,Has x' k q↔Has x k q∨(k=h.1∧q=i))∧0≤i∧i<used.length∧i∉l:=by
 obtain ⟨next',used',free',x',prev',nxt',head',tail',e1,e2,e3,g',hx',i0,i1⟩:=insert_good g (full_ok hl 0) n ga
 have nm:i∉l:=by
  have:=g'.order.nodup
  exact (List.nodup_cons.1 this).1
 refine ⟨next',used',free',x',prev',nxt',head',tail',e1,e2,e3,?_,fun b hb2 bks2 g2=>?_,hx',i0,i1,nm⟩
 ·unfold tStep
  rw [use_new g hw hl 0 n e1 e2 e3 i0 i1,ob]
  dsimp only
  rw [set_f g' (hw.set (full_lev hl 0) _) ((hx' _ _).2 (.inr ⟨rfl,rfl⟩)) hb,ob,List.set_set]
 ·obtain ⟨next2,used2,free2,x2,prev2,nxt2,head2,tail2,d1,d2,d3,g3,hx2,_,_⟩:=insert_good g2 hb2 n ga
  have a1:=Option.some.inj (e1.symm.trans d1)
  have a2:=Option.some.inj (e2.symm.trans d2)
  have a3:=Option.some.inj (e3.symm.trans d3)
  simp only [Prod.mk.injEq,and_true] at a1 a2 a3
  obtain ⟨a1,a1',a1''⟩:=a1
  obtain ⟨c1,c2,c3,c4⟩:=a3
  subst a1 a1' a1'' a2 c1 c2 c3 c4
  exact g3
end
theorem free_ex' {cap:Int} {keys:List Int} {bks:List t1.den} {next:List Int} {used:List Bool} {free:Int} {x:List t3.den} {prev nxt:List Int} {head tail:Int} {l:List Int} (g:TGood cap keys bks next used free x prev nxt head tail l) (h:(l.length:Int)<cap):∃i fl,AGood next used free (i::fl):=by
 obtain ⟨fl,ga⟩:=g.arena
 obtain ⟨l1,l2,l3,l4,l5,l6,l7⟩:=g.lens
 cases fl with
 |cons i fl=>exact ⟨i,fl,ga⟩
 |nil=>
  have h1:=(all_used ga).2 rfl
  have h2:=g.count
  have h3:=g.len
  omega
theorem safe_run {lim:t0.den} (hl:LimOk lim) {cap:Int}:∀(pre:List t9.den) (keys:List Int) (bks:List t1.den) (next:List Int) (used:List Bool) (free:Int) (x:List t3.den) (prev nxt:List Int) (head tail:Int) (l:List Int),TGood cap keys bks next used free x prev nxt head tail l→Lev bks→(∀h∈pre,BktOk h.2.1)→(l.length:Int)+(pre.length:Int)≤cap→(goR (tStep lim) pre (cap,keys,bks,(next,used,free,()),x,(prev,nxt,head,tail,()),())).isSome=true
 |[],_,_,_,_,_,_,_,_,_,_,_,_,_,_,_=>rfl
 |h::pre,keys,bks,next,used,free,x,prev,nxt,head,tail,l,g,hw,hb,hc=>by
  have b:=hb h List.mem_cons_self
  rw [List.length_cons] at hc
  have lv:=bkt_lev b
  show ((tStep lim _ h).bind (goR (tStep lim) pre)).isSome=true
  rcases g.or_none h.1 with ⟨p,hp⟩|hn
  ·obtain ⟨prev',nxt',head',tail',e,g'⟩:=step_has g hw hl b hp
   rw [e,ob]
   refine safe_run hl pre _ _ _ _ _ _ _ _ _ _ _ g' (hw.set lv _) (fun k hk=>hb k (List.mem_cons_of_mem _ hk)) ?_
   have:=List.length_erase_of_mem (g.has_mem hp)
   have h0:0<l.length:=List.length_pos_of_mem (g.has_mem hp)
   rw [List.length_cons,this]
   omega
  ·obtain ⟨i,fl,ga⟩:=free_ex' g (by omega)
   obtain ⟨next',used',free',x',prev',nxt',head',tail',e1,e2,e3,e,g',_,_,_,_⟩:=step_new g hw hl b hn ga
   rw [e,ob]
   refine safe_run hl pre _ _ _ _ _ _ _ _ _ _ _ (g' _ b _ g) (hw.set lv _) (fun k hk=>hb k (List.mem_cons_of_mem _ hk)) ?_
   rw [List.length_cons]
   omega
end Go.Proofs.YtkihjakbbcajbaaGreat.RD
namespace Go.Proofs.YtkihjakbbcajbaaGreat.RD
set_option linter.unusedSimpArgs false
set_option linter.unusedVariables false
open Go Go.Proofs Go.Proofs.YtkihjakbbcajbaaGreat.PM Go.Proofs.YtkihjakbbcajbaaGreat.RP Go.Proofs.YtkihjakbbcajbaaGreat.TB Go.Proofs.YtkihjakbbcajbaaGreat.Kd
section
variable {cap:Int} {keys:List Int} {bks:List t1.den} {next:List Int} {used:List Bool} {free:Int} {x:List t3.den} {prev nxt:List Int} {head tail:Int} {l:List Int}
theorem tgood_small (g:TGood cap keys bks next used free x prev nxt head tail l):TSmall (cap,keys,bks,(next,used,free,()),x,(prev,nxt,head,tail,()),()):=by
 obtain ⟨l1,l2,l3,l4,l5,l6,l7⟩:=g.lens
 have h1:=g.index.len
 have h2:=g.order.same
 refine ⟨?_,?_,?_,?_,?_,?_,?_⟩<;>dsimp only<;>omega
def HK (x:List t3.den):Prop:=∀k p,Has x k p→0≤k∧k<4294967296
end
end Go.Proofs.YtkihjakbbcajbaaGreat.RD
namespace Go.Proofs.YtkihjakbbcajbaaGreat.RD
set_option linter.unusedSimpArgs false
set_option linter.unusedVariables false
open Go Go.Proofs Go.Proofs.YtkihjakbbcajbaaGreat.PM Go.Proofs.YtkihjakbbcajbaaGreat.RP Go.Proofs.YtkihjakbbcajbaaGreat.TB Go.Proofs.YtkihjakbbcajbaaGreat.Kd
structure TL (l:List t9.den) (n:Nat) (lim:t0.den):Prop where
 len:l.length≤n
 low:1≤n
 high:n≤8
 nod:(l.map fun h=>Z h.1).Nodup
 bk:∀h∈l,BktOk h.2.1
 keys:∀h∈l,0≤Z h.1∧Z h.1<4294967296
 lok:LimOk lim
 alike:∀h∈l,h.2.1.1=lim
section
variable {l:List t9.den} {n:Nat} {lim:t0.den}
theorem hd_set {keys:List Int} {bks:List t1.den} {i p:Int} {k:Int} {b:t1.den} (i0:0≤i) (i1:i<keys.length) (i2:i<bks.length) (p0:0≤p) (h:i≠p):hd_ (keys.set i.toNat k) (bks.set i.toNat b) p=hd_ keys bks p:=by
 unfold hd_
 rw [set_at i0 i1 p0,set_at i0 i2 p0,if_neg h,if_neg h]
theorem one_more (T:TL l n lim) {k:Nat} (hlt:k<l.length) {keys:List Int} {bks:List t1.den} {next:List Int} {used:List Bool} {free:Int} {x:List t3.den} {prev nxt:List Int} {head tail:Int} {pl:List Int}
  (g:TGood (n:Int) keys bks next used free x prev nxt head tail pl) (hw:Lev bks) (hkk:HK x) (hm:pl.map (hd_ keys bks)=l.drop (k+1)):(∀p,¬Has x (l[k]).1 p)∧∃(i:Int) (fl:List Int) (next':List Int) (used':List Bool) (free':Int) (x':List t3.den) (prev' nxt':List Int) (head' tail':Int),AGood next used free (i::fl)∧
   ew.F (next,used,free,())=some ((next',used',free',()),i,0,())∧cu.F x (l[k]).1 i=some (x',0,())∧du.F (prev,nxt,head,tail,()) i=some ((prev',nxt',head',tail',()),0,())∧
   tStep lim ((n:Int),keys,bks,(next,used,free,()),x,(prev,nxt,head,tail,()),()) l[k]=some ((n:Int),keys.set i.toNat (l[k]).1,bks.set i.toNat (l[k]).2.1,(next',used',free',()),x',(prev',nxt',head',tail',()),())∧
   (∀b:t1.den,BktOk b→∀bks2,TGood (n:Int) keys bks2 next used free x prev nxt head tail pl→TGood (n:Int) (keys.set i.toNat (l[k]).1) (bks2.set i.toNat b) next' used' free' x' prev' nxt' head' tail' (i::pl))∧HK x'∧(i::pl).map (hd_ (keys.set i.toNat (l[k]).1) (bks.set i.toNat (l[k]).2.1))=l.drop k∧0≤i∧i<used.length∧i∉pl:=by
 have hmem:l[k]∈l:=List.getElem_mem hlt
 have hdrop:l.drop k=l[k]::l.drop (k+1):=List.drop_eq_getElem_cons hlt
 have hb:=T.bk _ hmem
 have hkey:=T.keys _ hmem
 obtain ⟨l1,l2,l3,l4,l5,l6,l7⟩:=g.lens
 have hnd:∀h∈l.drop (k+1),Z h.1≠Z (l[k]).1:=by
  have h1:=T.nod
  rw [←List.take_append_drop k l,hdrop,List.map_append,List.map_cons] at h1
  have h2:=(List.nodup_cons.1 (List.nodup_append.1 h1).2.1).1
  exact fun h hh e=>h2 (List.mem_map.2 ⟨h,hh,e⟩)
 have hn:∀p,¬Has x (l[k]).1 p:=fun p hp=>by
  have m:=g.has_mem hp
  have hq:=g.has_key hp
  have:hd_ keys bks p∈l.drop (k+1):=by rw [←hm];exact List.mem_map.2 ⟨p,m,rfl⟩
  exact hnd _ this hq
 have hpl:pl.length=(l.drop (k+1)).length:=by rw [←hm,List.length_map]
 rw [List.length_drop] at hpl
 have hlen:=T.len
 obtain ⟨i,fl,ga⟩:=free_ex' g (by omega)
 obtain ⟨next',used',free',x',prev',nxt',head',tail',f1,f2,f3,f4,f5,hx',i0,i1,nm⟩:=step_new g hw T.lok hb hn ga
 refine ⟨hn,i,fl,next',used',free',x',prev',nxt',head',tail',ga,f1,f2,f3,f4,f5,fun q p h=>?_,?_,i0,i1,nm⟩
 ·rcases (hx' q p).1 h with h|⟨rfl,rfl⟩
  ·exact hkk q p h
  ·exact hkey
 ·rw [hdrop,List.map_cons,←hm]
  congr 1
  ·unfold hd_
   rw [set_at i0 (by omega) i0,set_at i0 (by omega) i0,if_pos rfl,if_pos rfl]
  ·refine List.map_congr_left fun p hp=>?_
   have hr:=g.mem_range hp
   exact hd_set i0 (by omega) (by omega) hr.1 (fun e=>nm (e▸hp))
theorem goR_more {t t':t5.den} {k:Nat} (hlt:k<l.length) (e1:goR (tStep lim) (l.drop (k+1)).reverse (NT n)=some t) (f4:tStep lim t l[k]=some t'):goR (tStep lim) (l.drop k).reverse (NT n)=some t':=by
 rw [List.drop_eq_getElem_cons hlt,List.reverse_cons,goR_app,e1,ob]
 show (tStep lim _ l[k]).bind (goR (tStep lim) [])=_
 rw [f4,ob];rfl
theorem build_run (T:TL l n lim):∀d k:Nat,k+d=l.length→∃(keys:List Int) (bks:List t1.den) (next:List Int) (used:List Bool) (free:Int) (x:List t3.den) (prev nxt:List Int) (head tail:Int) (pl:List Int),
  goR (tStep lim) (l.drop k).reverse (NT n)=some ((n:Int),keys,bks,(next,used,free,()),x,(prev,nxt,head,tail,()),())∧
  TGood (n:Int) keys bks next used free x prev nxt head tail pl∧Lev bks∧HK x∧pl.map (hd_ keys bks)=l.drop k
 |0,k,hk=>by
  obtain rfl:k=l.length:=by omega
  have g:=new_table (n:=n) T.low T.high
  refine ⟨_,_,_,_,_,_,_,_,_,_,_,?_,g,new_lev n,fun k p h=>absurd h (new_none k p),?_⟩
  ·rw [List.drop_of_length_le (Nat.le_refl _)];rfl
  ·rw [List.drop_of_length_le (Nat.le_refl _)];rfl
 |d+1,k,hk=>by
  obtain ⟨keys,bks,next,used,free,x,prev,nxt,head,tail,pl,e1,g,hw,hkk,hm⟩:=build_run T d (k+1) (by omega)
  have hlt:k<l.length:=by omega
  have hb:=T.bk _ (List.getElem_mem hlt)
  obtain ⟨_,i,fl,next',used',free',x',prev',nxt',head',tail',_,_,_,_,f4,f5,hk',hm',_,_,_⟩:=one_more T hlt g hw hkk hm
  exact ⟨_,_,_,_,_,_,_,_,_,_,_,goR_more hlt e1 f4,f5 _ hb _ g,hw.set (bkt_lev hb) _,hk',hm'⟩
theorem map_at {keys:List Int} {bks:List t1.den} {pl:List Int} (hm:pl.map (hd_ keys bks)=l) {i:Nat} (h1:i<pl.length) (h2:i<l.length):keys.getD (pl[i]).toNat 0=(l[i]).1∧bks.getD (pl[i]).toNat b0_=(l[i]).2.1:=by
 subst hm
 rw [List.getElem_map]
 exact ⟨rfl,rfl⟩
structure TI (l:List t9.den) (n:Nat) (t:t5.den):Prop where
 cap:Z t.1=(n:Int)
 ok:TOk t
 wf:TWf t
 small:TSmall t
 held:heldOf t=l
 bks:∀b∈t.2.2.1,b=b0_∨∃h∈l,b=h.2.1
 rows:∀i:Nat,i<List.length t.2.2.2.1.2.1→List.getD t.2.2.2.1.2.1 i false=true→∃h∈l,List.getD t.2.1 i 0=h.1∧List.getD t.2.2.1 i b0_=h.2.1
section
variable {keys:List Int} {bks:List t1.den} {next:List Int} {used:List Bool} {free:Int} {x:List t3.den} {prev nxt:List Int} {head tail:Int} {pl:List Int}
theorem row_at (g:TGood (n:Int) keys bks next used free x prev nxt head tail pl) (hm:pl.map (hd_ keys bks)=l) (i:Nat) (hi:i<used.length) (hu:used.getD i false=true):∃(j:Nat) (h:j<pl.length) (h2:j<l.length),pl[j]=(i:Int)∧keys.getD i 0=(l[j]).1∧bks.getD i b0_=(l[j]).2.1:=by
 obtain ⟨j,hj,e⟩:=List.mem_iff_getElem.1 ((g.row i hi).1.1 hu)
 have hj2:j<l.length:=by rw [←hm,List.length_map];exact hj
 obtain ⟨m1,m2⟩:=map_at hm hj hj2
 rw [e,toNat_cast] at m1 m2
 exact ⟨j,hj,hj2,e,m1,m2⟩
theorem tabled_by (T:TL l n lim) {t:t5.den} (e:goR (tStep lim) l.reverse (NT n)=some t):ch.F l (n:Int) lim=some (t,()):=by
 have hlen:=T.len
 have hn:=T.high
 have sf:TSafe lim l (NT n):=fun pre hpre hl=>safe_run T.lok pre _ _ _ _ _ _ _ _ _ _ [] (new_table (n:=n) T.low T.high) (new_lev n) (fun h hh=>T.bk _ (hpre h hh)) (by simp only [List.length_nil];omega)
 rw [ch.F_eq,table_New_f T.low T.high,ob]
 unfold ch.Rest
 rw [if_pos ⟨by omega,sf⟩]
 dsimp only
 rw [e,ob]
end
theorem tab_ok (T:TL l n lim):∃t:t5.den,ch.F l (n:Int) lim=some (t,())∧TI l n t:=by
 obtain ⟨keys,bks,next,used,free,x,prev,nxt,head,tail,pl,e1,g,hw,hkk,hm⟩:=build_run T l.length 0 (by omega)
 rw [List.drop_zero] at e1 hm
 obtain ⟨l1,l2,l3,l4,l5,l6,l7⟩:=g.lens
 have rw_:=row_at g hm
 refine ⟨((n:Int),keys,bks,(next,used,free,()),x,(prev,nxt,head,tail,()),()),tabled_by T e1,?_⟩
 refine ⟨rfl,⟨pl,g⟩,⟨hw,keys_of g.index hkk,by have:=g.index.len;dsimp only;omega,fun k hk=>?_⟩,tgood_small g,?_,fun b hb=>?_,fun i hi hu=>?_⟩
 ·obtain ⟨i,hi,rfl⟩:=List.mem_iff_getElem.1 hk
  have hi:i<keys.length:=hi
  have e:keys[i]=keys.getD i 0:=(getD_get hi).symm
  show Z keys[i]≤4294967295
  rw [e]
  by_cases u:used.getD i false=true
  ·obtain ⟨j,hj,hj2,_,m1,_⟩:=rw_ i (by omega) u
   have:=T.keys _ (List.getElem_mem hj2)
   rw [m1]
   have:Z (l[j]).1<4294967296:=this.2
   omega
  ·rw [((g.row i (by omega)).2.1 (bool_not u)).1];decide
 ·rw [heldOf_good g hw];exact hm
 ·obtain ⟨i,hi,rfl⟩:=List.mem_iff_getElem.1 hb
  have hi:i<bks.length:=hi
  have e:bks[i]=bks.getD i b0_:=(getD_get hi).symm
  show bks[i]=b0_∨∃h∈l,bks[i]=h.2.1
  rw [e]
  by_cases u:used.getD i false=true
  ·obtain ⟨j,hj,hj2,_,_,m2⟩:=rw_ i (by omega) u
   exact .inr ⟨_,List.getElem_mem hj2,m2⟩
  ·exact .inl ((g.row i (by omega)).2.1 (bool_not u)).2
 ·obtain ⟨j,hj,hj2,_,m1,m2⟩:=rw_ i hi hu
  exact ⟨_,List.getElem_mem hj2,m1,m2⟩
end
end Go.Proofs.YtkihjakbbcajbaaGreat.RD
namespace Go.Proofs.YtkihjakbbcajbaaGreat.RD
set_option linter.unusedSimpArgs false
set_option linter.unusedVariables false
open Go Go.Proofs Go.Proofs.YtkihjakbbcajbaaGreat.PM Go.Proofs.YtkihjakbbcajbaaGreat.RP Go.Proofs.YtkihjakbbcajbaaGreat.TB
def Bl (P:Prop) (o:Option (Bool × Unit)):Prop:=(P∧o=some (true,()))∨(¬P∧o=some (false,()))
theorem Bl.congr {P Q:Prop} {o:Option (Bool × Unit)} (h:Bl P o) (e:P↔Q):Bl Q o:=by
 rcases h with h|h
 ·exact .inl ⟨e.1 h.1,h.2⟩
 ·exact .inr ⟨fun q=>h.1 (e.2 q),h.2⟩
theorem Bl.eq {P:Prop} {o q:Option (Bool × Unit)} (h:Bl P o) (k:Bl P q):o=q:=by
 rcases h with h|h
 ·rcases k with k|k
  ·rw [h.2,k.2]
  ·exact absurd h.1 k.1
 ·rcases k with k|k
  ·exact absurd k.1 h.1
  ·rw [h.2,k.2]
theorem Bl.guard {p P:Prop} [Decidable p] {o:Option (Bool × Unit)} (h:¬p→Bl P o):Bl (¬p∧P) (bif decide p then some (false,()) else o):=by
 by_cases q:p
 ·rw [bd_pos q];exact .inr ⟨fun k=>k.1 q,rfl⟩
 ·rw [bd_neg q]
  rcases h q with h|h
  ·exact .inl ⟨⟨q,h.1⟩,h.2⟩
  ·exact .inr ⟨fun k=>h.1 k.2,h.2⟩
theorem Bl.same {t:Ty} {x y:t.den} {P:Prop} {o:Option (Bool × Unit)} (h:x=y→Bl P o):Bl (x=y∧P) (bif !(Ty.beq t x y) then some (false,()) else o):=by
 by_cases e:x=y
 ·rw [nbeq_neg e]
  rcases h e with h|h
  ·exact .inl ⟨⟨e,h.1⟩,h.2⟩
  ·exact .inr ⟨fun k=>h.1 k.2,h.2⟩
 ·rw [nbeq_pos e];exact .inr ⟨fun k=>e k.1,rfl⟩
theorem Bl.call {P Q:Prop} {o:Option (Int × Unit)} {f:Int × Unit→Option (Bool × Unit)} (h:Says P o) (k:P→Bl Q (f (0,()))) (k8:f (8,())=some (false,())):Bl (P∧Q) (o.bind f):=by
 rcases h with ⟨h,e⟩|⟨h,e⟩
 ·rw [e]
  rcases k h with k|k
  ·exact .inl ⟨⟨h,k.1⟩,k.2⟩
  ·exact .inr ⟨fun q=>k.1 q.2,k.2⟩
 ·rw [e];exact .inr ⟨fun q=>h q.1,k8⟩
theorem Bl.and {P Q:Prop} {o:Option (Bool × Unit)} {f:Bool × Unit→Option (Bool × Unit)} (h:Bl P o) (k:P→Bl Q (f (true,()))) (k8:f (false,())=some (false,())):Bl (P∧Q) (o.bind f):=by
 rcases h with ⟨h,e⟩|⟨h,e⟩
 ·rw [e]
  rcases k h with k|k
  ·exact .inl ⟨⟨h,k.1⟩,k.2⟩
  ·exact .inr ⟨fun q=>k.1 q.2,k.2⟩
 ·rw [e];exact .inr ⟨fun q=>h q.1,k8⟩
theorem Bl.loop {n:Nat} {L:Nat→Option (Bool × Unit)} {ok:Nat→Prop} {Q:Prop} (h:∀i,i<n→(ok i∧L i=L (i+1))∨(¬ok i∧L i=some (false,()))) (k:(∀i,i<n→ok i)→Bl Q (L n)):Bl ((∀i,i<n→ok i)∧Q) (L 0):=by
 rcases loop_all h with ⟨a,e⟩|⟨a,e⟩
 ·rw [e]
  rcases k a with k|k
  ·exact .inl ⟨⟨a,k.1⟩,k.2⟩
  ·exact .inr ⟨fun q=>k.1 q.2,k.2⟩
 ·exact .inr ⟨fun q=>a q.1,e⟩
def HdRow (l:List t9.den) (lim:t0.den) (most:Int) (i:Nat):Prop:=∀h:i<l.length,¬Z (l[i]).1>most∧(∀(j:Nat) (hj:j<i),Z (l[j]'(by omega)).1≠(l[i]).1)∧(l[i]).2.1.1=lim∧BktOk (l[i]).2.1
def HdOk (l:List t9.den) (cap:Int) (lim:t0.den) (most:Int):Prop:=¬(l.length:Int)>cap∧∀i,i<l.length→HdRow l lim most i
def HLev (l:List t9.den):Prop:=∀h∈l,Z h.2.1.2.1≤9223372036854775807
theorem mat_f {l:List t9.den} (hl:l.length≤1000) (key:Int):(∃i:Nat,∃h:i<l.length,(l[i]).1=key∧(∀j (hj:j<i),Z (l[j]'(by omega)).1≠key)∧im.F l key=some ((i:Int),()))∨((∀i (h:i<l.length),Z (l[i]).1≠key)∧im.F l key=some (-1,())):=by
 rw [im.F_eq,b9.F_eq]
 rcases find_loop (n:=l.length) (L:=fun i=>b9.L1 l (l.length:Int) (i:Int) key) (p:=fun i:Nat=>∃h:i<l.length,(l[i]).1=key) (hit:=fun i=>some (key,(i:Int),())) (miss:=some (key, -1,())) (fun i hi=>by
  try dsimp only
  rw [b9.L1_eq,bd_pos (by omega),b9.L2_eq,bd_pos (by omega)]
  simp only [toNat_cast]
  rw [getD_get hi,ii.F_eq,ob]
  dsimp only
  by_cases h:(l[i]).1=key
  ·rw [beq_pos h];exact .inl ⟨⟨hi,h⟩,rfl⟩
  ·rw [beq_neg h,b9.L3_eq,W_eq (by omega) (by omega),cast_add1];exact .inr ⟨fun ⟨_,z⟩=>h z,rfl⟩) (by
  try dsimp only
  rw [b9.L1_eq,bd_neg (by omega)]) with ⟨i,hi,⟨_,h1⟩,h2,e⟩|⟨h1,e⟩
 ·rw [show b9.L1 l (l.length:Int) 0 key=_ from e,ob]
  exact .inl ⟨i,hi,h1,fun j hj z=>h2 j hj ⟨by omega,z⟩,rfl⟩
 ·rw [show b9.L1 l (l.length:Int) 0 key=_ from e,ob]
  exact .inr ⟨fun i h z=>h1 i h ⟨h,z⟩,rfl⟩
theorem mheld_f {l:List t9.den} (hl:l.length≤1000) (hw:HLev l) (cap:Int) (lim:t0.den) (most:Int):Bl (HdOk l cap lim most) (di.F l cap lim most):=by
 rw [di.F_eq]
 refine .guard fun _=>?_
 rw [di.L1_eq]
 refine (Bl.loop (n:=l.length) (L:=fun i=>di.L2 l most (l.length:Int) (i:Int) lim.1 lim.2.1 lim.2.2.1) (ok:=HdRow l lim most) (Q:=True) (fun i hi=>?_) (fun _=>?_)).congr ⟨fun h=>h.1,fun h=>⟨h,trivial⟩⟩
 ·have nx_:di.L4 l most (l.length:Int) (i:Int) lim.1 lim.2.1 lim.2.2.1=di.L2 l most (l.length:Int) ((i+1:Nat):Int) lim.1 lim.2.1 lim.2.2.1:=by
   rw [di.L4_eq,W_eq (by omega) (by omega),cast_add1]
  try dsimp only
  rw [di.L2_eq,bd_pos (by omega),di.L3_eq,bd_pos (by omega)]
  simp only [toNat_cast]
  rw [getD_get hi]
  by_cases a:Z (l[i]).1>most
  ·rw [bd_pos a];exact .inr ⟨fun h=>(h hi).1 a,rfl⟩
  have et:List.take (i - Int.toNat 0) (List.drop (Int.toNat 0) l)=l.take i:=rfl
  rw [bd_neg a,bd_pos (by omega),et]
  rcases mat_f (l:=l.take i) (by rw [List.length_take];omega) (l[i]).1 with ⟨j,hj,e,_,f⟩|⟨n,f⟩
  ·rw [f,ob,bd_pos (by dsimp only;omega)]
   rw [List.length_take] at hj
   rw [List.getElem_take] at e
   exact .inr ⟨fun h=>(h hi).2.1 j (by omega) e,rfl⟩
  ·have n':∀(j:Nat) (hj:j<i),Z (l[j]'(by omega)).1≠(l[i]).1:=fun j hj=>by
    have:=n j (by rw [List.length_take];omega)
    rw [List.getElem_take] at this
    exact this
   rw [f,ob,bd_neg (by decide)]
   by_cases c:(l[i]).2.1.1=lim
   ·rw [nbeq_neg (t:=t0) (by exact c)]
    rcases bucket_says (l[i]).2.1 (hw _ (List.getElem_mem hi)) with ⟨b,g⟩|⟨b,g⟩
    ·rw [g,ob,bne_neg rfl,nx_];exact .inl ⟨fun _=>⟨a,n',c,b⟩,rfl⟩
    ·rw [g,ob,bne_pos (by decide)];exact .inr ⟨fun h=>b (h hi).2.2.2,rfl⟩
   ·rw [nbeq_pos (t:=t0) (by exact c)];exact .inr ⟨fun h=>c (h hi).2.2.1,rfl⟩
 ·try dsimp only
  rw [di.L2_eq,bd_neg (by omega)]
  exact .inl ⟨trivial,rfl⟩
end Go.Proofs.YtkihjakbbcajbaaGreat.RD
namespace Go.Proofs.YtkihjakbbcajbaaGreat.RD
set_option linter.unusedSimpArgs false
set_option linter.unusedVariables false
open Go Go.Proofs Go.Proofs.YtkihjakbbcajbaaGreat.PM Go.Proofs.YtkihjakbbcajbaaGreat.RP Go.Proofs.YtkihjakbbcajbaaGreat.TB
def LC (lims:List t0.den) (caps:List Int) (i:Nat):Prop:=LimOk (lims.getD i z0)∧(i<2→¬Z (caps.getD i 0)<1∧¬Z (caps.getD i 0)>8)
def AccOk (a:t10.den):Prop:=¬Z a.1≥16∧(∀i,i<3→LC a.2.1 a.2.2.1 i)∧BktOk a.2.2.2.1∧a.2.2.2.1.1=List.getD a.2.1 0 z0∧HdOk a.2.2.2.2.1 (List.getD a.2.2.1 0 0) (List.getD a.2.1 1 z0) 4294967295∧HdOk a.2.2.2.2.2.1 (List.getD a.2.2.1 1 0) (List.getD a.2.1 2 z0) 65535∧¬(List.length a.2.2.2.2.2.2.1:Int)>8∧Rises a.2.2.2.2.2.2.1
structure AWf (a:t10.den):Prop where
 us:List.length a.2.2.2.2.1≤1000
 es:List.length a.2.2.2.2.2.1≤1000
 rv:List.length a.2.2.2.2.2.2.1≤1000
 lo:Z a.2.2.2.1.2.1≤9223372036854775807
 lu:HLev a.2.2.2.2.1
 le:HLev a.2.2.2.2.2.1
theorem mvalid_says {a:t10.den} (w:AWf a):Bl (AccOk a) (bv.F a):=by
 obtain ⟨w1,w2,w3,w4,w5,w6⟩:=w
 obtain ⟨tn,lims,caps,⟨⟨o1,o2,o3,⟨⟩⟩,o4,o5,o6,⟨⟩⟩,us,es,rv,⟨y1,y2,y3,⟨⟩⟩,⟨⟩⟩:=a
 dsimp only at w1 w2 w3 w4 w5 w6
 rw [bv.F_eq]
 dsimp only
 refine Bl.congr (P:=(∀i,i<3→LC lims caps i)∧(∀i,i<rv.length - 1→¬Z (rv.getD i 0)≥rv.getD (i+1) 0)∧¬Z tn≥16∧¬(rv.length:Int)>8∧(o1,o2,o3,())=lims.getD 0 z0∧BktOk ((o1,o2,o3,()),o4,o5,o6,())∧HdOk us (caps.getD 0 0) (lims.getD 1 z0) 4294967295∧HdOk es (caps.getD 1 0) (lims.getD 2 z0) 65535) ?_
  ⟨fun ⟨a,b,c,d,e,f,g,h⟩=>⟨c,a,f,e,g,h,d,b⟩,fun ⟨c,a,f,e,g,h,d,b⟩=>⟨a,b,c,d,e,f,g,h⟩⟩
 refine Bl.loop (L:=fun i=>bv.L1 lims (i:Int) tn caps o1 o2 o3 o4 o5 o6 us es rv y1 y2 y3) (ok:=LC lims caps) (fun i hi=>?_) (fun _=>?_)
 ·have nx_:bv.L7 lims (i:Int) tn caps o1 o2 o3 o4 o5 o6 us es rv y1 y2 y3=bv.L1 lims ((i+1:Nat):Int) tn caps o1 o2 o3 o4 o5 o6 us es rv y1 y2 y3:=by
   rw [bv.L7_eq,W_eq (by omega) (by omega),cast_add1]
  try dsimp only
  rw [bv.L1_eq,bd_pos (by omega),bv.L2_eq,bd_pos (by omega)]
  simp only [toNat_cast]
  rcases limit_says (lims.getD i z0) with ⟨h,e⟩|⟨h,e⟩
  ·rw [e,ob,bne_neg rfl]
   by_cases q:i<2
   ·rw [bd_pos (by omega),bd_pos (by omega)]
    by_cases c1:Z (caps.getD i 0)<1
    ·rw [bd_pos c1];exact .inr ⟨fun z=>(z.2 q).1 c1,rfl⟩
    rw [bd_neg c1,bd_pos (by omega)]
    by_cases c2:Z (caps.getD i 0)>8
    ·rw [bd_pos c2];exact .inr ⟨fun z=>(z.2 q).2 c2,rfl⟩
    ·rw [bd_neg c2,nx_];exact .inl ⟨⟨h,fun _=>⟨c1,c2⟩⟩,rfl⟩
   ·rw [bd_neg (by omega),nx_];exact .inl ⟨⟨h,fun z=>absurd z q⟩,rfl⟩
  ·rw [e,ob,bne_pos (by decide)];exact .inr ⟨fun z=>h z.1,rfl⟩
 try dsimp only
 rw [bv.L1_eq,bd_neg (by omega)]
 refine Bl.loop (n:=rv.length - 1) (L:=fun i=>bv.L3 ((i+1:Nat):Int) tn lims caps o1 o2 o3 o4 o5 o6 us es rv y1 y2 y3) (ok:=fun i=>¬Z (rv.getD i 0)≥rv.getD (i+1) 0) (fun i hi=>?_) (fun _=>?_)
 ·try dsimp only
  rw [bv.L3_eq,bd_pos (by omega),bv.L4_eq,bd_pos (by omega),W_eq (by omega) (by omega),bd_pos (by omega)]
  simp only [toNat_cast,toNat_sub1 (Nat.succ_pos i)]
  rw [show i+1 - 1=i by omega]
  by_cases a:Z (rv.getD i 0)≥rv.getD (i+1) 0
  ·rw [bd_pos (by exact a)];exact .inr ⟨fun h=>h a,rfl⟩
  ·rw [bd_neg (by exact a),bv.L6_eq,W_eq (by omega) (by omega),cast_add1];exact .inl ⟨a,rfl⟩
 try dsimp only
 rw [bv.L3_eq,bd_neg (by omega)]
 refine .guard fun _=> .guard fun _=>?_
 rw [bd_pos (by decide)]
 refine .same (t:=t0) fun _=>?_
 refine .call (bucket_says _ w4) (fun _=>?_) rfl
 rw [bne_neg rfl,bv.L5_eq,bd_pos (by decide),bd_pos (by decide)]
 refine .and (mheld_f w1 w5 _ _ _) (fun _=>?_) rfl
 rw [bt rfl,bd_pos (by decide),bd_pos (by decide)]
 refine (Bl.and (Q:=True) (mheld_f w2 w6 (caps.getD 1 0) (lims.getD 2 z0) 65535) (fun _=> .inl ⟨trivial,rfl⟩) rfl).congr ⟨fun h=>h.1,fun h=>⟨h,trivial⟩⟩
def LateH (l:List t9.den) (t:Int):Prop:=∃h∈l,Z h.2.1.2.2.2.1>t
def LateA (a:t10.den) (t:Int):Prop:=Z a.2.2.2.1.2.2.2.1>t∨LateH a.2.2.2.2.1 t∨LateH a.2.2.2.2.2.1 t
theorem lateH_at {l:List t9.den} {t:Int}:LateH l t↔∃i:Nat,∃h:i<l.length,Z (l[i]).2.1.2.2.2.1>t:=by
 constructor
 ·rintro ⟨b,hb,h⟩
  obtain ⟨i,hi,rfl⟩:=List.mem_iff_getElem.1 hb
  exact ⟨i,hi,h⟩
 ·rintro ⟨i,hi,h⟩
  exact ⟨_,List.getElem_mem hi,h⟩
theorem contH_f {l:List t9.den} (hl:l.length≤1000) (m:t11.den):(LateH l m.1∧f8.F l m=some (m,true,()))∨(¬LateH l m.1∧f8.F l m=some (m,false,())):=by
 obtain ⟨now,seed,ep,ac,⟨⟩⟩:=m
 rw [f8.F_eq,bj.F_eq]
 dsimp only
 rcases find_loop (n:=l.length) (L:=fun i=>bj.L1 l (l.length:Int) (i:Int) now seed ep ac) (p:=fun i:Nat=>∃h:i<l.length,Z (l[i]).2.1.2.2.2.1>now) (hit:=fun i=>some ((now,seed,ep,ac,()),(i:Int),())) (miss:=some ((now,seed,ep,ac,()), -1,())) (fun i hi=>by
  try dsimp only
  rw [bj.L1_eq,bd_pos (by omega),bj.L2_eq,bd_pos (by omega)]
  simp only [toNat_cast]
  rw [getD_get hi,gu.F_eq,ob]
  dsimp only
  by_cases h:Z (l[i]).2.1.2.2.2.1>now
  ·rw [bd_pos h];exact .inl ⟨⟨hi,h⟩,rfl⟩
  ·rw [bd_neg h,bj.L3_eq,W_eq (by omega) (by omega),cast_add1];exact .inr ⟨fun ⟨_,z⟩=>h z,rfl⟩) (by
  try dsimp only
  rw [bj.L1_eq,bd_neg (by omega)]) with ⟨i,hi,h1,_,e⟩|⟨h1,e⟩
 ·refine .inl ⟨lateH_at.2 ⟨i,h1⟩,?_⟩
  rw [show bj.L1 l (l.length:Int) 0 now seed ep ac=_ from e,ob]
  dsimp only
  rw [decide_eq_true (by omega)]
 ·refine .inr ⟨fun z=>?_,?_⟩
  ·obtain ⟨i,hi,h⟩:=lateH_at.1 z
   exact h1 i hi ⟨hi,h⟩
  ·rw [show bj.L1 l (l.length:Int) 0 now seed ep ac=_ from e,ob]
   rfl
def MRow (ac:List t10.den) (now:Int) (i:Nat):Prop:=∀h:i<ac.length,AccOk ac[i]∧¬LateA ac[i] now∧(0<i→¬Z (ac[i - 1]'(by omega)).1≥(ac[i]).1)
structure MOk (m:t11.den):Prop where
 few:¬(List.length m.2.2.2.1:Int)>8
 ep:EpOk m.2.2.1
 row:∀i,i<List.length m.2.2.2.1→MRow m.2.2.2.1 m.1 i
structure MWf (m:t11.den):Prop where
 ep:List.length m.2.2.1=16
 ac:∀a∈m.2.2.2.1,AWf a
theorem contE_f {ep:List Int} (hl:ep.length=16):(EpOk ep∧fe.F ep=some (false,()))∨(¬EpOk ep∧fe.F ep=some (true,())):=by
 rw [fe.F_eq,bu.F_eq]
 rcases find_loop (n:=ep.length) (L:=fun i=>bu.L1 ep (ep.length:Int) (i:Int)) (p:=fun i:Nat=>Z (ep.getD i 0)>1000000) (hit:=fun i=>some ((i:Int),())) (miss:=some (-1,())) (fun i hi=>by
  try dsimp only
  rw [bu.L1_eq,bd_pos (by omega),bu.L2_eq,bd_pos (by omega)]
  simp only [toNat_cast]
  rw [gt.F_eq,ob]
  dsimp only
  by_cases h:Z (ep.getD i 0)>1000000
  ·rw [bd_pos h];exact .inl ⟨h,rfl⟩
  ·rw [bd_neg h,bu.L3_eq,W_eq (by omega) (by omega),cast_add1];exact .inr ⟨h,rfl⟩) (by
  try dsimp only
  rw [bu.L1_eq,bd_neg (by omega)]) with ⟨i,hi,h1,_,e⟩|⟨h1,e⟩
 ·refine .inr ⟨fun z=>z i (by omega) h1,?_⟩
  rw [show bu.L1 ep (ep.length:Int) 0=_ from e,ob]
  dsimp only
  rw [decide_eq_true (by omega)]
 ·refine .inl ⟨fun i hi=>h1 i (by omega),?_⟩
  rw [show bu.L1 ep (ep.length:Int) 0=_ from e,ob]
  rfl
theorem mcheck_says {m:t11.den} (w:MWf m):Says (MOk m) (dd.F m):=by
 obtain ⟨w1,w2⟩:=w
 obtain ⟨now,seed,ep,ac,⟨⟩⟩:=m
 dsimp only at w1 w2
 rw [dd.F_eq]
 dsimp only
 by_cases h8:(ac.length:Int)>8
 ·rw [bd_pos h8];exact .inr ⟨fun z=>z.few h8,rfl⟩
 have et:List.take (Int.toNat 16 - Int.toNat 0) (List.drop (Int.toNat 0) ep)=ep:=by
  show List.take 16 (List.drop 0 ep)=ep
  rw [List.drop_zero,List.take_of_length_le (by omega)]
 rw [bd_neg h8,bd_pos (by decide),et]
 rcases contE_f w1 with ⟨he,e⟩|⟨he,e⟩
 ·rw [e,ob,bf rfl,dd.L1_eq]
  rcases loop_all (n:=ac.length) (L:=fun i=>dd.L2 ac (ac.length:Int) (i:Int) now seed ep ac) (ok:=MRow ac now) (stop:=some (8,())) (fun i hi=>by
   have nx_:dd.L4 ac (ac.length:Int) (i:Int) now seed ep ac=dd.L2 ac (ac.length:Int) ((i+1:Nat):Int) now seed ep ac:=by
    rw [dd.L4_eq,W_eq (by omega) (by omega),cast_add1]
   have aw:=w2 _ (List.getElem_mem hi)
   have a1:=aw.us
   have a2:=aw.es
   try dsimp only
   rw [dd.L2_eq,bd_pos (by omega),dd.L3_eq,bd_pos (by omega)]
   simp only [toNat_cast]
   rw [getD_get hi]
   rcases mvalid_says aw with ⟨v,f⟩|⟨v,f⟩
   ·rw [f,ob,bnt rfl]
    by_cases o:Z (ac[i]).2.2.2.1.2.2.2.1>now
    ·rw [bd_pos o];exact .inr ⟨fun z=>(z hi).2.1 (.inl o),rfl⟩
    rw [bd_neg o]
    rcases contH_f (l:=(ac[i]).2.2.2.2.1) a1 (now,seed,ep,ac,()) with ⟨b,g⟩|⟨b,g⟩
    ·rw [g,ob,bt rfl];exact .inr ⟨fun z=>(z hi).2.1 (.inr (.inl b)),rfl⟩
    rw [g,ob,bf rfl]
    dsimp only
    rcases contH_f (l:=(ac[i]).2.2.2.2.2.1) a2 (now,seed,ep,ac,()) with ⟨c,g⟩|⟨c,g⟩
    ·rw [g,ob,bt rfl];exact .inr ⟨fun z=>(z hi).2.1 (.inr (.inr c)),rfl⟩
    rw [g,ob,bf rfl]
    dsimp only
    have nl:¬LateA ac[i] now:=fun z=>z.elim o fun z=>z.elim b c
    by_cases i0:0<i
    ·rw [bd_pos (by omega),W_eq (by omega) (by omega),bd_pos (by omega),toNat_sub1 i0,getD_get (by omega:i - 1<ac.length)]
     by_cases q:Z (ac[i - 1]).1≥(ac[i]).1
     ·rw [bd_pos q];exact .inr ⟨fun z=>(z hi).2.2 i0 q,rfl⟩
     ·rw [bd_neg q,nx_];exact .inl ⟨fun _=>⟨v,nl,fun _=>q⟩,rfl⟩
    ·rw [bd_neg (by omega),nx_];exact .inl ⟨fun _=>⟨v,nl,fun z=>absurd z i0⟩,rfl⟩
   ·rw [f,ob,bnf rfl];exact .inr ⟨fun z=>v (z hi).1,rfl⟩) with ⟨a,f⟩|⟨a,f⟩
  ·refine .inl ⟨⟨h8,he,a⟩,Eq.trans f ?_⟩
   try dsimp only
   rw [dd.L2_eq,bd_neg (by omega)]
  ·exact .inr ⟨fun z=>a z.row,f⟩
 ·rw [e,ob,bt rfl];exact .inr ⟨fun z=>he z.ep,rfl⟩
end Go.Proofs.YtkihjakbbcajbaaGreat.RD
namespace Go.Proofs.YtkihjakbbcajbaaGreat.RD
set_option linter.unusedSimpArgs false
set_option linter.unusedVariables false
open Go Go.Proofs Go.Proofs.YtkihjakbbcajbaaGreat.PM Go.Proofs.YtkihjakbbcajbaaGreat.RP Go.Proofs.YtkihjakbbcajbaaGreat.TB
structure AKey (a:t10.den):Prop where
 three:List.length a.2.1=3
 two:List.length a.2.2.1=2
 ku:∀h∈a.2.2.2.2.1,0≤Z h.1
 ke:∀h∈a.2.2.2.2.2.1,0≤Z h.1
@[irreducible] noncomputable def tabOf (l:List t9.den) (cap:Int) (lim:t0.den):t5.den:=match ch.F l cap lim with
 |some (t,_)=>t
 |none=>NT 1
theorem hd_nodup {l:List t9.den} {lim:t0.den} {most:Int} (h:∀i,i<l.length→HdRow l lim most i):(l.map fun h=>Z h.1).Nodup:=by
 rw [List.nodup_iff_pairwise_ne,List.pairwise_iff_getElem]
 intro i j hi hj hij
 rw [List.length_map] at hi hj
 rw [List.getElem_map,List.getElem_map]
 exact (h j hj hj).2.1 i hij
theorem hd_tl {l:List t9.den} {cap:Int} {lim:t0.den} {most:Int} (hm:most≤4294967295) (h:HdOk l cap lim most) (hk:∀h∈l,0≤Z h.1) (c1:¬cap<1) (c2:¬cap>8) (hl:LimOk lim):TL l cap.toNat lim where
 len:=by have:=h.1;omega
 low:=by omega
 high:=by omega
 nod:=hd_nodup h.2
 bk x hx:=by
  obtain ⟨i,hi,rfl⟩:=List.mem_iff_getElem.1 hx
  exact (h.2 i hi hi).2.2.2
 keys x hx:=by
  refine ⟨hk x hx,?_⟩
  obtain ⟨i,hi,rfl⟩:=List.mem_iff_getElem.1 hx
  have:=(h.2 i hi hi).1
  omega
 lok:=hl
 alike x hx:=by
  obtain ⟨i,hi,rfl⟩:=List.mem_iff_getElem.1 hx
  exact (h.2 i hi hi).2.2.1
theorem tabOf_ok {l:List t9.den} {cap:Int} {lim:t0.den} {most:Int} (hm:most≤4294967295) (h:HdOk l cap lim most) (hk:∀h∈l,0≤Z h.1) (c1:¬cap<1) (c2:¬cap>8) (hl:LimOk lim):
  ch.F l cap lim=some (tabOf l cap lim,())∧TI l cap.toNat (tabOf l cap lim):=by
 obtain ⟨t,e1,e3⟩:=tab_ok (hd_tl hm h hk c1 c2 hl)
 have e:((cap.toNat:Nat):Int)=cap:=by omega
 rw [e] at e1
 have et:tabOf l cap lim=t:=by unfold tabOf;rw [e1]
 rw [et]
 exact ⟨e1,e3⟩
noncomputable def bldP (a:t10.den):t7.den:=(a.1,a.2.1,a.2.2.2.1,tabOf a.2.2.2.2.1 (List.getD a.2.2.1 0 0) (List.getD a.2.1 1 z0),tabOf a.2.2.2.2.2.1 (List.getD a.2.2.1 1 0) (List.getD a.2.1 2 z0),a.2.2.2.2.2.2.1,a.2.2.2.2.2.2.2.1,())
theorem acc_us {a:t10.den} (h:AccOk a) (k:AKey a):ch.F a.2.2.2.2.1 (List.getD a.2.2.1 0 0) (List.getD a.2.1 1 z0)=some ((bldP a).2.2.2.1,())∧TI a.2.2.2.2.1 (Int.toNat (List.getD a.2.2.1 0 0)) (bldP a).2.2.2.1:=
 tabOf_ok (Int.le_refl _) h.2.2.2.2.1 k.ku ((h.2.1 0 (by decide)).2 (by decide)).1 ((h.2.1 0 (by decide)).2 (by decide)).2 (h.2.1 1 (by decide)).1
theorem acc_es {a:t10.den} (h:AccOk a) (k:AKey a):ch.F a.2.2.2.2.2.1 (List.getD a.2.2.1 1 0) (List.getD a.2.1 2 z0)=some ((bldP a).2.2.2.2.1,())∧TI a.2.2.2.2.2.1 (Int.toNat (List.getD a.2.2.1 1 0)) (bldP a).2.2.2.2.1:=
 tabOf_ok (by decide) h.2.2.2.2.2.1 k.ke ((h.2.1 1 (by decide)).2 (by decide)).1 ((h.2.1 1 (by decide)).2 (by decide)).2 (h.2.1 2 (by decide)).1
theorem ti_alike {l:List t9.den} {n:Nat} {t:t5.den} (i:TI l n t) {cap:Int} {lim:t0.den} {most:Int} (h:HdOk l cap lim most):TB.Alike t lim most:=fun j hj hu=>by
 obtain ⟨x,hx,e1,e2⟩:=i.rows j hj hu
 obtain ⟨k,hk,rfl⟩:=List.mem_iff_getElem.1 hx
 have r:=h.2 k hk hk
 refine ⟨?_,?_⟩
 ·rw [show List.getD t.2.2.1 j TB.b0_=_ from e2];exact r.2.2.1
 ·rw [show List.getD t.2.1 j 0=_ from e1];exact r.1
theorem bldP_ok {a:t10.den} (h:AccOk a) (k:AKey a):PartOk (bldP a)∧PWf (bldP a)∧PSmall (bldP a):=by
 have u:=(acc_us h k).2
 have e:=(acc_es h k).2
 obtain ⟨h1,h2,h3,h4,h5,h6,h7,h8⟩:=h
 refine ⟨⟨h1,fun i hi=>(h2 i hi).1,h3,u.ok,e.ok,h4,ti_alike u h5,ti_alike e h6,h7,h8⟩,⟨k.three,bkt_lev h3,u.wf,e.wf⟩,⟨u.small,e.small,?_⟩⟩
 show ¬(List.length a.2.2.2.2.2.2.1:Int)>100
 omega
noncomputable def bld (m:t11.den):t8.den:=(m.1,m.2.1,m.2.2.1,List.map bldP m.2.2.2.1,())
structure MW (m:t11.den):Prop where
 wf:MWf m
 seed:List.length m.2.1=32
 now:0≤Z m.1
 keys:∀a∈m.2.2.2.1,AKey a
theorem MOk.acc {m:t11.den} (h:MOk m):∀a∈m.2.2.2.1,AccOk a∧¬LateA a m.1:=fun a ha=>by
 obtain ⟨i,hi,rfl⟩:=List.mem_iff_getElem.1 ha
 have r:=h.row i hi hi
 exact ⟨r.1,r.2.1⟩
theorem build_f {m:t11.den} (w:MW m) (h:MOk m):de.F m=some (bld m,0,()):=by
 have hc:=(mcheck_says w.wf).yes h
 have hacc:=h.acc
 have hkey:=w.keys
 have hf:=h.few
 obtain ⟨now,seed,ep,ac,⟨⟩⟩:=m
 dsimp only at hacc hkey hf
 rw [de.F_eq,hc,ob,bne_neg rfl,de.L1_eq]
 dsimp only
 generalize List.replicate 32 (0:Int)=r1
 generalize List.replicate 16 (0:Int)=r2
 have h2:=loop_go (n:=ac.length) (L:=fun i=>de.L2 ac (ac.length:Int) (i:Int) r1 r2 now seed ep [] ((ac.take i).map bldP)) (fun i hi=>by
  have hm:ac[i]∈ac:=List.getElem_mem hi
  have u:ch.F (ac[i]).2.2.2.2.1 (List.getD (ac[i]).2.2.1 (Int.toNat 0) 0) (List.getD (ac[i]).2.1 (Int.toNat 1) (0,0,0,()))=some ((bldP ac[i]).2.2.2.1,()):=(acc_us (hacc _ hm).1 (hkey _ hm)).1
  have e:ch.F (ac[i]).2.2.2.2.2.1 (List.getD (ac[i]).2.2.1 (Int.toNat 1) 0) (List.getD (ac[i]).2.1 (Int.toNat 2) (0,0,0,()))=some ((bldP ac[i]).2.2.2.2.1,()):=(acc_es (hacc _ hm).1 (hkey _ hm)).1
  have hrv:=(hacc _ hm).1.2.2.2.2.2.2.1
  try dsimp only
  rw [de.L2_eq,bd_pos (by omega),de.L3_eq,bd_pos (by omega),bd_pos (by decide),bd_pos (by decide)]
  simp only [toNat_cast]
  rw [getD_get hi,u,ob,bd_pos (by decide),bd_pos (by decide),e,ob,lim_small (by decide) (by omega),lim_small (by decide) (by simp;omega),W_eq (by omega) (by omega),cast_add1,←List.take_append_getElem hi,List.map_append]
  rfl)
 refine Eq.trans h2 ?_
 try dsimp only
 rw [de.L2_eq,bd_neg (by omega),List.take_of_length_le (Nat.le_refl _)]
 rfl
theorem bld_wf {m:t11.den} (w:MW m) (h:MOk m):SWf (bld m):=by
 have hf:=h.few
 have hl:List.length (bld m).2.2.2.1=List.length m.2.2.2.1:=by show (List.map bldP m.2.2.2.1).length=_;rw [List.length_map]
 refine ⟨by omega,fun p hp=>?_,fun p hp=>?_,w.wf.ep,w.seed⟩
 ·obtain ⟨a,ha,rfl⟩:=List.mem_map.1 hp
  exact (bldP_ok (h.acc a ha).1 (w.keys a ha)).2.2
 ·obtain ⟨a,ha,rfl⟩:=List.mem_map.1 hp
  exact (bldP_ok (h.acc a ha).1 (w.keys a ha)).2.1
end Go.Proofs.YtkihjakbbcajbaaGreat.RD
