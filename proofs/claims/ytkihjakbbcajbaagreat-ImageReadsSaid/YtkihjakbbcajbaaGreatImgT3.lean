/- Parts of the proof, joined: PM28, PM29, ImgP1, ImgP2, ImgP3, ImgP4, ImgP5, ImgR1, ImgR2, ImgR3, ImgR4, ImgR5, TbNr, Le, TwR, ImgT1, ImgT2, ImgT3. -/
import Derived.ProofKit
import Derived.OpenShut
import Derived.Deep.Slices
import Derived.ShutString
import Derived.ChangeOld
import Derived.SizedLaws
import Derived.Carry
import Derived.Test.YtkihjakbbcajbaaGreatTbR3
namespace Go.Proofs.YtkihjakbbcajbaaGreat.PM
set_option linter.unusedSimpArgs false
set_option linter.unusedVariables false
open Go Go.RowKit
def Ty.solid:Ty→Bool
 |.pair a b=>a.solid && b.solid
 |.arr _ t=>t.solid
 |.slice t=>Nat.ble 1 t.size && t.solid
 |_=>true
def Ty.wf:(t:Ty)→t.den→Prop
 |.int k,x=>(Lit.int k x).wf=true
 |.bool,_=>True
 |.str,x=>List.length (α:=UInt8) x≤maxLen
 |.unit,_=>True
 |.pair a b,x=>a.wf x.1∧b.wf x.2
 |.arr n t,x=>List.length (α:=t.den) x=n∧∀y∈(show List t.den from x),t.wf y
 |.slice t,x=>List.length (α:=t.den) x≤maxLen∧∀y∈(show List t.den from x),t.wf y
def Here (W:World):Nat→Prop:=fun r=>r<W.heap.size
section
variable {P:Program} {H:Type} {enc:TypeId × Value→H} {W:World} {base:Nat} {spare:Nat→Bool} {held:Bool}
theorem ty_cells {τ:Ty} {t:TypeId} (h:tyB P τ t=true):P.cellsOf t=τ.size:=by
 obtain ⟨i,z,h1,h2,_⟩:=tyB_info h
 unfold Program.cellsOf;rw [h1];exact h2
theorem cat_build {u:Ty} {a:Addr}:∀(len k:Nat),(∀i,i<len→∃(q:u.den) (c:List Value),c.length=u.size∧TRel (Here W) W u c q∧u.wf q∧∀j v,c[j]?=some v→W.cell? (a.add ((k+i)*u.size+j))=some v)→
  ∃(l:List u.den) (c:List Value),l.length=len∧Cat (TRel (Here W) W u) c l∧(∀q∈l,u.wf q)∧∀j v,c[j]?=some v→W.cell? (a.add (k*u.size+j))=some v
 |0,_,_=>⟨[],[],rfl,rfl,by simp,by simp⟩
 |len+1,k,h=>by
  obtain ⟨q,c,h1,h2,h3,h4⟩:=h 0 (by omega)
  obtain ⟨l,d,g1,g2,g3,g4⟩:=cat_build len (k+1) (fun i hi=>by
   have:=h (i+1) (by omega)
   rwa [show k+(i+1)=k+1+i by omega] at this)
  refine ⟨q::l,c++d,by simp [g1],⟨c,d,rfl,h2,g2⟩,fun z hz=>?_,fun j v hv=>?_⟩
  ·rcases List.mem_cons.1 hz with rfl|hz
   ·exact h3
   ·exact g3 z hz
  ·by_cases hj:j<c.length
   ·rw [List.getElem?_append_left hj] at hv
    have:=h4 j v hv
    rwa [Nat.add_zero] at this
   ·rw [List.getElem?_append_right (by omega)] at hv
    have:=g4 _ v hv
    rwa [show (k+1)*u.size+(j - c.length)=k*u.size+j by rw [Nat.succ_mul];omega] at this
theorem cat_of {u:Ty}:∀(n k:Nat) (cs:List Value),cs.length=(k+n)*u.size→(∀i,i<n→∃q:u.den,TRel (Here W) W u ((cs.drop ((k+i)*u.size)).take u.size) q∧u.wf q)→
  ∃l:List u.den,l.length=n∧Cat (TRel (Here W) W u) (cs.drop (k*u.size)) l∧∀q∈l,u.wf q
 |0,k,cs,hl,_=>⟨[],rfl,by show cs.drop (k*u.size)=[];rw [List.drop_eq_nil_iff];simp at hl;omega,by simp⟩
 |n+1,k,cs,hl,h=>by
  obtain ⟨q,h1,h2⟩:=h 0 (by omega)
  obtain ⟨l,g1,g2,g3⟩:=cat_of n (k+1) cs (by rw [hl];congr 1;omega) (fun i hi=>by
   have:=h (i+1) (by omega)
   rwa [show k+(i+1)=k+1+i by omega] at this)
  refine ⟨q::l,by simp [g1],⟨(cs.drop (k*u.size)).take u.size,(cs.drop (k*u.size)).drop u.size,(List.take_append_drop _ _).symm,by simpa using h1,?_⟩,fun z hz=>?_⟩
  ·rw [List.drop_drop,show k*u.size+u.size=(k+1)*u.size by rw [Nat.succ_mul]];exact g2
  ·rcases List.mem_cons.1 hz with rfl|hz
   ·exact h2
   ·exact g3 z hz
mutual
theorem trod_rel:∀(τ:Ty) (t:TypeId) (fuel:Nat) (cs:List Value) (x:DataW H × List MemPlace),tyB P τ t=true→τ.solid=true→DataW.trod enc P W base spare held fuel t cs=some x→∃a:τ.den,TRel (Here W) W τ cs a∧τ.wf a
 |.int k,t,fuel,cs,x,ht,_,h=>by
  obtain ⟨n,rfl,_,hw⟩:=DataW.trod_int (und_int ht) h
  exact ⟨n,rfl,hw⟩
 |.bool,t,fuel,cs,x,ht,_,h=>by
  have hu:P.underlying t=some .bool:=by
   simp only [tyB_bool,Bool.and_eq_true] at ht
   have h2:=ht.2
   split at h2
   ·assumption
   ·cases h2
  obtain ⟨b,rfl,_⟩:=DataW.trod_bool hu h
  exact ⟨b,rfl,trivial⟩
 |.str,t,fuel,cs,x,ht,_,h=>by
  cases fuel with
  |zero=>simp [DataW.trod] at h
  |succ n=>
   unfold DataW.trod at h
   rw [und_str ht] at h
   split at h
   all_goals first
    |(rename_i s e;cases e;done)
    |skip
   all_goals simp_all
   exact ⟨_,⟨_,rfl,rfl⟩,by
    show List.length _≤maxLen
    rename_i s
    simpa using h.1⟩
 |.unit,t,fuel,cs,x,ht,_,h=>by
  have ht':=ht
  simp only [tyB_unit,Bool.and_eq_true] at ht'
  obtain ⟨_,hu⟩:=ht'
  split at hu
  ·rename_i fs hfs
   obtain ⟨xs,n,_,_,hl,_⟩:=DataW.trod_struct hfs h
   rw [ty_cells ht] at hl
   exact ⟨(),List.length_eq_zero_iff.1 hl,trivial⟩
  ·cases hu
 |.pair a b,t,fuel,cs,x,ht,hs,h=>by
  have ht':=ht
  simp only [tyB_pair,Bool.and_eq_true] at ht'
  obtain ⟨_,hu⟩:=ht'
  split at hu
  ·rename_i fs hfs
   obtain ⟨xs,n,_,rfl,hl,hlen,hfld⟩:=DataW.trod_struct hfs h
   rw [ty_cells ht] at hl
   have:=trod_flds (.pair a b) fs.toList 0 n cs hu hs (fun q hq=>by
    obtain ⟨i,hi,rfl⟩:=List.getElem_of_mem hq
    have h1:=hfld i fs.toList[i] (by simp at hi;simp [hi])
    have h2:i<xs.length:=by rw [hlen];simpa using hi
    exact ⟨xs[i],by rw [h1,List.getElem?_eq_getElem h2]⟩) (by rw [hl];omega)
   simpa using this
  ·cases hu
 |.arr n u,t,fuel,cs,x,ht,hs,h=>by
  have ht':=ht
  simp only [tyB_arr,Bool.and_eq_true] at ht'
  obtain ⟨_,hu⟩:=ht'
  split at hu
  ·rename_i m e hm
   simp only [Bool.and_eq_true] at hu
   obtain rfl:=Nat.eq_of_beq_eq_true hu.1
   obtain ⟨xs,k,_,_,hl,hlen,hel⟩:=DataW.trod_array hm h
   have hc:=ty_cells hu.2
   rw [ty_cells ht] at hl
   obtain ⟨l,g1,g2,g3⟩:=cat_of (W:=W) (u:=u) m 0 cs (by rw [hl];simp [Ty.size]) (fun i hi=>by
    have h1:=hel i hi
    rw [List.getElem?_eq_getElem (by omega),hc] at h1
    obtain ⟨q,q1,q2⟩:=trod_rel u e k _ _ hu.2 hs h1
    exact ⟨q,by simpa using q1,q2⟩)
   exact ⟨l,⟨g1,by simpa using g2⟩,g1,g3⟩
  ·cases hu
 |.slice u,t,fuel,cs,x,ht,hs,h=>by
  obtain ⟨e,hu,he⟩:=slice_und ht
  simp only [Ty.solid,Bool.and_eq_true] at hs
  have h1:=Nat.le_of_ble_eq_true hs.1
  have hc:=ty_cells he
  rcases Deep.open_slice hu h with ⟨rfl,_⟩|⟨a,len,cap,m,n,D,Pl,rfl,_,hl,hm,hmm,_,hel⟩
  ·exact ⟨[],⟨none,0,rfl,Nat.le_refl _,fun h=>by simp at h⟩,by simp [Ty.wf]⟩
  ·have hle:len≤m:=by rw [hmm];split<;>omega
   have hcell:∀i,i<len→∃(q:u.den) (c:List Value),c.length=u.size∧TRel (Here W) W u c q∧u.wf q∧∀j v,c[j]?=some v→W.cell? (a.add ((0+i)*u.size+j))=some v:=fun i hi=>by
    obtain ⟨c,hcs,hd⟩:=hel i (by omega)
    obtain ⟨q,hq,hw⟩:=trod_rel u e _ _ _ he hs.2 hd
    obtain ⟨_,hlen,hcl⟩:=World.cells?_some hcs
    refine ⟨q,c,TRel.len u _ _ hq,hq,hw,fun j v hv=>?_⟩
    have hj:j<c.length:=(List.getElem?_eq_some_iff.1 hv).1
    have k1:=hcl j (by omega)
    rw [Addr.add_add,hc] at k1
    rw [Nat.zero_add,k1,hv]
   obtain ⟨l,c,g1,g2,g3,g4⟩:=cat_build (W:=W) (u:=u) (a:=a) len 0 hcell
   have hmx:len≤maxLen:=by omega
   refine ⟨l,⟨some a,cap,by rw [g1],by omega,fun hpos=>?_⟩,by omega,g3⟩
   have hlenc:=Cat.len (TRel.len u) g2
   have h0:0<c.length:=by
    rw [hlenc];exact Nat.mul_pos hpos h1
   have k1:=g4 0 c[0] (by rw [List.getElem?_eq_getElem h0])
   have k2:W.cell? a=some c[0]:=by simpa [Addr.add] using k1
   have k3:a.spot=none∧a.block<W.heap.size:=by
    unfold World.cell? at k2
    split at k2
    ·rename_i hb
     split at k2
     ·cases k2
     ·rename_i hsp
      exact ⟨by simpa using hsp,heap_lt hb⟩
    ·cases k2
   refine ⟨a,rfl,k3.1,k3.2,c,fun j v hv=>?_,g2⟩
   have:=g4 j v hv
   simpa using this
 termination_by τ=>(SizeOf.sizeOf τ,1)
theorem trod_flds:∀(τ:Ty) (fs:List Field) (o fuel:Nat) (cs:List Value),fldB P τ fs o=true→τ.solid=true→(∀f∈fs,∃y,DataW.trod enc P W base spare held fuel f.type ((cs.drop f.offset).take (P.cellsOf f.type))=some y)→cs.length=o+τ.size→∃a:τ.den,TRel (Here W) W τ (cs.drop o) a∧τ.wf a
 |.pair x y,fs,o,fuel,cs,hf,hs,h,hl=>by
  cases fs with
  |nil=>simp [fldB_pair0] at hf
  |cons f fs=>
   simp only [fldB_pair1,Bool.and_eq_true] at hf
   simp only [Ty.solid,Bool.and_eq_true] at hs
   obtain rfl:=Nat.eq_of_beq_eq_true hf.1
   obtain ⟨z,hz⟩:=h f (by simp)
   obtain ⟨a,ha,wa⟩:=trod_rel x f.type fuel _ _ hf.2.1 hs.1 hz
   obtain ⟨b,hb,wb⟩:=trod_flds y fs (f.offset+x.size) fuel cs hf.2.2 hs.2 (fun g hg=>h g (List.mem_cons_of_mem _ hg)) (by rw [hl];simp [Ty.size];omega)
   rw [ty_cells hf.2.1] at ha
   exact ⟨(a,b),⟨_,_,by rw [←List.drop_drop,List.take_append_drop],ha,hb⟩,wa,wb⟩
 |.unit,fs,o,fuel,cs,hf,_,_,hl=>⟨(),by
   show cs.drop o=[]
   rw [List.drop_eq_nil_iff];simp [Ty.size] at hl;omega,trivial⟩
 |.int _,_,_,_,_,hf,_,_,_=>by simp [fldB_int] at hf
 |.bool,_,_,_,_,hf,_,_,_=>by simp [fldB_bool] at hf
 |.str,_,_,_,_,hf,_,_,_=>by simp [fldB_str] at hf
 |.arr _ _,_,_,_,_,hf,_,_,_=>by simp [fldB_arr] at hf
 |.slice _,_,_,_,_,hf,_,_,_=>by simp [fldB_slice] at hf
 termination_by τ=>(SizeOf.sizeOf τ,0)
end
end
end Go.Proofs.YtkihjakbbcajbaaGreat.PM
namespace Go.Proofs.YtkihjakbbcajbaaGreat.PM
set_option linter.unusedSimpArgs false
set_option linter.unusedVariables false
open Go Go.ChangeShapes Go.WideShapes Go.ChangeAt Go.RowKit
def argsB (P:Program):List PK→List TypeId→Bool
 |[],[]=>true
 |.val τ::r,t::ts=>tyB P τ t && (τ.solid && argsB P r ts)
 |_,_=>false
def argsWf:(ps:List PK)→(argTy ps).den→Prop
 |.val t::r,x=>t.wf x.1∧argsWf r x.2
 |[],_=>True
 |_::_,_=>False
def rowsB (P:Program) (ts:List TypeId):Bool:=ts.all fun t=>P.readableRec t && decide (t<P.types.size)
section
variable {P:Program} {H:Type} {enc:TypeId × Value→H} {W W':World}
theorem okw_agg {τ:Ty} {t:TypeId} {base:Nat} {v:Value} (ht:tyB P τ t=true) (h:Value.okWide P W .any base t v):isAggV v=τ.agg:=by
 cases τ with
 |int k=>obtain ⟨n,rfl⟩:=okWide_int (und_int ht) h;rfl
 |bool=>
  have hu:P.underlying t=some .bool:=by
   simp only [tyB_bool,Bool.and_eq_true] at ht
   have h2:=ht.2
   split at h2
   ·assumption
   ·cases h2
  obtain ⟨n,rfl⟩:=okWide_bool hu h;rfl
 |str=>obtain ⟨n,rfl⟩:=okWide_string (und_str ht) h;rfl
 |unit=>
  simp only [tyB_unit,Bool.and_eq_true] at ht
  obtain ⟨_,hu⟩:=ht
  split at hu
  ·rename_i fs hfs
   obtain ⟨cs,rfl,_⟩:=okWide_struct hfs h;rfl
  ·cases hu
 |pair a b=>
  simp only [tyB_pair,Bool.and_eq_true] at ht
  obtain ⟨_,hu⟩:=ht
  split at hu
  ·rename_i fs hfs
   obtain ⟨cs,rfl,_⟩:=okWide_struct hfs h;rfl
  ·cases hu
 |arr n u=>
  simp only [tyB_arr,Bool.and_eq_true] at ht
  obtain ⟨_,hu⟩:=ht
  split at hu
  ·rename_i m e hm
   simp only [Value.okWide,hm] at h
   obtain ⟨cs,rfl,_⟩:=h;rfl
  ·cases hu
 |slice u=>
  obtain ⟨e,hu,_⟩:=slice_und ht
  obtain ⟨a,len,cap,rfl⟩:=okWide_slice hu h;rfl
theorem open_args {base:Nat} {spare:Nat→Bool} {held:Bool}:∀(ps:List PK) (ts:List TypeId) (vs:List Value) (ds:List (DataW H)) (p:List MemPlace),argsB P ps ts=true→
  (∀(j:Nat) t v,ts[j]?=some t→vs[j]?=some v→Value.okWide P W .any 0 t v)→DataW.TrodAll enc P W base spare held ts vs ds p→∃x:(argTy ps).den,ArgsRel (Here W) W ps vs x []∧argsWf ps x∧ds.length=ts.length
 |[],[],vs,ds,p,_,_,h=>by
  cases vs with
  |nil=>cases ds with
   |nil=>exact ⟨(),⟨rfl,rfl⟩,trivial,rfl⟩
   |cons d ds=>exact h.elim
  |cons v vs=>exact h.elim
 |.val τ::r,t::ts,vs,ds,p,hb,hok,h=>by
  simp only [argsB,Bool.and_eq_true] at hb
  obtain ⟨hb1,hb2,hb3⟩:=hb
  obtain ⟨v,us,d,ds',p',q,rfl,rfl,rfl,h1,h2⟩:=trodAll_cons h
  obtain ⟨fuel,hf⟩:=h1
  obtain ⟨a,ha,wa⟩:=trod_rel τ t fuel _ _ hb1 hb2 hf
  obtain ⟨x,hx,wx,hl⟩:=open_args r ts us ds' q hb3 (fun j t' v' e1 e2=>hok (j+1) t' v' (by simpa using e1) (by simpa using e2)) h2
  exact ⟨(a,x),⟨v,us,rfl,⟨okw_agg hb1 (hok 0 t v rfl rfl),ha,rfl⟩,hx⟩,⟨wa,wx⟩,by simp [hl]⟩
 |[],_::_,_,_,_,hb,_,_=>by simp [argsB] at hb
 |.val _::_,[],_,_,_,hb,_,_=>by simp [argsB] at hb
 |.io _ _::_,_,_,_,_,hb,_,_=>by simp [argsB] at hb
 |.mu _::_,_,_,_,_,hb,_,_=>by simp [argsB] at hb
 |.fn _::_,_,_,_,_,hb,_,_=>by simp [argsB] at hb
 |.eat _::_,_,_,_,_,hb,_,_=>by simp [argsB] at hb
 |.clo _ _::_,_,_,_,_,hb,_,_=>by simp [argsB] at hb
theorem keep_args (hl:laidOutB P=true) (hb:Below W.heap.size W W'):∀(ts:List TypeId) (vs:List Value) (ds:List (DataW H)) (p:List MemPlace),rowsB P ts=true→DataW.TrodAll enc P W 0 (fun _=>true) true ts vs ds p→DataW.TrodAll enc P W' 0 (fun b=>decide (b<W.heap.size)) true ts vs ds p
 |[],vs,ds,p,_,h=>by
  cases vs with
  |nil=>cases ds with
   |nil=>exact h
   |cons d ds=>exact h.elim
  |cons v vs=>exact h.elim
 |t::ts,vs,ds,p,hr,h=>by
  simp only [rowsB,List.all_cons,Bool.and_eq_true,decide_eq_true_eq] at hr
  obtain ⟨v,us,d,ds',p',q,rfl,rfl,rfl,h1,h2⟩:=trodAll_cons h
  have hlt:∀x∈p',x.block<W.heap.size:=by obtain ⟨m,hm⟩:=h1;exact DataW.trod_lt m _ _ _ hm
  exact trodAll_cons_mk (Below.trod hl hr.1.1 hr.1.2 h1 hb hlt) (keep_args hl hb ts us ds' q (by simpa [rowsB] using hr.2) h2)
end
theorem out_bool {A:Nat→Prop} {w:World} {zs:List Value} {b:Bool} {bs:List Nat} (h:ResRel A w [(.bool,true)] zs (b,()) bs):zs=[.bool b]:=by
 obtain ⟨v,us,p,q,rfl,_,⟨ha,hv⟩,rfl,_⟩:=h
 have hv:OwnT A w .bool v.cells.toList b p:=hv
 have h1:v.cells.toList=[.bool b]:=by
  unfold OwnT at hv
  exact hv.1
 have hc:=isAggV_cells (v:=v) ha
 rw [hc] at h1
 simpa using h1
theorem law_run {P:Program} {gl:List (Nat × PV)} {f:FuncId} {s:Sig} {G:(argTy s.ps).den→Option (outTy s.ps s.rs).den} {W:World} {vs:List Value} {x:(argTy s.ps).den} {y:(outTy s.ps s.rs).den}
  (hF:FnSpec P gl f ⟨s,G⟩) (hG:GlOk gl (Here W) W) (hv:ArgsRel (Here W) W s.ps vs x []) (h:G x=some y) (ho:∀A w vs zs bs,OutRel A w s.ps s.rs vs zs y bs→zs=[.bool true]):
  Calls P f vs.toArray W fun e W'=>e=.returned (.bool true)∧Below W.heap.size W W':=by
 refine (hF.calls W (Here W) vs x [] y hG hv List.nodup_nil (fun r hr=>by simp at hr) (fun _ hr=>hr) h).mono fun e W' D=>?_
 obtain ⟨⟨zs,A',bs',rfl,o1,_⟩,K⟩:=D
 obtain rfl:=ho _ _ _ _ _ o1
 exact ⟨rfl,K.os,K.tape,K.output,K.size,fun k hk=>K.block k hk (fun h=>h.elim (fun h=>by omega) (fun h=>by simp at h))⟩
theorem law_lifted {C:Checked} {os:Os} {f:FuncId} {fn:Func} {s:ChangeSpec} {conds:List PathCond} {ps:List PK} {tb:TypeId} {gl:List (Nat × PV)} {G:(argTy ps).den→Option (outTy ps [(.bool,true)]).den} {H:Type} {enc:TypeId × Value→H}
  (own:ownKnob C.prog.godebug=none) (started:os.Started) (noInit:C.prog.inits.idxOf? f=none) (hfn:C.prog.funcs[f]?=some fn)
  (witness:∃(w:World) (tape:Tape) (i:Input),w.os=os∧(w.forCall tape i).Shaped C.prog∧i.vars=[]∧Input.okWide C.prog (w.forCall tape i) .any w.heap.size f i∧
   s.pre6 enc C.prog fn conds false (w.forCall tape i).memory i.args∧({}:Assume).holds C.prog (Go.lone (Frame.enter C.prog f i.args .normal) [] (w.forCall tape i)))
  (hvars:s.vars=[]) (hs:∀ds:List (DataW H),ds.length=fn.params.toList.length→(s.fn H ds).results=[.lit (.bool true)]∧(s.fn H ds).args=ds∧(s.fn H ds).vars=[])
  (hres:fn.resultTypes=#[tb]) (htb:C.prog.underlying tb=some .bool) (hargs:argsB C.prog ps fn.params.toList=true) (hl:laidOutB C.prog=true) (hrows:rowsB C.prog fn.params.toList=true)
  (hF:FnSpec C.prog gl f ⟨⟨ps,[(.bool,true)]⟩,G⟩) (hgl:gl=[])
  (hG:∀x,argsWf ps x→∃y,G x=some y∧∀A w vs zs bs,OutRel A w ps [(.bool,true)] vs zs y bs→zs=[.bool true]):
  ReturnsInHanded {} C os f .any (s.pre6 enc C.prog fn conds false) (s.post enc C.prog fn false true false false):=by
 refine returnsInHanded_of_change_sized own started noInit hfn witness ?_
 intro W base args ds gs before hval hW hcnd hsz _
 have hW':=hW
 obtain ⟨p,q,hA,hV,rfl,hfz,hnd⟩:=hW
 have hlen:args.size=args.size:=rfl
 obtain ⟨x,hx,wx,hdl⟩:=open_args (W:=W) ps fn.params.toList args.toList ds p hargs (fun j t v e1 e2=>hval j t v (by simpa using e1) (by simpa using e2)) hA
 obtain ⟨y,hy,ho⟩:=hG x wx
 subst hgl
 have hc:=law_run hF (fun n x e=>by cases e) hx hy ho
 have e1:args.toList.toArray=args:=by simp
 rw [e1] at hc
 rw [hvars] at hV
 obtain ⟨rfl,rfl⟩:=trodVars_none hV
 refine hc.mono fun e W' ⟨he,hb⟩=>?_
 subst he
 obtain ⟨r1,r2,r3⟩:=hs ds hdl
 refine ⟨_,rfl,ds,[],_,[],p,[],hW',?_,?_,?_,hb.frame _,fun h=>by cases h⟩
 ·rw [List.append_nil,r1,hres];exact trodAll_mk1 (shut_bool htb _)
 ·rw [List.append_nil,r2];exact keep_args hl hb _ _ _ _ hrows hA
 ·rw [List.append_nil,r3,hvars];rfl
end Go.Proofs.YtkihjakbbcajbaaGreat.PM
namespace Go.Proofs.YtkihjakbbcajbaaGreat.TB
set_option linter.unusedSimpArgs false
set_option linter.unusedVariables false
open Go Go.Proofs Go.Proofs.YtkihjakbbcajbaaGreat.PM Go.Proofs.YtkihjakbbcajbaaGreat.RP
structure TSmall (t:t5.den):Prop where
 keys:¬(List.length t.2.1:Int)>100
 bks:¬(List.length t.2.2.1:Int)>100
 idx:¬(List.length t.2.2.2.2.1:Int)>100
 next:¬(List.length t.2.2.2.1.1:Int)>100
 used:¬(List.length t.2.2.2.1.2.1:Int)>100
 prev:¬(List.length t.2.2.2.2.2.1.1:Int)>100
 nxt:¬(List.length t.2.2.2.2.2.1.2.1:Int)>100
structure PSmall (p:t7.den):Prop where
 us:TSmall p.2.2.2.1
 es:TSmall p.2.2.2.2.1
 rev:¬(List.length p.2.2.2.2.2.1:Int)>100
theorem twin16_ok {t:t5.den} (h:TSmall t):eo.F t=some (t,()):=by
 obtain ⟨h1,h2,h3,h4,h5,h6,h7⟩:=h
 rw [eo.F_eq,lim_small (by decide) (by simp only [List.length_nil];omega),lim_small (by decide) (by simp only [List.length_nil];omega),ej.F_eq,lim_small (by decide) (by simp only [List.length_nil];omega),lim_small (by decide) (by simp only [List.length_nil];omega),ob,lim_small (by decide) (by simp only [List.length_nil];omega),fg.F_eq,lim_small (by decide) (by simp only [List.length_nil];omega),lim_small (by decide) (by simp only [List.length_nil];omega),ob]
 rfl
theorem keys_refl {a:List Int} (h:a.length≤1000):av.F a a=some (true,()):=by
 rw [av.F_eq,bne_neg rfl,av.L1_eq]
 have h2:=loop_go (n:=a.length) (L:=fun i=>av.L2 a a (i:Int)) (fun i hi=>by
  try dsimp only
  rw [av.L2_eq,bd_pos (by omega),av.L3_eq,bd_pos (by omega),bd_pos (by omega),bne_neg rfl,av.L4_eq,W_eq (by omega) (by omega),cast_add1])
 refine Eq.trans h2 ?_
 try dsimp only
 rw [av.L2_eq,bd_neg (by omega)]
theorem same13_refl {a:List Int} {b:List Bool} {c:Int} (h1:a.length≤1000) (h2:b.length≤1000):ar.F (a,b,c,()) (a,b,c,())=some (true,()):=by
 rw [ar.F_eq]
 dsimp only
 rw [bne_neg rfl,bne_neg rfl,bne_neg rfl,ar.L1_eq]
 have e1:=loop_go (n:=a.length) (L:=fun i=>ar.L2 (i:Int) a b c a b c) (fun i hi=>by
  try dsimp only
  rw [ar.L2_eq,bd_pos (by omega),ar.L3_eq,bd_pos (by omega),bd_pos (by omega),bne_neg rfl,ar.L7_eq,W_eq (by omega) (by omega),cast_add1])
 refine Eq.trans e1 ?_
 try dsimp only
 rw [ar.L2_eq,bd_neg (by omega)]
 have e2:=loop_go (n:=b.length) (L:=fun i=>ar.L4 (i:Int) a b c a b c) (fun i hi=>by
  try dsimp only
  rw [ar.L4_eq,bd_pos (by omega),ar.L5_eq,bd_pos (by omega),bd_pos (by omega),bnt (beq_self_eq_true _),ar.L6_eq,W_eq (by omega) (by omega),cast_add1])
 refine Eq.trans e2 ?_
 try dsimp only
 rw [ar.L4_eq,bd_neg (by omega)]
theorem same14_refl {a:List t3.den} (h:a.length≤1000):ca.F a a=some (true,()):=by
 rw [ca.F_eq,bne_neg rfl,ca.L1_eq]
 have h2:=loop_go (n:=a.length) (L:=fun i=>ca.L2 a a (i:Int)) (fun i hi=>by
  try dsimp only
  rw [ca.L2_eq,bd_pos (by omega),ca.L3_eq,bd_pos (by omega),bd_pos (by omega),nbeq_neg rfl,ca.L4_eq,W_eq (by omega) (by omega),cast_add1])
 refine Eq.trans h2 ?_
 try dsimp only
 rw [ca.L2_eq,bd_neg (by omega)]
theorem same16_refl {t:t5.den} (h:TSmall t):bv.F t t=some (true,()):=by
 obtain ⟨h1,h2,h3,h4,h5,h6,h7⟩:=h
 obtain ⟨cap,keys,bks,⟨next,used,free,⟨⟩⟩,x,⟨prev,nxt,head,tail,⟨⟩⟩,⟨⟩⟩:=t
 dsimp only at h1 h2 h3 h4 h5 h6 h7
 rw [bv.F_eq]
 dsimp only
 rw [bne_neg rfl,keys_refl (by omega),ob,bnt rfl,bne_neg rfl,same13_refl (by omega) (by omega),ob,bnt rfl,same14_refl (by omega),ob,bnt rfl,same15_f (by omega) (by omega),ob,decide_eq_true ⟨rfl,rfl,rfl,rfl⟩,bnt rfl,bv.L1_eq]
 have e1:=loop_go (n:=bks.length) (L:=fun i=>bv.L2 (i:Int) cap keys bks next used free x prev nxt head tail cap keys bks next used free x prev nxt head tail) (fun i hi=>by
  try dsimp only
  rw [bv.L2_eq,bd_pos (by omega),bv.L3_eq,bd_pos (by omega),bd_pos (by omega),nbeq_neg rfl,bv.L4_eq,W_eq (by omega) (by omega),cast_add1])
 refine Eq.trans e1 ?_
 try dsimp only
 rw [bv.L2_eq,bd_neg (by omega)]
theorem same18_refl {p:t7.den} (h:PSmall p):fa.F p p=some (true,()):=by
 obtain ⟨h1,h2,h3⟩:=h
 rw [fa.F_eq,beq_pos rfl,tbeq_pos (t:=.arr 3 t0) rfl,tbeq_pos (t:=t1) rfl,same16_refl h1,ob,bt rfl,same16_refl h2,ob,bt rfl,keys_refl (by omega),ob,bt rfl,(beq_iff t6 _ _).2 rfl]
theorem same19_refl {l:List t7.den} (hl:l.length≤1000) (h:∀p∈l,PSmall p):bz.F l l=some (true,()):=by
 rw [bz.F_eq,bne_neg rfl,bz.L1_eq]
 have h2:=loop_go (n:=l.length) (L:=fun i=>bz.L2 l l (i:Int)) (fun i hi=>by
  try dsimp only
  rw [bz.L2_eq,bd_pos (by omega),bz.L3_eq,bd_pos (by omega),bd_pos (by omega)]
  simp only [toNat_cast]
  rw [getD_get hi,same18_refl (h _ (List.getElem_mem hi)),ob,bnt rfl,bz.L4_eq,W_eq (by omega) (by omega),cast_add1])
 refine Eq.trans h2 ?_
 try dsimp only
 rw [bz.L2_eq,bd_neg (by omega)]
section
variable {cap:Int} {keys:List Int} {bks:List t1.den} {next:List Int} {used:List Bool} {free:Int} {x:List t3.den} {prev nxt:List Int} {head tail:Int} {l:List Int}
theorem get_f (g:TGood cap keys bks next used free x prev nxt head tail l) (hw:∀c∈bks,Z c.2.1≤9223372036854775807) {key p:Int} (h:Has x key p):f0.F (cap,keys,bks,(next,used,free,()),x,(prev,nxt,head,tail,()),()) key=some (bks.getD p.toNat b0_,0,()):=by
 have hr:=g.mem_range (g.has_mem h)
 obtain ⟨l1,l2,l3,l4,l5,l6,l7⟩:=g.lens
 rw [f0.F_eq,tcheck_f g hw,ob,bne_neg rfl,f0.L1_eq,place_has g h,ob,bd_neg (by dsimp only;omega),f0.L2_eq,bd_pos (by dsimp only;omega)]
end
end Go.Proofs.YtkihjakbbcajbaaGreat.TB
namespace Go.Proofs.YtkihjakbbcajbaaGreat.TB
set_option linter.unusedSimpArgs false
set_option linter.unusedVariables false
open Go Go.Proofs Go.Proofs.YtkihjakbbcajbaaGreat.PM Go.Proofs.YtkihjakbbcajbaaGreat.RP
@[reducible] def w8 (n:Int):Int:=IntKind.wrap .u8 n
@[reducible] def w64 (n:Int):Int:=IntKind.wrap .u64 n
noncomputable def bt8 (n:Int) (k:Nat):Int:=IntKind.wrap .u8 (Int.fdiv n (2 ^ min (Int.toNat (IntKind.wrap .i64 (8*(k:Int)))) (IntKind.bits .u64)))
noncomputable def be (n:Int):Nat→List Int
 |0=>[]
 |k+1=>bt8 n k::be n k
theorem be_len (n:Int):∀k,(be n k).length=k
 |0=>rfl
 |k+1=>by rw [be,List.length_cons,be_len n k]
theorem be_one (x:Int):be (w64 x) 1=[w8 x]:=by
 have h:(2:Int) ^ min (Int.toNat (IntKind.wrap .i64 (8*((0:Nat):Int)))) (IntKind.bits .u64)=1:=by decide
 show [bt8 (w64 x) 0]=_
 rw [bt8,h,show Int.fdiv (w64 x) 1=w64 x by simp]
 show [IntKind.wrap .u8 (IntKind.wrap .u64 x)]=[IntKind.wrap .u8 x]
 rw [IntKind.wrap_u64,IntKind.wrap_u8,IntKind.wrap_u8]
 congr 1
 omega
noncomputable def bkB (b:t1.den):List Int:=be (w64 b.2.1) 8++(be (w64 b.2.2.1) 8++be b.2.2.2.1 8)
noncomputable def hdB (h:t9.den):List Int:=be (w64 h.1) 4++bkB h.2.1
noncomputable def hlB (x:List t9.den):List Int:=w8 (x.length:Int)::x.flatMap hdB
noncomputable def lmB (x:List t0.den) (i:Nat):List Int:=be (w64 (x.getD i (0,0,0,())).1) 4++(be (w64 (x.getD i (0,0,0,())).2.1) 4++be (w64 (x.getD i (0,0,0,())).2.2.1) 4)
noncomputable def rvB (u:Int):List Int:=be (w64 u) 4
noncomputable def accB (a:t10.den):List Int:=
 w8 a.1::((List.range 3).flatMap (lmB a.2.1)++(w8 (List.getD a.2.2.1 (Int.toNat 0) 0)::w8 (List.getD a.2.2.1 (Int.toNat 1) 0)::(bkB a.2.2.2.1++(hlB a.2.2.2.2.1++(hlB a.2.2.2.2.2.1++(w8 (List.length a.2.2.2.2.2.2.1:Int)::(List.flatMap rvB a.2.2.2.2.2.2.1++(be a.2.2.2.2.2.2.2.1.1 8++(be a.2.2.2.2.2.2.2.1.2.1 8++be a.2.2.2.2.2.2.2.1.2.2.1 8)))))))))
end Go.Proofs.YtkihjakbbcajbaaGreat.TB
namespace Go.Proofs.YtkihjakbbcajbaaGreat.TB
set_option linter.unusedSimpArgs false
set_option linter.unusedVariables false
open Go Go.Proofs Go.Proofs.YtkihjakbbcajbaaGreat.PM Go.Proofs.YtkihjakbbcajbaaGreat.RP
section
variable {cap:Int} {keys:List Int} {bks:List t1.den} {next:List Int} {used:List Bool} {free:Int} {x:List t3.den} {prev nxt:List Int} {head tail:Int} {l:List Int}
theorem at16_f (g:TGood cap keys bks next used free x prev nxt head tail l) {key p:Int} (h:Has x key p):bm.F (cap,keys,bks,(next,used,free,()),x,(prev,nxt,head,tail,()),()) key=some (p,()):=by
 obtain ⟨l1,l2,l3,l4,l5,l6,l7⟩:=g.lens
 have hr:=g.mem_range (g.has_mem h)
 rw [bm.F_eq]
 dsimp only
 rcases find_loop (n:=used.length) (L:=fun i=>bm.L1 key (i:Int) cap keys bks next used free x prev nxt head tail) (p:=fun i:Nat=>used.getD i false=true∧keys.getD i 0=key) (hit:=fun i=>some ((i:Int),())) (miss:=some (-1,())) (fun i hi=>by
  try dsimp only
  rw [bm.L1_eq,bd_pos (by omega),bm.L2_eq,bd_pos (by omega)]
  simp only [toNat_cast]
  have nx_:bm.L3 key (i:Int) cap keys bks next used free x prev nxt head tail=bm.L1 key ((i+1:Nat):Int) cap keys bks next used free x prev nxt head tail:=by
   rw [bm.L3_eq,W_eq (by omega) (by omega),cast_add1]
  by_cases u:used.getD i false=true
  ·rw [bt u,bd_pos (by omega)]
   by_cases e:keys.getD i 0=key
   ·rw [beq_pos e];exact .inl ⟨⟨u,e⟩,rfl⟩
   ·rw [beq_neg e,nx_];exact .inr ⟨fun z=>e z.2,rfl⟩
  ·rw [bf (bool_not u),nx_];exact .inr ⟨fun z=>u z.1,rfl⟩) (by
  try dsimp only
  rw [bm.L1_eq,bd_neg (by omega)]) with ⟨i,hi,⟨h1,h2⟩,_,e⟩|⟨h1,e⟩
 ·have m:(i:Int)∈l:=(g.row i hi).1.1 h1
  have h3:=g.has_of m
  rw [toNat_cast,h2] at h3
  rw [has_one g.index h h3]
  exact e
 ·refine absurd ⟨(g.mem_used hr.1 hr.2).2 (g.has_mem h),g.has_key h⟩ (h1 p.toNat (by omega))
noncomputable def hd_ (keys:List Int) (bks:List t1.den) (p:Int):t9.den:=(keys.getD p.toNat 0,bks.getD p.toNat b0_,())
theorem rheld_f (g:TGood cap keys bks next used free x prev nxt head tail l) (hw:∀c∈bks,Z c.2.1≤9223372036854775807):ek.F (cap,keys,bks,(next,used,free,()),x,(prev,nxt,head,tail,()),())=some (l.map (hd_ keys bks),()):=by
 obtain ⟨l1,l2,l3,l4,l5,l6,l7⟩:=g.lens
 have hs:=g.order.short
 rw [ek.F_eq,keys_f g hw,ob]
 dsimp only
 have h2:=loop_go (n:=l.length) (L:=fun i=>ek.L1 ((l.map (fun p=>keys.getD p.toNat 0)).length:Int) (i:Int) cap keys bks next used free x prev nxt head tail ((l.take i).map (hd_ keys bks)) (l.map (fun p=>keys.getD p.toNat 0))) (fun i hi=>by
  have hm:l[i]∈l:=List.getElem_mem hi
  have e3:(l.map (fun p=>keys.getD p.toNat 0)).getD i 0=keys.getD (l[i]).toNat 0:=by
   rw [getD_get (by rw [List.length_map];exact hi),List.getElem_map]
  try dsimp only
  rw [ek.L1_eq,bd_pos (by rw [List.length_map];omega),ek.L2_eq,bd_pos (by rw [List.length_map];omega)]
  simp only [toNat_cast]
  rw [e3,get_f g hw (g.has_of hm),ob]
  dsimp only
  rw [lim_small (by decide) (by simp;omega),W_eq (by omega) (by omega),cast_add1,←List.take_append_getElem hi,List.map_append]
  rfl)
 refine Eq.trans h2 ?_
 try dsimp only
 rw [ek.L1_eq,bd_neg (by rw [List.length_map];omega),List.take_of_length_le (Nat.le_refl _)]
end
@[irreducible] noncomputable def heldOf (t:t5.den):List t9.den:=match ek.F t with
 |some (us,_)=>us
 |none=>[]
theorem heldOf_good {cap:Int} {keys:List Int} {bks:List t1.den} {next:List Int} {used:List Bool} {free:Int} {x:List t3.den} {prev nxt:List Int} {head tail:Int} {l:List Int} (g:TGood cap keys bks next used free x prev nxt head tail l) (hw:∀c∈bks,Z c.2.1≤9223372036854775807):heldOf (cap,keys,bks,(next,used,free,()),x,(prev,nxt,head,tail,()),())=l.map (hd_ keys bks):=by
 unfold heldOf;rw [rheld_f g hw]
end Go.Proofs.YtkihjakbbcajbaaGreat.TB
namespace Go.Proofs.YtkihjakbbcajbaaGreat.TB
set_option linter.unusedSimpArgs false
set_option linter.unusedVariables false
open Go Go.Proofs Go.Proofs.YtkihjakbbcajbaaGreat.PM Go.Proofs.YtkihjakbbcajbaaGreat.RP
def EpOk (ep:List Int):Prop:=∀i:Nat,i<16→¬Z (ep.getD i 0)>1000000
structure SWf (s:t8.den):Prop where
 few:List.length s.2.2.2.1≤20
 small:∀p∈s.2.2.2.1,PSmall p
 wf:∀p∈s.2.2.2.1,PWf p
 eps:List.length s.2.2.1=16
 seed:List.length s.2.1=32
end Go.Proofs.YtkihjakbbcajbaaGreat.TB
namespace Go.Proofs.YtkihjakbbcajbaaGreat.TB
set_option linter.unusedSimpArgs false
set_option linter.unusedVariables false
open Go Go.Proofs Go.Proofs.YtkihjakbbcajbaaGreat.PM Go.Proofs.YtkihjakbbcajbaaGreat.RP
noncomputable def epB (ep:List Int) (i:Nat):List Int:=be (w64 (ep.getD i 0)) 4
noncomputable def mdB (now:Int) (seed ep:List Int) (ac:List t10.den):List Int:=
 be now 8++(List.take 32 seed++((List.range 16).flatMap (epB ep)++(w8 (ac.length:Int)::ac.flatMap accB)))
end Go.Proofs.YtkihjakbbcajbaaGreat.TB
namespace Go.Proofs.YtkihjakbbcajbaaGreat.TB
set_option linter.unusedSimpArgs false
set_option linter.unusedVariables false
open Go Go.Proofs Go.Proofs.YtkihjakbbcajbaaGreat.PM Go.Proofs.YtkihjakbbcajbaaGreat.RP
def vN:List Int→Nat→Nat
 |[],n=>n
 |x::xs,n=>vN xs (n*256+x.toNat)
def Bytes (b:List Int):Prop:=∀x∈b,0≤Z x∧Z x<256
theorem vN_snoc (x:Int):∀(xs:List Int) (n:Nat),vN (xs++[x]) n=vN xs n*256+x.toNat
 |[],_=>rfl
 |y::ys,n=>vN_snoc x ys _
theorem vN_lt:∀(xs:List Int) (n:Nat),Bytes xs→vN xs n<(n+1)*256 ^ xs.length
 |[],n,_=>by simp [vN]
 |x::xs,n,h=>by
  have hx:0≤x∧x<256:=h x List.mem_cons_self
  have:=vN_lt xs (n*256+x.toNat) fun y hy=>h y (List.mem_cons_of_mem _ hy)
  have h2:n*256+x.toNat+1≤(n+1)*256:=by omega
  have h3:(n*256+x.toNat+1)*256 ^ xs.length≤((n+1)*256)*256 ^ xs.length:=Nat.mul_le_mul_right _ h2
  rw [List.length_cons,Nat.pow_succ]
  show vN xs (n*256+x.toNat)<(n+1)*(256 ^ xs.length*256)
  have h4:(n+1)*256*256 ^ xs.length=(n+1)*(256 ^ xs.length*256):=by
   rw [Nat.mul_assoc,Nat.mul_comm 256]
  omega
theorem vN_small {xs:List Int} (h:Bytes xs) (hl:xs.length≤8):vN xs 0<18446744073709551616:=by
 have h1:=vN_lt xs 0 h
 have h2:256 ^ xs.length≤256 ^ 8:=Nat.pow_le_pow_right (by decide) hl
 have h3:(256:Nat) ^ 8=18446744073709551616:=by decide
 omega
theorem or_bytes {m c:Nat} (hc:c<256) (hm:m*256+c<18446744073709551616):PM.bits .or .u64 ((m*256:Nat):Int) (c:Int)=((m*256+c:Nat):Int):=by
 have e:m*256|||c=m*256+c:=by
  have:=Nat.two_pow_add_eq_or_of_lt (i:=8) (b:=c) (by omega) m
  rw [Nat.mul_comm m 256]
  exact this.symm
 show IntKind.wrap .u64 (((BitVec.ofInt 64 ((m*256:Nat):Int))|||(BitVec.ofInt 64 ((c:Nat):Int))).toNat:Int)=_
 rw [BitVec.toNat_or,BitVec.toNat_ofInt,BitVec.toNat_ofInt]
 have e1:((((m*256:Nat):Int)) % ((2 ^ 64:Nat):Int)).toNat=m*256:=by
  have:(2:Nat) ^ 64=18446744073709551616:=by decide
  rw [this];omega
 have e2:(((c:Nat):Int) % ((2 ^ 64:Nat):Int)).toNat=c:=by
  have:(2:Nat) ^ 64=18446744073709551616:=by decide
  rw [this];omega
 rw [e1,e2,e,IntKind.wrap_u64]
 omega
theorem Bytes.take {b:List Int} (h:Bytes b) (k:Nat):Bytes (b.take k):=fun x hx=>h x (List.mem_of_mem_take hx)
theorem Bytes.drop {b:List Int} (h:Bytes b) (k:Nat):Bytes (b.drop k):=fun x hx=>h x (List.mem_of_mem_drop hx)
theorem vN_step {b:List Int} (hb:Bytes b) {i:Nat} (hi:i<b.length) (h8:i<8):vN (b.take (i+1)) 0=vN (b.take i) 0*256+(b.getD i 0).toNat∧0≤b.getD i 0∧b.getD i 0<256∧vN (b.take i) 0*256+(b.getD i 0).toNat<18446744073709551616:=by
 have e:vN (b.take (i+1)) 0=vN (b.take i) 0*256+(b.getD i 0).toNat:=by rw [take_snoc hi,vN_snoc]
 have hx:0≤b.getD i 0∧b.getD i 0<256:=by rw [getD_get hi];exact hb _ (List.getElem_mem hi)
 have:=vN_small (hb.take (i+1)) (by rw [List.length_take];omega)
 exact ⟨e,hx.1,hx.2,by omega⟩
theorem get_ok {b:List Int} (hb:Bytes b) (s:Bool) {k:Nat} (k8:k≤8) (h:k≤b.length) (hl:b.length≤100000):ak.F (b,s,()) (k:Int)=some ((b.drop k,s,()),((vN (b.take k) 0:Nat):Int),()):=by
 rw [ak.F_eq]
 dsimp only
 rw [bd_neg (by omega),ak.L1_eq,bd_pos (by omega)]
 have et:List.take (Int.toNat (k:Int) - Int.toNat 0) (List.drop (Int.toNat 0) b)=b.take k:=by rw [toNat_cast];rfl
 rw [et]
 have tl:(b.take k).length=k:=by rw [List.length_take];omega
 have e2:=loop_go (n:=k) (L:=fun i=>ak.L2 (k:Int) ((vN (b.take i) 0:Nat):Int) (b.take k) (k:Int) (i:Int) b s) (fun i hi=>by
  obtain ⟨v1,v2,v3,v4⟩:=vN_step hb (i:=i) (by omega) (by omega)
  have eg:(b.take k).getD i 0=b.getD i 0:=by rw [getD_get (by omega),getD_get (by omega),List.getElem_take]
  obtain ⟨c,hc⟩:∃c:Nat,b.getD i 0=(c:Int):=⟨(b.getD i 0).toNat,by omega⟩
  rw [hc] at v1 v2 v3 v4
  rw [toNat_cast] at v1 v4
  have p8:(2:Int) ^ min (Int.toNat 8) (IntKind.bits .u64)=256:=by decide
  try dsimp only
  rw [ak.L2_eq,bd_pos (by omega),ak.L3_eq,bd_pos (by omega),bd_pos (by decide)]
  simp only [toNat_cast]
  rw [eg,hc,p8,W_eq (by omega) (by omega),cast_add1,v1]
  have w1:IntKind.wrap .u64 (((vN (b.take i) 0:Nat):Int)*256)=((vN (b.take i) 0*256:Nat):Int):=by rw [IntKind.wrap_u64];omega
  have w2:IntKind.wrap .u64 ((c:Nat):Int)=((c:Nat):Int):=by rw [IntKind.wrap_u64];omega
  rw [w1,w2,or_bytes (by omega) v4])
 have e2:ak.L2 (k:Int) 0 (b.take k) (k:Int) 0 b s=ak.L2 (k:Int) ((vN (b.take k) 0:Nat):Int) (b.take k) (k:Int) (k:Int) b s:=e2
 rw [tl,e2,ak.L2_eq,bd_neg (by omega),bd_pos (by omega)]
 simp only [toNat_cast]
 rw [List.take_of_length_le (by rw [List.length_drop];omega)]
theorem get_no {b:List Int} (s:Bool) {k:Nat} (h:¬k≤b.length):ak.F (b,s,()) (k:Int)=some (([],true,()),0,()):=by
 rw [ak.F_eq]
 dsimp only
 rw [bd_pos (by omega)]
theorem take_ok {b:List Int} (hb:Bytes b) (s:Bool) {k:Nat} (k8:k≤8) (h:k≤b.length) (hl:b.length≤100000):a9.F (b,s,()) (k:Int)=some ((b.drop k,s,()),((vN (b.take k) 0:Nat):Int),()):=by
 rw [a9.F_eq]
 dsimp only
 rw [bd_neg (by omega),a9.L1_eq]
 have e2:=loop_go (n:=k) (L:=fun i=>a9.L2 (k:Int) ((vN (b.take i) 0:Nat):Int) (i:Int) b s) (fun i hi=>by
  obtain ⟨v1,v2,v3,v4⟩:=vN_step hb (i:=i) (by omega) (by omega)
  obtain ⟨c,hc⟩:∃c:Nat,b.getD i 0=(c:Int):=⟨(b.getD i 0).toNat,by omega⟩
  rw [hc] at v1 v2 v3 v4
  rw [toNat_cast] at v1 v4
  have p8:(2:Int) ^ min (Int.toNat 8) (IntKind.bits .u64)=256:=by decide
  try dsimp only
  rw [a9.L2_eq,bd_pos (by omega),a9.L3_eq,bd_pos (by decide),bd_pos (by omega)]
  simp only [toNat_cast]
  rw [hc,p8,W_eq (by omega) (by omega),cast_add1,v1]
  have w1:IntKind.wrap .u64 (IntKind.wrap .u64 (((vN (b.take i) 0:Nat):Int)*256)+IntKind.wrap .u64 ((c:Nat):Int))=((vN (b.take i) 0*256+c:Nat):Int):=by rw [IntKind.wrap_u64,IntKind.wrap_u64,IntKind.wrap_u64];omega
  rw [w1])
 have e2:a9.L2 (k:Int) 0 0 b s=a9.L2 (k:Int) ((vN (b.take k) 0:Nat):Int) (k:Int) b s:=e2
 rw [e2,a9.L2_eq,bd_neg (by omega),bd_pos (by omega)]
 simp only [toNat_cast]
 rw [List.take_of_length_le (by rw [List.length_drop];omega)]
theorem take_no {b:List Int} (s:Bool) {k:Nat} (h:¬k≤b.length):a9.F (b,s,()) (k:Int)=some ((b,true,()),0,()):=by
 rw [a9.F_eq]
 dsimp only
 rw [bd_pos (by omega)]
end Go.Proofs.YtkihjakbbcajbaaGreat.TB
namespace Go.Proofs.YtkihjakbbcajbaaGreat.TB
set_option linter.unusedSimpArgs false
set_option linter.unusedVariables false
open Go Go.Proofs Go.Proofs.YtkihjakbbcajbaaGreat.PM Go.Proofs.YtkihjakbbcajbaaGreat.RP
noncomputable def nA (b:List Int) (i k:Nat):Int:=((vN ((b.drop i).take k) 0:Nat):Int)
theorem get_short (b:List Int) (hb:Bytes b) (hl:b.length≤100000) {k:Nat} (k8:k≤8):∃b' n,Bytes b'∧b'.length≤b.length∧ak.F (b,true,()) (k:Int)=some ((b',true,()),n,()):=by
 by_cases h:k≤b.length
 ·exact ⟨b.drop k,_,hb.drop k,by rw [List.length_drop];omega,get_ok hb true k8 h hl⟩
 ·exact ⟨[],0,(fun x hx=>by cases hx),Nat.zero_le _,get_no true h⟩
theorem take_short (b:List Int) (hb:Bytes b) (hl:b.length≤100000) {k:Nat} (k8:k≤8):∃b' n,Bytes b'∧b'.length≤b.length∧a9.F (b,true,()) (k:Int)=some ((b',true,()),n,()):=by
 by_cases h:k≤b.length
 ·exact ⟨b.drop k,_,hb.drop k,by rw [List.length_drop];omega,take_ok hb true k8 h hl⟩
 ·exact ⟨b,0,hb,Nat.le_refl _,take_no true h⟩
end Go.Proofs.YtkihjakbbcajbaaGreat.TB
namespace Go.Proofs.YtkihjakbbcajbaaGreat.RD
set_option linter.unusedSimpArgs false
set_option linter.unusedVariables false
open Go Go.Proofs Go.Proofs.YtkihjakbbcajbaaGreat.PM Go.Proofs.YtkihjakbbcajbaaGreat.RP Go.Proofs.YtkihjakbbcajbaaGreat.TB
def SOk (b:List Int):Prop:=Bytes b∧b.length≤100000
@[reducible] def PR (α:Type):Type:=List Int→Option (α × List Int)
def RR (r:t12.den):Option (List Int)→Prop
 |some b=>SOk b∧r=(b,false,())
 |none=>∃b,SOk b∧r=(b,true,())
def Rds {α:Type} (o:Option (t12.den × α × Unit)):Option (α × List Int)→Prop
 |some (v,b)=>SOk b∧o=some ((b,false,()),v,())
 |none=>∃b v,SOk b∧o=some ((b,true,()),v,())
theorem stp {α β X:Type} (C:Option X→Option β→Prop) {o:Option (t12.den × α × Unit)} {s:Option (List Int)} {P:PR α} {Q:α × List Int→Option β} {G:t12.den × α × Unit→Option X} (h:Rds o (s.bind P))
  (k:∀r v s',RR r s'→(∀b,s'=some b→s.bind P=some (v,b))→C (G (r,v,())) (s'.bind fun b=>Q (v,b))):C (o.bind G) (s.bind fun b=>(P b).bind Q):=by
 have e:(s.bind fun b=>(P b).bind Q)=(s.bind P).bind Q:=by cases s<;>rfl
 rw [e]
 cases hp:s.bind P with
 |none=>
  rw [hp] at h
  obtain ⟨b,v,hb,rfl⟩:=h
  exact k (b,true,()) v none ⟨b,hb,rfl⟩ (fun b e=>by cases e)
 |some x=>
  obtain ⟨v,b⟩:=x
  rw [hp] at h
  obtain ⟨hb,rfl⟩:=h
  exact k (b,false,()) v (some b) ⟨hb,rfl⟩ (fun b' e=>by rw [hp,Option.some.inj e])
theorem ret {α:Type} {r:t12.den} {s:Option (List Int)} (h:RR r s) (v:α):Rds (some (r,v,())) (s.bind fun b=>some (v,b)):=by
 cases s with
 |none=>
  obtain ⟨b,hb,rfl⟩:=h
  exact ⟨b,v,hb,rfl⟩
 |some b=>
  obtain ⟨hb,rfl⟩:=h
  exact ⟨hb,rfl⟩
noncomputable def pN (k:Nat):PR Int:=fun b=>if k≤b.length then some (nA b 0 k,b.drop k) else none
theorem SOk.drop {b:List Int} (h:SOk b) (k:Nat):SOk (b.drop k):=⟨h.1.drop k,by have:=h.2;rw [List.length_drop];omega⟩
theorem SOk.nil:SOk []:=⟨fun x hx=>(by cases hx),Nat.zero_le _⟩
theorem get_run {r:t12.den} {s:Option (List Int)} (h:RR r s) {k:Nat} (k8:k≤8):Rds (ak.F r (k:Int)) (s.bind (pN k)):=by
 cases s with
 |none=>
  obtain ⟨b,hb,rfl⟩:=h
  obtain ⟨b',n,h1,h2,h3⟩:=get_short b hb.1 hb.2 k8
  exact ⟨b',n,⟨h1,Nat.le_trans h2 hb.2⟩,h3⟩
 |some b=>
  obtain ⟨hb,rfl⟩:=h
  show Rds _ (pN k b)
  unfold pN
  split
  ·rename_i hk;exact ⟨hb.drop k,get_ok hb.1 false k8 hk hb.2⟩
  ·rename_i hk;exact ⟨[],0,.nil,get_no false hk⟩
theorem take_run {r:t12.den} {s:Option (List Int)} (h:RR r s) {k:Nat} (k8:k≤8):Rds (a9.F r (k:Int)) (s.bind (pN k)):=by
 cases s with
 |none=>
  obtain ⟨b,hb,rfl⟩:=h
  obtain ⟨b',n,h1,h2,h3⟩:=take_short b hb.1 hb.2 k8
  exact ⟨b',n,⟨h1,Nat.le_trans h2 hb.2⟩,h3⟩
 |some b=>
  obtain ⟨hb,rfl⟩:=h
  show Rds _ (pN k b)
  unfold pN
  split
  ·rename_i hk;exact ⟨hb.drop k,take_ok hb.1 false k8 hk hb.2⟩
  ·rename_i hk;exact ⟨b,0,hb,take_no false hk⟩
section
variable {r:t12.den} {s:Option (List Int)} (h:RR r s)
include h
theorem g1:Rds (ak.F r 1) (s.bind (pN 1)):=get_run h (k:=1) (by decide)
theorem g4:Rds (ak.F r 4) (s.bind (pN 4)):=get_run h (k:=4) (by decide)
theorem g8:Rds (ak.F r 8) (s.bind (pN 8)):=get_run h (k:=8) (by decide)
theorem k1:Rds (a9.F r 1) (s.bind (pN 1)):=take_run h (k:=1) (by decide)
theorem k4:Rds (a9.F r 4) (s.bind (pN 4)):=take_run h (k:=4) (by decide)
theorem k8:Rds (a9.F r 8) (s.bind (pN 8)):=take_run h (k:=8) (by decide)
theorem num1 {s':Option (List Int)} {v:Int} (hp:∀b,s'=some b→s.bind (pN 1)=some (v,b)):s'=none∨∃n:Nat,n<256∧v=(n:Int):=by
 cases s' with
 |none=>exact .inl rfl
 |some b=>
  right
  have hp:=hp b rfl
  cases s with
  |none=>cases hp
  |some b0=>
   obtain ⟨hb,rfl⟩:=h
   have hp:pN 1 b0=some (v,b):=hp
   unfold pN at hp
   split at hp
   ·have:=congrArg (fun x=>x.1) (Option.some.inj hp)
    refine ⟨_,?_,this.symm⟩
    have h2:=vN_lt (b0.drop 0|>.take 1) 0 ((hb.1.drop 0).take 1)
    have h3:256 ^ (List.take 1 (List.drop 0 b0)).length≤256 ^ 1:=Nat.pow_le_pow_right (by decide) (by rw [List.length_take];omega)
    omega
   ·cases hp
end
noncomputable def pB (l:t0.den):PR t1.den:=fun b=>(pN 8 b).bind fun x=>(pN 8 x.2).bind fun y=>(pN 8 y.2).bind fun z=>some ((l,IntKind.wrap .i64 x.1,IntKind.wrap .i64 y.1,z.1,()),z.2)
theorem gbkt {r:t12.den} {s:Option (List Int)} (h:RR r s) (l:t0.den):Rds (eh.F r l) (s.bind (pB l)):=by
 rw [eh.F_eq]
 refine stp Rds (g8 h) fun r1 v1 s1 h1 _=>?_
 dsimp only
 refine stp Rds (g8 h1) fun r2 v2 s2 h2 _=>?_
 dsimp only
 refine stp Rds (g8 h2) fun r3 v3 s3 h3 _=>?_
 dsimp only
 exact ret h3 _
theorem tbkt {r:t12.den} {s:Option (List Int)} (h:RR r s) (l:t0.den):Rds (dd.F r l) (s.bind (pB l)):=by
 rw [dd.F_eq]
 refine stp Rds (k8 h) fun r1 v1 s1 h1 _=>?_
 dsimp only
 refine stp Rds (k8 h1) fun r2 v2 s2 h2 _=>?_
 dsimp only
 refine stp Rds (k8 h2) fun r3 v3 s3 h3 _=>?_
 dsimp only
 exact ret h3 _
noncomputable def pRep {α:Type}:Nat→PR α→PR (List α)
 |0,_=>fun b=>some ([],b)
 |k+1,p=>fun b=>(p b).bind fun x=>(pRep k p x.2).bind fun y=>some (x.1::y.1,y.2)
noncomputable def pH (l:t0.den):PR t9.den:=fun b=>(pN 4 b).bind fun x=>(pB l x.2).bind fun y=>some ((IntKind.wrap .u32 x.1,y.1,()),y.2)
noncomputable def pHl (l:t0.den):PR (List t9.den):=fun b=>(pN 1 b).bind fun x=>pRep x.1.toNat (pH l) x.2
theorem rep_H (k:Nat) (l:t0.den) (acc:List t9.den):(fun b=>(pRep (k+1) (pH l) b).bind fun y=>some (acc++y.1,y.2))=fun b=>(pN 4 b).bind fun x=>(pB l x.2).bind fun y=>(pRep k (pH l) y.2).bind fun z=>some ((acc++[(IntKind.wrap .u32 x.1,y.1,())])++z.1,z.2):=by
 funext b
 simp only [pRep,pH,Option.bind_assoc,Option.bind_some,List.append_assoc,List.cons_append,List.nil_append]
theorem rep_nil {α:Type} (k:Nat) (p:PR α) (s:Option (List Int)):(s.bind fun b=>(pRep k p b).bind fun y=>some (([]:List α)++y.1,y.2))=s.bind fun b=>pRep k p b:=by
 cases s with
 |none=>rfl
 |some b=>
  show (pRep k p b).bind _=pRep k p b
  cases pRep k p b<;>rfl
theorem u64_dec {k:Nat} (h:k≤100000):IntKind.wrap .u64 (((k+1:Nat):Int) - 1)=(k:Int):=by rw [IntKind.wrap_u64];omega
theorem gheld_short {r:t12.den} (h:RR r none) (n b1 b12 b13:Int) (acc:List t9.den):Rds (cj.L1 n r.1 r.2.1 b1 b12 b13 acc) none:=by
 obtain ⟨b,hb,rfl⟩:=h
 rw [cj.L1_eq]
 by_cases hn:n>0
 ·rw [bd_pos hn,bnt rfl];exact ⟨b,acc,hb,rfl⟩
 ·rw [bd_neg hn];exact ⟨b,acc,hb,rfl⟩
theorem gheld_l1 (l:t0.den):∀(k:Nat) (acc:List t9.den) (r:t12.den) (s:Option (List Int)),RR r s→acc.length+k≤1000→Rds (cj.L1 (k:Int) r.1 r.2.1 l.1 l.2.1 l.2.2.1 acc) (s.bind fun b=>(pRep k (pH l) b).bind fun y=>some (acc++y.1,y.2))
 |k,acc,r,none,h,hl=>gheld_short h _ _ _ _ _
 |0,acc,r,some b,h,hl=>by
  obtain ⟨hb,rfl⟩:=h
  rw [cj.L1_eq,bd_neg (by omega)]
  show Rds _ (some (acc++[],b))
  rw [List.append_nil]
  exact ⟨hb,rfl⟩
 |k+1,acc,r,some b,h,hl=>by
  have h0:=h
  obtain ⟨hb,rfl⟩:=h
  rw [cj.L1_eq,bd_pos (by omega),bnf rfl,cj.L2_eq,rep_H]
  refine stp Rds (g4 h0) fun r1 v1 s1 h1 _=>?_
  dsimp only
  refine stp Rds (gbkt h1 l) fun r2 v2 s2 h2 _=>?_
  dsimp only
  rw [lim_small (by decide) (by simp only [List.length_cons,List.length_nil];omega),u64_dec (by omega)]
  exact gheld_l1 l k _ r2 s2 h2 (by simp only [List.length_append,List.length_cons,List.length_nil];omega)
theorem gheld {r:t12.den} {s:Option (List Int)} (h:RR r s) (l:t0.den):Rds (cj.F r l) (s.bind (pHl l)):=by
 rw [cj.F_eq]
 refine stp Rds (g1 h) fun r1 v1 s1 h1 e1=>?_
 dsimp only
 rcases num1 h e1 with rfl|⟨n,hn,rfl⟩
 ·exact gheld_short h1 _ _ _ _ _
 ·rw [toNat_cast,←rep_nil]
  exact gheld_l1 l n [] r1 s1 h1 (by simp only [List.length_nil];omega)
theorem theld_short {r:t12.den} (h:RR r none) (n i b1 b12 b13:Int) (acc:List t9.den):Rds (bg.L1 n i r.1 r.2.1 b1 b12 b13 acc) none:=by
 obtain ⟨b,hb,rfl⟩:=h
 rw [bg.L1_eq]
 by_cases hn:i<n
 ·rw [bd_pos hn,bnt rfl];exact ⟨b,acc,hb,rfl⟩
 ·rw [bd_neg hn];exact ⟨b,acc,hb,rfl⟩
theorem theld_l1 (l:t0.den) {n:Nat} (hn:n≤1000):∀(k i:Nat) (acc:List t9.den) (r:t12.den) (s:Option (List Int)),RR r s→i+k=n→acc.length+k≤1000→Rds (bg.L1 (n:Int) (i:Int) r.1 r.2.1 l.1 l.2.1 l.2.2.1 acc) (s.bind fun b=>(pRep k (pH l) b).bind fun y=>some (acc++y.1,y.2))
 |k,i,acc,r,none,h,hi,hl=>theld_short h _ _ _ _ _ _
 |0,i,acc,r,some b,h,hi,hl=>by
  obtain ⟨hb,rfl⟩:=h
  rw [bg.L1_eq,bd_neg (by omega)]
  show Rds _ (some (acc++[],b))
  rw [List.append_nil]
  exact ⟨hb,rfl⟩
 |k+1,i,acc,r,some b,h,hi,hl=>by
  have h0:=h
  obtain ⟨hb,rfl⟩:=h
  rw [bg.L1_eq,bd_pos (by omega),bnf rfl,bg.L2_eq,rep_H]
  refine stp Rds (k4 h0) fun r1 v1 s1 h1 _=>?_
  dsimp only
  refine stp Rds (tbkt h1 l) fun r2 v2 s2 h2 _=>?_
  dsimp only
  rw [lim_small (by decide) (by simp only [List.length_cons,List.length_nil];omega),W_eq (by omega) (by omega),cast_add1]
  exact theld_l1 l hn k (i+1) _ r2 s2 h2 (by omega) (by simp only [List.length_append,List.length_cons,List.length_nil];omega)
theorem theld {r:t12.den} {s:Option (List Int)} (h:RR r s) (l:t0.den):Rds (bg.F r l) (s.bind (pHl l)):=by
 rw [bg.F_eq]
 refine stp Rds (k1 h) fun r1 v1 s1 h1 e1=>?_
 dsimp only
 rcases num1 h e1 with rfl|⟨n,hn,rfl⟩
 ·exact theld_short h1 _ _ _ _ _ _
 ·rw [toNat_cast,W_eq (by omega) (by omega),←rep_nil]
  exact theld_l1 l (n:=n) (by omega) n 0 [] r1 s1 h1 (by omega) (by simp only [List.length_nil];omega)
end Go.Proofs.YtkihjakbbcajbaaGreat.RD
namespace Go.Proofs.YtkihjakbbcajbaaGreat.RD
set_option linter.unusedSimpArgs false
set_option linter.unusedVariables false
open Go Go.Proofs Go.Proofs.YtkihjakbbcajbaaGreat.PM Go.Proofs.YtkihjakbbcajbaaGreat.RP Go.Proofs.YtkihjakbbcajbaaGreat.TB
@[reducible] noncomputable def z0:t0.den:=(0,0,0,())
noncomputable def pL:PR t0.den:=fun b=>(pN 4 b).bind fun x=>(pN 4 x.2).bind fun y=>(pN 4 y.2).bind fun z=>some ((IntKind.wrap .i64 x.1,IntKind.wrap .i64 y.1,IntKind.wrap .i64 z.1,()),z.2)
noncomputable def pC:PR Int:=fun b=>(pN 1 b).bind fun x=>some (IntKind.wrap .i64 x.1,x.2)
noncomputable def pV:PR Int:=fun b=>(pN 4 b).bind fun x=>some (IntKind.wrap .u32 x.1,x.2)
noncomputable def pVl:PR (List Int):=fun b=>(pN 1 b).bind fun x=>pRep x.1.toNat pV x.2
noncomputable def pTl:PR t6.den:=fun b=>(pN 8 b).bind fun x=>(pN 8 x.2).bind fun y=>(pN 8 y.2).bind fun z=>some ((x.1,y.1,z.1,()),z.2)
noncomputable def pA2 (tn:Int) (lims:List t0.den) (caps:List Int):PR t10.den:=fun b=>
 (pB (lims.getD 0 z0) b).bind fun x3=>(pHl (lims.getD 1 z0) x3.2).bind fun x4=>(pHl (lims.getD 2 z0) x4.2).bind fun x5=>(pVl x5.2).bind fun x6=>(pTl x6.2).bind fun x7=>some ((tn,lims,caps,x3.1,x4.1,x5.1,x6.1,x7.1,()),x7.2)
noncomputable def pA:PR t10.den:=fun b=>
 (pN 1 b).bind fun x0=>(pRep 3 pL x0.2).bind fun x1=>(pRep 2 pC x1.2).bind fun x2=>pA2 (IntKind.wrap .u32 x0.1) x1.1 x2.1 x2.2
theorem set_mid {α:Type} (acc:List α) (z:α) (rest:List α) (v:α):(acc++z::rest).set acc.length v=acc++v::rest:=by
 rw [List.set_append_right _ _ (Nat.le_refl _),Nat.sub_self];rfl
theorem getD_mid {α:Type} (acc:List α) (z:α) (rest:List α) (d:α):(acc++z::rest).getD acc.length d=z:=by
 rw [List.getD_eq_getElem?_getD,List.getElem?_append_right (Nat.le_refl _),Nat.sub_self];rfl
theorem bind_nil {α β:Type} (s:Option (List Int)) (K:List α→List Int→Option β) (acc:List α) (p:PR α):(s.bind fun b=>(pRep 0 p b).bind fun y=>K (acc++y.1) y.2)=s.bind (K acc):=by
 cases s with
 |none=>rfl
 |some b=>
  show K (acc++[]) b=K acc b
  rw [List.append_nil]
theorem rep_L {β:Type} (k:Nat) (acc:List t0.den) (K:List t0.den→List Int→Option β):(fun b=>(pRep (k+1) pL b).bind fun y=>K (acc++y.1) y.2)=fun b=>(pN 4 b).bind fun x=>(pN 4 x.2).bind fun y=>(pN 4 y.2).bind fun z=>(pRep k pL z.2).bind fun y'=>K ((acc++[(IntKind.wrap .i64 x.1,IntKind.wrap .i64 y.1,IntKind.wrap .i64 z.1,())])++y'.1) y'.2:=by
 funext b
 simp only [pRep,pL,Option.bind_assoc,Option.bind_some,List.append_assoc,List.cons_append,List.nil_append]
theorem rep_C {β:Type} (k:Nat) (acc:List Int) (K:List Int→List Int→Option β):(fun b=>(pRep (k+1) pC b).bind fun y=>K (acc++y.1) y.2)=fun b=>(pN 1 b).bind fun x=>(pRep k pC x.2).bind fun y'=>K ((acc++[IntKind.wrap .i64 x.1])++y'.1) y'.2:=by
 funext b
 simp only [pRep,pC,Option.bind_assoc,Option.bind_some,List.append_assoc,List.cons_append,List.nil_append]
theorem rep_V {β:Type} (k:Nat) (acc:List Int) (K:List Int→List Int→Option β):(fun b=>(pRep (k+1) pV b).bind fun y=>K (acc++y.1) y.2)=fun b=>(pN 4 b).bind fun x=>(pRep k pV x.2).bind fun y'=>K ((acc++[IntKind.wrap .u32 x.1])++y'.1) y'.2:=by
 funext b
 simp only [pRep,pV,Option.bind_assoc,Option.bind_some,List.append_assoc,List.cons_append,List.nil_append]
theorem len_snoc {α:Type} (acc:List α) (v:α):((acc.length:Nat):Int)+1=(((acc++[v]).length:Nat):Int):=by simp
section
variable (tn:Int) (lims b1:List t0.den) (caps b12:List Int) (o1 o2 o3 o4 o5 o6:Int) (l3:List t9.den) (l5:List Int) (us es:List t9.den)
noncomputable def mkA (rv:List Int) (y:t6.den):t10.den:=(tn,lims,caps,((o1,o2,o3,()),o4,o5,o6,()),us,es,rv,y,())
theorem gend {r:t12.den} {s:Option (List Int)} (h:RR r s) (rv:List Int):Rds ((ak.F (r.1,r.2.1,()) 8).bind fun r0=>(ak.F r0.1 8).bind fun r1=>(ak.F r1.1 8).bind fun r2=>some (r2.1,(tn,lims,caps,((o1,o2,o3,()),o4,o5,o6,()),us,es,rv,(r0.2.1,r1.2.1,r2.2.1,()),()),()))
  (s.bind fun b=>(pTl b).bind fun x=>some (mkA tn lims caps o1 o2 o3 o4 o5 o6 us es rv x.1,x.2)):=by
 have e:(fun b=>(pTl b).bind fun x=>some (mkA tn lims caps o1 o2 o3 o4 o5 o6 us es rv x.1,x.2))=fun b=>(pN 8 b).bind fun x=>(pN 8 x.2).bind fun y=>(pN 8 y.2).bind fun z=>some (mkA tn lims caps o1 o2 o3 o4 o5 o6 us es rv (x.1,y.1,z.1,()),z.2):=by
  funext b
  simp only [pTl,Option.bind_assoc,Option.bind_some]
 rw [e]
 refine stp Rds (g8 h) fun r1 v1 s1 h1 _=>?_
 dsimp only
 refine stp Rds (g8 h1) fun r2 v2 s2 h2 _=>?_
 dsimp only
 refine stp Rds (g8 h2) fun r3 v3 s3 h3 _=>?_
 exact ret h3 _
theorem gacc_short {r:t12.den} (h:RR r none) (n:Int) (rv:List Int):Rds (ag.L5 n r.1 r.2.1 b1 b12 tn lims caps o1 o2 o3 o4 o5 o6 l3 l5 us es rv) none:=by
 have e:=gend tn lims caps o1 o2 o3 o4 o5 o6 us es h rv
 obtain ⟨b,hb,rfl⟩:=h
 rw [ag.L5_eq]
 by_cases hn:n>0
 ·rw [bd_pos hn,bnt rfl];exact e
 ·rw [bd_neg hn];exact e
theorem gacc_l5:∀(k:Nat) (rv:List Int) (r:t12.den) (s:Option (List Int)),RR r s→rv.length+k≤1000→Rds (ag.L5 (k:Int) r.1 r.2.1 b1 b12 tn lims caps o1 o2 o3 o4 o5 o6 l3 l5 us es rv) (s.bind fun b=>(pRep k pV b).bind fun y=>(pTl y.2).bind fun x=>some (mkA tn lims caps o1 o2 o3 o4 o5 o6 us es (rv++y.1) x.1,x.2))
 |k,rv,r,none,h,hl=>gacc_short tn lims b1 caps b12 o1 o2 o3 o4 o5 o6 l3 l5 us es h _ _
 |0,rv,r,some b,h,hl=>by
  have e:=gend tn lims caps o1 o2 o3 o4 o5 o6 us es h rv
  rw [ag.L5_eq,bd_neg (by omega),bind_nil (K:=fun l c=>(pTl c).bind fun x=>some (mkA tn lims caps o1 o2 o3 o4 o5 o6 us es l x.1,x.2))]
  exact e
 |k+1,rv,r,some b,h,hl=>by
  have h0:=h
  obtain ⟨hb,rfl⟩:=h
  rw [ag.L5_eq,bd_pos (by omega),bnf rfl,ag.L6_eq,rep_V (K:=fun l c=>(pTl c).bind fun x=>some (mkA tn lims caps o1 o2 o3 o4 o5 o6 us es l x.1,x.2))]
  refine stp Rds (g4 h0) fun r1 v1 s1 h1 _=>?_
  dsimp only
  rw [lim_small (by decide) (by simp only [List.length_cons,List.length_nil];omega),u64_dec (by omega)]
  exact gacc_l5 k _ r1 s1 h1 (by simp only [List.length_append,List.length_cons,List.length_nil];omega)
theorem gacc_l5' {r:t12.den} {s:Option (List Int)} (h:RR r s):Rds ((ak.F r 1).bind fun r3=>ag.L5 r3.2.1 r3.1.1 r3.1.2.1 b1 b12 tn lims caps o1 o2 o3 o4 o5 o6 l3 l5 us es []) (s.bind fun b=>(pVl b).bind fun y=>(pTl y.2).bind fun x=>some (mkA tn lims caps o1 o2 o3 o4 o5 o6 us es y.1 x.1,x.2)):=by
 have e:(fun b=>(pVl b).bind fun y=>(pTl y.2).bind fun x=>some (mkA tn lims caps o1 o2 o3 o4 o5 o6 us es y.1 x.1,x.2))=fun b=>(pN 1 b).bind fun z=>(pRep z.1.toNat pV z.2).bind fun y=>(pTl y.2).bind fun x=>some (mkA tn lims caps o1 o2 o3 o4 o5 o6 us es y.1 x.1,x.2):=by
  funext b
  simp only [pVl,Option.bind_assoc,Option.bind_some]
 rw [e]
 refine stp Rds (g1 h) fun r1 v1 s1 h1 e1=>?_
 dsimp only
 rcases num1 h e1 with rfl|⟨n,hn,rfl⟩
 ·exact gacc_short tn lims b1 caps b12 o1 o2 o3 o4 o5 o6 l3 l5 us es h1 _ _
 ·rw [toNat_cast]
  exact gacc_l5 tn lims b1 caps b12 o1 o2 o3 o4 o5 o6 l3 l5 us es n [] r1 s1 h1 (by simp only [List.length_nil];omega)
end
section
variable (tn:Int) (b1:List t0.den) (b12:List Int)
theorem gacc_l3e (lims:List t0.den) (caps:List Int) {r:t12.den} {s:Option (List Int)} (h:RR r s):Rds (ag.L3 2 r.1 r.2.1 b1 b12 tn lims caps [] []) (s.bind (pA2 tn lims caps)):=by
 rw [ag.L3_eq,bd_neg (by decide),bd_pos (by decide)]
 refine stp Rds (gbkt h _) fun r1 v1 s1 h1 _=>?_
 dsimp only
 rw [bd_pos (by decide)]
 refine stp Rds (gheld h1 _) fun r2 v2 s2 h2 _=>?_
 dsimp only
 rw [bd_pos (by decide)]
 refine stp Rds (gheld h2 _) fun r3 v3 s3 h3 _=>?_
 dsimp only
 exact gacc_l5' tn lims b1 caps b12 _ _ _ _ _ _ [] [] _ _ h3
theorem gacc_l3 (lims:List t0.den):∀(k:Nat) (caps:List Int) (r:t12.den) (s:Option (List Int)),RR r s→caps.length+k=2→Rds (ag.L3 (caps.length:Int) r.1 r.2.1 b1 b12 tn lims (caps++List.replicate k 0) [] []) (s.bind fun b=>(pRep k pC b).bind fun y=>pA2 tn lims (caps++y.1) y.2)
 |0,caps,r,s,h,hl=>by
  rw [bind_nil (K:=fun l=>pA2 tn lims l)]
  have e:caps.length=2:=by omega
  rw [e,List.replicate_zero,List.append_nil]
  exact gacc_l3e tn b1 b12 lims caps h
 |k+1,caps,r,s,h,hl=>by
  rw [ag.L3_eq,bd_pos (by omega),ag.L4_eq,rep_C (K:=fun l=>pA2 tn lims l)]
  refine stp Rds (g1 h) fun r1 v1 s1 h1 _=>?_
  dsimp only
  have e:caps++IntKind.wrap .i64 v1::List.replicate k 0=(caps++[IntKind.wrap .i64 v1])++List.replicate k 0:=by rw [List.append_assoc];rfl
  rw [bd_pos (by omega),W_eq (by omega) (by omega),toNat_cast,List.replicate_succ,set_mid,len_snoc caps (IntKind.wrap .i64 v1),e]
  exact gacc_l3 lims k _ r1 s1 h1 (by simp only [List.length_append,List.length_cons,List.length_nil];omega)
theorem gacc_l1:∀(k:Nat) (lims:List t0.den) (r:t12.den) (s:Option (List Int)),RR r s→lims.length+k=3→Rds (ag.L1 (lims.length:Int) r.1 r.2.1 b1 (List.replicate 2 0) tn (lims++List.replicate k z0) [] []) (s.bind fun b=>(pRep k pL b).bind fun y=>(pRep 2 pC y.2).bind fun w=>pA2 tn (lims++y.1) w.1 w.2)
 |0,lims,r,s,h,hl=>by
  rw [bind_nil (K:=fun l c=>(pRep 2 pC c).bind fun w=>pA2 tn l w.1 w.2)]
  rw [ag.L1_eq,bd_neg (by omega),List.replicate_zero,List.append_nil]
  exact gacc_l3 tn b1 _ lims 2 [] r s h rfl
 |k+1,lims,r,s,h,hl=>by
  rw [ag.L1_eq,bd_pos (by omega),ag.L2_eq,bd_pos (by omega),rep_L (K:=fun l c=>(pRep 2 pC c).bind fun w=>pA2 tn l w.1 w.2)]
  refine stp Rds (g4 h) fun r1 v1 s1 h1 _=>?_
  dsimp only
  refine stp Rds (g4 h1) fun r2 v2 s2 h2 _=>?_
  dsimp only
  refine stp Rds (g4 h2) fun r3 v3 s3 h3 _=>?_
  dsimp only
  have e:∀v:t0.den,lims++v::List.replicate k z0=(lims++[v])++List.replicate k z0:=fun v=>by rw [List.append_assoc];rfl
  rw [W_eq (by omega) (by omega),toNat_cast,show List.replicate (k+1) z0=z0::List.replicate k z0 from rfl]
  simp only [set_mid,getD_mid]
  rw [len_snoc lims (IntKind.wrap .i64 v1,IntKind.wrap .i64 v2,IntKind.wrap .i64 v3,()),e]
  exact gacc_l1 k _ r3 s3 h3 (by simp only [List.length_append,List.length_cons,List.length_nil];omega)
end
theorem gacc {r:t12.den} {s:Option (List Int)} (h:RR r s):Rds (ag.F r) (s.bind pA):=by
 rw [ag.F_eq]
 refine stp Rds (g1 h) fun r1 v1 s1 h1 _=>?_
 exact gacc_l1 _ _ 3 [] r1 s1 h1 rfl
section
variable (tn:Int) (lims b1:List t0.den) (caps b12:List Int) (o1 o2 o3 o4 o5 o6:Int) (l3:List t9.den) (l5:List Int) (us es:List t9.den)
theorem tend {r:t12.den} {s:Option (List Int)} (h:RR r s) (rv:List Int):Rds ((a9.F (r.1,r.2.1,()) 8).bind fun r0=>(a9.F r0.1 8).bind fun r1=>(a9.F r1.1 8).bind fun r2=>some (r2.1,(tn,lims,caps,((o1,o2,o3,()),o4,o5,o6,()),us,es,rv,(r0.2.1,r1.2.1,r2.2.1,()),()),()))
  (s.bind fun b=>(pTl b).bind fun x=>some (mkA tn lims caps o1 o2 o3 o4 o5 o6 us es rv x.1,x.2)):=by
 have e:(fun b=>(pTl b).bind fun x=>some (mkA tn lims caps o1 o2 o3 o4 o5 o6 us es rv x.1,x.2))=fun b=>(pN 8 b).bind fun x=>(pN 8 x.2).bind fun y=>(pN 8 y.2).bind fun z=>some (mkA tn lims caps o1 o2 o3 o4 o5 o6 us es rv (x.1,y.1,z.1,()),z.2):=by
  funext b
  simp only [pTl,Option.bind_assoc,Option.bind_some]
 rw [e]
 refine stp Rds (k8 h) fun r1 v1 s1 h1 _=>?_
 dsimp only
 refine stp Rds (k8 h1) fun r2 v2 s2 h2 _=>?_
 dsimp only
 refine stp Rds (k8 h2) fun r3 v3 s3 h3 _=>?_
 exact ret h3 _
theorem tacc_short {r:t12.den} (h:RR r none) (n i:Int) (rv:List Int):Rds (af.L3 n i r.1 r.2.1 b1 b12 tn lims caps o1 o2 o3 o4 o5 o6 l3 l5 us es rv) none:=by
 have e:=tend tn lims caps o1 o2 o3 o4 o5 o6 us es h rv
 obtain ⟨b,hb,rfl⟩:=h
 rw [af.L3_eq]
 by_cases hn:i<n
 ·rw [bd_pos hn,bnt rfl];exact e
 ·rw [bd_neg hn];exact e
theorem tacc_l3 {n:Nat} (hn:n≤1000):∀(k i:Nat) (rv:List Int) (r:t12.den) (s:Option (List Int)),RR r s→i+k=n→rv.length+k≤1000→Rds (af.L3 (n:Int) (i:Int) r.1 r.2.1 b1 b12 tn lims caps o1 o2 o3 o4 o5 o6 l3 l5 us es rv) (s.bind fun b=>(pRep k pV b).bind fun y=>(pTl y.2).bind fun x=>some (mkA tn lims caps o1 o2 o3 o4 o5 o6 us es (rv++y.1) x.1,x.2))
 |k,i,rv,r,none,h,hi,hl=>tacc_short tn lims b1 caps b12 o1 o2 o3 o4 o5 o6 l3 l5 us es h _ _ _
 |0,i,rv,r,some b,h,hi,hl=>by
  have e:=tend tn lims caps o1 o2 o3 o4 o5 o6 us es h rv
  rw [af.L3_eq,bd_neg (by omega),bind_nil (K:=fun l c=>(pTl c).bind fun x=>some (mkA tn lims caps o1 o2 o3 o4 o5 o6 us es l x.1,x.2))]
  exact e
 |k+1,i,rv,r,some b,h,hi,hl=>by
  have h0:=h
  obtain ⟨hb,rfl⟩:=h
  rw [af.L3_eq,bd_pos (by omega),bnf rfl,af.L4_eq,rep_V (K:=fun l c=>(pTl c).bind fun x=>some (mkA tn lims caps o1 o2 o3 o4 o5 o6 us es l x.1,x.2))]
  refine stp Rds (k4 h0) fun r1 v1 s1 h1 _=>?_
  dsimp only
  rw [lim_small (by decide) (by simp only [List.length_cons,List.length_nil];omega),W_eq (by omega) (by omega),cast_add1]
  exact tacc_l3 hn k (i+1) _ r1 s1 h1 (by omega) (by simp only [List.length_append,List.length_cons,List.length_nil];omega)
theorem tacc_l3' {r:t12.den} {s:Option (List Int)} (h:RR r s):Rds ((a9.F r 1).bind fun r3=>af.L3 (IntKind.wrap .i64 r3.2.1) 0 r3.1.1 r3.1.2.1 b1 b12 tn lims caps o1 o2 o3 o4 o5 o6 l3 l5 us es []) (s.bind fun b=>(pVl b).bind fun y=>(pTl y.2).bind fun x=>some (mkA tn lims caps o1 o2 o3 o4 o5 o6 us es y.1 x.1,x.2)):=by
 have e:(fun b=>(pVl b).bind fun y=>(pTl y.2).bind fun x=>some (mkA tn lims caps o1 o2 o3 o4 o5 o6 us es y.1 x.1,x.2))=fun b=>(pN 1 b).bind fun z=>(pRep z.1.toNat pV z.2).bind fun y=>(pTl y.2).bind fun x=>some (mkA tn lims caps o1 o2 o3 o4 o5 o6 us es y.1 x.1,x.2):=by
  funext b
  simp only [pVl,Option.bind_assoc,Option.bind_some]
 rw [e]
 refine stp Rds (k1 h) fun r1 v1 s1 h1 e1=>?_
 dsimp only
 rcases num1 h e1 with rfl|⟨n,hn,rfl⟩
 ·exact tacc_short tn lims b1 caps b12 o1 o2 o3 o4 o5 o6 l3 l5 us es h1 _ _ _
 ·rw [toNat_cast,W_eq (by omega) (by omega)]
  exact tacc_l3 tn lims b1 caps b12 o1 o2 o3 o4 o5 o6 l3 l5 us es (n:=n) (by omega) n 0 [] r1 s1 h1 (by omega) (by simp only [List.length_nil];omega)
end
section
variable (tn:Int) (b1:List t0.den)
theorem tacc_l1e (lims:List t0.den) {r:t12.den} {s:Option (List Int)} (h:RR r s):Rds (af.L1 3 r.1 r.2.1 b1 (List.replicate 2 0) tn lims [] []) (s.bind fun b=>(pRep 2 pC b).bind fun w=>pA2 tn lims w.1 w.2):=by
 have e:(fun b=>(pRep 2 pC b).bind fun w=>pA2 tn lims w.1 w.2)=fun b=>(pN 1 b).bind fun x=>(pN 1 x.2).bind fun y=>(pB (lims.getD 0 z0) y.2).bind fun x3=>(pHl (lims.getD 1 z0) x3.2).bind fun x4=>(pHl (lims.getD 2 z0) x4.2).bind fun x5=>(pVl x5.2).bind fun x6=>(pTl x6.2).bind fun x7=>some ((tn,lims,[IntKind.wrap .i64 x.1,IntKind.wrap .i64 y.1],x3.1,x4.1,x5.1,x6.1,x7.1,()),x7.2):=by
  funext b
  simp only [pRep,pC,pA2,Option.bind_assoc,Option.bind_some]
 rw [e,af.L1_eq,bd_neg (by decide)]
 refine stp Rds (k1 h) fun r1 v1 s1 h1 _=>?_
 dsimp only
 rw [bd_pos (by decide)]
 refine stp Rds (k1 h1) fun r2 v2 s2 h2 _=>?_
 dsimp only
 rw [bd_pos (by decide),bd_pos (by decide)]
 refine stp Rds (tbkt h2 _) fun r3 v3 s3 h3 _=>?_
 dsimp only
 rw [bd_pos (by decide)]
 refine stp Rds (theld h3 _) fun r4 v4 s4 h4 _=>?_
 dsimp only
 rw [bd_pos (by decide)]
 refine stp Rds (theld h4 _) fun r5 v5 s5 h5 _=>?_
 dsimp only
 exact tacc_l3' tn lims b1 _ _ _ _ _ _ _ _ [] [] _ _ h5
theorem tacc_l1:∀(k:Nat) (lims:List t0.den) (r:t12.den) (s:Option (List Int)),RR r s→lims.length+k=3→Rds (af.L1 (lims.length:Int) r.1 r.2.1 b1 (List.replicate 2 0) tn (lims++List.replicate k z0) [] []) (s.bind fun b=>(pRep k pL b).bind fun y=>(pRep 2 pC y.2).bind fun w=>pA2 tn (lims++y.1) w.1 w.2)
 |0,lims,r,s,h,hl=>by
  have e:lims.length=3:=by omega
  rw [bind_nil (K:=fun l c=>(pRep 2 pC c).bind fun w=>pA2 tn l w.1 w.2),e,List.replicate_zero,List.append_nil]
  exact tacc_l1e tn b1 lims h
 |k+1,lims,r,s,h,hl=>by
  rw [af.L1_eq,bd_pos (by omega),af.L2_eq,rep_L (K:=fun l c=>(pRep 2 pC c).bind fun w=>pA2 tn l w.1 w.2)]
  refine stp Rds (k4 h) fun r1 v1 s1 h1 _=>?_
  dsimp only
  refine stp Rds (k4 h1) fun r2 v2 s2 h2 _=>?_
  dsimp only
  refine stp Rds (k4 h2) fun r3 v3 s3 h3 _=>?_
  dsimp only
  have e:∀v:t0.den,lims++v::List.replicate k z0=(lims++[v])++List.replicate k z0:=fun v=>by rw [List.append_assoc];rfl
  rw [bd_pos (by omega),W_eq (by omega) (by omega),toNat_cast,show List.replicate (k+1) z0=z0::List.replicate k z0 from rfl,set_mid,len_snoc lims (IntKind.wrap .i64 v1,IntKind.wrap .i64 v2,IntKind.wrap .i64 v3,()),e]
  exact tacc_l1 k _ r3 s3 h3 (by simp only [List.length_append,List.length_cons,List.length_nil];omega)
end
theorem tacc {r:t12.den} {s:Option (List Int)} (h:RR r s):Rds (af.F r) (s.bind pA):=by
 rw [af.F_eq]
 refine stp Rds (k1 h) fun r1 v1 s1 h1 _=>?_
 exact tacc_l1 _ _ 3 [] r1 s1 h1 rfl
end Go.Proofs.YtkihjakbbcajbaaGreat.RD
namespace Go.Proofs.YtkihjakbbcajbaaGreat.RD
set_option linter.unusedSimpArgs false
set_option linter.unusedVariables false
open Go Go.Proofs Go.Proofs.YtkihjakbbcajbaaGreat.PM Go.Proofs.YtkihjakbbcajbaaGreat.RP Go.Proofs.YtkihjakbbcajbaaGreat.TB
noncomputable def pS:PR Int:=fun b=>(pN 1 b).bind fun x=>some (IntKind.wrap .u8 x.1,x.2)
noncomputable def pAl:PR (List t10.den):=fun b=>(pN 1 b).bind fun x=>pRep x.1.toNat pA x.2
noncomputable def pM:PR t11.den:=fun b=>(pN 8 b).bind fun x0=>(pRep 32 pS x0.2).bind fun x1=>(pRep 16 pV x1.2).bind fun x2=>(pAl x2.2).bind fun x3=>some ((x0.1,x1.1,x2.1,x3.1,()),x3.2)
@[reducible] noncomputable def zS:t8.den:=(0,List.replicate 32 (0:Int),List.replicate 16 (0:Int),([]:List t7.den),())
def Out (B:t11.den→Option (t8.den × Int × Unit)) (o:Option (t8.den × Int × Unit)):Option (t11.den × List Int)→Prop
 |some (m,[])=>o=B m
 |some (m,_::_)=>o=some (zS,12,())
 |none=>o=some (zS,12,())
theorem rep_S {β:Type} (k:Nat) (acc:List Int) (K:List Int→List Int→Option β):(fun b=>(pRep (k+1) pS b).bind fun y=>K (acc++y.1) y.2)=fun b=>(pN 1 b).bind fun x=>(pRep k pS x.2).bind fun y'=>K ((acc++[IntKind.wrap .u8 x.1])++y'.1) y'.2:=by
 funext b
 simp only [pRep,pS,Option.bind_assoc,Option.bind_some,List.append_assoc,List.cons_append,List.nil_append]
theorem rep_A {β:Type} (k:Nat) (acc:List t10.den) (K:List t10.den→List Int→Option β):(fun b=>(pRep (k+1) pA b).bind fun y=>K (acc++y.1) y.2)=fun b=>(pA b).bind fun x=>(pRep k pA x.2).bind fun y'=>K ((acc++[x.1])++y'.1) y'.2:=by
 funext b
 simp only [pRep,Option.bind_assoc,Option.bind_some,List.append_assoc,List.cons_append,List.nil_append]
noncomputable def kM (now:Int) (seed ep:List Int) (ac:List t10.den) (b:List Int):Option (t11.den × List Int):=some ((now,seed,ep,ac,()),b)
noncomputable def kA (now:Int) (seed ep:List Int) (b:List Int):Option (t11.den × List Int):=(pAl b).bind fun x=>kM now seed ep x.1 x.2
noncomputable def kE (now:Int) (seed:List Int) (b:List Int):Option (t11.den × List Int):=(pRep 16 pV b).bind fun x=>kA now seed x.1 x.2
theorem pM_k:pM=fun b=>(pN 8 b).bind fun x=>(pRep 32 pS x.2).bind fun y=>kE x.1 y.1 y.2:=rfl
section
variable (z1 z2:List Int)
noncomputable def gB (m:t11.den):Option (t8.den × Int × Unit):=aq.L8 z1 z2 m.1 m.2.1 m.2.2.1 [] m.2.2.2.1
theorem gparse_end (now:Int) (seed ep:List Int) (ac:List t10.den) {r:t12.den} {s:Option (List Int)} (h:RR r s):Out (gB z1 z2) (bif r.2.1 then some (zS,12,()) else bif decide ((List.length r.1:Int)>0) then some (zS,12,()) else aq.L8 z1 z2 now seed ep [] ac) (s.bind (kM now seed ep ac)):=by
 cases s with
 |none=>obtain ⟨b,hb,rfl⟩:=h;rfl
 |some b=>
  obtain ⟨hb,rfl⟩:=h
  cases b with
  |nil=>rfl
  |cons x xs=>rw [bf rfl,bd_pos (by simp only [List.length_cons];omega)];rfl
theorem gparse_short (now:Int) (seed ep:List Int) (n:Int) (ac:List t10.den) {r:t12.den} (h:RR r none):Out (gB z1 z2) (aq.L6 n z1 z2 r.1 r.2.1 now seed ep [] ac) none:=by
 have e:=gparse_end z1 z2 now seed ep ac h
 obtain ⟨b,hb,rfl⟩:=h
 rw [aq.L6_eq]
 by_cases hn:n>0
 ·rw [bd_pos hn,bnt rfl];exact e
 ·rw [bd_neg hn];exact e
theorem gparse_l6 (now:Int) (seed ep:List Int):∀(k:Nat) (ac:List t10.den) (r:t12.den) (s:Option (List Int)),RR r s→ac.length+k≤1000→Out (gB z1 z2) (aq.L6 (k:Int) z1 z2 r.1 r.2.1 now seed ep [] ac) (s.bind fun b=>(pRep k pA b).bind fun y=>kM now seed ep (ac++y.1) y.2)
 |k,ac,r,none,h,hl=>gparse_short z1 z2 now seed ep _ _ h
 |0,ac,r,some b,h,hl=>by
  have e:=gparse_end z1 z2 now seed ep ac h
  rw [aq.L6_eq,bd_neg (by omega),bind_nil (K:=kM now seed ep)]
  exact e
 |k+1,ac,r,some b,h,hl=>by
  have h0:=h
  obtain ⟨hb,rfl⟩:=h
  rw [aq.L6_eq,bd_pos (by omega),bnf rfl,aq.L7_eq,rep_A (K:=kM now seed ep)]
  refine stp (Out (gB z1 z2)) (gacc h0) fun r1 v1 s1 h1 _=>?_
  dsimp only
  rw [lim_small (by decide) (by simp only [List.length_cons,List.length_nil];omega),u64_dec (by omega)]
  exact gparse_l6 now seed ep k _ r1 s1 h1 (by simp only [List.length_append,List.length_cons,List.length_nil];omega)
theorem gparse_l4e (now:Int) (seed ep:List Int) {r:t12.den} {s:Option (List Int)} (h:RR r s):Out (gB z1 z2) (aq.L4 16 z1 z2 r.1 r.2.1 now seed ep [] []) (s.bind (kA now seed ep)):=by
 have e:kA now seed ep=fun b=>(pN 1 b).bind fun x=>(pRep x.1.toNat pA x.2).bind fun y=>kM now seed ep y.1 y.2:=by
  funext b
  simp only [kA,pAl,Option.bind_assoc,Option.bind_some]
 rw [aq.L4_eq,bd_neg (by decide),e]
 refine stp (Out (gB z1 z2)) (g1 h) fun r1 v1 s1 h1 e1=>?_
 dsimp only
 rcases num1 h e1 with rfl|⟨n,hn,rfl⟩
 ·exact gparse_short z1 z2 now seed ep _ _ h1
 ·rw [toNat_cast]
  exact gparse_l6 z1 z2 now seed ep n [] r1 s1 h1 (by simp only [List.length_nil];omega)
theorem gparse_l4 (now:Int) (seed:List Int):∀(k:Nat) (ep:List Int) (r:t12.den) (s:Option (List Int)),RR r s→ep.length+k=16→Out (gB z1 z2) (aq.L4 (ep.length:Int) z1 z2 r.1 r.2.1 now seed (ep++List.replicate k 0) [] []) (s.bind fun b=>(pRep k pV b).bind fun y=>kA now seed (ep++y.1) y.2)
 |0,ep,r,s,h,hl=>by
  have e:ep.length=16:=by omega
  rw [bind_nil (K:=fun l=>kA now seed l),e,List.replicate_zero,List.append_nil]
  exact gparse_l4e z1 z2 now seed ep h
 |k+1,ep,r,s,h,hl=>by
  rw [aq.L4_eq,bd_pos (by omega),aq.L5_eq,rep_V (K:=fun l=>kA now seed l)]
  refine stp (Out (gB z1 z2)) (g4 h) fun r1 v1 s1 h1 _=>?_
  dsimp only
  have e:ep++IntKind.wrap .u32 v1::List.replicate k 0=(ep++[IntKind.wrap .u32 v1])++List.replicate k 0:=by rw [List.append_assoc];rfl
  rw [bd_pos (by omega),W_eq (by omega) (by omega),toNat_cast,List.replicate_succ,set_mid,len_snoc ep (IntKind.wrap .u32 v1),e]
  exact gparse_l4 now seed k _ r1 s1 h1 (by simp only [List.length_append,List.length_cons,List.length_nil];omega)
theorem gparse_l2 (now:Int):∀(k:Nat) (seed:List Int) (r:t12.den) (s:Option (List Int)),RR r s→seed.length+k=32→Out (gB z1 z2) (aq.L2 (seed.length:Int) z1 z2 r.1 r.2.1 now (seed++List.replicate k 0) (List.replicate 16 0) [] []) (s.bind fun b=>(pRep k pS b).bind fun y=>kE now (seed++y.1) y.2)
 |0,seed,r,s,h,hl=>by
  rw [bind_nil (K:=fun l=>kE now l),aq.L2_eq,bd_neg (by omega),List.replicate_zero,List.append_nil]
  exact gparse_l4 z1 z2 now seed 16 [] r s h rfl
 |k+1,seed,r,s,h,hl=>by
  rw [aq.L2_eq,bd_pos (by omega),aq.L3_eq,rep_S (K:=fun l=>kE now l)]
  refine stp (Out (gB z1 z2)) (g1 h) fun r1 v1 s1 h1 _=>?_
  dsimp only
  have e:seed++IntKind.wrap .u8 v1::List.replicate k 0=(seed++[IntKind.wrap .u8 v1])++List.replicate k 0:=by rw [List.append_assoc];rfl
  rw [bd_pos (by omega),W_eq (by omega) (by omega),toNat_cast,show List.replicate (k+1) (0:Int)=0::List.replicate k 0 from rfl,set_mid,len_snoc seed (IntKind.wrap .u8 v1),e]
  exact gparse_l2 now k _ r1 s1 h1 (by simp only [List.length_append,List.length_cons,List.length_nil];omega)
end
theorem gparse {b:List Int} (hb:Bytes b) (hl:b.length≤5000):Out (gB (List.replicate 32 0) (List.replicate 16 0)) (aq.F b) (pM b):=by
 have h:RR (b,false,()) (some b):=⟨⟨hb,by omega⟩,rfl⟩
 rw [aq.F_eq,bd_neg (by omega),aq.L1_eq,pM_k]
 refine stp (s:=some b) (Out (gB (List.replicate 32 0) (List.replicate 16 0))) (g8 h) fun r1 v1 s1 h1 _=>?_
 exact gparse_l2 _ _ v1 32 [] r1 s1 h1 rfl
theorem gparse_many {b:List Int} (hl:5000<b.length):aq.F b=some (zS,4,()):=by
 rw [aq.F_eq,bd_pos (by omega)]
section
variable (z1 z2:List Int)
noncomputable def kB (m:t11.den):Option (t8.den × Int × Unit):=(ah.F m).bind fun r0=>bif (r0.1 !=0) then some (zS,12,()) else aa.L8 z1 z2 m.1 m.2.1 m.2.2.1 [] m.2.2.2.1
theorem kparse_end (now:Int) (seed ep:List Int) (ac:List t10.den) {r:t12.den} {s:Option (List Int)} (h:RR r s):Out (kB z1 z2) (bif r.2.1 then some (zS,12,()) else bif decide ((List.length r.1:Int)>0) then some (zS,12,()) else (ah.F (now,seed,ep,ac,())).bind fun r0=>bif (r0.1 !=0) then some (zS,12,()) else aa.L8 z1 z2 now seed ep [] ac) (s.bind (kM now seed ep ac)):=by
 cases s with
 |none=>obtain ⟨b,hb,rfl⟩:=h;rfl
 |some b=>
  obtain ⟨hb,rfl⟩:=h
  cases b with
  |nil=>rfl
  |cons x xs=>rw [bf rfl,bd_pos (by simp only [List.length_cons];omega)];rfl
theorem kparse_short (now:Int) (seed ep:List Int) (n i:Int) (ac:List t10.den) {r:t12.den} (h:RR r none):Out (kB z1 z2) (aa.L6 n i z1 z2 r.1 r.2.1 now seed ep [] ac) none:=by
 have e:=kparse_end z1 z2 now seed ep ac h
 obtain ⟨b,hb,rfl⟩:=h
 rw [aa.L6_eq]
 by_cases hn:i<n
 ·rw [bd_pos hn,bnt rfl];exact e
 ·rw [bd_neg hn];exact e
theorem kparse_l6 (now:Int) (seed ep:List Int) {n:Nat} (hn:n≤1000):∀(k i:Nat) (ac:List t10.den) (r:t12.den) (s:Option (List Int)),RR r s→i+k=n→ac.length+k≤1000→Out (kB z1 z2) (aa.L6 (n:Int) (i:Int) z1 z2 r.1 r.2.1 now seed ep [] ac) (s.bind fun b=>(pRep k pA b).bind fun y=>kM now seed ep (ac++y.1) y.2)
 |k,i,ac,r,none,h,hi,hl=>kparse_short z1 z2 now seed ep _ _ _ h
 |0,i,ac,r,some b,h,hi,hl=>by
  have e:=kparse_end z1 z2 now seed ep ac h
  rw [aa.L6_eq,bd_neg (by omega),bind_nil (K:=kM now seed ep)]
  exact e
 |k+1,i,ac,r,some b,h,hi,hl=>by
  have h0:=h
  obtain ⟨hb,rfl⟩:=h
  rw [aa.L6_eq,bd_pos (by omega),bnf rfl,aa.L7_eq,rep_A (K:=kM now seed ep)]
  refine stp (Out (kB z1 z2)) (tacc h0) fun r1 v1 s1 h1 _=>?_
  dsimp only
  rw [lim_small (by decide) (by simp only [List.length_cons,List.length_nil];omega),W_eq (by omega) (by omega),cast_add1]
  exact kparse_l6 now seed ep hn k (i+1) _ r1 s1 h1 (by omega) (by simp only [List.length_append,List.length_cons,List.length_nil];omega)
theorem kparse_l4e (now:Int) (seed ep:List Int) {r:t12.den} {s:Option (List Int)} (h:RR r s):Out (kB z1 z2) (aa.L4 16 z1 z2 r.1 r.2.1 now seed ep [] []) (s.bind (kA now seed ep)):=by
 have e:kA now seed ep=fun b=>(pN 1 b).bind fun x=>(pRep x.1.toNat pA x.2).bind fun y=>kM now seed ep y.1 y.2:=by
  funext b
  simp only [kA,pAl,Option.bind_assoc,Option.bind_some]
 rw [aa.L4_eq,bd_neg (by decide),e]
 refine stp (Out (kB z1 z2)) (k1 h) fun r1 v1 s1 h1 e1=>?_
 dsimp only
 rcases num1 h e1 with rfl|⟨n,hn,rfl⟩
 ·exact kparse_short z1 z2 now seed ep _ _ _ h1
 ·rw [toNat_cast,W_eq (by omega) (by omega)]
  exact kparse_l6 z1 z2 now seed ep (n:=n) (by omega) n 0 [] r1 s1 h1 (by omega) (by simp only [List.length_nil];omega)
theorem kparse_l4 (now:Int) (seed:List Int):∀(k:Nat) (ep:List Int) (r:t12.den) (s:Option (List Int)),RR r s→ep.length+k=16→Out (kB z1 z2) (aa.L4 (ep.length:Int) z1 z2 r.1 r.2.1 now seed (ep++List.replicate k 0) [] []) (s.bind fun b=>(pRep k pV b).bind fun y=>kA now seed (ep++y.1) y.2)
 |0,ep,r,s,h,hl=>by
  have e:ep.length=16:=by omega
  rw [bind_nil (K:=fun l=>kA now seed l),e,List.replicate_zero,List.append_nil]
  exact kparse_l4e z1 z2 now seed ep h
 |k+1,ep,r,s,h,hl=>by
  rw [aa.L4_eq,bd_pos (by omega),aa.L5_eq,rep_V (K:=fun l=>kA now seed l)]
  refine stp (Out (kB z1 z2)) (k4 h) fun r1 v1 s1 h1 _=>?_
  dsimp only
  have e:ep++IntKind.wrap .u32 v1::List.replicate k 0=(ep++[IntKind.wrap .u32 v1])++List.replicate k 0:=by rw [List.append_assoc];rfl
  rw [bd_pos (by omega),W_eq (by omega) (by omega),toNat_cast,List.replicate_succ,set_mid,len_snoc ep (IntKind.wrap .u32 v1),e]
  exact kparse_l4 now seed k _ r1 s1 h1 (by simp only [List.length_append,List.length_cons,List.length_nil];omega)
theorem kparse_l2 (now:Int):∀(k:Nat) (seed:List Int) (r:t12.den) (s:Option (List Int)),RR r s→seed.length+k=32→Out (kB z1 z2) (aa.L2 (seed.length:Int) z1 z2 r.1 r.2.1 now (seed++List.replicate k 0) (List.replicate 16 0) [] []) (s.bind fun b=>(pRep k pS b).bind fun y=>kE now (seed++y.1) y.2)
 |0,seed,r,s,h,hl=>by
  rw [bind_nil (K:=fun l=>kE now l),aa.L2_eq,bd_neg (by omega),List.replicate_zero,List.append_nil]
  exact kparse_l4 z1 z2 now seed 16 [] r s h rfl
 |k+1,seed,r,s,h,hl=>by
  rw [aa.L2_eq,bd_pos (by omega),aa.L3_eq,rep_S (K:=fun l=>kE now l)]
  refine stp (Out (kB z1 z2)) (k1 h) fun r1 v1 s1 h1 _=>?_
  dsimp only
  have e:seed++IntKind.wrap .u8 v1::List.replicate k 0=(seed++[IntKind.wrap .u8 v1])++List.replicate k 0:=by rw [List.append_assoc];rfl
  rw [bd_pos (by omega),W_eq (by omega) (by omega),toNat_cast,show List.replicate (k+1) (0:Int)=0::List.replicate k 0 from rfl,set_mid,len_snoc seed (IntKind.wrap .u8 v1),e]
  exact kparse_l2 now k _ r1 s1 h1 (by simp only [List.length_append,List.length_cons,List.length_nil];omega)
end
theorem kparse {b:List Int} (hb:Bytes b) (hl:b.length≤5000):Out (kB (List.replicate 32 0) (List.replicate 16 0)) (aa.F b) (pM b):=by
 have h:RR (b,false,()) (some b):=⟨⟨hb,by omega⟩,rfl⟩
 rw [aa.F_eq,bd_neg (by omega),aa.L1_eq,pM_k]
 refine stp (s:=some b) (Out (kB (List.replicate 32 0) (List.replicate 16 0))) (k8 h) fun r1 v1 s1 h1 _=>?_
 exact kparse_l2 _ _ v1 32 [] r1 s1 h1 rfl
theorem kparse_many {b:List Int} (hl:5000<b.length):aa.F b=some (zS,4,()):=by
 rw [aa.F_eq,bd_pos (by omega)]
end Go.Proofs.YtkihjakbbcajbaaGreat.RD
namespace Go.Proofs.YtkihjakbbcajbaaGreat.TB
set_option linter.unusedSimpArgs false
set_option linter.unusedVariables false
open Go Go.Proofs Go.Proofs.YtkihjakbbcajbaaGreat.PM Go.Proofs.YtkihjakbbcajbaaGreat.RP
theorem new13_f {n:Nat} (h1:1≤n) (h2:n≤16):bw.F (n:Int)=some ((newN n,List.replicate n false,0,()),0,()):=by
 rw [bw.F_eq,bd_neg (by omega),bd_neg (by omega),bw.L1_eq]
 have h:=loop_go (n:=n) (L:=fun i=>bw.L2 (n:Int) (i:Int) [] [] ((List.range i).map (fun i:Nat=>if i+1<n then ((i+1:Nat):Int) else -1)) (List.replicate i false)) (fun i hi=>by
  try dsimp only
  rw [bw.L2_eq,bd_pos (by omega),bw.L3_eq,W_eq (by omega) (by omega),List.range_succ,List.map_append,List.replicate_succ',List.map_cons,List.map_nil]
  by_cases e:i+1<n
  ·rw [bd_pos (by omega),lim_small (by decide) (by simp;omega),bw.L4_eq,lim_small (by decide) (by simp;omega),W_eq (by omega) (by omega),if_pos e,cast_add1]
  ·rw [bd_neg (by omega),lim_small (by decide) (by simp;omega),bw.L4_eq,lim_small (by decide) (by simp;omega),W_eq (by omega) (by omega),if_neg e,cast_add1])
 have h:bw.L2 (n:Int) 0 [] [] [] []=bw.L2 (n:Int) (n:Int) [] [] (newN n) (List.replicate n false):=h
 rw [h,bw.L2_eq,bd_neg (by omega)]
theorem new15_f {n:Nat} (h1:1≤n) (h2:n≤16):dr.F (n:Int)=some ((PV n [],NX n [], -1, -1,()),0,()):=by
 rw [dr.F_eq,bd_neg (by omega),bd_neg (by omega),dr.L1_eq,made_f (by omega) (Ok.nil n)]
 rfl
theorem new16_f {n:Nat} (h1:1≤n) (h2:n≤8):dt.F (n:Int)=some (NT n,0,()):=by
 have e:decide ((0:Int)≤(n:Int)∧(n:Int)≤(n:Int))=true:=decide_eq_true (by omega)
 rw [dt.F_eq,bd_neg (by omega),bd_neg (by omega),dt.L1_eq,e,Bool.true_and,Bool.true_and,toNat_cast,lim_small (by decide) (by omega),lim_small (by decide) (by omega),decide_eq_true (by decide),Bool.true_and,lim_small (by decide) (by decide),new13_f h1 (by omega),ob,new15_f h1 (by omega),ob]
 rfl
end Go.Proofs.YtkihjakbbcajbaaGreat.TB
namespace Go.Proofs.YtkihjakbbcajbaaGreat.PM
def Le {α:Type} (a b:Option α):Prop:=∀y,a=some y→b=some y
theorem Le.refl {α:Type} (a:Option α):Le a a:=fun _ h=>h
theorem Le.none {α:Type} (a:Option α):Le Option.none a:=fun _ h=>by cases h
theorem Le.cond {α:Type} {c:Bool} {x x' y y':Option α} (h1:Le x x') (h2:Le y y'):Le (bif c then x else y) (bif c then x' else y'):=by
 cases c with
 |true=>exact h1
 |false=>exact h2
theorem Le.bind {α β:Type} {a a':Option α} {f g:α→Option β} (h1:Le a a') (h2:∀x,Le (f x) (g x)):Le (a.bind f) (a'.bind g):=fun y h=>by
 cases ha:a with
 |none=>rw [ha] at h;cases h
 |some x=>
  rw [ha] at h
  rw [h1 x ha]
  exact h2 x y h
end Go.Proofs.YtkihjakbbcajbaaGreat.PM
namespace Go.Proofs.YtkihjakbbcajbaaGreat.PM
set_option linter.unusedSimpArgs false
set_option linter.unusedVariables false
open Go Go.Proofs
noncomputable section
def fi.G (mm_:Nat) (x:Int) (y:Int):Option (Int × Int × Unit):=
 bif (decide ((0:Int)≤32)) then
 bif (decide ((0:Int)≤32)) then
  bif (decide ((0:Int)≤32)) then
  bif (decide ((0:Int)≤32)) then
   bif (decide ((0:Int)≤32)) then
   some ((IntKind.wrap .u64 ((IntKind.wrap .u64 ((IntKind.wrap .u64 ((Int.fdiv x (2 ^ min (Int.toNat 32) (IntKind.bits .u64)))*(Int.fdiv y (2 ^ min (Int.toNat 32) (IntKind.bits .u64)))))+(Int.fdiv (IntKind.wrap .u64 ((IntKind.wrap .u64 ((Int.fdiv x (2 ^ min (Int.toNat 32) (IntKind.bits .u64)))*(bits .and .u64 y 4294967295)))+(Int.fdiv (IntKind.wrap .u64 ((bits .and .u64 x 4294967295)*(bits .and .u64 y 4294967295))) (2 ^ min (Int.toNat 32) (IntKind.bits .u64))))) (2 ^ min (Int.toNat 32) (IntKind.bits .u64)))))+(Int.fdiv (IntKind.wrap .u64 ((bits .and .u64 (IntKind.wrap .u64 ((IntKind.wrap .u64 ((Int.fdiv x (2 ^ min (Int.toNat 32) (IntKind.bits .u64)))*(bits .and .u64 y 4294967295)))+(Int.fdiv (IntKind.wrap .u64 ((bits .and .u64 x 4294967295)*(bits .and .u64 y 4294967295))) (2 ^ min (Int.toNat 32) (IntKind.bits .u64))))) 4294967295)+(IntKind.wrap .u64 ((bits .and .u64 x 4294967295)*(Int.fdiv y (2 ^ min (Int.toNat 32) (IntKind.bits .u64))))))) (2 ^ min (Int.toNat 32) (IntKind.bits .u64))))),(IntKind.wrap .u64 (x*y)),())
   else none
  else none
  else none
 else none
 else none
theorem fi.G_le (mm_:Nat) (x:Int) (y:Int):Le (fi.G mm_ x y) (fi.F x y):=by
 rw [fi.F_eq];unfold fi.G;(repeat' (with_reducible first|exact Le.refl _|refine Le.cond ?_ ?_|refine Le.bind ?_ fun _=>?_))
@[reducible] def de.KT:Type:=(Int→Int→(Option (Int × Int × Unit)))
@[reducible] def de.Ok (KK_:de.KT):Prop:=(∀x y,Le (KK_ x y) (de.L1 x y))
def de.step (mm_:Nat) (KK_:de.KT):de.KT:=((fun x y=>
 ((fi.G mm_) x y).bind fun r0=>
 some (r0.1,r0.2.1,())))
def de.K (mm_:Nat):Nat→de.KT
|0=>((fun _ _=>none))
|nn_+1=>de.step mm_ (de.K mm_ nn_)
theorem de.step_le (mm_:Nat) (KK_:de.KT) (hh_:de.Ok KK_):de.Ok (de.step mm_ KK_):=by
 refine fun _ _=>?_
 rw [de.L1_eq]
 all_goals dsimp only [de.step]
 all_goals (repeat' (with_reducible first|exact hh_ _ _|exact fi.G_le mm_ _ _|exact Le.refl _|refine Le.cond ?_ ?_|refine Le.bind ?_ fun _=>?_))
theorem de.K_le (mm_:Nat):∀nn_,de.Ok (de.K mm_ nn_)
|0=>fun _ _=>Le.none _
|nn_+1=>de.step_le mm_ (de.K mm_ nn_) (de.K_le mm_ nn_)
def de.G (mm_:Nat) (x:Int) (y:Int):Option (Int × Int × Unit):=
 (de.K mm_ mm_) x y
theorem de.G_le (mm_:Nat) (x:Int) (y:Int):Le (de.G mm_ x y) (de.F x y):=by
 rw [de.F_eq];unfold de.G;(repeat' (with_reducible first|exact (de.K_le mm_ mm_) _ _|exact fi.G_le mm_ _ _|exact Le.refl _|refine Le.cond ?_ ?_|refine Le.bind ?_ fun _=>?_))
@[reducible] def au.KT:Type:=((List Int)→Int→(Option ((List Int) × Unit))) × ((List Int)→Int→(Option ((List Int) × Unit))) × (Int→(List Int)→(Option ((List Int) × Unit))) × (Int→(List Int)→(Option ((List Int) × Unit)))
@[reducible] def au.Ok (KK_:au.KT):Prop:=(∀x count,Le (KK_.1 x count) (au.L1 x count))∧(∀x lo,Le (KK_.2.1 x lo) (au.L2 x lo))∧(∀n l0,Le (KK_.2.2.1 n l0) (au.L3 n l0))∧(∀n l0,Le (KK_.2.2.2 n l0) (au.L4 n l0))
def au.step (mm_:Nat) (KK_:au.KT):au.KT:=((fun x count=>
 ((de.G mm_) (IntKind.wrap .u64 ((List.length x:Int))) (IntKind.wrap .u64 count)).bind fun r0=>
 bif (decide ((r0.1:Int)>0)) then
 none
 else
 bif (decide ((r0.2.1:Int)>9223372036854775807)) then
  none
 else
  KK_.2.1 x r0.2.1),
(fun x lo=>
 bif (decide ((0:Int)≤(IntKind.wrap .i64 lo)∧((IntKind.wrap .i64 lo):Int)≤(IntKind.wrap .i64 lo)) && (lim (Int.toNat (IntKind.wrap .i64 lo)) (.int .i64))) then
 KK_.2.2.1 (((min (List.length x) (List.length (List.replicate (Int.toNat (IntKind.wrap .i64 lo)) (0:Int))):Nat):Int)) (splice (List.replicate (Int.toNat (IntKind.wrap .i64 lo)) (0:Int)) 0 (List.take (List.length (List.replicate (Int.toNat (IntKind.wrap .i64 lo)) (0:Int))) x))
 else none),
(fun n l0=>
 bif (decide ((n:Int)<((List.length l0:Int)))) then
 KK_.2.2.2 n l0
 else
 some (l0,())),
(fun n l0=>
 bif (decide ((0:Int)≤n∧(n:Int)≤((List.length l0:Int))∧(((List.length l0:Int)):Int)≤((List.length l0:Int)))) then
 bif (decide ((0:Int)≤0∧(0:Int)≤n∧(n:Int)≤((List.length l0:Int)))) then
  KK_.2.2.1 (IntKind.wrap .i64 (n+(((min (List.length (List.take ((Int.toNat n) - (Int.toNat 0)) (List.drop (Int.toNat 0) l0))) ((Int.toNat ((List.length l0:Int))) - (Int.toNat n)):Nat):Int)))) (splice l0 (Int.toNat n) (List.take ((Int.toNat ((List.length l0:Int))) - (Int.toNat n)) (List.take ((Int.toNat n) - (Int.toNat 0)) (List.drop (Int.toNat 0) l0))))
 else none
 else none))
def au.K (mm_:Nat):Nat→au.KT
|0=>((fun _ _=>none),(fun _ _=>none),(fun _ _=>none),(fun _ _=>none))
|nn_+1=>au.step mm_ (au.K mm_ nn_)
theorem au.step_le (mm_:Nat) (KK_:au.KT) (hh_:au.Ok KK_):au.Ok (au.step mm_ KK_):=by
 refine ⟨fun _ _=>?_,fun _ _=>?_,fun _ _=>?_,fun _ _=>?_⟩
 rw [au.L1_eq];rotate_left
 rw [au.L2_eq];rotate_left
 rw [au.L3_eq];rotate_left
 rw [au.L4_eq];rotate_left
 all_goals dsimp only [au.step]
 all_goals (repeat' (with_reducible first|exact hh_.1 _ _|exact hh_.2.1 _ _|exact hh_.2.2.1 _ _|exact hh_.2.2.2 _ _|exact de.G_le mm_ _ _|exact Le.refl _|refine Le.cond ?_ ?_|refine Le.bind ?_ fun _=>?_))
theorem au.K_le (mm_:Nat):∀nn_,au.Ok (au.K mm_ nn_)
|0=>⟨fun _ _=>Le.none _,fun _ _=>Le.none _,fun _ _=>Le.none _,fun _ _=>Le.none _⟩
|nn_+1=>au.step_le mm_ (au.K mm_ nn_) (au.K_le mm_ nn_)
def au.G (mm_:Nat) (x:(List Int)) (count:Int):Option ((List Int) × Unit):=
 bif (decide ((count:Int)<0)) then
 none
 else
 (au.K mm_ mm_).1 x count
theorem au.G_le (mm_:Nat) (x:(List Int)) (count:Int):Le (au.G mm_ x count) (au.F x count):=by
 rw [au.F_eq];unfold au.G;(repeat' (with_reducible first|exact (au.K_le mm_ mm_).1 _ _|exact (au.K_le mm_ mm_).2.1 _ _|exact (au.K_le mm_ mm_).2.2.1 _ _|exact (au.K_le mm_ mm_).2.2.2 _ _|exact de.G_le mm_ _ _|exact Le.refl _|refine Le.cond ?_ ?_|refine Le.bind ?_ fun _=>?_))
end
end Go.Proofs.YtkihjakbbcajbaaGreat.PM
namespace Go.Proofs.YtkihjakbbcajbaaGreat.RD
set_option linter.unusedSimpArgs false
set_option linter.unusedVariables false
open Go Go.Proofs Go.Proofs.YtkihjakbbcajbaaGreat.PM Go.Proofs.YtkihjakbbcajbaaGreat.RP Go.Proofs.YtkihjakbbcajbaaGreat.TB Go.Proofs.YtkihjakbbcajbaaGreat.Kd
theorem rep_all:((List.range 8).all fun n=>decide (au.G 100 [-1] ((n+1:Nat):Int)=some (List.replicate (n+1) (-1),())))=true:=by kernel_rfl
theorem rep_f {n:Nat} (h1:1≤n) (h2:n≤8):au.F [-1] (n:Int)=some (List.replicate n (-1),()):=by
 have h:=List.all_eq_true.1 rep_all (n - 1) (List.mem_range.2 (by omega))
 rw [decide_eq_true_eq,show n - 1+1=n by omega] at h
 exact au.G_le 100 _ _ _ h
theorem lru_New_f {n:Nat} (h1:1≤n) (h2:n≤8):fq.F (n:Int)=some ((PV n [],NX n [], -1, -1,()),0,()):=by
 rw [fq.F_eq,bd_neg (by omega),bd_neg (by omega),fq.L1_eq,rep_f h1 h2,ob,lim_small (by decide) (by dsimp only;rw [List.length_replicate];omega)]
 have e0:List.replicate n (-1)=PV n []:=(row_nil n).symm
 have e1:PV n []=NX n []:=by rw [←e0];exact (row_nil n).symm
 rw [e0]
 conv=>lhs;arg 1;arg 1;arg 2;rw [e1]
theorem arena_New_f {n:Nat} (h1:1≤n) (h2:n≤16):dq.F (n:Int)=some ((newN n,List.replicate n false,0,()),0,()):=by
 have e:decide ((0:Int)≤(n:Int)∧(n:Int)≤(n:Int))=true:=decide_eq_true (by omega)
 rw [dq.F_eq,bd_neg (by omega),bd_neg (by omega),dq.L1_eq,e,Bool.true_and,toNat_cast,lim_small (by decide) (by omega)]
 have h:=loop_go (n:=n) (L:=fun i=>dq.L2 (n:Int) (i:Int) [] [] ((List.range i).map (fun i:Nat=>((i+1:Nat):Int))) (List.replicate n false)) (fun i hi=>by
  try dsimp only
  rw [dq.L2_eq,bd_pos (by omega),dq.L3_eq,W_eq (by omega) (by omega),lim_small (by decide) (by simp;omega),List.range_succ,List.map_append,List.map_cons,List.map_nil,cast_add1])
 have h:dq.L2 (n:Int) 0 [] [] [] (List.replicate n false)=dq.L2 (n:Int) (n:Int) [] [] ((List.range n).map (fun i:Nat=>((i+1:Nat):Int))) (List.replicate n false):=h
 rw [h,dq.L2_eq,bd_neg (by omega),W_eq (by omega) (by omega),bd_pos (by rw [List.length_map,List.length_range];omega)]
 have hn:((n:Int) - 1).toNat=n - 1:=by omega
 have e2:((List.range n).map (fun i:Nat=>((i+1:Nat):Int))).set (n - 1) (-1)=newN n:=by
  refine List.ext_getElem (by rw [List.length_set,List.length_map,List.length_range,newN_len]) fun i a b=>?_
  rw [newN_len] at b
  rw [List.getElem_set,List.getElem_map,List.getElem_range]
  have:=newN_at b
  rw [getD_get (by rw [newN_len];exact b)] at this
  rw [this]
  by_cases q:i+1<n
  ·rw [if_neg (by omega),if_pos q]
  ·rw [if_pos (by omega),if_neg q]
 rw [hn,e2]
theorem probe_New_f:gc.F=some (List.replicate 16 c0_,()):=by
 rw [gc.F_eq,decide_eq_true (by decide),Bool.true_and,lim_small (by decide) (by decide)]
 rfl
theorem table_New_f {n:Nat} (h1:1≤n) (h2:n≤8):dj.F (n:Int)=some (NT n,0,()):=by
 have e:decide ((0:Int)≤(n:Int)∧(n:Int)≤(n:Int))=true:=decide_eq_true (by omega)
 rw [dj.F_eq,bd_neg (by omega),bd_neg (by omega),dj.L1_eq,arena_New_f h1 (by omega),ob,lru_New_f h1 h2,ob,e,Bool.true_and,Bool.true_and,toNat_cast,lim_small (by decide) (by omega),lim_small (by decide) (by omega),probe_New_f,ob]
 rfl
def Lev (bks:List t1.den):Prop:=∀c∈bks,Z c.2.1≤9223372036854775807
theorem Lev.set {bks:List t1.den} (h:Lev bks) {b:t1.den} (hb:Z b.2.1≤9223372036854775807) (i:Nat):Lev (bks.set i b):=fun c hc=>by
 rcases List.mem_or_eq_of_mem_set hc with h1|rfl
 ·exact h c h1
 ·exact hb
theorem new_lev (n:Nat):Lev (List.replicate n b0_):=fun c hc=>by
 rw [List.eq_of_mem_replicate hc];decide
theorem new_none (k p:Int):¬Has (List.replicate 16 c0_) k p:=fun ⟨m,a,b,u,_⟩=>by
 rw [cl_new] at u;cases u
theorem bkt_lev {b:t1.den} (h:BktOk b):Z b.2.1≤9223372036854775807:=by
 obtain ⟨⟨h1,h2,_⟩,h3,h4,_⟩:=h
 omega
section
variable {cap:Int} {keys:List Int} {bks:List t1.den} {next:List Int} {used:List Bool} {free:Int} {x:List t3.den} {prev nxt:List Int} {head tail:Int} {l:List Int}
theorem set_good (g:TGood cap keys bks next used free x prev nxt head tail l) {p:Int} (m:p∈l) {b:t1.den} (hb:BktOk b):TGood cap keys (bks.set p.toNat b) next used free x prev nxt head tail l:=by
 have hr:=g.mem_range m
 obtain ⟨l1,l2,l3,l4,l5,l6,l7⟩:=g.lens
 refine ⟨g.low,g.high,g.nkeys,by rw [List.length_set];exact g.nbks,g.nnext,g.nprev,g.arena,g.index,g.order,fun i hi=>?_,g.count⟩
 obtain ⟨r1,r2,r3⟩:=g.row i hi
 unfold RowOk
 rw [set_nat hr.1 (by omega)]
 by_cases e:p=(i:Int)
 ·rw [if_pos e]
  have hu:=r1.2 (e▸m)
  refine ⟨r1,fun h=>(by rw [hu] at h;cases h),fun h=>⟨(r3 h).1,hb⟩⟩
 ·rw [if_neg e];exact ⟨r1,r2,r3⟩
theorem set_f (g:TGood cap keys bks next used free x prev nxt head tail l) (hw:Lev bks) {key p:Int} (h:Has x key p) {b:t1.den} (hb:BktOk b):
  dk.F (cap,keys,bks,(next,used,free,()),x,(prev,nxt,head,tail,()),()) key b=some ((cap,keys,bks.set p.toNat b,(next,used,free,()),x,(prev,nxt,head,tail,()),()),0,()):=by
 have hr:=g.mem_range (g.has_mem h)
 obtain ⟨l1,l2,l3,l4,l5,l6,l7⟩:=g.lens
 rw [dk.F_eq,tcheck_f g hw,ob,bne_neg rfl,dk.L1_eq]
 rw [show d9.F _=_ from (bucket_says b (bkt_lev hb)).yes hb,ob,bne_neg rfl,dk.L2_eq,place_has g h,ob,bd_neg (by dsimp only;omega),dk.L3_eq,ttwin_f g,ob,bd_pos (by dsimp only;omega)]
theorem step_has (g:TGood cap keys bks next used free x prev nxt head tail l) (hw:Lev bks) {lim:t0.den} (hl:LimOk lim) {h:t9.den} (hb:BktOk h.2.1) {p:Int} (hp:Has x h.1 p):
  ∃(prev' nxt':List Int) (head' tail':Int),tStep lim (cap,keys,bks,(next,used,free,()),x,(prev,nxt,head,tail,()),()) h=some (cap,keys,bks.set p.toNat h.2.1,(next,used,free,()),x,(prev',nxt',head',tail',()),())∧TGood cap keys (bks.set p.toNat h.2.1) next used free x prev' nxt' head' tail' (p::l.erase p):=by
 obtain ⟨prev',nxt',head',tail',e2,g'⟩:=touch_good g (g.has_mem hp)
 refine ⟨prev',nxt',head',tail',?_,set_good g' (by simp) hb⟩
 unfold tStep
 rw [use_has g hw hl 0 hp e2,ob]
 dsimp only
 rw [set_f g' hw hp hb,ob]
theorem step_new (g:TGood cap keys bks next used free x prev nxt head tail l) (hw:Lev bks) {lim:t0.den} (hl:LimOk lim) {h:t9.den} (hb:BktOk h.2.1) (n:∀p,¬Has x h.1 p) {i:Int} {fl:List Int} (ga:AGood next used free (i::fl)):
  ∃(next':List Int) (used':List Bool) (free':Int) (x':List t3.den) (prev' nxt':List Int) (head' tail':Int),
   dp.F (next,used,free,())=some ((next',used',free',()),i,0,())∧cb.F x h.1 i=some (x',0,())∧dg.F (prev,nxt,head,tail,()) i=some ((prev',nxt',head',tail',()),0,())∧
   tStep lim (cap,keys,bks,(next,used,free,()),x,(prev,nxt,head,tail,()),()) h=some (cap,keys.set i.toNat h.1,bks.set i.toNat h.2.1,(next',used',free',()),x',(prev',nxt',head',tail',()),())∧
   (∀b:t1.den,BktOk b→∀bks2,TGood cap keys bks2 next used free x prev nxt head tail l→TGood cap (keys.set i.toNat h.1) (bks2.set i.toNat b) next' used' free' x' prev' nxt' head' tail' (i::l))∧(∀k q,Has x' k q↔Has x k q∨(k=h.1∧q=i))∧0≤i∧i<used.length∧i∉l:=by
 obtain ⟨next',used',free',x',prev',nxt',head',tail',e1,e2,e3,g',hx',i0,i1⟩:=insert_good g (full_ok hl 0) n ga
 have nm:i∉l:=by
  have:=g'.order.nodup
  exact (List.nodup_cons.1 this).1
 refine ⟨next',used',free',x',prev',nxt',head',tail',e1,e2,e3,?_,fun b hb2 bks2 g2=>?_,hx',i0,i1,nm⟩
 ·unfold tStep
  rw [use_new g hw hl 0 n e1 e2 e3 i0 i1,ob]
  dsimp only
  rw [set_f g' (hw.set (full_lev hl 0) _) ((hx' _ _).2 (.inr ⟨rfl,rfl⟩)) hb,ob,List.set_set]
 ·obtain ⟨next2,used2,free2,x2,prev2,nxt2,head2,tail2,d1,d2,d3,g3,hx2,_,_⟩:=insert_good g2 hb2 n ga
  have a1:=Option.some.inj (e1.symm.trans d1)
  have a2:=Option.some.inj (e2.symm.trans d2)
  have a3:=Option.some.inj (e3.symm.trans d3)
  simp only [Prod.mk.injEq,and_true] at a1 a2 a3
  obtain ⟨a1,a1',a1''⟩:=a1
  obtain ⟨c1,c2,c3,c4⟩:=a3
  subst a1 a1' a1'' a2 c1 c2 c3 c4
  exact g3
end
theorem free_ex' {cap:Int} {keys:List Int} {bks:List t1.den} {next:List Int} {used:List Bool} {free:Int} {x:List t3.den} {prev nxt:List Int} {head tail:Int} {l:List Int} (g:TGood cap keys bks next used free x prev nxt head tail l) (h:(l.length:Int)<cap):∃i fl,AGood next used free (i::fl):=by
 obtain ⟨fl,ga⟩:=g.arena
 obtain ⟨l1,l2,l3,l4,l5,l6,l7⟩:=g.lens
 cases fl with
 |cons i fl=>exact ⟨i,fl,ga⟩
 |nil=>
  have h1:=(all_used ga).2 rfl
  have h2:=g.count
  have h3:=g.len
  omega
theorem safe_run {lim:t0.den} (hl:LimOk lim) {cap:Int}:∀(pre:List t9.den) (keys:List Int) (bks:List t1.den) (next:List Int) (used:List Bool) (free:Int) (x:List t3.den) (prev nxt:List Int) (head tail:Int) (l:List Int),TGood cap keys bks next used free x prev nxt head tail l→Lev bks→(∀h∈pre,BktOk h.2.1)→(l.length:Int)+(pre.length:Int)≤cap→(goR (tStep lim) pre (cap,keys,bks,(next,used,free,()),x,(prev,nxt,head,tail,()),())).isSome=true
 |[],_,_,_,_,_,_,_,_,_,_,_,_,_,_,_=>rfl
 |h::pre,keys,bks,next,used,free,x,prev,nxt,head,tail,l,g,hw,hb,hc=>by
  have b:=hb h List.mem_cons_self
  rw [List.length_cons] at hc
  have lv:=bkt_lev b
  show ((tStep lim _ h).bind (goR (tStep lim) pre)).isSome=true
  rcases g.or_none h.1 with ⟨p,hp⟩|hn
  ·obtain ⟨prev',nxt',head',tail',e,g'⟩:=step_has g hw hl b hp
   rw [e,ob]
   refine safe_run hl pre _ _ _ _ _ _ _ _ _ _ _ g' (hw.set lv _) (fun k hk=>hb k (List.mem_cons_of_mem _ hk)) ?_
   have:=List.length_erase_of_mem (g.has_mem hp)
   have h0:0<l.length:=List.length_pos_of_mem (g.has_mem hp)
   rw [List.length_cons,this]
   omega
  ·obtain ⟨i,fl,ga⟩:=free_ex' g (by omega)
   obtain ⟨next',used',free',x',prev',nxt',head',tail',e1,e2,e3,e,g',_,_,_,_⟩:=step_new g hw hl b hn ga
   rw [e,ob]
   refine safe_run hl pre _ _ _ _ _ _ _ _ _ _ _ (g' _ b _ g) (hw.set lv _) (fun k hk=>hb k (List.mem_cons_of_mem _ hk)) ?_
   rw [List.length_cons]
   omega
end Go.Proofs.YtkihjakbbcajbaaGreat.RD
namespace Go.Proofs.YtkihjakbbcajbaaGreat.RD
set_option linter.unusedSimpArgs false
set_option linter.unusedVariables false
open Go Go.Proofs Go.Proofs.YtkihjakbbcajbaaGreat.PM Go.Proofs.YtkihjakbbcajbaaGreat.RP Go.Proofs.YtkihjakbbcajbaaGreat.TB Go.Proofs.YtkihjakbbcajbaaGreat.Kd
theorem free_good {next:List Int} {used:List Bool} {free:Int} {fl:List Int} (ga:AGood next used free fl):bu.F (next,used,free,())=some (fl,true,()):=by
 have h2:=ga.high
 rcases free_f next used free (by omega) with ⟨l,hc,hn,e⟩|⟨hn,e⟩
 ·rw [e,hc.det ga.chain]
 ·exact absurd ⟨fl,ga.chain,ga.nodup⟩ hn
theorem rcount {next:List Int} {used:List Bool} {free:Int} {fl:List Int} (ga:AGood next used free fl):dh.F (next,used,free,())=some ((used.length:Int) - (fl.length:Int),(fl.length:Int),0,()):=by
 have h1:=ga.high
 have h2:=ga.same
 have h3:=ga.short
 rw [dh.F_eq,(rarena_says next used free).yes ⟨_,ga⟩,ob,bne_neg rfl,dh.L1_eq,free_good ga,ob,W_eq (by dsimp only;omega) (by dsimp only;omega)]
theorem rtake {next:List Int} {used:List Bool} {free i:Int} {fl:List Int} (ga:AGood next used free (i::fl)):ci.F (next,used,free,())=dp.F (next,used,free,()):=by
 obtain ⟨e1,ga2,i0,i1,hu⟩:=arena_Take_ok ga
 have h1:=ga.high
 have h2:=ga.same
 have tw:ej.F (next,used,free,())=some ((next,used,free,()),()):=by
  rw [ej.F_eq]
  dsimp only
  rw [lim_small (by decide) (by simp only [List.length_nil];omega),lim_small (by decide) (by simp only [List.length_nil];omega)]
  rfl
 rw [e1,ci.F_eq,(rarena_says next used free).yes ⟨_,ga⟩,ob,bne_neg rfl,ci.L1_eq]
 dsimp only
 rw [free_good ga,ob]
 dsimp only
 rw [beq_neg (by simp only [List.length_cons];omega),ci.L2_eq,tw,ob]
 have z:(i::fl).getD (Int.toNat 0) 0=i:=rfl
 have q1:((i::fl).length:Int)=(fl.length:Int)+1:=by simp
 rw [z,q1,bd_pos (by omega),bd_pos (by dsimp only;omega),bd_pos (by omega),bd_pos (by dsimp only;omega)]
 have hc:Chain next i (i::fl):=by
  obtain rfl:free=i:=by cases ga.chain with
   |cons _ _ _=>rfl
  exact ga.chain
 cases hc with
 |cons _ _ hc=>
 generalize next.getD i.toNat 0=y at hc ⊢
 cases hc with
 |nil=>rw [bd_neg (by simp),ci.L3_eq,bd_pos (by simp),z]
 |cons a b c=>
  rename_i l
  have z1:(i::y::l).getD (Int.toNat 1) 0=y:=rfl
  rw [bd_pos (by simp only [List.length_cons];omega),bd_pos (by simp only [List.length_cons];omega),z1,ci.L3_eq,bd_pos (by simp only [List.length_cons];omega)]
  rfl
theorem rput {x:List t3.den} (h:POk x) (hk:∀k p,Has x k p→0≤k∧k<4294967296) {key place:Int} (k0:0≤key) (k1:key<4294967296) (hn:∀p,¬Has x key p) (p0:0≤place) (p1:place<16) (hc:cnt x<12):b8.F x key place=cb.F x key place:=by
 have hl:=h.len
 have hr:=hm_range key
 obtain ⟨d,hd,ho,hq,hlk,hw⟩:=found h key
 rcases hw with ⟨u,e⟩|⟨u,hno⟩
 ·exact absurd ⟨(hm key+d) % 16,by omega,by omega,u,e,rfl⟩ (hn (cl x ((hm key+d) % 16)).2.1)
 have ev:cb.F x key place=some (x.set ((hm key+d) % 16).toNat (key,place,true,()),0,()):=by
  rw [cb.F_eq,(probe_says x).yes h,ob,bne_neg rfl,cb.L1_eq,bd_neg (by omega),bd_neg (by omega),cb.L2_eq,hlk,ob,bd_pos (by dsimp only;omega),bf u]
  exact put_l4 hl (by omega) (by omega) hc
 have ea:cc.F x key=some (-1,()):=by
  rcases at_f (x:=x) (by omega) key with ⟨j,hj,v,e,_,f⟩|⟨n,f⟩
  ·exact absurd ⟨(j:Int),by omega,by omega,v,e,rfl⟩ (hn (cl x (j:Int)).2.1)
  ·exact f
 have lp:∀n e:Nat,e+n=d→b8.L5 key place ((hm key+e) % 16) x=some (x.set ((hm key+d) % 16).toNat (key,place,true,()),0,()):=by
  intro n
  induction n with
  |zero=>
   intro e he
   have:e=d:=by omega
   subst this
   rw [b8.L5_eq,bd_pos (by omega),bf u,bd_pos (by omega)]
  |succ n ih=>
   intro e he
   obtain ⟨v,_⟩:=ho e (by omega)
   rw [b8.L5_eq,bd_pos (by omega),bt v,b8.L6_eq,bd_pos (by decide),W_eq (by omega) (by omega),Int.tmod_eq_emod_of_nonneg (by omega),next_pos]
   exact ih (e+1) (by omega)
 have lp0:=lp d 0 (by omega)
 rw [show (hm key+((0:Nat):Int)) % 16=hm key by omega] at lp0
 rw [ev,b8.F_eq,(rprobe_says (keys_of h hk) (by omega)).yes h,ob,bne_neg rfl,b8.L1_eq,bd_neg (by omega),bd_neg (by omega),b8.L2_eq,ea,ob,bd_neg (by decide),b8.L3_eq,count_f (by omega),ob,beq_neg (by dsimp only;omega),b8.L4_eq,lim_small (by decide) (by simp only [List.length_nil];omega),rhome_f k0 k1,ob]
 exact lp0
theorem rwithout {l:List Int} (hl:l.length≤1000) {p:Int} (h:p∉l):bd.F l p=some (l,()):=by
 have h2:=loop_go (n:=l.length) (L:=fun i=>bd.L1 l p (i:Int) (l.take i)) (fun i hi=>by
  have hne:l.getD i 0≠p:=by rw [getD_get hi];exact fun e=>h (e▸List.getElem_mem hi)
  try dsimp only
  rw [bd.L1_eq,bd_pos (by omega),bd.L2_eq,bd_pos (by omega)]
  simp only [toNat_cast]
  rw [bne_pos hne,bd_pos (by omega),lim_small (by decide) (by simp;omega),bd.L3_eq,W_eq (by omega) (by omega),cast_add1,tk_getD hi])
 have h2:bd.L1 l p 0 []=bd.L1 l p (l.length:Int) (l.take l.length):=h2
 rw [bd.F_eq,h2,bd.L1_eq,bd_neg (by omega),List.take_of_length_le (Nat.le_refl _)]
theorem rtouch {prev next:List Int} {head tail p:Int} {l:List Int} (g:OGood prev next head tail l) (h0:0≤p) (h1:p<prev.length) (hn:p∉l):dc.F (prev,next,head,tail,()) p=dg.F (prev,next,head,tail,()) p:=by
 have hs:=g.short
 have hlow:=g.low
 have hhigh:=g.high
 obtain ⟨prev',nxt',head',tail',e2,go,hpl⟩:=lru_Touch_ok g h0 h1
 rw [List.erase_of_not_mem hn] at go
 have m:=go.made
 rw [hpl] at m
 have ok:Ok prev.length (p::l):=by have:=go.ok;rwa [hpl] at this
 rw [e2,m.1,m.2.1,m.2.2.1,m.2.2.2,dc.F_eq,cv.F_eq,(rlru_says prev next head tail).yes ⟨l,g⟩,ob,bne_neg rfl,cv.L1_eq,bd_neg (by omega),bd_neg (by dsimp only;omega),cv.L2_eq,ob,bne_neg rfl,dc.L1_eq]
 dsimp only
 rw [all_good g,ob]
 dsimp only
 rw [rwithout (by omega) hn,ob,lim_small (by decide) (by simp;omega)]
 rw [show al.F _ ([p]++l)=_ from made_f (by omega) ok,ob]
 rfl
section
variable {cap:Int} {keys:List Int} {bks:List t1.den} {next:List Int} {used:List Bool} {free:Int} {x:List t3.den} {prev nxt:List Int} {head tail:Int} {l:List Int}
theorem at16_none (g:TGood cap keys bks next used free x prev nxt head tail l) {key:Int} (n:∀p,¬Has x key p):bm.F (cap,keys,bks,(next,used,free,()),x,(prev,nxt,head,tail,()),()) key=some (-1,()):=by
 obtain ⟨l1,l2,l3,l4,l5,l6,l7⟩:=g.lens
 rw [bm.F_eq]
 dsimp only
 rcases find_loop (n:=used.length) (L:=fun i=>bm.L1 key (i:Int) cap keys bks next used free x prev nxt head tail) (p:=fun i:Nat=>used.getD i false=true∧keys.getD i 0=key) (hit:=fun i=>some ((i:Int),())) (miss:=some (-1,())) (fun i hi=>by
  try dsimp only
  rw [bm.L1_eq,bd_pos (by omega),bm.L2_eq,bd_pos (by omega)]
  simp only [toNat_cast]
  have nx_:bm.L3 key (i:Int) cap keys bks next used free x prev nxt head tail=bm.L1 key ((i+1:Nat):Int) cap keys bks next used free x prev nxt head tail:=by
   rw [bm.L3_eq,W_eq (by omega) (by omega),cast_add1]
  by_cases u:used.getD i false=true
  ·rw [bt u,bd_pos (by omega)]
   by_cases e:keys.getD i 0=key
   ·rw [beq_pos e];exact .inl ⟨⟨u,e⟩,rfl⟩
   ·rw [beq_neg e,nx_];exact .inr ⟨fun z=>e z.2,rfl⟩
  ·rw [bf (bool_not u),nx_];exact .inr ⟨fun z=>u z.1,rfl⟩) (by
  try dsimp only
  rw [bm.L1_eq,bd_neg (by omega)]) with ⟨i,hi,⟨h1,h2⟩,_,e⟩|⟨h1,e⟩
 ·have m:(i:Int)∈l:=(g.row i hi).1.1 h1
  have h3:=g.has_of m
  rw [toNat_cast,h2] at h3
  exact absurd h3 (n _)
 ·exact e
theorem tgood_small (g:TGood cap keys bks next used free x prev nxt head tail l):TSmall (cap,keys,bks,(next,used,free,()),x,(prev,nxt,head,tail,()),()):=by
 obtain ⟨l1,l2,l3,l4,l5,l6,l7⟩:=g.lens
 have h1:=g.index.len
 have h2:=g.order.same
 refine ⟨?_,?_,?_,?_,?_,?_,?_⟩<;>dsimp only<;>omega
def HK (x:List t3.den):Prop:=∀k p,Has x k p→0≤k∧k<4294967296
theorem rcheck_f (g:TGood cap keys bks next used free x prev nxt head tail l) (hk:HK x):ae.F (cap,keys,bks,(next,used,free,()),x,(prev,nxt,head,tail,()),())=some (0,()):=
 (rtable_says (cap,keys,bks,(next,used,free,()),x,(prev,nxt,head,tail,()),()) (keys_of g.index hk) (by have:=g.index.len;dsimp only;omega)).yes ⟨l,g⟩
theorem ruse_new (g:TGood cap keys bks next used free x prev nxt head tail l) (hk:HK x) {lm:t0.den} (hl:LimOk lm) {key:Int} (k0:0≤key) (k1:key<4294967296) (n:∀p,¬Has x key p) {i:Int} {fl:List Int} (ga:AGood next used free (i::fl)) {next':List Int} {used':List Bool} {free':Int} {x':List t3.den} {prev' nxt':List Int} {head' tail':Int}
  (e1:dp.F (next,used,free,())=some ((next',used',free',()),i,0,())) (e2:cb.F x key i=some (x',0,())) (e3:dg.F (prev,nxt,head,tail,()) i=some ((prev',nxt',head',tail',()),0,())) (i0:0≤i) (i1:i<used.length) (nm:i∉l):
  ch.F (cap,keys,bks,(next,used,free,()),x,(prev,nxt,head,tail,()),()) key lm 0=some ((cap,keys.set i.toNat key,bks.set i.toNat (fullB lm 0),(next',used',free',()),x',(prev',nxt',head',tail',()),()),0,false,0,()):=by
 obtain ⟨l1,l2,l3,l4,l5,l6,l7⟩:=g.lens
 have hlen:=g.len
 have hll:=g.order.ok.len
 have ef:dm.F lm 0=some (fullB lm 0,0,()):=by
  rw [dm.F_eq,(rlimit_says lm).yes hl,ob,bne_neg rfl,dm.L1_eq]
 have hcnt:((used.length:Int) - ((i::fl).length:Int))≠cap:=by simp only [List.length_cons];omega
 rw [ch.F_eq,rcheck_f g hk,ob,bne_neg rfl,ch.L1_eq]
 rw [show bn.F _=_ from (rlimit_says lm).yes hl,ob,bne_neg rfl,ch.L2_eq,twin16_ok (tgood_small g),ob,at16_none g n,ob,bd_neg (by decide),ch.L3_eq,rcount ga,ob,beq_neg hcnt,ch.L4_eq]
 rw [show ci.F _=_ from (rtake ga).trans e1,ob,bd_pos (by dsimp only;omega),show dm.F _ 0=_ from ef,ob,bd_pos (by dsimp only;omega)]
 rw [show b8.F _ _ _=_ from (rput g.index hk k0 k1 n i0 (by omega) (by omega)).trans e2,ob]
 rw [show dc.F _ _=_ from (rtouch g.order i0 (by omega) nm).trans e3,ob]
theorem rset_f (g:TGood cap keys bks next used free x prev nxt head tail l) (hk:HK x) {key p:Int} (h:Has x key p) {b:t1.den} (hb:BktOk b):
  cu.F (cap,keys,bks,(next,used,free,()),x,(prev,nxt,head,tail,()),()) key b=some ((cap,keys,bks.set p.toNat b,(next,used,free,()),x,(prev,nxt,head,tail,()),()),0,()):=by
 have hr:=g.mem_range (g.has_mem h)
 obtain ⟨l1,l2,l3,l4,l5,l6,l7⟩:=g.lens
 rw [cu.F_eq,rcheck_f g hk,ob,bne_neg rfl,cu.L1_eq]
 rw [show cm.F _=_ from (rbucket_says b).yes hb,ob,bne_neg rfl,cu.L2_eq,at16_f g h,ob,bd_neg (by dsimp only;omega),cu.L3_eq,twin16_ok (tgood_small g),ob,at16_f g h,ob,bd_pos (by dsimp only;omega)]
end
end Go.Proofs.YtkihjakbbcajbaaGreat.RD
namespace Go.Proofs.YtkihjakbbcajbaaGreat.RD
set_option linter.unusedSimpArgs false
set_option linter.unusedVariables false
open Go Go.Proofs Go.Proofs.YtkihjakbbcajbaaGreat.PM Go.Proofs.YtkihjakbbcajbaaGreat.RP Go.Proofs.YtkihjakbbcajbaaGreat.TB Go.Proofs.YtkihjakbbcajbaaGreat.Kd
structure TL (l:List t9.den) (n:Nat) (lim:t0.den):Prop where
 len:l.length≤n
 low:1≤n
 high:n≤8
 nod:(l.map fun h=>Z h.1).Nodup
 bk:∀h∈l,BktOk h.2.1
 keys:∀h∈l,0≤Z h.1∧Z h.1<4294967296
 lok:LimOk lim
 alike:∀h∈l,h.2.1.1=lim
section
variable {l:List t9.den} {n:Nat} {lim:t0.den}
theorem hd_set {keys:List Int} {bks:List t1.den} {i p:Int} {k:Int} {b:t1.den} (i0:0≤i) (i1:i<keys.length) (i2:i<bks.length) (p0:0≤p) (h:i≠p):hd_ (keys.set i.toNat k) (bks.set i.toNat b) p=hd_ keys bks p:=by
 unfold hd_
 rw [set_at i0 i1 p0,set_at i0 i2 p0,if_neg h,if_neg h]
theorem one_more (T:TL l n lim) {k:Nat} (hlt:k<l.length) {keys:List Int} {bks:List t1.den} {next:List Int} {used:List Bool} {free:Int} {x:List t3.den} {prev nxt:List Int} {head tail:Int} {pl:List Int}
  (g:TGood (n:Int) keys bks next used free x prev nxt head tail pl) (hw:Lev bks) (hkk:HK x) (hm:pl.map (hd_ keys bks)=l.drop (k+1)):(∀p,¬Has x (l[k]).1 p)∧∃(i:Int) (fl:List Int) (next':List Int) (used':List Bool) (free':Int) (x':List t3.den) (prev' nxt':List Int) (head' tail':Int),AGood next used free (i::fl)∧
   dp.F (next,used,free,())=some ((next',used',free',()),i,0,())∧cb.F x (l[k]).1 i=some (x',0,())∧dg.F (prev,nxt,head,tail,()) i=some ((prev',nxt',head',tail',()),0,())∧
   tStep lim ((n:Int),keys,bks,(next,used,free,()),x,(prev,nxt,head,tail,()),()) l[k]=some ((n:Int),keys.set i.toNat (l[k]).1,bks.set i.toNat (l[k]).2.1,(next',used',free',()),x',(prev',nxt',head',tail',()),())∧
   (∀b:t1.den,BktOk b→∀bks2,TGood (n:Int) keys bks2 next used free x prev nxt head tail pl→TGood (n:Int) (keys.set i.toNat (l[k]).1) (bks2.set i.toNat b) next' used' free' x' prev' nxt' head' tail' (i::pl))∧HK x'∧(i::pl).map (hd_ (keys.set i.toNat (l[k]).1) (bks.set i.toNat (l[k]).2.1))=l.drop k∧0≤i∧i<used.length∧i∉pl:=by
 have hmem:l[k]∈l:=List.getElem_mem hlt
 have hdrop:l.drop k=l[k]::l.drop (k+1):=List.drop_eq_getElem_cons hlt
 have hb:=T.bk _ hmem
 have hkey:=T.keys _ hmem
 obtain ⟨l1,l2,l3,l4,l5,l6,l7⟩:=g.lens
 have hnd:∀h∈l.drop (k+1),Z h.1≠Z (l[k]).1:=by
  have h1:=T.nod
  rw [←List.take_append_drop k l,hdrop,List.map_append,List.map_cons] at h1
  have h2:=(List.nodup_cons.1 (List.nodup_append.1 h1).2.1).1
  exact fun h hh e=>h2 (List.mem_map.2 ⟨h,hh,e⟩)
 have hn:∀p,¬Has x (l[k]).1 p:=fun p hp=>by
  have m:=g.has_mem hp
  have hq:=g.has_key hp
  have:hd_ keys bks p∈l.drop (k+1):=by rw [←hm];exact List.mem_map.2 ⟨p,m,rfl⟩
  exact hnd _ this hq
 have hpl:pl.length=(l.drop (k+1)).length:=by rw [←hm,List.length_map]
 rw [List.length_drop] at hpl
 have hlen:=T.len
 obtain ⟨i,fl,ga⟩:=free_ex' g (by omega)
 obtain ⟨next',used',free',x',prev',nxt',head',tail',f1,f2,f3,f4,f5,hx',i0,i1,nm⟩:=step_new g hw T.lok hb hn ga
 refine ⟨hn,i,fl,next',used',free',x',prev',nxt',head',tail',ga,f1,f2,f3,f4,f5,fun q p h=>?_,?_,i0,i1,nm⟩
 ·rcases (hx' q p).1 h with h|⟨rfl,rfl⟩
  ·exact hkk q p h
  ·exact hkey
 ·rw [hdrop,List.map_cons,←hm]
  congr 1
  ·unfold hd_
   rw [set_at i0 (by omega) i0,set_at i0 (by omega) i0,if_pos rfl,if_pos rfl]
  ·refine List.map_congr_left fun p hp=>?_
   have hr:=g.mem_range hp
   exact hd_set i0 (by omega) (by omega) hr.1 (fun e=>nm (e▸hp))
theorem goR_more {t t':t5.den} {k:Nat} (hlt:k<l.length) (e1:goR (tStep lim) (l.drop (k+1)).reverse (NT n)=some t) (f4:tStep lim t l[k]=some t'):goR (tStep lim) (l.drop k).reverse (NT n)=some t':=by
 rw [List.drop_eq_getElem_cons hlt,List.reverse_cons,goR_app,e1,ob]
 show (tStep lim _ l[k]).bind (goR (tStep lim) [])=_
 rw [f4,ob];rfl
theorem build_run (T:TL l n lim):∀d k:Nat,k+d=l.length→∃(keys:List Int) (bks:List t1.den) (next:List Int) (used:List Bool) (free:Int) (x:List t3.den) (prev nxt:List Int) (head tail:Int) (pl:List Int),
  goR (tStep lim) (l.drop k).reverse (NT n)=some ((n:Int),keys,bks,(next,used,free,()),x,(prev,nxt,head,tail,()),())∧
  TGood (n:Int) keys bks next used free x prev nxt head tail pl∧Lev bks∧HK x∧pl.map (hd_ keys bks)=l.drop k
 |0,k,hk=>by
  obtain rfl:k=l.length:=by omega
  have g:=new_table (n:=n) T.low T.high
  refine ⟨_,_,_,_,_,_,_,_,_,_,_,?_,g,new_lev n,fun k p h=>absurd h (new_none k p),?_⟩
  ·rw [List.drop_of_length_le (Nat.le_refl _)];rfl
  ·rw [List.drop_of_length_le (Nat.le_refl _)];rfl
 |d+1,k,hk=>by
  obtain ⟨keys,bks,next,used,free,x,prev,nxt,head,tail,pl,e1,g,hw,hkk,hm⟩:=build_run T d (k+1) (by omega)
  have hlt:k<l.length:=by omega
  have hb:=T.bk _ (List.getElem_mem hlt)
  obtain ⟨_,i,fl,next',used',free',x',prev',nxt',head',tail',_,_,_,_,f4,f5,hk',hm',_,_,_⟩:=one_more T hlt g hw hkk hm
  exact ⟨_,_,_,_,_,_,_,_,_,_,_,goR_more hlt e1 f4,f5 _ hb _ g,hw.set (bkt_lev hb) _,hk',hm'⟩
theorem ref_run (T:TL l n lim):∀d k:Nat,k+d=l.length→∃(keys:List Int) (bks bks2:List t1.den) (next:List Int) (used:List Bool) (free:Int) (x:List t3.den) (prev nxt:List Int) (head tail:Int) (pl:List Int),
  goR (tStep lim) (l.drop k).reverse (NT n)=some ((n:Int),keys,bks,(next,used,free,()),x,(prev,nxt,head,tail,()),())∧
  ax.L1 l ((l.length:Int) - 1) lim.1 lim.2.1 lim.2.2.1 (n:Int) 0 (-1) (-1) [] [] [] [] [] (List.replicate n 0) (List.replicate n b0_) (newN n) (List.replicate n false) (List.replicate 16 c0_) (PV n []) (NX n [])=ax.L1 l ((k:Int) - 1) lim.1 lim.2.1 lim.2.2.1 (n:Int) free head tail [] [] [] [] [] keys bks2 next used x prev nxt∧
  TGood (n:Int) keys bks next used free x prev nxt head tail pl∧TGood (n:Int) keys bks2 next used free x prev nxt head tail pl∧Lev bks∧HK x∧pl.map (hd_ keys bks)=l.drop k
 |0,k,hk=>by
  obtain rfl:k=l.length:=by omega
  have g:=new_table (n:=n) T.low T.high
  refine ⟨_,_,_,_,_,_,_,_,_,_,_,_,?_,rfl,g,g,new_lev n,fun k p h=>absurd h (new_none k p),?_⟩
  ·rw [List.drop_of_length_le (Nat.le_refl _)];rfl
  ·rw [List.drop_of_length_le (Nat.le_refl _)];rfl
 |d+1,k,hk=>by
  obtain ⟨keys,bks,bks2,next,used,free,x,prev,nxt,head,tail,pl,e1,e2,g,g2,hw,hkk,hm⟩:=ref_run T d (k+1) (by omega)
  have hlt:k<l.length:=by omega
  have hb:=T.bk _ (List.getElem_mem hlt)
  have hkey:=T.keys _ (List.getElem_mem hlt)
  obtain ⟨l1,l2,l3,l4,l5,l6,l7⟩:=g.lens
  have hlen:=T.len
  obtain ⟨hn,i,fl,next',used',free',x',prev',nxt',head',tail',ga,f1,f2,f3,f4,f5,hk',hm',i0,i1,nm⟩:=one_more T hlt g hw hkk hm
  refine ⟨_,_,_,_,_,_,_,_,_,_,_,_,goR_more hlt e1 f4,?_,f5 _ hb _ g,f5 _ (full_ok T.lok 0) _ g2,hw.set (bkt_lev hb) _,hk',hm'⟩
  have ei:((k+1:Nat):Int) - 1=(k:Int):=by omega
  rw [e2,ei,ax.L1_eq,bd_pos (by omega),ax.L2_eq,bd_pos (by omega)]
  simp only [toNat_cast]
  rw [getD_get hlt]
  rw [show ch.F _ _ (lim.1,lim.2.1,lim.2.2.1,()) 0=_ from ruse_new g2 hkk T.lok hkey.1 hkey.2 hn ga f1 f2 f3 i0 i1 nm,ob,W_eq (by omega) (by omega)]
theorem map_at {keys:List Int} {bks:List t1.den} {pl:List Int} (hm:pl.map (hd_ keys bks)=l) {i:Nat} (h1:i<pl.length) (h2:i<l.length):keys.getD (pl[i]).toNat 0=(l[i]).1∧bks.getD (pl[i]).toNat b0_=(l[i]).2.1:=by
 subst hm
 rw [List.getElem_map]
 exact ⟨rfl,rfl⟩
theorem sets_run (T:TL l n lim) {keys:List Int} {bks bks2:List t1.den} {next:List Int} {used:List Bool} {free:Int} {x:List t3.den} {prev nxt:List Int} {head tail:Int} {pl:List Int}
  (g2:TGood (n:Int) keys bks2 next used free x prev nxt head tail pl) (hkk:HK x) (hm:pl.map (hd_ keys bks)=l):∀i:Nat,i≤l.length→∃bks3:List t1.den,
  ax.L3 l 0 (n:Int) free head tail [] [] [] [] [] keys bks2 next used x prev nxt=ax.L3 l (i:Int) (n:Int) free head tail [] [] [] [] [] keys bks3 next used x prev nxt∧
  TGood (n:Int) keys bks3 next used free x prev nxt head tail pl∧∀j (hj:j<i) (h:j<pl.length),bks3.getD (pl[j]).toNat b0_=bks.getD (pl[j]).toNat b0_
 |0,_=>⟨bks2,rfl,g2,fun j hj=>absurd hj (Nat.not_lt_zero j)⟩
 |i+1,hi=>by
  obtain ⟨bks3,e,g3,h3⟩:=sets_run T g2 hkk hm i (by omega)
  have hlt:i<l.length:=by omega
  have hpl:pl.length=l.length:=by rw [←hm,List.length_map]
  have hp:i<pl.length:=by omega
  have hmem:l[i]∈l:=List.getElem_mem hlt
  have hmp:pl[i]∈pl:=List.getElem_mem hp
  obtain ⟨m1,m2⟩:=map_at hm hp hlt
  have hh:=g3.has_of hmp
  rw [m1] at hh
  have hb:=T.bk _ hmem
  have hr:=g3.mem_range hmp
  obtain ⟨l1,l2,l3,l4,l5,l6,l7⟩:=g3.lens
  have hlen:=T.len
  have hn:=T.high
  refine ⟨_,?_,set_good g3 hmp hb,fun j hj h=>?_⟩
  ·rw [e,ax.L3_eq,bd_pos (by omega),ax.L4_eq,bd_pos (by omega),bd_pos (by omega)]
   simp only [toNat_cast]
   rw [getD_get hlt,rset_f g3 hkk hh hb,ob,W_eq (by omega) (by omega),cast_add1]
  ·have hr2:=g3.mem_range (List.getElem_mem h)
   rw [set_at hr.1 (by omega) hr2.1]
   by_cases q:pl[i]=pl[j]
   ·rw [if_pos q,←q,m2]
   ·rw [if_neg q]
    have:j≠i:=fun e=>q (by subst e;rfl)
    exact h3 j (by omega) h
structure TI (l:List t9.den) (n:Nat) (t:t5.den):Prop where
 cap:Z t.1=(n:Int)
 ok:TOk t
 wf:TWf t
 small:TSmall t
 held:heldOf t=l
 bks:∀b∈t.2.2.1,b=b0_∨∃h∈l,b=h.2.1
 rows:∀i:Nat,i<List.length t.2.2.2.1.2.1→List.getD t.2.2.2.1.2.1 i false=true→∃h∈l,List.getD t.2.1 i 0=h.1∧List.getD t.2.2.1 i b0_=h.2.1
section
variable {keys:List Int} {bks:List t1.den} {next:List Int} {used:List Bool} {free:Int} {x:List t3.den} {prev nxt:List Int} {head tail:Int} {pl:List Int}
theorem row_at (g:TGood (n:Int) keys bks next used free x prev nxt head tail pl) (hm:pl.map (hd_ keys bks)=l) (i:Nat) (hi:i<used.length) (hu:used.getD i false=true):∃(j:Nat) (h:j<pl.length) (h2:j<l.length),pl[j]=(i:Int)∧keys.getD i 0=(l[j]).1∧bks.getD i b0_=(l[j]).2.1:=by
 obtain ⟨j,hj,e⟩:=List.mem_iff_getElem.1 ((g.row i hi).1.1 hu)
 have hj2:j<l.length:=by rw [←hm,List.length_map];exact hj
 obtain ⟨m1,m2⟩:=map_at hm hj hj2
 rw [e,toNat_cast] at m1 m2
 exact ⟨j,hj,hj2,e,m1,m2⟩
theorem tabled_by (T:TL l n lim) {t:t5.den} (e:goR (tStep lim) l.reverse (NT n)=some t):cd.F l (n:Int) lim=some (t,()):=by
 have hlen:=T.len
 have hn:=T.high
 have sf:TSafe lim l (NT n):=fun pre hpre hl=>safe_run T.lok pre _ _ _ _ _ _ _ _ _ _ [] (new_table (n:=n) T.low T.high) (new_lev n) (fun h hh=>T.bk _ (hpre h hh)) (by simp only [List.length_nil];omega)
 rw [cd.F_eq,table_New_f T.low T.high,ob]
 unfold cd.Rest
 rw [if_pos ⟨by omega,sf⟩]
 dsimp only
 rw [e,ob]
end
theorem tab_ok (T:TL l n lim):∃t:t5.den,cd.F l (n:Int) lim=some (t,())∧TI l n t:=by
 obtain ⟨keys,bks,next,used,free,x,prev,nxt,head,tail,pl,e1,g,hw,hkk,hm⟩:=build_run T l.length 0 (by omega)
 rw [List.drop_zero] at e1 hm
 obtain ⟨l1,l2,l3,l4,l5,l6,l7⟩:=g.lens
 have rw_:=row_at g hm
 refine ⟨((n:Int),keys,bks,(next,used,free,()),x,(prev,nxt,head,tail,()),()),tabled_by T e1,?_⟩
 refine ⟨rfl,⟨pl,g⟩,⟨hw,keys_of g.index hkk,by have:=g.index.len;dsimp only;omega,fun k hk=>?_⟩,tgood_small g,?_,fun b hb=>?_,fun i hi hu=>?_⟩
 ·obtain ⟨i,hi,rfl⟩:=List.mem_iff_getElem.1 hk
  have hi:i<keys.length:=hi
  have e:keys[i]=keys.getD i 0:=(getD_get hi).symm
  show Z keys[i]≤4294967295
  rw [e]
  by_cases u:used.getD i false=true
  ·obtain ⟨j,hj,hj2,_,m1,_⟩:=rw_ i (by omega) u
   have:=T.keys _ (List.getElem_mem hj2)
   rw [m1]
   have:Z (l[j]).1<4294967296:=this.2
   omega
  ·rw [((g.row i (by omega)).2.1 (bool_not u)).1];decide
 ·rw [heldOf_good g hw];exact hm
 ·obtain ⟨i,hi,rfl⟩:=List.mem_iff_getElem.1 hb
  have hi:i<bks.length:=hi
  have e:bks[i]=bks.getD i b0_:=(getD_get hi).symm
  show bks[i]=b0_∨∃h∈l,bks[i]=h.2.1
  rw [e]
  by_cases u:used.getD i false=true
  ·obtain ⟨j,hj,hj2,_,_,m2⟩:=rw_ i (by omega) u
   exact .inr ⟨_,List.getElem_mem hj2,m2⟩
  ·exact .inl ((g.row i (by omega)).2.1 (bool_not u)).2
 ·obtain ⟨j,hj,hj2,_,m1,m2⟩:=rw_ i hi hu
  exact ⟨_,List.getElem_mem hj2,m1,m2⟩
theorem rtab_ok (T:TL l n lim):∃t:t5.den,cd.F l (n:Int) lim=some (t,())∧ax.F l (n:Int) lim=some (t,()):=by
 obtain ⟨keys,bks,bks2,next,used,free,x,prev,nxt,head,tail,pl,e1,e2,g,g2,hw,hkk,hm⟩:=ref_run T l.length 0 (by omega)
 rw [List.drop_zero] at e1 hm
 obtain ⟨bks3,e3,g3,h3⟩:=sets_run T g2 hkk hm l.length (Nat.le_refl _)
 obtain ⟨l1,l2,l3,l4,l5,l6,l7⟩:=g.lens
 obtain ⟨_,l2',_,_,_,_,_⟩:=g3.lens
 have hlen:=T.len
 have hn:=T.high
 have rw_:=row_at g hm
 have eb:bks3=bks:=by
  refine ext_getD (d:=b0_) (by omega) fun i hi=>?_
  by_cases u:used.getD i false=true
  ·obtain ⟨j,hj,hj2,e,_,_⟩:=rw_ i (by omega) u
   have:=h3 j hj2 hj
   rw [e,toNat_cast] at this
   exact this
  ·rw [((g.row i (by omega)).2.1 (bool_not u)).2,((g3.row i (by omega)).2.1 (bool_not u)).2]
 subst eb
 refine ⟨_,tabled_by T e1,?_⟩
 rw [ax.F_eq,new16_f T.low T.high,ob]
 have e0:IntKind.wrap .i64 ((l.length:Int) - 1)=(l.length:Int) - 1:=W_eq (by omega) (by omega)
 rw [e0]
 refine Eq.trans (show ax.L1 l _ _ _ _ _ _ _ _ _ _ _ _ _ _ _ _ _ _ _ _=_ from e2) ?_
 rw [ax.L1_eq,bd_neg (by omega),e3,ax.L3_eq,bd_neg (by omega)]
end
end Go.Proofs.YtkihjakbbcajbaaGreat.RD
