/- Parts of the proof, joined: PM9, PM10, PM11, PM12, PM13. -/
import Derived.Test.YtkihjakbbcajbaaGreatPM8
import Derived.Laws.AppendOwn
import Derived.Laws.Tables
namespace Go.Proofs.YtkihjakbbcajbaaGreat.PM
set_option linter.unusedSimpArgs false
set_option linter.unusedVariables false
open Go
structure Grew (w w':World):Prop where
 os:w'.os=w.os
 tape:w'.tape=w.tape
 output:w'.output=w.output
 size:w.heap.size≤w'.heap.size
 block:∀r,r<w.heap.size→w'.heap[r]?=w.heap[r]?
theorem Grew.alloc (w:World) (o:Obj):Grew w (w.alloc o):=⟨rfl,rfl,rfl,by simp,fun r hr=>by
 show (w.heap.push o)[r]?=_
 rw [Array.getElem?_push,if_neg (by omega)]⟩
theorem Grew.trans {a b c:World} (h:Grew a b) (k:Grew b c):Grew a c:=
 ⟨k.os.trans h.os,k.tape.trans h.tape,k.output.trans h.output,Nat.le_trans h.size k.size,fun r hr=>(k.block r (Nat.lt_of_lt_of_le hr h.size)).trans (h.block r hr)⟩
theorem Grew.drew (w:World):Grew w w.drew:=⟨rfl,rfl,rfl,Nat.le_refl _,fun _ _=>rfl⟩
theorem alloc_new (w:World) (o:Obj):(w.alloc o).heap[w.heap.size]?=some o:=by
 show (w.heap.push o)[w.heap.size]?=_
 simp
section
variable {P:Program} {E:Env} {t:TypeId} {g:Gh} {A W:Nat→Prop} {w w':World} {h:Hp}
theorem Grew.keep (G:Grew w w'):Keep W w w':=⟨G.os,G.tape,G.output,G.size,fun r hr _=>G.block r hr⟩
theorem HR.grew (H:HR g A W w h) (G:Grew w w'):HR g A W w' h:=H.move (fun r hr=>G.block r (H.lt r hr)) (fun i b s r e hg hr=>G.block r ((H.blk i b e).lt hg hr)) G.size
theorem HR.free (H:HR g A W w h) {r:Nat} (hr:w.heap.size≤r):Free g h r:=fun i b _ e _ hg hs=>by
 have:=(H.blk i b e).lt hg hs;omega
theorem Step.new (H:HR g A W w h) (G:Grew w w') {id:Nat} (hn:look id h=none) (hW:W w.heap.size) {s:Slot} {B:Blk} (hs:s.blk=some w.heap.size) (hB:BRel (upd g id s) A w' id B):Step g A W w (upd g id s) A w' ((id,some B)::h):=by
 have H':=H.grew G
 refine ⟨le_upd (H.gnone hn),fun _ h=>h,fun _ h=> .inl h,H'.add hn s hB (fun _ r hr=>?_),fun r hr=>G.block r (H.lt r hr),G.keep⟩
 rw [hs] at hr;injection hr with hr;subst hr
 exact ⟨fun ha=>Nat.lt_irrefl _ (H.lt _ ha),hW,H.free (Nat.le_refl _)⟩
theorem Step.grow (H:HR g A W w h) (G:Grew w w'):Step g A W w g A w' h:=
 ⟨Gh.le_refl g,fun _ h=>h,fun _ h=> .inl h,H.grew G,fun r hr=>G.block r (H.lt r hr),G.keep⟩
theorem run_zero {τ:Ty} (hty:tyB P τ t=true):∃i z,P.info? t=some i∧i.zero=some z∧i.size=τ.size∧i.bytes≤τ.bytes∧z.cells.toList=zcells τ∧∀w,(zeroValue t).run P w=.ok z w:=by
 obtain ⟨i,z,h1,h2,h3,h4,h5,_⟩:=tyB_info hty
 exact ⟨i,z,h1,h4,h2,h3,h5,fun w=>by simp [zeroValue,typeInfo,h1,h4]⟩
theorem upd_self (g:Gh) (id:Nat) (s:Slot):upd g id s id=some s:=by unfold upd;rw [if_pos rfl]
theorem alloc_ok (hT:tabB P E.tl=true) (H:HR g A W w h) (hW:∀r,w.heap.size≤r→W r) {nw:Nat} {y:PV} {h':Hp}
  (e:((E.data t).bind fun τ=>(imp τ τ.zero (nw+1)).bind fun p=>Q.new nw (.box p.1) (.ret (.ptr nw []))).Ok h y h'):
  ∃g' w' v,(Instr.alloc t true (.tuple #[])).run P w=.ok v w'∧Step g A W w g' A w' h'∧VRel g' A w' y v:=by
 simp only [Ok_bind,Q.Ok] at e
 obtain ⟨τ,h1,e1,p,h2,e2,hn,rfl,rfl⟩:=e
 obtain ⟨hE,rfl⟩:=data_out e1
 have hty:tyB P τ t=true:=tabB_look hT hE
 obtain ⟨i,z,_,_,_,_,hz,hrun⟩:=run_zero hty
 obtain ⟨g1,l1,H1,r1,_,_⟩:=imp_ok τ τ.zero (nw+1) g h1 (zcells τ) [] p h2 H (zcells_own A w τ) List.nodup_nil (by simp) e2
 have S1:Step g A W w g1 A w h2:=⟨l1,fun _ h=>h,fun _ h=> .inl h,H1,fun _ _=>rfl,.refl W w⟩
 have G:=Grew.alloc w (.cells z.cells t)
 have hB:BRel (upd g1 nw ⟨some w.heap.size,0,0⟩) A (w.alloc (.cells z.cells t)) nw (.box p.1):=
  ⟨_,_,_,_,upd_self _ _ _,rfl,alloc_new w _,PV.rel_mono (le_upd (H1.gnone hn)) (fun _ h=>h) (fun r hr=>G.block r (H1.lt r hr)) _ _ (by rw [hz];exact r1)⟩
 refine ⟨_,_,_,?_,S1.trans (Step.new H1 G hn (hW _ (Nat.le_refl _)) rfl hB),mk_ptr (p:=[]) (upd_self _ _ _) rfl trivial⟩
 simp [Instr.alloc,hrun,newVar,newRow,poff]
theorem box_ok (H:HR g A W w h) (hW:∀r,w.heap.size≤r→W r) {x:PV} {v:Value} (hx:VRel g A w x v) {nw:Nat} {y:PV} {h':Hp}
  (e:((get (E.tab t)).bind fun τ=>(seat τ x (nw+1)).bind fun x=>cond (fitsI τ x) (Q.new nw (.box x) (.ret (.ptr nw []))) .fail).Ok h y h'):
  ∃g' w' u,(Instr.box t v).run P w=.ok u w'∧Step g A W w g' A w' h'∧VRel g' A w' y u:=by
 simp only [Ok_bind,Ok_get,Ok_cond,and_false,or_false,Q.Ok] at e
 obtain ⟨τ,h1,⟨hE,rfl⟩,x',h2,e2,hf,hn,rfl,rfl⟩:=e
 obtain ⟨g1,S1,hx',_⟩:=seat_ok H hx e2
 have G:=Grew.alloc w (.cells v.cells t)
 have hB:BRel (upd g1 nw ⟨some w.heap.size,0,0⟩) A (w.alloc (.cells v.cells t)) nw (.box x'):=
  ⟨_,_,_,_,upd_self _ _ _,rfl,alloc_new w _,PV.rel_mono (le_upd (S1.hr.gnone hn)) (fun _ h=>h) (fun r hr=>G.block r (S1.hr.lt r hr)) _ _ (VRel.cells hx').1⟩
 refine ⟨_,_,_,?_,S1.trans (Step.new S1.hr G hn (hW _ (Nat.le_refl _)) rfl hB),mk_ptr (p:=[]) (upd_self _ _ _) rfl trivial⟩
 simp [Instr.box,newVar,newRow,poff]
theorem fold_set (off:Nat):∀(vs:List Value) (k:Nat) (cs:Array Value),off+k+vs.length≤cs.size→
  ((vs.zipIdx k).foldl (fun cs p=>cs.setIfInBounds (off+p.2) p.1) cs).toList=cs.toList.take (off+k)++vs++cs.toList.drop (off+k+vs.length)
 |[],k,cs,_=>by simp
 |v::vs,k,cs,hl=>by
  rw [List.zipIdx_cons,List.foldl_cons,fold_set off vs (k+1) _ (by simp at hl ⊢;omega)]
  simp only [Array.toList_setIfInBounds,List.length_cons] at hl ⊢
  have hlt:off+k<cs.toList.length:=by simp;omega
  have hla:(cs.toList.take (off+k)).length=off+k:=by rw [List.length_take];omega
  rw [List.set_eq_take_append_cons_drop,if_pos hlt]
  have e1:(cs.toList.take (off+k)++v::cs.toList.drop (off+k+1)).take (off+(k+1))=cs.toList.take (off+k)++[v]:=by
   have:cs.toList.take (off+k)++v::cs.toList.drop (off+k+1)=(cs.toList.take (off+k)++[v])++cs.toList.drop (off+k+1):=by simp
   rw [this]
   have hl2:off+(k+1)=(cs.toList.take (off+k)++[v]).length:=by rw [List.length_append,hla];rfl
   rw [hl2,List.take_left]
  have e2:(cs.toList.take (off+k)++v::cs.toList.drop (off+k+1)).drop (off+(k+1)+vs.length)=cs.toList.drop (off+k+(vs.length+1)):=by
   have:cs.toList.take (off+k)++v::cs.toList.drop (off+k+1)=(cs.toList.take (off+k)++[v])++cs.toList.drop (off+k+1):=by simp
   rw [this]
   have hl2:off+(k+1)+vs.length=(cs.toList.take (off+k)++[v]).length+vs.length:=by rw [List.length_append,hla];simp;omega
   rw [hl2,←List.drop_drop,List.drop_left,List.drop_drop]
   congr 1;omega
  rw [e1,e2]
  simp
theorem fill_step {place:Nat→Option (Nat × Nat)} {cells:Array Value} {i off size:Nat} {v:Value} {rest:List (Nat × Value)} (hp:place i=some (off,size)) (hv:v.cells.size=size) (hl:off+size≤cells.size):
  ∃cells',Instr.fill place cells ((i,v)::rest)=Instr.fill place cells' rest∧cells'.toList=cells.toList.take off++v.cells.toList++cells.toList.drop (off+size)∧cells'.size=cells.size:=by
 have h1:=fold_set off v.cells.toList 0 cells (by simp [hv];omega)
 refine ⟨(v.cells.toList.zipIdx).foldl (fun cs p=>cs.setIfInBounds (off+p.2) p.1) cells,?_,by simpa [hv] using h1,?_⟩
 ·simp only [Instr.fill,hp]
  rw [if_neg (by simp;omega),←Array.foldl_toList,Array.toList_zipIdx]
 ·have:=congrArg List.length h1
  simp only [Array.length_toList,List.length_append,List.length_take,List.length_drop,hv] at this
  omega
def PRel (g:Gh) (A:Nat→Prop) (w:World):List (Nat × PV)→List (Nat × Value)→Prop
 |[],[]=>True
 |p::ps,q::qs=>p.1=q.1∧VRel g A w p.2 q.2∧PRel g A w ps qs
 |_,_=>False
theorem PRel.mono {g':Gh} {A':Nat→Prop} (hg:g.le g') (hA:∀r,A r→A' r):∀{ps:List (Nat × PV)} {qs:List (Nat × Value)},PRel g A w ps qs→PRel g' A' w ps qs
 |[],[],_=>trivial
 |_::_,_::_,⟨h1,h2,h3⟩=>⟨h1,h2.mono hg hA (fun _ _=>rfl),h3.mono hg hA⟩
theorem putA_ok {u:Ty}:∀(ps:List (Nat × PV)) (qs:List (Nat × Value)) (A:Nat→Prop) (h:Hp) (xs ys:List u.den) (cs:Array Value) (h':Hp),HR g A W w h→PRel g A w ps qs→Cat (TRel A w u) cs.toList xs→(putA u ps xs).Ok h ys h'→
  ∃A' cs',Frz g A W w h A' h'∧Instr.fill (fun i=>some (i*u.size,u.size)) cs qs=some cs'∧Cat (TRel A' w u) cs'.toList ys∧ys.length=xs.length
 |[],[],A,h,xs,ys,cs,h',H,_,hc,e=>by
  simp only [putA,Ok_ret] at e
  obtain ⟨rfl,rfl⟩:=e
  exact ⟨A,cs,.refl H,rfl,hc,rfl⟩
 |(i,x)::ps,(j,v)::qs,A,h,xs,ys,cs,h',H,hp,hc,e=>by
  obtain ⟨rfl,hv,hp⟩:=hp
  simp only [putA,Ok_bind,Ok_cond,Ok_fail,and_false,or_false,Bool.and_eq_true] at e
  obtain ⟨y,h1,e1,⟨hi,hsz⟩,e2⟩:=e
  have hi:i<xs.length:=Nat.le_of_ble_eq_true hi
  have hsz:=Nat.eq_of_beq_eq_true hsz
  have hvc:=(VRel.cells hv).1
  obtain ⟨A1,F,hy⟩:=typed_own H hvc e1
  have hvl:v.cells.size=u.size:=by
   have:=PV.rel_len x _ hvc
   rw [Array.length_toList] at this
   rw [this,hsz]
  have hcl:=Cat.len (TRel.len u) hc
  have hle:i*u.size+u.size≤cs.size:=by
   rw [Array.length_toList] at hcl
   rw [hcl,←Nat.succ_mul];exact Nat.mul_le_mul_right _ hi
  obtain ⟨cs1,f1,f2,f3⟩:=fill_step (place:=fun i=>some (i*u.size,u.size)) (rest:=qs) (i:=i) rfl hvl hle
  have hc1:Cat (TRel A1 w u) cs1.toList (xs.set i y):=by
   rw [f2];exact Cat.set (TRel.len u) (hc.mono (TRel.mono F.le (fun _ _=>rfl) u)) hi hy
  obtain ⟨A2,cs2,F2,r2,r3,r4⟩:=putA_ok ps qs A1 h1 _ ys cs1 h' F.hr (hp.mono (Gh.le_refl g) F.le) hc1 e2
  exact ⟨A2,cs2,F.trans F2,by rw [f1];exact r2,r3,by rw [r4,List.length_set]⟩
 |[],_::_,_,_,_,_,_,_,_,hp,_,_=>hp.elim
 |_::_,[],_,_,_,_,_,_,_,hp,_,_=>hp.elim
theorem madeCells_eq (z:Array Value) (s:Nat) (hs:z.size=s):∀c:Nat,(madeCells z (c*s)).toList=(List.replicate c z.toList).flatten
 |0=>by simp [madeCells]
 |c+1=>by
  have ih:=madeCells_eq z s hs c
  simp only [madeCells,Array.toList_map,Array.toList_range] at ih ⊢
  rw [List.replicate_succ,List.flatten_cons,←ih]
  have e:(c+1)*s=s+c*s:=by rw [Nat.succ_mul];omega
  rw [e,List.range_add,List.map_append,List.map_map]
  congr 1
  ·apply List.ext_getElem
   ·simp [hs]
   ·intro j h1 h2
    simp only [List.length_map,List.length_range] at h1
    have hj:j<z.size:=by omega
    simp only [List.getElem_map,List.getElem_range,hs,Nat.mod_eq_of_lt h1,Array.getElem_toList]
    exact getElem!_pos z j hj
  ·apply List.map_congr_left
   intro j _
   simp [hs]
theorem opds_rel {gl tm:List (Nat × PV)} {ρ:Operand→Value} (hρ:∀o x,opd gl tm o=some x→VRel g A w x (ρ o)):∀{ps:List (Nat × Operand)} {qs:List (Nat × PV)},partsQ gl tm ps=some qs→PRel g A w qs (ps.map fun p=>(p.1,ρ p.2))
 |[],_,e=>by simp only [partsQ,Option.some.injEq] at e;subst e;trivial
 |(i,o)::ps,qs,e=>by
  simp only [partsQ,Option.bind_eq_some_iff,Option.some.injEq] at e
  obtain ⟨a,e1,b,e2,rfl⟩:=e
  exact ⟨rfl,hρ o a e1,opds_rel hρ e2⟩
theorem buildSlice_ok (hT:tabB P E.tl=true) (H:HR g A W w h) (hW:∀r,w.heap.size≤r→W r) {n:Nat} {ps:List (Nat × PV)} {qs:List (Nat × Value)} (hp:PRel g A w ps qs) {nw:Nat} {y:PV} {h':Hp} (e:(buildSliceQ E t n ps nw).Ok h y h'):
  ∃g' A' w' v,(Instr.buildSlice t n qs.toArray).run P w=.ok v w'∧Step g A W w g' A' w' h'∧VRel g' A' w' y v:=by
 simp only [buildSliceQ,Ok_bind,Ok_cond,Ok_fail,and_false,or_false,Bool.and_eq_true,Q.Ok] at e
 obtain ⟨u,h1,e1,⟨hb,hs1⟩,xs,h2,e2,hn,rfl,rfl⟩:=e
 obtain ⟨hE,rfl⟩:=elem_out e1
 have hty:tyB P (.slice u) t=true:=tabB_look hT hE
 obtain ⟨e0,hu,he⟩:=slice_und hty
 obtain ⟨i,z,hi1,hi2,hi3,hi4,hz,hrun⟩:=run_zero he
 have hb:=Nat.le_of_ble_eq_true hb
 have hs1:=Nat.le_of_ble_eq_true hs1
 have hzs:z.cells.size=u.size:=by
  have:=TRel.len u _ _ (zcells_rel A w u)
  rw [←hz,Array.length_toList] at this;exact this
 have hzc:Cat (TRel A w u) (madeCells z.cells (n*u.size)).toList (List.replicate n u.zero):=by
  rw [madeCells_eq z.cells u.size hzs,hz];exact Cat.replicate (zcells_rel A w u) n
 obtain ⟨A1,cs,F,f1,f2,f3⟩:=putA_ok ps qs A h1 _ xs _ h2 H hp hzc e2
 have hlen:xs.length=n:=by rw [f3,List.length_replicate]
 have hcl:=Cat.len (TRel.len u) f2
 have G:=Grew.alloc w (.cells cs e0)
 have hB:BRel (upd g nw ⟨some w.heap.size,n,n⟩) A1 (w.alloc (.cells cs e0)) nw (.row u xs false):=
  ⟨_,upd_self _ _ _,⟨hlen.symm,Nat.le_refl _,cs,e0,alloc_new w _,by rw [Array.length_toList] at hcl;rw [hcl,hlen];exact Nat.le_refl _,by
   rw [List.take_of_length_le (by rw [hcl,hlen];exact Nat.le_refl _)]
   exact f2.mono (TRel.mono (fun _ h=>h) (fun r hr=>G.block r (F.hr.lt r hr)) u)⟩,fun h=>by cases h⟩
 refine ⟨_,_,_,.slice (some ⟨w.heap.size,0,none⟩) n n,?_,F.step.trans (Step.new F.hr G hn (hW _ (Nat.le_refl _)) rfl hB),?_⟩
 ·have hng:¬n*u.size>2 ^ 24:=by simpa using hb
  by_cases h0:n*u.size=0
  ·have h00:(madeCells z.cells (n*u.size))=#[]:=by
    apply Array.toList_inj.1
    apply List.eq_nil_of_length_eq_zero
    rw [Array.length_toList,size_madeCells,h0]
   rw [h00] at f1
   have f1':Instr.fill (fun i=>some (i*u.size,u.size)) #[] qs=some cs:=f1
   have hr0:∀f:Nat→Value,(Array.range 0).map f=#[]:=fun f=>by apply Array.toList_inj.1;simp
   simp [Instr.buildSlice,run_underlying hu,run_sizeT w he,h0,hr0,f1',newRow]
  ·have f1':Instr.fill (fun i=>some (i*u.size,u.size)) ((Array.range (n*u.size)).map (z.cells[· % z.cells.size]!)) qs=some cs:=f1
   have hng':¬2 ^ 24<n*u.size:=hng
   simp [Instr.buildSlice,run_underlying hu,run_sizeT w he,h0,hng',hrun,f1',newRow]
   try omega
 ·unfold VRel;simp only [aggP];unfold PV.rel
  exact ⟨_,_,upd_self _ _ _,rfl,rfl⟩
theorem size_bytes:∀u:Ty,u.size≤u.bytes
 |.int _=>by simp [Ty.size,Ty.bytes]
 |.bool=>by simp [Ty.size,Ty.bytes]
 |.str=>by simp [Ty.size,Ty.bytes]
 |.unit=>by simp [Ty.size,Ty.bytes]
 |.slice _=>by simp [Ty.size,Ty.bytes]
 |.pair a b=>Nat.add_le_add (size_bytes a) (size_bytes b)
 |.arr n u=>Nat.mul_le_mul_left n (size_bytes u)
theorem lim_out {n:Nat} {u:Ty} (h:lim n u=true):n*u.bytes≤140737488355328:=of_decide_eq_true h
theorem makeSlice_ok (hT:tabB P E.tl=true) (H:HR g A W w h) (hW:∀r,w.heap.size≤r→W r) {l c:PV} {vl vc:Value} (hl:VRel g A w l vl) (hc:VRel g A w c vc) {nw:Nat} {y:PV} {h':Hp} (e:(makeSliceQ E t l c nw).Ok h y h'):
  ∃g' w' v,(Instr.makeSlice t vl vc).run P w=.ok v w'∧Step g A W w g' A w' h'∧VRel g' A w' y v:=by
 simp only [makeSliceQ,Ok_bind,Ok_ask,Ok_cond,Ok_fail,and_false,or_false,Bool.and_eq_true,decide_eq_true_eq,Q.Ok] at e
 obtain ⟨u,h1,e1,m,h2,e2,k,h3,e3,⟨⟨hm0,hmk⟩,hlim⟩,hs1,hn,rfl,rfl⟩:=e
 obtain ⟨hE,rfl⟩:=elem_out e1
 obtain ⟨rfl,kl,rfl⟩:=intOf_out hl e2
 obtain ⟨rfl,kc,rfl⟩:=intOf_out hc e3
 have hty:tyB P (.slice u) t=true:=tabB_look hT hE
 obtain ⟨e0,hu,he⟩:=slice_und hty
 obtain ⟨i,z,hi1,hi2,hi3,hi4,hz,hrun⟩:=run_zero he
 have hs1:=Nat.le_of_ble_eq_true hs1
 have hzs:z.cells.size=u.size:=by
  have:=TRel.len u _ _ (zcells_rel A w u)
  rw [←hz,Array.length_toList] at this;exact this
 have hlim:=lim_out hlim
 have hby:(i.bytes:Int)*k≤281474976710656:=by
  have h1:i.bytes*k.toNat≤140737488355328:=Nat.le_trans (by rw [Nat.mul_comm];exact Nat.mul_le_mul_left _ hi4) hlim
  have h2:((i.bytes*k.toNat:Nat):Int)=(i.bytes:Int)*k:=by
   rw [Int.natCast_mul,Int.toNat_of_nonneg (by omega)]
  omega
 have hr:=run_make (P:=P) w t e0 i z hu hi1 hi2 kl kc m k hm0 hmk hby (by
  have h1:k.toNat*1≤k.toNat*u.bytes:=Nat.mul_le_mul_left _ (Nat.le_trans hs1 (size_bytes u))
  omega)
 rw [hi3] at hr
 have G:=Grew.alloc w (.cells (madeCells z.cells (k.toNat*u.size)) e0)
 have hle:m.toNat≤k.toNat:=by omega
 have hcat:Cat (TRel A w u) (madeCells z.cells (k.toNat*u.size)).toList (List.replicate k.toNat u.zero):=by
  rw [madeCells_eq z.cells u.size hzs,hz];exact Cat.replicate (zcells_rel A w u) _
 have hB:BRel (upd g nw ⟨some w.heap.size,k.toNat,m.toNat⟩) A (w.alloc (.cells (madeCells z.cells (k.toNat*u.size)) e0)) nw (.row u (List.replicate m.toNat u.zero) false):=
  ⟨_,upd_self _ _ _,⟨by simp,hle,_,e0,alloc_new w _,by rw [size_madeCells];exact Nat.le_refl _,by
   have:=hcat.take (TRel.len u) m.toNat (by simpa using hle)
   rw [List.take_replicate,Nat.min_eq_left hle] at this
   exact this.mono (TRel.mono (fun _ h=>h) (fun r hr=>G.block r (H.lt r hr)) u)⟩,fun h=>by cases h⟩
 refine ⟨_,_,_,hr,Step.new H G hn (hW _ (Nat.le_refl _)) rfl hB,?_⟩
 unfold VRel;simp only [aggP];unfold PV.rel
 exact ⟨_,_,upd_self _ _ _,rfl,rfl⟩
theorem optInt_out {x:Option PV} {d n:Int} {v:Option Value} {h':Hp} (hx:match x,v with|none,none=>True|some a,some b=>VRel g A w a b|_,_=>False) (e:(optInt x d).Ok h n h'):
  h'=h∧((v=none∧n=d)∨∃k,v=some (.int k n)):=by
 cases x with
 |none=>
  cases v with
  |none=>simp only [optInt,Ok_ret] at e;exact ⟨e.2,.inl ⟨rfl,e.1⟩⟩
  |some b=>exact hx.elim
 |some a=>
  cases v with
  |none=>exact hx.elim
  |some b=>
   obtain ⟨r1,k,r2⟩:=intOf_out hx e
   exact ⟨r1,.inr ⟨k,by rw [r2]⟩⟩
def OptR (g:Gh) (A:Nat→Prop) (w:World) (x:Option PV) (v:Option Value):Prop:=match x,v with
 |none,none=>True
 |some a,some b=>VRel g A w a b
 |_,_=>False
theorem cutQ_out {lo hi:Option PV} {vl vh:Option Value} {n:Int} {f:Nat→Nat→Q PV} {y:PV} {h':Hp} (hl:OptR g A w lo vl) (hh:OptR g A w hi vh) (e:(cutQ lo hi n f).Ok h y h'):
  ∃l m:Int,0≤l∧l≤m∧m≤n∧((vl=none∧l=0)∨∃k,vl=some (.int k l))∧((vh=none∧m=n)∨∃k,vh=some (.int k m))∧(f l.toNat m.toNat).Ok h y h':=by
 simp only [cutQ,Ok_bind,Ok_ask,decide_eq_true_eq] at e
 obtain ⟨m,h1,e1,l,h2,e2,⟨h3,h4,h5⟩,e⟩:=e
 obtain ⟨rfl,r1⟩:=optInt_out (v:=vh) hh e1
 obtain ⟨rfl,r2⟩:=optInt_out (v:=vl) hl e2
 exact ⟨l,m,h3,h4,h5,r2,r1,e⟩
theorem run_bounds {len cap:Nat} {vl vh:Option Value} {l m n:Int} (h0:0≤l) (h1:l≤m) (h2:m≤n) (hn:n=len) (hc:len≤cap) (hl:(vl=none∧l=0)∨∃k,vl=some (.int k l)) (hh:(vh=none∧m=n)∨∃k,vh=some (.int k m)) (b:Bool):
  (Instr.sliceBounds b len cap vl vh none).run P w=.ok (l.toNat,m.toNat,cap) w:=by
 have hm:0≤m∧m≤(cap:Int):=by omega
 have hl':0≤l∧l≤(m.toNat:Int):=by omega
 rcases hl with ⟨rfl,rfl⟩|⟨k,rfl⟩<;>rcases hh with ⟨rfl,rfl⟩|⟨k',rfl⟩
 ·subst hn;simp [Instr.sliceBounds]
 ·simp [Instr.sliceBounds,Instr.sliceBound,asIntOf,hm]
 ·subst hn
  have hl2:0≤l∧l≤(len:Int):=by omega
  simp [Instr.sliceBounds,Instr.sliceBound,asIntOf,hl2]
 ·simp [Instr.sliceBounds,Instr.sliceBound,asIntOf,hm,hl']
  intro hmx;exfalso;omega
theorem of_sl {id:Nat} {s:Slot} {v:Value} (h1:g id=some s) (h2:SlV s v):VRel g A w (.sl id) v:=by
 unfold VRel;simp only [aggP];unfold PV.rel;exact ⟨s,v,h1,rfl,h2⟩
theorem of_sv {id:Nat} {p:List Stp} {off len sz n:Nat} {s:Slot} {v:Value} (h1:g id=some s) (h2:SvV s p off len sz n v):VRel g A w (.sv id p off len sz n) v:=by
 unfold VRel;simp only [aggP];unfold PV.rel;exact ⟨s,v,h1,rfl,h2⟩
theorem to_sl {id:Nat} {v:Value} (h:VRel g A w (.sl id) v):∃s,g id=some s∧SlV s v:=by
 have:=single_of rfl h;unfold PV.rel at this
 obtain ⟨s,v0,h1,h2,h3⟩:=this
 injection h2 with h2;subst h2;exact ⟨s,h1,h3⟩
theorem to_sv {id:Nat} {p:List Stp} {off len sz n:Nat} {v:Value} (h:VRel g A w (.sv id p off len sz n) v):∃s,g id=some s∧SvV s p off len sz n v:=by
 have:=single_of rfl h;unfold PV.rel at this
 obtain ⟨s,v0,h1,h2,h3⟩:=this
 injection h2 with h2;subst h2;exact ⟨s,h1,h3⟩
theorem run_sliceAt {u:Ty} (hty:tyB P (.slice u) t=true) {a:Option Addr} {len cap:Nat} {vl vh:Option Value} {l m:Int} (hb:(Instr.sliceBounds true len cap vl vh none).run P w=.ok (l.toNat,m.toNat,cap) w):
  (Instr.sliceAt t (.slice a len cap) vl vh none).run P w=.ok (.slice (if cap=l.toNat then a else a.map (·.add (l.toNat*u.size))) (m.toNat - l.toNat) (cap - l.toNat)) w:=by
 obtain ⟨e0,hu,he⟩:=slice_und hty
 simp only [Instr.sliceAt,Sem.run_bind,run_underlying hu,Result.andThen_ok,Instr.slice,hb,run_sizeT w he,Sem.run_pure]
theorem slice_ok (hT:tabB P E.tl=true) (H:HR g A W w h) {x y:PV} {v:Value} {lo hi:Option PV} {vl vh:Option Value} {h':Hp} (hx:VRel g A w x v) (hl:OptR g A w lo vl) (hh:OptR g A w hi vh) (e:(sliceQ E t x lo hi).Ok h y h'):
  h'=h∧∃z,(Instr.sliceAt t v vl vh none).run P w=.ok z w∧VRel g A w y z:=by
 simp only [sliceQ,Ok_bind] at e
 obtain ⟨τ,h1,e1,e⟩:=e
 obtain ⟨hE,rfl⟩:=data_out e1
 have hty:tyB P τ t=true:=tabB_look hT hE
 cases τ with
 |slice u=>
  simp only [Ok_cond,Ok_fail,and_false,or_false] at e
  obtain ⟨hs1,e⟩:=e
  have hs1:=Nat.le_of_ble_eq_true hs1
  cases x with
  |v v' xs=>
   simp only [Ok_bind,Ok_get] at e
   obtain ⟨xs',h2,⟨ec,rfl⟩,e⟩:=e
   obtain ⟨rfl,_⟩:=cast_some ec
   obtain rfl:=cast_self ec
   obtain ⟨l,m,q1,q2,q3,q4,q5,e⟩:=cutQ_out hl hh e
   rw [Ok_ret] at e
   obtain ⟨rfl,rfl⟩:=e
   have hr:=single_of rfl hx
   unfold PV.rel at hr
   obtain ⟨a,cap,e0,hcap,hc⟩:=hr
   injection e0 with e0
   subst e0
   refine ⟨rfl,_,run_sliceAt hty (run_bounds q1 q2 q3 rfl hcap q4 q5 true),?_⟩
   unfold VRel;simp only [aggP,Ty.agg];unfold PV.rel
   have hll:((List.drop (α:=u.den) l.toNat xs).take (m.toNat - l.toNat)).length=m.toNat - l.toNat:=by rw [List.length_take,List.length_drop];omega
   refine ⟨_,cap - l.toNat,by rw [hll],by rw [hll];omega,fun h0=>?_⟩
   rw [hll] at h0
   obtain ⟨ad,rfl,r1,r2,c,r3,r4⟩:=hc (by omega)
   have hne:¬cap=l.toNat:=by omega
   refine ⟨ad.add (l.toNat*u.size),by rw [if_neg hne];rfl,add_spot ad _ r1,by rw [add_block];exact r2,_,At_take r3 (l.toNat*u.size) ((m.toNat - l.toNat)*u.size),arr_take r4 l.toNat _ (by omega)⟩
  |sl id=>
   simp only [Q.Ok] at e
   obtain ⟨B,hb,e⟩:=e
   cases B with
   |box x=>simp [Q.Ok] at e
   |row v' xs fz=>
    simp only [Ok_cond,Ok_fail,and_false,or_false,decide_eq_true_eq] at e
    obtain ⟨rfl,e⟩:=e
    obtain ⟨l,m,q1,q2,q3,q4,q5,e⟩:=cutQ_out hl hh e
    rw [Ok_ret] at e
    obtain ⟨rfl,rfl⟩:=e
    obtain ⟨s,hg,hv⟩:=to_sl hx
    obtain ⟨s',hg',⟨hlen,hrow⟩,_⟩:=H.blk id _ hb
    rw [hg] at hg';injection hg' with hg';subst hg'
    unfold SlV at hv
    cases hs:s.blk with
    |none=>
     rw [hs] at hv hrow
     obtain ⟨rfl,hz1,hz2⟩:=hv
     refine ⟨rfl,_,run_sliceAt hty (run_bounds q1 q2 q3 (by omega) (Nat.le_refl _) q4 q5 true),of_sv hg ⟨trivial,by rw [if_pos rfl];omega,fun _=>rfl,fun _=>⟨hz1,hz2,rfl⟩,none,0 - l.toNat,by simp,by omega,fun _=>by omega,fun _=>by rw [hs];rfl⟩⟩
    |some b=>
     rw [hs] at hv hrow
     subst hv
     refine ⟨rfl,_,run_sliceAt hty (run_bounds q1 q2 q3 (by omega) (show s.len≤s.cap from hrow.1) q4 q5 true),of_sv hg ⟨trivial,by rw [if_pos rfl];omega,fun _=>rfl,(fun h0=>by rw [hs] at h0;cases h0),_,s.cap - l.toNat,rfl,by have:=hrow.1;omega,fun h0=>by omega,fun h0=>?_⟩⟩
     rw [hs]
     simp only [Option.map_some,poff,Nat.zero_add]
     split
     ·rename_i hc0
      have:=hrow.1
      have:l.toNat=0:=by omega
      rw [this];simp
     ·rw [add_at];simp
  |sv id p off len sz n=>
   simp only [Ok_cond,Ok_fail,and_false,or_false] at e
   obtain ⟨hsz,e⟩:=e
   have hsz:=Nat.eq_of_beq_eq_true hsz
   subst hsz
   obtain ⟨l,m,q1,q2,q3,q4,q5,e⟩:=cutQ_out hl hh e
   rw [Ok_ret] at e
   obtain ⟨rfl,rfl⟩:=e
   obtain ⟨s,hg,hpk,hle,hnp,hnb,a,cap,rfl,hcap,hz,ha⟩:=to_sv hx
   refine ⟨rfl,_,run_sliceAt hty (run_bounds q1 q2 q3 rfl hcap q4 q5 true),of_sv hg ⟨hpk,by split at hle<;>rename_i h0<;>(first|rw [if_pos h0]|rw [if_neg h0])<;>omega,hnp,hnb,_,cap - l.toNat,rfl,by omega,fun h0=>by
    have:=hz ⟨h0.1,by omega⟩
    omega,fun h0=>?_⟩⟩
   split
   ·rename_i hc0
    have hl0:l.toNat=0:=by omega
    rw [hl0,Nat.add_zero]
    exact ha (.inr (by omega))
   ·rename_i hc0
    have:0<len∨off=0:=by omega
    rw [ha this]
    cases s.blk with
    |none=>rfl
    |some b=>simp only [Option.map_some,add_at,Nat.add_mul,Nat.add_assoc]
  |_=>simp [Q.Ok] at e
 |arr n u=>
  cases x with
  |ptr id p=>
   simp only [Ok_cond,Ok_fail,and_false,or_false,Bool.and_eq_true] at e
   obtain ⟨⟨hs1,hn1⟩,e⟩:=e
   have hs1:=Nat.le_of_ble_eq_true hs1
   have hn1:=Nat.le_of_ble_eq_true hn1
   obtain ⟨l,m,q1,q2,q3,q4,q5,e⟩:=cutQ_out hl hh e
   rw [Ok_ret] at e
   obtain ⟨rfl,rfl⟩:=e
   obtain ⟨s,b,r1,r2,rfl,r4⟩:=rel_ptr hx
   obtain ⟨e0,hu,he⟩:=arr_und hty
   have hb:=run_bounds (P:=P) (w:=w) q1 q2 q3 rfl (Nat.le_refl n) q4 q5 false
   refine ⟨rfl,.slice (some (if n=l.toNat then ⟨b,poff p,none⟩ else Addr.add ⟨b,poff p,none⟩ (l.toNat*u.size))) (m.toNat - l.toNat) (n - l.toNat),?_,of_sv r1 ⟨r4,by rw [if_neg (by omega)];omega,fun h0=>by omega,(fun h0=>by rw [r2] at h0;cases h0),_,n - l.toNat,rfl,by omega,fun h0=>by omega,fun h0=>?_⟩⟩
   ·simp only [Instr.sliceAt,Sem.run_bind,run_underlying hu,Result.andThen_ok,Instr.sureAddr,Sem.run_pure,hb,run_sizeT w he]
   ·rw [r2,if_neg (by omega),add_at];rfl
  |_=>simp [Q.Ok] at e
 |_=>simp [Q.Ok] at e
theorem len_ok (hT:tabB P E.tl=true) (H:HR g A W w h) {x y:PV} {v:Value} {h':Hp} (hx:VRel g A w x v) (e:(lenQ E t x).Ok h y h') (ty:TypeId):h'=h∧∃z,(Builtin.len_ #[t] ty #[v]).run P w=.ok z w∧VRel g A w y z:=by
 simp only [lenQ,Ok_bind] at e
 obtain ⟨τ,h1,e1,e⟩:=e
 obtain ⟨hE,rfl⟩:=data_out e1
 have hty:tyB P τ t=true:=tabB_look hT hE
 cases τ with
 |slice u=>
  obtain ⟨e0,hu,he⟩:=slice_und hty
  have run:∀(a:Option Addr) (len cap:Nat),(Builtin.len_ #[t] ty #[.slice a len cap]).run P w=.ok (.int .i64 len) w:=fun a len cap=>by
   simp [Builtin.len_,run_underlying hu,goInt]
  cases x with
  |sl id=>
   simp only [Q.Ok] at e
   obtain ⟨B,hb,e⟩:=e
   cases B with
   |box x=>simp [Q.Ok] at e
   |row v' xs fz=>
    simp only [Ok_ret] at e
    obtain ⟨rfl,rfl⟩:=e
    obtain ⟨s,hg,hv⟩:=to_sl hx
    obtain ⟨s',hg',⟨hlen,hrow⟩,_⟩:=H.blk id _ hb
    rw [hg] at hg';injection hg' with hg';subst hg'
    unfold SlV at hv
    split at hv
    ·subst hv;rw [←hlen];exact ⟨rfl,_,run _ _ _,of_int _ _⟩
    ·rw [hv.1,←hlen,hv.2.1];exact ⟨rfl,_,run _ _ _,of_int _ _⟩
  |sv id p off len sz n=>
   simp only [Ok_ret] at e
   obtain ⟨rfl,rfl⟩:=e
   obtain ⟨s,hg,hpk,hle,hnp,hnb,a,cap,rfl,hcap,hz,ha⟩:=to_sv hx
   exact ⟨rfl,_,run _ _ _,of_int _ _⟩
  |v v' xs=>
   simp only [Ok_bind,Ok_get,Ok_ret] at e
   obtain ⟨xs',h2,⟨ec,rfl⟩,rfl,rfl⟩:=e
   obtain ⟨rfl,_⟩:=cast_some ec
   obtain rfl:=cast_self ec
   have hr:=single_of rfl hx
   unfold PV.rel at hr
   obtain ⟨a,cap,e0,hcap,hc⟩:=hr
   injection e0 with e0
   subst e0
   exact ⟨rfl,_,run _ _ _,of_int _ _⟩
  |nils=>
   simp only [Ok_ret] at e
   obtain ⟨rfl,rfl⟩:=e
   have hr:=single_of rfl hx
   unfold PV.rel at hr
   injection hr with hr
   subst hr
   exact ⟨rfl,_,run _ _ _,of_int _ _⟩
  |_=>simp [Q.Ok] at e
 |arr n u=>
  simp only [Ok_ret] at e
  obtain ⟨rfl,rfl⟩:=e
  obtain ⟨e0,hu,he⟩:=arr_und hty
  exact ⟨rfl,_,by simp [Builtin.len_,run_underlying hu,goInt],of_int _ _⟩
 |_=>simp [Q.Ok] at e
end
end Go.Proofs.YtkihjakbbcajbaaGreat.PM
namespace Go.Proofs.YtkihjakbbcajbaaGreat.PM
set_option linter.unusedSimpArgs false
set_option linter.unusedVariables false
open Go
section
variable {P:Program} {E:Env} {t:TypeId} {g:Gh} {A W:Nat→Prop} {w w':World} {h:Hp}
theorem run_first {u:Ty} {v:Value} {ys:List u.den} (hs:Shown A w u v ys) (w':World) (hw:w'.heap=w.heap):∃c:List Value,Cat (TRel A w u) c ys∧c.length=ys.length*u.size∧(Builtin.firstCells u.size ys.length v).run P w'=.ok c.toArray w'∧∃a cap,v=.slice a ys.length cap:=by
 obtain ⟨a,cap,rfl,hcap,hc⟩:=hs
 by_cases h0:0<ys.length
 ·obtain ⟨ad,rfl,r1,c,r2,r3⟩:=hc h0
  have hl:=Cat.len (TRel.len u) r3
  have r2':At w' ad c:=r2.mono (by rw [hw])
  have hr:=run_loadCells_list (P:=P) w' ad c r2'
  refine ⟨c,r3,hl,?_,_,_,rfl⟩
  rw [hl] at hr
  simp only [Builtin.firstCells]
  exact hr
 ·have:ys=[]:=by
   cases ys with
   |nil=>rfl
   |cons y ys=>simp at h0
  subst this
  refine ⟨[],rfl,by simp,?_,_,_,rfl⟩
  cases a with
  |none=>simp [Builtin.firstCells]
  |some a=>
   have hr:=run_loadCells_list (P:=P) w' a [] (fun j v hj=>by simp at hj)
   simp only [Builtin.firstCells,List.length_nil,Nat.zero_mul]
   exact hr
theorem run_append_in {u:Ty} (hty:tyB P (.slice u) t=true) (ty:TypeId) {base:Option Addr} {sLen sCap m:Nat} {vx:Value} {c:List Value} (hv:∃a cap,vx=.slice a m cap) (hf:(Builtin.firstCells u.size m vx).run P w=.ok c.toArray w) (hr:sLen+m≤sCap):
  (Builtin.append_ #[t,t] ty #[.slice base sLen sCap,vx]).run P w=((match base with|some a=>storeCells (a.add (sLen*u.size)) c|none=>pure ()).run P w).andThen fun _ w'=> .ok (.slice base (sLen+m) sCap) w':=by
 obtain ⟨a,cap,rfl⟩:=hv
 obtain ⟨e0,hu,he⟩:=slice_und hty
 cases base with
 |none=>simp [Builtin.append_,run_underlying hu,run_sizeT w he,Builtin.lenOf,hr,hf]
 |some b=>simp [Builtin.append_,run_underlying hu,run_sizeT w he,Builtin.lenOf,hr,hf]
theorem run_append_out {u:Ty} (hty:tyB P (.slice u) t=true) (ty:TypeId) {base:Option Addr} {sLen sCap m:Nat} {vx:Value} {c d:List Value} (hv:∃a cap,vx=.slice a m cap) (hf:(Builtin.firstCells u.size m vx).run P w.drew=.ok c.toArray w.drew)
  (hd:(Builtin.firstCells u.size sLen (.slice base sLen sCap)).run P w.drew=.ok d.toArray w.drew) (hr:sCap<sLen+m) (hlim:(sLen+m)*u.bytes≤140737488355328) (hs1:1≤u.size):
  ∃(e0:TypeId) (cap:Nat) (z:Array Value),sLen+m≤cap∧z.size=u.size∧(Builtin.append_ #[t,t] ty #[.slice base sLen sCap,vx]).run P w=.ok (.slice (some ⟨w.heap.size,0,none⟩) (sLen+m) cap) (w.drew.alloc (.cells (d.toArray++c.toArray++Builtin.zeroCells z (cap - (sLen+m))) e0)):=by
 obtain ⟨a,capx,rfl⟩:=hv
 obtain ⟨e0,hu,he⟩:=slice_und hty
 obtain ⟨i,z,hi1,hi2,hi3,hi4,hz,hrun⟩:=run_zero he
 have hzs:z.cells.size=u.size:=by
  have:=TRel.len u _ _ (zcells_rel (fun _=>True) w u)
  rw [←hz,Array.length_toList] at this;exact this
 have hb:=size_bytes u
 have hn:¬(sLen+m≤sCap):=by omega
 have h1:(sLen+m)*1≤(sLen+m)*u.bytes:=Nat.mul_le_mul_left _ (by omega)
 have h63':¬(9223372036854775807<((sLen:Int)+(m:Int))):=by omega
 have h48:=growslice_fits (need:=sLen+m) (old:=sCap) (bytes:=i.bytes) hr (Nat.le_trans (Nat.mul_le_mul_left _ hi4) hlim)
 have h48':¬(281474976710656<Builtin.nextslicecap (sLen+m) sCap*i.bytes):=by omega
 rw [←hi3] at hf hd
 refine ⟨e0,grownCap w (sLen+m) sCap e0,z.cells,grownCap_ge _ _ _ _,hzs,?_⟩
 simp [Builtin.append_,run_underlying hu,sizeOf,typeInfo,zeroValue,hi1,hi2,Builtin.lenOf,hn,h63',h48',Question.forced,hf,hd,newRow,grownCap]
 congr 2
 apply Array.ext'
 simp [List.append_assoc]
structure AppSrc (P:Program) (t t' ty:TypeId) (u:Ty) (A:Nat→Prop) (w:World) (vx:Value) (ys:List u.den):Prop where
 inn:∃c:List Value,Cat (TRel A w u) c ys∧c.length=ys.length*u.size∧∀(base:Option Addr) (sLen sCap:Nat),sLen+ys.length≤sCap→
  (Builtin.append_ #[t,t'] ty #[.slice base sLen sCap,vx]).run P w=((match base with|some a=>storeCells (a.add (sLen*u.size)) c|none=>pure ()).run P w).andThen fun _ w'=> .ok (.slice base (sLen+ys.length) sCap) w'
 out:∃c:List Value,Cat (TRel A w u) c ys∧∀(base:Option Addr) (sLen sCap:Nat) (d:List Value),(Builtin.firstCells u.size sLen (.slice base sLen sCap)).run P w.drew=.ok d.toArray w.drew→sCap<sLen+ys.length→(sLen+ys.length)*u.bytes≤140737488355328→1≤u.size→
  ∃(e0:TypeId) (cap:Nat) (z:Array Value),sLen+ys.length≤cap∧z.size=u.size∧(Builtin.append_ #[t,t'] ty #[.slice base sLen sCap,vx]).run P w=.ok (.slice (some ⟨w.heap.size,0,none⟩) (sLen+ys.length) cap) (w.drew.alloc (.cells (d.toArray++c.toArray++Builtin.zeroCells z (cap - (sLen+ys.length))) e0))
theorem AppSrc.of_shown {u:Ty} (hty:tyB P (.slice u) t=true) (ty:TypeId) {vx:Value} {ys:List u.den} (hx:Shown A w u vx ys):AppSrc P t t ty u A w vx ys:=by
 obtain ⟨c,c1,c2,c3,hvx⟩:=run_first (P:=P) hx w rfl
 obtain ⟨c',c1',c2',c3',_⟩:=run_first (P:=P) hx w.drew rfl
 exact ⟨⟨c,c1,c2,fun base sLen sCap hr=>run_append_in hty ty hvx c3 hr⟩,⟨c',c1',fun base sLen sCap d hd hr hlim hs1=>run_append_out hty ty hvx c3' hd hr hlim hs1⟩⟩
theorem zeroCells_list (z:Array Value):∀n:Nat,(Builtin.zeroCells z n).toList=(List.replicate n z.toList).flatten
 |n=>madeCells_eq z z.size rfl n
theorem AppSrc.of_zero {u:Ty} (hty:tyB P (.slice u) t=true) {t':TypeId} {k:IntKind} (ht':P.underlying t'=some (.int k)) (ty:TypeId) {n:Nat} (hlim:n*u.bytes≤140737488355328) (hs1:1≤u.size):AppSrc P t t' ty u A w (.int .i64 (n:Int)) (List.replicate n u.zero):=by
 obtain ⟨e0,hu,he⟩:=slice_und hty
 obtain ⟨i,z,hi1,hi2,hi3,hi4,hz,hrun⟩:=run_zero he
 have hzs:z.cells.size=u.size:=by
  have:=TRel.len u _ _ (zcells_rel (fun _=>True) w u)
  rw [←hz,Array.length_toList] at this;exact this
 have hb:=size_bytes u
 have h1:n*1≤n*u.bytes:=Nat.mul_le_mul_left _ (by omega)
 have hn63:(n:Int)≤9223372036854775807:=by omega
 have hw:IntKind.i64.wrap (n:Int)=n:=by rw [IntKind.wrap_i64];omega
 have hneg:¬((n:Int)<0):=by omega
 have hib:n*i.bytes≤140737488355328:=Nat.le_trans (Nat.mul_le_mul_left _ hi4) hlim
 have h48i:¬(281474976710656<(n:Int)*(i.bytes:Int)):=by
  rw [←Int.natCast_mul];omega
 have hc:Cat (TRel A w u) (List.replicate n z.cells.toList).flatten (List.replicate n u.zero):=by
  rw [hz];exact Cat.replicate (zcells_rel A w u) n
 have hcl:(List.replicate n z.cells.toList).flatten.length=n*u.size:=by
  have:=Cat.len (TRel.len u) hc
  simpa using this
 have hzl:Builtin.zeroCells z.cells n=(List.replicate n z.cells.toList).flatten.toArray:=by
  apply Array.toList_inj.1
  rw [zeroCells_list]
 have hnil:n*i.size=0→(List.replicate n z.cells.toList).flatten=[]:=fun h0=>List.eq_nil_of_length_eq_zero (by rw [hcl,←hi3,h0])
 refine ⟨⟨_,hc,by rw [hcl];simp,fun base sLen sCap hr=>?_⟩,⟨_,hc,fun base sLen sCap d hd hr hlim2 _=>?_⟩⟩
 ·simp only [List.length_replicate] at hr ⊢
  by_cases h0:n*i.size=0
  ·rw [hnil h0]
   cases base with
   |none=>simp [Builtin.append_,run_underlying hu,run_underlying ht',sizeOf,typeInfo,hi1,asInt,asIntOf,hw,hneg,h48i,hr,h0]
   |some b=>
    have h0':n*u.size=0:=by rw [←hi3];exact h0
    simp [Builtin.append_,run_underlying hu,run_underlying ht',sizeOf,typeInfo,hi1,asInt,asIntOf,hw,hneg,h48i,hr,h0',hi3]
  ·cases base with
   |none=>simp [Builtin.append_,run_underlying hu,run_underlying ht',sizeOf,typeInfo,hi1,asInt,asIntOf,hw,hneg,h48i,hr,h0,hrun,hzl]
   |some b=>
    have h0':¬(n*u.size=0):=by rw [←hi3];exact h0
    simp [Builtin.append_,run_underlying hu,run_underlying ht',sizeOf,typeInfo,hi1,asInt,asIntOf,hw,hneg,h48i,hr,h0',hrun,hzl,hi3]
 ·simp only [List.length_replicate] at hr hlim2 ⊢
  have hnn:¬(sLen+n≤sCap):=by omega
  have h2:(sLen+n)*1≤(sLen+n)*u.bytes:=Nat.mul_le_mul_left _ (by omega)
  have h63':¬(9223372036854775807<((sLen:Int)+(n:Int))):=by omega
  have h48:=growslice_fits (need:=sLen+n) (old:=sCap) (bytes:=i.bytes) hr (Nat.le_trans (Nat.mul_le_mul_left _ hi4) hlim2)
  have h48':¬(281474976710656<Builtin.nextslicecap (sLen+n) sCap*i.bytes):=by omega
  rw [←hi3] at hd
  refine ⟨e0,grownCap w (sLen+n) sCap e0,z.cells,grownCap_ge _ _ _ _,hzs,?_⟩
  by_cases h0:n*i.size=0
  ·rw [hnil h0]
   simp [Builtin.append_,run_underlying hu,run_underlying ht',sizeOf,typeInfo,zeroValue,hi1,hi2,asInt,asIntOf,hw,hneg,h48i,hnn,h63',h48',Question.forced,hd,newRow,grownCap,h0]
  ·have hzl':(Builtin.zeroCells z.cells n)=(List.replicate n z.cells.toList).flatten.toArray:=hzl
   rw [←hzl']
   simp [Builtin.append_,run_underlying hu,run_underlying ht',sizeOf,typeInfo,zeroValue,hi1,hi2,asInt,asIntOf,hw,hneg,h48i,hnn,h63',h48',Question.forced,hd,newRow,grownCap,h0]
theorem cat_zero {u:Ty} {d c:List Value} {xs ys:List u.den} {z:Array Value} {n:Nat} (h1:Cat (TRel A w u) d xs) (h2:Cat (TRel A w u) c ys):
  Cat (TRel A w u) ((d.toArray++c.toArray++Builtin.zeroCells z n).toList.take ((xs.length+ys.length)*u.size)) (xs++ys):=by
 have h3:=h1.append h2
 have hl:=Cat.len (TRel.len u) h3
 have:(d.toArray++c.toArray++Builtin.zeroCells z n).toList=(d++c)++(Builtin.zeroCells z n).toList:=by simp
 rw [this,←List.length_append,←hl,List.take_left]
 exact h3
theorem append_core {u:Ty} {t' ty:TypeId} (hs1:1≤u.size) (H:HR g A W w h) (hW:∀r,w.heap.size≤r→W r) {id nw len:Nat} {xs ys:List u.den} {s:Slot} {vx:Value} (hb:h.at id=some (.row u xs false)) (hg:g id=some s) (hlen:len≤xs.length)
  (hx:AppSrc P t t' ty u A w vx ys) (hlim:(len+ys.length)*u.bytes≤140737488355328) (hn:look nw h=none):
  ∃s' w' v,(Builtin.append_ #[t,t'] ty #[.slice (s.blk.map fun b=>⟨b,0,none⟩) len s.cap,vx]).run P w=.ok v w'∧Step g A W w (upd g nw s') A w' ((nw,some (.row u (xs.take len++ys) false))::(id,none)::h)∧SlV s' v∧
   RowAt A w' ⟨s.blk,s.cap,len⟩ u (xs.take len)∧(∀r,s.blk=some r→r<w'.heap.size):=by
 obtain ⟨c,c1,c2,c3⟩:=hx.inn
 obtain ⟨c',c1',c3'⟩:=hx.out
 have hB0:=H.blk id _ hb
 obtain ⟨s0,hg0,⟨hl0,hrow⟩,_⟩:=hB0
 rw [hg] at hg0;injection hg0 with hg0;subst hg0
 have hne:id≠nw:=by rintro rfl;rw [at_look hb] at hn;cases hn
 have hn':look nw ((id,none)::h)=none:=by rw [look_cons,if_neg (fun e=>hne e.symm)];exact hn
 have hll:(xs.take len++ys).length=len+ys.length:=by rw [List.length_append,List.length_take];omega
 have htl:(xs.take len).length=len:=by rw [List.length_take];omega
 by_cases hr:len+ys.length≤s.cap
 ·have hrun:=c3 (s.blk.map fun b=>⟨b,0,none⟩) len s.cap hr
  cases hs:s.blk with
  |none=>
   rw [hs] at hrow hrun
   obtain ⟨h1,h2⟩:=hrow
   have hy0:ys=[]:=List.eq_nil_of_length_eq_zero (by omega)
   have hx0:xs=[]:=List.eq_nil_of_length_eq_zero (by omega)
   subst hy0 hx0
   simp only [List.length_nil] at hlen
   obtain rfl:len=0:=by omega
   refine ⟨⟨none,0,0⟩,w,.slice none 0 0,by rw [hrun];simp [h2],⟨le_upd (H.gnone hn),fun _ h=>h,fun _ h=> .inl h,(H.del id).add hn' ⟨none,0,0⟩ ⟨_,upd_self _ _ _,⟨rfl,rfl,rfl⟩,fun h=>by cases h⟩ (fun _ r hr=>by cases hr),fun _ _=>rfl,.refl W w⟩,⟨rfl,rfl,rfl⟩,⟨rfl,by simp [h2]⟩,fun r hr=>by cases hr⟩
  |some b=>
   rw [hs] at hrow hrun
   obtain ⟨h1,cells,e,h3,h4,h5⟩:=hrow
   have hcap:(len+ys.length)*u.size≤cells.size:=Nat.le_trans (Nat.mul_le_mul_right _ hr) h4
   rw [Nat.add_mul] at hcap
   have hst:=run_storeCells_at (P:=P) b (len*u.size) e c 0 cells w h3 (by rw [c2];omega) (c1.all (TRel.one u))
   simp only [Nat.add_zero] at hst
   have hw1:∀r,r≠b→(w.setRow b (cells.toList.take (len*u.size)++c++cells.toList.drop (len*u.size+c.length)).toArray).heap[r]?=w.heap[r]?:=fun r hr=>setRow_other w b r _ hr
   obtain ⟨H1,hf⟩:=H.delMove hb rfl hg hs hw1 (by simp)
   have ho:=H.own id _ s b hb rfl hg hs
   have hA:∀r,A r→(w.setRow b (cells.toList.take (len*u.size)++c++cells.toList.drop (len*u.size+c.length)).toArray).heap[r]?=w.heap[r]?:=fun r hr=>hw1 r (fun e=>ho.1 (e▸hr))
   have hh:=setRow_heap w b cells (cells.toList.take (len*u.size)++c++cells.toList.drop (len*u.size+c.length)).toArray e (0,0) h3
   have htake:(cells.toList.take (s.len*u.size)).take (len*u.size)=cells.toList.take (len*u.size):=by
    rw [List.take_take,Nat.min_eq_left (Nat.mul_le_mul_right _ (by omega))]
   have hold:Cat (TRel A w u) (cells.toList.take (len*u.size)) (xs.take len):=by
    rw [←htake];exact h5.take (TRel.len u) len hlen
   have hcl:cells.toList.length=cells.size:=by simp
   have hol:(cells.toList.take (len*u.size)).length=len*u.size:=by rw [List.length_take];omega
   have hnew:Cat (TRel A w u) (((cells.toList.take (len*u.size)++c++cells.toList.drop (len*u.size+c.length)).toArray.toList).take ((len+ys.length)*u.size)) (xs.take len++ys):=by
    have:=hold.append c1
    have e1:(len+ys.length)*u.size=(cells.toList.take (len*u.size)++c).length:=by rw [List.length_append,hol,c2,Nat.add_mul]
    simp only []
    rw [e1,List.take_left];exact this
   have hsz:s.cap*u.size≤(cells.toList.take (len*u.size)++c++cells.toList.drop (len*u.size+c.length)).toArray.size:=by
    simp only [List.size_toArray,List.length_append,List.length_drop,hol,hcl,c2];omega
   refine ⟨⟨some b,s.cap,len+ys.length⟩,_,.slice (some ⟨b,0,none⟩) (len+ys.length) s.cap,?_,⟨le_upd (H.gnone hn),fun _ h=>h,fun _ h=> .inl h,H1.add hn' _ ⟨_,upd_self _ _ _,⟨hll.symm,hr,_,e,hh,hsz,hnew.mono (TRel.mono (fun _ h=>h) hA u)⟩,fun h=>by cases h⟩ (fun _ r hr=>by injection hr with hr;subst hr;exact ⟨ho.1,ho.2,hf⟩),hA,setRow_keep ho.2⟩,rfl,⟨htl.symm,?_⟩,fun r hr=>by
    injection hr with hr;subst hr;exact heap_lt hh⟩
   ·rw [hrun]
    simp only [Option.map_some,add_at,Nat.zero_add,hst,Result.andThen_ok]
   ·refine ⟨show len≤s.cap by omega,_,e,hh,hsz,?_⟩
    have e1:len*u.size=(cells.toList.take (len*u.size)).length:=hol.symm
    have:((cells.toList.take (len*u.size)++c++cells.toList.drop (len*u.size+c.length)).toArray.toList).take (len*u.size)=cells.toList.take (len*u.size):=by
     simp only []
     rw [List.append_assoc]
     exact List.take_left' hol
    rw [this]
    exact hold.mono (TRel.mono (fun _ h=>h) hA u)
 ·have hdn:∃d:List Value,Cat (TRel A w u) d (xs.take len)∧(Builtin.firstCells u.size len (.slice (s.blk.map fun b=>⟨b,0,none⟩) len s.cap)).run P w.drew=.ok d.toArray w.drew:=by
   cases hs:s.blk with
   |none=>
    rw [hs] at hrow
    have hx0:xs=[]:=List.eq_nil_of_length_eq_zero (by omega)
    subst hx0
    simp only [List.length_nil] at hlen
    obtain rfl:len=0:=by omega
    exact ⟨[],rfl,by simp [Builtin.firstCells]⟩
   |some b=>
    rw [hs] at hrow
    obtain ⟨h1,cells,e,h3,h4,h5⟩:=hrow
    have htake:(cells.toList.take (s.len*u.size)).take (len*u.size)=cells.toList.take (len*u.size):=by
     rw [List.take_take,Nat.min_eq_left (Nat.mul_le_mul_right _ (by omega))]
    have hold:Cat (TRel A w u) (cells.toList.take (len*u.size)) (xs.take len):=by
     rw [←htake];exact h5.take (TRel.len u) len hlen
    have hl:=Cat.len (TRel.len u) hold
    rw [htl] at hl
    have hat:At w.drew ⟨b,0,none⟩ (cells.toList.take (len*u.size)):=At_block (w:=w.drew) h3 (fun j v hj=>by
     rw [List.getElem?_take] at hj
     split at hj
     ·simpa using hj
     ·cases hj)
    have hrd:=run_loadCells_list (P:=P) w.drew _ _ hat
    rw [hl] at hrd
    exact ⟨_,hold,by simp only [Builtin.firstCells,Option.map_some];exact hrd⟩
  obtain ⟨d,d1,d2⟩:=hdn
  obtain ⟨e0,cap,z,hcap,hz,hrun⟩:=c3' (s.blk.map fun b=>⟨b,0,none⟩) len s.cap d d2 (by omega) hlim hs1
  have c1w:Cat (TRel A w u) c' ys:=c1'
  have G:Grew w (w.drew.alloc (.cells (d.toArray++c'.toArray++Builtin.zeroCells z (cap - (len+ys.length))) e0)):=(Grew.drew w).trans (Grew.alloc w.drew _)
  have hA:∀r,A r→(w.drew.alloc (.cells (d.toArray++c'.toArray++Builtin.zeroCells z (cap - (len+ys.length))) e0)).heap[r]?=w.heap[r]?:=fun r hr=>G.block r (H.lt r hr)
  have hcz:=cat_zero (z:=z) (n:=cap - (len+ys.length)) d1 c1w
  rw [htl] at hcz
  have hl:=Cat.len (TRel.len u) (d1.append c1w)
  rw [List.length_append,hll] at hl
  have hB:BRel (upd g nw ⟨some w.heap.size,cap,len+ys.length⟩) A (w.drew.alloc (.cells (d.toArray++c'.toArray++Builtin.zeroCells z (cap - (len+ys.length))) e0)) nw (.row u (xs.take len++ys) false):=
   ⟨_,upd_self _ _ _,⟨hll.symm,hcap,_,e0,alloc_new w.drew _,by
    simp only [Array.size_append,List.size_toArray,size_zeroCells,hz,hl,←Nat.add_mul]
    exact Nat.mul_le_mul_right _ (by omega),hcz.mono (TRel.mono (fun _ h=>h) hA u)⟩,fun h=>by cases h⟩
  refine ⟨_,_,.slice (some ⟨w.heap.size,0,none⟩) (len+ys.length) cap,hrun,⟨le_upd (H.gnone hn),fun _ h=>h,fun _ h=> .inl h,(Step.new (H.del id) G hn' (hW _ (Nat.le_refl _)) rfl hB).hr,hA,G.keep⟩,rfl,⟨htl.symm,?_⟩,fun r hr=>Nat.lt_of_lt_of_le ((H.blk id _ hb).lt hg hr) G.size⟩
  cases hs:s.blk with
  |none=>rw [hs] at hrow;exact ⟨show len=0 by omega,hrow.2⟩
  |some b=>
   rw [hs] at hrow
   obtain ⟨h1,cells,e,h3,h4,h5⟩:=hrow
   refine ⟨show len≤s.cap by omega,cells,e,by rw [G.block b (heap_lt h3)];exact h3,h4,?_⟩
   have htake:(cells.toList.take (s.len*u.size)).take (len*u.size)=cells.toList.take (len*u.size):=by
    rw [List.take_take,Nat.min_eq_left (Nat.mul_le_mul_right _ (by omega))]
   show Cat (TRel A _ u) (cells.toList.take (len*u.size)) (xs.take len)
   rw [←htake]
   exact (h5.take (TRel.len u) len hlen).mono (TRel.mono (fun _ h=>h) hA u)
theorem splice_len {α:Type} (xs:List α) (o:Nat) (ys:List α) (h:o+ys.length≤xs.length):(splice xs o ys).length=xs.length:=by
 unfold splice;simp only [List.length_append,List.length_take,List.length_drop];omega
theorem Cat.splice {α:Type} {R:List Value→α→Prop} {s:Nat} (hR:∀c x,R c x→c.length=s) {cs ds:List Value} {xs ys:List α} (h1:Cat R cs xs) (h2:Cat R ds ys) (o:Nat) (h:o+ys.length≤xs.length):
  Cat R (cs.take (o*s)++ds++cs.drop ((o+ys.length)*s)) (PM.splice xs o ys):=
 ((h1.take hR o (by omega)).append h2).append (h1.drop hR (o+ys.length) h)
theorem row_splice {u:Ty} {cells:Array Value} {c:List Value} {xs ys:List u.den} {m o:Nat} (hm:m*u.size≤cells.size) (h1:Cat (TRel A w u) (cells.toList.take (m*u.size)) xs) (h2:Cat (TRel A w u) c ys) (hx:xs.length=m) (h:o+ys.length≤xs.length):
  Cat (TRel A w u) ((cells.toList.take (o*u.size)++c++cells.toList.drop (o*u.size+c.length)).toArray.toList.take (m*u.size)) (splice xs o ys):=by
 have hs:=Cat.splice (TRel.len u) h1 h2 o h
 have hc:=Cat.len (TRel.len u) h2
 have hmo:(o+ys.length)*u.size≤m*u.size:=Nat.mul_le_mul_right _ (by omega)
 rw [Nat.add_mul] at hmo
 have e:cells.toList.take (o*u.size)++c++cells.toList.drop (o*u.size+c.length)=((cells.toList.take (m*u.size)).take (o*u.size)++c++(cells.toList.take (m*u.size)).drop ((o+ys.length)*u.size))++cells.toList.drop (m*u.size):=by
  rw [List.take_take,Nat.min_eq_left (by omega),List.append_assoc _ _ (cells.toList.drop (m*u.size)),Nat.add_mul,hc]
  congr 1
  have:cells.toList.drop (o*u.size+ys.length*u.size)=(cells.toList.take (m*u.size)++cells.toList.drop (m*u.size)).drop (o*u.size+ys.length*u.size):=by rw [List.take_append_drop]
  rw [this,List.drop_append_of_le_length (by
   have hcz:cells.toList.length=cells.size:=by simp
   rw [List.length_take,hcz,Nat.min_eq_left hm];exact hmo)]
 simp only []
 rw [e]
 have hl:((cells.toList.take (m*u.size)).take (o*u.size)++c++(cells.toList.take (m*u.size)).drop ((o+ys.length)*u.size)).length=m*u.size:=by
  rw [Cat.len (TRel.len u) hs,splice_len _ _ _ h,hx]
 rw [List.take_left' hl]
 exact hs
theorem write_row {u:Ty} (H:HR g A W w h) {id b:Nat} {xs ys:List u.den} {s:Slot} {c:List Value} {o:Nat} (hb:h.at id=some (.row u xs false)) (hg:g id=some s) (hs:s.blk=some b) (hc:Cat (TRel A w u) c ys) (ho:o+ys.length≤xs.length):
  ∃w',(storeCells ⟨b,o*u.size,none⟩ c).run P w=.ok () w'∧Step g A W w g A w' ((id,some (.row u (splice xs o ys) false))::h):=by
 obtain ⟨s0,hg0,⟨hl0,hrow⟩,_⟩:=H.blk id _ hb
 rw [hg] at hg0;injection hg0 with hg0;subst hg0
 rw [hs] at hrow
 obtain ⟨h1,cells,e,h3,h4,h5⟩:=hrow
 have hcl:=Cat.len (TRel.len u) hc
 have hle:(o+ys.length)*u.size≤s.len*u.size:=Nat.mul_le_mul_right _ (by omega)
 have hle2:s.len*u.size≤cells.size:=Nat.le_trans (Nat.mul_le_mul_right _ h1) h4
 rw [Nat.add_mul] at hle
 have hst:=run_storeCells_at (P:=P) b (o*u.size) e c 0 cells w h3 (by rw [hcl];omega) (hc.all (TRel.one u))
 simp only [Nat.add_zero] at hst
 have hcz:cells.toList.length=cells.size:=by simp
 have hA:∀r,A r→(w.setRow b (cells.toList.take (o*u.size)++c++cells.toList.drop (o*u.size+c.length)).toArray).heap[r]?=w.heap[r]?:=fun r hr=>setRow_other w b r _ (fun e=>(H.own id _ s b hb rfl hg hs).1 (e▸hr))
 refine ⟨_,hst,Step.set H hb rfl hg hs ⟨s,hg,⟨by rw [splice_len _ _ _ ho];exact hl0,?_⟩,fun h=>by cases h⟩⟩
 rw [hs]
 refine ⟨h1,_,e,setRow_heap w b cells _ e (0,0) h3,?_,(row_splice hle2 h5 hc hl0.symm ho).mono (TRel.mono (fun _ h=>h) hA u)⟩
 simp only [List.size_toArray,List.length_append,List.length_take,List.length_drop,hcz,hcl];omega
theorem appendTo_ok {u:Ty} {t' ty:TypeId} (hs1:1≤u.size) (H:HR g A W w h) (hW:∀r,w.heap.size≤r→W r) {s y:PV} {vs vx:Value} {ys:List u.den} {share:Bool} {nw:Nat} {h':Hp} (hs:VRel g A w s vs) (hx:AppSrc P t t' ty u A w vx ys) (e:(appendTo u s ys share nw).Ok h y h'):
  ∃g' A' w' v,(Builtin.append_ #[t,t'] ty #[vs,vx]).run P w=.ok v w'∧Step g A W w g' A' w' h'∧VRel g' A' w' y v:=by
 cases s with
 |sl id=>
  simp only [appendTo,Q.Ok] at e
  obtain ⟨B,hb,e⟩:=e
  cases B with
  |box x=>simp [Q.Ok] at e
  |row u' xs fz=>
   cases fz with
   |true=>simp [Q.Ok] at e
   |false=>
    simp only [Ok_bind,Ok_get,Ok_ask] at e
    obtain ⟨xs',h1,⟨ec0,rfl⟩,hlim,e⟩:=e
    obtain ⟨ec,_⟩:=cast_some ec0
    injection ec with ec
    subst ec
    obtain rfl:=cast_self ec0
    have hlim:=lim_out hlim
    obtain ⟨s,hg,hv⟩:=to_sl hs
    have hB0:=H.blk id _ hb
    obtain ⟨s',hg',⟨hlen,hrow⟩,_⟩:=hB0
    rw [hg] at hg';injection hg' with hg';subst hg'
    have hvs:vs=.slice (s.blk.map fun b=>⟨b,0,none⟩) xs.length s.cap:=by
     unfold SlV at hv
     cases hs0:s.blk with
     |none=>rw [hs0] at hv;rw [hv.1,←hlen,hv.2.1,hv.2.2];rfl
     |some b=>rw [hs0] at hv;rw [hv,hlen];rfl
    rw [Ok_cond] at e
    rcases e with ⟨hsh,e⟩|⟨hsh,e⟩
    ·simp only [Q.Ok] at e
     obtain ⟨_,hn,rfl,rfl⟩:=e
     rw [look_cons] at hn
     split at hn
     ·cases hn
     ·rename_i hne
      obtain ⟨s2,w2,v,r1,S,r3,r4,r5⟩:=append_core hs1 H hW (nw:=nw) hb hg (Nat.le_refl _) hx hlim hn
      rw [List.take_length] at S r4
      have hnb:Hp.at ((nw,some (.row u' (xs++ys) false))::(id,none)::h1) nw=some (.row u' (xs++ys) false):=by rw [at_cons,if_pos rfl]
      have F:=frz_row S.hr hnb (upd_self g nw s2)
      have hgid:upd g nw s2 id=some s:=by unfold upd;rw [if_neg (fun e=>hne e.symm)];exact hg
      have H3:=F.hr
      have hWs:∀r,s.blk=some r→W r:=fun r hr=>(H.own id _ s r hb rfl hg hr).2
      have hfree:∀r,s.blk=some r→¬(A r∨s2.blk=some r)→Free (upd g nw s2) ((nw,some (.row u' (xs++ys) true))::(nw,some (.row u' (xs++ys) false))::(id,none)::h1) r:=fun r hr hnot i B s' e hl hgi hrr=>by
       rw [at_cons] at e
       split at e
       ·injection e with e;subst e;cases hl
       ·rename_i h0
        rw [at_cons,if_neg h0,at_cons] at e
        split at e
        ·cases e
        ·rename_i h00
         unfold upd at hgi;rw [if_neg h0] at hgi
         exact h00 (H.inj i id B _ s' s r e hb hl rfl hgi hg hrr hr)
      let A2:Nat→Prop:=fun r=>(A r∨s2.blk=some r)∨s.blk=some r
      have H4:HR (upd g nw s2) A2 W w2 ((nw,some (.row u' (xs++ys) true))::(nw,some (.row u' (xs++ys) false))::(id,none)::h1):=H3.more (fun r h=> .inl h) (fun r hr=>by
       rcases hr with hr|hr
       ·exact .inr hr
       ·by_cases h0:A r∨s2.blk=some r
        ·exact .inr h0
        ·exact .inl (hfree r hr h0)) (fun r hr=>by
       rcases hr with hr|hr
       ·exact H3.lt r hr
       ·exact r5 r hr)
      have hseq:(⟨s.blk,s.cap,xs.length⟩:Slot)=s:=by rw [←hlen]
      rw [hseq] at r4
      have H5:=H4.put (id:=id) (b:=.row u' xs true) ⟨s,hgid,r4.mono (fun r h=> .inl (.inl h)) (fun _ _=>rfl) (fun _ _=>rfl),fun _ b hb=> .inr hb⟩ (fun h=>by cases h)
      refine ⟨upd g nw s2,A2,w2,v,by rw [hvs];exact r1,⟨S.le,fun r h=> .inl (.inl h),fun r h=>?_,H5.congr (fun i=>?_),S.same,S.keep⟩,of_sl (upd_self _ _ _) r3⟩
      ·rcases h with (h|h)|h
       ·exact .inl h
       ·exact (F.in' r (.inr h)).elim .inl .inr
       ·exact .inr (hWs r h)
      ·simp only [look_cons,hsh]
       repeat' split
       all_goals first|rfl|(subst_vars;simp_all)
    ·simp only [Q.Ok] at e
     obtain ⟨_,hn,rfl,rfl⟩:=e
     rw [look_cons] at hn
     split at hn
     ·cases hn
     ·rename_i hne
      obtain ⟨s2,w2,v,r1,S,r3,r4,_⟩:=append_core hs1 H hW (nw:=nw) hb hg (Nat.le_refl _) hx hlim hn
      rw [List.take_length] at S
      exact ⟨upd g nw s2,A,w2,v,by rw [hvs];exact r1,by rw [hsh] at*;exact S,of_sl (upd_self _ _ _) r3⟩
 |sv id p off len sz n=>
  simp only [appendTo,Q.Ok] at e
  obtain ⟨B,hb,e⟩:=e
  cases B with
  |box x=>simp [Q.Ok] at e
  |row u' xs fz=>
   cases fz with
   |true=>simp [Q.Ok] at e
   |false=>
    simp only [Ok_cond,Ok_bind,Ok_get,Ok_ask,Ok_fail,and_false,or_false,Bool.and_eq_true] at e
    obtain ⟨⟨⟨ho,hn0⟩,hsz⟩,xs',h1,⟨ec0,rfl⟩,hlim,e⟩:=e
    obtain ⟨ec,_⟩:=cast_some ec0
    injection ec with ec
    subst ec
    obtain rfl:=cast_self ec0
    have ho:=Nat.eq_of_beq_eq_true ho
    have hn0:=Nat.eq_of_beq_eq_true hn0
    have hsz:=Nat.eq_of_beq_eq_true hsz
    subst ho hn0 hsz
    have hlim:=lim_out hlim
    obtain ⟨s,hg,hpk,hle,hnp,hnb,a,cap,rfl,hcap,hz,ha⟩:=to_sv hs
    have hp:=hnp rfl
    subst hp
    rw [if_pos rfl] at hle
    have hz:=hz ⟨rfl,rfl⟩
    subst hz
    have ha:=ha (.inr rfl)
    obtain ⟨s',hg',⟨hlen,hrow⟩,_⟩:=H.blk id _ hb
    rw [hg] at hg';injection hg' with hg';subst hg'
    have ha':a=s.blk.map fun b=>⟨b,0,none⟩:=by rw [ha];simp [poff]
    subst ha'
    simp only [Q.Ok,decide_eq_true_eq,decide_eq_false_iff_not] at e
    rcases e with ⟨hfit,_,rfl,rfl⟩|⟨hfit,_,hn,rfl,rfl⟩
    ·obtain ⟨c,c1,c2,c3⟩:=hx.inn
     have hroom:len+ys.length≤s.cap:=by
      cases hs0:s.blk with
      |none=>rw [hs0] at hrow;omega
      |some b=>rw [hs0] at hrow;have:=hrow.1;omega
     have hrun:=c3 (s.blk.map fun b=>⟨b,0,none⟩) len s.cap hroom
     cases hs0:s.blk with
     |none=>
      rw [hs0] at hrow hrun
      have hx0:xs=[]:=List.eq_nil_of_length_eq_zero (by omega)
      subst hx0
      simp only [List.length_nil] at hfit hlen
      have hy0:ys=[]:=List.eq_nil_of_length_eq_zero (by omega)
      subst hy0
      obtain rfl:len=0:=by simp at hfit;omega
      refine ⟨g,A,w,.slice none 0 s.cap,by rw [hrun];simp,⟨Gh.le_refl g,fun _ h=>h,fun _ h=> .inl h,H.congr (fun i=>?_),fun _ _=>rfl,.refl W w⟩,of_sv hg ⟨trivial,by simp,fun _=>rfl,hnb,none,s.cap,rfl,Nat.zero_le _,fun _=>rfl,fun _=>by rw [hs0];rfl⟩⟩
      rw [look_cons]
      split
      ·rename_i hi;subst hi;rw [at_look hb];simp [splice]
      ·rfl
     |some b=>
      rw [hs0] at hrun
      obtain ⟨w2,r1,S⟩:=write_row (P:=P) H hb hg hs0 (o:=len) c1 hfit
      refine ⟨g,A,w2,.slice (some ⟨b,0,none⟩) (len+ys.length) s.cap,?_,S,of_sv hg ⟨trivial,by rw [if_pos rfl];omega,fun _=>rfl,hnb,_,s.cap,rfl,hroom,fun _=>rfl,fun _=>by rw [hs0];simp [poff]⟩⟩
      rw [hrun]
      simp only [Option.map_some,add_at,Nat.zero_add,r1,Result.andThen_ok]
    ·rw [look_cons] at hn
     split at hn
     ·cases hn
     ·rename_i hne
      obtain ⟨s2,w2,v,r1,S,r3,_,_⟩:=append_core hs1 H hW (nw:=nw) hb hg (by omega) hx hlim hn
      exact ⟨upd g nw s2,A,w2,v,r1,S,of_sl (upd_self _ _ _) r3⟩
 |_=>simp [appendTo,Q.Ok] at e
end
end Go.Proofs.YtkihjakbbcajbaaGreat.PM
namespace Go.Proofs.YtkihjakbbcajbaaGreat.PM
set_option linter.unusedSimpArgs false
set_option linter.unusedVariables false
open Go
def isFn (f:Nat) (v:Value):Prop:=v=.func (.func f) #[] #[]
def ValRel (A:Nat→Prop) (w:World) (t:Ty) (own:Bool) (v:Value) (x:t.den) (bs:List Nat):Prop:=
 isAggV v=t.agg∧match own with
 |true=>OwnT A w t v.cells.toList x bs
 |false=>TRel A w t v.cells.toList x∧bs=[]
def BoxRel (A:Nat→Prop) (w:World) (t:Ty) (own:Bool) (v:Value) (x:t.den) (bs:List Nat):Prop:=
 ∃b c e p,v=.pointer (some ⟨b,0,none⟩)∧w.heap[b]?=some (.cells c e (0,0))∧bs=b::p∧match own with
 |true=>OwnT A w t c.toList x p
 |false=>TRel A w t c.toList x∧p=[]
def RowRel (A:Nat→Prop) (w:World) (t:Ty) (v:Value) (x:List t.den) (bs:List Nat):Prop:=∃s,SlV s v∧RowAt A w s t x∧bs=s.blk.toList
def ArgsRel (A:Nat→Prop) (w:World):(ps:List PK)→List Value→(argTy ps).den→List Nat→Prop
 |[],vs,_,bs=>vs=[]∧bs=[]
 |.val t::r,vs,x,bs=>∃v us,vs=v::us∧ValRel A w t false v x.1 []∧ArgsRel A w r us x.2 bs
 |.io t own::r,vs,x,bs=>∃v us p q,vs=v::us∧bs=p++q∧BoxRel A w t own v x.1 p∧ArgsRel A w r us x.2 q
 |.mu t::r,vs,x,bs=>∃v us p q,vs=v::us∧bs=p++q∧RowRel A w t v x.1 p∧ArgsRel A w r us x.2 q
 |.fn f::r,vs,x,bs=>∃v us,vs=v::us∧isFn f v∧ArgsRel A w r us x bs
 |.eat t::r,vs,x,bs=>∃v us p q,vs=v::us∧bs=p++q∧RowRel A w t v x.1 p∧ArgsRel A w r us x.2 q
 |.clo f t::r,vs,x,bs=>∃v us p q,vs=.func (.func f) #[] #[v]::us∧bs=p++q∧BoxRel A w t false v x.1 p∧ArgsRel A w r us x.2 q
def ResRel (A:Nat→Prop) (w:World):(rs:List (Ty × Bool))→List Value→(resTy rs).den→List Nat→Prop
 |[],vs,_,bs=>vs=[]∧bs=[]
 |(t,own)::r,vs,x,bs=>∃v us p q,vs=v::us∧bs=p++q∧ValRel A w t own v x.1 p∧ResRel A w r us x.2 q
def packV:List Value→Value
 |[v]=>v
 |vs=> .tuple vs.toArray
def OutRel (A:Nat→Prop) (w:World):(ps:List PK)→(rs:List (Ty × Bool))→List Value→List Value→(outTy ps rs).den→List Nat→Prop
 |[],rs,_,zs,y,bs=>ResRel A w rs zs y bs
 |.io t own::r,rs,vs,zs,y,bs=>∃v us p q,vs=v::us∧bs=p++q∧BoxRel A w t own v y.1 p∧OutRel A w r rs us zs y.2 q
 |.mu t::r,rs,vs,zs,y,bs=>∃v us p q,vs=v::us∧bs=p++q∧RowRel A w t v y.1 p∧OutRel A w r rs us zs y.2 q
 |.val _::r,rs,vs,zs,y,bs=>OutRel A w r rs vs.tail zs y bs
 |.fn _::r,rs,vs,zs,y,bs=>OutRel A w r rs vs.tail zs y bs
 |.eat _::r,rs,vs,zs,y,bs=>OutRel A w r rs vs.tail zs y bs
 |.clo f t::r,rs,vs,zs,y,bs=>∃v us p q,vs=.func (.func f) #[] #[v]::us∧bs=p++q∧BoxRel A w t false v y.1 p∧OutRel A w r rs us zs y.2 q
structure Done (F:Fun) (A:Nat→Prop) (w:World) (vs:List Value) (bs:List Nat) (y:(outTy F.sig.ps F.sig.rs).den) (e:Ending) (w':World):Prop where
 out:∃zs A' bs',e=.returned (packV zs)∧OutRel A' w' F.sig.ps F.sig.rs vs zs y bs'∧bs'.Nodup∧(∀r,r∈bs'→¬A' r∧(w.heap.size≤r∨r∈bs)∧r<w'.heap.size)∧(∀r,A' r→A r∨w.heap.size≤r∨r∈bs)∧(∀r,A' r→r<w'.heap.size)
 keep:Keep (fun r=>w.heap.size≤r∨r∈bs) w w'
def GlOk (gl:List (Nat × PV)) (A:Nat→Prop) (w:World):Prop:=∀n x,look n gl=some x→∃t y c,x=.iptr t y∧A n∧At w ⟨n,0,none⟩ c∧TRel A w t c y
theorem GlOk.mono {gl:List (Nat × PV)} {A A':Nat→Prop} {w w':World} (h:GlOk gl A w) (hA:∀r,A r→A' r) (hw:∀r,A r→w'.heap[r]?=w.heap[r]?):GlOk gl A' w':=fun n x e=>by
 obtain ⟨t,y,c,h1,h2,h3,h4⟩:=h n x e
 exact ⟨t,y,c,h1,hA _ h2,h3.mono (hw _ h2),TRel.mono hA hw t c y h4⟩
structure FnSpec (P:Program) (gl:List (Nat × PV)) (f:FuncId) (F:Fun):Prop where
 enter:∀(args:Array Value) (w:World),(callFunc f args).run P w=.ok (.enter f args) w
 calls:∀(w:World) (A:Nat→Prop) (vs:List Value) (x:(argTy F.sig.ps).den) (bs:List Nat) (y:(outTy F.sig.ps F.sig.rs).den),GlOk gl A w→ArgsRel A w F.sig.ps vs x bs→bs.Nodup→(∀r,r∈bs→¬A r∧r<w.heap.size)→(∀r,A r→r<w.heap.size)→
  F.F x=some y→Calls P f vs.toArray w (Done F A w vs bs y)
def ListR (g:Gh) (A:Nat→Prop) (w:World):List PV→List Value→Prop
 |[],[]=>True
 |x::xs,v::vs=>VRel g A w x v∧ListR g A w xs vs
 |_,_=>False
section
variable {g:Gh} {A W:Nat→Prop} {w:World}
theorem ListR.mono {g':Gh} {A':Nat→Prop} {w':World} (hg:g.le g') (hA:∀r,A r→A' r) (hw:∀r,A r→w'.heap[r]?=w.heap[r]?):∀{xs:List PV} {vs:List Value},ListR g A w xs vs→ListR g' A' w' xs vs
 |[],[],_=>trivial
 |_::_,_::_,⟨h1,h2⟩=>⟨h1.mono hg hA hw,h2.mono hg hA hw⟩
def IoRel (A:Nat→Prop) (w:World):(ps:List PK)→List Value→(ioTy ps).den→List Nat→Prop
 |[],vs,_,bs=>vs=[]∧bs=[]
 |.val _::r,vs,x,bs=>∃v us,vs=v::us∧IoRel A w r us x bs
 |.io t own::r,vs,x,bs=>∃v us p q,vs=v::us∧bs=p++q∧BoxRel A w t own v x.1 p∧IoRel A w r us x.2 q
 |.mu t::r,vs,x,bs=>∃v us p q,vs=v::us∧bs=p++q∧RowRel A w t v x.1 p∧IoRel A w r us x.2 q
 |.fn f::r,vs,x,bs=>∃v us,vs=v::us∧isFn f v∧IoRel A w r us x bs
 |.eat t::r,vs,x,bs=>∃v us p q,vs=v::us∧bs=p++q∧RowRel A w t v x.1 p∧IoRel A w r us x.2 q
 |.clo f t::r,vs,x,bs=>∃v us p q,vs=.func (.func f) #[] #[v]::us∧bs=p++q∧BoxRel A w t false v x.1 p∧IoRel A w r us x.2 q
theorem OwnT.mono {A A':Nat→Prop} {w w':World} (hA:∀r,A r→A' r) (hw:∀r,A r→w'.heap[r]?=w.heap[r]?):∀(t:Ty) (cs:List Value) (x:t.den) (bs:List Nat),(∀r,r∈bs→w'.heap[r]?=w.heap[r]?)→OwnT A w t cs x bs→OwnT A' w' t cs x bs
 |.slice t,_,_,_,hb,⟨s,v,h1,h2,h3,h4⟩=>⟨s,v,h1,h2,h3.mono hA hw (fun b hs=>hb b (by rw [h4,hs];simp)),h4⟩
 |.pair a b,_,x,_,hb,⟨c,d,p,q,h1,h2,h3,h4⟩=>⟨c,d,p,q,h1,h2,OwnT.mono hA hw a c x.1 p (fun r hr=>hb r (by rw [h2];simp [hr])) h3,OwnT.mono hA hw b d x.2 q (fun r hr=>hb r (by rw [h2];simp [hr])) h4⟩
 |.unit,_,_,_,_,h=>h
 |.int _,_,_,_,_,h=>h
 |.bool,_,_,_,_,h=>h
 |.str,_,_,_,_,h=>h
 |.arr n t,cs,x,_,_,h=>⟨TRel.mono hA hw (.arr n t) cs x h.1,h.2⟩
theorem BoxRel.mono {A A':Nat→Prop} {w w':World} (hA:∀r,A r→A' r) (hw:∀r,A r→w'.heap[r]?=w.heap[r]?) {t:Ty} {own:Bool} {v:Value} {x:t.den} {bs:List Nat} (hb:∀r,r∈bs→w'.heap[r]?=w.heap[r]?) (h:BoxRel A w t own v x bs):BoxRel A' w' t own v x bs:=by
 obtain ⟨b,c,e,p,h1,h2,h3,h4⟩:=h
 refine ⟨b,c,e,p,h1,by rw [hb b (by rw [h3];simp)];exact h2,h3,?_⟩
 cases own with
 |true=>exact OwnT.mono hA hw t _ x p (fun r hr=>hb r (by rw [h3];simp [hr])) h4
 |false=>exact ⟨TRel.mono hA hw t _ x h4.1,h4.2⟩
theorem RowRel.mono {A A':Nat→Prop} {w w':World} (hA:∀r,A r→A' r) (hw:∀r,A r→w'.heap[r]?=w.heap[r]?) {t:Ty} {v:Value} {x:List t.den} {bs:List Nat} (hb:∀r,r∈bs→w'.heap[r]?=w.heap[r]?) (h:RowRel A w t v x bs):RowRel A' w' t v x bs:=by
 obtain ⟨s,h1,h2,h3⟩:=h
 exact ⟨s,h1,h2.mono hA hw (fun b hs=>hb b (by rw [h3,hs];simp)),h3⟩
theorem IoRel.mono {A A':Nat→Prop} {w w':World} (hA:∀r,A r→A' r) (hw:∀r,A r→w'.heap[r]?=w.heap[r]?):∀(ps:List PK) (vs:List Value) (x:(ioTy ps).den) (bs:List Nat),(∀r,r∈bs→w'.heap[r]?=w.heap[r]?)→IoRel A w ps vs x bs→IoRel A' w' ps vs x bs
 |[],_,_,_,_,h=>h
 |.val _::r,_,x,bs,hb,⟨v,us,h1,h2⟩=>⟨v,us,h1,h2.mono hA hw r us x bs hb⟩
 |.fn f::r,_,x,bs,hb,⟨v,us,h1,h2,h3⟩=>⟨v,us,h1,h2,h3.mono hA hw r us x bs hb⟩
 |.io t own::r,_,x,_,hb,⟨v,us,p,q,h1,h2,h3,h4⟩=>⟨v,us,p,q,h1,h2,h3.mono hA hw (fun r hr=>hb r (by rw [h2];simp [hr])),h4.mono hA hw r us x.2 q (fun r hr=>hb r (by rw [h2];simp [hr]))⟩
 |.mu t::r,_,x,_,hb,⟨v,us,p,q,h1,h2,h3,h4⟩=>⟨v,us,p,q,h1,h2,h3.mono hA hw (fun r hr=>hb r (by rw [h2];simp [hr])),h4.mono hA hw r us x.2 q (fun r hr=>hb r (by rw [h2];simp [hr]))⟩
 |.eat t::r,_,x,_,hb,⟨v,us,p,q,h1,h2,h3,h4⟩=>⟨v,us,p,q,h1,h2,h3.mono hA hw (fun r hr=>hb r (by rw [h2];simp [hr])),h4.mono hA hw r us x.2 q (fun r hr=>hb r (by rw [h2];simp [hr]))⟩
 |.clo _ t::r,_,x,_,hb,⟨v,us,p,q,h1,h2,h3,h4⟩=>⟨v,us,p,q,h1,h2,h3.mono hA hw (fun r hr=>hb r (by rw [h2];simp [hr])),h4.mono hA hw r us x.2 q (fun r hr=>hb r (by rw [h2];simp [hr]))⟩
structure Gone (g:Gh) (A W:Nat→Prop) (w:World) (h:Hp) (A':Nat→Prop) (h':Hp) (bs:List Nat):Prop where
 le:∀r,A r→A' r
 in':∀r,A' r→A r∨W r
 hr:HR g A' W w h'
 nodup:bs.Nodup
 free:∀r,r∈bs→Free g h' r∧¬Free g h r
 mono:∀r,Free g h r→Free g h' r∧(A' r→A r)
 out:∀r,r∈bs→¬A' r∧W r∧r<w.heap.size
theorem not_free {h:Hp} {r:Nat} (hf:¬Free g h r):∃i b s,h.at i=some b∧b.live=true∧g i=some s∧s.blk=some r:=by
 apply Classical.byContradiction
 intro hn
 exact hf (fun i b s h1 h2 h3 h4=>hn ⟨i,b,s,h1,h2,h3,h4⟩)
theorem owned_out {h:Hp} (H:HR g A W w h) {r:Nat} (hf:¬Free g h r):¬A r∧W r∧r<w.heap.size:=by
 obtain ⟨i,b,s,h1,h2,h3,h4⟩:=not_free hf
 exact ⟨(H.own i b s r h1 h2 h3 h4).1,(H.own i b s r h1 h2 h3 h4).2,(H.blk i b h1).lt h3 h4⟩
theorem Gone.trans {A1 A2:Nat→Prop} {h h1 h2:Hp} {p q:List Nat} (a:Gone g A W w h A1 h1 p) (b:Gone g A1 W w h1 A2 h2 q) (H:HR g A W w h):Gone g A W w h A2 h2 (p++q):=by
 have hpq:∀r,r∈p→r∈q→False:=fun r hp hq=>(b.free r hq).2 (a.free r hp).1
 refine ⟨fun r h=>b.le r (a.le r h),fun r h=>(b.in' r h).elim (a.in' r) .inr,b.hr,?_,fun r hr=>?_,fun r hf=>⟨(b.mono r (a.mono r hf).1).1,fun h=>(a.mono r hf).2 ((b.mono r (a.mono r hf).1).2 h)⟩,fun r hr=>?_⟩
 ·rw [List.nodup_append]
  exact ⟨a.nodup,b.nodup,fun r hp r' hq e=>hpq r hp (e▸hq)⟩
 ·rcases List.mem_append.1 hr with hr|hr
  ·exact ⟨(b.mono r (a.free r hr).1).1,(a.free r hr).2⟩
  ·exact ⟨(b.free r hr).1,fun hf=>(b.free r hr).2 (a.mono r hf).1⟩
 ·rcases List.mem_append.1 hr with hr|hr
  ·exact ⟨fun h=>(a.out r hr).1 ((b.mono r (a.free r hr).1).2 h),(a.out r hr).2⟩
  ·exact b.out r hr
theorem gone_del {h:Hp} (H:HR g A W w h) {id:Nat} {B:Blk} {s:Slot} (hb:h.at id=some B) (hl:B.live=true) (hg:g id=some s):Gone g A W w h A ((id,none)::h) s.blk.toList:=by
 have hfree:∀r,s.blk=some r→Free g ((id,none)::h) r∧¬Free g h r:=fun r hr=>⟨fun i b s' e hcl hgi hrr=>by
  rw [at_cons] at e
  split at e
  ·cases e
  ·rename_i hne
   exact hne (H.inj i id b B s' s r e hb hcl hl hgi hg hrr hr),fun hf=>hf id B s hb hl hg hr⟩
 have hm:∀r,r∈s.blk.toList→s.blk=some r:=fun r hr=>by cases hs:s.blk<;>simp_all
 exact ⟨fun _ h=>h,fun _ h=> .inl h,H.del id,by cases s.blk<;>simp,fun r hr=>hfree r (hm r hr),fun r hf=>⟨hf.del,fun h=>h⟩,fun r hr=>owned_out H (hfree r (hm r hr)).2⟩
theorem listR_cons {x:PV} {xs:List PV} {vs:List Value} (h:ListR g A w (x::xs) vs):∃v us,vs=v::us∧VRel g A w x v∧ListR g A w xs us:=by
 cases vs with
 |nil=>exact h.elim
 |cons v us=>exact ⟨v,us,rfl,h.1,h.2⟩
theorem listR_nil {vs:List Value} (h:ListR g A w [] vs):vs=[]:=by
 cases vs with
 |nil=>rfl
 |cons v us=>exact h.elim
theorem eat_gone {t:Ty} {c:PV} {a:t.den} {h hh h':Hp} {cs:List Value} {u:Unit} (H:HR g A W w h) (HH:HR g A W w hh) (hc:c.rel g A w cs) (hsub:∀i b,h.at i=some b→hh.at i=some b) (e1:(dec t c).Ok hh a hh) (e2:(eat c).Ok h u h'):
  ∃bs,Gone g A W w h A h' bs∧OwnT A w t cs a bs:=by
 obtain ⟨bs,o1,n1,H1,k1,m1,s1⟩:=eat_own t c a h hh cs u h' H hc hsub e1 HH e2
 exact ⟨bs,⟨fun _ h=>h,fun _ h=> .inl h,H1,n1,k1,fun r hf=>⟨m1 r hf,fun h=>h⟩,fun r hr=>owned_out H (k1 r hr).2⟩,o1⟩
theorem frz_gone {A':Nat→Prop} {h h':Hp} (F:Frz g A W w h A' h'):Gone g A W w h A' h' []:=
 ⟨F.le,F.in',F.hr,List.nodup_nil,by simp,fun r hf=>F.free r hf,by simp⟩
theorem listR_tail {xs:List PV} {v:Value} {us:List Value} (h:ListR g A w xs (v::us)):ListR g A w xs.tail us:=by
 cases xs with
 |nil=>exact h.elim
 |cons x xs=>exact h.2
theorem dec_agg:∀(t:Ty) (x:PV) (y:t.den) (h h':Hp),(dec t x).Ok h y h'→aggP x=t.agg
 |.pair a b,x,y,h,h',e=>by
  cases x with
  |agg xs=>rfl
  |v u z=>simp only [dec,Ok_get] at e;obtain ⟨rfl,_⟩:=cast_some e.1;rfl
  |_=>simp [dec,Q.Ok] at e
 |.unit,x,y,h,h',e=>by
  cases x with
  |agg xs=>rfl
  |v u z=>simp only [dec,Ok_get] at e;obtain ⟨rfl,_⟩:=cast_some e.1;rfl
  |_=>simp [dec,Q.Ok] at e
 |.int _,x,y,h,h',e=>by
  cases x with
  |v u z=>simp only [dec,Ok_get] at e;obtain ⟨rfl,_⟩:=cast_some e.1;rfl
  |_=>simp [dec,Q.Ok] at e
 |.bool,x,y,h,h',e=>by
  cases x with
  |v u z=>simp only [dec,Ok_get] at e;obtain ⟨rfl,_⟩:=cast_some e.1;rfl
  |_=>simp [dec,Q.Ok] at e
 |.str,x,y,h,h',e=>by
  cases x with
  |v u z=>simp only [dec,Ok_get] at e;obtain ⟨rfl,_⟩:=cast_some e.1;rfl
  |_=>simp [dec,Q.Ok] at e
 |.arr _ _,x,y,h,h',e=>by
  cases x with
  |v u z=>simp only [dec,Ok_get] at e;obtain ⟨rfl,_⟩:=cast_some e.1;rfl
  |_=>simp [dec,Q.Ok] at e
 |.slice t,x,y,h,h',e=>by
  cases x with
  |v u z=>simp only [dec,Ok_get] at e;obtain ⟨rfl,_⟩:=cast_some e.1;rfl
  |nils=>rfl
  |sl id=>rfl
  |sv id p o l s n=>rfl
  |_=>simp [dec,Q.Ok] at e
theorem boxIO_ok {t:Ty} {own:Bool} {x:PV} {v:Value} {h h':Hp} {a:t.den} (H:HR g A W w h) (hx:VRel g A w x v) (e:(boxIO t own x).Ok h a h'):∃A' bs,Gone g A W w h A' h' bs∧BoxRel A' w t own v a bs:=by
 unfold boxIO at e
 split at e
 ·rename_i id
  simp only [Q.Ok] at e
  obtain ⟨B,hb,e⟩:=e
  cases B with
  |row u ys fz=>simp [Q.Ok] at e
  |box c=>
   simp only [Ok_bind,Q.Ok] at e
   obtain ⟨a,h1,e1,_,u,h2,e2,rfl,rfl⟩:=e
   have hsame:=dec_same t c a h h1 e1
   subst hsame
   obtain ⟨s,blk,hg,hs,rfl,_⟩:=rel_ptr hx
   obtain ⟨s',blk',cells,ty,hg',hs',hh,hc⟩:=H.blk id _ hb
   rw [hg] at hg';injection hg' with hg';subst hg'
   rw [hs] at hs';injection hs' with hs';subst hs'
   have G1:=gone_del H hb rfl hg
   rw [hs] at G1
   have hsub:∀i b,Hp.at ((id,none)::h1) i=some b→h1.at i=some b:=fun i b e=>by
    rw [at_cons] at e
    split at e
    ·cases e
    ·exact e
   rw [Ok_cond] at e2
   rcases e2 with ⟨ho,e2⟩|⟨ho,e2⟩
   ·subst ho
    obtain ⟨p,G2,o1⟩:=eat_gone G1.hr H hc hsub e1 e2
    exact ⟨A,_,G1.trans G2 H,blk,cells,ty,p,rfl,hh,rfl,o1⟩
   ·subst ho
    obtain ⟨A1,F,ht⟩:=frz_own t c a A _ h1 cells.toList u h' G1.hr hc (fun i t xs fz e=>⟨fz,hsub i _ e⟩) (fun i x e=>hsub i _ e) e1 e2
    exact ⟨A1,_,G1.trans (frz_gone F) H,blk,cells,ty,[],rfl,hh,by simp,ht,rfl⟩
 ·simp [Q.Ok] at e
theorem rowIO_ok {t:Ty} {x:PV} {v:Value} {h h':Hp} {a:List t.den} (H:HR g A W w h) (hx:VRel g A w x v) (e:(rowIO t x).Ok h a h'):∃bs,Gone g A W w h A h' bs∧RowRel A w t v a bs:=by
 unfold rowIO at e
 split at e
 ·rename_i id
  simp only [Q.Ok] at e
  obtain ⟨B,hb,e⟩:=e
  cases B with
  |box x=>simp [Q.Ok] at e
  |row u ys fz=>
   cases fz with
   |true=>simp [Q.Ok] at e
   |false=>
    simp only [Ok_bind,Ok_get,Q.Ok] at e
    obtain ⟨a,h1,⟨ec0,rfl⟩,_,rfl,rfl⟩:=e
    obtain ⟨ec,_⟩:=cast_some ec0
    injection ec with ec
    subst ec
    obtain rfl:=cast_self ec0
    obtain ⟨s,hg,hsl⟩:=to_sl hx
    obtain ⟨s',hg',hrow,_⟩:=H.blk id _ hb
    rw [hg] at hg';injection hg' with hg';subst hg'
    exact ⟨_,gone_del H hb rfl hg,s,hsl,hrow,rfl⟩
 ·simp [Q.Ok] at e
theorem fnIO_ok {f:Nat} {x:PV} {v:Value} {h h':Hp} {u:Unit} (hx:VRel g A w x v) (e:(fnIO f x).Ok h u h'):h'=h∧isFn f v:=by
 unfold fnIO at e
 split at e
 ·rename_i k
  rw [Ok_need] at e
  obtain ⟨hk,rfl⟩:=e
  have hk:=Nat.eq_of_beq_eq_true hk
  subst hk
  have h1:=single_of rfl hx
  unfold PV.rel at h1
  obtain ⟨vs,h2,h3⟩:=h1
  injection h2 with h2
  unfold rels at h3
  have hvs:vs=#[]:=Array.toList_inj.1 h3
  exact ⟨rfl,by rw [h2,hvs];rfl⟩
 ·simp [Q.Ok] at e
theorem eatIO_ok {t:Ty} {x:PV} {v:Value} {h h':Hp} {a:List t.den} (H:HR g A W w h) (hx:VRel g A w x v) (e:(eatIO t x).Ok h a h'):∃bs,Gone g A W w h A h' bs∧RowRel A w t v a bs:=by
 unfold eatIO at e
 split at e
 ·rw [Ok_ret] at e
  obtain ⟨rfl,rfl⟩:=e
  refine ⟨[],⟨fun _ h=>h,fun _ h=> .inl h,H,List.nodup_nil,by simp,fun r hf=>⟨hf,fun h=>h⟩,by simp⟩,⟨none,0,0⟩,?_,⟨rfl,rfl,rfl⟩,rfl⟩
  unfold VRel at hx
  simp only [aggP] at hx
  unfold PV.rel at hx
  injection hx with hx
  exact ⟨hx,rfl,rfl⟩
 ·exact rowIO_ok H hx e
theorem clo_ptr {f:FuncId} {p:PV} {v:Value} (hp:aggP p=false) (h:VRel g A w (.fn f [p]) v):∃u,v=.func (.func f) #[] #[u]∧VRel g A w p u:=by
 unfold VRel at h
 simp only [aggP] at h
 unfold PV.rel at h
 obtain ⟨vs,e,h⟩:=h
 injection e with e
 unfold rels at h
 obtain ⟨c,d,h1,h2,h3⟩:=h
 unfold rels at h3
 subst h3
 obtain ⟨u,rfl,_⟩:=rel_single p c hp h2
 refine ⟨u,?_,?_⟩
 ·rw [e]
  congr 1
  apply Array.toList_inj.1
  rw [h1];rfl
 ·unfold VRel;rw [hp];exact h2
theorem cloIO_ok {f:FuncId} {t:Ty} {x:PV} {v:Value} {h h':Hp} {a:t.den} (H:HR g A W w h) (hx:VRel g A w x v) (e:(cloIO f t x).Ok h a h'):∃u A' bs,v=.func (.func f) #[] #[u]∧Gone g A W w h A' h' bs∧BoxRel A' w t false u a bs:=by
 unfold cloIO at e
 split at e
 ·rename_i k id p
  rw [Ok_cond] at e
  rcases e with ⟨hk,e⟩|⟨_,e⟩
  ·have hk:=Nat.eq_of_beq_eq_true hk
   subst hk
   obtain ⟨u,rfl,hu⟩:=clo_ptr rfl hx
   obtain ⟨A',bs,G,r⟩:=boxIO_ok H hu e
   exact ⟨u,A',bs,rfl,G,r⟩
  ·exact e.elim
 ·simp [Q.Ok] at e
theorem takeIO_ok (ps:List PK):∀(xs:List PV) (vs:List Value) (A:Nat→Prop) (h:Hp) (y:(ioTy ps).den) (h':Hp),HR g A W w h→ListR g A w xs vs→(takeIO ps xs).Ok h y h'→∃A' bs,Gone g A W w h A' h' bs∧IoRel A' w ps vs y bs:=by
 induction ps with
 |nil=>
  intro xs vs A h y h' H hv e
  cases xs with
  |nil=>
   simp only [takeIO,Ok_ret] at e
   obtain ⟨_,rfl⟩:=e
   exact ⟨A,[],⟨fun _ h=>h,fun _ h=> .inl h,H,List.nodup_nil,by simp,fun r hf=>⟨hf,fun h=>h⟩,by simp⟩,listR_nil hv,rfl⟩
  |cons x xs=>simp only [takeIO,Ok_fail] at e
 |cons k r ih=>
  intro xs vs A h y h' H hv e
  cases xs with
  |nil=>cases k<;>simp only [takeIO,Ok_fail] at e
  |cons x xs=>
   obtain ⟨v,us,rfl,hx,hxs⟩:=listR_cons hv
   cases k with
   |val t=>
    simp only [takeIO] at e
    obtain ⟨A',bs,G,r1⟩:=ih xs us A h y h' H hxs e
    exact ⟨A',bs,G,v,us,rfl,r1⟩
   |fn f=>
    simp only [takeIO] at e
    obtain ⟨_,h1,e1,e2⟩:=(Ok_bind (fnIO f x) (fun _=>takeIO r xs) h y h').1 e
    obtain ⟨rfl,hf⟩:=fnIO_ok hx e1
    obtain ⟨A',bs,G,r1⟩:=ih xs us A h1 y h' H hxs e2
    exact ⟨A',bs,G,v,us,rfl,hf,r1⟩
   |mu t=>
    simp only [takeIO,Ok_bind,Ok_ret] at e
    obtain ⟨a,h1,e1,b,h2,e2,rfl,rfl⟩:=e
    obtain ⟨p,G1,q1⟩:=rowIO_ok H hx e1
    obtain ⟨A',bs,G2,r1⟩:=ih xs us A h1 b _ G1.hr hxs e2
    exact ⟨A',_,G1.trans G2 H,v,us,p,bs,rfl,rfl,q1.mono G2.le (fun _ _=>rfl) (fun _ _=>rfl),r1⟩
   |eat t=>
    simp only [takeIO,Ok_bind,Ok_ret] at e
    obtain ⟨a,h1,e1,b,h2,e2,rfl,rfl⟩:=e
    obtain ⟨p,G1,q1⟩:=eatIO_ok H hx e1
    obtain ⟨A',bs,G2,r1⟩:=ih xs us A h1 b _ G1.hr hxs e2
    exact ⟨A',_,G1.trans G2 H,v,us,p,bs,rfl,rfl,q1.mono G2.le (fun _ _=>rfl) (fun _ _=>rfl),r1⟩
   |clo f t=>
    simp only [takeIO,Ok_bind,Ok_ret] at e
    obtain ⟨a,h1,e1,b,h2,e2,rfl,rfl⟩:=e
    obtain ⟨u,A1,p,rfl,G1,q1⟩:=cloIO_ok H hx e1
    obtain ⟨A',bs,G2,r1⟩:=ih xs us A1 h1 b _ G1.hr (hxs.mono (Gh.le_refl g) G1.le (fun _ _=>rfl)) e2
    exact ⟨A',_,G1.trans G2 H,u,us,p,bs,rfl,rfl,q1.mono G2.le (fun _ _=>rfl) (fun _ _=>rfl),r1⟩
   |io t own=>
    simp only [takeIO,Ok_bind,Ok_ret] at e
    obtain ⟨a,h1,e1,b,h2,e2,rfl,rfl⟩:=e
    obtain ⟨A1,p,G1,q1⟩:=boxIO_ok H hx e1
    obtain ⟨A',bs,G2,r1⟩:=ih xs us A1 h1 b _ G1.hr (hxs.mono (Gh.le_refl g) G1.le (fun _ _=>rfl)) e2
    exact ⟨A',_,G1.trans G2 H,v,us,p,bs,rfl,rfl,q1.mono G2.le (fun _ _=>rfl) (fun _ _=>rfl),r1⟩
theorem takeV_same (ps:List PK):∀(xs:List PV) (h:Hp) (y:(ioTy ps).den) (a:(argTy ps).den) (h':Hp),(takeV ps xs y).Ok h a h'→h'=h:=by
 induction ps with
 |nil=>intro xs h y a h' e;simp only [takeV,Ok_ret] at e;exact e.2
 |cons k r ih=>
  intro xs h y a h' e
  cases k with
  |val t=>
   cases xs with
   |nil=>simp only [takeV,Ok_fail] at e
   |cons x xs=>
    simp only [takeV,Ok_bind,Ok_ret] at e
    obtain ⟨a,h1,e1,b,h2,e2,_,rfl⟩:=e
    rw [ih xs h1 y b _ e2,dec_same t x a h h1 e1]
  |io t own=>simp only [takeV,Ok_bind,Ok_ret] at e;obtain ⟨b,h2,e2,_,rfl⟩:=e;exact ih _ _ _ _ _ e2
  |mu t=>simp only [takeV,Ok_bind,Ok_ret] at e;obtain ⟨b,h2,e2,_,rfl⟩:=e;exact ih _ _ _ _ _ e2
  |fn f=>simp only [takeV] at e;exact ih _ _ _ _ _ e
  |eat t=>simp only [takeV,Ok_bind,Ok_ret] at e;obtain ⟨b,h2,e2,_,rfl⟩:=e;exact ih _ _ _ _ _ e2
  |clo f t=>simp only [takeV,Ok_bind,Ok_ret] at e;obtain ⟨b,h2,e2,_,rfl⟩:=e;exact ih _ _ _ _ _ e2
theorem takeV_ok (ps:List PK):∀(xs:List PV) (vs:List Value) (h:Hp) (y:(ioTy ps).den) (a:(argTy ps).den) (h':Hp) (bs:List Nat),HR g A W w h→ListR g A w xs vs→IoRel A w ps vs y bs→(takeV ps xs y).Ok h a h'→ArgsRel (Rd g A h) w ps vs a bs:=by
 induction ps with
 |nil=>intro xs vs h y a h' bs H hv hi e;exact hi
 |cons k r ih=>
  intro xs vs h y a h' bs H hv hi e
  have hA:∀r,A r→Rd g A h r:=fun r hr=> .inl hr
  cases k with
  |val t=>
   cases xs with
   |nil=>simp only [takeV,Ok_fail] at e
   |cons x xs=>
    simp only [takeV,Ok_bind,Ok_ret] at e
    obtain ⟨c,h1,e1,b,h2,e2,rfl,_⟩:=e
    have hs:=dec_same t x c h h1 e1
    subst hs
    obtain ⟨v,us,rfl,hx,hxs⟩:=listR_cons hv
    obtain ⟨v',us',e0,hi'⟩:=hi
    injection e0 with e0 e0';subst e0 e0'
    have hc:=VRel.cells hx
    obtain ⟨_,r1⟩:=dec_rel H t x c h1 _ hc.1 e1
    have hagg:aggP x=t.agg:=dec_agg t x c h1 h1 e1
    exact ⟨_,_,rfl,⟨by rw [hc.2,hagg],r1,rfl⟩,ih xs _ h1 y b h2 bs H hxs hi' e2⟩
  |io t own=>
   simp only [takeV,Ok_bind,Ok_ret] at e
   obtain ⟨b,h2,e2,rfl,_⟩:=e
   obtain ⟨v,us,p,q,rfl,rfl,r1,r2⟩:=hi
   exact ⟨v,us,p,q,rfl,rfl,r1.mono hA (fun _ _=>rfl) (fun _ _=>rfl),ih xs.tail us h y.2 b h2 q H (listR_tail hv) r2 e2⟩
  |mu t=>
   simp only [takeV,Ok_bind,Ok_ret] at e
   obtain ⟨b,h2,e2,rfl,_⟩:=e
   obtain ⟨v,us,p,q,rfl,rfl,r1,r2⟩:=hi
   exact ⟨v,us,p,q,rfl,rfl,r1.mono hA (fun _ _=>rfl) (fun _ _=>rfl),ih xs.tail us h y.2 b h2 q H (listR_tail hv) r2 e2⟩
  |eat t=>
   simp only [takeV,Ok_bind,Ok_ret] at e
   obtain ⟨b,h2,e2,rfl,_⟩:=e
   obtain ⟨v,us,p,q,rfl,rfl,r1,r2⟩:=hi
   exact ⟨v,us,p,q,rfl,rfl,r1.mono hA (fun _ _=>rfl) (fun _ _=>rfl),ih xs.tail us h y.2 b h2 q H (listR_tail hv) r2 e2⟩
  |clo f t=>
   simp only [takeV,Ok_bind,Ok_ret] at e
   obtain ⟨b,h2,e2,rfl,_⟩:=e
   obtain ⟨v,us,p,q,rfl,rfl,r1,r2⟩:=hi
   exact ⟨v,us,p,q,rfl,rfl,r1.mono hA (fun _ _=>rfl) (fun _ _=>rfl),ih xs.tail us h y.2 b h2 q H (listR_tail hv) r2 e2⟩
  |fn f=>
   simp only [takeV] at e
   obtain ⟨v,us,rfl,r1,r2⟩:=hi
   exact ⟨v,us,rfl,r1,ih xs.tail us h y a h' bs H (listR_tail hv) r2 e⟩
theorem frzArgs_ok (ps:List PK):∀(xs:List PV) (vs:List Value) (A:Nat→Prop) (h hh:Hp) (y:(ioTy ps).den) (a:(argTy ps).den) (bs:List Nat) (u:Unit) (h':Hp),HR g A W w h→Sim h hh→(∀i x,h.at i=some (.box x)→hh.at i=some (.box x))→ListR g A w xs vs→IoRel A w ps vs y bs→(takeV ps xs y).Ok hh a hh→(frzArgs ps xs).Ok h u h'→
  ∃A',Frz g A W w h A' h'∧ArgsRel A' w ps vs a bs:=by
 induction ps with
 |nil=>
  intro xs vs A h hh y a bs u h' H hs hb hv hi e e'
  simp only [frzArgs,Ok_ret] at e'
  obtain ⟨_,rfl⟩:=e'
  exact ⟨A,.refl H,hi⟩
 |cons k r ih=>
  intro xs vs A h hh y a bs u h' H hs hb hv hi e e'
  cases k with
  |val t=>
   cases xs with
   |nil=>simp only [takeV,Ok_fail] at e
   |cons x xs=>
    simp only [takeV,Ok_bind,Ok_ret] at e
    obtain ⟨c,h1,e1,b,h2,e2,rfl,e3⟩:=e
    have hs1:=dec_same t x c hh h1 e1
    subst hs1
    have hs2:=takeV_same r xs h1 y b h2 e2
    subst hs2
    simp only [frzArgs,Ok_bind] at e'
    obtain ⟨u1,h3,f1,f2⟩:=e'
    obtain ⟨v,us,rfl,hx,hxs⟩:=listR_cons hv
    obtain ⟨v',us',e0,hi'⟩:=hi
    injection e0 with e0 e0';subst e0 e0'
    have hc:=VRel.cells hx
    obtain ⟨A1,F1,ht⟩:=frz_own t x c A h h2 _ u1 h3 H hc.1 hs hb e1 f1
    have hagg:aggP x=t.agg:=dec_agg t x c h2 h2 e1
    obtain ⟨A2,F2,r2⟩:=ih xs _ A1 h3 h2 y b bs u h' F1.hr (fun i t xs fz e=>by obtain ⟨fz',e'⟩:=F1.sim i t xs fz e;exact hs i t xs fz' e') (fun i x e=>hb i x (F1.box i x e)) (hxs.mono (Gh.le_refl g) F1.le (fun _ _=>rfl)) (hi'.mono F1.le (fun _ _=>rfl) _ _ _ _ (fun _ _=>rfl)) e2 f2
    exact ⟨A2,F1.trans F2,_,_,rfl,⟨by rw [hc.2,hagg],TRel.mono F2.le (fun _ _=>rfl) t _ c ht,rfl⟩,r2⟩
  |io t own=>
   simp only [takeV,Ok_bind,Ok_ret] at e
   obtain ⟨b,h2,e2,rfl,_⟩:=e
   have hs2:=takeV_same r xs.tail hh y.2 b h2 e2
   rw [hs2] at e2
   obtain ⟨v,us,p,q,rfl,rfl,r1,r2⟩:=hi
   simp only [frzArgs] at e'
   obtain ⟨A',F,r3⟩:=ih xs.tail us A h hh y.2 b q u h' H hs hb (listR_tail hv) r2 e2 e'
   exact ⟨A',F,v,us,p,q,rfl,rfl,r1.mono F.le (fun _ _=>rfl) (fun _ _=>rfl),r3⟩
  |mu t=>
   simp only [takeV,Ok_bind,Ok_ret] at e
   obtain ⟨b,h2,e2,rfl,_⟩:=e
   have hs2:=takeV_same r xs.tail hh y.2 b h2 e2
   rw [hs2] at e2
   obtain ⟨v,us,p,q,rfl,rfl,r1,r2⟩:=hi
   simp only [frzArgs] at e'
   obtain ⟨A',F,r3⟩:=ih xs.tail us A h hh y.2 b q u h' H hs hb (listR_tail hv) r2 e2 e'
   exact ⟨A',F,v,us,p,q,rfl,rfl,r1.mono F.le (fun _ _=>rfl) (fun _ _=>rfl),r3⟩
  |eat t=>
   simp only [takeV,Ok_bind,Ok_ret] at e
   obtain ⟨b,h2,e2,rfl,_⟩:=e
   have hs2:=takeV_same r xs.tail hh y.2 b h2 e2
   rw [hs2] at e2
   obtain ⟨v,us,p,q,rfl,rfl,r1,r2⟩:=hi
   simp only [frzArgs] at e'
   obtain ⟨A',F,r3⟩:=ih xs.tail us A h hh y.2 b q u h' H hs hb (listR_tail hv) r2 e2 e'
   exact ⟨A',F,v,us,p,q,rfl,rfl,r1.mono F.le (fun _ _=>rfl) (fun _ _=>rfl),r3⟩
  |clo f t=>
   simp only [takeV,Ok_bind,Ok_ret] at e
   obtain ⟨b,h2,e2,rfl,_⟩:=e
   have hs2:=takeV_same r xs.tail hh y.2 b h2 e2
   rw [hs2] at e2
   obtain ⟨v,us,p,q,rfl,rfl,r1,r2⟩:=hi
   simp only [frzArgs] at e'
   obtain ⟨A',F,r3⟩:=ih xs.tail us A h hh y.2 b q u h' H hs hb (listR_tail hv) r2 e2 e'
   exact ⟨A',F,v,us,p,q,rfl,rfl,r1.mono F.le (fun _ _=>rfl) (fun _ _=>rfl),r3⟩
  |fn f=>
   simp only [takeV] at e
   obtain ⟨v,us,rfl,r1,r2⟩:=hi
   simp only [frzArgs] at e'
   obtain ⟨A',F,r3⟩:=ih xs.tail us A h hh y a bs u h' H hs hb (listR_tail hv) r2 e e'
   exact ⟨A',F,v,us,rfl,r1,r3⟩
theorem Free.put {h:Hp} {id r:Nat} {B:Blk} {s:Slot} (hf:Free g h r) (hg:g id=some s) (hs:s.blk≠some r):Free g ((id,some B)::h) r:=fun i c s' e hl hgi=>by
 rw [at_cons] at e
 split at e
 ·rename_i hi;subst hi;rw [hg] at hgi;injection hgi with hgi;subst hgi;exact hs
 ·exact hf i c s' e hl hgi
theorem impO_ok {t:Ty} {own:Bool} {y:t.den} {n:Nat} {h h':Hp} {cs:List Value} {bs:List Nat} {p:PV × Nat} (H:HR g A W w h) (ho:match own with|true=>OwnT A w t cs y bs|false=>TRel A w t cs y∧bs=[]) (hn:bs.Nodup) (hb:∀r,r∈bs→¬A r∧W r∧Free g h r)
  (e:(impO t own y n).Ok h p h'):∃g',g.le g'∧HR g' A W w h'∧p.1.rel g' A w cs∧(∀r,Free g h r→r∉bs→Free g' h' r)∧aggP p.1=t.agg:=by
 unfold impO at e
 rw [Ok_cond] at e
 rcases e with ⟨h1,e⟩|⟨h1,e⟩
 ·subst h1;exact imp_ok t y n g h cs bs p h' H ho hn hb e
 ·subst h1
  rw [Ok_ret] at e
  obtain ⟨rfl,rfl⟩:=e
  exact ⟨g,Gh.le_refl g,H,mk_rel t y cs ho.1,fun r hf _=>hf,isAgg_mk t y⟩
theorem takeRes_ok (rs:List (Ty × Bool)):∀(g:Gh) (h:Hp) (zs:List Value) (y:(resTy rs).den) (bs:List Nat) (n:Nat) (l:List PV) (h':Hp),HR g A W w h→ResRel A w rs zs y bs→bs.Nodup→(∀r,r∈bs→¬A r∧W r∧Free g h r)→(takeRes rs y n).Ok h l h'→
  ∃g',g.le g'∧HR g' A W w h'∧ListR g' A w l zs:=by
 induction rs with
 |nil=>
  intro g h zs y bs n l h' H hr hn hb e
  simp only [takeRes,Ok_ret] at e
  obtain ⟨rfl,rfl⟩:=e
  obtain ⟨rfl,_⟩:=hr
  exact ⟨g,Gh.le_refl g,H,trivial⟩
 |cons k rs ih=>
  intro g h zs y bs n l h' H hr hn hb e
  obtain ⟨t,own⟩:=k
  simp only [takeRes,Ok_bind,Ok_ret] at e
  obtain ⟨p,h1,e1,q,h2,e2,rfl,rfl⟩:=e
  obtain ⟨v,us,b1,b2,rfl,rfl,⟨hv1,hv2⟩,hr⟩:=hr
  rw [List.nodup_append] at hn
  obtain ⟨g1,l1,H1,r1,f1,a1⟩:=impO_ok H hv2 hn.1 (fun r h=>hb r (by simp [h])) e1
  obtain ⟨g2,l2,H2,r2⟩:=ih g1 h1 us y.2 b2 p.2 q h' H1 hr hn.2.1 (fun r hr=>⟨(hb r (by simp [hr])).1,(hb r (by simp [hr])).2.1,f1 r (hb r (by simp [hr])).2.2 (fun h=>hn.2.2 r h r hr rfl)⟩) e2
  refine ⟨g2,Gh.le_trans l1 l2,H2,?_,r2⟩
  have:VRel g1 A w p.1 v:=by
   have h3:=VRel.of_cells r1
   have h4:ofCells (aggP p.1) v.cells.toList=v:=by
    rw [a1,←hv1]
    cases hx:isAggV v with
    |true=>cases v<;>simp_all [isAggV,ofCells,Value.cells]
    |false=>rw [isAggV_cells hx];rfl
   rw [h4] at h3;exact h3
  exact this.mono l2 (fun _ h=>h) (fun _ _=>rfl)
theorem back_ok (ps:List PK) (rs:List (Ty × Bool)):∀(g:Gh) (h:Hp) (xs:List PV) (vs zs:List Value) (y:(outTy ps rs).den) (bs:List Nat) (n:Nat) (l:List PV) (h':Hp),HR g A W w h→ListR g A w xs vs→OutRel A w ps rs vs zs y bs→bs.Nodup→(∀r,r∈bs→¬A r∧W r∧Free g h r)→(back ps rs xs y n).Ok h l h'→
  ∃g',g.le g'∧HR g' A W w h'∧ListR g' A w l zs:=by
 induction ps with
 |nil=>intro g h xs vs zs y bs n l h' H hv hr hn hb e;exact takeRes_ok rs g h zs y bs n l h' H hr hn hb e
 |cons k r ih=>
  intro g h xs vs zs y bs n l h' H hv hr hn hb e
  cases k with
  |val t=>
   simp only [back] at e
   have hr:OutRel A w r rs vs.tail zs y bs:=hr
   refine ih g h xs.tail vs.tail zs y bs n l h' H ?_ hr hn hb e
   cases vs with
   |nil=>cases xs with
    |nil=>trivial
    |cons x xs=>exact hv.elim
   |cons v us=>exact listR_tail hv
  |fn f=>
   simp only [back] at e
   have hr:OutRel A w r rs vs.tail zs y bs:=hr
   refine ih g h xs.tail vs.tail zs y bs n l h' H ?_ hr hn hb e
   cases vs with
   |nil=>cases xs with
    |nil=>trivial
    |cons x xs=>exact hv.elim
   |cons v us=>exact listR_tail hv
  |eat t=>
   simp only [back] at e
   have hr:OutRel A w r rs vs.tail zs y bs:=hr
   refine ih g h xs.tail vs.tail zs y bs n l h' H ?_ hr hn hb e
   cases vs with
   |nil=>cases xs with
    |nil=>trivial
    |cons x xs=>exact hv.elim
   |cons v us=>exact listR_tail hv
  |mu t=>
   cases xs with
   |nil=>simp only [back,Ok_fail] at e
   |cons x xs=>
    simp only [back] at e
    obtain ⟨u,h1,e1,e2⟩:=(Ok_bind _ _ _ _ _).1 e
    obtain ⟨v,us,b1,b2,rfl,rfl,⟨s,q1,q2,rfl⟩,hr⟩:=hr
    rw [List.nodup_append] at hn
    unfold backRow at e1
    split at e1
    ·rename_i id
     simp only [Q.Ok] at e1
     obtain ⟨_,_,rfl⟩:=e1
     obtain ⟨s',hg,hsl⟩:=to_sl hv.1
     have hss:s'.blk=s.blk∧s'.len=s.len∧s'.cap=s.cap:=by
      unfold SlV at q1 hsl
      cases hb1:s.blk<;>cases hb2:s'.blk<;>rw [hb1] at q1<;>rw [hb2] at hsl
      ·exact ⟨rfl,by rw [q1.2.1,hsl.2.1],by rw [q1.2.2,hsl.2.2]⟩
      ·rw [q1.1] at hsl;cases hsl
      ·rw [q1] at hsl;cases hsl.1
      ·rw [q1] at hsl;injection hsl with h1 h2 h3;injection h1 with h1;injection h1 with h1;exact ⟨by rw [h1],h2.symm,h3.symm⟩
     obtain rfl:s'=s:=by cases s;cases s';simp_all
     have H1:=H.put (id:=id) (b:=.row t y.1 false) ⟨s',hg,q2,fun h=>by cases h⟩ (fun _ s2 r hs hr=>by
      rw [hg] at hs;injection hs with hs;subst hs
      obtain ⟨r1,r2,r3⟩:=hb r (by rw [hr];simp)
      exact ⟨r1,r2,fun j c s3 hj e hl hgj=>r3 j c s3 e hl hgj⟩)
     exact ih g _ xs us zs y.2 b2 n l h' H1 hv.2 hr hn.2.1 (fun r hr=>⟨(hb r (by simp [hr])).1,(hb r (by simp [hr])).2.1,(hb r (by simp [hr])).2.2.put hg (fun h=>hn.2.2 r (by rw [h];simp) r hr rfl)⟩) e2
    ·simp [Q.Ok] at e1
  |io t own=>
   cases xs with
   |nil=>simp only [back,Ok_fail] at e
   |cons x xs=>
    simp only [back] at e
    obtain ⟨m,h1,e1,e2⟩:=(Ok_bind _ _ _ _ _).1 e
    obtain ⟨v,us,b1,b2,rfl,rfl,⟨b,c,ty,p,rfl,q2,rfl,q4⟩,hr⟩:=hr
    rw [List.nodup_append] at hn
    obtain ⟨hn1,hn2,hn3⟩:=hn
    rw [List.nodup_cons] at hn1
    unfold backBox at e1
    split at e1
    ·rename_i id pp
     simp only [Ok_bind,Q.Ok] at e1
     obtain ⟨z,h2,f1,_,rfl,rfl⟩:=e1
     obtain ⟨s,b',hg,hs,hp,_⟩:=rel_ptr hv.1
     injection hp with hp
     injection hp with hp
     injection hp with hp
     subst hp
     obtain ⟨g1,l1,H1,r1,fr1,_⟩:=impO_ok H q4 hn1.2 (fun r hr=>hb r (by simp [hr])) f1
     have hfb:Free g1 h2 b:=fr1 b (hb b (by simp)).2.2 hn1.1
     have H2:=H1.put (id:=id) (b:=.box z.1) ⟨s,b,c,ty,l1 _ _ hg,hs,q2,r1⟩ (fun _ s2 r hs2 hr=>by
      rw [l1 _ _ hg] at hs2;injection hs2 with hs2;subst hs2
      rw [hs] at hr;injection hr with hr;subst hr
      obtain ⟨r1,r2,_⟩:=hb b (by simp)
      exact ⟨r1,r2,fun j c s3 hj e hl hgj=>hfb j c s3 e hl hgj⟩)
     obtain ⟨g2,l2,H3,r3⟩:=ih g1 _ xs us zs y.2 b2 z.2 l h' H2 (hv.2.mono l1 (fun _ h=>h) (fun _ _=>rfl)) hr hn2 (fun r hr=>by
      obtain ⟨k1,k2,k3⟩:=hb r (by simp [hr])
      refine ⟨k1,k2,(fr1 r k3 (fun h=>hn3 r (by simp [h]) r hr rfl)).put (l1 _ _ hg) (fun h=>?_)⟩
      rw [hs] at h;injection h with h;subst h
      exact hn3 b (by simp) b hr rfl) e2
     exact ⟨g2,Gh.le_trans l1 l2,H3,r3⟩
    ·simp [Q.Ok] at e1
  |clo f t=>
   cases xs with
   |nil=>simp only [back,Ok_fail] at e
   |cons x xs=>
    simp only [back] at e
    obtain ⟨m,h1,e1,e2⟩:=(Ok_bind _ _ _ _ _).1 e
    obtain ⟨v,us,b1,b2,rfl,rfl,⟨b,c,ty,p,rfl,q2,rfl,q4⟩,hr⟩:=hr
    rw [List.nodup_append] at hn
    obtain ⟨hn1,hn2,hn3⟩:=hn
    rw [List.nodup_cons] at hn1
    unfold backClo at e1
    split at e1
    ·rename_i f2 pv
     unfold backBox at e1
     split at e1
     ·rename_i id pp
      simp only [Ok_bind,Q.Ok] at e1
      obtain ⟨z,h2,f1,_,rfl,rfl⟩:=e1
      obtain ⟨u0,hu0,hv1⟩:=clo_ptr rfl hv.1
      injection hu0 with _ _ hu0
      have hu0:Value.pointer (some ⟨b,0,none⟩)=u0:=by injection (congrArg Array.toList hu0)
      subst hu0
      obtain ⟨s,b',hg,hs,hp,_⟩:=rel_ptr hv1
      injection hp with hp
      injection hp with hp
      injection hp with hp
      subst hp
      obtain ⟨g1,l1,H1,r1,fr1,_⟩:=impO_ok H q4 hn1.2 (fun r hr=>hb r (by simp [hr])) f1
      have hfb:Free g1 h2 b:=fr1 b (hb b (by simp)).2.2 hn1.1
      have H2:=H1.put (id:=id) (b:=.box z.1) ⟨s,b,c,ty,l1 _ _ hg,hs,q2,r1⟩ (fun _ s2 r hs2 hr=>by
       rw [l1 _ _ hg] at hs2;injection hs2 with hs2;subst hs2
       rw [hs] at hr;injection hr with hr;subst hr
       obtain ⟨r1,r2,_⟩:=hb b (by simp)
       exact ⟨r1,r2,fun j c s3 hj e hl hgj=>hfb j c s3 e hl hgj⟩)
      obtain ⟨g2,l2,H3,r3⟩:=ih g1 _ xs us zs y.2 b2 z.2 l h' H2 (hv.2.mono l1 (fun _ h=>h) (fun _ _=>rfl)) hr hn2 (fun r hr=>by
       obtain ⟨k1,k2,k3⟩:=hb r (by simp [hr])
       refine ⟨k1,k2,(fr1 r k3 (fun h=>hn3 r (by simp [h]) r hr rfl)).put (l1 _ _ hg) (fun h=>?_)⟩
       rw [hs] at h;injection h with h;subst h
       exact hn3 b (by simp) b hr rfl) e2
      exact ⟨g2,Gh.le_trans l1 l2,H3,r3⟩
     ·simp [Q.Ok] at e1
    ·simp [Q.Ok] at e1
theorem pack_rel {l:List PV} {zs:List Value} (h:ListR g A w l zs):VRel g A w (pack l) (packV zs):=by
 have ht:∀{l:List PV} {zs:List Value},ListR g A w l zs→tups g A w l zs:=fun {l}=>by
  induction l with
  |nil=>intro zs h;rw [listR_nil h];unfold tups;rfl
  |cons x xs ih=>
   intro zs h
   obtain ⟨v,us,rfl,hx,hxs⟩:=listR_cons h
   unfold tups
   exact ⟨v,us,rfl,hx,ih hxs⟩
 cases l with
 |nil=>
  rw [listR_nil h]
  unfold VRel pack packV;simp only [aggP];unfold PV.rel
  exact ⟨_,rfl,ht trivial⟩
 |cons x xs=>
  obtain ⟨v,us,rfl,hx,hxs⟩:=listR_cons h
  cases xs with
  |nil=>rw [listR_nil hxs];exact hx
  |cons x2 xs=>
   obtain ⟨v2,us2,rfl,hx2,hxs2⟩:=listR_cons hxs
   unfold VRel pack packV;simp only [aggP];unfold PV.rel
   exact ⟨_,rfl,ht h⟩
theorem ValRel.noImm {A':Nat→Prop} {w:World} {t:Ty} {own:Bool} {v:Value} {x:t.den} {bs:List Nat} (hi:hasImm t own=false) (h:ValRel A' w t own v x bs):ValRel A w t own v x bs:=by
 refine ⟨h.1,?_⟩
 cases own with
 |false=>
  have hf:t.flat=true:=by simpa [hasImm] using hi
  exact ⟨TRel.flat t _ x hf h.2.1,h.2.2⟩
 |true=>
  have go:∀(t:Ty) (cs:List Value) (x:t.den) (bs:List Nat),hasImm t true=false→OwnT A' w t cs x bs→OwnT A w t cs x bs:=by
   intro t
   induction t with
   |slice u _=>
    intro cs x bs hi ⟨s,v,h1,h2,⟨h3,h4⟩,h5⟩
    have hf:u.flat=true:=by simpa [hasImm] using hi
    refine ⟨s,v,h1,h2,⟨h3,?_⟩,h5⟩
    cases hs:s.blk with
    |none=>rw [hs] at h4;exact h4
    |some b=>rw [hs] at h4;obtain ⟨k1,c,e,k2,k3,k4⟩:=h4;exact ⟨k1,c,e,k2,k3,k4.mono (fun c x=>TRel.flat u c x hf)⟩
   |pair a b iha ihb=>
    intro cs x bs hi ⟨c,d,p,q,h1,h2,h3,h4⟩
    have hi:hasImm a true=false∧hasImm b true=false:=by simpa [hasImm] using hi
    exact ⟨c,d,p,q,h1,h2,iha _ _ _ hi.1 h3,ihb _ _ _ hi.2 h4⟩
   |unit=>intro cs x bs _ h;exact h
   |int k=>intro cs x bs _ h;exact h
   |bool=>intro cs x bs _ h;exact h
   |str=>intro cs x bs _ h;exact h
   |arr n u _=>
    intro cs x bs hi h
    have hf:u.flat=true:=by simpa [hasImm] using hi
    exact ⟨TRel.flat (.arr n u) cs x hf h.1,h.2⟩
  exact go t _ x bs hi h.2
theorem ValRel.mono {A':Nat→Prop} (hA:∀r,A r→A' r) {t:Ty} {own:Bool} {v:Value} {x:t.den} {bs:List Nat} (h:ValRel A w t own v x bs):ValRel A' w t own v x bs:=by
 refine ⟨h.1,?_⟩
 cases own with
 |true=>exact OwnT.mono hA (fun _ _=>rfl) t _ x bs (fun _ _=>rfl) h.2
 |false=>exact ⟨TRel.mono hA (fun _ _=>rfl) t _ x h.2.1,h.2.2⟩
theorem ResRel.mono {A':Nat→Prop} (hA:∀r,A r→A' r) (rs:List (Ty × Bool)):∀(zs:List Value) (y:(resTy rs).den) (bs:List Nat),ResRel A w rs zs y bs→ResRel A' w rs zs y bs:=by
 induction rs with
 |nil=>intro zs y bs h;exact h
 |cons k rs ih=>
  obtain ⟨t,own⟩:=k
  intro zs y bs ⟨v,us,p,q,h1,h2,h3,h4⟩
  exact ⟨v,us,p,q,h1,h2,h3.mono hA,ih us y.2 q h4⟩
theorem OutRel.mono {A':Nat→Prop} (hA:∀r,A r→A' r) (ps:List PK) (rs:List (Ty × Bool)):∀(vs zs:List Value) (y:(outTy ps rs).den) (bs:List Nat),OutRel A w ps rs vs zs y bs→OutRel A' w ps rs vs zs y bs:=by
 induction ps with
 |nil=>intro vs zs y bs h;exact ResRel.mono hA rs zs y bs h
 |cons k ps ih=>
  intro vs zs y bs h
  cases k with
  |val t=>exact ih vs.tail zs y bs h
  |fn f=>exact ih vs.tail zs y bs h
  |eat t=>exact ih vs.tail zs y bs h
  |clo f t=>
   obtain ⟨v,us,p,q,h1,h2,h3,h4⟩:=h
   exact ⟨v,us,p,q,h1,h2,h3.mono hA (fun _ _=>rfl) (fun _ _=>rfl),ih us zs y.2 q h4⟩
  |mu t=>
   obtain ⟨v,us,p,q,h1,h2,h3,h4⟩:=h
   exact ⟨v,us,p,q,h1,h2,h3.mono hA (fun _ _=>rfl) (fun _ _=>rfl),ih us zs y.2 q h4⟩
  |io t own=>
   obtain ⟨v,us,p,q,h1,h2,h3,h4⟩:=h
   exact ⟨v,us,p,q,h1,h2,h3.mono hA (fun _ _=>rfl) (fun _ _=>rfl),ih us zs y.2 q h4⟩
theorem ResRel.noImm {A':Nat→Prop} (rs:List (Ty × Bool)):∀(zs:List Value) (y:(resTy rs).den) (bs:List Nat),(rs.any fun r=>hasImm r.1 r.2)=false→ResRel A' w rs zs y bs→ResRel A w rs zs y bs:=by
 induction rs with
 |nil=>intro zs y bs _ h;exact h
 |cons k rs ih=>
  obtain ⟨t,own⟩:=k
  intro zs y bs hi ⟨v,us,p,q,h1,h2,h3,h4⟩
  rw [List.any_cons,Bool.or_eq_false_iff] at hi
  exact ⟨v,us,p,q,h1,h2,h3.noImm hi.1,ih us y.2 q hi.2 h4⟩
theorem OutRel.noImm {A':Nat→Prop} (ps:List PK) (rs:List (Ty × Bool)) (hrs:(rs.any fun r=>hasImm r.1 r.2)=false):∀(vs zs:List Value) (y:(outTy ps rs).den) (bs:List Nat),(ps.any fun p=>match p with
  |.io t own=>hasImm t own
  |.mu t=>!t.flat
  |.eat t=>!t.flat
  |.clo _ t=>!t.flat
  |_=>false)=false→OutRel A' w ps rs vs zs y bs→OutRel A w ps rs vs zs y bs:=by
 induction ps with
 |nil=>intro vs zs y bs _ h;exact ResRel.noImm rs zs y bs hrs h
 |cons k ps ih=>
  intro vs zs y bs hi h
  rw [List.any_cons,Bool.or_eq_false_iff] at hi
  cases k with
  |val t=>exact ih vs.tail zs y bs hi.2 h
  |fn f=>exact ih vs.tail zs y bs hi.2 h
  |eat t=>exact ih vs.tail zs y bs hi.2 h
  |clo f t=>
   obtain ⟨v,us,p,q,h1,h2,⟨b,c,e,p',k1,k2,k3,k4⟩,h4⟩:=h
   have hf:t.flat=true:=by simpa using hi.1
   exact ⟨v,us,p,q,h1,h2,⟨b,c,e,p',k1,k2,k3,⟨TRel.flat t _ _ hf k4.1,k4.2⟩⟩,ih us zs y.2 q hi.2 h4⟩
  |mu t=>
   obtain ⟨v,us,p,q,h1,h2,⟨s,k1,⟨k2,k3⟩,k4⟩,h4⟩:=h
   have hf:t.flat=true:=by simpa using hi.1
   refine ⟨v,us,p,q,h1,h2,⟨s,k1,⟨k2,?_⟩,k4⟩,ih us zs y.2 q hi.2 h4⟩
   cases hs:s.blk with
   |none=>rw [hs] at k3;exact k3
   |some b=>rw [hs] at k3;obtain ⟨m1,c,e,m2,m3,m4⟩:=k3;exact ⟨m1,c,e,m2,m3,m4.mono (fun c x=>TRel.flat t c x hf)⟩
  |io t own=>
   obtain ⟨v,us,p,q,h1,h2,⟨b,c,e,p',k1,k2,k3,k4⟩,h4⟩:=h
   have hv:ValRel A' w t own (ofCells t.agg c.toList) y.1 p'→ValRel A w t own (ofCells t.agg c.toList) y.1 p':=fun h=>h.noImm hi.1
   refine ⟨v,us,p,q,h1,h2,⟨b,c,e,p',k1,k2,k3,?_⟩,ih us zs y.2 q hi.2 h4⟩
   have hcells:t.agg=true→(ofCells t.agg c.toList).cells.toList=c.toList:=fun h=>by rw [h];rfl
   cases own with
   |false=>
    have hf:t.flat=true:=by have:=hi.1;simpa [hasImm] using this
    exact ⟨TRel.flat t _ _ hf k4.1,k4.2⟩
   |true=>
    cases ha:t.agg with
    |true=>
     have:=hv ⟨by rw [ha];rfl,by rw [hcells ha];exact k4⟩
     have h5:=this.2
     rw [hcells ha] at h5;exact h5
    |false=>
     cases t with
     |slice u=>
      obtain ⟨s,v0,m1,m2,⟨m3,m4⟩,m5⟩:=k4
      have hf:u.flat=true:=by have:=hi.1;simpa [hasImm] using this
      refine ⟨s,v0,m1,m2,⟨m3,?_⟩,m5⟩
      cases hs:s.blk with
      |none=>rw [hs] at m4;exact m4
      |some b=>rw [hs] at m4;obtain ⟨n1,c2,e2,n2,n3,n4⟩:=m4;exact ⟨n1,c2,e2,n2,n3,n4.mono (fun c x=>TRel.flat u c x hf)⟩
     |int k=>exact k4
     |bool=>exact k4
     |str=>exact k4
     |unit=>cases ha
     |pair a b=>cases ha
     |arr n u=>cases ha
theorem call_ok {P:Program} {gl:List (Nat × PV)} {f:FuncId} {F:Fun} (hG:GlOk gl A w) (hF:FnSpec P gl f F) {xs:List PV} {vs:List Value} {nw:Nat} {h h':Hp} {x:PV} (H:HR g A W w h) (hW:∀r,w.heap.size≤r→W r) (hv:ListR g A w xs vs) (e:(callQ F xs nw).Ok h x h'):
  Calls P f vs.toArray w fun e w'=>∃g' A' v,e=.returned v∧Step g A W w g' A' w' h'∧VRel g' A' w' x v:=by
 simp only [callQ,Ok_bind,Q.Ok] at e
 obtain ⟨y,h1,e1,a,h2,e2,u,h3,e3,z,hz,l,h4,e4,rfl,rfl⟩:=e
 obtain ⟨A1,bs,G,hio⟩:=takeIO_ok F.sig.ps xs vs A h y h1 H hv e1
 have hs2:=takeV_same F.sig.ps xs h1 y a h2 e2
 subst hs2
 have hv1:ListR g A1 w xs vs:=hv.mono (Gh.le_refl g) G.le (fun _ _=>rfl)
 obtain ⟨A2,Ac,F3,hAA,hAc,hargs,hAcW⟩:∃A2 Ac,Frz g A1 W w h2 A2 h3∧(∀r,A r→Ac r)∧(∀r,Ac r→r<w.heap.size∧¬r∈bs)∧ArgsRel Ac w F.sig.ps vs a bs∧(F.sig.needs=true→∀r,Ac r→A2 r):=by
  rw [Ok_cond] at e3
  rcases e3 with ⟨hn,e3⟩|⟨hn,e3⟩
  ·obtain ⟨A2,F3,r1⟩:=frzArgs_ok F.sig.ps xs vs A1 h2 h2 y a bs u h3 G.hr (fun _ _ _ fz e=>⟨fz,e⟩) (fun _ _ e=>e) hv1 hio e2 e3
   exact ⟨A2,A2,F3,fun r hr=>F3.le r (G.le r hr),fun r hr=>⟨F3.hr.lt r hr,fun hb=>(G.out r hb).1 ((F3.free r (G.free r hb).1).2 hr)⟩,r1,fun _ r h=>h⟩
  ·rw [Ok_ret] at e3
   obtain ⟨_,rfl⟩:=e3
   refine ⟨A1,Rd g A1 h3,.refl G.hr,fun r hr=> .inl (G.le r hr),fun r hr=>?_,takeV_ok F.sig.ps xs vs h3 y a h3 bs G.hr hv1 hio e2,fun h=>by rw [hn] at h;cases h⟩
   rcases hr with hr|⟨i,b,s,k1,k2,k3⟩
   ·exact ⟨G.hr.lt r hr,fun hb=>(G.out r hb).1 hr⟩
   ·refine ⟨(G.hr.blk i b k1).lt k2 k3,fun hb=>?_⟩
    cases hl:b.live with
    |true=>exact (G.free r hb).1 i b s k1 hl k2 k3
    |false=>
     cases b with
     |box x=>cases hl
     |row t xs fz=>
      cases fz with
      |false=>cases hl
      |true=>
       obtain ⟨s',m1,_,m3⟩:=G.hr.blk i _ k1
       rw [k2] at m1;injection m1 with m1;subst m1
       exact (G.out r hb).1 (m3 rfl r k3)
 refine (hF.calls w Ac vs a bs z (hG.mono hAA (fun _ _=>rfl)) hargs G.nodup (fun r hr=>⟨fun h=>(hAc r h).2 hr,(G.out r hr).2.2⟩) (fun r hr=>(hAc r hr).1) hz).mono fun e w' D=>?_
 obtain ⟨⟨zs,A',bs',rfl,o1,o2,o3,o4,o5⟩,K⟩:=D
 have hWc:∀r,(w.heap.size≤r∨r∈bs)→W r:=fun r hr=>hr.elim (hW r) (fun h=>(G.out r h).2.1)
 have hsame:∀r,r<w.heap.size→¬r∈bs→w'.heap[r]?=w.heap[r]?:=fun r hr hb=>K.block r hr (fun h=>h.elim (fun h=>by omega) hb)
 have hlive:∀i b s r,h3.at i=some b→g i=some s→s.blk=some r→r<w.heap.size∧¬r∈bs:=fun i b s r k1 k2 k3=>by
  refine ⟨(F3.hr.blk i b k1).lt k2 k3,fun hb=>?_⟩
  have hfr:=F3.free r (G.free r hb).1
  cases hl:b.live with
  |true=>exact hfr.1 i b s k1 hl k2 k3
  |false=>
   cases b with
   |box x=>cases hl
   |row t xs fz=>
    cases fz with
    |false=>cases hl
    |true=>
     obtain ⟨s',m1,_,m3⟩:=F3.hr.blk i _ k1
     rw [k2] at m1;injection m1 with m1;subst m1
     exact (G.out r hb).1 (hfr.2 (m3 rfl r k3))
 have hA2:∀r,A2 r→r<w.heap.size∧¬r∈bs:=fun r hr=>⟨F3.hr.lt r hr,fun hb=>(G.out r hb).1 ((F3.free r (G.free r hb).1).2 hr)⟩
 have H3:HR g A2 W w' h3:=F3.hr.move (fun r hr=>hsame r (hA2 r hr).1 (hA2 r hr).2) (fun i b s r k1 k2 k3=>hsame r (hlive i b s r k1 k2 k3).1 (hlive i b s r k1 k2 k3).2) K.size
 have hfree:∀r,(w.heap.size≤r∨r∈bs)→Free g h3 r:=fun r hr i b s k1 _ k2 k3=>by
  have:=hlive i b s r k1 k2 k3
  exact hr.elim (fun h=>by omega) this.2
 obtain ⟨A3,hA3,hA3in,H4,o1'⟩:∃A3:Nat→Prop,(∀r,A2 r→A3 r)∧(∀r,A3 r→A2 r∨(F.sig.needs=true∧A' r))∧HR g A3 W w' h3∧OutRel A3 w' F.sig.ps F.sig.rs vs zs z bs':=by
  cases hn:F.sig.needs with
  |true=>
   refine ⟨fun r=>A2 r∨A' r,fun r h=> .inl h,fun r h=>h.imp id (fun h=>⟨rfl,h⟩),H3.more (fun r h=> .inl h) (fun r hr=>?_) (fun r hr=>?_),OutRel.mono (fun r h=> .inr h) F.sig.ps F.sig.rs vs zs z bs' o1⟩
   ·rcases hr with hr|hr
    ·exact .inr hr
    ·rcases o4 r hr with h|h
     ·exact .inr (hAcW hn r h)
     ·exact .inl (hfree r h)
   ·rcases hr with hr|hr
    ·exact H3.lt r hr
    ·exact o5 r hr
  |false=>
   have hn':(F.sig.rs.any fun r=>hasImm r.1 r.2)=false∧(F.sig.ps.any fun p=>match p with
    |.io t own=>hasImm t own
    |.mu t=>!t.flat
    |.eat t=>!t.flat
    |.clo _ t=>!t.flat
    |_=>false)=false:=by
    unfold Sig.needs at hn
    rw [Bool.or_eq_false_iff] at hn
    exact hn
   exact ⟨A2,fun _ h=>h,fun _ h=> .inl h,H3,OutRel.noImm F.sig.ps F.sig.rs hn'.1 vs zs z bs' hn'.2 o1⟩
 have hb':∀r,r∈bs'→¬A3 r∧W r∧Free g h3 r:=fun r hr=>by
  obtain ⟨k1,k2,k3⟩:=o3 r hr
  refine ⟨fun h=>?_,hWc r k2,hfree r k2⟩
  rcases hA3in r h with h|h
  ·have:=hA2 r h
   exact k2.elim (fun h=>by omega) this.2
  ·exact k1 h.2
 have hv3:ListR g A3 w' xs vs:=hv.mono (Gh.le_refl g) (fun r h=>hA3 r (F3.le r (G.le r h))) (fun r hr=>hsame r (hA2 r (F3.le r (G.le r hr))).1 (hA2 r (F3.le r (G.le r hr))).2)
 obtain ⟨g',l',H5,hl⟩:=back_ok F.sig.ps F.sig.rs g h3 xs vs zs z bs' nw l h' H4 hv3 o1' o2 hb' e4
 refine ⟨g',A3,_,rfl,⟨l',fun r h=>hA3 r (F3.le r (G.le r h)),fun r h=>?_,H5,fun r hr=>hsame r (hA2 r (F3.le r (G.le r hr))).1 (hA2 r (F3.le r (G.le r hr))).2,⟨K.os,K.tape,K.output,K.size,fun r hr hn=>hsame r hr (fun h=>hn (G.out r h).2.1)⟩⟩,pack_rel hl⟩
 rcases hA3in r h with h|h
 ·exact (F3.in' r h).elim (G.in' r) .inr
 ·rcases o4 r h.2 with h'|h'
  ·exact (F3.in' r (hAcW h.1 r h')).elim (G.in' r) .inr
  ·exact .inr (hWc r h')
end
end Go.Proofs.YtkihjakbbcajbaaGreat.PM
namespace Go.Proofs.YtkihjakbbcajbaaGreat.PM
set_option linter.unusedSimpArgs false
set_option linter.unusedVariables false
open Go
section
variable {P:Program} {E:Env} {t:TypeId} {g:Gh} {A W:Nat→Prop} {w:World} {h:Hp}
theorem append_ok (hT:tabB P E.tl=true) (ty:TypeId) (H:HR g A W w h) (hW:∀r,w.heap.size≤r→W r) {s x y:PV} {vs vx:Value} {share:Bool} {nw:Nat} {h':Hp} (hs:VRel g A w s vs) (hx:VRel g A w x vx) (e:(appendQ E t s x share nw).Ok h y h'):
  ∃g' A' w' v,(Builtin.append_ #[t,t] ty #[vs,vx]).run P w=.ok v w'∧Step g A W w g' A' w' h'∧VRel g' A' w' y v:=by
 simp only [appendQ,Ok_bind,Ok_cond,Ok_fail,and_false,or_false] at e
 obtain ⟨u,h1,e1,hs1,ys,h2,e2,s',h3,e3,e4⟩:=e
 obtain ⟨hE,rfl⟩:=elem_out e1
 have hty:tyB P (.slice u) t=true:=tabB_look hT hE
 obtain ⟨rfl,hsh⟩:=dec_shown H hx e2
 obtain ⟨g1,S1,hs',_⟩:=seat_ok H hs e3
 obtain ⟨g2,A2,w2,v,r,S2,hy⟩:=appendTo_ok (Nat.le_of_ble_eq_true hs1) S1.hr hW hs' (AppSrc.of_shown hty ty hsh) e4
 exact ⟨g2,A2,w2,v,r,S1.trans S2,hy⟩
theorem appendZ_ok (hT:tabB P E.tl=true) (ty:TypeId) (H:HR g A W w h) (hW:∀r,w.heap.size≤r→W r) {t':TypeId} {s x y:PV} {vs vx:Value} {share:Bool} {nw:Nat} {h':Hp} (hs:VRel g A w s vs) (hx:VRel g A w x vx) (e:(appendZQ E t t' s x share nw).Ok h y h'):
  ∃g' A' w' v,(Builtin.append_ #[t,t'] ty #[vs,vx]).run P w=.ok v w'∧Step g A W w g' A' w' h'∧VRel g' A' w' y v:=by
 simp only [appendZQ,Ok_bind] at e
 obtain ⟨u,h1,e1,τ,h2,e2,e⟩:=e
 obtain ⟨hE,rfl⟩:=elem_out e1
 obtain ⟨hE2,rfl⟩:=data_out e2
 have hty:tyB P (.slice u) t=true:=tabB_look hT hE
 have hty2:tyB P τ t'=true:=tabB_look hT hE2
 split at e
 ·rename_i k n
  simp only [Ok_cond,Ok_fail,and_false,or_false,Ok_ask,Ok_bind,Bool.and_eq_true,decide_eq_true_eq] at e
  obtain ⟨hs1,⟨hn,hlim⟩,s',h3,e3,e4⟩:=e
  have hs1:=Nat.le_of_ble_eq_true hs1
  have hlim:=lim_out hlim
  obtain rfl:=v_int hx
  obtain ⟨g1,S1,hs',_⟩:=seat_ok H hs e3
  have hnn:(n:Int)=((n:Int).toNat:Int):=by rw [Int.toNat_of_nonneg hn]
  have hk:P.underlying t'=some (.int k):=by
   simp only [tyB_int,Bool.and_eq_true] at hty2
   have h2:=hty2.2
   split at h2
   ·rename_i j hj;rw [hj,of_decide_eq_true h2]
   ·cases h2
  have src:=AppSrc.of_zero (A:=A) (w:=w) hty hk ty hlim hs1
  rw [←hnn] at src
  obtain ⟨g2,A2,w2,v,r,S2,hy⟩:=appendTo_ok hs1 S1.hr hW hs' src e4
  exact ⟨g2,A2,w2,v,r,S1.trans S2,hy⟩
 ·exact e.elim
theorem places_ok:∀(τ:Ty) (fs:List Field) (o:Nat),fldB P τ fs o=true→∃places,fs.mapM (fun f=>(P.info? f.type).map fun i=>(f.offset,i.size))=some places∧∀i u k,fldTy τ i=some u→fldOff τ i=some k→places[i]?=some (o+k,u.size)
 |.pair a b,fs,o,h=>by
  cases fs with
  |nil=>simp [fldB_pair1,fldB_pair0,fldB_unit1,fldB_unit0,fldB_int,fldB_bool,fldB_str,fldB_arr,fldB_slice] at h
  |cons f fs=>
   simp only [fldB_pair1,fldB_pair0,fldB_unit1,fldB_unit0,fldB_int,fldB_bool,fldB_str,fldB_arr,fldB_slice,Bool.and_eq_true] at h
   obtain ⟨pl,h1,h2⟩:=places_ok b fs (o+a.size) h.2.2
   obtain ⟨i,z,hi,hs,_⟩:=tyB_info h.2.1
   refine ⟨(f.offset,i.size)::pl,by simp [List.mapM_cons,hi,h1],fun i u k e e'=>?_⟩
   cases i with
   |zero=>
    simp only [fldTy,Option.some.injEq] at e
    simp only [fldOff,Option.some.injEq] at e'
    subst e e'
    simp [hs,Nat.eq_of_beq_eq_true h.1]
   |succ i=>
    simp only [fldTy] at e
    simp only [fldOff,Option.map_eq_some_iff] at e'
    obtain ⟨k',e1,rfl⟩:=e'
    have:=h2 i u k' e e1
    simp [this,Nat.add_assoc]
 |.unit,fs,o,h=>by
  cases fs with
  |nil=>exact ⟨[],rfl,fun _ _ _ e=>by simp [fldTy] at e⟩
  |cons f fs=>simp [fldB_pair1,fldB_pair0,fldB_unit1,fldB_unit0,fldB_int,fldB_bool,fldB_str,fldB_arr,fldB_slice] at h
 |.int _,_,_,h=>by simp [fldB_pair1,fldB_pair0,fldB_unit1,fldB_unit0,fldB_int,fldB_bool,fldB_str,fldB_arr,fldB_slice] at h
 |.bool,_,_,h=>by simp [fldB_pair1,fldB_pair0,fldB_unit1,fldB_unit0,fldB_int,fldB_bool,fldB_str,fldB_arr,fldB_slice] at h
 |.str,_,_,h=>by simp [fldB_pair1,fldB_pair0,fldB_unit1,fldB_unit0,fldB_int,fldB_bool,fldB_str,fldB_arr,fldB_slice] at h
 |.arr _ _,_,_,h=>by simp [fldB_pair1,fldB_pair0,fldB_unit1,fldB_unit0,fldB_int,fldB_bool,fldB_str,fldB_arr,fldB_slice] at h
 |.slice _,_,_,h=>by simp [fldB_pair1,fldB_pair0,fldB_unit1,fldB_unit0,fldB_int,fldB_bool,fldB_str,fldB_arr,fldB_slice] at h
theorem putF_ok {τ:Ty} {place:Nat→Option (Nat × Nat)} (hpl:∀i u k,fldTy τ i=some u→fldOff τ i=some k→place i=some (k,u.size)):∀(ps:List (Nat × PV)) (qs:List (Nat × Value)) (g:Gh) (h:Hp) (xs ys:List PV) (n:Nat) (cs:Array Value) (h':Hp),HR g A W w h→PRel g A w ps qs→rels g A w xs cs.toList→(putF τ ps xs n).Ok h ys h'→
  ∃g' cs',Step g A W w g' A w h'∧Instr.fill place cs qs=some cs'∧rels g' A w ys cs'.toList
 |[],[],g,h,xs,ys,n,cs,h',H,_,hc,e=>by
  simp only [putF,Ok_ret] at e
  obtain ⟨rfl,rfl⟩:=e
  exact ⟨g,cs,.refl H,rfl,hc⟩
 |(i,x)::ps,(j,v)::qs,g,h,xs,ys,n,cs,h',H,hp,hc,e=>by
  obtain ⟨rfl,hv,hp⟩:=hp
  unfold putF at e
  split at e
  ·rename_i u o hu ho
   simp only [Ok_bind] at e
   obtain ⟨x',h1,e1,e⟩:=e
   obtain ⟨g1,S1,hx',_⟩:=seat_ok H hv e1
   split at e
   ·rename_i old hold
    simp only [Ok_cond,Ok_fail,and_false,or_false,Bool.and_eq_true] at e
    obtain ⟨⟨hf,hsz⟩,e⟩:=e
    have hsz:=Nat.eq_of_beq_eq_true hsz
    have hxr:=(VRel.cells hx').1
    have hxl:v.cells.toList.length=u.size:=by rw [PV.rel_len _ _ hxr,(fits_ok u x' hf).2]
    obtain ⟨pre,zs,post,c1,c2,c3,c4⟩:=setI_rel xs i o cs.toList old x' v.cells.toList (rels_mono S1.le (fun _ h=>h) (fun _ _=>rfl) _ _ hc) hold hxr (by rw [hxl,hsz])
    have hzl:zs.length=u.size:=by rw [PV.rel_len _ _ c3,hsz]
    have hsum:cs.size=o+u.size+post.length:=by
     have:=congrArg List.length c1
     rw [Array.length_toList,List.length_append,List.length_append,c2,hzl] at this;exact this
    obtain ⟨cs1,f1,f2,f3⟩:=fill_step (place:=place) (rest:=qs) (hpl i u o hu ho) (by rw [←Array.length_toList];exact hxl) (cells:=cs) (by omega)
    have hcs1:cs1.toList=pre++v.cells.toList++post:=by
     rw [f2,c1]
     congr 1
     ·congr 1
      rw [List.append_assoc,←c2,List.take_left]
     ·have:o+u.size=(pre++zs).length:=by rw [List.length_append,c2,hzl]
      rw [this,List.drop_left]
    obtain ⟨g2,cs2,S2,r1,r2⟩:=putF_ok hpl ps qs g1 h1 _ ys (n+1) cs1 h' S1.hr (hp.mono S1.le (fun _ h=>h)) (by rw [hcs1];exact c4) e
    exact ⟨g2,cs2,S1.trans S2,by rw [f1];exact r1,r2⟩
   ·simp [Q.Ok] at e
  ·simp [Q.Ok] at e
 |[],_::_,_,_,_,_,_,_,_,_,hp,_,_=>hp.elim
 |_::_,[],_,_,_,_,_,_,_,_,hp,_,_=>hp.elim
theorem build_struct {τ:Ty} {fs:Array Field} (hty:tyB P τ t=true) (hu:P.underlying t=some (.struct fs)) (hfs:fldB P τ fs.toList 0=true) (H:HR g A W w h) {ps:List (Nat × PV)} {qs:List (Nat × Value)} (hp:PRel g A w ps qs) {nw:Nat} {y:PV} {h':Hp}
  (e:((imp τ τ.zero nw).bind fun z=>match z.1 with
   |.agg xs=>(putF τ ps xs z.2).bind fun xs=> .ret (.agg xs)
   |_=> .fail).Ok h y h'):
  ∃g' v,(Instr.build t qs.toArray).run P w=.ok v w∧Step g A W w g' A w h'∧VRel g' A w y v:=by
 simp only [Ok_bind] at e
 obtain ⟨z,h1,e1,e⟩:=e
 obtain ⟨i,z0,hi,hi2,_,hi4,hz,_⟩:=tyB_info hty
 obtain ⟨g1,l1,H1,r1,_,_⟩:=imp_ok τ τ.zero nw g h (zcells τ) [] z h1 H (zcells_own A w τ) List.nodup_nil (by simp) e1
 have S1:Step g A W w g1 A w h1:=⟨l1,fun _ h=>h,fun _ h=> .inl h,H1,fun _ _=>rfl,.refl W w⟩
 obtain ⟨pl,p1,p2⟩:=places_ok τ fs.toList 0 hfs
 split at e
 ·rename_i xs hx
  rw [hx] at r1
  unfold PV.rel at r1
  simp only [Ok_bind,Ok_ret] at e
  obtain ⟨ys,h2,e2,rfl,rfl⟩:=e
  obtain ⟨g2,cs,S2,f1,f2⟩:=putF_ok (place:=fun i=>pl.toArray[i]?) (fun i u k e e'=>by have:=p2 i u k e e';simpa using this) ps qs g1 h1 xs ys z.2 z0.cells h' H1 (hp.mono l1 (fun _ h=>h)) (by rw [hz];exact r1) e2
  refine ⟨g2,.agg cs,run_build w t qs.toArray cs ?_,S1.trans S2,⟨cs,rfl,by unfold PV.rel;exact f2⟩⟩
  unfold Program.built
  simp only [hi,hu,hi4,p1]
  exact f1
 ·simp [Q.Ok] at e
theorem build_ok (hT:tabB P E.tl=true) (H:HR g A W w h) {ps:List (Nat × PV)} {qs:List (Nat × Value)} (hp:PRel g A w ps qs) {nw:Nat} {y:PV} {h':Hp} (e:(buildQ E t ps nw).Ok h y h'):
  ∃g' A' v,(Instr.build t qs.toArray).run P w=.ok v w∧Step g A W w g' A' w h'∧VRel g' A' w y v:=by
 simp only [buildQ,Ok_bind] at e
 obtain ⟨τ,h1,e1,e⟩:=e
 obtain ⟨hE,rfl⟩:=data_out e1
 have hty:tyB P τ t=true:=tabB_look hT hE
 cases τ with
 |arr n u=>
  simp only [Ok_bind,Ok_ret] at e
  obtain ⟨xs,h2,e2,rfl,rfl⟩:=e
  obtain ⟨e0,hu,he⟩:=arr_und hty
  obtain ⟨i,z,hi,hi2,_,hi4,hz,_⟩:=tyB_info hty
  obtain ⟨j,z',hj,hj2,_⟩:=tyB_info he
  have hz0:=zcells_rel A w (.arr n u)
  rw [←hz] at hz0
  unfold TRel at hz0
  obtain ⟨A1,cs,F,f1,f2,f3⟩:=putA_ok ps qs A h1 _ xs _ h' H hp hz0.2 e2
  refine ⟨g,A1,.agg cs,run_build w t qs.toArray cs ?_,F.step,⟨cs,rfl,?_⟩⟩
  ·unfold Program.built
   simp only [hi,hu,hi4,hj,hj2]
   exact f1
  ·unfold PV.rel TRel
   exact ⟨by rw [f3];exact hz0.1,f2⟩
 |unit=>
  have hty':=hty
  simp only [tyB_int,tyB_bool,tyB_str,tyB_unit,tyB_pair,tyB_arr,tyB_slice,Bool.and_eq_true] at hty'
  obtain ⟨_,hu⟩:=hty'
  split at hu
  ·rename_i fs hfs
   obtain ⟨g',v,r⟩:=build_struct hty hfs (by rw [List.isEmpty_iff.1 hu];simp [fldB_pair1,fldB_pair0,fldB_unit1,fldB_unit0,fldB_int,fldB_bool,fldB_str,fldB_arr,fldB_slice]) H hp e
   exact ⟨g',A,v,r⟩
  ·cases hu
 |pair a b=>
  have hty':=hty
  simp only [tyB_int,tyB_bool,tyB_str,tyB_unit,tyB_pair,tyB_arr,tyB_slice,Bool.and_eq_true] at hty'
  obtain ⟨_,hu⟩:=hty'
  split at hu
  ·rename_i fs hfs
   obtain ⟨g',v,r⟩:=build_struct hty hfs hu H hp e
   exact ⟨g',A,v,r⟩
  ·cases hu
 |int k=>
  simp [imp,Ok_bind,Q.Ok] at e
  obtain ⟨a,b,h1,⟨⟨rfl,_⟩,_⟩,e⟩:=e
  exact e.elim
 |bool=>
  simp [imp,Ok_bind,Q.Ok] at e
  obtain ⟨a,b,h1,⟨⟨rfl,_⟩,_⟩,e⟩:=e
  exact e.elim
 |str=>
  simp [imp,Ok_bind,Q.Ok] at e
  obtain ⟨a,b,h1,⟨⟨rfl,_⟩,_⟩,e⟩:=e
  exact e.elim
 |slice u=>
  simp [imp,Ok_bind,Q.Ok] at e
  obtain ⟨a,b,h1,⟨_,⟨rfl,_⟩,_⟩,e⟩:=e
  exact e.elim
end
end Go.Proofs.YtkihjakbbcajbaaGreat.PM
namespace Go.Proofs.YtkihjakbbcajbaaGreat.PM
set_option linter.unusedSimpArgs false
set_option linter.unusedVariables false
open Go
section
variable {P:Program} {E:Env} {t:TypeId} {g:Gh} {A W:Nat→Prop} {w:World} {h:Hp}
theorem v_str {b:List UInt8} {v:Value} (h:VRel g A w (.v .str b) v):∃s:ByteArray,v=.string s∧s.data.toList=b:=by
 unfold VRel at h;simp only [aggP,Ty.agg] at h;unfold PV.rel TRel at h
 obtain ⟨s,e,h⟩:=h
 injection e with e
 exact ⟨s,e,h⟩
theorem aggOf {τ:Ty} (ha:τ.agg=true) {x:PV} {v:Value} (hx:VRel g A w x v) {a:τ.den} {h':Hp} (e:(dec τ x).Ok h a h'):∃xs,v=.agg xs:=by
 have:aggP x=true:=by
  cases x with
  |v u z=>
   cases τ with
   |arr n u'=>
    simp only [dec,Ok_get] at e
    obtain ⟨rfl,_⟩:=cast_some e.1
    rfl
   |pair a b=>
    simp only [dec,Ok_get] at e
    obtain ⟨rfl,_⟩:=cast_some e.1
    rfl
   |unit=>
    simp only [dec,Ok_get] at e
    obtain ⟨rfl,_⟩:=cast_some e.1
    rfl
   |_=>cases ha
  |agg xs=>rfl
  |_=>cases τ<;>first|(cases ha;done)|(simp [dec,Q.Ok] at e;done)
 unfold VRel at hx
 rw [this] at hx
 exact ⟨_,hx.choose_spec.1⟩
def EqOk (P:Program) (E:Env):Prop:=∀(t:TypeId) (τ:Ty),E.tab t=some (.data τ)→(E.eqs.any (Nat.beq t) && (τ.plain && τ.agg))=true→∀(A:Nat→Prop) (w:World) (xs ys:Array Value) (a b:τ.den),TRel A w τ xs.toList a→TRel A w τ ys.toList b→
 (∀op x y,(eqGuard op t x y (.agg xs) (.agg ys)).run P w=.ok () w)∧(binOp .eql t (.agg xs) (.agg ys)).run P w=.ok (.bool (τ.beq a b)) w∧(binOp .neq t (.agg xs) (.agg ys)).run P w=.ok (.bool (!τ.beq a b)) w
theorem bin_ok (hT:tabB P E.tl=true) (hQ:EqOk P E) (H:HR g A W w h) {op:BinOp} {x y r:PV} {vx vy:Value} {ox oy:Operand} {h':Hp} (hx:VRel g A w x vx) (hy:VRel g A w y vy) (e:(binQ E op t x y).Ok h r h'):
  h'=h∧(eqGuard op t ox oy vx vy).run P w=.ok () w∧∃z,(binOp op t vx vy).run P w=.ok z w∧VRel g A w r z:=by
 unfold binQ at e
 split at e
 ·rename_i k a l b
  obtain rfl:=v_int hx
  obtain rfl:=v_int hy
  refine ⟨?_,guard_int op t ox oy k l a b,?_⟩
  ·split at e
   ·rw [Ok_ask,Ok_ret] at e;exact e.2.2
   ·rw [Ok_ask,Ok_ret] at e;exact e.2.2
   ·rename_i n1 n2
    rw [Ok_cond] at e
    rcases e with ⟨_,e⟩|⟨_,e⟩
    ·exact (binI_ok (P:=P) (t:=t) (g:=g) (A:=A) (w:=w) n1 n2 e).1
    ·exact e.elim
  ·split at e
   ·rw [Ok_ask,Ok_ret,decide_eq_true_eq] at e
    obtain ⟨h0,rfl,_⟩:=e
    exact ⟨_,by simp [binOp,Op.shift,Int.not_lt.2 h0],of_int _ _⟩
   ·rw [Ok_ask,Ok_ret,decide_eq_true_eq] at e
    obtain ⟨h0,rfl,_⟩:=e
    exact ⟨_,by simp [binOp,Op.shift,Int.not_lt.2 h0],of_int _ _⟩
   ·rename_i n1 n2
    rw [Ok_cond,decide_eq_true_eq] at e
    rcases e with ⟨hk,e⟩|⟨_,e⟩
    ·subst hk;exact (binI_ok (P:=P) (t:=t) n1 n2 e).2
    ·exact e.elim
 ·rename_i a b
  obtain ⟨sa,rfl,rfl⟩:=v_str hx
  obtain ⟨sb,rfl,rfl⟩:=v_str hy
  have hb:(sa.toList==sb.toList)=decide (sa.data.toList=sb.data.toList):=by
   rw [ByteArray.toList_eq,ByteArray.toList_eq];rw [Bool.eq_iff_iff];simp
  cases op<;>simp only [eqQ,Ok_ret,Ok_fail] at e
  ·obtain ⟨rfl,rfl⟩:=e
   exact ⟨rfl,by simp [eqGuard],_,by simp [binOp,Op.stringOp,hb],of_bool _⟩
  ·obtain ⟨rfl,rfl⟩:=e
   exact ⟨rfl,by simp [eqGuard],_,by simp [binOp,Op.stringOp,hb],of_bool _⟩
 ·rename_i a b
  obtain rfl:=v_bool hx
  obtain rfl:=v_bool hy
  rw [Ok_bind] at e
  obtain ⟨τ,h1,e1,e⟩:=e
  obtain ⟨hE,rfl⟩:=data_out e1
  have hty:tyB P τ t=true:=tabB_look hT hE
  split at e
  ·have hu:P.underlying t=some .bool:=by
    simp only [tyB_int,tyB_bool,tyB_str,tyB_unit,tyB_pair,tyB_arr,tyB_slice,Bool.and_eq_true] at hty
    have h2:=hty.2
    split at h2
    ·assumption
    ·cases h2
   cases op<;>simp only [eqQ,Ok_ret,Ok_fail] at e
   ·obtain ⟨rfl,rfl⟩:=e
    exact ⟨rfl,by simp [eqGuard],_,by simp [binOp,Op.equal,Op.maxDepth,run_equalIn_bool w _ t a b hu],of_bool _⟩
   ·obtain ⟨rfl,rfl⟩:=e
    exact ⟨rfl,by simp [eqGuard],_,by simp [binOp,Op.equal,Op.maxDepth,run_equalIn_bool w _ t a b hu],of_bool _⟩
  ·exact e.elim
 ·rw [Ok_bind] at e
  obtain ⟨τ,h1,e1,e⟩:=e
  obtain ⟨hE,rfl⟩:=data_out e1
  rw [Ok_cond] at e
  rcases e with ⟨hf,e⟩|⟨_,e⟩
  ·simp only [Ok_bind] at e
   obtain ⟨a,h2,e2,b,h3,e3,e⟩:=e
   obtain ⟨rfl,ra⟩:=dec_rel H τ x a h2 _ (VRel.cells hx).1 e2
   obtain ⟨rfl,rb⟩:=dec_rel H τ y b h3 _ (VRel.cells hy).1 e3
   have hag:τ.agg=true:=by
    simp only [Bool.and_eq_true] at hf;exact hf.2.2
   have hxa:∃xs,vx=.agg xs:=by
    have:=aggOf hag hx e2
    exact this
   have hya:∃ys,vy=.agg ys:=aggOf hag hy e3
   obtain ⟨xs,rfl⟩:=hxa
   obtain ⟨ys,rfl⟩:=hya
   obtain ⟨q1,q2,q3⟩:=hQ t τ hE hf (Rd g A h3) w xs ys a b ra rb
   cases op<;>simp only [eqQ,Ok_ret,Ok_fail] at e
   ·obtain ⟨rfl,rfl⟩:=e;exact ⟨rfl,q1 _ _ _,_,q2,of_bool _⟩
   ·obtain ⟨rfl,rfl⟩:=e;exact ⟨rfl,q1 _ _ _,_,q3,of_bool _⟩
  ·exact e.elim
end
end Go.Proofs.YtkihjakbbcajbaaGreat.PM
