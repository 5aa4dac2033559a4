/- Parts of the proof, joined: Chk9, Bw, Tbd0, Tbd1, Tbd2, Tbd3, Tbd4, Tbd. -/
import Derived.Test.YtkihjakbbcajbaaGreatChk8
namespace Go.Proofs.YtkihjakbbcajbaaGreat.PM
set_option linter.unusedSimpArgs false
set_option linter.unusedVariables false
open Go Go.Proofs Go.Proofs.YtkihjakbbcajbaaGreat.Kd
noncomputable def k1:Code:=.seq (.region 3 r3.toArray false) (.seq (.seq (.region 4 r4 false) (.block 0 (.rangeFunc (.tmp 49) #[50,51] (rfAsg rf1) bd1))) (.seq (.seq (.region 9 r9 false) (.block 2 (.rangeFunc (.tmp 60) #[61,62] (rfAsg rf2) bd2))) ct))
end Go.Proofs.YtkihjakbbcajbaaGreat.PM
namespace Go.Proofs.YtkihjakbbcajbaaGreat.Bw
set_option linter.unusedSimpArgs false
set_option linter.unusedVariables false
open Go Go.RowKit Go.Shelf Go.Proofs Go.Proofs.YtkihjakbbcajbaaGreat.PM Go.Proofs.YtkihjakbbcajbaaGreat.Kd
attribute [local go_sem] Oper.semAt_some
structure HV where
 k:Int
 a:Int
 b:Int
 c:Int
 d:Int
 e:Int
 f:Int
def HV.val (h:HV):Value:=.agg #[.int .u32 h.k,.int .i64 h.a,.int .i64 h.b,.int .i64 h.c,.int .i64 h.d,.int .i64 h.e,.int .u64 h.f]
def back {α:Type} (el:Nat→α) (len k:Nat):List α:=(List.range k).map fun j=>el (len - 1 - j)
theorem back_succ {α:Type} (el:Nat→α) (len k:Nat):back el len (k+1)=back el len k++[el (len - 1 - k)]:=by simp [back,List.range_succ]
theorem back_len {α:Type} (el:Nat→α) (len k:Nat):(back el len k).length=k:=by simp [back]
theorem back_pre {α:Type} (el:Nat→α) (len k:Nat):∀d:Nat,∃rest,back el len (k+d)=back el len k++rest
 |0=>⟨[],by simp⟩
 |d+1=>by
  obtain ⟨r,hr⟩:=back_pre el len k d
  rw [←Nat.add_assoc,back_succ,hr,List.append_assoc]
  exact ⟨_,rfl⟩
set_option maxRecDepth 100000 in
set_option maxHeartbeats 4000000 in
theorem back1_in {α:Type} (encs:α→Array Value) (el:Nat→α) (n:Nat) (hn:1≤n) (l Bs len cap:Nat) (Kb:Nat→Prop) (ad:Option Addr) (hv:Nat→HV) (hreach:len≤1000000) (hel:∀j,j<len→encs (el j)=#[.int .i64 (j:Int),(hv j).val])
  (J Jx:List α→World→Prop)
  (hY:∀pre x W,J pre W→pre.length<len→YieldAt Fence.wide (n - 1) Tryz.prog l (encs x) W fun e W'=>
   (e=.returned (.bool true)∧J (pre++[x]) W'∧KeepB Kb W W')∨(e=.returned (.bool false)∧Jx (pre++[x]) W'))
  (W:World) (hB:Kb Bs) (hBs:W.cell? ⟨Bs,0,none⟩=some (.slice ad len cap))
  (hc:∀j,j<len→∃b o,ad=some ⟨b,o,none⟩∧Kb b∧W.cell? ⟨b,o+j*7,none⟩=some (.int .u32 (hv j).k)∧W.cell? ⟨b,o+j*7+1,none⟩=some (.int .i64 (hv j).a)∧W.cell? ⟨b,o+j*7+2,none⟩=some (.int .i64 (hv j).b)∧W.cell? ⟨b,o+j*7+3,none⟩=some (.int .i64 (hv j).c)∧W.cell? ⟨b,o+j*7+4,none⟩=some (.int .i64 (hv j).d)∧W.cell? ⟨b,o+j*7+5,none⟩=some (.int .i64 (hv j).e)∧W.cell? ⟨b,o+j*7+6,none⟩=some (.int .u64 (hv j).f))
  (h0:J [] W):
  CallsIn Fence.wide n Tryz.prog 105 #[.func (.yield l) #[] #[],.pointer (some ⟨Bs,0,none⟩)] W fun e W'=>(∃v,e=.returned v)∧
   ((∃ys,ys=back el len len∧J ys W')∨(∃pre,(∃k,k≤len∧pre=back el len k)∧Jx pre W')):=by
 refine callsIn_of_wp Tryz.func105 rfl trivial ?_ rfl
 simp only [Tryz.ntmps105,List.size_toArray,List.length_cons,List.length_nil,Nat.reduceAdd,Nat.reduceSub,Array.replicate_succ,Array.replicate_zero,List.push_toArray,List.append_toArray,List.nil_append,List.cons_append]
 gi_wp2
 gi_loopw [3] (fun i wr=>∃k:Nat,k≤len∧i=.int .i64 ((len:Int) - 1 - k)∧J (back el len k) wr∧KeepB Kb W wr)
  (fun i _=>((RowKit.intOf i)+1).toNat)
 case atStart=>exact ⟨0,Nat.zero_le _,by simp,h0,KeepB.refl _ _⟩
 case round=>
  obtain ⟨k,hk,rfl,hJs,hnx⟩:=hrel
  have g0:=(hnx.cell (p:=⟨Bs,0,none⟩) hB).trans hBs
  by_cases hlt:k<len
  ·obtain ⟨j,hj⟩:∃j:Nat,len - 1 - k=j:=⟨_,rfl⟩
   have hji:(len:Int) - 1 - k=(j:Int):=by omega
   obtain ⟨b,o,rfl,hb,c0,c1,c2,c3,c4,c5,c6⟩:=hc j (by omega)
   have c0:=(hnx.cell (p:=⟨b,o+j*7,none⟩) hb).trans c0
   have c1:=(hnx.cell (p:=⟨b,o+j*7+1,none⟩) hb).trans c1
   have c2:=(hnx.cell (p:=⟨b,o+j*7+2,none⟩) hb).trans c2
   have c3:=(hnx.cell (p:=⟨b,o+j*7+3,none⟩) hb).trans c3
   have c4:=(hnx.cell (p:=⟨b,o+j*7+4,none⟩) hb).trans c4
   have c5:=(hnx.cell (p:=⟨b,o+j*7+5,none⟩) hb).trans c5
   have c6:=(hnx.cell (p:=⟨b,o+j*7+6,none⟩) hb).trans c6
   obtain ⟨fn,tmps,assign,body,hy,hR⟩:=hY _ (el j) wr hJs (by rw [back_len];exact hlt)
   rw [hel j (by omega)] at hy
   unfold HV.val at hy
   rw [hji]
   gi_wp2
   refine hR.mono ?_
   rintro e W3 (⟨rfl,hJ3,hk3⟩|⟨rfl,hJx3⟩)
   ·gi_wp2
    go_roundw
    case rel=>exact ⟨k+1,by omega,by first|(congr 1;omega)|congr 1,by rw [back_succ,hj];exact hJ3,hnx.trans hk3⟩
    case measure=>simp [RowKit.intOf]<;>omega
   ·gi_wp2
    refine bodyPost_ret (results_none rfl _ _ _) rfl ?_
    exact ⟨⟨_,rfl⟩,.inr ⟨_,⟨k+1,by omega,by rw [back_succ,hj]⟩,hJx3⟩⟩
  ·obtain rfl:k=len:=by omega
   gi_wp2
   go_end0
   exact ⟨⟨_,rfl⟩,.inl ⟨_,rfl,hJs⟩⟩
set_option maxHeartbeats 1000000 in
theorem back_in (n:Nat) (a:Option Addr) (len cap:Nat) (w:World):
  CallsIn Fence.wide n Tryz.prog 73 #[.slice a len cap] w fun e w'=>e=.returned (.func (.func 105) #[] #[.pointer (some ⟨w.heap.size,0,none⟩)])∧w'=w.alloc (.cells #[.slice a len cap] 83):=by
 refine callsIn_of_wp Tryz.func73 rfl trivial ?_ rfl
 simp only [Tryz.ntmps73,List.size_toArray,List.length_cons,List.length_nil,Nat.reduceAdd,Nat.reduceSub,Array.replicate_succ,Array.replicate_zero,List.push_toArray,List.append_toArray,List.nil_append,List.cons_append]
 gi_wp2
 go_ret
 exact ⟨rfl,rfl⟩
end Go.Proofs.YtkihjakbbcajbaaGreat.Bw
namespace Go.Proofs.YtkihjakbbcajbaaGreat.PM
set_option linter.unusedSimpArgs false
set_option linter.unusedVariables false
open Go Go.Proofs
def lowT:Ty→Bool
 |.slice t=>t.flat
 |.pair a b=>lowT a && lowT b
 |.int _=>true
 |.bool=>true
 |.unit=>true
 |_=>false
def slBlk:Value→List Nat
 |.slice (some a) _ _=>[a.block]
 |_=>[]
section
variable {A A':Nat→Prop} {w w':World}
theorem RowAt.low {s:Slot} {t:Ty} {xs:List t.den} (hf:t.flat=true) (hs:∀b,s.blk=some b→w'.heap[b]?=w.heap[b]?) (r:RowAt A w s t xs):RowAt A' w' s t xs:=by
 obtain ⟨h1,h2⟩:=r
 refine ⟨h1,?_⟩
 cases hb:s.blk with
 |none=>rw [hb] at h2;exact h2
 |some b=>
  rw [hb] at h2
  obtain ⟨h3,c,e,h4,h5,h6⟩:=h2
  exact ⟨h3,c,e,by rw [hs b hb];exact h4,h5,h6.mono fun c x k=>TRel.flat _ _ _ hf k⟩
theorem RowAt.cells {s:Slot} {t:Ty} {xs:List t.den} (r:RowAt A w s t xs) (b:Nat) (hb:s.blk=some b):∃c e,w.heap[b]?=some (.cells c e (0,0)):=by
 obtain ⟨_,h2⟩:=r
 rw [hb] at h2
 obtain ⟨_,c,e,h4,_⟩:=h2
 exact ⟨c,e,h4⟩
theorem OwnT.low:∀(t:Ty) (cs:List Value) (x:t.den) (p:List Nat),lowT t=true→OwnT A w t cs x p→(∀r∈p,w'.heap[r]?=w.heap[r]?)→OwnT A' w' t cs x p
 |.slice t,_,_,_,hf,⟨s,v,h1,h2,h3,h4⟩,hs=>⟨s,v,h1,h2,h3.low hf (fun b hb=>hs b (by rw [h4,hb];simp)),h4⟩
 |.pair a b,_,x,_,hf,⟨c,d,p,q,h1,h2,h3,h4⟩,hs=>by
  have hf':lowT a=true∧lowT b=true:=by simpa [lowT] using hf
  exact ⟨c,d,p,q,h1,h2,OwnT.low a c x.1 p hf'.1 h3 (fun r hr=>hs r (by rw [h2];simp [hr])),OwnT.low b d x.2 q hf'.2 h4 (fun r hr=>hs r (by rw [h2];simp [hr]))⟩
 |.unit,_,_,_,_,h,_=>h
 |.int _,_,_,_,_,h,_=>h
 |.bool,_,_,_,_,h,_=>h
 |.str,_,_,_,hf,_,_=>by simp [lowT] at hf
 |.arr _ _,_,_,_,hf,_,_=>by simp [lowT] at hf
theorem OwnT.cells:∀(t:Ty) (cs:List Value) (x:t.den) (p:List Nat),lowT t=true→OwnT A w t cs x p→∀r∈p,∃c e,w.heap[r]?=some (.cells c e (0,0))
 |.slice t,_,_,_,hf,⟨s,v,h1,h2,h3,h4⟩,r,hr=>by
  rw [h4] at hr
  refine h3.cells r ?_
  cases hb:s.blk with
  |none=>rw [hb] at hr;simp at hr
  |some b=>rw [hb] at hr;simp at hr;rw [hr]
 |.pair a b,_,x,_,hf,⟨c,d,p,q,h1,h2,h3,h4⟩,r,hr=>by
  have hf':lowT a=true∧lowT b=true:=by simpa [lowT] using hf
  rw [h2] at hr
  rcases List.mem_append.1 hr with hr|hr
  ·exact OwnT.cells a c x.1 p hf'.1 h3 r hr
  ·exact OwnT.cells b d x.2 q hf'.2 h4 r hr
 |.unit,_,_,_,_,h,r,hr=>by rw [h.2] at hr;cases hr
 |.int _,_,_,_,_,h,r,hr=>by rw [h.2] at hr;cases hr
 |.bool,_,_,_,_,h,r,hr=>by rw [h.2] at hr;cases hr
 |.str,_,_,_,hf,_,_,_=>by simp [lowT] at hf
 |.arr _ _,_,_,_,hf,_,_,_=>by simp [lowT] at hf
theorem OwnT.blks:∀(t:Ty) (cs:List Value) (x:t.den) (p:List Nat),lowT t=true→OwnT A w t cs x p→p=cs.flatMap slBlk
 |.slice t,_,_,_,hf,⟨s,v,h1,h2,h3,h4⟩=>by
  rw [h4,h1]
  unfold SlV at h2
  cases hb:s.blk with
  |none=>rw [hb] at h2;obtain ⟨rfl,_⟩:=h2;rfl
  |some b=>rw [hb] at h2;subst h2;rfl
 |.pair a b,_,x,_,hf,⟨c,d,p,q,h1,h2,h3,h4⟩=>by
  have hf':lowT a=true∧lowT b=true:=by simpa [lowT] using hf
  rw [h2,h1,List.flatMap_append,←OwnT.blks a c x.1 p hf'.1 h3,←OwnT.blks b d x.2 q hf'.2 h4]
 |.unit,_,_,_,_,⟨h1,h2⟩=>by rw [h1,h2];rfl
 |.int k,cs,x,_,_,⟨h1,h2⟩=>by
  have h1:cs=[.int k x]:=h1
  rw [h1,h2];rfl
 |.bool,cs,x,_,_,⟨h1,h2⟩=>by
  have h1:cs=[.bool x]:=h1
  rw [h1,h2];rfl
 |.str,_,_,_,hf,_=>by simp [lowT] at hf
 |.arr _ _,_,_,_,hf,_=>by simp [lowT] at hf
theorem BoxRel.lowO {t:Ty} {v:Value} {x:t.den} {bs:List Nat} (hf:lowT t=true) (h:BoxRel A w t true v x bs) (hs:∀r∈bs,w'.heap[r]?=w.heap[r]?):BoxRel A' w' t true v x bs:=by
 obtain ⟨b,c,e,p,h1,h2,h3,h4⟩:=h
 exact ⟨b,c,e,p,h1,by rw [hs b (by rw [h3];simp)];exact h2,h3,OwnT.low t _ x p hf h4 (fun r hr=>hs r (by rw [h3];simp [hr]))⟩
theorem BoxRel.lowF {t:Ty} {v:Value} {x:t.den} {bs:List Nat} (hf:t.flat=true) (h:BoxRel A w t false v x bs) (hs:∀r∈bs,w'.heap[r]?=w.heap[r]?):BoxRel A' w' t false v x bs:=by
 obtain ⟨b,c,e,p,h1,h2,h3,h4,h5⟩:=h
 exact ⟨b,c,e,p,h1,by rw [hs b (by rw [h3];simp)];exact h2,h3,TRel.flat _ _ _ hf h4,h5⟩
theorem BoxRel.cellsO {t:Ty} {v:Value} {x:t.den} {bs:List Nat} (hf:lowT t=true) (h:BoxRel A w t true v x bs):∀r∈bs,∃c e,w.heap[r]?=some (.cells c e (0,0)):=fun r hr=>by
 obtain ⟨b,c,e,p,h1,h2,h3,h4⟩:=h
 rw [h3] at hr
 rcases List.mem_cons.1 hr with rfl|hr
 ·exact ⟨c,e,h2⟩
 ·exact OwnT.cells t _ x p hf h4 r hr
theorem BoxRel.cellsF {t:Ty} {v:Value} {x:t.den} {bs:List Nat} (h:BoxRel A w t false v x bs):∀r∈bs,∃c e,w.heap[r]?=some (.cells c e (0,0)):=fun r hr=>by
 obtain ⟨b,c,e,p,h1,h2,h3,h4,h5⟩:=h
 rw [h3,h5] at hr
 obtain rfl:=List.mem_singleton.1 hr
 exact ⟨c,e,h2⟩
end
def NoDef (P:Program) (o:Oper):Prop:=(∀c,o.op≠ .defer c)∧∀(a:Act) (w:World) (d:Deferred) (w':World),(execOp a.eval o).run P w≠ .ok (.defer d) w'
section
variable {P:Program} {r:Option Nat} {n:Nat} {Q:Exit→Act→World→Prop}
theorem quiet_nodef {o:Oper} (h:quiet o=true):NoDef P o:=⟨quiet_defer h,fun a w d w'=>quiet_run h _ w d w'⟩
theorem wpOp_to2 {Q0:Exit→Act→World→Prop} {ops:Array Oper} (hd:∀(i:Nat) o,ops[i]?=some o→NoDef P o) {i:Nat} {a:Act} {w:World} {K K':Act→World→Prop} (hK:∀a' w',(a'=a∨∃o v,ops[i]?=some o∧a'=a.put o.dst v)→K a' w'→K' a' w') (h:wpOp P ops (onlyN Q0) i K a w):wpOpIn (rnd r) n P ops Q i K' a w:=by
 unfold wpOp at h
 unfold wpOpIn
 cases ho:ops[i]? with
 |none=>rw [ho] at h;exact hK _ _ (.inl rfl) h
 |some o=>
  rw [ho] at h
  simp only at h ⊢
  split at h
  ·rename_i hw
   rw [if_pos hw]
   rcases h with h|⟨_,a0,w0,h⟩
   ·exact wp_to (hd i o ho).1 (fun d w'=>(hd i o ho).2 _ _ d w') (fun v w'=>hK _ w' (.inr ⟨o,v,ho,rfl⟩)) h
   ·exact absurd h.1 (by simp)
  ·rename_i hw
   rw [if_neg hw]
   exact ⟨fun _ _=>trivial,hK _ _ (.inr ⟨o,undef,ho,rfl⟩) h⟩
theorem wpOps_to2 {Q0:Exit→Act→World→Prop} {ops:Array Oper} (hd:∀(i:Nat) o,ops[i]?=some o→NoDef P o):∀(l:List Nat) (a:Act) (w:World),(∀a' w',Q0 .normal a' w'→Fr ops l a a'→Q .normal a' w')→wpOps P ops (onlyN Q0) l a w→wpOpsIn (rnd r) n P ops Q l a w
 |[],a,w,hQ,h=>hQ a w h.2 (fun t _=>rfl)
 |i::l,a,w,hQ,h=>by
  rw [wpOps_cons] at h
  rw [wpOpsIn_cons]
  refine wpOp_to2 hd (fun a1 w1 hc h=>wpOps_to2 hd l a1 w1 (fun a' w' h1 h2=>hQ a' w' h1 (fun t ht=>?_)) h) h
  rw [h2 t (fun j hj=>ht j (List.mem_cons_of_mem _ hj))]
  rcases hc with rfl|⟨o,v,ho,rfl⟩
  ·rfl
  ·exact put_other a o.dst v t (ht i (List.mem_cons_self ..) o ho)
theorem regionIn_ok2 {E:Env} {B:Bs} {io:List PV} (hE:EnvOk P E) (hgl:E.globs=B.gl) {id:Nat} {ops:List Oper} {nx:Nat} {tm tm':List (Nat × PV)} {h h':Hp} {g:Gh} {A:Nat→Prop} {a:Act} {w:World}
  (e:(opsD E ops ops nx tm h [] (fun tm hp _=> .done (tm,hp))).ev (fun _ _=>(none:Option (List (Nat × PV) × Hp)))=some (tm',h')) (hnt:dstOk B.nt ops=true) (hnd:∀o∈ops,NoDef P o) (R:RS B g A a w tm h io)
  (fin:∀g A a' w,RS B g A a' w tm' h' io→(∀t,(∀o∈ops,o.dst≠some t)→a'.tmps.getD t undef=a.tmps.getD t undef)→Q .normal a' w):(Code.region id ops.toArray false).wpIn (rnd r) n P Q a w:=by
 obtain ⟨rc,tm1,hl,ran,htm,e2⟩:=opsD_ran (all:=ops) (nx:=nx) (tm0:=tm) (h0:=h) ops [] [] tm (by simp) rfl (fun _=>rfl) (fun j h=>by simp at h) (by simpa [hpS] using e)
 simp only [DT.ev,Option.some.injEq,Prod.mk.injEq] at e2
 obtain ⟨rfl,rfl⟩:=e2
 refine wpIn_region (wpOps_to2 (Q0:=fun _ a' w'=>∃g A,RS B g A a' w' tm1 (hpS (fun k=>(rcAt rc k).ws) h (fun _=>true) ops.length) io) (fun i o ho=>hnd o (List.mem_of_getElem? (by simpa using ho))) _ _ _ (fun a' w' ⟨g,A,R'⟩ hf=>fin g A a' w' R' (fun t ht=>hf t (fun i _ o ho=>ht o (List.mem_of_getElem? (by simpa using ho))))) ?_)
 have hz:∀{X:Nat→PV} n,tmS (dstOf ops) X tm (fun _=>false) n=tm:=fun {X} n=>by
  induction n with
  |zero=>rfl
  |succ n ih=>rw [tmS_succ];exact ih
 have hz2:∀{V:Nat→Hp} n,hpS V h (fun _=>false) n=h:=fun {V} n=>by
  induction n with
  |zero=>rfl
  |succ n ih=>rw [hpS_succ];exact ih
 have hsz:ops.toArray.size=ops.length:=by simp
 rw [hsz,List.range_eq_range']
 refine reg_seq hE hgl hl ran (dstOk_at hnt) (fun g A a w R'=>⟨rfl,g,A,R'.congr (fun t=>(htm t).symm) (fun _=>rfl)⟩) ops.length 0 (by omega) g A a w ?_
 rw [tmS_ext (S':=fun _=>false) _ (fun k _=>by simp),hpS_ext (S':=fun _=>false) _ (fun k _=>by simp),hz,hz2]
 exact R
theorem nodef_call {o:Oper} {f:Nat} {ars:Array Operand} {ts:Array TypeId} (ho:o.op=.call {callee:=.value (.func f),args:=ars,argTypes:=ts}) (he:∀(args:Array Value) (w:World),(callFunc f args).run P w=.ok (.enter f args) w):NoDef P o:=by
 refine ⟨(fun c e=>by rw [ho] at e;cases e),fun a w d w'=>?_⟩
 have hρ:a.eval (.func f)=.func (.func f) #[] #[]:=rfl
 unfold execOp
 rw [ho]
 simp [resolve,invoke,hρ,he,go_sem]
def isCall (f:Nat) (o:Oper):Bool:=match o.op with
 |.call c=>match c.callee with
  |.value (.func g)=>Nat.beq g f
  |_=>false
 |_=>false
theorem nodefs {ops:List Oper} {f:Nat} (h:ops.all (fun o=>quiet o||isCall f o)=true) (he:∀(args:Array Value) (w:World),(callFunc f args).run P w=.ok (.enter f args) w):∀o∈ops,NoDef P o:=fun o ho=>by
 have:=List.all_eq_true.1 h o ho
 rw [Bool.or_eq_true] at this
 rcases this with h1|h1
 ·exact quiet_nodef h1
 ·unfold isCall at h1
  split at h1
  ·rename_i c hc
   split at h1
   ·rename_i g hg
    obtain rfl:=Nat.eq_of_beq_eq_true h1
    obtain ⟨cal,ars,ts⟩:=c
    have hg:cal=.value (.func g):=hg
    subst hg
    exact nodef_call hc he
   ·cases h1
  ·cases h1
end
end Go.Proofs.YtkihjakbbcajbaaGreat.PM
namespace Go.Proofs.YtkihjakbbcajbaaGreat.PM
set_option linter.unusedSimpArgs false
set_option linter.unusedVariables false
open Go Go.Proofs
noncomputable def cd.sg:Sig:=⟨[.val (.slice t9),.val (.int .i64),.val t0],[(t5,true)]⟩
noncomputable def cd.E:Env:=⟨tl,fun i=>look i [(72,dj.Fn),(74,cq.Fn),(75,dk.Fn)],[],eqs,globs,prims⟩
theorem cd.envOk:EnvOk Tryz.prog cd.E:=envOk_at tabOk eqOk primsOk (.cons dj.spec<|.cons cq.spec<|.cons dk.spec<|.nil)
noncomputable def cd.c:=cxOf cd.E cd.sg Tryz.f47
noncomputable def tb:Code:=body Tryz.f47
noncomputable def tf:Code:=subC tb [1,1,0,1,0]
noncomputable def tbd:Code:=rfBdy tf
noncomputable def tr0:List Oper:=regOps (subC tb [0])
noncomputable def tr1:List Oper:=regOps (subC tb [1,0])
noncomputable def tr2:Array Oper:=(regOps (subC tb [1,1,0,0])).toArray
noncomputable def tr3:List Oper:=regOps (rfAsg tf)
noncomputable def tr4:List Oper:=regOps (subC tbd [0,0])
noncomputable def tr5:List Oper:=regOps (subC tbd [0,1])
noncomputable def tr6:List Oper:=regOps (subC tb [1,1,1,0])
theorem tb_eq:tb=.seq (.region 0 tr0.toArray false) (.seq (.region 1 tr1.toArray false) (.seq (.seq (.region 2 tr2 false) (.block 0 (.rangeFunc (.tmp 17) #[18,19] (rfAsg tf) tbd))) (.seq (.region 6 tr6.toArray false) .ret))):=by kernel_rfl
theorem ta_eq:rfAsg tf=.region 3 tr3.toArray false:=by kernel_rfl
theorem tbd_eq:tbd=.block 1 (.seq (.region 4 tr4.toArray false) (.region 5 tr5.toArray false)):=by kernel_rfl
noncomputable def cE (f:Nat) (sg:Sig) (r:(outTy sg.ps sg.rs).den):Env:=⟨tl,fun i=>cond (Nat.beq i f) (some ⟨sg,fun _=>some r⟩) none,[],eqs,globs,prims⟩
noncomputable def evO (ps:List PK) (X:Option (List (Nat × PV) × Hp)) (io:List PV):Option (outTy ps []).den:=((outs ⟨tmR X,hR X,0,io⟩ [] [] ps io).toD (hR X) [] [] fun y _ _ _=> .done y).ev fun _ _=>none
noncomputable def evS (ps:List PK) (x:(argTy ps).den):Option ((List (Nat × PV) × List PV × Nat) × Hp):=((start ps x 0 0).toD [] [] [] fun q hp _ _=> .done (q,hp)).ev fun _ _=>none
noncomputable def hS (X:Option ((List (Nat × PV) × List PV × Nat) × Hp)):Hp:=match X with
 |some x=>x.2
 |none=>[]
noncomputable def psI:List PK:=[.io t0 false,.io t5 true,.io t5 true]
noncomputable def psJ:List PK:=[.io t0 false,.io t5 true,.io t5 true,.io t9 false]
section
variable (l:List t9.den) (most:Int) (lim:t0.den) (t:t5.den) (h:t9.den)
noncomputable def tmA:List (Nat × PV):=[(0,.v (.slice t9) l),(1,.v (.int .i64) most),(2,mk t0 lim)]
noncomputable def tq0:=evR cd.E tr0 0 (tmA l most lim) []
theorem tq0_ok:(tq0 l most lim).isSome=true:=by kernel_rfl
noncomputable def tq1 (r:(outTy dj.sg.ps dj.sg.rs).den):=evR (cE 72 dj.sg r) tr1 1000 (tmR (tq0 l most lim)) (hR (tq0 l most lim))
theorem tq1_ok (r:(outTy dj.sg.ps dj.sg.rs).den):(tq1 l most lim r).isSome=true:=by kernel_rfl
theorem tq1_eq:evR cd.E tr1 1000 (tmR (tq0 l most lim)) (hR (tq0 l most lim))=(dj.F most).bind fun r=>tq1 l most lim r:=by kernel_rfl
theorem tq1_5 (r:(outTy dj.sg.ps dj.sg.rs).den):look 5 (tmR (tq1 l most lim r))=some (.ptr 0 []):=by kernel_rfl
theorem tq1_6 (r:(outTy dj.sg.ps dj.sg.rs).den):look 6 (tmR (tq1 l most lim r))=some (.ptr 64 []):=by kernel_rfl
theorem tq1_7 (r:(outTy dj.sg.ps dj.sg.rs).den):look 7 (tmR (tq1 l most lim r))=some (.ptr 1320 []):=by kernel_rfl
noncomputable def bxA (h:Hp) (i:Nat):PV:=match h.at i with
 |some (.box x)=>x
 |_=> .undef
theorem tq1_b0 (r:(outTy dj.sg.ps dj.sg.rs).den):(hR (tq1 l most lim r)).at 0=some (.box (bxA (hR (tq1 l most lim r)) 0)):=by kernel_rfl
theorem tq1_b1 (r:(outTy dj.sg.ps dj.sg.rs).den):(hR (tq1 l most lim r)).at 64=some (.box (bxA (hR (tq1 l most lim r)) 64)):=by kernel_rfl
theorem tq1_b2 (r:(outTy dj.sg.ps dj.sg.rs).den):(hR (tq1 l most lim r)).at 1320=some (.box (bxA (hR (tq1 l most lim r)) 1320)):=by kernel_rfl
theorem tq1_out (r:(outTy dj.sg.ps dj.sg.rs).den):evO psI (tq1 l most lim r) [.ptr 0 [],.ptr 64 [],.ptr 1320 []]=some (lim,t5.zero,r.1,()):=by kernel_rfl
noncomputable def sI:=evS psI (lim,t5.zero,t,())
theorem sI_io:((sI lim t).map (·.1.2.1))=some [.ptr 0 [],.ptr 1 [],.ptr 9 []]:=by kernel_rfl
noncomputable def tmI:List (Nat × PV):=[(19,mk t9 h),(5,.ptr 0 []),(6,.ptr 1 []),(7,.ptr 9 [])]
noncomputable def tq3:=evR cd.E tr3 1000 (tmI h) (hS (sI lim t))
theorem tq3_ok:(tq3 lim t h).isSome=true:=by kernel_rfl
theorem tq3_10:look 10 (tmR (tq3 lim t h))=some (.ptr 1000 []):=by kernel_rfl
theorem tq3_b:(hR (tq3 lim t h)).at 1000=some (.box (mk t9 h)):=by kernel_rfl
theorem tq3_out:evO psJ (tq3 lim t h) [.ptr 0 [],.ptr 1 [],.ptr 9 [],.ptr 1000 []]=some (lim,t5.zero,t,h,()):=by kernel_rfl
noncomputable def sJ:=evS psJ (lim,t5.zero,t,h,())
theorem sJ_io:((sJ lim t h).map (·.1.2.1))=some [.ptr 0 [],.ptr 1 [],.ptr 9 [],.ptr 17 []]:=by kernel_rfl
noncomputable def tmJ:List (Nat × PV):=[(10,.ptr 17 []),(5,.ptr 0 []),(6,.ptr 1 []),(7,.ptr 9 [])]
noncomputable def tq4 (r:(outTy cq.sg.ps cq.sg.rs).den):=evR (cE 74 cq.sg r) tr4 1000 tmJ (hS (sJ lim t h))
theorem tq4_ok (r:(outTy cq.sg.ps cq.sg.rs).den):(tq4 lim t h r).isSome=true:=by kernel_rfl
theorem tq4_eq:evR cd.E tr4 1000 tmJ (hS (sJ lim t h))=(cq.F t h.1 lim 0).bind fun r=>tq4 lim t h r:=by kernel_rfl
noncomputable def tq5 (r:(outTy cq.sg.ps cq.sg.rs).den) (s:(outTy dk.sg.ps dk.sg.rs).den):=evR (cE 75 dk.sg s) tr5 3000 (tmR (tq4 lim t h r)) (hR (tq4 lim t h r))
theorem tq5_ok (r:(outTy cq.sg.ps cq.sg.rs).den) (s:(outTy dk.sg.ps dk.sg.rs).den):(tq5 lim t h r s).isSome=true:=by kernel_rfl
theorem tq5_eq (r:(outTy cq.sg.ps cq.sg.rs).den):evR cd.E tr5 3000 (tmR (tq4 lim t h r)) (hR (tq4 lim t h r))=(dk.F r.1 h.1 h.2.1).bind fun s=>tq5 lim t h r s:=by kernel_rfl
theorem tq5_out (r:(outTy cq.sg.ps cq.sg.rs).den) (s:(outTy dk.sg.ps dk.sg.rs).den):evO psI (tq5 lim t h r s) [.ptr 0 [],.ptr 1 [],.ptr 9 []]=some (lim,t5.zero,s.1,()):=by kernel_rfl
noncomputable def tm6:List (Nat × PV):=[(5,.ptr 0 []),(6,.ptr 1 []),(7,.ptr 9 [])]
noncomputable def tq6:=evR cd.E tr6 1000 tm6 (hS (sI lim t))
theorem tq6_ok:(tq6 lim t).isSome=true:=by kernel_rfl
end
end Go.Proofs.YtkihjakbbcajbaaGreat.PM
namespace Go.Proofs.YtkihjakbbcajbaaGreat.PM
set_option linter.unusedSimpArgs false
set_option linter.unusedVariables false
open Go Go.Proofs Go.Proofs.YtkihjakbbcajbaaGreat.Kd Go.Proofs.YtkihjakbbcajbaaGreat.Bw
section
variable {A:Nat→Prop} {w W:World}
theorem stretch_in {ps:List PK} {vs:List Value} {x:(argTy ps).den} {bs:List Nat} {q:List (Nat × PV) × List PV × Nat} {hp:Hp} (e:evS ps x=some (q,hp)) (hr:ArgsRel A W ps vs x bs) (hn:bs.Nodup) (ho:∀r∈bs,¬A r) (hl:∀r,A r→r<W.heap.size):
  ∃g ss,HR g A (fun r=>W.heap.size≤r∨r∈bs) W hp∧IoR g q.2.1 ss∧SlR ps vs ss:=by
 obtain ⟨q',ws,rs,h1,h2⟩:=toD_evT _ _ _ _ _ e
 have h1:=OkT_Ok _ _ _ _ _ h1
 simp only [DT.ev] at h2
 injection h2 with h2
 injection h2 with h2 h3
 subst h2 h3
 have H0:HR (fun _=>none) A (fun r=>W.heap.size≤r∨r∈bs) W []:=
  {blk:=fun i b e=>(nomatch (show (none:Option Blk)=some b from e)),own:=fun i b s r e=>(nomatch (show (none:Option Blk)=some b from e)),inj:=fun i j b c s s' r e=>(nomatch (show (none:Option Blk)=some b from e)),dfn:=fun i s e=>(nomatch (show (none:Option Slot)=some s from e)),lt:=hl}
 obtain ⟨g',ss,_,H,_,r2,r3⟩:=start_ok ps _ _ vs x bs 0 0 _ _ H0 hr hn (fun r hr=>⟨ho r hr,.inr hr,fun i b s e=>(nomatch (show (none:Option Blk)=some b from e))⟩) h1
 exact ⟨g',ss,H,r2,r3⟩
theorem stretch_out {B:Bs} {g:Gh} {A1:Nat→Prop} {a:Act} {W':World} {X:Option (List (Nat × PV) × Hp)} {io io':List PV} (R:RS B g A1 a W' (tmR X) (hR X) io') {ps:List PK} {z:(outTy ps []).den} (e:evO ps X io=some z) {ss:List Slot} {vs:List Value} (hio:IoR g io ss) (hsl:SlR ps vs ss):
  ∃A2 bs zs,OutRel A2 W' ps [] vs zs z bs∧bs.Nodup∧(∀r∈bs,¬B.A0 r∧B.W r):=by
 obtain ⟨z',ws,rs,k1,k2⟩:=toD_evT _ _ _ _ _ e
 have k1:=OkT_Ok _ _ _ _ _ k1
 simp only [DT.ev] at k2
 injection k2 with k2
 subst k2
 obtain ⟨A2,bs,zs,G,o1,_⟩:=outs_ok (P:=Tryz.prog) (a:=a) (st:=⟨tmR X,hR X,0,io⟩) (fun t x e=>(R.tms t x e).2) (rs:=[]) (vs:=[]) rfl ps io vs ss A1 (hR X) z' _ (fun _ h=>h) R.hr hio hsl k1
 refine ⟨A2,bs,zs,o1,G.nd,fun r hr=>?_⟩
 obtain ⟨_,h2,h3⟩:=G.own r hr
 refine ⟨fun h=>h3 (G.le r (R.mono r h)),Classical.byContradiction fun hn=>h2 (fun i b s e hl hg hs=>hn (R.hr.own i b s r e hl hg hs).2)⟩
theorem tmc {nt:Nat} {g:Gh} {a:Act} {tm:List (Nat × PV)} {d:Nat} {y:PV} (hd:d<nt) (hy:VRel g A W y (a.tmps.getD d undef)) (h:∀t x,look t tm=some x→t<nt∧VRel g A W x (a.tmps.getD t undef)):
  ∀t x,look t ((d,y)::tm)=some x→t<nt∧VRel g A W x (a.tmps.getD t undef):=fun t x e=>by
 rw [look_cons] at e
 split at e
 ·rename_i e';subst e'
  injection e with e;subst e
  exact ⟨hd,hy⟩
 ·exact h t x e
theorem tmn {nt:Nat} {g:Gh} {a:Act}:∀t x,look t ([]:List (Nat × PV))=some x→t<nt∧VRel g A W x (a.tmps.getD t undef):=fun t x e=>(nomatch (show (none:Option PV)=some x from e))
theorem argsI {v5 v6 v7:Value} {lim:t0.den} {z t:t5.den} {bs:List Nat}:ArgsRel A W psI [v5,v6,v7] (lim,z,t,()) bs↔∃p q r,bs=p++(q++r)∧BoxRel A W t0 false v5 lim p∧BoxRel A W t5 true v6 z q∧BoxRel A W t5 true v7 t r:=by
 constructor
 ·rintro ⟨v,us,p,q,h1,h2,h3,v',us',p',q',h4,h5,h6,v'',us'',p'',q'',h7,h8,h9,_,h10⟩
  simp only [List.cons.injEq] at h1
  obtain ⟨rfl,rfl⟩:=h1
  simp only [List.cons.injEq] at h4
  obtain ⟨rfl,rfl⟩:=h4
  simp only [List.cons.injEq] at h7
  obtain ⟨rfl,rfl⟩:=h7
  subst h10
  exact ⟨p,p',p'',by rw [h2,h5,h8];simp,h3,h6,h9⟩
 ·rintro ⟨p,q,r,h1,h2,h3,h4⟩
  exact ⟨_,_,p,q++r,rfl,h1,h2,_,_,q,r,rfl,rfl,h3,_,_,r,[],rfl,by simp,h4,rfl,rfl⟩
theorem outI {v5 v6 v7:Value} {lim:t0.den} {z t:t5.den} {bs:List Nat} {zs:List Value} (h:OutRel A W psI [] [v5,v6,v7] zs (lim,z,t,()) bs):∃p q r,bs=p++(q++r)∧BoxRel A W t0 false v5 lim p∧BoxRel A W t5 true v6 z q∧BoxRel A W t5 true v7 t r:=by
 obtain ⟨v,us,p,q,h1,h2,h3,v',us',p',q',h4,h5,h6,v'',us'',p'',q'',h7,h8,h9,_,h10⟩:=h
 simp only [List.cons.injEq] at h1
 obtain ⟨rfl,rfl⟩:=h1
 simp only [List.cons.injEq] at h4
 obtain ⟨rfl,rfl⟩:=h4
 simp only [List.cons.injEq] at h7
 obtain ⟨rfl,rfl⟩:=h7
 subst h10
 exact ⟨p,p',p'',by rw [h2,h5,h8];simp,h3,h6,h9⟩
theorem argsJ {v5 v6 v7 v10:Value} {lim:t0.den} {z t:t5.den} {h:t9.den} {p q r s:List Nat} (h2:BoxRel A W t0 false v5 lim p) (h3:BoxRel A W t5 true v6 z q) (h4:BoxRel A W t5 true v7 t r) (h5:BoxRel A W t9 false v10 h s):ArgsRel A W psJ [v5,v6,v7,v10] (lim,z,t,h,()) (p++(q++(r++s))):=
 ⟨_,_,p,_,rfl,rfl,h2,_,_,q,_,rfl,rfl,h3,_,_,r,s,rfl,rfl,h4,_,_,s,[],rfl,by simp,h5,rfl,rfl⟩
theorem outJ {v5 v6 v7 v10:Value} {lim:t0.den} {z t:t5.den} {h:t9.den} {bs:List Nat} {zs:List Value} (k:OutRel A W psJ [] [v5,v6,v7,v10] zs (lim,z,t,h,()) bs):∃p q r s,bs=p++(q++(r++s))∧BoxRel A W t0 false v5 lim p∧BoxRel A W t5 true v6 z q∧BoxRel A W t5 true v7 t r∧BoxRel A W t9 false v10 h s:=by
 obtain ⟨v,us,p,q,h1,h2,h3,v',us',p',q',h4,h5,h6,v'',us'',p'',q'',h7,h8,h9,v3,u3,p3,q3,k1,k2,k3,_,h10⟩:=k
 simp only [List.cons.injEq] at h1
 obtain ⟨rfl,rfl⟩:=h1
 simp only [List.cons.injEq] at h4
 obtain ⟨rfl,rfl⟩:=h4
 simp only [List.cons.injEq] at h7
 obtain ⟨rfl,rfl⟩:=h7
 simp only [List.cons.injEq] at k1
 obtain ⟨rfl,rfl⟩:=k1
 subst h10
 exact ⟨p,p',p'',p3,by rw [h2,h5,h8,k2];simp,h3,h6,h9,k3⟩
theorem low5:lowT t5=true:=by kernel_rfl
theorem flat0:t0.flat=true:=by kernel_rfl
theorem flat9:t9.flat=true:=by kernel_rfl
structure I3 (A:Nat→Prop) (base Bs:Nat) (v5 v6 v7:Value) (lim:t0.den) (t:t5.den) (W:World) (p q r:List Nat):Prop where
 b5:BoxRel A W t0 false v5 lim p
 b6:BoxRel A W t5 true v6 t5.zero q
 b7:BoxRel A W t5 true v7 t r
 nd:(p++(q++r)).Nodup
 out:∀x∈p++(q++r),¬A x∧base≤x∧x≠Bs
theorem I3.cells {base Bs:Nat} {v5 v6 v7:Value} {lim:t0.den} {t:t5.den} {p q r:List Nat} (I:I3 A base Bs v5 v6 v7 lim t W p q r):∀x∈p++(q++r),∃c e,W.heap[x]?=some (.cells c e (0,0)):=fun x hx=>by
 rcases List.mem_append.1 hx with hx|hx
 ·exact I.b5.cellsF x hx
 ·rcases List.mem_append.1 hx with hx|hx
  ·exact I.b6.cellsO low5 x hx
  ·exact I.b7.cellsO low5 x hx
theorem I3.turn {base Bs:Nat} {v5 v6 v7:Value} {lim:t0.den} {t:t5.den} {p q r:List Nat} (I:I3 A base Bs v5 v6 v7 lim t W p q r) {W':World} (h:∀x∈p++(q++r),W'.heap[x]?=W.heap[x]?):I3 A base Bs v5 v6 v7 lim t W' p q r:=
 ⟨I.b5.lowF flat0 (fun x hx=>h x (by simp [hx])),I.b6.lowO low5 (fun x hx=>h x (by simp [hx])),I.b7.lowO low5 (fun x hx=>h x (by simp [hx])),I.nd,I.out⟩
end
noncomputable def toHV (h:t9.den):HV:=⟨h.1,h.2.1.1.1,h.2.1.1.2.1,h.2.1.1.2.2.1,h.2.1.2.1,h.2.1.2.2.1,h.2.1.2.2.2.1⟩
def hvL (h:HV):List Value:=[.int .u32 h.k,.int .i64 h.a,.int .i64 h.b,.int .i64 h.c,.int .i64 h.d,.int .i64 h.e,.int .u64 h.f]
section
variable {A:Nat→Prop} {w:World}
theorem held_cells {cs:List Value} {h:t9.den} (r:TRel A w t9 cs h):cs=hvL (toHV h):=by
 obtain ⟨k,c1,e1,r1,bc,c2,e2,⟨lc,c3,e3,⟨a,c4,e4,r4,b,c5,e5,r5,c,c6,e6,r6,r7⟩,d,c8,e8,r8,e,c9,e9,r9,f,c10,e10,r10,r11⟩,r2⟩:=r
 have r1:k=[.int .u32 _]:=r1
 have r4:a=[.int .i64 _]:=r4
 have r5:b=[.int .i64 _]:=r5
 have r6:c=[.int .i64 _]:=r6
 have r7:c6=[]:=r7
 have r8:d=[.int .i64 _]:=r8
 have r9:e=[.int .i64 _]:=r9
 have r10:f=[.int .u64 _]:=r10
 have r11:c10=[]:=r11
 have r2:c2=[]:=r2
 rw [e1,r1,e2,e3,e4,r4,e5,r5,e6,r6,r7,e8,r8,e9,r9,e10,r10,r11,r2]
 rfl
theorem held_rel (h:t9.den):TRel A w t9 (hvL (toHV h)) h:=
 ⟨[_],_,rfl,rfl,_,[],rfl,⟨_,_,rfl,⟨[_],_,rfl,rfl,[_],_,rfl,rfl,[_],[],rfl,rfl,rfl⟩,[_],_,rfl,rfl,[_],_,rfl,rfl,[_],[],rfl,rfl,rfl⟩,rfl⟩
theorem held_vrel {g:Gh} (h:t9.den):VRel g A w (mk t9 h) (toHV h).val:=⟨_,rfl,mk_rel t9 h _ (held_rel h)⟩
noncomputable def lz (l:List t9.den):List t9.den:=match l with
 |[]=>[t9.zero]
 |h::r=>h::r
theorem lz_pos (l:List t9.den):0<(lz l).length:=by cases l<;>simp [lz]
@[reducible] def El (l:List t9.den):Type:=Nat × {h:t9.den // h∈lz l}
noncomputable def elB (l:List t9.den) (j:Nat):El l:=(j,if hj:j<(lz l).length then ⟨(lz l)[j],List.getElem_mem hj⟩ else ⟨(lz l)[0]'(lz_pos l),List.getElem_mem _⟩)
noncomputable def encB (l:List t9.den) (x:El l):Array Value:=#[.int .i64 (x.1:Int),(toHV x.2.1).val]
theorem lz_eq {l:List t9.den} (h:0<l.length):lz l=l:=by cases l with
 |nil=>exact absurd h (by simp)
 |cons a r=>rfl
theorem elB_at {l:List t9.den} {j:Nat} (hj:j<l.length):(elB l j).2.1=l[j]:=by
 have e:=lz_eq (l:=l) (by omega)
 unfold elB
 have hj':j<(lz l).length:=by rw [e];exact hj
 rw [dif_pos hj']
 show (lz l)[j]=l[j]
 simp only [e]
theorem back_stops {m Bs:Nat} {v:Value} {e:TypeId} {l:List t9.den} (hn:1≤m) (hlt:∀r,A r→r<w.heap.size) (hBs:w.heap[Bs]?=some (.cells #[v] e (0,0))) (hT:TRel A w (.slice t9) [v] l) (hl:l.length≤1000000):
  SeqStopsK Fence.wide m Tryz.prog 105 #[.pointer (some ⟨Bs,0,none⟩)] (encB l) (KeepB fun r=>A r∨r=Bs) (fun ys=>ys=Bw.back (elB l) l.length l.length) (fun pre=>∃rest,Bw.back (elB l) l.length l.length=pre++rest) l.length w:=by
 intro y J Jx W hW hJ hJx hY h0
 have hB:Bs<w.heap.size:=heap_lt hBs
 have hWk:∀r,A r∨r=Bs→W.heap[r]?=w.heap[r]?:=fun r hr=>hW.block r (by
  rcases hr with hr|rfl
  ·exact hlt r hr
  ·exact hB)
 obtain ⟨a,cap,hk,hks⟩:=slice_out hT
 injection hk with hk _
 subst hk
 have hAtW:At w ⟨Bs,0,none⟩ [.slice a l.length cap]:=At_block hBs (fun j v h=>by rw [Nat.zero_add];simpa using h)
 have c0:W.cell? ⟨Bs,0,none⟩=some (.slice a l.length cap):=by
  have:=hAtW 0 _ rfl
  rw [add_at,Nat.zero_add] at this
  exact (World.cell?_of_block (a:=⟨Bs,0,none⟩) (hWk Bs (.inr rfl))).trans this
 have far:∀b o,A b→W.cell? ⟨b,o,none⟩=w.cell? ⟨b,o,none⟩:=fun b o h=>World.cell?_of_block (a:=⟨b,o,none⟩) (hWk b (.inl h))
 refine (back1_in (encB l) (elB l) m hn y Bs l.length cap (fun r=>A r∨r=Bs) a (fun j=>toHV (l.getD j t9.zero)) hl (fun j hj=>?_) J Jx hY W (.inr rfl) c0 (fun j hj=>?_) h0).mono ?_
 ·show #[Value.int .i64 ((elB l j).1:Int),(toHV (elB l j).2.1).val]=_
  rw [elB_at hj,List.getD,List.getElem?_eq_getElem hj]
  rfl
 ·obtain ⟨b,o,k1,k2,k3⟩:=hks j hj
  have g:∀i v,(hvL (toHV (l.getD j t9.zero)))[i]?=some v→W.cell? ⟨b,o+(j*7+i),none⟩=some v:=fun i v hv=>by
   rw [far b _ k2]
   refine k3 i v (fun hj cs hr=>?_)
   rw [held_cells hr,←hv,List.getD,List.getElem?_eq_getElem hj]
   rfl
  refine ⟨b,o,k1,.inl k2,g 0 _ rfl,g 1 _ rfl,g 2 _ rfl,g 3 _ rfl,g 4 _ rfl,g 5 _ rfl,g 6 _ rfl⟩
 ·rintro e W' ⟨he,⟨ys,rfl,hj⟩|⟨pre,⟨k,hk,rfl⟩,hj⟩⟩
  ·exact ⟨he,.inl ⟨_,rfl,hj⟩⟩
  ·refine ⟨he,.inr ⟨_,?_,hj⟩⟩
   obtain ⟨rest,hr⟩:=back_pre (elB l) l.length k (l.length - k)
   rw [show k+(l.length - k)=l.length by omega] at hr
   exact ⟨rest,hr⟩
end
end Go.Proofs.YtkihjakbbcajbaaGreat.PM
namespace Go.Proofs.YtkihjakbbcajbaaGreat.PM
set_option linter.unusedSimpArgs false
set_option linter.unusedVariables false
open Go Go.Proofs Go.Proofs.YtkihjakbbcajbaaGreat.Kd Go.Proofs.YtkihjakbbcajbaaGreat.Bw
theorem tnt:Tryz.f47.ntmps=40:=by kernel_rfl
def noDst (ops:List Oper) (t:Nat):Bool:=ops.all fun o=>match o.dst with
 |some d=>!(Nat.beq d t)
 |none=>true
theorem noDst_at {ops:List Oper} {t:Nat} (h:noDst ops t=true):∀o∈ops,o.dst≠some t:=fun o ho e=>by
 have:=List.all_eq_true.1 h o ho
 rw [e] at this
 simp at this
def TPts (v5 v6 v7:Value) (a:Act):Prop:=a.tmps.size=40∧a.tmps.getD 5 undef=v5∧a.tmps.getD 6 undef=v6∧a.tmps.getD 7 undef=v7
def OffV (W:World) (b10:Nat) (v:Value):Prop:=∃b c e,v=.pointer (some ⟨b,0,none⟩)∧W.heap[b]?=some (.cells c e (0,0))∧b10≠b∧b10∉c.toList.flatMap slBlk
section
variable {A:Nat→Prop} {W W':World} {base Bs:Nat} {v5 v6 v7:Value} {lim:t0.den} {t:t5.den} {h:t9.den} {p q r:List Nat}
theorem low0:lowT t0=true:=by kernel_rfl
theorem off_box {τ:Ty} {own:Bool} {v:Value} {x:τ.den} {bs:List Nat} {b10:Nat} (hf:own=true→lowT τ=true) (hb:BoxRel A W τ own v x bs) (ho:OffV W b10 v):b10∉bs:=by
 obtain ⟨b,c,e,p,h1,h2,h3,h4⟩:=hb
 obtain ⟨b',c',e',k1,k2,k3,k4⟩:=ho
 rw [h1] at k1
 injection k1 with k1
 injection k1 with k1
 injection k1 with k1
 subst k1
 rw [h2] at k2
 injection k2 with k2
 injection k2 with k2
 subst k2
 rw [h3]
 intro hm
 rcases List.mem_cons.1 hm with rfl|hm
 ·exact k3 rfl
 ·cases own with
  |true=>rw [OwnT.blks τ _ x p (hf rfl) h4] at hm;exact k4 hm
  |false=>rw [h4.2] at hm;cases hm
theorem box_off {τ:Ty} {own:Bool} {v:Value} {x:τ.den} {bs:List Nat} {b10:Nat} (hf:lowT τ=true) (hf2:own=false→τ.flat=true) (hb:BoxRel A W τ own v x bs) (ho:b10∉bs):OffV W b10 v:=by
 obtain ⟨b,c,e,p,h1,h2,h3,h4⟩:=hb
 rw [h3] at ho
 refine ⟨b,c,e,h1,h2,fun e=>ho (by rw [e];exact List.mem_cons_self),fun hm=>ho (List.mem_cons_of_mem _ ?_)⟩
 cases own with
 |true=>rw [OwnT.blks τ _ x p hf h4];exact hm
 |false=>
  rw [←OwnT.blks τ _ x [] hf (OwnT.flat τ _ x (hf2 rfl) h4.1)] at hm
  cases hm
structure Ax3 (A:Nat→Prop) (base Bs:Nat) (v5 v6 v7:Value) (h:t9.den) (a:Act) (W:World):Prop where
 pts:TPts v5 v6 v7 a
 defs:a.defers=[]
 box:∃b10 c e,a.tmps.getD 10 undef=.pointer (some ⟨b10,0,none⟩)∧W.heap[b10]?=some (.cells c e (0,0))∧TRel A W t9 c.toList h∧base≤b10∧¬A b10∧b10≠Bs∧OffV W b10 v5∧OffV W b10 v6∧OffV W b10 v7
theorem cells_same {row:Option Nat} (hg:W.grownBy W' row) (hr:∀x,row=some x→∃o:Obj,W.heap[x]?=some o∧o.isCells=false) {b:Nat} {c:Array Value} {e:TypeId} {z:Nat × Nat} (hb:W.heap[b]?=some (.cells c e z)):W'.heap[b]?=W.heap[b]?:=
 hg.block b (heap_lt hb) (fun e'=>by
  obtain ⟨o,ho,hc⟩:=hr b e'.symm
  rw [hb] at ho
  injection ho with ho;subst ho
  cases hc)
theorem OffV.grown {row:Option Nat} {b10:Nat} {v:Value} (hg:W.grownBy W' row) (hr:∀x,row=some x→∃o:Obj,W.heap[x]?=some o∧o.isCells=false) (ho:OffV W b10 v):OffV W' b10 v:=by
 obtain ⟨b,c,e,h1,h2,h3⟩:=ho
 exact ⟨b,c,e,h1,by rw [cells_same hg hr h2];exact h2,h3⟩
theorem Ax3.grown {row:Option Nat} {a:Act} (hg:W.grownBy W' row) (hr:∀x,row=some x→∃o:Obj,W.heap[x]?=some o∧o.isCells=false) (ho:Ax3 A base Bs v5 v6 v7 h a W):Ax3 A base Bs v5 v6 v7 h a W':=by
 obtain ⟨h1,h2,b10,c,e,k1,k2,k3,k4,k5,k6,k7,k8,k9⟩:=ho
 exact ⟨h1,h2,b10,c,e,k1,by rw [cells_same hg hr k2];exact k2,TRel.flat _ _ _ flat9 k3,k4,k5,k6,k7.grown hg hr,k8.grown hg hr,k9.grown hg hr⟩
theorem I3.grown {row:Option Nat} (hg:W.grownBy W' row) (hr:∀x,row=some x→∃o:Obj,W.heap[x]?=some o∧o.isCells=false) (I:I3 A base Bs v5 v6 v7 lim t W p q r):I3 A base Bs v5 v6 v7 lim t W' p q r:=
 I.turn fun x hx=>by
  obtain ⟨c,e,hc⟩:=I.cells x hx
  exact cells_same hg hr hc
theorem kf_of {bs:List Nat} (hk:Keep (fun x=>W.heap.size≤x∨x∈bs) W W') (hc:∀x∈bs,∃c e,W.heap[x]?=some (.cells c e (0,0))) (B0:Nat):KeepsFrom B0 W W':=
 ⟨hk.size,fun k o _ ho hn=>(hk.block k (heap_lt ho) (fun hx=>by
  rcases hx with hx|hx
  ·have:=heap_lt ho;omega
  ·obtain ⟨c,e,h1⟩:=hc k hx
   rw [h1] at ho;injection ho with ho;subst ho
   cases hn)).trans ho⟩
theorem kb_of {bs:List Nat} (hk:Keep (fun x=>W.heap.size≤x∨x∈bs) W W') (hA:∀x,A x→x<W.heap.size) (hB:Bs<W.heap.size) (ho:∀x∈bs,¬A x∧x≠Bs):KeepB (fun x=>A x∨x=Bs) W W':=fun x hx=>hk.block x (by
  rcases hx with hx|rfl
  ·exact hA x hx
  ·exact hB) (fun hn=>by
  rcases hn with hn|hn
  ·rcases hx with hx|rfl
   ·have:=hA x hx;omega
   ·omega
  ·rcases hx with hx|rfl
   ·exact (ho x hn).1 hx
   ·exact (ho x hn).2 rfl)
theorem ioI {g:Gh} {i1 i2 i3:Nat} {ss:List Slot} (h1:IoR g [.ptr i1 [],.ptr i2 [],.ptr i3 []] ss) (h2:SlR psI [v5,v6,v7] ss):VRel g A W (.ptr i1 []) v5∧VRel g A W (.ptr i2 []) v6∧VRel g A W (.ptr i3 []) v7:=by
 obtain ⟨v,us,s,tt,e1,rfl,⟨b,hb,rfl⟩,v',us',s',tt',e2,rfl,⟨b',hb',rfl⟩,v'',us'',s'',tt'',e3,rfl,⟨b'',hb'',rfl⟩,e4⟩:=h2
 simp only [List.cons.injEq] at e1
 obtain ⟨rfl,rfl⟩:=e1
 simp only [List.cons.injEq] at e2
 obtain ⟨rfl,rfl⟩:=e2
 simp only [List.cons.injEq] at e3
 obtain ⟨rfl,rfl⟩:=e3
 have e4:tt''=[]:=e4
 subst e4
 obtain ⟨⟨j1,k1,g1⟩,⟨j2,k2,g2⟩,⟨j3,k3,g3⟩,_⟩:=h1
 have k1:i1=j1:=by rcases k1 with k1|k1<;>injection k1
 have k2:i2=j2:=by rcases k2 with k2|k2<;>injection k2
 have k3:i3=j3:=by rcases k3 with k3|k3<;>injection k3
 subst k1 k2 k3
 exact ⟨mk_ptr (p:=[]) g1 hb trivial,mk_ptr (p:=[]) g2 hb' trivial,mk_ptr (p:=[]) g3 hb'' trivial⟩
theorem ioJ {g:Gh} {i1 i2 i3 i4:Nat} {v10:Value} {ss:List Slot} (h1:IoR g [.ptr i1 [],.ptr i2 [],.ptr i3 [],.ptr i4 []] ss) (h2:SlR psJ [v5,v6,v7,v10] ss):VRel g A W (.ptr i4 []) v10∧∃ss',IoR g [.ptr i1 [],.ptr i2 [],.ptr i3 []] ss'∧SlR psI [v5,v6,v7] ss'∧∀{g':Gh} {j1 j2 j3 j4:Nat},IoR g' [.ptr j1 [],.ptr j2 [],.ptr j3 [],.ptr j4 []] ss→IoR g' [.ptr j1 [],.ptr j2 [],.ptr j3 []] ss':=by
 obtain ⟨v,us,s,tt,e1,rfl,⟨b,hb,rfl⟩,v',us',s',tt',e2,rfl,⟨b',hb',rfl⟩,v'',us'',s'',tt'',e3,rfl,⟨b'',hb'',rfl⟩,v3,u3,s3,t3',e5,rfl,⟨b3,hb3,rfl⟩,e4⟩:=h2
 simp only [List.cons.injEq] at e1
 obtain ⟨rfl,rfl⟩:=e1
 simp only [List.cons.injEq] at e2
 obtain ⟨rfl,rfl⟩:=e2
 simp only [List.cons.injEq] at e3
 obtain ⟨rfl,rfl⟩:=e3
 simp only [List.cons.injEq] at e5
 obtain ⟨rfl,rfl⟩:=e5
 have e4:t3'=[]:=e4
 subst e4
 obtain ⟨g1,g2,g3,⟨j4,k4,g4⟩,_⟩:=h1
 have k4:i4=j4:=by rcases k4 with k4|k4<;>injection k4
 subst k4
 exact ⟨mk_ptr (p:=[]) g4 hb3 trivial,[s,s',s''],⟨g1,g2,g3,trivial⟩,⟨_,_,_,_,rfl,rfl,⟨b,hb,rfl⟩,_,_,_,_,rfl,rfl,⟨b',hb',rfl⟩,_,_,_,_,rfl,rfl,⟨b'',hb'',rfl⟩,rfl⟩,fun ⟨a1,a2,a3,_⟩=>⟨a1,a2,a3,trivial⟩⟩
theorem evS_at {ps:List PK} {x:(argTy ps).den} {io:List PV} (h:((evS ps x).map (·.1.2.1))=some io):∃q,evS ps x=some (q,hS (evS ps x))∧q.2.1=io:=by
 cases e:evS ps x with
 |none=>rw [e] at h;cases h
 |some z=>
  rw [e] at h
  injection h with h
  exact ⟨z.1,rfl,h⟩
theorem tasg_ok (hg:GlOk globs A W) (hA:∀x,A x→x<W.heap.size) (I:I3 A base Bs v5 v6 v7 lim t W p q r) (hb:base≤W.heap.size) (hB:Bs<W.heap.size) {a0:Act} (hp:TPts v5 v6 v7 a0) (h19:a0.tmps.getD 19 undef=(toHV h).val) (hd:a0.defers=[]) {rr:Option Nat} {n':Nat} {K:Act→World→Prop}
  (hK:∀a' W' p' q' r',KeepsFrom 0 W W'→KeepB (fun x=>A x∨x=Bs) W W'→Keep (fun x=>base≤x∨x∈([]:List Nat)) W W'→I3 A base Bs v5 v6 v7 lim t W' p' q' r'→Ax3 A base Bs v5 v6 v7 h a' W'→K a' W'):(rfAsg tf).wpIn (rnd rr) n' Tryz.prog (Exit.then K (fun _ _ _=>False)) a0 W:=by
 obtain ⟨qq,eS,eio⟩:=evS_at (sI_io lim t)
 obtain ⟨g,ss,H,hio,hsl⟩:=stretch_in (A:=A) eS (argsI.2 ⟨p,q,r,rfl,I.b5,I.b6,I.b7⟩) I.nd (fun x hx=>(I.out x hx).1) hA
 rw [eio] at hio
 obtain ⟨w5,w6,w7⟩:=ioI (A:=A) (W:=W) hio hsl
 obtain ⟨hs,h5,h6,h7⟩:=hp
 let B:PM.Bs:=⟨A,fun x=>W.heap.size≤x∨x∈p++(q++r),W,40,ss,fun x hx=> .inl hx,globs,hg,a0.defers⟩
 have R0:RS B g A a0 W (tmI h) (hS (sI lim t)) [.ptr 0 [],.ptr 1 [],.ptr 9 []]:=
  ⟨hs,rfl,tmc (nt:=40) (by decide) (by rw [h19];exact held_vrel h) (tmc (nt:=40) (by decide) (by rw [h5];exact w5) (tmc (nt:=40) (by decide) (by rw [h6];exact w6) (tmc (nt:=40) (by decide) (by rw [h7];exact w7) tmn))),H,fun _ h=>h,fun _ h=> .inl h,fun _ _=>rfl,.refl _ W,hio⟩
 rw [ta_eq]
 refine regionIn_ok (B:=B) cd.envOk rfl (evR_some (tq3_ok lim t h)) (by kernel_rfl) (by kernel_rfl) R0 (fun g' A' a' W' R hf=>?_)
 have hk:=R.keep
 obtain ⟨sl,b10,_,_,p10,g10,kb10,_,_,_,_⟩:=box_at R (tq3_b lim t h) (tq3_10 lim t h)
 have hio':IoR g' [.ptr 0 [],.ptr 1 [],.ptr 9 [],.ptr 1000 []] (ss++[sl]):=by
  have h1:=R.io
  obtain ⟨v,us,s,tt,e1,e1',⟨b,hb,rfl⟩,v',us',s',tt',e2,rfl,⟨b',hb',rfl⟩,v'',us'',s'',tt'',e3,rfl,⟨b'',hb'',rfl⟩,e4⟩:=hsl
  have e4:tt''=[]:=e4
  subst e4
  have h1:IoR g' [.ptr 0 [],.ptr 1 [],.ptr 9 []] ss:=h1
  rw [e1'] at h1 ⊢
  obtain ⟨a1,a2,a3,_⟩:=h1
  exact ⟨a1,a2,a3,⟨1000,.inl rfl,g10⟩,trivial⟩
 have hsl':SlR psJ [v5,v6,v7,.pointer (some ⟨b10,0,none⟩)] (ss++[sl]):=by
  obtain ⟨v,us,s,tt,e1,e1',⟨b,hb,k1⟩,v',us',s',tt',e2,rfl,⟨b',hb',k2⟩,v'',us'',s'',tt'',e3,rfl,⟨b'',hb'',k3⟩,e4⟩:=hsl
  have e4:tt''=[]:=e4
  subst e4
  simp only [List.cons.injEq] at e1
  obtain ⟨rfl,rfl⟩:=e1
  simp only [List.cons.injEq] at e2
  obtain ⟨rfl,rfl⟩:=e2
  simp only [List.cons.injEq] at e3
  obtain ⟨rfl,rfl⟩:=e3
  subst k1 k2 k3
  rw [e1']
  exact ⟨_,_,_,_,rfl,rfl,⟨b,hb,rfl⟩,_,_,_,_,rfl,rfl,⟨b',hb',rfl⟩,_,_,_,_,rfl,rfl,⟨b'',hb'',rfl⟩,_,_,_,_,rfl,rfl,⟨b10,kb10,rfl⟩,rfl⟩
 obtain ⟨A2,bs',zs,O,nd,own⟩:=stretch_out R (tq3_out lim t h) hio' hsl'
 obtain ⟨p',q',r',s',rfl,o5,o6,o7,o10⟩:=outJ O
 have low:∀x∈p'++(q'++(r'++s')),base≤x∧x≠Bs:=fun x hx=>by
  rcases (own x hx).2 with h1|h1
  ·have h1:W.heap.size≤x:=h1
   exact ⟨by omega,by omega⟩
  ·exact (I.out x h1).2
 have I':I3 A base Bs v5 v6 v7 lim t W' p' q' r':=by
  refine ⟨o5.lowF flat0 (fun _ _=>rfl),o6.lowO low5 (fun _ _=>rfl),o7.lowO low5 (fun _ _=>rfl),?_,fun x hx=>?_⟩
  ·refine List.Nodup.sublist ?_ nd
   exact (List.Sublist.refl _).append ((List.Sublist.refl _).append (List.sublist_append_left _ _))
  ·have hx':x∈p'++(q'++(r'++s')):=by
    simp only [List.mem_append] at hx ⊢
    rcases hx with h|h|h<;>simp [h]
   exact ⟨(own x hx').1,low x hx'⟩
 obtain ⟨b,c,e,pp,k1,k2,k3,k4,k5⟩:=o10
 injection k1 with k1
 injection k1 with k1
 injection k1 with k1
 subst k1
 rw [k5] at k3
 subst k3
 have hx10:b10∈p'++(q'++(r'++[b10])):=by simp
 have n1:b10∉p'∧b10∉q'∧b10∉r':=by
  rw [List.nodup_append] at nd
  obtain ⟨_,nd2,d1⟩:=nd
  rw [List.nodup_append] at nd2
  obtain ⟨_,nd3,d2⟩:=nd2
  rw [List.nodup_append] at nd3
  obtain ⟨_,_,d3⟩:=nd3
  exact ⟨fun hm=>d1 b10 hm b10 (by simp) rfl,fun hm=>d2 b10 hm b10 (by simp) rfl,fun hm=>d3 b10 hm b10 (by simp) rfl⟩
 refine hK a' W' p' q' r' (kf_of hk I.cells 0) (kb_of hk hA hB (fun x hx=>⟨(I.out x hx).1,(I.out x hx).2.2⟩)) ?_ I' ⟨⟨?_,?_,?_,?_⟩,R.defs.trans hd,b10,c,e,p10,k2,TRel.flat _ _ _ flat9 k4,(low b10 hx10).1,(own b10 hx10).1,(low b10 hx10).2,box_off low0 (fun _=>flat0) o5 n1.1,box_off low5 (fun e=>by cases e) o6 n1.2.1,box_off low5 (fun e=>by cases e) o7 n1.2.2⟩
 ·exact hk.mono fun x hx=>by
   rcases hx with hx|hx
   ·exact .inl (Nat.le_trans hb hx)
   ·exact .inl (I.out x hx).2.1
 ·exact R.size
 ·rw [hf 5 (noDst_at (by kernel_rfl))];exact h5
 ·rw [hf 6 (noDst_at (by kernel_rfl))];exact h6
 ·rw [hf 7 (noDst_at (by kernel_rfl))];exact h7
end
end Go.Proofs.YtkihjakbbcajbaaGreat.PM
namespace Go.Proofs.YtkihjakbbcajbaaGreat.PM
set_option linter.unusedSimpArgs false
set_option linter.unusedVariables false
open Go Go.Proofs Go.Proofs.YtkihjakbbcajbaaGreat.Kd Go.Proofs.YtkihjakbbcajbaaGreat.Bw
@[irreducible] noncomputable def tStep (lim:t0.den) (t:t5.den) (h:t9.den):Option t5.den:=(cq.F t h.1 lim 0).bind fun r=>(dk.F r.1 h.1 h.2.1).bind fun s=>some s.1
def TSafe (lim:t0.den) (l:List t9.den) (t:t5.den):Prop:=∀pre:List t9.den,(∀h∈pre,h∈l)→pre.length≤l.length→(goR (tStep lim) pre t).isSome=true
section
variable {A:Nat→Prop} {W:World} {base Bs:Nat} {v5 v6 v7:Value} {lim:t0.den} {t:t5.den} {h:t9.den} {p q r:List Nat}
theorem tbdy_ok (hg:GlOk globs A W) (hA:∀x,A x→x<W.heap.size) (I:I3 A base Bs v5 v6 v7 lim t W p q r) (hb:base≤W.heap.size) (hB:Bs<W.heap.size) {a0:Act} (X:Ax3 A base Bs v5 v6 v7 h a0 W) {t':t5.den} (hst:tStep lim t h=some t') {rr:Option Nat} {n':Nat} {Q:Exit→Act→World→Prop}
  (hK:∀a' W' p' q' r',KeepsFrom 0 W W'→KeepB (fun x=>A x∨x=Bs) W W'→Keep (fun x=>base≤x∨x∈([]:List Nat)) W W'→I3 A base Bs v5 v6 v7 lim t' W' p' q' r'→Q .normal a' W'):tbd.wpIn (rnd rr) n' Tryz.prog Q a0 W:=by
 obtain ⟨⟨hs,h5,h6,h7⟩,hd,b10,c10,e10,h10,c1,c2,c3,c4,c5,f5,f6,f7⟩:=X
 have n5:b10∉p:=off_box (fun e=>by cases e) I.b5 f5
 have n6:b10∉q:=off_box (fun _=>low5) I.b6 f6
 have n7:b10∉r:=off_box (fun _=>low5) I.b7 f7
 have ob10:BoxRel A W t9 false (.pointer (some ⟨b10,0,none⟩)) h [b10]:=⟨b10,c10,e10,[],rfl,c1,rfl,c2,rfl⟩
 have nd:(p++(q++(r++[b10]))).Nodup:=by
  have h1:=I.nd
  have e:p++(q++(r++[b10]))=(p++(q++r))++[b10]:=by simp
  rw [e,List.nodup_append]
  refine ⟨h1,by simp,fun x hx y hy=>?_⟩
  obtain rfl:=List.mem_singleton.1 hy
  intro e;subst e
  simp only [List.mem_append] at hx
  rcases hx with hx|hx|hx
  ·exact n5 hx
  ·exact n6 hx
  ·exact n7 hx
 have outs4:∀x∈p++(q++(r++[b10])),¬A x∧base≤x∧x≠Bs:=fun x hx=>by
  have:x∈p++(q++r)∨x=b10:=by
   simp only [List.mem_append,List.mem_singleton] at hx ⊢
   rcases hx with h|h|h|h<;>simp [h]
  rcases this with h|rfl
  ·exact I.out x h
  ·exact ⟨c4,c3,c5⟩
 have cells4:∀x∈p++(q++(r++[b10])),∃c e,W.heap[x]?=some (.cells c e (0,0)):=fun x hx=>by
  have:x∈p++(q++r)∨x=b10:=by
   simp only [List.mem_append,List.mem_singleton] at hx ⊢
   rcases hx with h|h|h|h<;>simp [h]
  rcases this with h|rfl
  ·exact I.cells x h
  ·exact ⟨c10,e10,c1⟩
 obtain ⟨qq,eS,eio⟩:=evS_at (sJ_io lim t h)
 obtain ⟨g,ss,H,hio,hsl⟩:=stretch_in (A:=A) eS (argsJ I.b5 I.b6 I.b7 ob10) nd (fun x hx=>(outs4 x hx).1) hA
 rw [eio] at hio
 obtain ⟨w10,ss',hio3,hsl3,turn⟩:=ioJ (A:=A) (W:=W) hio hsl
 obtain ⟨w5,w6,w7⟩:=ioI (A:=A) (W:=W) hio3 hsl3
 let B:PM.Bs:=⟨A,fun x=>W.heap.size≤x∨x∈p++(q++(r++[b10])),W,40,ss,fun x hx=> .inl hx,globs,hg,a0.defers⟩
 have R0:RS B g A a0 W tmJ (hS (sJ lim t h)) [.ptr 0 [],.ptr 1 [],.ptr 9 [],.ptr 17 []]:=
  ⟨hs,rfl,tmc (nt:=40) (by decide) (by rw [h10];exact w10) (tmc (nt:=40) (by decide) (by rw [h5];exact w5) (tmc (nt:=40) (by decide) (by rw [h6];exact w6) (tmc (nt:=40) (by decide) (by rw [h7];exact w7) tmn))),H,fun _ h=>h,fun _ h=> .inl h,fun _ _=>rfl,.refl _ W,hio⟩
 unfold tStep at hst
 cases hU:cq.F t h.1 lim 0 with
 |none=>rw [hU,Option.bind_none] at hst;cases hst
 |some rU=>
 rw [hU,Option.bind_some] at hst
 cases hS':dk.F rU.1 h.1 h.2.1 with
 |none=>rw [hS',Option.bind_none] at hst;cases hst
 |some rS=>
 rw [hS',Option.bind_some] at hst
 injection hst with hst
 subst hst
 have e4:evR cd.E tr4 1000 tmJ (hS (sJ lim t h))=some (tmR (tq4 lim t h rU),hR (tq4 lim t h rU)):=
  (tq4_eq lim t h).trans (by rw [hU,Option.bind_some];exact evR_some (tq4_ok lim t h rU))
 have e5:evR cd.E tr5 3000 (tmR (tq4 lim t h rU)) (hR (tq4 lim t h rU))=some (tmR (tq5 lim t h rU rS),hR (tq5 lim t h rU rS)):=
  (tq5_eq lim t h rU).trans (by rw [hS',Option.bind_some];exact evR_some (tq5_ok lim t h rU rS))
 rw [tbd_eq]
 refine wpIn_block (wpIn_seq ?_)
 refine regionIn_ok2 (B:=B) cd.envOk rfl e4 (by kernel_rfl) (nodefs (f:=74) (by kernel_rfl) cq.spec.enter) R0 (fun g1 A1 a1 W1 R1 _=>?_)
 refine regionIn_ok2 (B:=B) cd.envOk rfl e5 (by kernel_rfl) (nodefs (f:=75) (by kernel_rfl) dk.spec.enter) R1 (fun g' A' a' W' R _=>?_)
 have hk:=R.keep
 obtain ⟨A2,bs',zs,O,nd',own⟩:=stretch_out R (tq5_out lim t h rU rS) (turn R.io) hsl3
 obtain ⟨p',q',r',rfl,o5,o6,o7⟩:=outI O
 refine hK a' W' p' q' r' (kf_of hk cells4 0) (kb_of hk hA hB (fun x hx=>⟨(outs4 x hx).1,(outs4 x hx).2.2⟩)) ?_ ⟨o5.lowF flat0 (fun _ _=>rfl),o6.lowO low5 (fun _ _=>rfl),o7.lowO low5 (fun _ _=>rfl),nd',fun x hx=>⟨(own x hx).1,?_⟩⟩
 ·exact hk.mono fun x hx=>by
   rcases hx with hx|hx
   ·exact .inl (Nat.le_trans hb hx)
   ·exact .inl (outs4 x hx).2.1
 ·rcases (own x hx).2 with h1|h1
  ·have h1:W.heap.size≤x:=h1
   exact ⟨by omega,by omega⟩
  ·exact (outs4 x h1).2
end
section
variable {A:Nat→Prop} {w0 w:World} {Bs:Nat} {v5 v6 v7:Value} {lim:t0.den} {tI:t5.den} {l:List t9.den}
theorem goR_map (lim:t0.den) (t:t5.den) (pre:List (El l)) (x:El l):goR (tStep lim) ((pre++[x]).map fun y=>y.2.1) t=(goR (tStep lim) (pre.map fun y=>y.2.1) t).bind fun t'=>tStep lim t' x.2.1:=by
 rw [List.map_append,goR_app]
 cases goR (tStep lim) (pre.map fun y=>y.2.1) t with
 |none=>rfl
 |some t'=>
  show (tStep lim t' x.2.1).bind (goR (tStep lim) [])=tStep lim t' x.2.1
  cases tStep lim t' x.2.1<;>rfl
set_option maxRecDepth 100000 in
theorem tloop_ok (hg0:GlOk globs A w0) (hA0:∀x,A x→x<w0.heap.size) (k0:Keep (fun x=>w0.heap.size≤x∨x∈([]:List Nat)) w0 w) {p q r:List Nat} (I0:I3 A w0.heap.size Bs v5 v6 v7 lim tI w p q r) {a:Act} (hp:TPts v5 v6 v7 a) {v:Value} {e:TypeId}
  (hgf:a.tmps.getD 17 undef=.func (.func 105) #[] #[.pointer (some ⟨Bs,0,none⟩)]) (hBs:w.heap[Bs]?=some (.cells #[v] e (0,0))) (hT:TRel A w (.slice t9) [v] l) (hl:l.length≤1000000) (safe:TSafe lim l tI) {Q:Exit→Act→World→Prop}
  (hdone:∀D W t' p' q' r',w.heap.size≤D→goR (tStep lim) l.reverse tI=some t'→Keep (fun x=>w0.heap.size≤x∨x∈([]:List Nat)) w0 W→I3 A w0.heap.size Bs v5 v6 v7 lim t' W p' q' r'→W.heap[D]?=some (.deferred (some []))→Q .normal {a with defers:=mark D::a.defers} W):
  (Code.rangeFunc (.tmp 17) #[18,19] (rfAsg tf) tbd).wpIn Fence.wide 3 Tryz.prog Q a w:=by
 have hB:=heap_lt hBs
 have lt:∀{W:World},Keep (fun x=>w0.heap.size≤x∨x∈([]:List Nat)) w0 W→∀x,A x→x<W.heap.size:=fun k x hx=>Nat.lt_of_lt_of_le (hA0 x hx) k.size
 have gl:∀{W:World},Keep (fun x=>w0.heap.size≤x∨x∈([]:List Nat)) w0 W→GlOk globs A W:=fun k=>hg0.mono (fun _ h=>h) (fun x hx=>k.block x (hA0 x hx) (fun hn=>by
  rcases hn with hn|hn
  ·have:=hA0 x hx;omega
  ·cases hn))
 have kgrow:∀{W W':World} {row:Option Nat},Keep (fun x=>w0.heap.size≤x∨x∈([]:List Nat)) w0 W→W.grownBy W' row→(∀x,row=some x→w.heap.size≤x)→Keep (fun x=>w0.heap.size≤x∨x∈([]:List Nat)) w0 W':=fun {W W' row} k hgr hr=>
  k.trans ⟨hgr.os,hgr.tape,hgr.output,hgr.size,fun x hx hn=>hgr.block x hx (fun e'=>hn (.inl (Nat.le_trans k0.size (hr x e'.symm))))⟩
 let I:List (El l)→World→Prop:=fun pre W=>(∃t p q r,goR (tStep lim) (pre.map fun y=>y.2.1) tI=some t∧I3 A w0.heap.size Bs v5 v6 v7 lim t W p q r)∧Keep (fun x=>w0.heap.size≤x∨x∈([]:List Nat)) w0 W∧w.heap.size≤W.heap.size
 have ownI:OwnFrom w.heap.size I:=fun pre W W' row h hgr hr=>by
  obtain ⟨⟨t,p,q,r,h1,h2⟩,h3,h4⟩:=h
  exact ⟨⟨t,p,q,r,h1,h2.grown hgr (fun x e=>(hr x e).2)⟩,kgrow h3 hgr (fun x e=>(hr x e).1),Nat.le_trans h4 hgr.size⟩
 refine wpIn_rangeFunc_ownH (F:=Fence.wide) (n:=3) rfl (by decide) (gf:=105) (lb:=#[.pointer (some ⟨Bs,0,none⟩)]) hgf trivial (Go.Proofs.enters_of Tryz.func105 (by kernel_rfl) rfl) (encs:=encB l)
  (back_stops (m:=2) (by decide) (lt k0) hBs hT hl) (fun h k=>h.trans k) (fun W y o o' hl hh ho _ x hr=>?_) (Go.RowKit.Below.refl _ _) (fun _=>rfl)
  I (fun _ _ _=>False) ownI (fun c pre W W' row h _ _=>h) ⟨⟨tI,p,q,r,rfl,I0⟩,k0,Nat.le_refl _⟩
  (fun x a' W=>Ax3 A w0.heap.size Bs v5 v6 v7 x.2.1 a' W) (fun x a' _ W W' row h hgr hr=>h.grown hgr (fun z e=>(hr z e).2)) (fun y pre x W K hI hK=>?_) (fun y pre x a' W hl hrec hI hAx hlen=>?_) (fun D ys W hD he hI hk=>?_) (fun D c pre W hD _ h _=>h.elim)
 ·have hx:x<w.heap.size:=by
   rcases hr with hr|rfl
   ·exact lt k0 x hr
   ·exact hB
  exact (grownBy_putObj' W y o').block x (Nat.lt_of_lt_of_le hx (by have:=heap_lt hh;omega)) (fun e=>by injection e with e;omega)
 ·obtain ⟨⟨t,p1,q1,r1,h1,h2⟩,h3,h4⟩:=hI
  have ht:(#[18,19].zip (encB l x)).foldl (fun t ((p,v):Nat × Value)=>t.setIfInBounds p v) a.tmps=(a.tmps.setIfInBounds 18 (.int .i64 (x.1:Int))).setIfInBounds 19 (toHV x.2.1).val:=by kernel_rfl
  have z1:18<a.tmps.size:=by rw [hp.1];decide
  have z2:19<(a.tmps.setIfInBounds 18 (.int .i64 (x.1:Int))).size:=by rw [Array.size_setIfInBounds,hp.1];decide
  have g:∀j,((a.tmps.setIfInBounds 18 (.int .i64 (x.1:Int))).setIfInBounds 19 (toHV x.2.1).val).getD j undef=if 19=j then (toHV x.2.1).val else if 18=j then (.int .i64 (x.1:Int)) else a.tmps.getD j undef:=fun j=>by rw [getD_put1 z2,getD_put1 z1]
  rw [ht]
  refine tasg_ok (rr:=some y) (h:=x.2.1) (gl h3) (lt h3) h2 h3.size (Nat.lt_of_lt_of_le hB h4) (a0:={tmps:=(a.tmps.setIfInBounds 18 (.int .i64 (x.1:Int))).setIfInBounds 19 (toHV x.2.1).val,defers:=[]}) ⟨?_,?_,?_,?_⟩ ?_ rfl (fun a' W' p' q' r' kf kb k' hI' hAx=>hK a' W' ⟨kf.size,fun k o _ ho hc=>kf.same k o (Nat.zero_le _) ho hc⟩ kb ⟨⟨t,p',q',r',h1,hI'⟩,h3.trans k',Nat.le_trans h4 k'.size⟩ hAx)
  ·show (Array.setIfInBounds _ _ _).size=40
   rw [Array.size_setIfInBounds,Array.size_setIfInBounds];exact hp.1
  ·show Array.getD _ _ _=_
   rw [g];exact hp.2.1
  ·show Array.getD _ _ _=_
   rw [g];exact hp.2.2.1
  ·show Array.getD _ _ _=_
   rw [g];exact hp.2.2.2
  ·show Array.getD _ _ _=_
   rw [g];rfl
 ·obtain ⟨⟨t,p1,q1,r1,h1,h2⟩,h3,h4⟩:=hI
  have e:=goR_map lim tI pre x
  rw [h1] at e
  have hsome:(goR (tStep lim) ((pre++[x]).map fun y=>y.2.1) tI).isSome=true:=by
   have hl0:0<l.length:=by omega
   refine safe _ (fun h hh=>?_) (by rw [List.length_map,List.length_append,List.length_singleton];omega)
   obtain ⟨y,_,rfl⟩:=List.mem_map.1 hh
   have mem:∀z,z∈lz l→z∈l:=fun z hz=>by rw [lz_eq hl0] at hz;exact hz
   exact mem _ y.2.2
  rw [e] at hsome
  obtain ⟨t',ht'⟩:=Option.isSome_iff_exists.1 hsome
  have ht':tStep lim t x.2.1=some t':=ht'
  refine tbdy_ok (rr:=some y) (gl h3) (lt h3) h2 h3.size (Nat.lt_of_lt_of_le hB h4) hAx ht' (fun a'' W' p' q' r' kf kb k' hI'=>⟨⟨kf.size,fun k o _ ho hc=>kf.same k o (Nat.zero_le _) ho hc⟩,kb,⟨t',p',q',r',?_,hI'⟩,h3.trans k',Nat.le_trans h4 k'.size⟩)
  rw [e];exact ht'
 ·obtain ⟨⟨t,p1,q1,r1,h1,h2⟩,h3,h4⟩:=hI
  have he:ys=Bw.back (elB l) l.length l.length:=he
  subst he
  refine hdone D W t p1 q1 r1 hD ?_ h3 h2 hk
  have:(Bw.back (elB l) l.length l.length).map (fun y=>y.2.1)=l.reverse:=by
   unfold Bw.back
   rw [List.map_map]
   apply List.ext_getElem
   ·simp
   ·intro i h1 h2
    simp only [List.length_map,List.length_range] at h1
    simp only [List.getElem_map,List.getElem_range,Function.comp,List.getElem_reverse]
    exact elB_at (by omega)
  rw [this] at h1
  exact h1
end
end Go.Proofs.YtkihjakbbcajbaaGreat.PM
namespace Go.Proofs.YtkihjakbbcajbaaGreat.PM
set_option linter.unusedSimpArgs false
set_option linter.unusedVariables false
open Go Go.Proofs Go.Proofs.YtkihjakbbcajbaaGreat.Kd Go.Proofs.YtkihjakbbcajbaaGreat.Bw
noncomputable def cd.Rest (l:List t9.den) (lim:t0.den) (t:t5.den):Option (t5.den × Unit):=open Classical in
 if l.length≤1000000∧TSafe lim l t then (goR (tStep lim) l.reverse t).bind fun t'=>some (t',()) else none
noncomputable def cd.Fn:Fun:=⟨cd.sg,fun x=>(dj.F x.2.1).bind fun r=>cd.Rest x.1 x.2.2.1 r.1⟩
noncomputable def cd.F (l:List t9.den) (most:Int) (limit:t0.den):Option (t5.den × Unit):=cd.Fn.F (l,most,limit,())
theorem cd.F_eq (l:List t9.den) (most:Int) (limit:t0.den):cd.F l most limit=(dj.F most).bind fun r=>cd.Rest l limit r.1:=by kernel_rfl
@[reducible] noncomputable def TY:Type:=(outTy cd.Fn.sig.ps cd.Fn.sig.rs).den
noncomputable def ty1 (t:t5.den):TY:=(t,())
def outT (R:Ending→World→Prop):Exit→Act→World→Prop:=fun e a w=>(e=.normal∨e=.ret)∧LeavesInM Fence.wide 3 Tryz.prog Tryz.f47 a.tmps R a.defers .returning w
theorem tres:resOk Tryz.prog cd.sg.rs Tryz.f47.results.toList=true:=by kernel_rfl
section
variable {A:Nat→Prop} {w0:World} {vs:List Value}
theorem tfin {B:PM.Bs} {g:Gh} {A':Nat→Prop} {a:Act} {w':World} {st:St} (R:RS B g A' a w' st.tm st.hp st.io) (hsl:B.sl=[]) (hA0:B.A0=A) {ff:List It→St→Option TY} {y:TY} (e:(cd.c.fin st).ev ff=some y) {D:Nat} (hdf:B.df=[mark D]) (hD:w'.heap[D]?=some (.deferred (some []))) (hDw:w0.heap.size≤D)
  {v0 v1 v2:Value} (hv:vs=[v0,v1,v2]) (hA:∀r,A r→r<w0.heap.size) (hW:∀x,B.W x→w0.heap.size≤x) (hk:Keep (fun r=>w0.heap.size≤r∨r∈([]:List Nat)) w0 w'):LeavesInM Fence.wide 3 Tryz.prog Tryz.f47 a.tmps (Done cd.Fn A w0 vs [] y) a.defers .returning w':=by
 obtain ⟨z,ws',rs',k1,k2⟩:=toD_evT _ _ _ _ _ e
 have k1:=OkT_Ok _ _ _ _ _ k1
 simp only [DT.ev] at k2
 injection k2 with k2
 subst k2
 have hio:=R.io
 rw [hsl] at hio
 obtain ⟨A2,bs2,zs,G,o1,o2⟩:=outs_ok (P:=Tryz.prog) (a:=a) (st:=st) (fun t x e=>(R.tms t x e).2) tres cd.sg.ps st.io vs [] A' st.hp z _ (fun _ h=>h) R.hr hio (by subst hv;rfl) k1
 obtain ⟨v,us,p,q,h1,h2,⟨h3,h4⟩,h5,h6⟩:ResRel A2 w' [(t5,true)] zs z bs2:=by subst hv;exact o1
 subst h1 h2 h5 h6
 have h4:OwnT A2 w' t5 v.cells.toList z.1 p:=h4
 have own:∀x∈p++([]:List Nat),¬A x∧w0.heap.size≤x:=fun x hx=>by
  obtain ⟨_,q2,q3⟩:=G.own x hx
  refine ⟨fun h=>q3 (G.le x (R.mono x (hA0▸h))),hW x (Classical.byContradiction fun hn=>q2 (fun i b s e hl hg hs=>hn (R.hr.own i b s x e hl hg hs).2))⟩
 rw [R.defs,hdf]
 refine leave_marks [D] w' (fun D' h=>by obtain rfl:=List.mem_singleton.1 h;exact hD) (by simp) (fun W h1 h2 h3' h4' h5 h6=>⟨results_run (resAll_turn h1 _ _ o2),?_⟩)
 have cells:=OwnT.cells t5 _ _ p low5 h4
 refine ⟨⟨[v],A,p++[],rfl,?_,G.nd,fun x hx=>⟨(own x hx).1,.inl (own x hx).2,?_⟩,fun r h=> .inl h,fun r h=>Nat.lt_of_lt_of_le (hA r h) (Nat.le_trans hk.size (Nat.le_of_eq h5.symm))⟩,⟨h2.trans hk.os,h3'.trans hk.tape,h4'.trans hk.output,by rw [h5];exact hk.size,fun r hr hn=>?_⟩⟩
 ·have:ResRel A W [(t5,true)] [v] z (p++[]):=⟨v,[],p,[],rfl,rfl,⟨h3,OwnT.low t5 _ _ p low5 h4 (fun x hx=>by
   obtain ⟨c,e,hc⟩:=cells x hx
   exact h1 x c e (0,0) hc)⟩,rfl,rfl⟩
  subst hv;exact this
 ·rw [List.append_nil] at hx
  obtain ⟨c,e,hc⟩:=cells x hx
  rw [h5];exact heap_lt hc
 ·rw [h6 r (fun h=>by obtain rfl:=List.mem_singleton.1 h;omega)];exact hk.block r hr hn
theorem tq6_fin' (lim:t0.den) (t:t5.den) (ff:List It→St→Option TY):(cd.c.fin ⟨tmR (tq6 lim t),hR (tq6 lim t),0,[]⟩).ev ff=some (ty1 t):=by kernel_rfl
theorem ttail_ok (hg0:GlOk globs A w0) (hA:∀r,A r→r<w0.heap.size) {W:World} {Bs:Nat} {v5 v6 v7:Value} {lim:t0.den} {t:t5.den} {p q r:List Nat} (hk:Keep (fun r=>w0.heap.size≤r∨r∈([]:List Nat)) w0 W) (I:I3 A w0.heap.size Bs v5 v6 v7 lim t W p q r) {a:Act} (hp:TPts v5 v6 v7 a) {D:Nat} (hdf:a.defers=[mark D]) (hD:W.heap[D]?=some (.deferred (some []))) (hDw:w0.heap.size≤D)
  {v0 v1 v2:Value} (hv:vs=[v0,v1,v2]):(Code.seq (.region 6 tr6.toArray false) .ret).wpIn Fence.wide 3 Tryz.prog (outT (Done cd.Fn A w0 vs [] (ty1 t))) a W:=by
 have hAW:∀x,A x→x<W.heap.size:=fun x hx=>Nat.lt_of_lt_of_le (hA x hx) hk.size
 have hg:GlOk globs A W:=hg0.mono (fun _ h=>h) (fun x hx=>hk.block x (hA x hx) (fun hn=>by
  rcases hn with hn|hn
  ·have:=hA x hx;omega
  ·cases hn))
 obtain ⟨qq,eS,eio⟩:=evS_at (sI_io lim t)
 obtain ⟨g,ss,H,hio,hsl⟩:=stretch_in (A:=A) eS (argsI.2 ⟨p,q,r,rfl,I.b5,I.b6,I.b7⟩) I.nd (fun x hx=>(I.out x hx).1) hAW
 rw [eio] at hio
 obtain ⟨w5,w6,w7⟩:=ioI (A:=A) (W:=W) hio hsl
 obtain ⟨hs,h5,h6,h7⟩:=hp
 let B:PM.Bs:=⟨A,fun x=>W.heap.size≤x∨x∈p++(q++r),W,40,[],fun x hx=> .inl hx,globs,hg,a.defers⟩
 have R0:RS B g A a W tm6 (hS (sI lim t)) []:=
  ⟨hs,rfl,tmc (nt:=40) (by decide) (by rw [h5];exact w5) (tmc (nt:=40) (by decide) (by rw [h6];exact w6) (tmc (nt:=40) (by decide) (by rw [h7];exact w7) tmn)),H,fun _ h=>h,fun _ h=> .inl h,fun _ _=>rfl,.refl _ W,trivial⟩
 refine wpIn_seq (regionIn_ok (r:=none) (B:=B) cd.envOk rfl (evR_some (tq6_ok lim t)) (by kernel_rfl) (by kernel_rfl) R0 (fun g' A' a' W' R _=>?_))
 have hk':=R.keep
 have hkk:Keep (fun r=>w0.heap.size≤r∨r∈([]:List Nat)) w0 W':=hk.trans (hk'.mono fun x hx=>by
  rcases hx with hx|hx
  ·exact .inl (Nat.le_trans hk.size hx)
  ·exact .inl (I.out x hx).2.1)
 refine wpIn_ret ⟨.inr rfl,?_⟩
 have hfin:=tq6_fin' lim t (fun _ _=>none)
 have hD':W'.heap[D]?=some (.deferred (some [])):=by
  have hne:¬(W.heap.size≤D∨D∈p++(q++r)):=fun hx=>by
   rcases hx with hx|hx
   ·have:=heap_lt hD;omega
   ·obtain ⟨c,e,hc⟩:=I.cells D hx
    rw [hD] at hc;cases hc
  rw [hk'.block D (heap_lt hD) hne];exact hD
 have hW:∀x,B.W x→w0.heap.size≤x:=fun x hx=>by
  rcases hx with hx|hx
  ·exact Nat.le_trans hk.size hx
  ·exact (I.out x hx).2.1
 have hdf':B.df=[mark D]:=hdf
 have hs':B.sl=[]:=rfl
 have hA':B.A0=A:=rfl
 have R:RS B g' A' a' W' (tmR (tq6 lim t)) (hR (tq6 lim t)) []:=R
 clear_value B
 generalize tmR (tq6 lim t)=X at R hfin
 generalize hR (tq6 lim t)=Y at R hfin
 have R2:RS B g' A' a' W' (⟨X,Y,0,[]⟩:St).tm (⟨X,Y,0,[]⟩:St).hp (⟨X,Y,0,[]⟩:St).io:=R
 generalize ty1 t=y at hfin ⊢
 exact tfin R2 hs' hA' hfin hdf' hD' hDw hv hA hW hkk
theorem tr2_0:tr2[0]?=some (opOf tr2 0)∧(opOf tr2 0).op=.move (.tmp 0)∧(opOf tr2 0).guard=none∧(opOf tr2 0).dst=some 16:=⟨by kernel_rfl,by kernel_rfl,by kernel_rfl,by kernel_rfl⟩
theorem tr2_1:tr2[1]?=some (opOf tr2 1)∧(opOf tr2 1).op=.call {callee:=.value (.func 73),args:=#[.tmp 16],argTypes:=#[83]}∧(opOf tr2 1).guard=none∧(opOf tr2 1).dst=some 17:=⟨by kernel_rfl,by kernel_rfl,by kernel_rfl,by kernel_rfl⟩
theorem tr2_n:tr2.size=2:=by kernel_rfl
theorem run_back {w:World} (o:Oper) (ρ:Operand→Value) (x:Nat) (ho:o.op=.call {callee:=.value (.func 73),args:=#[.tmp x],argTypes:=#[83]}) (hρ:ρ (.func 73)=.func (.func 73) #[] #[]):(execOp ρ o).run Tryz.prog w=.ok (.enter 73 #[ρ (.tmp x)]) w:=by
 have he:∀args w,(callFunc 73 args).run Tryz.prog w=.ok (.enter 73 args) w:=Go.Proofs.enters_of Tryz.func73 (by kernel_rfl) rfl
 unfold execOp
 rw [ho]
 simp [resolve,invoke,hρ,he,go_sem]
theorem tmake_ok {w:World} {a:Act} {v5 v6 v7:Value} {ad:Option Addr} {len cap:Nat} (hp:TPts v5 v6 v7 a) (h0:a.tmps.getD 0 undef=.slice ad len cap) {Q:Exit→Act→World→Prop}
  (hQ:∀(a':Act),TPts v5 v6 v7 a'→a'.defers=a.defers→a'.tmps.getD 17 undef=.func (.func 105) #[] #[.pointer (some ⟨w.heap.size,0,none⟩)]→Q .normal a' (w.alloc (.cells #[.slice ad len cap] 83))):(Code.region 2 tr2 false).wpIn Fence.wide 3 Tryz.prog Q a w:=by
 obtain ⟨hs,h5,h6,h7⟩:=hp
 refine wpIn_region ?_
 rw [tr2_n]
 show wpOpsIn _ _ _ _ _ [0,1] _ _
 refine val_step tr2_0.1 tr2_0.2.2.1 (fun c e=>by rw [tr2_0.2.1] at e;cases e) (v:=.slice ad len cap) ?_ ?_
 ·unfold execOp
  rw [tr2_0.2.1]
  have e1:a.eval (.tmp 0)=.slice ad len cap:=h0
  simp only [e1];rfl
 rw [tr2_0.2.2.2]
 have s1:∀(a:Act) (d t:Nat) (v:Value),a.tmps.size=40→d<40→(a.put (some d) v).tmps.getD t undef=if d=t then v else a.tmps.getD t undef:=fun a d t v hs hd=>by
  rw [put_get _ _ _ _ (fun e h=>by injection h with h;subst h;rw [hs];exact hd)]
  by_cases e:d=t
  ·rw [if_pos e,if_pos (by rw [e])]
  ·rw [if_neg e,if_neg (fun h=>e (by injection h))]
 have z1:(a.put (some 16) (.slice ad len cap)).tmps.size=40:=by rw [put_size];exact hs
 refine call_step (f:=73) (args:=#[.slice ad len cap]) (R:=fun v w'=>v=.func (.func 105) #[] #[.pointer (some ⟨w.heap.size,0,none⟩)]∧w'=w.alloc (.cells #[.slice ad len cap] 83)) tr2_1.1 tr2_1.2.2.1 (fun c e=>by rw [tr2_1.2.1] at e;cases e) ?_ ?_ ?_
 ·rw [run_back _ _ 16 tr2_1.2.1 rfl]
  have e1:(a.put (some 16) (.slice ad len cap)).eval (.tmp 16)=.slice ad len cap:=by
   show (a.put (some 16) (.slice ad len cap)).tmps.getD 16 undef=_
   rw [s1 _ _ _ _ hs (by decide),if_pos rfl]
  rw [e1]
 ·exact (back_in (3 - 1) ad len cap w).mono (fun e w' h=>⟨_,h.1,rfl,h.2⟩)
 ·rintro v w' ⟨rfl,rfl⟩
  rw [tr2_1.2.2.2]
  have low:∀t,t≠16→t≠17→((a.put (some 16) (.slice ad len cap)).put (some 17) (.func (.func 105) #[] #[.pointer (some ⟨w.heap.size,0,none⟩)])).tmps.getD t undef=a.tmps.getD t undef:=fun t n1 n2=>by
   rw [s1 _ _ _ _ z1 (by decide),if_neg (fun e=>n2 e.symm),s1 _ _ _ _ hs (by decide),if_neg (fun e=>n1 e.symm)]
  refine hQ _ ⟨by rw [put_size];exact z1,(low 5 (by decide) (by decide)).trans h5,(low 6 (by decide) (by decide)).trans h6,(low 7 (by decide) (by decide)).trans h7⟩ rfl ?_
  rw [s1 _ _ _ _ z1 (by decide),if_pos rfl]
end
theorem tfhb:Tryz.f47.body=some tb:=rfl
theorem at0 (v0 v1 v2:Value) (n:Nat):([v0,v1,v2].toArray++Array.replicate n undef).getD 0 undef=v0:=by simp [Array.getD]
theorem at1 (v0 v1 v2:Value) (n:Nat):([v0,v1,v2].toArray++Array.replicate n undef).getD 1 undef=v1:=by
 simp [Array.getD];intro h;omega
theorem at2 (v0 v1 v2:Value) (n:Nat):([v0,v1,v2].toArray++Array.replicate n undef).getD 2 undef=v2:=by
 simp [Array.getD];intro h;omega
theorem tmain_ok {w:World} {A:Nat→Prop} (hgok:GlOk globs A w) (hA:∀r,A r→r<w.heap.size) {l:List t9.den} {most:Int} {lim:t0.den} {v0 v1 v2:Value} (a0:ValRel A w (.slice t9) false v0 l []) (a1:ValRel A w (.int .i64) false v1 most []) (a2:ValRel A w t0 false v2 lim [])
  {rN:t5.den × Int × Unit} (hN:dj.F most=some rN) {t':t5.den} (hlen:l.length≤1000000) (safe:TSafe lim l rN.1) (hgo:goR (tStep lim) l.reverse rN.1=some t'):
  tb.wpIn Fence.wide 3 Tryz.prog (outT (Done cd.Fn A w [v0,v1,v2] [] (ty1 t'))) {tmps:=[v0,v1,v2].toArray++Array.replicate (Tryz.f47.ntmps - [v0,v1,v2].toArray.size) undef,defers:=[]} w:=by
 obtain ⟨ha0,hr0,_⟩:=a0
 obtain ⟨ha1,hr1,_⟩:=a1
 obtain ⟨ha2,hr2,_⟩:=a2
 have H0:HR (fun _=>none) A (fun r=>w.heap.size≤r∨r∈([]:List Nat)) w []:=
  {blk:=fun i b e=>(nomatch (show (none:Option Blk)=some b from e)),own:=fun i b s r e=>(nomatch (show (none:Option Blk)=some b from e)),inj:=fun i j b c s s' r e=>(nomatch (show (none:Option Blk)=some b from e)),dfn:=fun i s e=>(nomatch (show (none:Option Slot)=some s from e)),lt:=hA}
 let B:PM.Bs:=⟨A,fun r=>w.heap.size≤r∨r∈([]:List Nat),w,40,[],fun r hr=> .inl hr,globs,hgok,[]⟩
 have V0:VRel (fun _=>none) A w (.v (.slice t9) l) v0:=VRel_of (t:=.slice t9) (isAgg_mk (.slice t9) l) ha0 (mk_rel (.slice t9) l _ hr0)
 have V1:VRel (fun _=>none) A w (.v (.int .i64) most) v1:=VRel_of (t:=.int .i64) (isAgg_mk (.int .i64) most) ha1 (mk_rel (.int .i64) most _ hr1)
 have V2:VRel (fun _=>none) A w (mk t0 lim) v2:=VRel_of (t:=t0) (isAgg_mk t0 lim) ha2 (mk_rel t0 lim _ hr2)
 generalize ha:({tmps:=[v0,v1,v2].toArray++Array.replicate (Tryz.f47.ntmps - [v0,v1,v2].toArray.size) undef,defers:=[]}:Act)=a
 have t0':a.tmps.getD 0 undef=v0:=by rw [←ha];exact at0 ..
 have t1':a.tmps.getD 1 undef=v1:=by rw [←ha];exact at1 ..
 have t2':a.tmps.getD 2 undef=v2:=by rw [←ha];exact at2 ..
 have ts:a.tmps.size=40:=by rw [←ha];simp [tnt]
 have td:a.defers=[]:=by rw [←ha]
 have R0:RS B (fun _=>none) A a w (tmA l most lim) [] []:=
  ⟨ts,td,tmc (nt:=40) (by decide) (by rw [t0'];exact V0) (tmc (nt:=40) (by decide) (by rw [t1'];exact V1) (tmc (nt:=40) (by decide) (by rw [t2'];exact V2) tmn)),H0,fun _ h=>h,fun _ h=> .inl h,fun _ _=>rfl,.refl _ w,trivial⟩
 clear ha
 rw [tb_eq]
 refine wpIn_seq (regionIn_ok (r:=none) (B:=B) cd.envOk rfl (evR_some (tq0_ok l most lim)) (by kernel_rfl) (by kernel_rfl) R0 (fun g1 A1 a1 w1 R1 hf1=>?_))
 have R1:RS B g1 A1 a1 w1 (tmR (tq0 l most lim)) (hR (tq0 l most lim)) []:=R1
 have e1:evR cd.E tr1 1000 (tmR (tq0 l most lim)) (hR (tq0 l most lim))=some (tmR (tq1 l most lim rN),hR (tq1 l most lim rN)):=
  (tq1_eq l most lim).trans (by rw [hN,Option.bind_some];exact evR_some (tq1_ok l most lim rN))
 refine wpIn_seq (regionIn_ok2 (r:=none) (B:=B) cd.envOk rfl e1 (by kernel_rfl) (nodefs (f:=72) (by kernel_rfl) dj.spec.enter) R1 (fun g A2 a2 w2 R hf2=>?_))
 have R:RS B g A2 a2 w2 (tmR (tq1 l most lim rN)) (hR (tq1 l most lim rN)) []:=R
 obtain ⟨s5,b5,_,_,p5,g5,k5,_,_,_,_⟩:=box_at R (tq1_b0 l most lim rN) (tq1_5 l most lim rN)
 obtain ⟨s6,b6,_,_,p6,g6,k6,_,_,_,_⟩:=box_at R (tq1_b1 l most lim rN) (tq1_6 l most lim rN)
 obtain ⟨s7,b7,_,_,p7,g7,k7,_,_,_,_⟩:=box_at R (tq1_b2 l most lim rN) (tq1_7 l most lim rN)
 have hio:IoR g [.ptr 0 [],.ptr 64 [],.ptr 1320 []] [s5,s6,s7]:=⟨⟨0,.inl rfl,g5⟩,⟨64,.inl rfl,g6⟩,⟨1320,.inl rfl,g7⟩,trivial⟩
 have hsl:SlR psI [.pointer (some ⟨b5,0,none⟩),.pointer (some ⟨b6,0,none⟩),.pointer (some ⟨b7,0,none⟩)] [s5,s6,s7]:=
  ⟨_,_,_,_,rfl,rfl,⟨b5,k5,rfl⟩,_,_,_,_,rfl,rfl,⟨b6,k6,rfl⟩,_,_,_,_,rfl,rfl,⟨b7,k7,rfl⟩,rfl⟩
 obtain ⟨A3,bs,zs,O,nd,own⟩:=stretch_out R (tq1_out l most lim rN) hio hsl
 obtain ⟨p,q,r,rfl,o5,o6,o7⟩:=outI O
 have hk:Keep (fun r=>w.heap.size≤r∨r∈([]:List Nat)) w w2:=R.keep
 have I2:I3 A w.heap.size w2.heap.size (.pointer (some ⟨b5,0,none⟩)) (.pointer (some ⟨b6,0,none⟩)) (.pointer (some ⟨b7,0,none⟩)) lim rN.1 w2 p q r:=by
  refine ⟨o5.lowF flat0 (fun _ _=>rfl),o6.lowO low5 (fun _ _=>rfl),o7.lowO low5 (fun _ _=>rfl),nd,fun x hx=>⟨(own x hx).1,?_,fun e=>?_⟩⟩
  ·exact (own x hx).2.elim id (fun h=>by cases h)
  ·have hc:∃c e,w2.heap[x]?=some (.cells c e (0,0)):=by
    rcases List.mem_append.1 hx with hx|hx
    ·exact o5.cellsF x hx
    ·rcases List.mem_append.1 hx with hx|hx
     ·exact o6.cellsO low5 x hx
     ·exact o7.cellsO low5 x hx
   obtain ⟨c,e',hc⟩:=hc
   have:=heap_lt hc
   omega
 obtain ⟨ad,cap,hcs,_⟩:=slice_out hr0
 have hv0:v0=.slice ad l.length cap:=by
  rw [isAggV_cells ha0] at hcs
  injection hcs
 have z0:a2.tmps.getD 0 undef=.slice ad l.length cap:=by
  rw [hf2 0 (noDst_at (by kernel_rfl)),hf1 0 (noDst_at (by kernel_rfl)),t0',hv0]
 have G2:=Grew.alloc w2 (.cells #[Value.slice ad l.length cap] 83)
 have hk3:Keep (fun r=>w.heap.size≤r∨r∈([]:List Nat)) w (w2.alloc (.cells #[.slice ad l.length cap] 83)):=hk.trans ⟨rfl,rfl,rfl,G2.size,fun r hr _=>G2.block r hr⟩
 have sameA:∀r,A r→(w2.alloc (.cells #[.slice ad l.length cap] 83)).heap[r]?=w.heap[r]?:=fun r hr=>hk3.block r (hA r hr) (fun hn=>by
  rcases hn with hn|hn
  ·have:=hA r hr;omega
  ·cases hn)
 refine wpIn_seq (wpIn_seq ?_)
 refine tmake_ok (w:=w2) ⟨R.size,p5,p6,p7⟩ z0 (fun a3 hp3 hd3 hg3=>?_)
 refine wpIn_block ?_
 refine tloop_ok (l:=l) hgok hA hk3 (I2.turn fun x hx=>by
  obtain ⟨c,e,hc⟩:=I2.cells x hx
  exact G2.block x (heap_lt hc)) hp3 (v:=.slice ad l.length cap) (e:=83) hg3 (at_new w2 _) (TRel.mono (fun _ h=>h) sameA (.slice t9) _ l (by rw [←hcs];exact hr0)) hlen safe (fun D W t2 p' q' r' hD hgo2 hkW IW hm=>?_)
 have e2:t'=t2:=Option.some.inj (hgo.symm.trans hgo2)
 clear hgo hgo2 safe
 subst e2
 show (Code.seq (.region 6 tr6.toArray false) .ret).wpIn Fence.wide 3 Tryz.prog (outT (Done cd.Fn A w [v0,v1,v2] [] (ty1 t'))) {a3 with defers:=mark D::a3.defers} W
 have hdd:({a3 with defers:=mark D::a3.defers}:Act).defers=[mark D]:=by
  show mark D::a3.defers=[mark D]
  rw [hd3]
  show mark D::a2.defers=[mark D]
  rw [R.defs]
 have hpp:TPts (.pointer (some ⟨b5,0,none⟩)) (.pointer (some ⟨b6,0,none⟩)) (.pointer (some ⟨b7,0,none⟩)) {a3 with defers:=mark D::a3.defers}:=hp3
 generalize ({a3 with defers:=mark D::a3.defers}:Act)=a4 at hdd hpp
 have hDw:=Nat.le_trans hk3.size hD
 clear R R1 R0 hf1 hf2 hio hsl O own
 exact ttail_ok hgok hA hkW IW hpp hdd hm hDw (vs:=[v0,v1,v2]) (v0:=v0) (v1:=v1) (v2:=v2) rfl
theorem cd.spec:FnSpec Tryz.prog globs 47 cd.Fn:=by
 refine ⟨fun args w=>by simp [callFunc,run_program,Tryz.func47,show (Tryz.f47.name≠ "runtime.NumGoroutine") by decide,tfhb],fun w A vs x bs y hgok hargs hnd hbs hA hF=>?_⟩
 obtain ⟨l,most,lim,u⟩:=x
 obtain ⟨v0,u0,rfl,a0,v1,u1,rfl,a1,v2,u2,rfl,a2,rfl,rfl⟩:=hargs
 have hF:cd.F l most lim=some y:=hF
 rw [cd.F_eq] at hF
 cases hN:dj.F most with
 |none=>rw [hN,Option.bind_none] at hF;cases hF
 |some rN=>
 rw [hN,Option.bind_some] at hF
 unfold cd.Rest at hF
 split at hF
 ·rename_i hc
  cases hgo:goR (tStep lim) l.reverse rN.1 with
  |none=>rw [hgo,Option.bind_none] at hF;cases hF
  |some t'=>
  rw [hgo,Option.bind_some] at hF
  injection hF with hF
  subst hF
  refine callsIn_wide.1 (callsIn_of_wp_marks (F:=Fence.wide) (n:=3) Tryz.func47 tfhb trivial (wpIn_wide.2 fun b k cs=>?_))
  obtain ⟨ex,a',w',hex,harr⟩:=wpIn_wide.1 (tmain_ok hgok hA a0 a1 a2 hN hc.1 hc.2 hgo) b k cs
  refine ⟨ex,a',w',?_,harr⟩
  obtain ⟨rfl|rfl,h⟩:=hex
  ·exact h
  ·exact h
 ·cases hF
end Go.Proofs.YtkihjakbbcajbaaGreat.PM
