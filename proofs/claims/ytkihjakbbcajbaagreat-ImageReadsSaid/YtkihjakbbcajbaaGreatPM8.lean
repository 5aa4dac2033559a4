/- Parts of the proof, joined: PM5, PM6, PM7, PM8. -/
import Derived.Test.YtkihjakbbcajbaaGreatPM4
import Derived.Laws.CopyRow
import Derived.Laws.Rows
import Derived.Laws.MakeOwn
import Derived.Laws.StructEq
namespace Go.Proofs.YtkihjakbbcajbaaGreat.PM
set_option linter.unusedSimpArgs false
set_option linter.unusedVariables false
open Go
def Free (g:Gh) (h:Hp) (r:Nat):Prop:=∀i b s,h.at i=some b→b.live=true→g i=some s→s.blk≠some r
def upd (g:Gh) (id:Nat) (s:Slot):Gh:=fun i=>if i=id then some s else g i
def OwnT (A:Nat→Prop) (w:World):(t:Ty)→List Value→t.den→List Nat→Prop
 |.slice t,cs,x,bs=>∃s v,cs=[v]∧SlV s v∧RowAt A w s t x∧bs=s.blk.toList
 |.pair a b,cs,x,bs=>∃c d p q,cs=c++d∧bs=p++q∧OwnT A w a c x.1 p∧OwnT A w b d x.2 q
 |.unit,cs,_,bs=>cs=[]∧bs=[]
 |.int k,cs,x,bs=>TRel A w (.int k) cs x∧bs=[]
 |.bool,cs,x,bs=>TRel A w .bool cs x∧bs=[]
 |.str,cs,x,bs=>TRel A w .str cs x∧bs=[]
 |.arr n t,cs,x,bs=>TRel A w (.arr n t) cs x∧bs=[]
theorem OwnT.flat {A:Nat→Prop} {w:World}:∀(t:Ty) (cs:List Value) (x:t.den),t.flat=true→TRel A w t cs x→OwnT A w t cs x []
 |.slice t,_,_,hf,_=>by simp [Ty.flat] at hf
 |.pair a b,_,x,hf,⟨c,d,e,h1,h2⟩=>by
  have hf':a.flat=true∧b.flat=true:=by simpa [Ty.flat] using hf
  exact ⟨c,d,[],[],e,rfl,OwnT.flat a c x.1 hf'.1 h1,OwnT.flat b d x.2 hf'.2 h2⟩
 |.unit,_,_,_,h=>⟨h,rfl⟩
 |.int _,_,_,_,h=>⟨h,rfl⟩
 |.bool,_,_,_,h=>⟨h,rfl⟩
 |.str,_,_,_,h=>⟨h,rfl⟩
 |.arr _ _,_,_,_,h=>⟨h,rfl⟩
mutual
theorem dec_same:∀(t:Ty) (x:PV) (y:t.den) (h h':Hp),(dec t x).Ok h y h'→h'=h
 |.pair a b,x,y,h,h',e=>by
  cases x with
  |agg xs=>
   cases xs with
   |nil=>simp [dec,Q.Ok] at e
   |cons x xs=>
    simp only [dec,Ok_bind,Ok_ret] at e
    obtain ⟨p,h1,e1,q,h2,e2,_,e3⟩:=e
    have q1:=dec_same a x p h h1 e1
    have q2:=decs_same b xs q h1 h2 e2
    rw [e3,q2,q1]
  |v u z=>simp only [dec,Ok_get] at e;exact e.2
  |_=>simp [dec,Q.Ok] at e
 |.unit,x,y,h,h',e=>by
  cases x with
  |agg xs=>
   cases xs with
   |nil=>simp only [dec,Ok_ret] at e;exact e.2
   |cons x xs=>simp [dec,Q.Ok] at e
  |v u z=>simp only [dec,Ok_get] at e;exact e.2
  |_=>simp [dec,Q.Ok] at e
 |.int _,x,y,h,h',e=>by
  cases x with
  |v u z=>simp only [dec,Ok_get] at e;exact e.2
  |_=>simp [dec,Q.Ok] at e
 |.bool,x,y,h,h',e=>by
  cases x with
  |v u z=>simp only [dec,Ok_get] at e;exact e.2
  |_=>simp [dec,Q.Ok] at e
 |.str,x,y,h,h',e=>by
  cases x with
  |v u z=>simp only [dec,Ok_get] at e;exact e.2
  |_=>simp [dec,Q.Ok] at e
 |.arr _ _,x,y,h,h',e=>by
  cases x with
  |v u z=>simp only [dec,Ok_get] at e;exact e.2
  |_=>simp [dec,Q.Ok] at e
 |.slice t,x,y,h,h',e=>by
  cases x with
  |v u z=>simp only [dec,Ok_get] at e;exact e.2
  |nils=>simp only [dec,Ok_ret] at e;exact e.2
  |sl id=>
   simp only [dec,Q.Ok] at e
   obtain ⟨b,_,e⟩:=e
   cases b with
   |box x=>simp [Q.Ok] at e
   |row u xs fz=>simp only [Ok_get] at e;exact e.2
  |sv id p off len sz n=>
   simp only [dec,Q.Ok] at e
   obtain ⟨b,_,e⟩:=e
   cases b with
   |box x=>
    simp only at e
    split at e
    ·simp only [Ok_cond,Ok_bind,Ok_get,Ok_ret,Ok_fail,and_false,or_false] at e
     obtain ⟨_,_,_,⟨_,rfl⟩,_,rfl⟩:=e
     rfl
    ·simp [Q.Ok] at e
   |row u xs fz=>
    simp only [Ok_bind,Ok_get] at e
    obtain ⟨ys,h1,⟨_,rfl⟩,e'⟩:=e
    cases p with
    |nil=>
     simp only [Ok_cond,Ok_ret,Ok_fail,and_false,or_false] at e'
     exact e'.2.2
    |cons a p=>simp [Q.Ok] at e'
  |_=>simp [dec,Q.Ok] at e
theorem decs_same:∀(t:Ty) (xs:List PV) (y:t.den) (h h':Hp),(decs t xs).Ok h y h'→h'=h
 |.pair a b,xs,y,h,h',e=>by
   cases xs with
   |nil=>simp [decs,Q.Ok] at e
   |cons x xs=>
    simp only [decs,Ok_bind,Ok_ret] at e
    obtain ⟨p,h1,e1,q,h2,e2,_,e3⟩:=e
    have q1:=dec_same a x p h h1 e1
    have q2:=decs_same b xs q h1 h2 e2
    rw [e3,q2,q1]
 |.unit,xs,y,h,h',e=>by
   cases xs with
   |nil=>simp only [decs,Ok_ret] at e;exact e.2
   |cons x xs=>simp [decs,Q.Ok] at e
 |.int _,_,_,_,_,e=>by simp [decs,Q.Ok] at e
 |.bool,_,_,_,_,e=>by simp [decs,Q.Ok] at e
 |.str,_,_,_,_,e=>by simp [decs,Q.Ok] at e
 |.arr _ _,_,_,_,_,e=>by simp [decs,Q.Ok] at e
 |.slice _,_,_,_,_,e=>by simp [decs,Q.Ok] at e
end
section
variable {g:Gh} {A W:Nat→Prop} {w w':World} {h:Hp}
theorem Gh.le_refl (g:Gh):g.le g:=fun _ _ e=>e
theorem Gh.le_trans {g g' g'':Gh} (h:g.le g') (h':g'.le g''):g.le g'':=fun i s e=>h' i s (h i s e)
theorem le_upd {id:Nat} {s:Slot} (e:g id=none):g.le (upd g id s):=fun i t h=>by
 unfold upd;split
 ·rename_i hi;subst hi;rw [e] at h;cases h
 ·exact h
theorem RowAt.mono {A A':Nat→Prop} {w w':World} (hA:∀r,A r→A' r) (hw:∀r,A r→w'.heap[r]?=w.heap[r]?) {s:Slot} {t:Ty} {xs:List t.den} (hs:∀b,s.blk=some b→w'.heap[b]?=w.heap[b]?) (r:RowAt A w s t xs):RowAt A' w' s t xs:=by
 obtain ⟨h1,h2⟩:=r
 refine ⟨h1,?_⟩
 cases hb:s.blk with
 |none=>rw [hb] at h2;exact h2
 |some b=>
  rw [hb] at h2
  obtain ⟨h3,c,e,h4,h5,h6⟩:=h2
  exact ⟨h3,c,e,by rw [hs b hb];exact h4,h5,h6.mono (TRel.mono hA hw t)⟩
theorem BRel.mono {g g':Gh} {A A':Nat→Prop} {w w':World} (hg:g.le g') (hA:∀r,A r→A' r) (hw:∀r,A r→w'.heap[r]?=w.heap[r]?) {i:Nat} {b:Blk} (hs:∀s r,g i=some s→s.blk=some r→w'.heap[r]?=w.heap[r]?)
  (h:BRel g A w i b):BRel g' A' w' i b:=by
 cases b with
 |box x=>
  obtain ⟨s,b,c,e,h1,h2,h3,h4⟩:=h
  exact ⟨s,b,c,e,hg _ _ h1,h2,by rw [hs s b h1 h2];exact h3,PV.rel_mono hg hA hw x _ h4⟩
 |row t xs fz=>
  obtain ⟨s,h1,h2,h3⟩:=h
  exact ⟨s,hg _ _ h1,h2.mono hA hw (fun b e=>hs s b h1 e),fun e b hb=>hA _ (h3 e b hb)⟩
theorem BRel.lt {i:Nat} {b:Blk} (h:BRel g A w i b) {s:Slot} {r:Nat} (hg:g i=some s) (hr:s.blk=some r):r<w.heap.size:=by
 cases b with
 |box x=>
  obtain ⟨s',b,c,e,h1,h2,h3,_⟩:=h
  rw [hg] at h1;injection h1 with h1;subst h1
  rw [hr] at h2;injection h2 with h2;subst h2
  exact heap_lt h3
 |row t xs fz=>
  obtain ⟨s',h1,⟨_,h2⟩,_⟩:=h
  rw [hg] at h1;injection h1 with h1;subst h1
  rw [hr] at h2
  obtain ⟨_,c,e,h3,_⟩:=h2
  exact heap_lt h3
theorem HR.del (H:HR g A W w h) (id:Nat):HR g A W w ((id,none)::h):=by
 have at':∀i b,Hp.at ((id,none)::h) i=some b→h.at i=some b:=fun i b e=>by
  rw [at_cons] at e;split at e
  ·cases e
  ·exact e
 refine ⟨fun i b e=>H.blk i b (at' i b e),fun i b s r e=>H.own i b s r (at' i b e),fun i j b c s s' r e e'=>H.inj i j b c s s' r (at' i b e) (at' j c e'),fun i s e=>?_,H.lt⟩
 rw [look_cons];split
 ·exact ⟨_,rfl⟩
 ·exact H.dfn i s e
theorem HR.put {id:Nat} {b:Blk} (H:HR g A W w h) (hb:BRel g A w id b) (ho:b.live=true→∀s r,g id=some s→s.blk=some r→¬A r∧W r∧∀j c s',j≠id→h.at j=some c→c.live=true→g j=some s'→s'.blk≠some r):
  HR g A W w ((id,some b)::h):=by
 refine ⟨fun i c e=>?_,fun i c s r e=>?_,fun i j c d s s' r e e' hc hd=>?_,fun i s e=>?_,H.lt⟩
 ·rw [at_cons] at e;split at e
  ·rename_i hi;subst hi;injection e with e;subst e;exact hb
  ·exact H.blk i c e
 ·rw [at_cons] at e;split at e
  ·rename_i hi;subst hi;injection e with e;subst e
   exact fun hl hs hr=>⟨(ho hl s r hs hr).1,(ho hl s r hs hr).2.1⟩
  ·exact H.own i c s r e
 ·rw [at_cons] at e e'
  split at e<;>split at e'
  ·rename_i h1 h2;exact fun _ _ _ _=>h1.trans h2.symm
  ·rename_i h1 h2;subst h1;injection e with e;subst e
   exact fun hs hs' hr hr'=>absurd hr' ((ho hc s r hs hr).2.2 j d s' h2 e' hd hs')
  ·rename_i h1 h2;subst h2;injection e' with e';subst e'
   exact fun hs hs' hr hr'=>absurd hr ((ho hd s' r hs' hr').2.2 i c s h1 e hc hs)
  ·exact H.inj i j c d s s' r e e' hc hd
 ·rw [look_cons];split
  ·exact ⟨_,rfl⟩
  ·exact H.dfn i s e
theorem HR.gnone (H:HR g A W w h) {id:Nat} (e:look id h=none):g id=none:=by
 cases hg:g id with
 |none=>rfl
 |some s=>obtain ⟨o,ho⟩:=H.dfn id s hg;rw [e] at ho;cases ho
theorem HR.grow (H:HR g A W w h) {id:Nat} (s:Slot) (e:look id h=none):HR (upd g id s) A W w ((id,none)::h):=by
 have hn:=H.gnone e
 have back:∀i b s',h.at i=some b→upd g id s i=some s'→g i=some s':=fun i b s' hi hu=>by
  unfold upd at hu;split at hu
  ·rename_i hid;subst hid;rw [at_none e] at hi;cases hi
  ·exact hu
 have at':∀i b,Hp.at ((id,none)::h) i=some b→h.at i=some b:=fun i b e=>by
  rw [at_cons] at e;split at e
  ·cases e
  ·exact e
 refine ⟨fun i b hi=>?_,fun i b s' r hi hl hg=>H.own i b s' r (at' i b hi) hl (back i b s' (at' i b hi) hg),fun i j b c s' s'' r hi hj hb hc hg hg'=>H.inj i j b c s' s'' r (at' i b hi) (at' j c hj) hb hc (back i b s' (at' i b hi) hg) (back j c s'' (at' j c hj) hg'),fun i s' hg=>?_,H.lt⟩
 ·exact (H.blk i b (at' i b hi)).mono (le_upd hn) (fun _ h=>h) (fun _ _=>rfl) (fun _ _ _ _=>rfl)
 ·rw [look_cons];split
  ·exact ⟨_,rfl⟩
  ·rename_i hne
   unfold upd at hg;rw [if_neg hne] at hg
   exact H.dfn i s' hg
theorem HR.move (H:HR g A W w h) (hA:∀r,A r→w'.heap[r]?=w.heap[r]?) (hw:∀i b s r,h.at i=some b→g i=some s→s.blk=some r→w'.heap[r]?=w.heap[r]?) (hs:w.heap.size≤w'.heap.size):HR g A W w' h:=
 ⟨fun i b e=>(H.blk i b e).mono (Gh.le_refl g) (fun _ h=>h) hA (fun s r hg hr=>hw i b s r e hg hr),H.own,H.inj,H.dfn,fun r hr=>Nat.lt_of_lt_of_le (H.lt r hr) hs⟩
theorem HR.more (H:HR g A W w h) {A':Nat→Prop} (hA:∀r,A r→A' r) (hf:∀r,A' r→Free g h r∨A r) (hl:∀r,A' r→r<w.heap.size):HR g A' W w h:=
 ⟨fun i b e=>(H.blk i b e).mono (Gh.le_refl g) hA (fun _ _=>rfl) (fun _ _ _ _=>rfl),fun i b s r e hb hg hr=>⟨fun ha=>by
   rcases hf r ha with hf|ha
   ·exact hf i b s e hb hg hr
   ·exact (H.own i b s r e hb hg hr).1 ha,(H.own i b s r e hb hg hr).2⟩,H.inj,H.dfn,hl⟩
theorem HR.congr {h h':Hp} (e:∀i,look i h=look i h') (H:HR g A W w h):HR g A W w h':=by
 have e':∀i,h'.at i=h.at i:=fun i=>by unfold Hp.at;rw [e]
 exact ⟨fun i c hi=>H.blk i c (by rw [←e'];exact hi),fun i c s r hi=>H.own i c s r (by rw [←e'];exact hi),fun i j c d s s' r hi hj=>H.inj i j c d s s' r (by rw [←e'];exact hi) (by rw [←e'];exact hj),fun i s hg=>by rw [←e];exact H.dfn i s hg,H.lt⟩
theorem HR.add (H:HR g A W w h) {id:Nat} (e:look id h=none) (s:Slot) {b:Blk} (hb:BRel (upd g id s) A w id b) (ho:b.live=true→∀r,s.blk=some r→¬A r∧W r∧Free g h r):HR (upd g id s) A W w ((id,some b)::h):=by
 have H1:=(H.grow s e)
 have hu:upd g id s id=some s:=by unfold upd;rw [if_pos rfl]
 have H2:=H1.put hb (fun hl s' r hs hr=>by
  rw [hu] at hs;injection hs with hs;subst hs
  obtain ⟨h1,h2,h3⟩:=ho hl r hr
  refine ⟨h1,h2,fun j c s' hj hc hl hg=>?_⟩
  rw [at_cons,if_neg hj] at hc
  unfold upd at hg;rw [if_neg hj] at hg
  exact h3 j c s' hc hl hg)
 exact H2.congr (fun i=>by simp only [look_cons];split<;>rfl)
theorem Free.add {id:Nat} {s:Slot} {b:Blk} {r:Nat} (hf:Free g h r) (_:g id=none) (hs:s.blk≠some r):Free (upd g id s) ((id,some b)::h) r:=fun i c s' e hl hg=>by
 rw [at_cons] at e
 unfold upd at hg
 split at e
 ·rename_i hi;rw [if_pos hi] at hg;injection hg with hg;subst hg;exact hs
 ·rename_i hi;rw [if_neg hi] at hg;exact hf i c s' e hl hg
theorem Free.del {id r:Nat} (hf:Free g h r):Free g ((id,none)::h) r:=fun i c s' e hl hg=>by
 rw [at_cons] at e
 split at e
 ·cases e
 ·exact hf i c s' e hl hg
mutual
theorem imp_ok:∀(t:Ty) (x:t.den) (n:Nat) (g:Gh) (h:Hp) (cs:List Value) (bs:List Nat) (p:PV × Nat) (h':Hp),HR g A W w h→OwnT A w t cs x bs→bs.Nodup→(∀r,r∈bs→¬A r∧W r∧Free g h r)→
  (imp t x n).Ok h p h'→∃g',g.le g'∧HR g' A W w h'∧p.1.rel g' A w cs∧(∀r,Free g h r→r∉bs→Free g' h' r)∧aggP p.1=t.agg
 |.slice t,x,n,g,h,cs,bs,p,h',H,ho,hnd,hb,e=>by
  simp only [imp,Q.Ok] at e
  obtain ⟨e1,rfl,rfl⟩:=e
  obtain ⟨s,v,rfl,hv,hr,rfl⟩:=ho
  have hu:upd g n s n=some s:=by unfold upd;rw [if_pos rfl]
  refine ⟨upd g n s,le_upd (H.gnone e1),H.add e1 s ⟨s,hu,hr,fun h=>by cases h⟩ (fun _ r hr=>hb r (by rw [hr];simp)),?_,fun r hf hn=>hf.add (H.gnone e1) (fun hr=>hn (by rw [hr];simp)),rfl⟩
  unfold PV.rel;exact ⟨s,v,hu,rfl,hv⟩
 |.pair a b,x,n,g,h,cs,bs,p,h',H,ho,hnd,hb,e=>by
  simp only [imp,Ok_bind,Ok_ret] at e
  obtain ⟨q,h1,e1,q2,h2,e2,rfl,rfl⟩:=e
  obtain ⟨c,d,bs1,bs2,rfl,rfl,o1,o2⟩:=ho
  rw [List.nodup_append] at hnd
  obtain ⟨g1,l1,H1,r1,f1,_⟩:=imp_ok a x.1 n g h c bs1 q h1 H o1 hnd.1 (fun r hr=>hb r (by simp [hr])) e1
  obtain ⟨g2,l2,H2,r2,f2⟩:=imps_ok b x.2 q.2 g1 h1 d bs2 q2 _ H1 o2 hnd.2.1 (fun r hr=>⟨(hb r (by simp [hr])).1,(hb r (by simp [hr])).2.1,f1 r (hb r (by simp [hr])).2.2 (fun hr'=>hnd.2.2 r hr' r hr rfl)⟩) e2
  refine ⟨g2,Gh.le_trans l1 l2,H2,?_,fun r hf hn=>f2 r (f1 r hf (fun h=>hn (by simp [h]))) (fun h=>hn (by simp [h])),rfl⟩
  unfold PV.rel rels
  exact ⟨c,d,rfl,PV.rel_mono l2 (fun _ h=>h) (fun _ _=>rfl) _ _ r1,r2⟩
 |.unit,x,n,g,h,cs,bs,p,h',H,ho,hnd,hb,e=>by
  simp only [imp,Ok_ret] at e
  obtain ⟨rfl,rfl⟩:=e
  obtain ⟨rfl,rfl⟩:=ho
  exact ⟨g,Gh.le_refl g,H,by unfold PV.rel rels;rfl,fun r hf _=>hf,rfl⟩
 |.int k,x,n,g,h,cs,bs,p,h',H,ho,hnd,hb,e=>by
  simp only [imp,Ok_ret] at e
  obtain ⟨rfl,rfl⟩:=e
  obtain ⟨ho,rfl⟩:=ho
  exact ⟨g,Gh.le_refl g,H,by unfold PV.rel;exact ho,fun r hf _=>hf,rfl⟩
 |.bool,x,n,g,h,cs,bs,p,h',H,ho,hnd,hb,e=>by
  simp only [imp,Ok_ret] at e
  obtain ⟨rfl,rfl⟩:=e
  obtain ⟨ho,rfl⟩:=ho
  exact ⟨g,Gh.le_refl g,H,by unfold PV.rel;exact ho,fun r hf _=>hf,rfl⟩
 |.str,x,n,g,h,cs,bs,p,h',H,ho,hnd,hb,e=>by
  simp only [imp,Ok_ret] at e
  obtain ⟨rfl,rfl⟩:=e
  obtain ⟨ho,rfl⟩:=ho
  exact ⟨g,Gh.le_refl g,H,by unfold PV.rel;exact ho,fun r hf _=>hf,rfl⟩
 |.arr m t,x,n,g,h,cs,bs,p,h',H,ho,hnd,hb,e=>by
  simp only [imp,Ok_ret] at e
  obtain ⟨rfl,rfl⟩:=e
  obtain ⟨ho,rfl⟩:=ho
  exact ⟨g,Gh.le_refl g,H,by unfold PV.rel;exact ho,fun r hf _=>hf,rfl⟩
theorem imps_ok:∀(t:Ty) (x:t.den) (n:Nat) (g:Gh) (h:Hp) (cs:List Value) (bs:List Nat) (p:List PV × Nat) (h':Hp),HR g A W w h→OwnT A w t cs x bs→bs.Nodup→(∀r,r∈bs→¬A r∧W r∧Free g h r)→
  (imps t x n).Ok h p h'→∃g',g.le g'∧HR g' A W w h'∧rels g' A w p.1 cs∧(∀r,Free g h r→r∉bs→Free g' h' r)
 |.pair a b,x,n,g,h,cs,bs,p,h',H,ho,hnd,hb,e=>by
  simp only [imps,Ok_bind,Ok_ret] at e
  obtain ⟨q,h1,e1,q2,h2,e2,rfl,rfl⟩:=e
  obtain ⟨c,d,bs1,bs2,rfl,rfl,o1,o2⟩:=ho
  rw [List.nodup_append] at hnd
  obtain ⟨g1,l1,H1,r1,f1,_⟩:=imp_ok a x.1 n g h c bs1 q h1 H o1 hnd.1 (fun r hr=>hb r (by simp [hr])) e1
  obtain ⟨g2,l2,H2,r2,f2⟩:=imps_ok b x.2 q.2 g1 h1 d bs2 q2 _ H1 o2 hnd.2.1 (fun r hr=>⟨(hb r (by simp [hr])).1,(hb r (by simp [hr])).2.1,f1 r (hb r (by simp [hr])).2.2 (fun hr'=>hnd.2.2 r hr' r hr rfl)⟩) e2
  refine ⟨g2,Gh.le_trans l1 l2,H2,?_,fun r hf hn=>f2 r (f1 r hf (fun h=>hn (by simp [h]))) (fun h=>hn (by simp [h]))⟩
  unfold rels
  exact ⟨c,d,rfl,PV.rel_mono l2 (fun _ h=>h) (fun _ _=>rfl) _ _ r1,r2⟩
 |.unit,x,n,g,h,cs,bs,p,h',H,ho,hnd,hb,e=>by
  simp only [imps,Ok_ret] at e
  obtain ⟨rfl,rfl⟩:=e
  obtain ⟨rfl,rfl⟩:=ho
  exact ⟨g,Gh.le_refl g,H,by unfold rels;rfl,fun r hf _=>hf⟩
 |.int k,x,n,g,h,cs,bs,p,h',H,ho,hnd,hb,e=>by
  simp only [imps,Ok_ret] at e
  obtain ⟨rfl,rfl⟩:=e
  obtain ⟨ho,rfl⟩:=ho
  exact ⟨g,Gh.le_refl g,H,by unfold rels PV.rel rels;exact ⟨cs,[],by simp,ho,rfl⟩,fun r hf _=>hf⟩
 |.bool,x,n,g,h,cs,bs,p,h',H,ho,hnd,hb,e=>by
  simp only [imps,Ok_ret] at e
  obtain ⟨rfl,rfl⟩:=e
  obtain ⟨ho,rfl⟩:=ho
  exact ⟨g,Gh.le_refl g,H,by unfold rels PV.rel rels;exact ⟨cs,[],by simp,ho,rfl⟩,fun r hf _=>hf⟩
 |.str,x,n,g,h,cs,bs,p,h',H,ho,hnd,hb,e=>by
  simp only [imps,Ok_ret] at e
  obtain ⟨rfl,rfl⟩:=e
  obtain ⟨ho,rfl⟩:=ho
  exact ⟨g,Gh.le_refl g,H,by unfold rels PV.rel rels;exact ⟨cs,[],by simp,ho,rfl⟩,fun r hf _=>hf⟩
 |.arr m t,x,n,g,h,cs,bs,p,h',H,ho,hnd,hb,e=>by
  simp only [imps,Ok_ret] at e
  obtain ⟨rfl,rfl⟩:=e
  obtain ⟨ho,rfl⟩:=ho
  exact ⟨g,Gh.le_refl g,H,by unfold rels PV.rel rels;exact ⟨cs,[],by simp,ho,rfl⟩,fun r hf _=>hf⟩
 |.slice t,x,n,g,h,cs,bs,p,h',H,ho,hnd,hb,e=>by
  simp only [imps,Q.Ok] at e
  obtain ⟨e1,rfl,rfl⟩:=e
  obtain ⟨s,v,rfl,hv,hr,rfl⟩:=ho
  have hu:upd g n s n=some s:=by unfold upd;rw [if_pos rfl]
  refine ⟨upd g n s,le_upd (H.gnone e1),H.add e1 s ⟨s,hu,hr,fun h=>by cases h⟩ (fun _ r hr=>hb r (by rw [hr];simp)),?_,fun r hf hn=>hf.add (H.gnone e1) (fun hr=>hn (by rw [hr];simp))⟩
  unfold rels PV.rel rels;exact ⟨[v],[],by simp,⟨s,v,hu,rfl,hv⟩,rfl⟩
end
theorem eat_flat {t:Ty} {x:PV} {y:t.den} {h hh:Hp} {cs:List Value} {u:Unit} {h':Hp} (H:HR g A W w h) (hx:x.rel g A w cs) (hd:(dec t x).Ok hh y hh) (he:(eat x).Ok h u h')
  (hv:∀x:PV,(dec t x).Ok hh y hh→∃u,∃z:u.den,x=.v u z∧castT u t z=some y):
  ∃bs,OwnT A w t cs y bs∧bs.Nodup∧HR g A W w h'∧(∀r,r∈bs→Free g h' r∧¬Free g h r)∧(∀r,Free g h r→Free g h' r)∧(∀i b,h'.at i=some b→h.at i=some b):=by
 obtain ⟨u',z,rfl,e⟩:=hv x hd
 obtain ⟨rfl,rfl⟩:=cast_some e
 simp only [eat,Ok_need] at he
 obtain ⟨hf,rfl⟩:=he
 unfold PV.rel at hx
 exact ⟨[],OwnT.flat _ cs _ hf hx,List.nodup_nil,H,by simp,fun r hr=>hr,fun i b e=>e⟩
mutual
theorem eat_own:∀(t:Ty) (x:PV) (y:t.den) (h hh:Hp) (cs:List Value) (u:Unit) (h':Hp),HR g A W w h→x.rel g A w cs→(∀i b,h.at i=some b→hh.at i=some b)→(dec t x).Ok hh y hh→HR g A W w hh→(eat x).Ok h u h'→
  ∃bs,OwnT A w t cs y bs∧bs.Nodup∧HR g A W w h'∧(∀r,r∈bs→Free g h' r∧¬Free g h r)∧(∀r,Free g h r→Free g h' r)∧(∀i b,h'.at i=some b→h.at i=some b)
 |.pair a b,x,y,h,hh,cs,u,h',H,hx,hsub,hd,HH,he=>by
  cases x with
  |agg xs=>
   cases xs with
   |nil=>simp [dec,Q.Ok] at hd
   |cons x xs=>
    simp only [dec,Ok_bind,Ok_ret] at hd
    obtain ⟨p,h1,e1,q,h2,e2,rfl,e3⟩:=hd
    simp only [eat,eats,Ok_bind] at he
    obtain ⟨u1,h3,f1,f2⟩:=he
    unfold PV.rel rels at hx
    obtain ⟨c,d,rfl,hc,hdd⟩:=hx
    obtain ⟨q1,_⟩:=dec_rel HH a x p _ c hc e1
    rw [q1] at e1 e2
    obtain ⟨q2,_⟩:=decs_rel HH b xs q _ d hdd e2
    rw [q2] at e2
    obtain ⟨bs1,o1,n1,H1,k1,m1,s1⟩:=eat_own a x p h hh c u1 h3 H hc hsub e1 HH f1
    obtain ⟨bs2,o2,n2,H2,k2,m2,s2⟩:=eats_own b xs q h3 hh d u h' H1 hdd (fun i b e=>hsub i b (s1 i b e)) e2 HH f2
    refine ⟨bs1++bs2,⟨c,d,bs1,bs2,rfl,rfl,o1,o2⟩,?_,H2,?_,fun r hr=>m2 r (m1 r hr),fun i b e=>s1 i b (s2 i b e)⟩
    ·rw [List.nodup_append]
     exact ⟨n1,n2,fun r hr r' hr' hrr=>by subst hrr;exact (k2 r hr').2 ((k1 r hr).1)⟩
    ·intro r hr
     rcases List.mem_append.1 hr with hr|hr
     ·exact ⟨m2 r (k1 r hr).1,(k1 r hr).2⟩
     ·exact ⟨(k2 r hr).1,fun hf=>(k2 r hr).2 (m1 r hf)⟩
  |v u z=>
   simp only [dec,Ok_get] at hd
   obtain ⟨e,_⟩:=hd
   obtain ⟨rfl,rfl⟩:=cast_some e
   simp only [eat,Ok_need] at he
   obtain ⟨hf,rfl⟩:=he
   unfold PV.rel at hx
   exact ⟨[],OwnT.flat _ cs _ hf hx,List.nodup_nil,H,by simp,fun r hr=>hr,fun i b e=>e⟩
  |_=>simp [dec,Q.Ok] at hd
 |.slice t,x,y,h,hh,cs,u,h',H,hx,hsub,hd,HH,he=>by
  cases x with
  |sl id=>
   simp only [eat,Q.Ok] at he
   obtain ⟨b,hb,he⟩:=he
   cases b with
   |box x=>simp [Q.Ok] at he
   |row u xs fz=>
    cases fz with
    |true=>simp [Q.Ok] at he
    |false=>
     simp only [Q.Ok] at he
     obtain ⟨_,_,rfl⟩:=he
     simp only [dec,Q.Ok,hsub _ _ hb] at hd
     obtain ⟨b',hb',hd⟩:=hd
     injection hb' with hb';subst hb'
     simp only [Ok_get] at hd
     obtain ⟨e,_⟩:=hd
     obtain ⟨eq,rfl⟩:=cast_some e
     injection eq with eq
     subst eq
     unfold PV.rel at hx
     obtain ⟨s,v,hg,rfl,hv⟩:=hx
     obtain ⟨s',hg',hr,_⟩:=H.blk id _ hb
     rw [hg] at hg';injection hg' with hg';subst hg'
     refine ⟨s.blk.toList,⟨s,v,rfl,hv,hr,rfl⟩,by cases s.blk<;>simp,H.del id,fun r hr'=>?_,fun r hf=>hf.del,fun i b e=>?_⟩
     ·have hr'':s.blk=some r:=by cases hs:s.blk<;>simp_all
      refine ⟨fun i b s' e hl hgi hrr=>?_,fun hf=>hf id _ s hb rfl hg hr''⟩
      rw [at_cons] at e
      split at e
      ·cases e
      ·rename_i hne
       exact hne (H.inj i id b _ s' s r e hb hl rfl hgi hg hrr hr'')
     ·rw [at_cons] at e
      split at e
      ·cases e
      ·exact e
  |nils=>
   simp only [dec,Ok_ret] at hd
   obtain ⟨rfl,_⟩:=hd
   simp only [eat,Ok_ret] at he
   obtain ⟨_,rfl⟩:=he
   unfold PV.rel at hx
   subst hx
   exact ⟨[],⟨⟨none,0,0⟩,_,rfl,⟨rfl,rfl,rfl⟩,⟨rfl,rfl,rfl⟩,rfl⟩,List.nodup_nil,H,by simp,fun r hr=>hr,fun i b e=>e⟩
  |v u z=>
   simp only [dec,Ok_get] at hd
   obtain ⟨e,_⟩:=hd
   obtain ⟨rfl,rfl⟩:=cast_some e
   simp only [eat,Ok_need] at he
   obtain ⟨hf,rfl⟩:=he
   simp [Ty.flat] at hf
  |sv id p off len sz n=>simp [eat,Q.Ok] at he
  |_=>simp [dec,Q.Ok] at hd
 |.unit,x,y,h,hh,cs,u,h',H,hx,hsub,hd,HH,he=>by
  cases x with
  |agg xs=>
   cases xs with
   |nil=>
    simp only [eat,eats,Ok_ret] at he
    obtain ⟨_,rfl⟩:=he
    unfold PV.rel rels at hx
    exact ⟨[],⟨hx,rfl⟩,List.nodup_nil,H,by simp,fun r hr=>hr,fun i b e=>e⟩
   |cons x xs=>simp [dec,Q.Ok] at hd
  |v u z=>
   simp only [dec,Ok_get] at hd
   obtain ⟨e,_⟩:=hd
   obtain ⟨rfl,rfl⟩:=cast_some e
   simp only [eat,Ok_need] at he
   obtain ⟨hf,rfl⟩:=he
   unfold PV.rel at hx
   exact ⟨[],OwnT.flat _ cs _ hf hx,List.nodup_nil,H,by simp,fun r hr=>hr,fun i b e=>e⟩
  |_=>simp [dec,Q.Ok] at hd
 |.int k,x,y,h,hh,cs,u,h',H,hx,hsub,hd,HH,he=>eat_flat (t:=.int k) H hx hd he (fun x hd=>by cases x<;>first|(simp only [dec,Ok_get] at hd;exact ⟨_,_,rfl,hd.1⟩)|(simp [dec,Q.Ok] at hd))
 |.bool,x,y,h,hh,cs,u,h',H,hx,hsub,hd,HH,he=>eat_flat (t:=.bool) H hx hd he (fun x hd=>by cases x<;>first|(simp only [dec,Ok_get] at hd;exact ⟨_,_,rfl,hd.1⟩)|(simp [dec,Q.Ok] at hd))
 |.str,x,y,h,hh,cs,u,h',H,hx,hsub,hd,HH,he=>eat_flat (t:=.str) H hx hd he (fun x hd=>by cases x<;>first|(simp only [dec,Ok_get] at hd;exact ⟨_,_,rfl,hd.1⟩)|(simp [dec,Q.Ok] at hd))
 |.arr n t,x,y,h,hh,cs,u,h',H,hx,hsub,hd,HH,he=>eat_flat (t:=.arr n t) H hx hd he (fun x hd=>by cases x<;>first|(simp only [dec,Ok_get] at hd;exact ⟨_,_,rfl,hd.1⟩)|(simp [dec,Q.Ok] at hd))
theorem eats_own:∀(t:Ty) (xs:List PV) (y:t.den) (h hh:Hp) (cs:List Value) (u:Unit) (h':Hp),HR g A W w h→rels g A w xs cs→(∀i b,h.at i=some b→hh.at i=some b)→(decs t xs).Ok hh y hh→HR g A W w hh→(eats xs).Ok h u h'→
  ∃bs,OwnT A w t cs y bs∧bs.Nodup∧HR g A W w h'∧(∀r,r∈bs→Free g h' r∧¬Free g h r)∧(∀r,Free g h r→Free g h' r)∧(∀i b,h'.at i=some b→h.at i=some b)
 |.pair a b,xs,y,h,hh,cs,u,h',H,hx,hsub,hd,HH,he=>by
  cases xs with
  |nil=>simp [decs,Q.Ok] at hd
  |cons x xs=>
    simp only [decs,Ok_bind,Ok_ret] at hd
    obtain ⟨p,h1,e1,q,h2,e2,rfl,e3⟩:=hd
    simp only [eats,Ok_bind] at he
    obtain ⟨u1,h3,f1,f2⟩:=he
    unfold rels at hx
    obtain ⟨c,d,rfl,hc,hdd⟩:=hx
    obtain ⟨q1,_⟩:=dec_rel HH a x p _ c hc e1
    rw [q1] at e1 e2
    obtain ⟨q2,_⟩:=decs_rel HH b xs q _ d hdd e2
    rw [q2] at e2
    obtain ⟨bs1,o1,n1,H1,k1,m1,s1⟩:=eat_own a x p h hh c u1 h3 H hc hsub e1 HH f1
    obtain ⟨bs2,o2,n2,H2,k2,m2,s2⟩:=eats_own b xs q h3 hh d u h' H1 hdd (fun i b e=>hsub i b (s1 i b e)) e2 HH f2
    refine ⟨bs1++bs2,⟨c,d,bs1,bs2,rfl,rfl,o1,o2⟩,?_,H2,?_,fun r hr=>m2 r (m1 r hr),fun i b e=>s1 i b (s2 i b e)⟩
    ·rw [List.nodup_append]
     exact ⟨n1,n2,fun r hr r' hr' hrr=>by subst hrr;exact (k2 r hr').2 ((k1 r hr).1)⟩
    ·intro r hr
     rcases List.mem_append.1 hr with hr|hr
     ·exact ⟨m2 r (k1 r hr).1,(k1 r hr).2⟩
     ·exact ⟨(k2 r hr).1,fun hf=>(k2 r hr).2 (m1 r hf)⟩
 |.unit,xs,y,h,hh,cs,u,h',H,hx,hsub,hd,HH,he=>by
  cases xs with
  |nil=>
   simp only [eats,Ok_ret] at he
   obtain ⟨_,rfl⟩:=he
   unfold rels at hx
   exact ⟨[],⟨hx,rfl⟩,List.nodup_nil,H,by simp,fun r hr=>hr,fun i b e=>e⟩
  |cons x xs=>simp [decs,Q.Ok] at hd
 |.int _,_,_,_,_,_,_,_,_,_,_,hd,_,_=>by simp [decs,Q.Ok] at hd
 |.bool,_,_,_,_,_,_,_,_,_,_,hd,_,_=>by simp [decs,Q.Ok] at hd
 |.str,_,_,_,_,_,_,_,_,_,_,hd,_,_=>by simp [decs,Q.Ok] at hd
 |.arr _ _,_,_,_,_,_,_,_,_,_,_,hd,_,_=>by simp [decs,Q.Ok] at hd
 |.slice _,_,_,_,_,_,_,_,_,_,_,hd,_,_=>by simp [decs,Q.Ok] at hd
end
def Sim (h hh:Hp):Prop:=∀i t xs fz,h.at i=some (.row t xs fz)→∃fz',hh.at i=some (.row t xs fz')
structure Frz (g:Gh) (A W:Nat→Prop) (w:World) (h:Hp) (A':Nat→Prop) (h':Hp):Prop where
 le:∀r,A r→A' r
 in':∀r,A' r→A r∨W r
 hr:HR g A' W w h'
 free:∀r,Free g h r→Free g h' r∧(A' r→A r)
 sim:Sim h' h
 box:∀i x,h'.at i=some (.box x)→h.at i=some (.box x)
theorem Frz.refl {g:Gh} {A W:Nat→Prop} {w:World} {h:Hp} (H:HR g A W w h):Frz g A W w h A h:=⟨fun _ h=>h,fun _ h=> .inl h,H,fun _ h=>⟨h,fun h=>h⟩,fun _ _ _ fz e=>⟨fz,e⟩,fun _ _ e=>e⟩
theorem Frz.trans {g:Gh} {A A' A'' W:Nat→Prop} {w:World} {h h' h'':Hp} (a:Frz g A W w h A' h') (b:Frz g A' W w h' A'' h''):Frz g A W w h A'' h'':=
 ⟨fun r hr=>b.le r (a.le r hr),fun r hr=>(b.in' r hr).elim (a.in' r) .inr,b.hr,fun r hf=>⟨(b.free r (a.free r hf).1).1,fun hr=>(a.free r hf).2 ((b.free r (a.free r hf).1).2 hr)⟩,
  fun i t xs fz e=>by obtain ⟨fz',e'⟩:=b.sim i t xs fz e;exact a.sim i t xs fz' e',fun i x e=>a.box i x (b.box i x e)⟩
theorem frz_row {g:Gh} {A W:Nat→Prop} {w:World} {h:Hp} (H:HR g A W w h) {id:Nat} {t:Ty} {xs:List t.den} {fz:Bool} {s:Slot} (hb:h.at id=some (.row t xs fz)) (hg:g id=some s):
  Frz g A W w h (fun r=>A r∨s.blk=some r) ((id,some (.row t xs true))::h):=by
 have hB:=H.blk id _ hb
 obtain ⟨s',hg',hr,hfz⟩:=hB
 rw [hg] at hg';injection hg' with hg';subst hg'
 have hW:∀r,s.blk=some r→A r∨W r:=fun r hr'=>by
  cases fz with
  |true=>exact .inl (hfz rfl r hr')
  |false=>exact .inr (H.own id _ s r hb rfl hg hr').2
 have H1:=H.del id
 have H2:HR g (fun r=>A r∨s.blk=some r) W w ((id,none)::h):=H1.more (fun r h=> .inl h) (fun r hr'=>by
  rcases hr' with ha|hs
  ·exact .inr ha
  ·cases fz with
   |true=>exact .inr (hfz rfl r hs)
   |false=>
    refine .inl fun i b s' e hl hgi hrr=>?_
    rw [at_cons] at e
    split at e
    ·cases e
    ·rename_i hne
     exact hne (H.inj i id b _ s' s r e hb hl rfl hgi hg hrr hs)) (fun r hr'=>by
  rcases hr' with ha|hs
  ·exact H.lt r ha
  ·exact BRel.lt (H.blk id _ hb) hg hs)
 have H3:=H2.put (id:=id) (b:=.row t xs true) ⟨s,hg,hr.mono (fun r h=> .inl h) (fun _ _=>rfl) (fun _ _=>rfl),fun _ b hb=> .inr hb⟩ (fun hl=>by cases hl)
 have ext:∀i,look i ((id,some (.row t xs true))::(id,none)::h)=look i ((id,some (.row t xs true))::h):=fun i=>by
  simp only [look_cons];split<;>rfl
 have ext':∀i,Hp.at ((id,some (.row t xs true))::(id,none)::h) i=Hp.at ((id,some (.row t xs true))::h) i:=fun i=>by unfold Hp.at;rw [ext]
 refine ⟨fun r h=> .inl h,fun r hr'=>hr'.elim .inl (hW r),⟨fun i c hi=>H3.blk i c (by rw [ext'];exact hi),fun i c s r hi=>H3.own i c s r (by rw [ext'];exact hi),fun i j c d s s' r hi hj=>H3.inj i j c d s s' r (by rw [ext'];exact hi) (by rw [ext'];exact hj),fun i s hg=>by rw [←ext];exact H3.dfn i s hg,H3.lt⟩,fun r hf=>⟨fun i b s' e hl hgi hrr=>?_,fun hr'=>?_⟩,fun i t' xs' fz' e=>?_,fun i x e=>?_⟩
 ·rw [at_cons] at e
  split at e
  ·injection e with e;subst e;cases hl
  ·exact hf i b s' e hl hgi hrr
 ·rcases hr' with ha|hs
  ·exact ha
  ·cases fz with
   |true=>exact hfz rfl r hs
   |false=>exact absurd hs (hf id _ s hb rfl hg)
 ·rw [at_cons] at e
  split at e
  ·rename_i hi;subst hi;injection e with e;injection e with e1 e2 e3;subst e1;cases e2;exact ⟨fz,hb⟩
  ·exact ⟨fz',e⟩
 ·rw [at_cons] at e
  split at e
  ·cases e
  ·exact e
theorem frz_flat {t:Ty} {x:PV} {y:t.den} {h hh:Hp} {cs:List Value} {u:Unit} {h':Hp} (H:HR g A W w h) (hx:x.rel g A w cs) (hd:(dec t x).Ok hh y hh) (he:(frz x).Ok h u h')
  (hv:∀x:PV,(dec t x).Ok hh y hh→∃u,∃z:u.den,x=.v u z∧castT u t z=some y):
  ∃A',Frz g A W w h A' h'∧TRel A' w t cs y:=by
 obtain ⟨u',z,rfl,e⟩:=hv x hd
 obtain ⟨rfl,rfl⟩:=cast_some e
 simp only [frz,Ok_ret] at he
 obtain ⟨_,rfl⟩:=he
 unfold PV.rel at hx
 exact ⟨A,.refl H,hx⟩
mutual
theorem frz_own:∀(t:Ty) (x:PV) (y:t.den) (A:Nat→Prop) (h hh:Hp) (cs:List Value) (u:Unit) (h':Hp),HR g A W w h→x.rel g A w cs→Sim h hh→(∀i x,h.at i=some (.box x)→hh.at i=some (.box x))→(dec t x).Ok hh y hh→(frz x).Ok h u h'→
  ∃A',Frz g A W w h A' h'∧TRel A' w t cs y
 |.pair a b,x,y,A,h,hh,cs,u,h',H,hx,hs,hbx,hd,he=>by
  cases x with
  |agg xs=>
   cases xs with
   |nil=>simp [dec,Q.Ok] at hd
   |cons x xs=>
    simp only [dec,Ok_bind,Ok_ret] at hd
    obtain ⟨p,h1,e1,q,h2,e2,rfl,e3⟩:=hd
    simp only [frz,frzs,Ok_bind] at he
    obtain ⟨u1,h3,f1,f2⟩:=he
    unfold PV.rel rels at hx
    obtain ⟨c,d,rfl,hc,hdd⟩:=hx
    have q1:=dec_same a x p hh _ e1
    rw [q1] at e1 e2
    have q2:=decs_same b xs q hh _ e2
    rw [q2] at e2
    obtain ⟨A1,F1,r1⟩:=frz_own a x p A h hh c u1 h3 H hc hs hbx e1 f1
    obtain ⟨A2,F2,r2⟩:=frzs_own b xs q A1 h3 hh d u h' F1.hr (rels_mono (Gh.le_refl g) F1.le (fun _ _=>rfl) xs d hdd) (fun i t xs fz e=>by obtain ⟨fz',e'⟩:=F1.sim i t xs fz e;exact hs i t xs fz' e') (fun i x e=>hbx i x (F1.box i x e)) e2 f2
    exact ⟨A2,F1.trans F2,c,d,rfl,r1.mono F2.le (fun _ _=>rfl),r2⟩
  |v u z=>
   simp only [dec,Ok_get] at hd
   obtain ⟨e,_⟩:=hd
   obtain ⟨rfl,rfl⟩:=cast_some e
   simp only [frz,Ok_ret] at he
   obtain ⟨_,rfl⟩:=he
   unfold PV.rel at hx
   exact ⟨A,.refl H,hx⟩
  |_=>simp [dec,Q.Ok] at hd
 |.slice t,x,y,A,h,hh,cs,u,h',H,hx,hs,hbx,hd,he=>by
  cases x with
  |sl id=>
   simp only [frz,Q.Ok] at he
   obtain ⟨b,hb,he⟩:=he
   cases b with
   |box x=>simp [Q.Ok] at he
   |row u xs fz=>
     simp only [Q.Ok] at he
     obtain ⟨_,_,rfl⟩:=he
     obtain ⟨fz',hb2⟩:=hs _ _ _ _ hb
     simp only [dec,Q.Ok,hb2] at hd
     obtain ⟨b',hb',hd⟩:=hd
     injection hb' with hb';subst hb'
     simp only [Ok_get] at hd
     obtain ⟨e,_⟩:=hd
     obtain ⟨eq,rfl⟩:=cast_some e
     injection eq with eq
     subst eq
     unfold PV.rel at hx
     obtain ⟨s,v,hg,rfl,hv⟩:=hx
     obtain ⟨s',hg',hr,_⟩:=H.blk id _ hb
     rw [hg] at hg';injection hg' with hg';subst hg'
     exact ⟨_,frz_row H hb hg,row_TRel (fun r h=> .inl h) hr (fun b hb=> .inr hb) hv⟩
  |sv id p off len sz n=>
   simp only [frz,Q.Ok] at he
   obtain ⟨b,hb,he⟩:=he
   cases b with
   |box x=>simp [Q.Ok] at he
   |row u xs fz=>
     simp only [Ok_cond,Q.Ok,and_false,or_false] at he
     obtain ⟨hn,_,_,rfl⟩:=he
     have hn:=Nat.eq_of_beq_eq_true hn
     subst hn
     obtain ⟨fz',hb2⟩:=hs _ _ _ _ hb
     simp only [dec,Q.Ok,hb2] at hd
     obtain ⟨b',hb',hd⟩:=hd
     injection hb' with hb';subst hb'
     simp only [Ok_bind,Ok_get] at hd
     obtain ⟨ys,h1,⟨e,rfl⟩,e'⟩:=hd
     obtain ⟨eq,rfl⟩:=cast_some e
     injection eq with eq
     subst eq
     cases p with
     |cons a p=>simp [Q.Ok] at e'
     |nil=>
      simp only [Ok_cond,Ok_ret,Ok_fail,and_false,or_false,Bool.and_eq_true] at e'
      obtain ⟨⟨e1,e2⟩,rfl,_⟩:=e'
      have e1:=Nat.eq_of_beq_eq_true e1
      subst e1
      unfold PV.rel at hx
      obtain ⟨s,v,hg,rfl,hv⟩:=hx
      obtain ⟨s',hg',hr,_⟩:=H.blk id _ hb
      rw [hg] at hg';injection hg' with hg';subst hg'
      exact ⟨_,frz_row H hb hg,view_TRel (fun r h=> .inl h) hr (fun b hb=> .inr hb) hv⟩
  |nils=>
   simp only [dec,Ok_ret] at hd
   obtain ⟨rfl,_⟩:=hd
   simp only [frz,Ok_ret] at he
   obtain ⟨_,rfl⟩:=he
   unfold PV.rel at hx
   subst hx
   exact ⟨A,.refl H,none,0,rfl,Nat.le_refl _,fun hl=>absurd hl (Nat.lt_irrefl 0)⟩
  |v u z=>
   simp only [dec,Ok_get] at hd
   obtain ⟨e,_⟩:=hd
   obtain ⟨rfl,rfl⟩:=cast_some e
   simp only [frz,Ok_ret] at he
   obtain ⟨_,rfl⟩:=he
   unfold PV.rel at hx
   exact ⟨A,.refl H,hx⟩
  |_=>simp [dec,Q.Ok] at hd
 |.unit,x,y,A,h,hh,cs,u,h',H,hx,hs,hbx,hd,he=>by
  cases x with
  |agg xs=>
   cases xs with
   |nil=>
    simp only [frz,frzs,Ok_ret] at he
    obtain ⟨_,rfl⟩:=he
    unfold PV.rel rels at hx
    exact ⟨A,.refl H,hx⟩
   |cons x xs=>simp [dec,Q.Ok] at hd
  |v u z=>
   simp only [dec,Ok_get] at hd
   obtain ⟨e,_⟩:=hd
   obtain ⟨rfl,rfl⟩:=cast_some e
   simp only [frz,Ok_ret] at he
   obtain ⟨_,rfl⟩:=he
   unfold PV.rel at hx
   exact ⟨A,.refl H,hx⟩
  |_=>simp [dec,Q.Ok] at hd
 |.int k,x,y,A,h,hh,cs,u,h',H,hx,hs,hbx,hd,he=>frz_flat (t:=.int k) H hx hd he (fun x hd=>by cases x<;>first|(simp only [dec,Ok_get] at hd;exact ⟨_,_,rfl,hd.1⟩)|(simp [dec,Q.Ok] at hd))
 |.bool,x,y,A,h,hh,cs,u,h',H,hx,hs,hbx,hd,he=>frz_flat (t:=.bool) H hx hd he (fun x hd=>by cases x<;>first|(simp only [dec,Ok_get] at hd;exact ⟨_,_,rfl,hd.1⟩)|(simp [dec,Q.Ok] at hd))
 |.str,x,y,A,h,hh,cs,u,h',H,hx,hs,hbx,hd,he=>frz_flat (t:=.str) H hx hd he (fun x hd=>by cases x<;>first|(simp only [dec,Ok_get] at hd;exact ⟨_,_,rfl,hd.1⟩)|(simp [dec,Q.Ok] at hd))
 |.arr n t,x,y,A,h,hh,cs,u,h',H,hx,hs,hbx,hd,he=>frz_flat (t:=.arr n t) H hx hd he (fun x hd=>by cases x<;>first|(simp only [dec,Ok_get] at hd;exact ⟨_,_,rfl,hd.1⟩)|(simp [dec,Q.Ok] at hd))
theorem frzs_own:∀(t:Ty) (xs:List PV) (y:t.den) (A:Nat→Prop) (h hh:Hp) (cs:List Value) (u:Unit) (h':Hp),HR g A W w h→rels g A w xs cs→Sim h hh→(∀i x,h.at i=some (.box x)→hh.at i=some (.box x))→(decs t xs).Ok hh y hh→(frzs xs).Ok h u h'→
  ∃A',Frz g A W w h A' h'∧TRel A' w t cs y
 |.pair a b,xs,y,A,h,hh,cs,u,h',H,hx,hs,hbx,hd,he=>by
  cases xs with
  |nil=>simp [decs,Q.Ok] at hd
  |cons x xs=>
    simp only [decs,Ok_bind,Ok_ret] at hd
    obtain ⟨p,h1,e1,q,h2,e2,rfl,e3⟩:=hd
    simp only [frzs,Ok_bind] at he
    obtain ⟨u1,h3,f1,f2⟩:=he
    unfold rels at hx
    obtain ⟨c,d,rfl,hc,hdd⟩:=hx
    have q1:=dec_same a x p hh _ e1
    rw [q1] at e1 e2
    have q2:=decs_same b xs q hh _ e2
    rw [q2] at e2
    obtain ⟨A1,F1,r1⟩:=frz_own a x p A h hh c u1 h3 H hc hs hbx e1 f1
    obtain ⟨A2,F2,r2⟩:=frzs_own b xs q A1 h3 hh d u h' F1.hr (rels_mono (Gh.le_refl g) F1.le (fun _ _=>rfl) xs d hdd) (fun i t xs fz e=>by obtain ⟨fz',e'⟩:=F1.sim i t xs fz e;exact hs i t xs fz' e') (fun i x e=>hbx i x (F1.box i x e)) e2 f2
    exact ⟨A2,F1.trans F2,c,d,rfl,r1.mono F2.le (fun _ _=>rfl),r2⟩
 |.unit,xs,y,A,h,hh,cs,u,h',H,hx,hs,hbx,hd,he=>by
  cases xs with
  |nil=>
   simp only [frzs,Ok_ret] at he
   obtain ⟨_,rfl⟩:=he
   unfold rels at hx
   exact ⟨A,.refl H,hx⟩
  |cons x xs=>simp [decs,Q.Ok] at hd
 |.int _,_,_,_,_,_,_,_,_,_,_,_,_,hd,_=>by simp [decs,Q.Ok] at hd
 |.bool,_,_,_,_,_,_,_,_,_,_,_,_,hd,_=>by simp [decs,Q.Ok] at hd
 |.str,_,_,_,_,_,_,_,_,_,_,_,_,hd,_=>by simp [decs,Q.Ok] at hd
 |.arr _ _,_,_,_,_,_,_,_,_,_,_,_,_,hd,_=>by simp [decs,Q.Ok] at hd
 |.slice _,_,_,_,_,_,_,_,_,_,_,_,_,hd,_=>by simp [decs,Q.Ok] at hd
end
theorem typed_own {t:Ty} {x:PV} {y:t.den} {h:Hp} {cs:List Value} {h':Hp} (H:HR g A W w h) (hx:x.rel g A w cs) (he:(typed t x).Ok h y h'):∃A',Frz g A W w h A' h'∧TRel A' w t cs y:=by
 simp only [typed,Ok_bind] at he
 obtain ⟨z,h1,e1,e2⟩:=he
 have q:=dec_same t x z h _ e1
 subst q
 rw [Ok_cond] at e2
 rcases e2 with ⟨hf,e2⟩|⟨hf,e2⟩
 ·rw [Ok_ret] at e2
  obtain ⟨rfl,rfl⟩:=e2
  exact ⟨A,.refl H,TRel.flat t cs y hf (dec_rel H t x y _ cs hx e1).2⟩
 ·simp only [Ok_bind,Ok_ret] at e2
  obtain ⟨u,h2,e2,rfl,rfl⟩:=e2
  exact frz_own t x y A h1 h1 cs u h' H hx (fun _ _ _ fz e=>⟨fz,e⟩) (fun _ _ e=>e) e1 e2
end
end Go.Proofs.YtkihjakbbcajbaaGreat.PM
namespace Go.Proofs.YtkihjakbbcajbaaGreat.PM
set_option linter.unusedSimpArgs false
set_option linter.unusedVariables false
open Go
def zcells:Ty→List Value
 |.int k=>[.int k 0]
 |.bool=>[.bool false]
 |.str=>[.string ByteArray.empty]
 |.unit=>[]
 |.pair a b=>zcells a++zcells b
 |.arr n t=>(List.replicate n (zcells t)).flatten
 |.slice _=>[.slice none 0 0]
def zN (f:List Value→Option (List Value)):Nat→List Value→Option (List Value)
 |0,cs=>some cs
 |n+1,cs=>(f cs).bind (zN f n)
def zB:Ty→List Value→Option (List Value)
 |.int k,.int j n::r=>cond (decide (j=k) && decide (n=0)) (some r) none
 |.bool,.bool b::r=>cond b none (some r)
 |.str,.string s::r=>match s with
  |⟨⟨[]⟩⟩=>some r
  |_=>none
 |.unit,r=>some r
 |.pair a b,cs=>(zB a cs).bind (zB b)
 |.arr n t,cs=>zN (zB t) n cs
 |.slice _,.slice none 0 0::r=>some r
 |_,_=>none
theorem zN_eq {f:List Value→Option (List Value)} {z:List Value} (h:∀cs r,f cs=some r→cs=z++r):∀(n:Nat) (cs r:List Value),zN f n cs=some r→cs=(List.replicate n z).flatten++r
 |0,cs,r,e=>by simp only [zN,Option.some.injEq] at e;simp [e]
 |n+1,cs,r,e=>by
  simp only [zN,Option.bind_eq_some_iff] at e
  obtain ⟨d,e1,e2⟩:=e
  rw [h cs d e1,zN_eq h n d r e2]
  simp [List.replicate_succ,List.append_assoc]
theorem zB_eq:∀(t:Ty) (cs r:List Value),zB t cs=some r→cs=zcells t++r
 |.int k,cs,r,e=>by
  cases cs with
  |nil=>simp [zB] at e
  |cons v cs=>
   cases v with
   |int j n=>
    simp only [zB] at e
    cases hc:(decide (j=k) && decide (n=0)) with
    |false=>rw [hc] at e;cases e
    |true=>
     rw [hc] at e;injection e with e
     rw [Bool.and_eq_true,decide_eq_true_eq,decide_eq_true_eq] at hc
     obtain ⟨rfl,rfl⟩:=hc
     rw [e];rfl
   |_=>simp [zB] at e
 |.bool,cs,r,e=>by
  cases cs with
  |nil=>simp [zB] at e
  |cons v cs=>
   cases v with
   |bool b=>cases b with
    |true=>simp [zB] at e
    |false=>simp only [zB,cond_false,Option.some.injEq] at e;rw [e];rfl
   |_=>simp [zB] at e
 |.str,cs,r,e=>by
  cases cs with
  |nil=>simp [zB] at e
  |cons v cs=>
   cases v with
   |string s=>
    obtain ⟨⟨l⟩⟩:=s
    cases l with
    |nil=>simp only [zB,Option.some.injEq] at e;rw [e];rfl
    |cons a l=>simp [zB] at e
   |_=>simp [zB] at e
 |.unit,cs,r,e=>by simp only [zB,Option.some.injEq] at e;simp [zcells,e]
 |.pair a b,cs,r,e=>by
  simp only [zB,Option.bind_eq_some_iff] at e
  obtain ⟨d,e1,e2⟩:=e
  rw [zB_eq a cs d e1,zB_eq b d r e2,zcells,List.append_assoc]
 |.arr n t,cs,r,e=>zN_eq (zB_eq t) n cs r e
 |.slice t,cs,r,e=>by
  cases cs with
  |nil=>simp [zB] at e
  |cons v cs=>
   cases v with
   |slice a l c=>
    cases a<;>cases l<;>cases c<;>simp [zB] at e
    simp [e,zcells]
   |_=>simp [zB] at e
theorem zcells_rel (A:Nat→Prop) (w:World):∀t:Ty,TRel A w t (zcells t) t.zero
 |.int _=>rfl
 |.bool=>rfl
 |.str=>⟨ByteArray.empty,rfl,rfl⟩
 |.unit=>rfl
 |.pair a b=>⟨_,_,rfl,zcells_rel A w a,zcells_rel A w b⟩
 |.arr n t=>⟨by simp [Ty.zero],Cat.replicate (zcells_rel A w t) n⟩
 |.slice _=>⟨none,0,rfl,Nat.le_refl _,fun h=>absurd h (Nat.lt_irrefl 0)⟩
theorem zcells_own (A:Nat→Prop) (w:World):∀t:Ty,OwnT A w t (zcells t) t.zero []
 |.int _=>⟨rfl,rfl⟩
 |.bool=>⟨rfl,rfl⟩
 |.str=>⟨⟨ByteArray.empty,rfl,rfl⟩,rfl⟩
 |.unit=>⟨rfl,rfl⟩
 |.pair a b=>⟨_,_,[],[],rfl,rfl,zcells_own A w a,zcells_own A w b⟩
 |.arr n t=>⟨zcells_rel A w (.arr n t),rfl⟩
 |.slice _=>⟨⟨none,0,0⟩,_,rfl,⟨rfl,rfl,rfl⟩,⟨rfl,rfl,rfl⟩,rfl⟩
def isAggV:Value→Bool
 |.agg _=>true
 |_=>false
def basicB (P:Program) (τ:Ty) (t:TypeId):Bool:=match P.info? t with
 |some i=>Nat.beq i.size τ.size && (Nat.ble i.bytes τ.bytes && (match i.zero with
  |some z=>(match zB τ z.cells.toList with|some []=>true|_=>false) && (isAggV z==τ.agg)
  |none=>false))
 |none=>false
def chk (P:Program):Ty→(TypeId→Bool) × (List Field→Nat→Bool)
 |.int k=>(fun t=>basicB P (.int k) t && match P.underlying t with|some (.int j)=>decide (j=k)|_=>false,fun _ _=>false)
 |.bool=>(fun t=>basicB P .bool t && match P.underlying t with|some .bool=>true|_=>false,fun _ _=>false)
 |.str=>(fun t=>basicB P .str t && match P.underlying t with|some .string=>true|_=>false,fun _ _=>false)
 |.unit=>(fun t=>basicB P .unit t && match P.underlying t with|some (.struct fs)=>fs.toList.isEmpty|_=>false,fun fs _=>fs.isEmpty)
 |.pair a b=>
  let F:List Field→Nat→Bool:=fun fs o=>match fs with
   |f::fs=>Nat.beq f.offset o && ((chk P a).1 f.type && (chk P b).2 fs (o+a.size))
   |[]=>false
  (fun t=>basicB P (.pair a b) t && match P.underlying t with|some (.struct fs)=>F fs.toList 0|_=>false,F)
 |.arr n u=>(fun t=>basicB P (.arr n u) t && match P.underlying t with|some (.array m e)=>Nat.beq m n && (chk P u).1 e|_=>false,fun _ _=>false)
 |.slice u=>(fun t=>basicB P (.slice u) t && match P.underlying t with|some (.slice e)=>(chk P u).1 e|_=>false,fun _ _=>false)
def tyB (P:Program) (τ:Ty) (t:TypeId):Bool:=(chk P τ).1 t
def fldB (P:Program) (τ:Ty) (fs:List Field) (o:Nat):Bool:=(chk P τ).2 fs o
section
variable (P:Program) (t:TypeId) (k:IntKind) (a b u:Ty) (n o:Nat) (f:Field) (fs:List Field)
theorem tyB_int:tyB P (.int k) t=(basicB P (.int k) t && match P.underlying t with|some (.int j)=>decide (j=k)|_=>false):=rfl
theorem tyB_bool:tyB P .bool t=(basicB P .bool t && match P.underlying t with|some .bool=>true|_=>false):=rfl
theorem tyB_str:tyB P .str t=(basicB P .str t && match P.underlying t with|some .string=>true|_=>false):=rfl
theorem tyB_unit:tyB P .unit t=(basicB P .unit t && match P.underlying t with|some (.struct fs)=>fs.toList.isEmpty|_=>false):=rfl
theorem tyB_pair:tyB P (.pair a b) t=(basicB P (.pair a b) t && match P.underlying t with|some (.struct fs)=>fldB P (.pair a b) fs.toList 0|_=>false):=rfl
theorem tyB_arr:tyB P (.arr n u) t=(basicB P (.arr n u) t && match P.underlying t with|some (.array m e)=>Nat.beq m n && tyB P u e|_=>false):=rfl
theorem tyB_slice:tyB P (.slice u) t=(basicB P (.slice u) t && match P.underlying t with|some (.slice e)=>tyB P u e|_=>false):=rfl
theorem fldB_pair1:fldB P (.pair a b) (f::fs) o=(Nat.beq f.offset o && (tyB P a f.type && fldB P b fs (o+a.size))):=rfl
theorem fldB_pair0:fldB P (.pair a b) [] o=false:=rfl
theorem fldB_unit1:fldB P .unit (f::fs) o=false:=rfl
theorem fldB_unit0:fldB P .unit [] o=true:=rfl
theorem fldB_int:fldB P (.int k) fs o=false:=rfl
theorem fldB_bool:fldB P .bool fs o=false:=rfl
theorem fldB_str:fldB P .str fs o=false:=rfl
theorem fldB_arr:fldB P (.arr n u) fs o=false:=rfl
theorem fldB_slice:fldB P (.slice u) fs o=false:=rfl
end
def tiB (P:Program):TI→TypeId→Bool
 |.data τ,t=>tyB P τ t
 |.other,t=>match P.underlying t,P.info? t with
  |some (.pointer _),some i=>Nat.beq i.size 1
  |some (.func _ _ _),some i=>Nat.beq i.size 1
  |_,_=>false
def tabB (P:Program):List (Nat × TI)→Bool
 |[]=>true
 |(t,τ)::r=>tiB P τ t && tabB P r
theorem tabB_look {P:Program}:∀{l:List (Nat × TI)} {t:Nat} {τ:TI},tabB P l=true→look t l=some τ→tiB P τ t=true
 |[],_,_,_,e=>by cases e
 |(j,σ)::r,t,τ,h,e=>by
  rw [look_cons] at e
  simp only [tabB,Bool.and_eq_true] at h
  split at e
  ·rename_i hj;injection e with e;subst e;subst hj;exact h.1
  ·exact tabB_look h.2 e
section
variable {P:Program} {t:TypeId} {τ:Ty}
theorem tyB_basic (h:tyB P τ t=true):basicB P τ t=true:=by
 cases τ<;>simp only [tyB_int,tyB_bool,tyB_str,tyB_unit,tyB_pair,tyB_arr,tyB_slice,Bool.and_eq_true] at h<;>exact h.1
theorem tyB_info (h:tyB P τ t=true):∃i z,P.info? t=some i∧i.size=τ.size∧i.bytes≤τ.bytes∧i.zero=some z∧z.cells.toList=zcells τ∧isAggV z=τ.agg:=by
 have h:=tyB_basic h
 unfold basicB at h
 split at h
 ·rename_i i hi
  simp only [Bool.and_eq_true] at h
  obtain ⟨h1,h2,h3⟩:=h
  split at h3
  ·rename_i z hz
   simp only [Bool.and_eq_true,beq_iff_eq] at h3
   refine ⟨i,z,hi,Nat.eq_of_beq_eq_true h1,Nat.le_of_ble_eq_true h2,hz,?_,h3.2⟩
   have h4:=h3.1
   split at h4
   ·rename_i he
    have:=zB_eq τ _ _ he
    simpa using this
   ·cases h4
  ·cases h3
 ·cases h
theorem run_isAgg (w:World) (h:tyB P τ t=true):(isAgg t).run P w=.ok τ.agg w:=by
 have hu:∃d,P.underlying t=some d∧(match d with|.struct _|.array _ _=>true|_=>false)=τ.agg:=by
  cases τ<;>simp only [tyB_int,tyB_bool,tyB_str,tyB_unit,tyB_pair,tyB_arr,tyB_slice,Bool.and_eq_true] at h<;>obtain ⟨_,h⟩:=h<;>split at h<;>first|(rename_i hd;exact ⟨_,hd,rfl⟩)|(cases h)
 obtain ⟨d,hd,e⟩:=hu
 simp only [isAgg,Sem.run_bind,run_underlying hd,Result.andThen_ok]
 cases d<;>simp_all
theorem run_sizeT (w:World) (h:tyB P τ t=true):(sizeOf t).run P w=.ok τ.size w:=by
 obtain ⟨i,z,h1,h2,_⟩:=tyB_info h
 simp [sizeOf,typeInfo,h1,h2]
theorem isAggV_cells {v:Value} (h:isAggV v=false):v.cells=#[v]:=by
 cases v<;>simp_all [Value.cells,isAggV]
end
def ofCells (agg:Bool) (c:List Value):Value:=cond agg (.agg c.toArray) (c.getD 0 undef)
section
variable {g:Gh} {A:Nat→Prop} {w:World}
theorem rel_single:∀(x:PV) (cs:List Value),aggP x=false→x.rel g A w cs→∃v,cs=[v]∧isAggV v=false
 |.v t x,cs,ha,h=>by
  unfold PV.rel at h
  cases t<;>simp only [aggP,Ty.agg] at ha<;>try (cases ha)
  ·exact ⟨_,h,rfl⟩
  ·exact ⟨_,h,rfl⟩
  ·obtain ⟨s,e,_⟩:=h;exact ⟨_,e,rfl⟩
  ·obtain ⟨a,c,e,_⟩:=h;exact ⟨_,e,rfl⟩
 |.agg xs,cs,ha,h=>by simp [aggP] at ha
 |.sl i,cs,_,h=>by
  unfold PV.rel at h;obtain ⟨s,v,_,e,hv⟩:=h
  refine ⟨v,e,?_⟩
  unfold SlV at hv
  split at hv
  ·rw [hv];rfl
  ·rw [hv.1];rfl
 |.sv i p off len sz n,cs,_,h=>by unfold PV.rel at h;obtain ⟨s,v,_,e,_,_,_,_,a,c,rfl,_⟩:=h;exact ⟨_,e,rfl⟩
 |.ptr i p,cs,_,h=>by unfold PV.rel at h;obtain ⟨s,b,_,_,e,_⟩:=h;exact ⟨_,e,rfl⟩
 |.iptr t x,cs,_,h=>by unfold PV.rel at h;obtain ⟨a,c,e,_⟩:=h;exact ⟨_,e,rfl⟩
 |.nils,cs,_,h=>by unfold PV.rel at h;exact ⟨_,h,rfl⟩
 |.fn f caps,cs,_,h=>by unfold PV.rel at h;obtain ⟨vs,e,_⟩:=h;exact ⟨_,e,rfl⟩
 |.tup xs,cs,_,h=>by unfold PV.rel at h;obtain ⟨vs,e,_⟩:=h;exact ⟨_,e,rfl⟩
 |.undef,cs,_,h=>by unfold PV.rel at h;exact ⟨_,h,rfl⟩
theorem VRel.cells {x:PV} {v:Value} (h:VRel g A w x v):x.rel g A w v.cells.toList∧isAggV v=aggP x:=by
 unfold VRel at h
 cases hx:aggP x with
 |true=>rw [hx] at h;obtain ⟨cs,rfl,h⟩:=h;exact ⟨h,rfl⟩
 |false=>
  rw [hx] at h
  obtain ⟨u,e,hu⟩:=rel_single x _ hx h
  injection e with e;subst e
  rw [isAggV_cells hu];exact ⟨h,hu⟩
theorem VRel.of_cells {x:PV} {c:List Value} (h:x.rel g A w c):VRel g A w x (ofCells (aggP x) c):=by
 unfold VRel ofCells
 cases hx:aggP x with
 |true=>exact ⟨c.toArray,rfl,h⟩
 |false=>
  obtain ⟨v,rfl,_⟩:=rel_single x c hx h
  exact h
mutual
theorem fits_ok:∀(t:Ty) (x:PV),fits t x=true→aggP x=t.agg∧x.size=t.size
 |.pair a b,x,h=>by
  cases x with
  |agg xs=>
   cases xs with
   |nil=>simp [fits] at h
   |cons x xs=>
    simp only [fits,Bool.and_eq_true] at h
    have h1:=fits_ok a x h.1
    have h2:=fitss_ok b xs h.2
    exact ⟨rfl,by simp only [PV.size,sizes,Ty.size,h1.2,h2]⟩
  |v u z=>simp only [fits,decide_eq_true_eq] at h;subst h;exact ⟨rfl,rfl⟩
  |_=>simp [fits] at h
 |.unit,x,h=>by
  cases x with
  |agg xs=>
   cases xs with
   |nil=>exact ⟨rfl,rfl⟩
   |cons x xs=>simp [fits] at h
  |v u z=>simp only [fits,decide_eq_true_eq] at h;subst h;exact ⟨rfl,rfl⟩
  |_=>simp [fits] at h
 |.int k,x,h=>by
  cases x with
  |v u z=>simp only [fits,decide_eq_true_eq] at h;subst h;exact ⟨rfl,rfl⟩
  |_=>simp [fits] at h
 |.bool,x,h=>by
  cases x with
  |v u z=>simp only [fits,decide_eq_true_eq] at h;subst h;exact ⟨rfl,rfl⟩
  |_=>simp [fits] at h
 |.str,x,h=>by
  cases x with
  |v u z=>simp only [fits,decide_eq_true_eq] at h;subst h;exact ⟨rfl,rfl⟩
  |_=>simp [fits] at h
 |.arr n t,x,h=>by
  cases x with
  |v u z=>simp only [fits,decide_eq_true_eq] at h;subst h;exact ⟨rfl,rfl⟩
  |_=>simp [fits] at h
 |.slice t,x,h=>by
  cases x with
  |v u z=>simp only [fits,decide_eq_true_eq] at h;subst h;exact ⟨rfl,rfl⟩
  |sl i=>exact ⟨rfl,rfl⟩
  |sv i p o l s n=>exact ⟨rfl,rfl⟩
  |_=>simp [fits] at h
theorem fitss_ok:∀(t:Ty) (xs:List PV),fitss t xs=true→sizes xs=t.size
 |.pair a b,xs,h=>by
   cases xs with
   |nil=>simp [fitss] at h
   |cons x xs=>
    simp only [fitss,Bool.and_eq_true] at h
    have h1:=fits_ok a x h.1
    have h2:=fitss_ok b xs h.2
    simp only [sizes,Ty.size,h1.2,h2]
 |.unit,xs,h=>by
   cases xs with
   |nil=>rfl
   |cons x xs=>simp [fitss] at h
 |.int _,_,h=>by simp [fitss] at h
 |.bool,_,h=>by simp [fitss] at h
 |.str,_,h=>by simp [fitss] at h
 |.arr _ _,_,h=>by simp [fitss] at h
 |.slice _,_,h=>by simp [fitss] at h
end
mutual
theorem fits_one:∀(t:Ty) (x:PV) (cs:List Value),fits t x=true→x.rel g A w cs→∀v∈cs,v.oneCell'=true
 |t,.v u z,cs,_,h=>by unfold PV.rel at h;exact TRel.one u cs z h
 |t,.sl i,cs,_,h=>by
  unfold PV.rel at h;obtain ⟨s,v,_,rfl,hv⟩:=h
  intro u hu
  rw [List.mem_singleton] at hu;subst hu
  unfold SlV at hv
  split at hv
  ·rw [hv];rfl
  ·rw [hv.1];rfl
 |t,.sv i p off len sz n,cs,_,h=>by
  unfold PV.rel at h;obtain ⟨s,v,_,rfl,_,_,_,_,a,c,rfl,_⟩:=h
  intro u hu
  rw [List.mem_singleton] at hu;subst hu;rfl
 |.pair a b,.agg xs,cs,hf,h=>by
  cases xs with
  |nil=>simp [fits] at hf
  |cons x xs=>
   simp only [fits,Bool.and_eq_true] at hf
   unfold PV.rel rels at h
   obtain ⟨c,d,rfl,h1,h2⟩:=h
   intro v hv
   rcases List.mem_append.1 hv with hv|hv
   ·exact fits_one a x c hf.1 h1 v hv
   ·exact fitss_one b xs d hf.2 h2 v hv
 |.unit,.agg xs,cs,hf,h=>by
  cases xs with
  |nil=>unfold PV.rel rels at h;subst h;simp
  |cons x xs=>simp [fits] at hf
 |.int _,.agg xs,_,hf,_=>by simp [fits] at hf
 |.bool,.agg xs,_,hf,_=>by simp [fits] at hf
 |.str,.agg xs,_,hf,_=>by simp [fits] at hf
 |.arr _ _,.agg xs,_,hf,_=>by simp [fits] at hf
 |.slice _,.agg xs,_,hf,_=>by simp [fits] at hf
 |t,.ptr _ _,_,hf,_=>by cases t<;>simp [fits] at hf
 |t,.iptr _ _,_,hf,_=>by cases t<;>simp [fits] at hf
 |t,.nils,_,hf,_=>by cases t<;>simp [fits] at hf
 |t,.fn _ _,_,hf,_=>by cases t<;>simp [fits] at hf
 |t,.tup _,_,hf,_=>by cases t<;>simp [fits] at hf
 |t,.undef,_,hf,_=>by cases t<;>simp [fits] at hf
theorem fitss_one:∀(t:Ty) (xs:List PV) (cs:List Value),fitss t xs=true→rels g A w xs cs→∀v∈cs,v.oneCell'=true
 |t,[],cs,_,h=>by unfold rels at h;subst h;simp
 |.pair a b,x::xs,cs,hf,h=>by
   simp only [fitss,Bool.and_eq_true] at hf
   unfold rels at h
   obtain ⟨c,d,rfl,h1,h2⟩:=h
   intro v hv
   rcases List.mem_append.1 hv with hv|hv
   ·exact fits_one a x c hf.1 h1 v hv
   ·exact fitss_one b xs d hf.2 h2 v hv
 |.unit,x::xs,_,hf,_=>by simp [fitss] at hf
 |.int _,x::xs,_,hf,_=>by simp [fitss] at hf
 |.bool,x::xs,_,hf,_=>by simp [fitss] at hf
 |.str,x::xs,_,hf,_=>by simp [fitss] at hf
 |.arr _ _,x::xs,_,hf,_=>by simp [fitss] at hf
 |.slice _,x::xs,_,hf,_=>by simp [fitss] at hf
end
end
end Go.Proofs.YtkihjakbbcajbaaGreat.PM
namespace Go.Proofs.YtkihjakbbcajbaaGreat.PM
set_option linter.unusedSimpArgs false
set_option linter.unusedVariables false
open Go
structure Keep (W:Nat→Prop) (w w':World):Prop where
 os:w'.os=w.os
 tape:w'.tape=w.tape
 output:w'.output=w.output
 size:w.heap.size≤w'.heap.size
 block:∀r,r<w.heap.size→¬W r→w'.heap[r]?=w.heap[r]?
theorem Keep.refl (W:Nat→Prop) (w:World):Keep W w w:=⟨rfl,rfl,rfl,Nat.le_refl _,fun _ _ _=>rfl⟩
theorem Keep.trans {W:Nat→Prop} {a b c:World} (h:Keep W a b) (k:Keep W b c):Keep W a c:=
 ⟨k.os.trans h.os,k.tape.trans h.tape,k.output.trans h.output,Nat.le_trans h.size k.size,fun r hr hn=>(k.block r (Nat.lt_of_lt_of_le hr h.size) hn).trans (h.block r hr hn)⟩
structure Step (g:Gh) (A W:Nat→Prop) (w:World) (g':Gh) (A':Nat→Prop) (w':World) (h':Hp):Prop where
 le:g.le g'
 mono:∀r,A r→A' r
 in':∀r,A' r→A r∨W r
 hr:HR g' A' W w' h'
 same:∀r,A r→w'.heap[r]?=w.heap[r]?
 keep:Keep W w w'
def TI.agg:TI→Bool
 |.data t=>t.agg
 |.other=>false
def TI.size:TI→Nat
 |.data t=>t.size
 |.other=>1
section
variable {P:Program} {t:TypeId} {τ:TI} {g:Gh} {A W:Nat→Prop} {w:World} {h:Hp}
theorem Step.refl (H:HR g A W w h):Step g A W w g A w h:=⟨Gh.le_refl g,fun _ h=>h,fun _ h=> .inl h,H,fun _ _=>rfl,.refl W w⟩
theorem Step.trans {g1 g2:Gh} {A1 A2:Nat→Prop} {w1 w2:World} {h1 h2:Hp} (a:Step g A W w g1 A1 w1 h1) (b:Step g1 A1 W w1 g2 A2 w2 h2):Step g A W w g2 A2 w2 h2:=
 ⟨Gh.le_trans a.le b.le,fun r hr=>b.mono r (a.mono r hr),fun r hr=>(b.in' r hr).elim (a.in' r) .inr,b.hr,fun r hr=>(b.same r (a.mono r hr)).trans (a.same r hr),a.keep.trans b.keep⟩
theorem Frz.step {A':Nat→Prop} {h':Hp} (f:Frz g A W w h A' h'):Step g A W w g A' w h':=⟨Gh.le_refl g,f.le,f.in',f.hr,fun _ _=>rfl,.refl W w⟩
theorem run_isAgg' (w:World) (hT:tiB P τ t=true):(isAgg t).run P w=.ok τ.agg w:=by
 cases τ with
 |data t'=>exact run_isAgg w hT
 |other=>
  simp only [tiB] at hT
  split at hT
  ·rename_i e i hd hi;simp [isAgg,run_underlying hd,TI.agg]
  ·rename_i e i hd hi;simp [isAgg,run_underlying hd,TI.agg]
  ·cases hT
theorem run_size' (w:World) (hT:tiB P τ t=true):(sizeOf t).run P w=.ok τ.size w:=by
 cases τ with
 |data t'=>exact run_sizeT w hT
 |other=>
  simp only [tiB] at hT
  split at hT
  ·rename_i e i hd hi;have:=Nat.eq_of_beq_eq_true hT;simp [sizeOf,typeInfo,hi,TI.size,this]
  ·rename_i e i hd hi;have:=Nat.eq_of_beq_eq_true hT;simp [sizeOf,typeInfo,hi,TI.size,this]
  ·cases hT
theorem agg_size (hT:tiB P τ t=true) (ha:τ.agg=false):τ.size=1:=by
 cases τ with
 |data t'=>cases t'<;>simp_all [TI.agg,Ty.agg,TI.size,Ty.size]
 |other=>rfl
theorem run_loadVar_at (hT:tiB P τ t=true) {a:Addr} {c:List Value} (hc:At w a c) (hl:c.length=τ.size):(loadVar t a).run P w=.ok (ofCells τ.agg c) w:=by
 unfold loadVar ofCells
 cases ha:τ.agg with
 |true=>
  have h1:=run_loadCells_list (P:=P) w a c hc
  rw [hl] at h1
  simp [run_isAgg' w hT,ha,run_size' w hT,h1]
 |false=>
  have hs:=agg_size hT ha
  obtain ⟨v,rfl⟩:∃v,c=[v]:=by
   cases c with
   |nil=>simp at hl;omega
   |cons v c=>cases c with
    |nil=>exact ⟨v,rfl⟩
    |cons u c=>simp at hl;omega
  have h0:=hc 0 v rfl
  have:a.add 0=a:=by unfold Addr.add;simp
  rw [this] at h0
  simp [run_isAgg' w hT,ha,h0]
theorem run_storeVar_at (hT:tiB P τ t=true) {b off:Nat} {cur:Array Value} {e:TypeId} (hh:w.heap[b]?=some (.cells cur e (0,0))) {v:Value} (hl:v.cells.toList.length=τ.size) (hr:off+v.cells.toList.length≤cur.size) (h1:∀u∈v.cells.toList,u.oneCell'=true):
  (storeVar t ⟨b,off,none⟩ v).run P w=.ok () (w.setRow b (cur.toList.take off++v.cells.toList++cur.toList.drop (off+v.cells.toList.length)).toArray):=by
 unfold storeVar
 have hs:=run_storeCells_at (P:=P) b off e v.cells.toList 0 cur w hh (by simpa using hr) h1
 simp only [Nat.add_zero] at hs
 have hl':v.cells.size=τ.size:=by simpa using hl
 simp only [Sem.run_bind,run_size' w hT,Result.andThen_ok,hl',ne_eq,not_true_eq_false,if_false]
 exact hs
theorem HR.delMove {w':World} (H:HR g A W w h) {id b:Nat} {B:Blk} {s:Slot} (hb:h.at id=some B) (hl:B.live=true) (hg:g id=some s) (hs:s.blk=some b) (hw:∀r,r≠b→w'.heap[r]?=w.heap[r]?) (hz:w.heap.size≤w'.heap.size):
  HR g A W w' ((id,none)::h)∧Free g ((id,none)::h) b:=by
 have hA:∀r,A r→w'.heap[r]?=w.heap[r]?:=fun r hr=>hw r (fun e=>by subst e;exact (H.own id B s r hb hl hg hs).1 hr)
 refine ⟨(H.del id).move hA (fun i c s' r e hgi hr=>hw r (fun e'=>?_)) hz,fun i c s' e hcl hgi hr=>?_⟩
 ·subst e'
  rw [at_cons] at e
  split at e
  ·cases e
  ·rename_i hne
   cases hcl:c.live with
   |true=>exact hne (H.inj i id c B s' s r e hb hcl hl hgi hg hr hs)
   |false=>
    cases c with
    |box x=>cases hcl
    |row t xs fz=>
     cases fz with
     |false=>cases hcl
     |true=>
      obtain ⟨s'',hg'',_,hf⟩:=H.blk i _ e
      rw [hgi] at hg'';injection hg'' with hg'';subst hg''
      exact (H.own id B s r hb hl hg hs).1 (hf rfl r hr)
 ·rw [at_cons] at e
  split at e
  ·cases e
  ·rename_i hne
   exact hne (H.inj i id c B s' s b e hb hcl hl hgi hg hr hs)
theorem HR.store {w':World} (H:HR g A W w h) {id b:Nat} {B B':Blk} {s:Slot} (hb:h.at id=some B) (hl:B.live=true) (hg:g id=some s) (hs:s.blk=some b) (hw:∀r,r≠b→w'.heap[r]?=w.heap[r]?) (hz:w.heap.size≤w'.heap.size)
  (hB:BRel g A w' id B'):HR g A W w' ((id,some B')::h):=by
 have hA:∀r,A r→w'.heap[r]?=w.heap[r]?:=fun r hr=>hw r (fun e=>by subst e;exact (H.own id B s r hb hl hg hs).1 hr)
 have H1:HR g A W w' ((id,none)::h):=(H.del id).move hA (fun i c s' r e hgi hr=>hw r (fun e'=>by
  subst e'
  rw [at_cons] at e
  split at e
  ·cases e
  ·rename_i hne
   cases hcl:c.live with
   |true=>exact hne (H.inj i id c B s' s r e hb hcl hl hgi hg hr hs)
   |false=>
    cases c with
    |box x=>cases hcl
    |row t xs fz=>
     cases fz with
     |false=>cases hcl
     |true=>
      obtain ⟨s'',hg'',_,hf⟩:=H.blk i _ e
      rw [hgi] at hg'';injection hg'' with hg'';subst hg''
      exact (H.own id B s r hb hl hg hs).1 (hf rfl r hr))) hz
 have H2:=H1.put hB (fun _ s' r hs' hr=>by
  rw [hg] at hs';injection hs' with hs';subst hs'
  rw [hs] at hr;injection hr with hr;subst hr
  refine ⟨(H.own id B s b hb hl hg hs).1,(H.own id B s b hb hl hg hs).2,fun j c s' hj e hcl hgj hr=>?_⟩
  rw [at_cons,if_neg hj] at e
  exact hj (H.inj j id c B s' s b e hb hcl hl hgj hg hr hs))
 have ext:∀i,look i ((id,some B')::(id,none)::h)=look i ((id,some B')::h):=fun i=>by
  simp only [look_cons];split<;>rfl
 have ext':∀i,Hp.at ((id,some B')::(id,none)::h) i=Hp.at ((id,some B')::h) i:=fun i=>by unfold Hp.at;rw [ext]
 exact ⟨fun i c hi=>H2.blk i c (by rw [ext'];exact hi),fun i c s r hi=>H2.own i c s r (by rw [ext'];exact hi),fun i j c d s s' r hi hj=>H2.inj i j c d s s' r (by rw [ext'];exact hi) (by rw [ext'];exact hj),fun i s hg=>by rw [←ext];exact H2.dfn i s hg,H2.lt⟩
theorem setRow_keep {b:Nat} {c:Array Value} (hb:W b):Keep W w (w.setRow b c):=
 ⟨rfl,rfl,rfl,by simp,fun r _ hn=>setRow_other w b r c (fun e=>hn (e▸hb))⟩
theorem Step.set (H:HR g A W w h) {id b:Nat} {B B':Blk} {s:Slot} {c:Array Value} (hb:h.at id=some B) (hl:B.live=true) (hg:g id=some s) (hs:s.blk=some b) (hB:BRel g A (w.setRow b c) id B'):
  Step g A W w g A (w.setRow b c) ((id,some B')::h):=by
 have ho:=H.own id B s b hb hl hg hs
 exact ⟨Gh.le_refl g,fun _ h=>h,fun _ h=> .inl h,H.store hb hl hg hs (fun r hr=>setRow_other w b r c hr) (by simp) hB,fun r hr=>setRow_other w b r c (fun e=>ho.1 (e▸hr)),setRow_keep ho.2⟩
theorem poff_append (p q:List Stp):poff (p++q)=poff p+poff q:=by
 induction p with
 |nil=>simp [poff]
 |cons a p ih=>simp only [List.cons_append,poff,ih];omega
theorem pok_append {L:Nat} (p q:List Stp) (h1:pok L p) (h2:pok L q):pok L (p++q):=by
 induction p with
 |nil=>exact h2
 |cons a p ih=>
  cases a with
  |fld i o=>exact ih h1
  |idx i s n=>exact ⟨h1.1,ih h1.2⟩
  |elt i s=>exact ⟨h1.1,ih h1.2⟩
theorem load_ok (hT:tiB P τ t=true) {E:Env} (hE:E.tab t=some τ) (H:HR g A W w h) {a:PV} {va:Value} (ha:VRel g A w a va) {x:PV} {h':Hp} (e:(loadQ E t a).Ok h x h'):
  h'=h∧∃v,(Instr.loadAt t va).run P w=.ok v w∧VRel g A w x v:=by
 have hfits:∀{x:PV},fitsI τ x=true→aggP x=τ.agg∧x.size=τ.size:=fun {x} hf=>by
  cases τ with
  |data t'=>exact fits_ok t' x hf
  |other=>cases x<;>first|exact ⟨rfl,rfl⟩|(simp [fitsI,lone] at hf)
 have fin:∀{ad:Addr} {x:PV} {c:List Value},va=.pointer (some ad)→At w ad c→x.rel g A w c→fitsI τ x=true→∃v,(Instr.loadAt t va).run P w=.ok v w∧VRel g A w x v:=fun {ad x c} hva hc hx hf=>by
  obtain ⟨h1,h2⟩:=hfits hf
  refine ⟨_,?_,VRel.of_cells hx⟩
  subst hva
  rw [h1,←run_loadVar_at hT hc (by rw [PV.rel_len x c hx,h2])]
  simp [Instr.loadAt,Instr.sureAddr]
 simp only [loadQ,Ok_bind,Ok_get] at e
 obtain ⟨τ',h1,⟨e1,rfl⟩,y,h2,e2,e3⟩:=e
 rw [hE] at e1;injection e1 with e1;subst e1
 rw [Ok_cond] at e3
 rcases e3 with ⟨hf,e3⟩|⟨_,e3⟩
 ·rw [Ok_ret] at e3
  obtain ⟨rfl,rfl⟩:=e3
  cases a with
  |iptr u z=>
   simp only [ptrQ,Ok_ret] at e2
   obtain ⟨rfl,rfl⟩:=e2
   have hr:=(VRel.cells ha).1
   unfold VRel at ha
   simp only [aggP] at ha
   unfold PV.rel at ha
   obtain ⟨ad,c,e,h1,h2,h3,h4⟩:=ha
   injection e with e
   exact ⟨rfl,fin e h3 (mk_rel u z c h4) hf⟩
  |ptr id p=>
   simp only [ptrQ,Q.Ok] at e2
   obtain ⟨B,hb,e2⟩:=e2
   unfold VRel at ha
   simp only [aggP] at ha
   unfold PV.rel at ha
   obtain ⟨s,b,hg,hs,e,hp⟩:=ha
   injection e with e
   cases B with
   |box x=>
    simp only [rdPath,Ok_get] at e2
    obtain ⟨e2,rfl⟩:=e2
    obtain ⟨s',b',c,ty,hg',hs',hh,hx⟩:=H.blk id _ hb
    rw [hg] at hg';injection hg' with hg';subst hg'
    rw [hs] at hs';injection hs' with hs';subst hs'
    obtain ⟨pre,ys,post,q1,q2,q3⟩:=getP_rel p x _ _ hx hp e2
    refine ⟨rfl,fin e (At_block hh (ys:=ys) (fun j v hj=>?_)) q3 hf⟩
    have hlt:j<ys.length:=(List.getElem?_eq_some_iff.1 hj).1
    have:c.toList[poff p+j]?=some v:=by
     rw [q1,List.append_assoc,List.getElem?_append_right (by omega),List.getElem?_append_left (by omega),←hj]
     congr 1;omega
    simpa using this
   |row u xs fz=>
    cases p with
    |nil=>simp [Q.Ok] at e2
    |cons q p=>
     cases q with
     |elt i sz=>
      simp only [Ok_cond,rdPath,Ok_get,Ok_fail,and_false,or_false] at e2
      obtain ⟨hsz,e2,rfl⟩:=e2
      have hsz:=Nat.eq_of_beq_eq_true hsz
      obtain ⟨s',hg',⟨hlen,hr⟩,_⟩:=H.blk id _ hb
      rw [hg] at hg';injection hg' with hg';subst hg'
      rw [hs] at hr
      obtain ⟨hcap,c,ty,hh,hsize,hcat⟩:=hr
      have hi:i<xs.length:=by rw [←hlen];exact hp.1
      rw [getD_eq xs i _ hi] at e2
      have hn:=Cat.nth (TRel.len u) hcat hi
      obtain ⟨pre,ys,post,q1,q2,q3⟩:=getP_rel p _ _ _ (mk_rel u _ _ hn) hp.2 e2
      refine ⟨rfl,fin e (At_block hh (ys:=ys) (fun j v hj=>?_)) q3 hf⟩
      have hlt:j<ys.length:=(List.getElem?_eq_some_iff.1 hj).1
      have h5:(((c.toList.take (s.len*u.size)).drop (i*u.size)).take u.size)[poff p+j]?=some v:=by
       rw [q1,List.append_assoc,List.getElem?_append_right (by omega),List.getElem?_append_left (by omega),←hj]
       congr 1;omega
      have h6:=sub_getElem h5
      rw [List.getElem?_take] at h6
      split at h6
      ·have h7:c.toList[poff (Stp.elt i sz::p)+j]?=some v:=by
        rw [←h6];congr 1;simp only [poff,Stp.off,hsz];omega
       simpa using h7
      ·cases h6
     |_=>simp [Q.Ok] at e2
  |_=>simp [ptrQ,Q.Ok] at e2
 ·simp [Q.Ok] at e3
theorem seat_ok (H:HR g A W w h) {τ:TI} {y y':PV} {n:Nat} {v:Value} {h':Hp} (hy:VRel g A w y v) (e:(seat τ y n).Ok h y' h'):∃g',Step g A W w g' A w h'∧VRel g' A w y' v∧(∀r,Free g h r→Free g' h' r):=by
 cases y with
 |nils=>
  cases τ with
  |other=>simp [seat,Q.Ok] at e
  |data t=>
   cases t with
   |slice t=>
    simp only [seat,Q.Ok] at e
    obtain ⟨hn,rfl,rfl⟩:=e
    have hu:upd g n ⟨none,0,0⟩ n=some ⟨none,0,0⟩:=by unfold upd;rw [if_pos rfl]
    refine ⟨upd g n ⟨none,0,0⟩,⟨le_upd (H.gnone hn),fun _ h=>h,fun _ h=> .inl h,H.add hn ⟨none,0,0⟩ ⟨_,hu,⟨rfl,rfl,rfl⟩,fun h=>by cases h⟩ (fun _ r hr=>by cases hr),fun _ _=>rfl,.refl W w⟩,?_,fun r hf=>hf.add (H.gnone hn) (fun hr=>by cases hr)⟩
    unfold VRel at*
    simp only [aggP] at*
    unfold PV.rel at*
    injection hy with hy
    exact ⟨_,v,hu,rfl,by unfold SlV;exact ⟨hy,rfl,rfl⟩⟩
   |_=>simp [seat,Q.Ok] at e
 |_=>simp only [seat,Ok_ret] at e;obtain ⟨rfl,rfl⟩:=e;exact ⟨g,Step.refl H,hy,fun r h=>h⟩
theorem fitsI_ok {τ:TI} {x:PV} (hf:fitsI τ x=true):aggP x=τ.agg∧x.size=τ.size:=by
 cases τ with
 |data t'=>exact fits_ok t' x hf
 |other=>cases x<;>first|exact ⟨rfl,rfl⟩|(simp [fitsI,lone] at hf)
theorem fitsI_one {τ:TI} {x:PV} {cs:List Value} (hf:fitsI τ x=true) (hr:x.rel g A w cs):∀v∈cs,v.oneCell'=true:=by
 cases τ with
 |data t'=>exact fits_one t' x cs hf hr
 |other=>
  cases x<;>first|(simp [fitsI,lone] at hf;done)|skip
  ·unfold PV.rel at hr;obtain ⟨s,b,_,_,rfl,_⟩:=hr;simp [Value.oneCell']
  ·unfold PV.rel at hr;obtain ⟨_,rfl,_⟩:=hr;simp [Value.oneCell']
theorem take_pre {cs pre ys post zs:List Value} (h:cs=pre++ys++post) (hl:ys.length=zs.length):cs.take pre.length++zs++cs.drop (pre.length+zs.length)=pre++zs++post:=by
 subst h
 rw [List.append_assoc pre ys post,List.take_left,←List.drop_drop,List.drop_left,←hl,List.drop_left]
theorem splice_take {cs pre ys post zs:List Value} {m k n o:Nat} (h:((cs.take m).drop k).take n=pre++ys++post) (ho:o=pre.length) (hl:ys.length=zs.length) (hm:m≤cs.length) (hk:k+n≤m) (hn:pre.length+ys.length+post.length=n):
  (cs.take m).take k++(pre++zs++post)++(cs.take m).drop (k+n)=(cs.take (k+o)++zs++cs.drop (k+o+zs.length)).toArray.toList.take m:=by
 obtain ⟨u,v,w,x,rfl,hu,hvw,hx⟩:∃u v w x,cs=u++v++w++x∧u.length=k∧v=pre++ys++post∧(u++v++w).length=m:=by
  refine ⟨cs.take k,((cs.take m).drop k).take n,(cs.take m).drop (k+n),cs.drop m,?_,by rw [List.length_take];omega,h,?_⟩
  ·have h1:=cut3 (cs.take m) k n
   rw [List.take_take,Nat.min_eq_left (by omega)] at h1
   rw [←h1,List.take_append_drop]
  ·have h1:=cut3 (cs.take m) k n
   rw [List.take_take,Nat.min_eq_left (by omega)] at h1
   rw [←h1,List.length_take];omega
 subst hvw ho
 have e1:(u++(pre++ys++post)++w++x).take m=u++(pre++ys++post)++w:=by rw [←hx,List.take_left]
 rw [e1]
 have e2:(u++(pre++ys++post)++w).take k=u:=by rw [←hu,List.append_assoc,List.take_left]
 have e3:(u++(pre++ys++post)++w).drop (k+n)=w:=by
  have:k+n=(u++(pre++ys++post)).length:=by simp only [List.length_append];omega
  rw [this,List.drop_left]
 have e4:(u++(pre++ys++post)++w++x).take (k+pre.length)=u++pre:=by
  have:k+pre.length=(u++pre).length:=by simp only [List.length_append];omega
  rw [this]
  have:u++(pre++ys++post)++w++x=(u++pre)++(ys++post++w++x):=by simp [List.append_assoc]
  rw [this,List.take_left]
 have e5:(u++(pre++ys++post)++w++x).drop (k+pre.length+zs.length)=post++w++x:=by
  have:k+pre.length+zs.length=(u++pre++ys).length:=by simp only [List.length_append];omega
  rw [this]
  have:u++(pre++ys++post)++w++x=(u++pre++ys)++(post++w++x):=by simp [List.append_assoc]
  rw [this,List.drop_left]
 rw [e2,e3,e4,e5]
 have e6:m=(u++pre++zs++post++w).length:=by
  rw [←hx];simp only [List.length_append];omega
 have e7:u++pre++zs++(post++w++x)=(u++pre++zs++post++w)++x:=by simp [List.append_assoc]
 simp only []
 rw [e7,e6,List.take_left]
 simp [List.append_assoc]
theorem put_ok (hT:tiB P τ t=true) (H:HR g A W w h) {a y:PV} {va vy:Value} (ha:VRel g A w a va) (hy:VRel g A w y vy) (hf:fitsI τ y=true) {x:PV} {h':Hp} (e:(putQ τ a y).Ok h x h'):
  x=.undef∧∃A' w',(Instr.storeAt t va vy).run P w=.ok () w'∧Step g A W w g A' w' h':=by
 obtain ⟨hf1,hf2⟩:=fitsI_ok hf
 have hyc:=(VRel.cells hy).1
 have hyl:=PV.rel_len y _ hyc
 have hy1:=fitsI_one hf hyc
 cases a with
 |ptr id p=>
  unfold VRel at ha
  simp only [aggP] at ha
  unfold PV.rel at ha
  obtain ⟨s,b,hg,hs,e',hp⟩:=ha
  injection e' with e'
  subst e'
  simp only [putQ,Q.Ok] at e
  obtain ⟨B,hb,e⟩:=e
  cases B with
  |box x0=>
   simp only at e
   split at e
   ·rename_i o z ho hz
    simp only [Ok_cond,Ok_fail,and_false,or_false,Q.Ok] at e
    obtain ⟨hfo,_,rfl,rfl⟩:=e
    obtain ⟨s',b',c,ty,hg',hs',hh,hx⟩:=H.blk id _ hb
    rw [hg] at hg';injection hg' with hg';subst hg'
    rw [hs] at hs';injection hs' with hs';subst hs'
    have hol:=(fitsI_ok hfo).2
    obtain ⟨pre,ys,post,q1,q2,q3,q4⟩:=setP_rel p x0 o y z _ _ hx hp ho hz hyc (by rw [hyl,hf2,hol])
    have hsz:poff p+vy.cells.toList.length≤c.size:=by
     have:c.toList.length=c.size:=by simp
     rw [←this,q1];simp only [List.length_append];omega
    have hrun:=run_storeVar_at (P:=P) hT hh (v:=vy) (off:=poff p) (by rw [hyl,hf2]) hsz hy1
    refine ⟨rfl,A,_,by simp only [Instr.storeAt,Instr.sureAddr,Sem.run_bind,Sem.run_pure,Result.andThen_ok];exact hrun,?_⟩
    rw [←q2,take_pre q1 q3]
    refine Step.set H hb rfl hg hs ⟨s,b,_,ty,hg,hs,setRow_heap w b c _ ty (0,0) hh,?_⟩
    refine PV.rel_mono (Gh.le_refl g) (fun _ h=>h) (fun r hr=>setRow_other w b r _ (fun e=>(H.own id _ s b hb rfl hg hs).1 (e▸hr))) z _ ?_
    simpa using q4
   ·simp [Q.Ok] at e
  |row u xs fz=>
   cases p with
   |nil=>simp [Q.Ok] at e
   |cons q p=>
    cases q with
    |elt i sz=>
     simp only at e
     split at e
     ·rename_i o z ho hz
      simp only [Ok_cond,Ok_fail,and_false,or_false,Bool.and_eq_true,Ok_bind] at e
      obtain ⟨⟨hsz,hfo⟩,el,h2,et,e⟩:=e
      have hsz:=Nat.eq_of_beq_eq_true hsz
      obtain ⟨s',hg',⟨hlen,hr⟩,_⟩:=H.blk id _ hb
      rw [hg] at hg';injection hg' with hg';subst hg'
      rw [hs] at hr
      obtain ⟨hcap,c,ty,hh,hsize,hcat⟩:=hr
      have hi:i<xs.length:=by rw [←hlen];exact hp.1
      rw [getD_eq xs i _ hi] at ho hz
      have hn:=Cat.nth (TRel.len u) hcat hi
      have hol:=(fitsI_ok hfo).2
      obtain ⟨pre,ys,post,q1,q2,q3,q4⟩:=setP_rel p _ o y z _ _ (mk_rel u _ _ hn) hp.2 ho hz hyc (by rw [hyl,hf2,hol])
      obtain ⟨A',F,ht⟩:=typed_own H q4 et
      simp only [Q.Ok] at e
      obtain ⟨B2,hb2,e⟩:=e
      obtain ⟨fz2,hb0⟩:∃fz,h.at id=some (.row u xs fz):=⟨fz,hb⟩
      cases B2 with
      |box x=>simp [Q.Ok] at e
      |row v ys2 fz2=>
       cases fz2 with
       |true=>simp [Q.Ok] at e
       |false=>
        obtain ⟨fz3,hb3⟩:=F.sim id v ys2 false hb2
        rw [hb] at hb3
        injection hb3 with hb3
        injection hb3 with hv hys hfz
        subst hv
        cases hys
        simp only [Ok_bind,Ok_get,Q.Ok] at e
        obtain ⟨ys3,h3,⟨ec,rfl⟩,_,rfl,rfl⟩:=e
        obtain ⟨_,rfl⟩:=cast_some ec
        have hol2:∀r,A' r→r≠b:=fun r hr e=>by subst e;exact (F.hr.own id _ s r hb2 rfl hg hs).1 hr
        have hoff:poff (Stp.elt i sz::p)=i*u.size+poff p:=by simp only [poff,Stp.off,hsz]
        have hlen':i*u.size+u.size≤s.len*u.size:=by
         rw [←Nat.succ_mul];exact Nat.mul_le_mul_right _ hp.1
        have hcapl:s.len*u.size≤c.size:=Nat.le_trans (Nat.mul_le_mul_right _ hcap) hsize
        have hcl:c.toList.length=c.size:=by simp
        have hnl:((c.toList.take (s.len*u.size)).drop (i*u.size)).take u.size=pre++ys++post:=q1
        have hnlen:(pre++ys++post).length=u.size:=by
         rw [←hnl,List.length_take,List.length_drop,List.length_take];omega
        have hplen:pre.length+ys.length+post.length=u.size:=by simpa [List.length_append,Nat.add_assoc] using hnlen
        have hrun:=run_storeVar_at (P:=P) hT hh (v:=vy) (off:=i*u.size+poff p) (by rw [hyl,hf2]) (by omega) hy1
        refine ⟨rfl,A',_,by simp only [Instr.storeAt,Instr.sureAddr,Sem.run_bind,Sem.run_pure,Result.andThen_ok,hoff];exact hrun,?_⟩
        refine F.step.trans (Step.set F.hr hb2 rfl hg hs ⟨s,hg,⟨by rw [List.length_set];exact hlen,?_⟩,fun h=>by cases h⟩)
        rw [hs]
        refine ⟨hcap,_,ty,setRow_heap w b c _ ty (0,0) hh,?_,?_⟩
        ·simp only [List.size_toArray,List.length_append,List.length_take,List.length_drop,hcl];omega
        ·have hset:=Cat.set (TRel.len u) (hcat.mono (TRel.mono F.le (fun _ _=>rfl) u)) hi ht
         have hset':=hset.mono (TRel.mono (A':=A') (w':=w.setRow b (c.toList.take (i*u.size+poff p)++vy.cells.toList++c.toList.drop (i*u.size+poff p+vy.cells.toList.length)).toArray) (fun _ h=>h) (fun r hr=>setRow_other w b r _ (hol2 r hr)) u)
         have heq:(c.toList.take (s.len*u.size)).take (i*u.size)++(pre++vy.cells.toList++post)++(c.toList.take (s.len*u.size)).drop (i*u.size+u.size)=
           ((c.toList.take (i*u.size+poff p)++vy.cells.toList++c.toList.drop (i*u.size+poff p+vy.cells.toList.length)).toArray.toList).take (s.len*u.size):=by
          apply splice_take (ys:=ys) (n:=u.size) hnl q2.symm q3 (by rw [hcl];omega) hlen' (by omega)
         rw [←heq];exact hset'
     ·simp [Q.Ok] at e
    |_=>simp [Q.Ok] at e
 |_=>simp [putQ,Q.Ok] at e
end
end Go.Proofs.YtkihjakbbcajbaaGreat.PM
namespace Go.Proofs.YtkihjakbbcajbaaGreat.PM
set_option linter.unusedSimpArgs false
set_option linter.unusedVariables false
open Go
section
variable {P:Program} {E:Env} {t:TypeId} {g:Gh} {A W:Nat→Prop} {w:World} {h:Hp}
theorem store_ok {τ:TI} (hT:tiB P τ t=true) (hE:E.tab t=some τ) (H:HR g A W w h) {a y:PV} {va vy:Value} (ha:VRel g A w a va) (hy:VRel g A w y vy) {x:PV} {nw:Nat} {h':Hp} (e:(storeQ E t a y nw).Ok h x h'):
  x=.undef∧∃g' A' w',(Instr.storeAt t va vy).run P w=.ok () w'∧Step g A W w g' A' w' h':=by
 simp only [storeQ,Ok_bind,Ok_get] at e
 obtain ⟨τ',h1,⟨e1,rfl⟩,y',h2,e2,e3⟩:=e
 rw [hE] at e1;injection e1 with e1;subst e1
 rw [Ok_cond] at e3
 rcases e3 with ⟨hf,e3⟩|⟨_,e3⟩
 ·obtain ⟨g',S1,hy',_⟩:=seat_ok H hy e2
  obtain ⟨r1,A',w',r2,S2⟩:=put_ok hT S1.hr (ha.mono S1.le (fun _ h=>h) (fun _ _=>rfl)) hy' hf e3
  exact ⟨r1,g',A',w',r2,S1.trans S2⟩
 ·simp [Q.Ok] at e3
theorem data_out {τ:Ty} {h':Hp} (e:(E.data t).Ok h τ h'):E.tab t=some (.data τ)∧h'=h:=by
 unfold Env.data at e
 split at e
 ·rename_i τ' he;rw [Ok_ret] at e;exact ⟨by rw [he,e.1],e.2⟩
 ·simp [Q.Ok] at e
theorem elem_out {u:Ty} {h':Hp} (e:(E.elem t).Ok h u h'):E.tab t=some (.data (.slice u))∧h'=h:=by
 unfold Env.elem at e
 split at e
 ·rename_i τ' he;rw [Ok_ret] at e;exact ⟨by rw [he,e.1],e.2⟩
 ·simp [Q.Ok] at e
theorem fld_out:∀(τ:Ty) (fs:List Field) (o i:Nat) (u:Ty) (k:Nat),fldB P τ fs o=true→fldTy τ i=some u→fldOff τ i=some k→∃f,fs[i]?=some f∧f.offset=o+k∧tyB P u f.type=true
 |.pair a b,fs,o,0,u,k,h,e,e'=>by
  cases fs with
  |nil=>simp [fldB_pair1,fldB_pair0,fldB_unit1,fldB_unit0,fldB_int,fldB_bool,fldB_str,fldB_arr,fldB_slice] at h
  |cons f fs=>
   simp only [fldB_pair1,fldB_pair0,fldB_unit1,fldB_unit0,fldB_int,fldB_bool,fldB_str,fldB_arr,fldB_slice,Bool.and_eq_true] at h
   simp only [fldTy,Option.some.injEq] at e
   simp only [fldOff,Option.some.injEq] at e'
   subst e e'
   exact ⟨f,rfl,Nat.eq_of_beq_eq_true h.1,h.2.1⟩
 |.pair a b,fs,o,i+1,u,k,h,e,e'=>by
  cases fs with
  |nil=>simp [fldB_pair1,fldB_pair0,fldB_unit1,fldB_unit0,fldB_int,fldB_bool,fldB_str,fldB_arr,fldB_slice] at h
  |cons f fs=>
   simp only [fldB_pair1,fldB_pair0,fldB_unit1,fldB_unit0,fldB_int,fldB_bool,fldB_str,fldB_arr,fldB_slice,Bool.and_eq_true] at h
   simp only [fldTy] at e
   simp only [fldOff,Option.map_eq_some_iff] at e'
   obtain ⟨k',e1,e2⟩:=e'
   obtain ⟨f',h1,h2,h3⟩:=fld_out b fs (o+a.size) i u k' h.2.2 e e1
   exact ⟨f',by simpa using h1,by omega,h3⟩
 |.int _,_,_,_,_,_,_,e,_=>by simp [fldTy] at e
 |.bool,_,_,_,_,_,_,e,_=>by simp [fldTy] at e
 |.str,_,_,_,_,_,_,e,_=>by simp [fldTy] at e
 |.unit,_,_,_,_,_,_,e,_=>by simp [fldTy] at e
 |.arr _ _,_,_,_,_,_,_,e,_=>by simp [fldTy] at e
 |.slice _,_,_,_,_,_,_,e,_=>by simp [fldTy] at e
theorem struct_out {τ:Ty} {i:Nat} {u:Ty} {k:Nat} (h:tyB P τ t=true) (e:fldTy τ i=some u) (e':fldOff τ i=some k):∃fs f,P.underlying t=some (.struct fs)∧fs[i]?=some f∧f.offset=k∧tyB P u f.type=true:=by
 cases τ with
 |pair a b=>
  simp only [tyB_int,tyB_bool,tyB_str,tyB_unit,tyB_pair,tyB_arr,tyB_slice,Bool.and_eq_true] at h
  obtain ⟨_,h⟩:=h
  split at h
  ·rename_i fs hu
   obtain ⟨f,h1,h2,h3⟩:=fld_out _ _ 0 i u k h e e'
   exact ⟨fs,f,hu,by simpa using h1,by omega,h3⟩
  ·cases h
 |_=>simp [fldTy] at e
theorem fldGet_rel:∀(τ:Ty) (y:τ.den) (i:Nat) (z:(u:Ty) × u.den) (k:Nat) (u:Ty) (c:List Value),fldGet τ y i=some z→fldOff τ i=some k→fldTy τ i=some u→TRel A w τ c y→z.1=u∧∃pre ys post,c=pre++ys++post∧pre.length=k∧TRel A w z.1 ys z.2
 |.pair a b,y,0,z,k,u,c,e,e',e'',⟨c1,d,hc,h1,h2⟩=>by
  simp only [fldGet,Option.some.injEq] at e
  simp only [fldOff,Option.some.injEq] at e'
  simp only [fldTy,Option.some.injEq] at e''
  subst e e' e''
  exact ⟨rfl,[],c1,d,by simpa using hc,rfl,h1⟩
 |.pair a b,y,i+1,z,k,u,c,e,e',e'',⟨c1,d,hc,h1,h2⟩=>by
  simp only [fldGet] at e
  simp only [fldTy] at e''
  simp only [fldOff,Option.map_eq_some_iff] at e'
  obtain ⟨k',e1,e2⟩:=e'
  obtain ⟨hz,pre,ys,post,q1,q2,q3⟩:=fldGet_rel b y.2 i z k' u d e e1 e'' h2
  exact ⟨hz,c1++pre,ys,post,by rw [hc,q1];simp [List.append_assoc],by rw [List.length_append,TRel.len a c1 y.1 h1];omega,q3⟩
 |.int _,_,_,_,_,_,_,e,_,_,_=>by simp [fldGet] at e
 |.bool,_,_,_,_,_,_,e,_,_,_=>by simp [fldGet] at e
 |.str,_,_,_,_,_,_,e,_,_,_=>by simp [fldGet] at e
 |.unit,_,_,_,_,_,_,e,_,_,_=>by simp [fldGet] at e
 |.arr _ _,_,_,_,_,_,_,e,_,_,_=>by simp [fldGet] at e
 |.slice _,_,_,_,_,_,_,e,_,_,_=>by simp [fldGet] at e
theorem add_add (a:Addr) (m n:Nat):(a.add m).add n=a.add (m+n):=by
 unfold Addr.add
 by_cases hm:m=0<;>by_cases hn:n=0<;>simp_all [Nat.add_assoc]
theorem At_sub {a:Addr} {c pre ys post:List Value} {k:Nat} (h:At w a c) (e:c=pre++ys++post) (hk:pre.length=k):At w (a.add k) ys:=fun j v hj=>by
 have hlt:j<ys.length:=(List.getElem?_eq_some_iff.1 hj).1
 subst hk
 rw [add_add]
 exact h _ v (by rw [e,List.append_assoc,List.getElem?_append_right (by omega),List.getElem?_append_left (by omega),←hj];congr 1;omega)
theorem add_block (a:Addr) (n:Nat):(a.add n).block=a.block:=by unfold Addr.add;split<;>rfl
theorem add_spot (a:Addr) (n:Nat) (h:a.spot=none):(a.add n).spot=none:=by unfold Addr.add;split<;>simp_all
theorem add_at (b o n:Nat):(Addr.add ⟨b,o,none⟩ n)=⟨b,o+n,none⟩:=by unfold Addr.add;split<;>simp_all
theorem rel_ptr {id:Nat} {p:List Stp} {v:Value} (h:VRel g A w (.ptr id p) v):∃s b,g id=some s∧s.blk=some b∧v=.pointer (some ⟨b,poff p,none⟩)∧pok s.len p:=by
 unfold VRel at h
 simp only [aggP] at h
 unfold PV.rel at h
 obtain ⟨s,b,h1,h2,h3,h4⟩:=h
 injection h3 with h3
 exact ⟨s,b,h1,h2,h3,h4⟩
theorem rel_iptr {u:Ty} {y:u.den} {v:Value} (h:VRel g A w (.iptr u y) v):∃a c,v=.pointer (some a)∧a.spot=none∧A a.block∧At w a c∧TRel A w u c y:=by
 unfold VRel at h
 simp only [aggP] at h
 unfold PV.rel at h
 obtain ⟨a,c,h1,h2⟩:=h
 injection h1 with h1
 exact ⟨a,c,h1,h2⟩
theorem mk_ptr {id:Nat} {p:List Stp} {s:Slot} {b:Nat} (h1:g id=some s) (h2:s.blk=some b) (h3:pok s.len p):VRel g A w (.ptr id p) (.pointer (some ⟨b,poff p,none⟩)):=by
 unfold VRel;simp only [aggP];unfold PV.rel;exact ⟨s,b,h1,h2,rfl,h3⟩
theorem mk_iptr {u:Ty} {y:u.den} {a:Addr} {c:List Value} (h1:a.spot=none) (h2:A a.block) (h3:At w a c) (h4:TRel A w u c y):VRel g A w (.iptr u y) (.pointer (some a)):=by
 unfold VRel;simp only [aggP];unfold PV.rel;exact ⟨a,c,rfl,h1,h2,h3,h4⟩
theorem fieldAddr_ok (hT:tabB P E.tl=true) {x y:PV} {v:Value} {i:Nat} {h':Hp} (hx:VRel g A w x v) (e:(fieldAddrQ E t x i).Ok h y h'):h'=h∧∃u,(Instr.fieldAt t v i).run P w=.ok u w∧VRel g A w y u:=by
 simp only [fieldAddrQ,Ok_bind] at e
 obtain ⟨τ,h1,e1,e⟩:=e
 obtain ⟨hE,rfl⟩:=data_out e1
 have hty:tyB P τ t=true:=tabB_look hT hE
 split at e
 ·rename_i u o hu ho
  obtain ⟨fs,f,hund,hf,hoff,hft⟩:=struct_out hty hu ho
  simp only [Ok_cond,Ok_fail,and_false,or_false] at e
  obtain ⟨hsz,e⟩:=e
  have hsz:=Nat.le_of_ble_eq_true hsz
  have run:∀a:Addr,(Instr.fieldAt t (.pointer (some a)) i).run P w=.ok (.pointer (some (a.add o))) w:=fun a=>by
   have:¬u.size=0:=by omega
   simp [Instr.fieldAt,Instr.sureAddr,run_underlying hund,hf,fieldPlace,run_sizeT w hft,this,hoff]
  cases x with
  |ptr id p=>
   rw [Ok_ret] at e
   obtain ⟨rfl,rfl⟩:=e
   obtain ⟨s,b,r1,r2,rfl,r4⟩:=rel_ptr hx
   refine ⟨rfl,_,run _,?_⟩
   rw [add_at]
   have:=mk_ptr (A:=A) (w:=w) r1 r2 (pok_append p [.fld i o] r4 trivial)
   rw [poff_append] at this
   simpa [poff,Stp.off] using this
  |iptr v' y'=>
   simp only [Ok_bind,Ok_get] at e
   obtain ⟨y2,h2,⟨ec,rfl⟩,e⟩:=e
   obtain ⟨rfl,rfl⟩:=cast_some ec
   split at e
   ·rename_i z hz
    rw [Ok_ret] at e
    obtain ⟨rfl,rfl⟩:=e
    obtain ⟨a,c,rfl,r2,r3,r4,r5⟩:=rel_iptr hx
    obtain ⟨_,pre,ys,post,q1,q2,q3⟩:=fldGet_rel _ _ i z o u c hz ho hu r5
    refine ⟨rfl,_,run _,?_⟩
    exact mk_iptr (add_spot a _ r2) (by rw [add_block];exact r3) (At_sub r4 q1 q2) q3
   ·simp [Q.Ok] at e
  |_=>simp [Q.Ok] at e
 ·simp [Q.Ok] at e
theorem intOf_out {x:PV} {n:Int} {v:Value} {h':Hp} (hx:VRel g A w x v) (e:(intOf x).Ok h n h'):h'=h∧∃k,v=.int k n:=by
 unfold intOf at e
 split at e
 ·rename_i k m
  rw [Ok_ret] at e
  obtain ⟨rfl,rfl⟩:=e
  unfold VRel at hx;simp only [aggP,Ty.agg] at hx;unfold PV.rel at hx
  injection hx with hx
  exact ⟨rfl,k,hx⟩
 ·simp [Q.Ok] at e
theorem slice_und {u:Ty} (h:tyB P (.slice u) t=true):∃e,P.underlying t=some (.slice e)∧tyB P u e=true:=by
 simp only [tyB_int,tyB_bool,tyB_str,tyB_unit,tyB_pair,tyB_arr,tyB_slice,Bool.and_eq_true] at h
 obtain ⟨_,h⟩:=h
 split at h
 ·rename_i e hu;exact ⟨e,hu,h⟩
 ·cases h
theorem arr_und {n:Nat} {u:Ty} (h:tyB P (.arr n u) t=true):∃e,P.underlying t=some (.array n e)∧tyB P u e=true:=by
 simp only [tyB_int,tyB_bool,tyB_str,tyB_unit,tyB_pair,tyB_arr,tyB_slice,Bool.and_eq_true] at h
 obtain ⟨_,h⟩:=h
 split at h
 ·rename_i m e hu
  rw [Bool.and_eq_true] at h
  have:=Nat.eq_of_beq_eq_true h.1;subst this
  exact ⟨e,hu,h.2⟩
 ·cases h
theorem run_idx_slice {u:Ty} (hty:tyB P (.slice u) t=true) {a:Addr} {len cap:Nat} {k:IntKind} {i:Int} (hi:0≤i∧i<len):(Instr.indexAt t (.slice (some a) len cap) (.int k i)).run P w=.ok (.pointer (some (a.add (i.toNat*u.size)))) w:=by
 obtain ⟨e,hu,he⟩:=slice_und hty
 simp [Instr.indexAt,asIntOf,run_underlying hu,hi,run_sizeT w he]
theorem run_idx_arr {n:Nat} {u:Ty} (hty:tyB P (.arr n u) t=true) {a:Addr} {k:IntKind} {i:Int} (hi:0≤i∧i<n):(Instr.indexAt t (.pointer (some a)) (.int k i)).run P w=.ok (.pointer (some (a.add (i.toNat*u.size)))) w:=by
 obtain ⟨e,hu,he⟩:=arr_und hty
 simp [Instr.indexAt,asIntOf,run_underlying hu,Instr.sureAddr,hi,run_sizeT w he]
theorem single_of {x:PV} {v:Value} (ha:aggP x=false) (h:VRel g A w x v):x.rel g A w [v]:=by
 unfold VRel at h;rw [ha] at h;exact h
theorem sliceElt_ok (H:HR g A W w h) {u:Ty} (hty:tyB P (.slice u) t=true) {x y:PV} {v:Value} {k:IntKind} {i:Int} {h':Hp} (hx:VRel g A w x v) (e:(sliceElt u x i).Ok h y h'):h'=h∧∃z,(Instr.indexAt t v (.int k i)).run P w=.ok z w∧VRel g A w y z:=by
 cases x with
 |sl id=>
  simp only [sliceElt,Q.Ok] at e
  obtain ⟨B,hb,e⟩:=e
  cases B with
  |box x=>simp [Q.Ok] at e
  |row v' xs fz=>
   simp only [Ok_cond,Ok_fail,and_false,or_false,Ok_ask,Ok_ret,decide_eq_true_eq] at e
   obtain ⟨rfl,hi,rfl,rfl⟩:=e
   have hr:=single_of rfl hx
   unfold PV.rel at hr
   obtain ⟨s,v0,hg,e0,hv⟩:=hr
   injection e0 with e0;subst e0
   obtain ⟨s',hg',⟨hlen,hrow⟩,_⟩:=H.blk id _ hb
   rw [hg] at hg';injection hg' with hg';subst hg'
   unfold SlV at hv
   cases hs:s.blk with
   |none=>rw [hs] at hrow;omega
   |some b=>
    rw [hs] at hv
    subst hv
    refine ⟨rfl,_,run_idx_slice hty (by rw [hlen];exact hi),?_⟩
    rw [add_at]
    have hlt:i.toNat<s.len:=by omega
    have:=mk_ptr (A:=A) (w:=w) hg hs (show pok s.len [Stp.elt i.toNat u.size] from ⟨hlt,trivial⟩)
    simpa [poff,Stp.off] using this
 |sv id p off len sz n=>
  simp only [sliceElt,Ok_cond,Ok_fail,and_false,or_false,Ok_ask,Ok_ret,decide_eq_true_eq] at e
  obtain ⟨hsz,hi,e⟩:=e
  have hsz:=Nat.eq_of_beq_eq_true hsz
  subst hsz
  have hr:=single_of rfl hx
  unfold PV.rel at hr
  obtain ⟨s,v0,hg,e0,hpk,hle,hnp,hnb,a,cap,hv,hcap,hz,ha⟩:=hr
  injection e0 with e0;subst e0
  subst hv
  have ha:=ha (.inl (by omega))
  cases hs:s.blk with
  |none=>
   obtain ⟨h1,h2,h3⟩:=hnb hs
   subst h3
   rw [if_pos rfl] at hle
   omega
  |some b=>
   rw [hs] at ha
   simp only [Option.map_some] at ha
   subst ha
   rcases e with ⟨hn,rfl,rfl⟩|⟨hn,rfl,rfl⟩
   ·have hn:=Nat.eq_of_beq_eq_true hn
    subst hn
    have:=hnp rfl
    subst this
    rw [if_pos rfl] at hle
    refine ⟨rfl,_,run_idx_slice hty hi,?_⟩
    rw [add_at]
    have hlt:off+i.toNat<s.len:=by omega
    have:=mk_ptr (A:=A) (w:=w) hg hs (show pok s.len [Stp.elt (off+i.toNat) u.size] from ⟨hlt,trivial⟩)
    simpa [poff,Stp.off,Nat.add_mul] using this
   ·have hn0:n≠0:=by rintro rfl;simp at hn
    rw [if_neg hn0] at hle
    refine ⟨rfl,_,run_idx_slice hty hi,?_⟩
    rw [add_at]
    have hlt:off+i.toNat<n:=by omega
    have:=mk_ptr (A:=A) (w:=w) (p:=p++[.idx (off+i.toNat) u.size n]) hg hs (pok_append p [.idx (off+i.toNat) u.size n] hpk ⟨hlt,trivial⟩)
    rw [poff_append] at this
    simpa [poff,Stp.off,Nat.add_mul,Nat.add_assoc] using this
 |v v' xs=>
  simp only [sliceElt,Ok_bind,Ok_get,Ok_ask,Ok_ret,decide_eq_true_eq] at e
  obtain ⟨xs',h1,⟨ec,rfl⟩,hi,rfl,rfl⟩:=e
  obtain ⟨rfl,_⟩:=cast_some ec
  obtain rfl:=cast_self ec
  have hr:=single_of rfl hx
  unfold PV.rel at hr
  obtain ⟨a,cap,e0,hcap,hc⟩:=hr
  injection e0 with e0
  subst e0
  have hlt:i.toNat<List.length (α:=u.den) xs:=by omega
  obtain ⟨ad,rfl,r1,r2,c,r3,r4⟩:=hc (by omega)
  refine ⟨rfl,_,run_idx_slice hty hi,?_⟩
  have hn:=Cat.nth (TRel.len u) r4 hlt
  have h3:=cut3 c (i.toNat*u.size) u.size
  have hl:(c.take (i.toNat*u.size)).length=i.toNat*u.size:=by
   rw [List.length_take,Cat.len (TRel.len u) r4]
   exact Nat.min_eq_left (Nat.mul_le_mul_right _ (by omega))
  have:=mk_iptr (g:=g) (add_spot ad (i.toNat*u.size) r1) (by rw [add_block];exact r2) (At_sub r3 h3 hl) hn
  rw [←getD_eq (α:=u.den) xs i.toNat u.zero hlt] at this
  exact this
 |_=>simp [sliceElt,Q.Ok] at e
theorem arrElt_ok {n:Nat} {u:Ty} (hty:tyB P (.arr n u) t=true) {x y:PV} {v:Value} {k:IntKind} {i:Int} {h':Hp} (hx:VRel g A w x v) (e:(arrElt n u x i).Ok h y h'):h'=h∧∃z,(Instr.indexAt t v (.int k i)).run P w=.ok z w∧VRel g A w y z:=by
 cases x with
 |ptr id p=>
  simp only [arrElt,Ok_ask,Ok_ret,decide_eq_true_eq] at e
  obtain ⟨hi,rfl,rfl⟩:=e
  obtain ⟨s,b,r1,r2,rfl,r4⟩:=rel_ptr hx
  refine ⟨rfl,_,run_idx_arr hty hi,?_⟩
  rw [add_at]
  have hlt:i.toNat<n:=by omega
  have:=mk_ptr (A:=A) (w:=w) r1 r2 (pok_append p [.idx i.toNat u.size n] r4 ⟨hlt,trivial⟩)
  rw [poff_append] at this
  simpa [poff,Stp.off] using this
 |iptr v' xs=>
  simp only [arrElt,Ok_bind,Ok_get,Ok_ask,Ok_ret,decide_eq_true_eq] at e
  obtain ⟨xs',h1,⟨ec,rfl⟩,hi,rfl,rfl⟩:=e
  obtain ⟨rfl,_⟩:=cast_some ec
  obtain rfl:=cast_self ec
  obtain ⟨a,c,rfl,r2,r3,r4,hl,r5⟩:=rel_iptr hx
  refine ⟨rfl,_,run_idx_arr hty hi,?_⟩
  have hlt:i.toNat<List.length (α:=u.den) xs:=by rw [hl];omega
  have hn:=Cat.nth (TRel.len u) r5 hlt
  have h3:=cut3 c (i.toNat*u.size) u.size
  have hl':(c.take (i.toNat*u.size)).length=i.toNat*u.size:=by
   rw [List.length_take,Cat.len (TRel.len u) r5]
   exact Nat.min_eq_left (Nat.mul_le_mul_right _ (by omega))
  have:=mk_iptr (g:=g) (add_spot a (i.toNat*u.size) r2) (by rw [add_block];exact r3) (At_sub r4 h3 hl') hn
  rw [←getD_eq (α:=u.den) xs i.toNat u.zero hlt] at this
  exact this
 |_=>simp [arrElt,Q.Ok] at e
theorem indexAddr_ok (hT:tabB P E.tl=true) (H:HR g A W w h) {x i y:PV} {v vi:Value} {h':Hp} (hx:VRel g A w x v) (hi:VRel g A w i vi) (e:(indexAddrQ E t x i).Ok h y h'):h'=h∧∃z,(Instr.indexAt t v vi).run P w=.ok z w∧VRel g A w y z:=by
 simp only [indexAddrQ,Ok_bind] at e
 obtain ⟨τ,h1,e1,n,h2,e2,e⟩:=e
 obtain ⟨hE,rfl⟩:=data_out e1
 obtain ⟨rfl,k,rfl⟩:=intOf_out hi e2
 have hty:tyB P τ t=true:=tabB_look hT hE
 cases τ with
 |slice u=>exact sliceElt_ok H hty hx e
 |arr n u=>exact arrElt_ok hty hx e
 |_=>simp [Q.Ok] at e
theorem sub_arr {n:Nat} {u:Ty} {cs:List Value} {xs:(Ty.arr n u).den} (h:TRel A w (.arr n u) cs xs) {i:Nat} (hi:i<n):TRel A w u ((cs.drop (i*u.size)).take u.size) (List.getD (α:=u.den) xs i u.zero):=by
 obtain ⟨hl,r⟩:=h
 have hlt:i<List.length (α:=u.den) xs:=by rw [hl];exact hi
 rw [getD_eq (α:=u.den) xs i u.zero hlt]
 exact Cat.nth (TRel.len u) r hlt
theorem index_ok (hT:tabB P E.tl=true) {x i y:PV} {v vi:Value} {h':Hp} (hx:VRel g A w x v) (hi:VRel g A w i vi) (e:(indexQ E t x i).Ok h y h'):h'=h∧∃z,(Instr.index t v vi).run P w=.ok z w∧VRel g A w y z:=by
 simp only [indexQ,Ok_bind] at e
 obtain ⟨τ,h1,e1,n,h2,e2,e⟩:=e
 obtain ⟨hE,rfl⟩:=data_out e1
 obtain ⟨rfl,k,rfl⟩:=intOf_out hi e2
 have hty:tyB P τ t=true:=tabB_look hT hE
 cases τ with
 |arr m u=>
  cases x with
  |v v' xs=>
   simp only [Ok_bind,Ok_get,Ok_ask,Ok_ret,decide_eq_true_eq] at e
   obtain ⟨xs',h3,⟨ec,rfl⟩,hi',rfl,rfl⟩:=e
   obtain ⟨rfl,_⟩:=cast_some ec
   obtain rfl:=cast_self ec
   obtain ⟨e0,hu,he⟩:=arr_und hty
   obtain ⟨cs,rfl,hr⟩:∃cs,v=.agg cs∧TRel A w (.arr m u) cs.toList xs:=by
    unfold VRel at hx;simp only [aggP,Ty.agg] at hx;unfold PV.rel at hx;exact hx
   have hlt:n.toNat<m:=by omega
   have hs:=sub_arr hr hlt
   have hlen:=TRel.len u _ _ hs
   refine ⟨rfl,ofCells u.agg ((cs.toList.drop (n.toNat*u.size)).take u.size),?_,?_⟩
   ·cases ha:u.agg with
    |true=>
     have h5:(Instr.index t (.agg cs) (.int k n)).run P w=.ok (.agg (cs.extract (n.toNat*u.size) (n.toNat*u.size+u.size))) w:=by
      simp [Instr.index,asIntOf,run_underlying hu,hi',run_sizeT w he,part,run_isAgg w he,ha]
     rw [h5]
     unfold ofCells
     have hext:cs.extract (n.toNat*u.size) (n.toNat*u.size+u.size)=((cs.toList.drop (n.toNat*u.size)).take u.size).toArray:=by
      apply Array.toList_inj.1
      rw [Array.toList_extract,List.extract_eq_take_drop]
      simp
     rw [hext];rfl
    |false=>
     have h1:u.size=1:=by cases u<;>simp_all [Ty.agg,Ty.size]
     rw [h1] at hlen ⊢
     have hin:n.toNat<cs.size:=by
      rw [List.length_take,List.length_drop] at hlen
      simp only [Nat.mul_one,Array.length_toList] at hlen;omega
     have h5:(Instr.index t (.agg cs) (.int k n)).run P w=.ok cs[n.toNat] w:=by
      simp [Instr.index,asIntOf,run_underlying hu,hi',run_sizeT w he,part,run_isAgg w he,ha,h1,hin]
     rw [h5]
     unfold ofCells
     have h6:(cs.toList.drop (n.toNat*1)).take 1=[cs[n.toNat]]:=by
      rw [Nat.mul_one,List.drop_eq_getElem_cons (by simpa using hin)];simp
     rw [h6];rfl
   ·have:=VRel.of_cells (g:=g) (A:=A) (w:=w) (mk_rel u _ _ hs)
    rw [isAgg_mk] at this
    exact this
  |_=>simp [Q.Ok] at e
 |_=>simp [Q.Ok] at e
theorem v_int {k:IntKind} {n:Int} {v:Value} (h:VRel g A w (.v (.int k) n) v):v=.int k n:=by
 unfold VRel at h;simp only [aggP,Ty.agg] at h;unfold PV.rel at h;injection h
theorem v_bool {b:Bool} {v:Value} (h:VRel g A w (.v .bool b) v):v=.bool b:=by
 unfold VRel at h;simp only [aggP,Ty.agg] at h;unfold PV.rel at h;injection h
theorem of_int (k:IntKind) (n:Int):VRel g A w (.v (.int k) n) (.int k n):=by
 unfold VRel;simp only [aggP,Ty.agg];unfold PV.rel;rfl
theorem of_bool (b:Bool):VRel g A w (.v .bool b) (.bool b):=by
 unfold VRel;simp only [aggP,Ty.agg];unfold PV.rel;rfl
theorem binI_ok {op:BinOp} {k:IntKind} {a b:Int} {y:PV} {h':Hp} (h1:op≠ .shl) (h2:op≠ .shr) (e:(binI op k a b).Ok h y h'):h'=h∧∃z,(binOp op t (.int k a) (.int k b)).run P w=.ok z w∧VRel g A w y z:=by
 cases op with
 |shl=>exact absurd rfl h1
 |shr=>exact absurd rfl h2
 |quo=>
  simp only [binI,Ok_ask,Ok_ret,decide_eq_true_eq] at e
  obtain ⟨hb,rfl,rfl⟩:=e
  exact ⟨rfl,_,by simp [binOp,Op.intDiv,hb],of_int k _⟩
 |rem=>
  simp only [binI,Ok_ask,Ok_ret,decide_eq_true_eq] at e
  obtain ⟨hb,rfl,rfl⟩:=e
  exact ⟨rfl,_,by simp [binOp,Op.intDiv,hb],of_int k _⟩
 |add=>simp only [binI,Ok_ret] at e;obtain ⟨rfl,rfl⟩:=e;exact ⟨rfl,_,by simp [binOp,Op.intArith],of_int k _⟩
 |sub=>simp only [binI,Ok_ret] at e;obtain ⟨rfl,rfl⟩:=e;exact ⟨rfl,_,by simp [binOp,Op.intArith],of_int k _⟩
 |mul=>simp only [binI,Ok_ret] at e;obtain ⟨rfl,rfl⟩:=e;exact ⟨rfl,_,by simp [binOp,Op.intArith],of_int k _⟩
 |eql=>simp only [binI,Ok_ret] at e;obtain ⟨rfl,rfl⟩:=e;exact ⟨rfl,_,by simp [binOp,Op.intCmp],of_bool _⟩
 |neq=>simp only [binI,Ok_ret] at e;obtain ⟨rfl,rfl⟩:=e;exact ⟨rfl,_,by simp [binOp,Op.intCmp],of_bool _⟩
 |lss=>simp only [binI,Ok_ret] at e;obtain ⟨rfl,rfl⟩:=e;exact ⟨rfl,_,by simp [binOp,Op.intCmp],of_bool _⟩
 |leq=>simp only [binI,Ok_ret] at e;obtain ⟨rfl,rfl⟩:=e;exact ⟨rfl,_,by simp [binOp,Op.intCmp],of_bool _⟩
 |gtr=>simp only [binI,Ok_ret] at e;obtain ⟨rfl,rfl⟩:=e;exact ⟨rfl,_,by simp [binOp,Op.intCmp],of_bool _⟩
 |geq=>simp only [binI,Ok_ret] at e;obtain ⟨rfl,rfl⟩:=e;exact ⟨rfl,_,by simp [binOp,Op.intCmp],of_bool _⟩
 |and=>simp only [binI,Ok_ret] at e;obtain ⟨rfl,rfl⟩:=e;exact ⟨rfl,.int k (bits _ k a b),by simp [binOp];rfl,of_int k _⟩
 |or=>simp only [binI,Ok_ret] at e;obtain ⟨rfl,rfl⟩:=e;exact ⟨rfl,.int k (bits _ k a b),by simp [binOp];rfl,of_int k _⟩
 |xor=>simp only [binI,Ok_ret] at e;obtain ⟨rfl,rfl⟩:=e;exact ⟨rfl,.int k (bits _ k a b),by simp [binOp];rfl,of_int k _⟩
 |andNot=>simp only [binI,Ok_ret] at e;obtain ⟨rfl,rfl⟩:=e;exact ⟨rfl,.int k (bits _ k a b),by simp [binOp];rfl,of_int k _⟩
theorem guard_int (op:BinOp) (t:TypeId) (x y:Operand) (k l:IntKind) (a b:Int):(eqGuard op t x y (.int k a) (.int l b)).run P w=.ok () w:=by
 unfold eqGuard;cases op<;>simp
theorem un_ok {op:UnOp} {x y:PV} {v:Value} {h':Hp} (hx:VRel g A w x v) (e:(unQ op x).Ok h y h'):h'=h∧∃z,(Op.unary op v).run P w=.ok z w∧VRel g A w y z:=by
 unfold unQ at e
 split at e
 ·rw [Ok_ret] at e;obtain ⟨rfl,rfl⟩:=e
  rw [v_int hx];exact ⟨rfl,_,by simp [Op.unary,Op.intArith],of_int _ _⟩
 ·rw [Ok_ret] at e;obtain ⟨rfl,rfl⟩:=e
  rw [v_int hx];exact ⟨rfl,.int _ (bits .xor _ _ _),by simp [Op.unary];rfl,of_int _ _⟩
 ·rw [Ok_ret] at e;obtain ⟨rfl,rfl⟩:=e
  rw [v_bool hx];exact ⟨rfl,_,by simp [Op.unary],of_bool _⟩
 ·simp [Q.Ok] at e
def Shown (A:Nat→Prop) (w:World) (u:Ty) (v:Value) (ys:List u.den):Prop:=
 ∃a cap,v=.slice a ys.length cap∧ys.length≤cap∧(0<ys.length→∃ad:Addr,a=some ad∧ad.spot=none∧∃c,At w ad c∧Cat (TRel A w u) c ys)
theorem At_take {a:Addr} {c:List Value} (h:At w a c) (k n:Nat):At w (a.add k) ((c.drop k).take n):=fun j v hj=>by
 rw [add_add];exact h _ v (sub_getElem hj)
theorem dec_shown (H:HR g A W w h) {u:Ty} {x:PV} {v:Value} {ys:List u.den} {h':Hp} (hx:VRel g A w x v) (e:(dec (.slice u) x).Ok h ys h'):h'=h∧Shown A w u v ys:=by
 have hag:∀{x:PV},(dec (.slice u) x).Ok h ys h'→aggP x=false:=fun {x} e=>by
  cases x with
  |v t z=>
   simp only [dec,Ok_get] at e
   obtain ⟨rfl,_⟩:=cast_some e.1
   rfl
  |agg xs=>simp [dec,Q.Ok] at e
  |_=>rfl
 have hr:=single_of (hag e) hx
 refine ⟨dec_same _ _ _ _ _ e,?_⟩
 cases x with
 |v t z=>
  simp only [dec,Ok_get] at e
  obtain ⟨rfl,_⟩:=cast_some e.1
  obtain rfl:=cast_self e.1
  unfold PV.rel at hr
  obtain ⟨a,cap,e0,hcap,hc⟩:=hr
  injection e0 with e0
  exact ⟨a,cap,e0,hcap,fun hl=>by obtain ⟨ad,h1,h2,_,c,h3,h4⟩:=hc hl;exact ⟨ad,h1,h2,c,h3,h4⟩⟩
 |nils=>
  simp only [dec,Ok_ret] at e
  obtain ⟨rfl,_⟩:=e
  unfold PV.rel at hr
  injection hr with hr
  exact ⟨none,0,hr,Nat.le_refl _,fun hl=>absurd hl (Nat.lt_irrefl 0)⟩
 |sl id=>
  simp only [dec,Q.Ok] at e
  obtain ⟨B,hb,e⟩:=e
  cases B with
  |box x=>simp [Q.Ok] at e
  |row t xs fz=>
   simp only [Ok_get] at e
   obtain ⟨ec,_⟩:=cast_some e.1
   injection ec with ec
   subst ec
   obtain rfl:=cast_self e.1
   unfold PV.rel at hr
   obtain ⟨s,v0,hg,e0,hv⟩:=hr
   injection e0 with e0;subst e0
   obtain ⟨s',hg',⟨hlen,hrow⟩,_⟩:=H.blk id _ hb
   rw [hg] at hg';injection hg' with hg';subst hg'
   unfold SlV at hv
   cases hs:s.blk with
   |none=>
    rw [hs] at hrow hv
    exact ⟨none,0,by rw [hv.1,←hlen,hv.2.1],by omega,fun hl=>by omega⟩
   |some b=>
    rw [hs] at hrow hv
    subst hv
    obtain ⟨h3,c,e,h4,h5,h6⟩:=hrow
    refine ⟨_,s.cap,by rw [hlen],by omega,fun _=>⟨_,rfl,rfl,_,At_block h4 (ys:=c.toList.take (s.len*t.size)) (fun j v hj=>?_),h6⟩⟩
    rw [List.getElem?_take] at hj
    split at hj
    ·simpa using hj
    ·cases hj
 |sv id p off len sz n=>
  simp only [dec,Q.Ok] at e
  obtain ⟨B,hb,e⟩:=e
  unfold PV.rel at hr
  obtain ⟨s,v0,hg,e0,hpk,hle,hnp,hnb,a,cap,hv,hcap,hz,ha⟩:=hr
  injection e0 with e0;subst e0
  subst hv
  cases B with
  |row t xs fz=>
   simp only [Ok_bind,Ok_get] at e
   obtain ⟨zs,h1,⟨ec0,rfl⟩,e'⟩:=e
   obtain ⟨ec,_⟩:=cast_some ec0
   injection ec with ec
   subst ec
   obtain rfl:=cast_self ec0
   cases p with
   |cons q p=>simp [Q.Ok] at e'
   |nil=>
    simp only [Ok_cond,Ok_ret,Ok_fail,and_false,or_false,Bool.and_eq_true] at e'
    obtain ⟨⟨e1,e2⟩,rfl,_⟩:=e'
    have e1:=Nat.eq_of_beq_eq_true e1
    have e2:=Nat.eq_of_beq_eq_true e2
    subst e1 e2
    rw [if_pos rfl] at hle
    obtain ⟨s',hg',⟨hlen,hrow⟩,_⟩:=H.blk id _ hb
    rw [hg] at hg';injection hg' with hg';subst hg'
    have hll:((xs.drop off).take len).length=len:=by rw [List.length_take,List.length_drop];omega
    refine ⟨a,cap,by rw [hll],by rw [hll];exact hcap,fun hl=>?_⟩
    rw [hll] at hl
    have ha':=ha (.inl hl)
    cases hs:s.blk with
    |none=>rw [hs] at hrow;omega
    |some b=>
     rw [hs] at hrow ha'
     obtain ⟨h3,c,e,h4,h5,h6⟩:=hrow
     refine ⟨_,ha',rfl,_,At_block h4 (ys:=((c.toList.take (s.len*t.size)).drop (off*t.size)).take (len*t.size)) (fun j v hj=>?_),arr_take h6 off len (by omega)⟩
     have hj':=sub_getElem hj
     rw [List.getElem?_take] at hj'
     split at hj'
     ·simpa [poff] using hj'
     ·cases hj'
  |box x=>
   simp only at e
   split at e
   ·rename_i m t xs hp
    simp only [Ok_cond,Ok_bind,Ok_get,Ok_ret,Ok_fail,and_false,or_false,Bool.and_eq_true] at e
    obtain ⟨⟨⟨e1,e2⟩,e3⟩,zs,h1,⟨ec0,rfl⟩,rfl,_⟩:=e
    obtain ⟨ec,_⟩:=cast_some ec0
    injection ec with ec
    subst ec
    obtain rfl:=cast_self ec0
    have e1:=Nat.eq_of_beq_eq_true e1
    have e2:=Nat.eq_of_beq_eq_true e2
    subst e1 e2
    have hm:m≠0:=by rintro rfl;simp at e3
    rw [if_neg hm] at hle
    obtain ⟨s',b,c,ty,hg',hs,hh,hx'⟩:=H.blk id _ hb
    rw [hg] at hg';injection hg' with hg';subst hg'
    obtain ⟨pre,zs,post,q1,q2,q3⟩:=getP_rel p x _ _ hx' hpk hp
    unfold PV.rel at q3
    obtain ⟨hl0,hcat⟩:=q3
    have hll:((List.drop (α:=t.den) off xs).take len).length=len:=by rw [List.length_take,List.length_drop];omega
    refine ⟨a,cap,by rw [hll],by rw [hll];exact hcap,fun hl=>?_⟩
    rw [hll] at hl
    have ha':=ha (.inl hl)
    rw [hs] at ha'
    refine ⟨_,ha',rfl,_,At_block hh (ys:=(zs.drop (off*t.size)).take (len*t.size)) (fun j v hj=>?_),arr_take hcat off len (by omega)⟩
    have hj':=sub_getElem hj
    have hlt:off*t.size+j<zs.length:=(List.getElem?_eq_some_iff.1 hj').1
    have:c.toList[poff p+off*t.size+j]?=some v:=by
     rw [q1,List.append_assoc,List.getElem?_append_right (by omega),List.getElem?_append_left (by omega),←hj']
     congr 1;omega
    simpa using this
   ·simp [Q.Ok] at e
 |_=>simp [dec,Q.Ok] at e
end
end Go.Proofs.YtkihjakbbcajbaaGreat.PM
