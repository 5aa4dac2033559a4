/- Parts of the proof, joined: PM22, PM23, PM24, PM25, PM26, PM27, PMlib, Ty, Prim. -/
import Derived.Test.YtkihjakbbcajbaaGreatPM21
import Derived.Shelf.RegionOpenPlain
import Derived.WalkKit
import Derived.Lib.Walk
import Derived.Lib.SliceRun
import Derived.Laws.Externs
import Derived.Lib.BytesEntry
import Derived.Lib.Overlaps
import Derived.KernelRfl
import Derived.Test.YtkihjakbbcajbaaGreatProg
namespace Go.Proofs.YtkihjakbbcajbaaGreat.PM
set_option linter.unusedSimpArgs false
set_option linter.unusedVariables false
open Go
def SlR:List PK→List Value→List Slot→Prop
 |[],_,ss=>ss=[]
 |.io _ _::r,vs,ss=>∃v us s tt,vs=v::us∧ss=s::tt∧(∃b,s.blk=some b∧v=.pointer (some ⟨b,0,none⟩))∧SlR r us tt
 |.mu _::r,vs,ss=>∃v us s tt,vs=v::us∧ss=s::tt∧SlV s v∧SlR r us tt
 |.val _::r,vs,ss=>SlR r vs.tail ss
 |.fn _::r,vs,ss=>SlR r vs.tail ss
 |.eat _::r,vs,ss=>SlR r vs.tail ss
 |.clo f _::r,vs,ss=>∃v us s tt,vs=.func (.func f) #[] #[v]::us∧ss=s::tt∧(∃b,s.blk=some b∧v=.pointer (some ⟨b,0,none⟩))∧SlR r us tt
section
variable {A W:Nat→Prop} {w:World}
theorem VRel_of {g:Gh} {x:PV} {v:Value} {t:Ty} (h1:aggP x=t.agg) (h2:isAggV v=t.agg) (r:x.rel g A w v.cells.toList):VRel g A w x v:=by
 have h3:=VRel.of_cells r
 have h4:ofCells (aggP x) v.cells.toList=v:=by
  rw [h1,←h2]
  cases hx:isAggV v with
  |true=>cases v<;>simp_all [isAggV,ofCells,Value.cells]
  |false=>rw [isAggV_cells hx];rfl
 rw [h4] at h3;exact h3
theorem start_ok (ps:List PK):∀(g:Gh) (h:Hp) (vs:List Value) (x:(argTy ps).den) (bs:List Nat) (i n:Nat) (q:List (Nat × PV) × List PV × Nat) (h':Hp),HR g A W w h→ArgsRel A w ps vs x bs→bs.Nodup→(∀r,r∈bs→¬A r∧W r∧Free g h r)→(start ps x i n).Ok h q h'→
  ∃g' ss,g.le g'∧HR g' A W w h'∧(∀t y,look t q.1=some y→∃j v,t=i+j∧vs[j]?=some v∧VRel g' A w y v)∧IoR g' q.2.1 ss∧SlR ps vs ss:=by
 induction ps with
 |nil=>
  intro g h vs x bs i n q h' H ha hn hb e
  simp only [start,Ok_ret] at e
  obtain ⟨rfl,rfl⟩:=e
  exact ⟨g,[],Gh.le_refl g,H,fun t y hh=>(nomatch (show (none:Option PV)=some y from hh)),trivial,rfl⟩
 |cons k ps ih=>
  intro g h vs x bs i n q h' H ha hn hb e
  have move:∀{g2 g':Gh} {z:PV} {v:Value} {us:List Value} {tm:List (Nat × PV)},g2.le g'→VRel g2 A w z v→(∀t y,look t tm=some y→∃j u,t=i+1+j∧us[j]?=some u∧VRel g' A w y u)→
    ∀t y,look t ((i,z)::tm)=some y→∃j u,t=i+j∧(v::us)[j]?=some u∧VRel g' A w y u:=fun {g2 g' z v us tm} hl hz hr t y hy=>by
   rw [look_cons] at hy
   split at hy
   ·rename_i e;injection hy with hy;subst hy e
    exact ⟨0,v,rfl,rfl,hz.mono hl (fun _ h=>h) (fun _ _=>rfl)⟩
   ·obtain ⟨j,u,h1,h2,h3⟩:=hr t y hy
    exact ⟨j+1,u,by omega,by simpa using h2,h3⟩
  cases k with
  |val t=>
   simp only [start,Ok_bind,Ok_ret] at e
   obtain ⟨q1,h1,e1,rfl,rfl⟩:=e
   obtain ⟨v,us,rfl,⟨hv1,hv2⟩,ha⟩:=ha
   obtain ⟨g',ss,l,H',r1,r2,r3⟩:=ih g h us x.2 bs (i+1) n q1 h' H ha hn hb e1
   have hz:VRel g A w (mk t x.1) v:=VRel_of (isAgg_mk t x.1) hv1 (mk_rel t x.1 _ hv2.1)
   exact ⟨g',ss,l,H',move l hz r1,r2,r3⟩
  |fn f=>
   simp only [start,Ok_bind,Ok_ret] at e
   obtain ⟨q1,h1,e1,rfl,rfl⟩:=e
   obtain ⟨v,us,rfl,hv,ha⟩:=ha
   obtain ⟨g',ss,l,H',r1,r2,r3⟩:=ih g h us x bs (i+1) n q1 h' H ha hn hb e1
   have hz:VRel g A w (.fn f []) v:=by
    unfold VRel;simp only [aggP];unfold PV.rel;exact ⟨#[],by rw [hv],rfl⟩
   exact ⟨g',ss,l,H',move l hz r1,r2,r3⟩
  |mu t=>
   simp only [start,Q.Ok,Ok_bind,Ok_ret] at e
   obtain ⟨e0,q1,h1,e1,rfl,rfl⟩:=e
   obtain ⟨v,us,b1,b2,rfl,rfl,⟨s,s1,s2,rfl⟩,ha⟩:=ha
   rw [List.nodup_append] at hn
   have hu:upd g n s n=some s:=upd_self g n s
   have H1:=H.add e0 s (b:=.row t x.1 false) ⟨s,hu,s2,fun h=>by cases h⟩ (fun _ r hr=>hb r (by rw [hr];simp))
   have hl:=le_upd (s:=s) (H.gnone e0)
   obtain ⟨g',ss,l,H',r1,r2,r3⟩:=ih (upd g n s) _ us x.2 b2 (i+1) (n+1) q1 h' H1 ha hn.2.1 (fun r hr=>⟨(hb r (by simp [hr])).1,(hb r (by simp [hr])).2.1,(hb r (by simp [hr])).2.2.add (H.gnone e0) (fun h=>hn.2.2 r (by rw [h];simp) r hr rfl)⟩) e1
   exact ⟨g',s::ss,Gh.le_trans hl l,H',move l (of_sl hu s1) r1,⟨⟨n,.inr rfl,l _ _ hu⟩,r2⟩,⟨v,us,s,ss,rfl,rfl,s1,r3⟩⟩
  |eat t=>
   simp only [start,Q.Ok,Ok_bind,Ok_ret] at e
   obtain ⟨e0,q1,h1,e1,rfl,rfl⟩:=e
   obtain ⟨v,us,b1,b2,rfl,rfl,⟨s,s1,s2,rfl⟩,ha⟩:=ha
   rw [List.nodup_append] at hn
   have hu:upd g n s n=some s:=upd_self g n s
   have H1:=H.add e0 s (b:=.row t x.1 false) ⟨s,hu,s2,fun h=>by cases h⟩ (fun _ r hr=>hb r (by rw [hr];simp))
   have hl:=le_upd (s:=s) (H.gnone e0)
   obtain ⟨g',ss,l,H',r1,r2,r3⟩:=ih (upd g n s) _ us x.2 b2 (i+1) (n+1) q1 h' H1 ha hn.2.1 (fun r hr=>⟨(hb r (by simp [hr])).1,(hb r (by simp [hr])).2.1,(hb r (by simp [hr])).2.2.add (H.gnone e0) (fun h=>hn.2.2 r (by rw [h];simp) r hr rfl)⟩) e1
   exact ⟨g',ss,Gh.le_trans hl l,H',move l (of_sl hu s1) r1,r2,r3⟩
  |clo f t=>
   simp only [start,Q.Ok,Ok_bind,Ok_ret] at e
   obtain ⟨e0,q1,h1,e1,rfl,rfl⟩:=e
   obtain ⟨v,us,b1,b2,rfl,rfl,⟨b,c,ty,pp,rfl,q2,rfl,q4⟩,ha⟩:=ha
   rw [List.nodup_append] at hn
   have hu:upd g n ⟨some b,0,0⟩ n=some ⟨some b,0,0⟩:=upd_self g n _
   have hl:=le_upd (s:=⟨some b,0,0⟩) (H.gnone e0)
   have hbb:=hb b (by simp)
   have H1:=H.add e0 ⟨some b,0,0⟩ (b:=.box (mk t x.1)) ⟨_,b,c,ty,hu,rfl,q2,PV.rel_mono hl (fun _ h=>h) (fun _ _=>rfl) _ _ (mk_rel t x.1 _ q4.1)⟩ (fun _ r hr=>by
    injection hr with hr;subst hr
    exact hbb)
   obtain ⟨g',ss,l,H',r1,r2,r3⟩:=ih (upd g n ⟨some b,0,0⟩) _ us x.2 b2 (i+1) (n+1) q1 h' H1 ha hn.2.1 (fun r hr=>⟨(hb r (by simp [hr])).1,(hb r (by simp [hr])).2.1,(hb r (by simp [hr])).2.2.add (H.gnone e0) (fun h=>hn.2.2 r (by injection h with h;simp [h]) r hr rfl)⟩) e1
   have hz:VRel (upd g n ⟨some b,0,0⟩) A w (.fn f [.ptr n []]) (.func (.func f) #[] #[.pointer (some ⟨b,0,none⟩)]):=by
    unfold VRel;simp only [aggP];unfold PV.rel
    refine ⟨#[.pointer (some ⟨b,0,none⟩)],rfl,?_⟩
    unfold rels
    refine ⟨[.pointer (some ⟨b,0,none⟩)],[],rfl,?_,rfl⟩
    have:=mk_ptr (A:=A) (w:=w) (p:=[]) hu rfl trivial
    unfold VRel at this;simp only [aggP] at this;exact this
   exact ⟨g',⟨some b,0,0⟩::ss,Gh.le_trans hl l,H',move l hz r1,⟨⟨n,.inl rfl,l _ _ hu⟩,r2⟩,⟨_,us,_,ss,rfl,rfl,⟨b,rfl,rfl⟩,r3⟩⟩
  |io t own=>
   simp only [start,Ok_bind,Q.Ok,Ok_ret] at e
   obtain ⟨p,h1,e1,e0,q1,h2,e2,rfl,rfl⟩:=e
   obtain ⟨v,us,b1,b2,rfl,rfl,⟨b,c,ty,pp,rfl,q2,rfl,q4⟩,ha⟩:=ha
   rw [List.nodup_append] at hn
   obtain ⟨hn1,hn2,hn3⟩:=hn
   rw [List.nodup_cons] at hn1
   obtain ⟨g1,l1,H1,p1,f1,_⟩:=impO_ok H q4 hn1.2 (fun r hr=>hb r (by simp [hr])) (show (impO t own x.1 (n+1)).Ok h p h1 by unfold impO;exact e1)
   have hu:upd g1 n ⟨some b,0,0⟩ n=some ⟨some b,0,0⟩:=upd_self g1 n _
   have hl:=le_upd (s:=⟨some b,0,0⟩) (H1.gnone e0)
   have hbb:=hb b (by simp)
   have H2:=H1.add e0 ⟨some b,0,0⟩ (b:=.box p.1) ⟨_,b,c,ty,hu,rfl,q2,PV.rel_mono hl (fun _ h=>h) (fun _ _=>rfl) _ _ p1⟩ (fun _ r hr=>by
    injection hr with hr;subst hr
    exact ⟨hbb.1,hbb.2.1,f1 b hbb.2.2 hn1.1⟩)
   obtain ⟨g',ss,l,H',r1,r2,r3⟩:=ih (upd g1 n ⟨some b,0,0⟩) _ us x.2 b2 (i+1) p.2 q1 h' H2 ha hn2 (fun r hr=>⟨(hb r (by simp [hr])).1,(hb r (by simp [hr])).2.1,(f1 r (hb r (by simp [hr])).2.2 (fun h=>hn3 r (by simp [h]) r hr rfl)).add (H1.gnone e0) (fun h=>hn3 r (by injection h with h;simp [h]) r hr rfl)⟩) e2
   exact ⟨g',⟨some b,0,0⟩::ss,Gh.le_trans l1 (Gh.le_trans hl l),H',move l (mk_ptr (p:=[]) hu rfl trivial) r1,⟨⟨n,.inl rfl,l _ _ hu⟩,r2⟩,⟨_,us,_,ss,rfl,rfl,⟨b,rfl,rfl⟩,r3⟩⟩
end
end Go.Proofs.YtkihjakbbcajbaaGreat.PM
namespace Go.Proofs.YtkihjakbbcajbaaGreat.PM
set_option linter.unusedSimpArgs false
set_option linter.unusedVariables false
open Go
structure Gv (g:Gh) (A W:Nat→Prop) (w:World) (h:Hp) (A':Nat→Prop) (h':Hp) (bs:List Nat):Prop where
 le:∀r,A r→A' r
 in':∀r,A' r→A r∨W r
 hr:HR g A' W w h'
 nd:bs.Nodup
 own:∀r,r∈bs→Free g h' r∧¬Free g h r∧¬A' r
 free:∀r,Free g h r→Free g h' r∧(A' r→A r)
section
variable {g:Gh} {A A1 A2 W:Nat→Prop} {w:World} {h h1 h2:Hp} {b1 b2:List Nat}
theorem Gv.refl (H:HR g A W w h):Gv g A W w h A h []:=⟨fun _ h=>h,fun _ h=> .inl h,H,List.nodup_nil,fun r h=>by simp at h,fun _ h=>⟨h,fun h=>h⟩⟩
theorem Gv.trans (a:Gv g A W w h A1 h1 b1) (b:Gv g A1 W w h1 A2 h2 b2):Gv g A W w h A2 h2 (b1++b2):=by
 refine ⟨fun r hr=>b.le r (a.le r hr),fun r hr=>(b.in' r hr).elim (a.in' r) .inr,b.hr,?_,fun r hr=>?_,fun r hf=>⟨(b.free r (a.free r hf).1).1,fun hr=>(a.free r hf).2 ((b.free r (a.free r hf).1).2 hr)⟩⟩
 ·rw [List.nodup_append]
  exact ⟨a.nd,b.nd,fun x hx y hy e=>(b.own y hy).2.1 (e▸(a.own x hx).1)⟩
 ·rcases List.mem_append.1 hr with hr|hr
  ·obtain ⟨q1,q2,q3⟩:=a.own r hr
   exact ⟨(b.free r q1).1,q2,fun h=>q3 ((b.free r q1).2 h)⟩
  ·obtain ⟨q1,q2,q3⟩:=b.own r hr
   exact ⟨q1,fun h=>q2 (a.free r h).1,q3⟩
def Given (A:Nat→Prop) (w:World) (t:Ty) (own:Bool) (cs:List Value) (y:t.den) (bs:List Nat):Prop:=match own with
 |true=>OwnT A w t cs y bs
 |false=>TRel A w t cs y∧bs=[]
theorem give_ok {t:Ty} {own:Bool} {x:PV} {cs:List Value} {y:t.den} {h':Hp} (H:HR g A W w h) (hx:x.rel g A w cs) (e:(give t own x).Ok h y h'):∃A' bs,Gv g A W w h A' h' bs∧Given A' w t own cs y bs:=by
 unfold give at e
 rw [Ok_cond] at e
 rcases e with ⟨rfl,e⟩|⟨rfl,e⟩
 ·simp only [Ok_bind,Ok_ret] at e
  obtain ⟨z,h1,e1,u,h2,e2,rfl,rfl⟩:=e
  have:=dec_same t x _ h h1 e1
  subst this
  obtain ⟨bs,q1,q2,q3,q4,q5,_⟩:=eat_own t x _ h1 h1 cs u h' H hx (fun _ _ h=>h) e1 H e2
  exact ⟨A,bs,⟨fun _ h=>h,fun _ h=> .inl h,q3,q2,fun r hr=>⟨(q4 r hr).1,(q4 r hr).2,(owned_out H (q4 r hr).2).1⟩,fun r hf=>⟨q5 r hf,fun h=>h⟩⟩,q1⟩
 ·obtain ⟨A',F,q⟩:=typed_own H hx e
  exact ⟨A',[],⟨F.le,F.in',F.hr,List.nodup_nil,fun r h=>by simp at h,F.free⟩,q,rfl⟩
theorem give_dec {t:Ty} {own:Bool} {x:PV} {y:t.den} {h':Hp} (e:(give t own x).Ok h y h'):∃z,(dec t x).Ok h z h:=by
 unfold give at e
 rw [Ok_cond] at e
 rcases e with ⟨rfl,e⟩|⟨rfl,e⟩
 ·simp only [Ok_bind] at e
  obtain ⟨z,h1,e1,_⟩:=e
  have:=dec_same t x _ h h1 e1
  subst this
  exact ⟨z,e1⟩
 ·simp only [typed,Ok_bind] at e
  obtain ⟨z,h1,e1,_⟩:=e
  have:=dec_same t x _ h h1 e1
  subst this
  exact ⟨z,e1⟩
theorem Given.mono {A':Nat→Prop} (hA:∀r,A r→A' r) {t:Ty} {own:Bool} {cs:List Value} {y:t.den} {bs:List Nat} (hg:Given A w t own cs y bs):Given A' w t own cs y bs:=by
 cases own with
 |true=>exact OwnT.mono hA (fun _ _=>rfl) t cs y bs (fun _ _=>rfl) hg
 |false=>exact ⟨TRel.mono hA (fun _ _=>rfl) t cs y hg.1,hg.2⟩
def resOk (P:Program):List (Ty × Bool)→List ResultVar→Bool
 |[],[]=>true
 |_::rs,.tmp _::r=>resOk P rs r
 |(t,_)::rs,.cell _ ty::r=>tyB P t ty && resOk P rs r
 |_,_=>false
def resAt (P:Program) (w:World) (tmps:Array Value):ResultVar→Value→Prop
 |.tmp t,v=>v=tmps.getD t undef
 |.cell t ty,v=>∃ad,tmps.getD t undef=.pointer (some ad)∧(∃c e z,w.heap[ad.block]?=some (.cells c e z))∧∀w'':World,w''.heap[ad.block]?=w.heap[ad.block]?→(loadVar ty ad).run P w''=.ok v w''
def resAll (P:Program) (w:World) (tmps:Array Value):List ResultVar→List Value→Prop
 |[],[]=>True
 |r::rs,v::vs=>resAt P w tmps r v∧resAll P w tmps rs vs
 |_,_=>False
theorem gives_ok {P:Program} {a:Act} {st:St} (htm:∀t x,look t st.tm=some x→VRel g A w x (a.tmps.getD t undef)):∀(rs:List (Ty × Bool)) (vs:List ResultVar) (A1:Nat→Prop) (h:Hp) (y:(resTy rs).den) (h':Hp),(∀r,A r→A1 r)→HR g A1 W w h→resOk P rs vs=true→(gives st rs vs).Ok h y h'→
  ∃A' bs zs,Gv g A1 W w h A' h' bs∧ResRel A' w rs zs y bs∧resAll P w a.tmps vs zs
 |[],[],A1,h,y,h',hA,H,_,e=>by
  simp only [gives,Ok_ret] at e
  obtain ⟨rfl,rfl⟩:=e
  exact ⟨A1,[],[],.refl H,⟨rfl,rfl⟩,trivial⟩
 |(t,own)::rs,.tmp u::vs,A1,h,y,h',hA,H,hr,e=>by
  simp only [gives,resV,Ok_bind,Ok_get,Ok_ret] at e
  obtain ⟨x,h1,⟨e1,rfl⟩,z,h2,e2,q,h3,e3,rfl,rfl⟩:=e
  have hx:=(htm u x e1).mono (Gh.le_refl g) hA (fun _ _=>rfl)
  obtain ⟨c1,c2⟩:=VRel.cells hx
  obtain ⟨A2,b1,G1,g1⟩:=give_ok H c1 e2
  obtain ⟨A3,b2,zs,G2,g2,g3⟩:=gives_ok htm rs vs A2 h2 q h' (fun r hr=>G1.le r (hA r hr)) G1.hr hr e3
  obtain ⟨z0,hz0⟩:=give_dec e2
  exact ⟨A3,b1++b2,_::zs,G1.trans G2,⟨_,_,b1,b2,rfl,rfl,⟨by rw [c2,dec_agg _ _ _ _ _ hz0],g1.mono G2.le⟩,g2⟩,rfl,g3⟩
 |(t,own)::rs,.cell u ty::vs,A1,h,y,h',hA,H,hr,e=>by
  simp only [resOk,Bool.and_eq_true] at hr
  simp only [gives,Ok_bind,Ok_ret] at e
  obtain ⟨x,h1,e1,z,h2,e2,q,h3,e3,rfl,rfl⟩:=e
  simp only [resV] at e1
  split at e1
  ·rename_i id hid
   simp only [Q.Ok] at e1
   obtain ⟨B,hB,e1⟩:=e1
   cases B with
   |row _ _ _=>exact e1.elim
   |box x'=>
    obtain ⟨rfl,rfl⟩:=e1
    obtain ⟨s,b,hg,hs,hv,_⟩:=rel_ptr (htm u _ hid)
    obtain ⟨s',b',c,et,hg',hs',hh,hx⟩:=H.blk id _ hB
    rw [hg] at hg';injection hg' with hg';subst hg'
    rw [hs] at hs';injection hs' with hs';subst hs'
    obtain ⟨z0,hz0⟩:=give_dec e2
    have hag:=dec_agg _ _ _ _ _ hz0
    have hlen:c.toList.length=t.size:=TRel.len t _ _ (dec_rel H t x z0 _ _ hx hz0).2
    have hat:At w ⟨b,0,none⟩ c.toList:=At_block hh (o:=0) (fun j v hj=>by simpa using hj)
    have hV:=VRel.of_cells hx
    rw [hag] at hV
    obtain ⟨c1,c2⟩:=VRel.cells hV
    obtain ⟨A2,b1,G1,g1⟩:=give_ok H c1 e2
    obtain ⟨A3,b2,zs,G2,g2,g3⟩:=gives_ok htm rs vs A2 h2 q h' (fun r hr=>G1.le r (hA r hr)) G1.hr hr.2 e3
    exact ⟨A3,b1++b2,_::zs,G1.trans G2,⟨_,_,b1,b2,rfl,rfl,⟨by rw [c2,hag],g1.mono G2.le⟩,g2⟩,⟨_,hv,⟨_,_,_,hh⟩,fun w'' hw=>run_loadVar_at (P:=P) (t:=ty) (τ:=.data t) hr.1 (At.mono (a:=⟨b,0,none⟩) hw hat) hlen⟩,g3⟩
  ·exact e1.elim
 |[],_::_,_,_,_,_,_,_,_,e=>by simp [gives,Q.Ok] at e
 |_::_,[],_,_,_,_,_,_,_,e=>by simp [gives,Q.Ok] at e
end
end Go.Proofs.YtkihjakbbcajbaaGreat.PM
namespace Go.Proofs.YtkihjakbbcajbaaGreat.PM
set_option linter.unusedSimpArgs false
set_option linter.unusedVariables false
open Go
section
variable {g:Gh} {A A1 W:Nat→Prop} {w:World} {h:Hp}
theorem Gv.tomb (H:HR g A W w h) {id:Nat} {B:Blk} {s:Slot} (hb:h.at id=some B) (hl:B.live=true) (hg:g id=some s):Gv g A W w h A ((id,none)::h) s.blk.toList:=by
 refine ⟨fun _ h=>h,fun _ h=> .inl h,H.del id,?_,fun r hr=>?_,fun r hf=>⟨hf.del,fun h=>h⟩⟩
 ·cases s.blk<;>simp
 ·have hs:s.blk=some r:=by
   cases hh:s.blk with
   |none=>rw [hh] at hr;simp at hr
   |some b=>rw [hh] at hr;simp at hr;rw [hr]
  refine ⟨fun i c s' hi hc hgi hsi=>?_,fun hf=>hf id B s hb hl hg hs,(H.own id B s r hb hl hg hs).1⟩
  rw [at_cons] at hi
  split at hi
  ·cases hi
  ·rename_i hne
   exact hne (H.inj i id c B s' s r hi hb hc hl hgi hg hsi hs)
theorem outs_ok {P:Program} {a:Act} {st:St} (htm:∀t x,look t st.tm=some x→VRel g A w x (a.tmps.getD t undef)) {rs:List (Ty × Bool)} {vs:List ResultVar} (hres:resOk P rs vs=true) (ps:List PK):∀(l:List PV) (args:List Value) (ss:List Slot) (A1:Nat→Prop) (h:Hp) (y:(outTy ps rs).den) (h':Hp),(∀r,A r→A1 r)→HR g A1 W w h→IoR g l ss→SlR ps args ss→(outs st rs vs ps l).Ok h y h'→
  ∃A' bs zs,Gv g A1 W w h A' h' bs∧OutRel A' w ps rs args zs y bs∧resAll P w a.tmps vs zs:=by
 induction ps with
 |nil=>
  intro l args ss A1 h y h' hA H _ _ e
  exact gives_ok htm rs vs A1 h y h' hA H hres (e)
 |cons k ps ih=>
  intro l args ss A1 h y h' hA H hio hsl e
  cases k with
  |val t=>
   have e:(outs st rs vs ps l).Ok h y h':=e
   exact ih l args.tail ss A1 h y h' hA H hio hsl e
  |fn f=>
   have e:(outs st rs vs ps l).Ok h y h':=e
   exact ih l args.tail ss A1 h y h' hA H hio hsl e
  |eat t=>
   have e:(outs st rs vs ps l).Ok h y h':=e
   exact ih l args.tail ss A1 h y h' hA H hio hsl e
  |io t own=>
   obtain ⟨v,us,s,tt,rfl,rfl,⟨b,hs,rfl⟩,hsl⟩:=hsl
   cases l with
   |nil=>exact hio.elim
   |cons x l=>
    obtain ⟨⟨id,hx,hg⟩,hio⟩:=hio
    simp only [outs] at e
    obtain ⟨z,h1,e1,e⟩:=(Ok_bind _ _ _ _ _).1 e
    obtain ⟨q,h2,e2,e⟩:=(Ok_bind _ _ _ _ _).1 e
    obtain ⟨rfl,rfl⟩:=e
    unfold outBox at e1
    rcases hx with rfl|rfl
    ·simp only [Q.Ok] at e1
     obtain ⟨B,hB,e1⟩:=e1
     cases B with
     |row _ _ _=>exact e1.elim
     |box x=>
      simp only [Q.Ok] at e1
      obtain ⟨_,e1⟩:=e1
      obtain ⟨s',b',c,et,hg',hs',hh,hxr⟩:=H.blk id _ hB
      rw [hg] at hg';injection hg' with hg';subst hg'
      rw [hs] at hs';injection hs' with hs';subst hs'
      have T:=Gv.tomb H hB rfl hg
      obtain ⟨A2,p,G2,gv⟩:=give_ok T.hr hxr e1
      obtain ⟨A3,bs,zs,G3,o1,o2⟩:=ih l us tt A2 h1 q h' (fun r hr=>G2.le r (hA r hr)) G2.hr hio hsl e2
      exact ⟨A3,_,zs,(T.trans G2).trans G3,⟨_,us,s.blk.toList++p,bs,rfl,rfl,⟨b,c,et,p,rfl,hh,by rw [hs];rfl,gv.mono G3.le⟩,o1⟩,o2⟩
    ·exact e1.elim
  |clo f t=>
   obtain ⟨v,us,s,tt,rfl,rfl,⟨b,hs,rfl⟩,hsl⟩:=hsl
   cases l with
   |nil=>exact hio.elim
   |cons x l=>
    obtain ⟨⟨id,hx,hg⟩,hio⟩:=hio
    simp only [outs] at e
    obtain ⟨z,h1,e1,e⟩:=(Ok_bind _ _ _ _ _).1 e
    obtain ⟨q,h2,e2,e⟩:=(Ok_bind _ _ _ _ _).1 e
    obtain ⟨rfl,rfl⟩:=e
    unfold outBox at e1
    rcases hx with rfl|rfl
    ·simp only [Q.Ok] at e1
     obtain ⟨B,hB,e1⟩:=e1
     cases B with
     |row _ _ _=>exact e1.elim
     |box x=>
      simp only [Q.Ok] at e1
      obtain ⟨_,e1⟩:=e1
      obtain ⟨s',b',c,et,hg',hs',hh,hxr⟩:=H.blk id _ hB
      rw [hg] at hg';injection hg' with hg';subst hg'
      rw [hs] at hs';injection hs' with hs';subst hs'
      have T:=Gv.tomb H hB rfl hg
      obtain ⟨A2,p,G2,gv⟩:=give_ok T.hr hxr e1
      obtain ⟨A3,bs,zs,G3,o1,o2⟩:=ih l us tt A2 h1 q h' (fun r hr=>G2.le r (hA r hr)) G2.hr hio hsl e2
      exact ⟨A3,_,zs,(T.trans G2).trans G3,⟨_,us,s.blk.toList++p,bs,rfl,rfl,⟨b,c,et,p,rfl,hh,by rw [hs];rfl,gv.mono G3.le⟩,o1⟩,o2⟩
    ·exact e1.elim
  |mu t=>
   obtain ⟨v,us,s,tt,rfl,rfl,hv,hsl⟩:=hsl
   cases l with
   |nil=>exact hio.elim
   |cons x l=>
    obtain ⟨⟨id,hx,hg⟩,hio⟩:=hio
    simp only [outs] at e
    obtain ⟨z,h1,e1,e⟩:=(Ok_bind _ _ _ _ _).1 e
    obtain ⟨q,h2,e2,e⟩:=(Ok_bind _ _ _ _ _).1 e
    obtain ⟨rfl,rfl⟩:=e
    unfold rowIO at e1
    rcases hx with rfl|rfl
    ·exact e1.elim
    ·simp only [Q.Ok] at e1
     obtain ⟨B,hB,e1⟩:=e1
     cases B with
     |box _=>exact e1.elim
     |row u ys fz=>
      cases fz with
      |true=>exact e1.elim
      |false=>
       obtain ⟨z',h3,f1,f2⟩:=(Ok_bind _ _ _ _ _).1 e1
       rw [Ok_get] at f1
       obtain ⟨ec,rfl⟩:=f1
       simp only [Q.Ok] at f2
       obtain ⟨_,rfl,rfl⟩:=f2
       obtain ⟨ev,_⟩:=cast_some ec
       injection ev with ev;subst ev
       obtain rfl:=cast_self ec
       obtain ⟨s',hg',hrow,_⟩:=H.blk id _ hB
       rw [hg] at hg';injection hg' with hg';subst hg'
       have T:=Gv.tomb H hB rfl hg
       obtain ⟨A3,bs,zs,G3,o1,o2⟩:=ih l us tt A1 _ q h' hA T.hr hio hsl e2
       exact ⟨A3,_,zs,T.trans G3,⟨v,us,s.blk.toList,bs,rfl,rfl,⟨s,hv,hrow.mono G3.le (fun _ _=>rfl) (fun _ _=>rfl),rfl⟩,o1⟩,o2⟩
end
end Go.Proofs.YtkihjakbbcajbaaGreat.PM
namespace Go.Proofs.YtkihjakbbcajbaaGreat.PM
set_option linter.unusedSimpArgs false
set_option linter.unusedVariables false
open Go
section
variable {P:Program} {E:Env}
theorem args_len {A:Nat→Prop} {w:World}:∀(ps:List PK) (vs:List Value) (x:(argTy ps).den) (bs:List Nat),ArgsRel A w ps vs x bs→vs.length=ps.length
 |[],vs,x,bs,h=>by rw [h.1];rfl
 |.val t::r,vs,x,bs,h=>by
  obtain ⟨v,us,rfl,_,h⟩:=h
  simp [args_len r us x.2 bs h]
 |.io t own::r,vs,x,bs,h=>by
  obtain ⟨v,us,p,q,rfl,_,_,h⟩:=h
  simp [args_len r us x.2 q h]
 |.mu t::r,vs,x,bs,h=>by
  obtain ⟨v,us,p,q,rfl,_,_,h⟩:=h
  simp [args_len r us x.2 q h]
 |.fn f::r,vs,x,bs,h=>by
  obtain ⟨v,us,rfl,_,h⟩:=h
  simp [args_len r us x bs h]
 |.eat t::r,vs,x,bs,h=>by
  obtain ⟨v,us,p,q,rfl,_,_,h⟩:=h
  simp [args_len r us x.2 q h]
 |.clo f t::r,vs,x,bs,h=>by
  obtain ⟨v,us,p,q,rfl,_,_,h⟩:=h
  simp [args_len r us x.2 q h]
def resSem (tmps:Array Value):ResultVar→Sem Value
 |.tmp t=>pure (tmps.getD t undef)
 |.cell a t=>do loadVar t (←asAddr (tmps.getD a undef))
theorem resAll_run {w:World} {tmps:Array Value}:∀(rs:List ResultVar) (zs:List Value),resAll P w tmps rs zs→(rs.mapM (resSem tmps)).run P w=.ok zs w
 |[],[],_=>by simp
 |.tmp t::rs,z::zs,⟨h1,h2⟩=>by
  have:=resAll_run rs zs h2
  have h1:z=tmps.getD t undef:=h1
  subst h1
  simp [List.mapM_cons,resSem,this]
 |.cell t ty::rs,z::zs,⟨⟨ad,h0,_,h1⟩,h2⟩=>by
  have:=resAll_run rs zs h2
  simp [List.mapM_cons,resSem,h0,asAddr,h1 w rfl,this]
 |[],_::_,h=>h.elim
 |_::_,[],h=>h.elim
theorem resAll_turn {w w':World} {tmps:Array Value} (hw:∀(r:Nat) (c:Array Value) (e:TypeId) (z:Nat × Nat),w.heap[r]?=some (Obj.cells c e z)→w'.heap[r]?=w.heap[r]?):∀(rs:List ResultVar) (zs:List Value),resAll P w tmps rs zs→resAll P w' tmps rs zs
 |[],[],_=>trivial
 |.tmp t::rs,z::zs,⟨h1,h2⟩=>⟨h1,resAll_turn hw rs zs h2⟩
 |.cell t ty::rs,z::zs,⟨⟨ad,h0,⟨c,e,f,hc⟩,h1⟩,h2⟩=>⟨⟨ad,h0,⟨c,e,f,(hw _ _ _ _ hc).trans hc⟩,fun w'' h=>h1 w'' (h.trans (hw _ _ _ _ hc))⟩,resAll_turn hw rs zs h2⟩
 |[],_::_,h=>h.elim
 |_::_,[],h=>h.elim
theorem results_run {w:World} {fn:Func} {tmps:Array Value} {zs:List Value} (h:resAll P w tmps fn.results.toList zs):(results fn tmps).run P w=.ok (packV zs) w:=by
 have h1:=resAll_run _ _ h
 have h2:(fn.results.mapM (resSem tmps)).run P w=.ok zs.toArray w:=by
  rw [Array.mapM_eq_mapM_toList]
  simp [h1]
 have h3:results fn tmps=(do let vs ←fn.results.mapM (resSem tmps);pure (if h:vs.size=1 then vs[0] else .tuple vs)):=by
  unfold results
  congr 1
 rw [h3,Sem.run_bind,h2,Result.andThen_ok,Sem.run_pure]
 congr 1
 cases zs with
 |nil=>rfl
 |cons z zs=>cases zs with
  |nil=>rfl
  |cons y zs=>simp [packV]
theorem fnOf_spec (hE:EnvOk P E) (hmix:P.follows .mixedOrders=true) {s:Sig} {f:FuncId} {fn:Func} {c:Code} (hf:P.funcs[f]?=some fn) (hname:(fn.name== "runtime.NumGoroutine")=false) (hb:fn.body=some c) (hwf:wfC fn.ntmps c=true) (hps:s.ps.length≤fn.ntmps) (hres:resOk P s.rs fn.results.toList=true):FnSpec P E.globs f (fnOf E s fn):=by
 have hnm:fn.name≠ "runtime.NumGoroutine" :=by simpa using hname
 refine ⟨fun args w=>by simp [callFunc,run_program,hf,hnm,hb],fun w A vs x bs y hgok hargs hnd hbs hA hF=>?_⟩
 have hF:(entry E s fn x).ev (res (cxOf E s fn))=some y:=hF
 unfold entry at hF
 obtain ⟨q,ws,rs,h1,h2⟩:=toD_evT _ _ _ _ _ hF
 have h1:=OkT_Ok _ _ _ _ _ h1
 have H0:HR (fun _=>none) A (fun r=>w.heap.size≤r∨r∈bs) w []:=
  {blk:=fun i b e=>(nomatch (show (none:Option Blk)=some b from e)),own:=fun i b s r e=>(nomatch (show (none:Option Blk)=some b from e)),inj:=fun i j b c s s' r e=>(nomatch (show (none:Option Blk)=some b from e)),dfn:=fun i s e=>(nomatch (show (none:Option Slot)=some s from e)),lt:=hA}
 obtain ⟨g',ss,_,H,r1,r2,r3⟩:=start_ok s.ps _ _ vs x bs 0 0 q _ H0 hargs hnd (fun r hr=>⟨(hbs r hr).1,.inr hr,fun i b s e=>(nomatch (show (none:Option Blk)=some b from e))⟩) h1
 have hlen:vs.length=s.ps.length:=args_len _ _ _ _ hargs
 let B:Bs:=⟨A,fun r=>w.heap.size≤r∨r∈bs,w,fn.ntmps,ss,fun r hr=> .inl hr,E.globs,hgok,[]⟩
 have hgl:E.globs=B.gl:=rfl
 have R:RS B g' A {tmps:=vs.toArray++Array.replicate (fn.ntmps - vs.toArray.size) undef,defers:=[]} w q.1 (ws++[]) q.2.1:=by
  refine ⟨by simp [B];omega,rfl,fun t z hz=>?_,H,fun _ h=>h,fun _ h=> .inl h,fun _ _=>rfl,.refl _ w,r2⟩
  obtain ⟨j,v,h3,h4,h5⟩:=r1 t z hz
  have hj:j<vs.length:=by
   by_cases h:j<vs.length
   ·exact h
   ·rw [List.getElem?_eq_none (by omega)] at h4;cases h4
  obtain rfl:t=j:=by omega
  refine ⟨by show t<fn.ntmps;omega,?_⟩
  have:(vs.toArray++Array.replicate (fn.ntmps - vs.toArray.size) undef).getD t undef=v:=by
   rw [List.getElem?_eq_getElem hj] at h4
   injection h4 with h4
   simp [Array.getD,hj,h4]
   try omega
  rw [this];exact h5
 have hbody:body fn=c:=by unfold body;rw [hb]
 rw [hbody] at h2
 let Post:(outTy s.ps s.rs).den→Act→World→Prop:=fun y a w'=>a.defers=[]∧∃zs,resAll P w' a.tmps fn.results.toList zs∧Done (fnOf E s fn) A w vs bs y (.returned (packV zs)) w'
 have fin:∀(ff:List It→St→Option (outTy s.ps s.rs).den) (st:St) (r:(outTy s.ps s.rs).den),((cxOf E s fn).fin st).ev ff=some r→∀g A' a w',RS B g A' a w' st.tm st.hp st.io→Post r a w':=fun ff st r e g A' a w' R=>by
  obtain ⟨z,ws',rs',k1,k2⟩:=toD_evT _ _ _ _ _ e
  have k1:=OkT_Ok _ _ _ _ _ k1
  simp only [DT.ev,Option.some.injEq] at k2
  subst k2
  obtain ⟨A2,bs2,zs,G,o1,o2⟩:=outs_ok (P:=P) (a:=a) (st:=st) (fun t x e=>(R.tms t x e).2) hres s.ps st.io vs ss A' st.hp z _ (fun _ h=>h) R.hr R.io r3 k1
  refine ⟨R.defs,zs,o2,⟨⟨zs,A2,bs2,rfl,o1,G.nd,fun r hr=>?_,fun r hr=>?_,fun r hr=>G.hr.lt r hr⟩,R.keep⟩⟩
  ·obtain ⟨q1,q2,q3⟩:=G.own r hr
   obtain ⟨_,p2,p3⟩:=owned_out R.hr q2
   exact ⟨q3,p2,p3⟩
  ·exact (G.in' r hr).elim (R.in' r) .inr
 refine calls_of_wp hf hb (fun b k cs=>?_)
 obtain ⟨ex,a',w',hex,harr⟩:=seg_ok (B:=B) hE hgl hmix (C:=cxOf E s fn) rfl rfl (Post:=fun r _=>Post r) (fin _) (fin _) b k cs (fun its st r e g A a w R hw=>res_ok (Post:=fun r _=>Post r) hE hgl hmix rfl rfl fin fin b k cs e R hw) 100000 [.code c] _ y h2 g' A _ w R (by simp [wfI,hwf,B])
 refine ⟨ex,a',w',?_,harr⟩
 rcases hex with ⟨rfl,hd,zs,hz,hdone⟩|⟨rfl,hd,zs,hz,hdone⟩
 ·exact ⟨hd,_,results_run hz,hdone⟩
 ·exact ⟨hd,_,results_run hz,hdone⟩
end
end Go.Proofs.YtkihjakbbcajbaaGreat.PM
namespace Go.Proofs.YtkihjakbbcajbaaGreat.PM
set_option linter.unusedSimpArgs false
set_option linter.unusedVariables false
open Go
def Ty.dep:Ty→Nat
 |.pair a b=>max (a.dep+1) b.dep
 |.unit=>1
 |.arr _ t=>t.dep+1
 |_=>1
def eqChk (P:Program):Ty→(TypeId→Bool) × (List Field→Bool)
 |.unit=>(fun t=>!P.stoodInHeld t,fun fs=>fs.isEmpty)
 |.pair a b=>
  let F:List Field→Bool:=fun fs=>match fs with
   |f::fs=>decide (f.name≠ "_") && ((eqChk P a).1 f.type && (eqChk P b).2 fs)
   |[]=>false
  (fun t=>!P.stoodInHeld t && match P.underlying t with|some (.struct fs)=>F fs.toList|_=>false,F)
 |.arr _ u=>(fun t=>match P.underlying t with|some (.array _ e)=>(eqChk P u).1 e|_=>false,fun _=>false)
 |.slice _=>(fun _=>false,fun _=>false)
 |_=>(fun _=>true,fun _=>false)
def eqB (P:Program) (τ:Ty) (t:TypeId):Bool:=(eqChk P τ).1 t
def eqFB (P:Program) (τ:Ty) (fs:List Field):Bool:=(eqChk P τ).2 fs
theorem eqB_unit (P:Program) (t:TypeId):eqB P .unit t=!P.stoodInHeld t:=rfl
theorem eqB_pair (P:Program) (a b:Ty) (t:TypeId):eqB P (.pair a b) t=(!P.stoodInHeld t && match P.underlying t with|some (.struct fs)=>eqFB P (.pair a b) fs.toList|_=>false):=rfl
theorem eqB_arr (P:Program) (n:Nat) (u:Ty) (t:TypeId):eqB P (.arr n u) t=(match P.underlying t with|some (.array _ e)=>eqB P u e|_=>false):=rfl
theorem eqB_slice (P:Program) (u:Ty) (t:TypeId):eqB P (.slice u) t=false:=rfl
theorem eqFB_pair1 (P:Program) (a b:Ty) (f:Field) (fs:List Field):eqFB P (.pair a b) (f::fs)=(decide (f.name≠ "_") && (eqB P a f.type && eqFB P b fs)):=rfl
section
variable {P:Program} {A:Nat→Prop} {w:World} {t:TypeId}
theorem part_run {τ:Ty} (hty:tyB P τ t=true) {xs:Array Value} {pre c post:List Value} {off:Nat} (h:xs.toList=pre++c++post) (hp:pre.length=off) (hc:c.length=τ.size):(part t xs off).run P w=.ok (ofCells τ.agg c) w:=by
 have hag:=run_isAgg (P:=P) w hty
 have hsz:=run_sizeT (P:=P) w hty
 unfold part
 cases ha:τ.agg with
 |true=>
  rw [ha] at hag
  have:(xs.extract off (off+τ.size))=c.toArray:=by
   apply Array.toList_inj.1
   rw [Array.toList_extract,h,←hp,←hc]
   simp [List.extract,List.append_assoc]
  simp [hag,hsz,ofCells,this]
 |false=>
  rw [ha] at hag
  have h1:c.length=1:=by
   rw [hc];exact agg_size (τ:=.data τ) (t:=t) (P:=P) hty ha
  match c,h1 with
  |[v],_=>
   have:xs[off]?=some v:=by
    rw [←Array.getElem?_toList,h,←hp];simp
   simp [hag,this,ofCells]
theorem eqA_run {u:Ty} {e:TypeId} {d:Nat} (hu:tyB P u e=true) (hq:∀(cs ds:List Value) (a b:u.den),TRel A w u cs a→TRel A w u ds b→(Op.equalIn d e (ofCells u.agg cs) (ofCells u.agg ds)).run P w=.ok (u.beq a b) w) {xs ys:Array Value}:
  ∀(avs bs:List u.den) (k:Nat) (pre pre' cs ds:List Value),xs.toList=pre++cs→ys.toList=pre'++ds→pre.length=k*u.size→pre'.length=k*u.size→Cat (TRel A w u) cs avs→Cat (TRel A w u) ds bs→avs.length=bs.length→
  ((forIn (List.range' k avs.length) ((none:Option Bool),()) fun i _=>do
   let a ←part e xs (i*u.size)
   let b ←part e ys (i*u.size)
   let r ←Op.equalIn d e a b
   if (!r)=true then pure (ForInStep.done (some false,())) else pure (ForInStep.yield (none,()))).run P w)=.ok (if allB u.beq avs bs=true then none else some false,()) w
 |[],[],k,_,_,_,_,_,_,_,_,_,_,_=>by simp [allB]
 |a::avs,b::bs,k,pre,pre',cs,ds,hx,hy,hp,hp',ha,hb,hl=>by
  obtain ⟨c1,c2,rfl,a1,a2⟩:=ha
  obtain ⟨d1,d2,rfl,b1,b2⟩:=hb
  have hc1:=TRel.len u _ _ a1
  have hd1:=TRel.len u _ _ b1
  have p1:=part_run (P:=P) (w:=w) hu (xs:=xs) (pre:=pre) (c:=c1) (post:=c2) (off:=k*u.size) (by rw [hx];simp) hp hc1
  have p2:=part_run (P:=P) (w:=w) hu (xs:=ys) (pre:=pre') (c:=d1) (post:=d2) (off:=k*u.size) (by rw [hy];simp) hp' hd1
  have q:=hq c1 d1 a b a1 b1
  have r:=eqA_run hu hq (xs:=xs) (ys:=ys) avs bs (k+1) (pre++c1) (pre'++d1) c2 d2 (by rw [hx];simp) (by rw [hy];simp) (by rw [List.length_append,hp,hc1,Nat.succ_mul]) (by rw [List.length_append,hp',hd1,Nat.succ_mul]) a2 b2 (by simpa using hl)
  simp only [List.length_cons,List.range'_succ,List.forIn_cons,Sem.run_bind,p1,Result.andThen_ok,p2,q,allB]
  by_cases hh:u.beq a b=true
  ·simpa [hh] using r
  ·simp [hh]
 |[],_::_,_,_,_,_,_,_,_,_,_,_,_,hl=>by simp at hl
 |_::_,[],_,_,_,_,_,_,_,_,_,_,_,hl=>by simp at hl
theorem run_equalIn_arr {n:Nat} {u:Ty} {e:TypeId} {d:Nat} (ht:P.underlying t=some (.array n e)) (hu:tyB P u e=true) (hq:∀(cs ds:List Value) (a b:u.den),TRel A w u cs a→TRel A w u ds b→(Op.equalIn d e (ofCells u.agg cs) (ofCells u.agg ds)).run P w=.ok (u.beq a b) w) {cs ds:List Value} {a b:(Ty.arr n u).den} (ha:TRel A w (.arr n u) cs a) (hb:TRel A w (.arr n u) ds b):
  (Op.equalIn (d+1) t (.agg cs.toArray) (.agg ds.toArray)).run P w=.ok ((Ty.arr n u).beq a b) w:=by
 obtain ⟨ha1,ha2⟩:=ha
 obtain ⟨hb1,hb2⟩:=hb
 have r:=eqA_run (P:=P) hu hq (xs:=cs.toArray) (ys:=ds.toArray) a b 0 [] [] cs ds (by simp) (by simp) (by simp) (by simp) ha2 hb2 (by rw [ha1,hb1])
 have hsz:=run_sizeT (P:=P) w hu
 rw [ha1] at r
 simp only [Op.equalIn,Sem.run_bind,run_underlying ht,Result.andThen_ok,hsz,Std.Legacy.Range.forIn_eq_forIn_range',Std.Legacy.Range.size,Nat.sub_zero,Nat.add_sub_cancel,Nat.div_one]
 rw [r]
 have e:(Ty.arr n u).beq a b=allB u.beq a b:=rfl
 rw [e]
 cases allB u.beq a b<;>simp
mutual
theorem eqV:∀(τ:Ty) (t:TypeId) (d:Nat) (cs ds:List Value) (a b:τ.den),τ.dep≤d→tyB P τ t=true→eqB P τ t=true→TRel A w τ cs a→TRel A w τ ds b→(Op.equalIn d t (ofCells τ.agg cs) (ofCells τ.agg ds)).run P w=.ok (τ.beq a b) w
 |.int k,t,0,_,_,_,_,hd,_,_,_,_=>by simp [Ty.dep] at hd
 |.int k,t,d+1,cs,ds,a,b,_,hty,_,ha,hb=>by
  have ha:cs=[.int k a]:=ha
  have hb:ds=[.int k b]:=hb
  subst ha hb
  have h:=run_equalIn_int (P:=P) w d t k k a b (und_int hty)
  have e:(Ty.int k).beq a b=((a:Int)==b):=by
   show decide ((a:Int)=b)=_
   rw [Bool.eq_iff_iff];simp
  rw [e];exact h
 |.bool,t,0,_,_,_,_,hd,_,_,_,_=>by simp [Ty.dep] at hd
 |.bool,t,d+1,cs,ds,a,b,_,hty,_,ha,hb=>by
  have ha:cs=[.bool a]:=ha
  have hb:ds=[.bool b]:=hb
  subst ha hb
  have hu:P.underlying t=some .bool:=by
   simp only [tyB_int,tyB_bool,tyB_str,tyB_unit,tyB_pair,tyB_arr,tyB_slice,Bool.and_eq_true] at hty
   have h2:=hty.2
   split at h2
   ·assumption
   ·cases h2
  exact run_equalIn_bool' (P:=P) w d t a b hu
 |.str,t,0,_,_,_,_,hd,_,_,_,_=>by simp [Ty.dep] at hd
 |.str,t,d+1,cs,ds,a,b,_,hty,_,ha,hb=>by
  obtain ⟨s,rfl,rfl⟩:=ha
  obtain ⟨s',rfl,rfl⟩:=hb
  have h:=run_equalIn_string (P:=P) w d t s s' (und_str hty)
  have e:Ty.str.beq s.data.toList s'.data.toList=(s.toList==s'.toList):=by
   show decide (s.data.toList=s'.data.toList)=_
   rw [ByteArray.toList_eq,ByteArray.toList_eq,Bool.eq_iff_iff];simp
  rw [e];exact h
 |.unit,t,0,_,_,_,_,hd,_,_,_,_=>by simp [Ty.dep] at hd
 |.unit,t,d+1,cs,ds,a,b,hd,hty,he,ha,hb=>by
  have hty':=hty
  simp only [tyB_int,tyB_bool,tyB_str,tyB_unit,tyB_pair,tyB_arr,tyB_slice,Bool.and_eq_true] at hty'
  obtain ⟨_,hu⟩:=hty'
  split at hu
  ·rename_i fs hfs
   have hst:P.stoodInHeld t=false:=by simpa [eqB_unit] using he
   have hf:P.fieldsOf t=fs:=by unfold Program.fieldsOf;rw [hfs]
   have h:=run_equalIn_struct (P:=P) w d t cs.toArray ds.toArray (by rw [hf];exact hfs) hst
   have hnil:fs.toList=[]:=List.isEmpty_iff.1 hu
   rw [hf,hnil] at h
   show (Op.equalIn (d+1) t (.agg cs.toArray) (.agg ds.toArray)).run P w=_
   rw [h];simp [Op.eqFields,Ty.beq]
  ·cases hu
 |.pair x y,t,0,_,_,_,_,hd,_,_,_,_=>by simp [Ty.dep] at hd
 |.pair x y,t,d+1,cs,ds,a,b,hd,hty,he,ha,hb=>by
  have hty':=hty
  simp only [tyB_int,tyB_bool,tyB_str,tyB_unit,tyB_pair,tyB_arr,tyB_slice,Bool.and_eq_true] at hty'
  obtain ⟨_,hu⟩:=hty'
  split at hu
  ·rename_i fs hfs
   simp only [eqB_pair,hfs,Bool.and_eq_true,Bool.not_eq_true'] at he
   have hf:P.fieldsOf t=fs:=by unfold Program.fieldsOf;rw [hfs]
   have h:=run_equalIn_struct (P:=P) w d t cs.toArray ds.toArray (by rw [hf];exact hfs) he.1
   rw [hf] at h
   show (Op.equalIn (d+1) t (.agg cs.toArray) (.agg ds.toArray)).run P w=_
   rw [h]
   exact eqF (.pair x y) fs.toList 0 d cs.toArray ds.toArray [] [] cs ds a b hd hu he.2 (by simp) (by simp) rfl rfl ha hb
  ·cases hu
 |.arr n u,t,0,_,_,_,_,hd,_,_,_,_=>by simp [Ty.dep] at hd
 |.arr n u,t,d+1,cs,ds,a,b,hd,hty,he,ha,hb=>by
  simp only [tyB_arr,Bool.and_eq_true] at hty
  obtain ⟨_,hu⟩:=hty
  split at hu
  ·rename_i m e hm
   simp only [Bool.and_eq_true] at hu
   obtain rfl:=Nat.eq_of_beq_eq_true hu.1
   simp only [eqB_arr,hm] at he
   have hd':u.dep≤d:=by
    have:u.dep+1≤d+1:=hd
    omega
   exact run_equalIn_arr hm hu.2 (fun cs ds a b h1 h2=>eqV u e d cs ds a b hd' hu.2 he h1 h2) ha hb
  ·cases hu
 |.slice u,t,d,_,_,_,_,_,_,he,_,_=>by simp [eqB_slice] at he
 termination_by τ=>(SizeOf.sizeOf τ,1)
theorem eqF:∀(τ:Ty) (fs:List Field) (o d:Nat) (xs ys:Array Value) (pre pre' cs ds:List Value) (a b:τ.den),τ.dep≤d+1→fldB P τ fs o=true→eqFB P τ fs=true→xs.toList=pre++cs→ys.toList=pre'++ds→pre.length=o→pre'.length=o→TRel A w τ cs a→TRel A w τ ds b→
  (Op.eqFields d xs ys fs).run P w=.ok (τ.beq a b) w
 |.pair x y,fs,o,d,xs,ys,pre,pre',cs,ds,a,b,hd,hf,he,hx,hy,hp,hp',ha,hb=>by
  cases fs with
  |nil=>simp [fldB_pair1,fldB_pair0,fldB_unit1,fldB_unit0,fldB_int,fldB_bool,fldB_str,fldB_arr,fldB_slice] at hf
  |cons f fs=>
   simp only [fldB_pair1,fldB_pair0,fldB_unit1,fldB_unit0,fldB_int,fldB_bool,fldB_str,fldB_arr,fldB_slice,Bool.and_eq_true] at hf
   simp only [eqFB_pair1,Bool.and_eq_true,decide_eq_true_eq] at he
   obtain ⟨c1,c2,rfl,a1,a2⟩:=ha
   obtain ⟨d1,d2,rfl,b1,b2⟩:=hb
   have ho:=Nat.eq_of_beq_eq_true hf.1
   have hc1:=TRel.len x _ _ a1
   have hd1:=TRel.len x _ _ b1
   have hdx:x.dep≤d∧y.dep≤d+1:=by
    have:max (x.dep+1) y.dep≤d+1:=hd
    omega
   have p1:=part_run (P:=P) (w:=w) hf.2.1 (xs:=xs) (pre:=pre) (c:=c1) (post:=c2) (off:=f.offset) (by rw [hx];simp) (by rw [hp,ho]) hc1
   have p2:=part_run (P:=P) (w:=w) hf.2.1 (xs:=ys) (pre:=pre') (c:=d1) (post:=d2) (off:=f.offset) (by rw [hy];simp) (by rw [hp',ho]) hd1
   have q:=eqV x f.type d c1 d1 a.1 b.1 hdx.1 hf.2.1 he.2.1 a1 b1
   have r:=eqF y fs (o+x.size) d xs ys (pre++c1) (pre'++d1) c2 d2 a.2 b.2 hdx.2 hf.2.2 he.2.2 (by rw [hx];simp) (by rw [hy];simp) (by rw [List.length_append,hp,hc1]) (by rw [List.length_append,hp',hd1]) a2 b2
   have e:(Ty.pair x y).beq a b=(x.beq a.1 b.1 && y.beq a.2 b.2):=rfl
   rw [e]
   unfold Op.eqFields
   rw [if_pos he.1]
   simp only [Sem.run_bind,p1,Result.andThen_ok,p2,q]
   cases hh:x.beq a.1 b.1 with
   |true=>simpa using r
   |false=>simp
 |.unit,fs,o,d,xs,ys,pre,pre',cs,ds,a,b,_,hf,_,_,_,_,_,_,_=>by
  cases fs with
  |nil=>simp [Op.eqFields,Ty.beq]
  |cons f fs=>simp [fldB_pair1,fldB_pair0,fldB_unit1,fldB_unit0,fldB_int,fldB_bool,fldB_str,fldB_arr,fldB_slice] at hf
 |.int _,_,_,_,_,_,_,_,_,_,_,_,_,hf,_,_,_,_,_,_,_=>by simp [fldB_pair1,fldB_pair0,fldB_unit1,fldB_unit0,fldB_int,fldB_bool,fldB_str,fldB_arr,fldB_slice] at hf
 |.bool,_,_,_,_,_,_,_,_,_,_,_,_,hf,_,_,_,_,_,_,_=>by simp [fldB_pair1,fldB_pair0,fldB_unit1,fldB_unit0,fldB_int,fldB_bool,fldB_str,fldB_arr,fldB_slice] at hf
 |.str,_,_,_,_,_,_,_,_,_,_,_,_,hf,_,_,_,_,_,_,_=>by simp [fldB_pair1,fldB_pair0,fldB_unit1,fldB_unit0,fldB_int,fldB_bool,fldB_str,fldB_arr,fldB_slice] at hf
 |.arr _ _,_,_,_,_,_,_,_,_,_,_,_,_,hf,_,_,_,_,_,_,_=>by simp [fldB_pair1,fldB_pair0,fldB_unit1,fldB_unit0,fldB_int,fldB_bool,fldB_str,fldB_arr,fldB_slice] at hf
 |.slice _,_,_,_,_,_,_,_,_,_,_,_,_,hf,_,_,_,_,_,_,_=>by simp [fldB_pair1,fldB_pair0,fldB_unit1,fldB_unit0,fldB_int,fldB_bool,fldB_str,fldB_arr,fldB_slice] at hf
 termination_by τ=>(SizeOf.sizeOf τ,0)
end
end
def eqTab (P:Program) (E:Env):List Nat→Bool
 |[]=>true
 |t::r=>(match E.tab t with
  |some (.data τ)=>eqB P τ t && (!P.eqGuardType P.depth t && Nat.ble τ.dep 10000)
  |_=>true) && eqTab P E r
theorem eqTab_at {P:Program} {E:Env}:∀(l:List Nat) (t:Nat) (τ:Ty),eqTab P E l=true→l.any (Nat.beq t)=true→E.tab t=some (.data τ)→eqB P τ t=true∧P.eqGuardType P.depth t=false∧τ.dep≤10000
 |[],_,_,_,h,_=>by cases h
 |u::r,t,τ,h,hl,hE=>by
  simp only [eqTab,Bool.and_eq_true] at h
  rw [List.any_cons,Bool.or_eq_true] at hl
  rcases hl with hl|hl
  ·obtain rfl:=Nat.eq_of_beq_eq_true hl
   have h1:=h.1
   rw [hE] at h1
   simp only [Bool.and_eq_true,Bool.not_eq_true'] at h1
   exact ⟨h1.1,h1.2.1,Nat.le_of_ble_eq_true h1.2.2⟩
  ·exact eqTab_at r t τ h.2 hl hE
theorem eqOk_of {P:Program} {E:Env} (hT:tabB P E.tl=true) (h:eqTab P E E.eqs=true):EqOk P E:=by
 intro t τ hE hp A w xs ys a b ra rb
 simp only [Bool.and_eq_true] at hp
 obtain ⟨h1,h2,h3⟩:=eqTab_at E.eqs t τ h hp.1 hE
 have hty:tyB P τ t=true:=tabB_look hT hE
 have hag:τ.agg=true:=hp.2.2
 have q:=eqV (P:=P) (A:=A) (w:=w) τ t 10000 xs.toList ys.toList a b h3 hty h1 ra rb
 rw [hag] at q
 have q:(Op.equalIn 10000 t (.agg xs) (.agg ys)).run P w=.ok (τ.beq a b) w:=by simpa [ofCells] using q
 refine ⟨fun op x y=>run_eqGuard_agg w op t x y xs ys h2,?_,?_⟩
 ·rw [run_eql_struct,q];rfl
 ·rw [run_neq_struct,q];rfl
end Go.Proofs.YtkihjakbbcajbaaGreat.PM
namespace Go.Proofs.YtkihjakbbcajbaaGreat.PM
set_option linter.unusedSimpArgs false
set_option linter.unusedVariables false
open Go
def okF (P:Program) (s:Sig) (fn:Func):Bool:=
 !(fn.name== "runtime.NumGoroutine") && (fn.body.isSome && (wfC fn.ntmps (body fn) && (Nat.ble s.ps.length fn.ntmps && resOk P s.rs fn.results.toList)))
theorem spec_of {P:Program} {E:Env} (hE:EnvOk P E) (hmix:P.follows .mixedOrders=true) {s:Sig} {f:FuncId} {fn:Func} (hf:P.funcs[f]?=some fn) (h:okF P s fn=true):FnSpec P E.globs f (fnOf E s fn):=by
 simp only [okF,Bool.and_eq_true,Bool.not_eq_true'] at h
 obtain ⟨h1,h2,h3,h4,h5⟩:=h
 obtain ⟨c,hc⟩:=Option.isSome_iff_exists.1 h2
 have hb:body fn=c:=by unfold body;rw [hc]
 exact fnOf_spec hE hmix hf h1 hc (by rw [←hb];exact h3) (Nat.le_of_ble_eq_true h4) h5
def FnsOk (P:Program) (gl:List (Nat × PV)):List (Nat × Fun)→Prop
 |[]=>True
 |p::r=>FnSpec P gl p.1 p.2∧FnsOk P gl r
theorem FnsOk.nil {P:Program} {gl:List (Nat × PV)}:FnsOk P gl []:=trivial
theorem FnsOk.cons {P:Program} {gl:List (Nat × PV)} {f:Nat} {F:Fun} {r:List (Nat × Fun)} (h:FnSpec P gl f F) (t:FnsOk P gl r):FnsOk P gl ((f,F)::r):=⟨h,t⟩
theorem FnsOk.look {P:Program} {gl:List (Nat × PV)}:∀{l:List (Nat × Fun)} {f:Nat} {F:Fun},FnsOk P gl l→PM.look f l=some F→FnSpec P gl f F
 |[],_,_,_,e=>by cases e
 |(j,G)::r,f,F,h,e=>by
  rw [look_cons] at e
  split at e
  ·rename_i hj
   injection e with e;subst e hj
   exact h.1
  ·exact FnsOk.look h.2 e
def PrimsOk (P:Program):List (Nat × Prim)→Prop
 |[]=>True
 |p::r=>PrimSpec P p.1 p.2∧PrimsOk P r
theorem PrimsOk.look {P:Program}:∀{l:List (Nat × Prim)} {f:Nat} {p:Prim},PrimsOk P l→PM.look f l=some p→PrimSpec P f p
 |[],_,_,_,e=>by cases e
 |(j,G)::r,f,p,h,e=>by
  rw [look_cons] at e
  split at e
  ·rename_i hj
   injection e with e;subst e hj
   exact h.1
  ·exact PrimsOk.look h.2 e
theorem PrimsOk.nil {P:Program}:PrimsOk P []:=trivial
theorem PrimsOk.cons {P:Program} {f:Nat} {p:Prim} {r:List (Nat × Prim)} (h:PrimSpec P f p) (t:PrimsOk P r):PrimsOk P ((f,p)::r):=⟨h,t⟩
theorem envOk_at {P:Program} {tl:List (Nat × TI)} {eqs:List Nat} (hT:tabB P tl=true) (hQ:EqOk P ⟨tl,fun _=>none,[],eqs,[],[]⟩) {fl:List (Nat × Fun)} {sh:List Nat} {gl:List (Nat × PV)} {pl:List (Nat × Prim)} (hp:PrimsOk P pl) (h:FnsOk P gl fl):EnvOk P ⟨tl,fun i=>look i fl,sh,eqs,gl,pl⟩:=
 ⟨hT,fun t τ h1 h2=>hQ t τ h1 h2,fun _ _ e=>h.look e,fun _ _ e=>hp.look e⟩
end Go.Proofs.YtkihjakbbcajbaaGreat.PM
namespace Go.Proofs.YtkihjakbbcajbaaGreat.PM
open Go Go.Proofs Go.RowKit Go.Lib Go.Shelf
set_option linter.unusedVariables false
set_option linter.unusedSimpArgs false
theorem enter_of {P:Program} {f:FuncId} {fn:Func} (hf:P.funcs[f]?=some fn) (h:(!(fn.name== "runtime.NumGoroutine") && fn.body.isSome)=true) (args:Array Value) (w:World):(callFunc f args).run P w=.ok (.enter f args) w:=by
 simp only [Bool.and_eq_true,Bool.not_eq_true'] at h
 obtain ⟨c,hb⟩:=Option.isSome_iff_exists.1 h.2
 have hnm:fn.name≠ "runtime.NumGoroutine" :=by simpa using h.1
 simp [callFunc,run_program,hf,hnm,hb]
theorem wp_append_at {P:Program} (w:World) {o:Oper} {a:Act} {K:Act→World→Prop} {Q:Exit→Act→World→Prop} (s x:Operand) (t tn:TypeId)
  (ho:o.op=.call {callee:=.builtin .append,args:=#[s,x],argTypes:=#[t,tn]}) (vs vx:Value) (hs:a.eval s=vs) (hx:a.eval x=vx)
  (v':Value) (w':World) (hr:(Builtin.append_ #[t,tn] o.type #[vs,vx]).run P w=.ok v' w') (h:K (a.put o.dst v') w'):o.wp P a w K Q:=by
 unfold Oper.wp execOp
 simp only [ho,resolve,invoke,builtin,Sem.run_bind,Sem.run_pure,Result.andThen_ok,List.map_toArray,List.map_cons,List.map_nil,hs,hx,hr]
 exact h
theorem wpList_append_at {P:Program} (w:World) {ops:Array Oper} {rest:List Oper} {o:Oper} {a:Act} {Q:Exit→Act→World→Prop} (hgd:o.guard=none) (s x:Operand) (t tn:TypeId)
  (ho:o.op=.call {callee:=.builtin .append,args:=#[s,x],argTypes:=#[t,tn]}) (vs vx:Value) (hs:a.eval s=vs) (hx:a.eval x=vx)
  (v':Value) (w':World) (hr:(Builtin.append_ #[t,tn] o.type #[vs,vx]).run P w=.ok v' w') (h:wpList P ops Q rest (a.put o.dst v') w'):wpList P ops Q (o::rest) a w:=
 wpList_plain hgd fun _ hK=>wp_append_at w s x t tn ho vs vx hs hx v' w' hr (hK _ _ h)
theorem clone_row {P:Program} {t ty e1:TypeId} {u:Ty} (hty:tyB P (.slice u) t=true) (hs1:1≤u.size) {A:Nat→Prop} {w w1:World} {v:Value} {ys:List u.den} (hs:Shown A w u v ys) (hA:∀r,A r→r<w.heap.size) (hlim:ys.length*u.bytes≤140737488355328) (hw1:w1=w.alloc (.cells #[] e1)):
  ∃v' w',(Builtin.append_ #[t,t] ty #[.slice (some ⟨w.heap.size,0,none⟩) 0 0,v]).run P w1=.ok v' w'∧NewRow A w none u ys v' w':=by
 have G1:Grew w w1:=hw1▸Grew.alloc w _
 have hsz:w.heap.size≤w1.heap.size:=G1.size
 have hb:w1.heap[w.heap.size]?=some (.cells #[] e1 (0,0)):=by rw [hw1];exact alloc_new w _
 have hs':Shown A w1 u v ys:=by
  obtain ⟨a,cap,rfl,hcap,hc⟩:=hs
  refine ⟨a,cap,rfl,hcap,fun hl=>?_⟩
  obtain ⟨ad,h1,h2,c,h3,h4⟩:=hc hl
  refine ⟨ad,h1,h2,c,fun j x hj=>?_,h4.mono (TRel.mono (fun _ h=>h) (fun r hr=>G1.block r (hA r hr)) u)⟩
  have h5:=h3 j x hj
  rw [←h5]
  have hbl:(ad.add j).block=ad.block:=by unfold Addr.add;split<;>rfl
  have hlt:ad.block<w.heap.size:=by
   unfold World.cell? at h5
   rw [hbl] at h5
   split at h5
   ·rename_i ho;exact heap_lt ho
   ·cases h5
  unfold World.cell?
  rw [hbl,G1.block _ hlt]
 obtain ⟨hin,hout⟩:=AppSrc.of_shown (A:=A) (w:=w1) hty ty hs'
 by_cases h0:ys.length=0
 ·obtain ⟨c,c1,c2,c3⟩:=hin
  have hy:ys=[]:=List.eq_nil_of_length_eq_zero h0
  subst hy
  have hc0:c=[]:=c1
  subst hc0
  have:=c3 (some ⟨w.heap.size,0,none⟩) 0 0 (by simp)
  have hst:=run_storeCells_at (P:=P) w.heap.size 0 e1 [] 0 #[] w1 hb (by simp) (by simp)
  simp only [Nat.zero_mul,List.length_nil,Nat.add_zero,add_at] at this
  have hset:(w1.setRow w.heap.size #[]).heap[w.heap.size]?=some (.cells #[] e1 (0,0)):=setRow_heap w1 _ #[] #[] e1 (0,0) hb
  refine ⟨.slice (some ⟨w.heap.size,0,none⟩) 0 0,w1.setRow w.heap.size #[],by rw [this,hst];rfl,⟨some w.heap.size,0,0⟩,rfl,⟨rfl,Nat.le_refl _,#[],e1,hset,by simp,by simp [Cat]⟩,fun b h=>by injection h with h;right;omega,?_⟩
  exact G1.keep.trans (setRow_keep (.inl (Nat.le_refl _)))
 ·obtain ⟨c,c1,c3⟩:=hout
  obtain ⟨e0,cap,z,hcap,hz,hrun⟩:=c3 (some ⟨w.heap.size,0,none⟩) 0 0 [] (by
   have hr:=run_loadCells_list (P:=P) w1.drew ⟨w.heap.size,0,none⟩ [] (fun j v hj=>by simp at hj)
   simp only [Builtin.firstCells,Nat.zero_mul]
   exact hr) (by omega) (by rw [Nat.zero_add];exact hlim) hs1
  simp only [Nat.zero_add] at hcap hrun
  have G:Grew w (w1.drew.alloc (.cells (([]:List Value).toArray++c.toArray++Builtin.zeroCells z (cap - ys.length)) e0)):=(G1.trans (Grew.drew w1)).trans (Grew.alloc w1.drew _)
  have hcz:=cat_zero (A:=A) (w:=w1) (u:=u) (d:=[]) (xs:=[]) (z:=z) (n:=cap - ys.length) rfl c1
  simp only [List.length_nil,Nat.zero_add,List.nil_append] at hcz
  have hl:=Cat.len (TRel.len u) c1
  refine ⟨_,_,hrun,⟨some w1.heap.size,cap,ys.length⟩,rfl,⟨rfl,hcap,_,e0,alloc_new w1.drew _,?_,hcz.mono (TRel.mono (fun _ h=>h) (fun r hr=>(G.block r (hA r hr)).trans (G1.block r (hA r hr)).symm) u)⟩,fun b h=>by injection h with h;right;omega,G.keep⟩
  simp only [Array.size_append,List.size_toArray,size_zeroCells,hz,hl,←Nat.add_mul,List.length_nil,Nat.zero_add]
  exact Nat.mul_le_mul_right _ (by omega)
end Go.Proofs.YtkihjakbbcajbaaGreat.PM
namespace Go.Proofs.YtkihjakbbcajbaaGreat.PM
open Go Go.Proofs
@[reducible] noncomputable def t0:Ty:=(.pair (.int .i64) (.pair (.int .i64) (.pair (.int .i64) .unit)))
@[reducible] noncomputable def t1:Ty:=(.pair t0 (.pair (.int .i64) (.pair (.int .i64) (.pair (.int .u64) .unit))))
@[reducible] noncomputable def t2:Ty:=(.pair (.slice (.int .i64)) (.pair (.slice .bool) (.pair (.int .i64) .unit)))
@[reducible] noncomputable def t3:Ty:=(.pair (.int .u32) (.pair (.int .i64) (.pair .bool .unit)))
@[reducible] noncomputable def t4:Ty:=(.pair (.slice (.int .i64)) (.pair (.slice (.int .i64)) (.pair (.int .i64) (.pair (.int .i64) .unit))))
@[reducible] noncomputable def t5:Ty:=(.pair (.int .i64) (.pair (.slice (.int .u32)) (.pair (.slice t1) (.pair t2 (.pair (.slice t3) (.pair t4 .unit))))))
@[reducible] noncomputable def t6:Ty:=(.pair (.int .u64) (.pair (.int .u64) (.pair (.int .u64) .unit)))
@[reducible] noncomputable def t7:Ty:=(.pair (.int .u32) (.pair (.arr 3 t0) (.pair t1 (.pair t5 (.pair t5 (.pair (.slice (.int .u32)) (.pair t6 .unit)))))))
@[reducible] noncomputable def t8:Ty:=(.pair (.int .u64) (.pair (.arr 32 (.int .u8)) (.pair (.arr 16 (.int .u32)) (.pair (.slice t7) .unit))))
@[reducible] noncomputable def t9:Ty:=(.pair (.int .u32) (.pair t1 .unit))
@[reducible] noncomputable def t10:Ty:=(.pair (.int .u32) (.pair (.arr 3 t0) (.pair (.arr 2 (.int .i64)) (.pair t1 (.pair (.slice t9) (.pair (.slice t9) (.pair (.slice (.int .u32)) (.pair t6 .unit))))))))
@[reducible] noncomputable def t11:Ty:=(.pair (.int .u64) (.pair (.arr 32 (.int .u8)) (.pair (.arr 16 (.int .u32)) (.pair (.slice t10) .unit))))
@[reducible] noncomputable def t12:Ty:=(.pair (.slice (.int .u8)) (.pair .bool .unit))
@[reducible] noncomputable def t13:Ty:=(.pair (.slice (.int .u8)) .unit)
@[reducible] noncomputable def t14:Ty:=(.pair (.int .i64) (.pair (.int .i64) (.pair .bool (.pair (.int .u8) .unit))))
@[reducible] noncomputable def t15:Ty:=(.pair .str (.pair (.int .u64) .unit))
@[reducible] noncomputable def d7_:t7.den:=(0,(List.replicate 3 (0,0,0,())),((0,0,0,()),0,0,0,()),(0,([]:List Int),([]:List t1.den),(([]:List Int),([]:List Bool),0,()),([]:List t3.den),(([]:List Int),([]:List Int),0,0,()),()),(0,([]:List Int),([]:List t1.den),(([]:List Int),([]:List Bool),0,()),([]:List t3.den),(([]:List Int),([]:List Int),0,0,()),()),([]:List Int),(0,0,0,()),())
@[reducible] noncomputable def d10_:t10.den:=(0,(List.replicate 3 (0,0,0,())),(List.replicate 2 (0:Int)),((0,0,0,()),0,0,0,()),([]:List t9.den),([]:List t9.den),([]:List Int),(0,0,0,()),())
@[reducible] noncomputable def d9_:t9.den:=(0,((0,0,0,()),0,0,0,()),())
end Go.Proofs.YtkihjakbbcajbaaGreat.PM
namespace Go.Proofs.YtkihjakbbcajbaaGreat.PM
open Go Go.Proofs Go.RowKit Go.Lib Go.Shelf
set_option linter.unusedVariables false
set_option linter.unusedSimpArgs false
set_option maxHeartbeats 4000000 in
set_option maxRecDepth 100000 in
theorem clone48:PrimSpec Tryz.prog 48 (.clone (.int .u32)):=by
 intro A w v ys hs hA hlim
 refine .inr ⟨enter_of Tryz.func48 (by kernel_rfl) _ _,?_⟩
 have hty:tyB Tryz.prog (.slice (.int .u32)) 54=true:=by kernel_rfl
 have hcr:=fun ty e1=>clone_row (ty:=ty) (e1:=e1) hty (by decide) hs hA hlim rfl
 obtain ⟨a,cap,rfl,hcap,hc⟩:=hs
 cases a with
 |none=>
  have h0:ys.length=0:=by
   rcases Nat.eq_zero_or_pos ys.length with h|h
   ·exact h
   ·obtain ⟨ad,e,_⟩:=hc h;cases e
  have hy:ys=[]:=List.eq_nil_of_length_eq_zero h0
  clear hcr hc hlim hcap
  subst hy
  have hnl:=fun W=>Lib.run_eql_slice_nil (P:=Tryz.prog) W 54 26 none 0 cap 0 0 Tryz.underlying54
  go_enter Tryz.func48,Tryz.ntmps48
  go_wp2
  go_ret
  exact ⟨_,rfl,⟨none,0,0⟩,⟨rfl,rfl,rfl⟩,⟨rfl,rfl,rfl⟩,fun b h=>(by cases h),Keep.refl _ _⟩
 |some a=>
  have hnl:=fun W=>Lib.run_eql_slice_nil (P:=Tryz.prog) W 54 26 (some a) ys.length cap 0 0 Tryz.underlying54
  obtain ⟨v',w',hr,hN⟩:=hcr 54 26
  clear hcr hc hlim hcap
  go_enter Tryz.func48,Tryz.ntmps48
  go_wp2_with (at_builtin;refine wpList_append_at _ rfl _ _ _ _ rfl _ _ rfl rfl _ _ hr ?_)
  go_ret
  exact ⟨_,rfl,hN⟩
set_option maxHeartbeats 4000000 in
set_option maxRecDepth 100000 in
theorem clone139:PrimSpec Tryz.prog 139 (.clone (.int .i64)):=by
 intro A w v ys hs hA hlim
 refine .inr ⟨enter_of Tryz.func139 (by kernel_rfl) _ _,?_⟩
 have hty:tyB Tryz.prog (.slice (.int .i64)) 56=true:=by kernel_rfl
 have hcr:=fun ty e1=>clone_row (ty:=ty) (e1:=e1) hty (by decide) hs hA hlim rfl
 obtain ⟨a,cap,rfl,hcap,hc⟩:=hs
 cases a with
 |none=>
  have h0:ys.length=0:=by
   rcases Nat.eq_zero_or_pos ys.length with h|h
   ·exact h
   ·obtain ⟨ad,e,_⟩:=hc h;cases e
  have hy:ys=[]:=List.eq_nil_of_length_eq_zero h0
  clear hcr hc hlim hcap
  subst hy
  have hnl:=fun W=>Lib.run_eql_slice_nil (P:=Tryz.prog) W 56 3 none 0 cap 0 0 Tryz.underlying56
  go_enter Tryz.func139,Tryz.ntmps139
  go_wp2
  go_ret
  exact ⟨_,rfl,⟨none,0,0⟩,⟨rfl,rfl,rfl⟩,⟨rfl,rfl,rfl⟩,fun b h=>(by cases h),Keep.refl _ _⟩
 |some a=>
  have hnl:=fun W=>Lib.run_eql_slice_nil (P:=Tryz.prog) W 56 3 (some a) ys.length cap 0 0 Tryz.underlying56
  obtain ⟨v',w',hr,hN⟩:=hcr 56 3
  clear hcr hc hlim hcap
  go_enter Tryz.func139,Tryz.ntmps139
  go_wp2_with (at_builtin;refine wpList_append_at _ rfl _ _ _ _ rfl _ _ rfl rfl _ _ hr ?_)
  go_ret
  exact ⟨_,rfl,hN⟩
set_option maxHeartbeats 4000000 in
set_option maxRecDepth 100000 in
theorem clone144:PrimSpec Tryz.prog 144 (.clone t1):=by
 intro A w v ys hs hA hlim
 refine .inr ⟨enter_of Tryz.func144 (by kernel_rfl) _ _,?_⟩
 have hty:tyB Tryz.prog (.slice t1) 55=true:=by kernel_rfl
 have hcr:=fun ty e1=>clone_row (ty:=ty) (e1:=e1) hty (by decide) hs hA hlim rfl
 obtain ⟨a,cap,rfl,hcap,hc⟩:=hs
 cases a with
 |none=>
  have h0:ys.length=0:=by
   rcases Nat.eq_zero_or_pos ys.length with h|h
   ·exact h
   ·obtain ⟨ad,e,_⟩:=hc h;cases e
  have hy:ys=[]:=List.eq_nil_of_length_eq_zero h0
  clear hcr hc hlim hcap
  subst hy
  have hnl:=fun W=>Lib.run_eql_slice_nil (P:=Tryz.prog) W 55 52 none 0 cap 0 0 Tryz.underlying55
  go_enter Tryz.func144,Tryz.ntmps144
  go_wp2
  go_ret
  exact ⟨_,rfl,⟨none,0,0⟩,⟨rfl,rfl,rfl⟩,⟨rfl,rfl,rfl⟩,fun b h=>(by cases h),Keep.refl _ _⟩
 |some a=>
  have hnl:=fun W=>Lib.run_eql_slice_nil (P:=Tryz.prog) W 55 52 (some a) ys.length cap 0 0 Tryz.underlying55
  obtain ⟨v',w',hr,hN⟩:=hcr 55 52
  clear hcr hc hlim hcap
  go_enter Tryz.func144,Tryz.ntmps144
  go_wp2_with (at_builtin;refine wpList_append_at _ rfl _ _ _ _ rfl _ _ rfl rfl _ _ hr ?_)
  go_ret
  exact ⟨_,rfl,hN⟩
set_option maxHeartbeats 4000000 in
set_option maxRecDepth 100000 in
theorem clone145:PrimSpec Tryz.prog 145 (.clone .bool):=by
 intro A w v ys hs hA hlim
 refine .inr ⟨enter_of Tryz.func145 (by kernel_rfl) _ _,?_⟩
 have hty:tyB Tryz.prog (.slice .bool) 57=true:=by kernel_rfl
 have hcr:=fun ty e1=>clone_row (ty:=ty) (e1:=e1) hty (by decide) hs hA hlim rfl
 obtain ⟨a,cap,rfl,hcap,hc⟩:=hs
 cases a with
 |none=>
  have h0:ys.length=0:=by
   rcases Nat.eq_zero_or_pos ys.length with h|h
   ·exact h
   ·obtain ⟨ad,e,_⟩:=hc h;cases e
  have hy:ys=[]:=List.eq_nil_of_length_eq_zero h0
  clear hcr hc hlim hcap
  subst hy
  have hnl:=fun W=>Lib.run_eql_slice_nil (P:=Tryz.prog) W 57 4 none 0 cap 0 0 Tryz.underlying57
  go_enter Tryz.func145,Tryz.ntmps145
  go_wp2
  go_ret
  exact ⟨_,rfl,⟨none,0,0⟩,⟨rfl,rfl,rfl⟩,⟨rfl,rfl,rfl⟩,fun b h=>(by cases h),Keep.refl _ _⟩
 |some a=>
  have hnl:=fun W=>Lib.run_eql_slice_nil (P:=Tryz.prog) W 57 4 (some a) ys.length cap 0 0 Tryz.underlying57
  obtain ⟨v',w',hr,hN⟩:=hcr 57 4
  clear hcr hc hlim hcap
  go_enter Tryz.func145,Tryz.ntmps145
  go_wp2_with (at_builtin;refine wpList_append_at _ rfl _ _ _ _ rfl _ _ rfl rfl _ _ hr ?_)
  go_ret
  exact ⟨_,rfl,hN⟩
set_option maxHeartbeats 4000000 in
set_option maxRecDepth 100000 in
theorem clone146:PrimSpec Tryz.prog 146 (.clone t3):=by
 intro A w v ys hs hA hlim
 refine .inr ⟨enter_of Tryz.func146 (by kernel_rfl) _ _,?_⟩
 have hty:tyB Tryz.prog (.slice t3) 60=true:=by kernel_rfl
 have hcr:=fun ty e1=>clone_row (ty:=ty) (e1:=e1) hty (by decide) hs hA hlim rfl
 obtain ⟨a,cap,rfl,hcap,hc⟩:=hs
 cases a with
 |none=>
  have h0:ys.length=0:=by
   rcases Nat.eq_zero_or_pos ys.length with h|h
   ·exact h
   ·obtain ⟨ad,e,_⟩:=hc h;cases e
  have hy:ys=[]:=List.eq_nil_of_length_eq_zero h0
  clear hcr hc hlim hcap
  subst hy
  have hnl:=fun W=>Lib.run_eql_slice_nil (P:=Tryz.prog) W 60 224 none 0 cap 0 0 Tryz.underlying60
  go_enter Tryz.func146,Tryz.ntmps146
  go_wp2
  go_ret
  exact ⟨_,rfl,⟨none,0,0⟩,⟨rfl,rfl,rfl⟩,⟨rfl,rfl,rfl⟩,fun b h=>(by cases h),Keep.refl _ _⟩
 |some a=>
  have hnl:=fun W=>Lib.run_eql_slice_nil (P:=Tryz.prog) W 60 224 (some a) ys.length cap 0 0 Tryz.underlying60
  obtain ⟨v',w',hr,hN⟩:=hcr 60 224
  clear hcr hc hlim hcap
  go_enter Tryz.func146,Tryz.ntmps146
  go_wp2_with (at_builtin;refine wpList_append_at _ rfl _ _ _ _ rfl _ _ rfl rfl _ _ hr ?_)
  go_ret
  exact ⟨_,rfl,hN⟩
end Go.Proofs.YtkihjakbbcajbaaGreat.PM
