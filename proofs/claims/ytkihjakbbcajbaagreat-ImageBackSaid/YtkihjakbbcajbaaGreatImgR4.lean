/- Parts of the proof, joined: TbDo, TbDt, TbDu, TbR3, PM28, PM29, ImgP1, ImgP2, ImgP3, ImgP4, ImgP5, ImgR1, ImgR2, ImgR3, ImgR4. -/
import Derived.Test.YtkihjakbbcajbaaGreatTbDp
import Derived.ProofKit
import Derived.OpenShut
import Derived.Deep.Slices
import Derived.ShutString
import Derived.ChangeOld
import Derived.SizedLaws
import Derived.Carry
namespace Go.Proofs.YtkihjakbbcajbaaGreat.TB
set_option linter.unusedSimpArgs false
set_option linter.unusedVariables false
open Go Go.Proofs Go.Proofs.YtkihjakbbcajbaaGreat.PM Go.Proofs.YtkihjakbbcajbaaGreat.RP
theorem set_nat {α:Type} {l:List α} {i:Int} {j:Nat} {v d:α} (h0:0≤i) (h1:i<l.length):(l.set i.toNat v).getD j d=if i=(j:Int) then v else l.getD j d:=by
 have:=set_at (l:=l) (v:=v) (d:=d) h0 h1 (j:=(j:Int)) (by omega)
 rw [toNat_cast] at this
 exact this
theorem chain_set {next:List Int} {k i v:Int} {l:List Int} (h:Chain next k l) (h0:0≤i) (h1:i<next.length) (n:¬i∈l):Chain (next.set i.toNat v) k l:=by
 induction h with
 |nil=>exact .nil
 |@cons k l a b c ih=>
  have hne:i≠k:=fun e=>n (by rw [e];exact List.mem_cons_self)
  refine .cons a (by rw [List.length_set];exact b) ?_
  rw [set_at h0 h1 a,if_neg hne]
  exact ih fun m=>n (List.mem_cons_of_mem _ m)
theorem arena_twin_f {next:List Int} {used:List Bool} {free:Int} (h1:next.length≤1000) (h2:used.length≤1000):gb.F (next,used,free,())=some ((next,used,free,()),()):=by
 rw [gb.F_eq]
 dsimp only
 rw [lim_small (by decide) (by omega),lim_small (by decide) (by omega)]
theorem arena_Take_ok {next:List Int} {used:List Bool} {free i:Int} {l:List Int} (g:AGood next used free (i::l)):
  dx.F (next,used,free,())=some ((next.set i.toNat (-1),used.set i.toNat true,next.getD i.toNat 0,()),i,0,())∧AGood (next.set i.toNat (-1)) (used.set i.toNat true) (next.getD i.toNat 0) l∧0≤i∧i<used.length∧used.getD i.toNat false=false:=by
 obtain rfl:free=i:=by cases g.chain with
  |cons _ _ _=>rfl
 have h1:=g.low
 have h2:=g.high
 have h3:=g.same
 have hn:=List.nodup_cons.1 g.nodup
 have hc:=g.chain
 have hm:=g.mark
 have he:=g.end_
 cases hc with
 |cons a b c=>
  have hu:used.getD free.toNat false=false:=by
   apply bool_not
   intro h
   have:=(hm free.toNat (by omega)).1 h
   rw [show ((free.toNat:Nat):Int)=free by omega] at this
   exact this List.mem_cons_self
  refine ⟨?_,⟨by rw [List.length_set];exact h1,by rw [List.length_set];exact h2,by rw [List.length_set,List.length_set];exact h3,chain_set c a b hn.1,hn.2,?_,?_⟩,a,by omega,hu⟩
  ·rw [dx.F_eq,(arena_says next used free).yes ⟨_,g⟩,ob,bne_neg rfl,dx.L1_eq]
   dsimp only
   rw [beq_neg (by omega),dx.L2_eq,arena_twin_f (by omega) (by omega),ob,bd_pos (by omega),bd_pos (by dsimp only;omega),bd_pos (by dsimp only;omega)]
  ·intro j hj
   rw [List.length_set] at hj
   rw [set_nat a (by omega)]
   by_cases e:free=(j:Int)
   ·rw [if_pos e,←e];exact ⟨fun _=>hn.1,fun _=>rfl⟩
   ·rw [if_neg e,hm j hj,List.mem_cons]
    exact ⟨fun h h2=>h (.inr h2),fun h h2=>h2.elim (fun q=>e q.symm) h⟩
  ·intro j hj h
   rw [List.length_set] at hj
   rw [set_nat a b]
   by_cases e:free=(j:Int)
   ·rw [if_pos e]
   ·rw [if_neg e]
    rw [set_nat a (by omega),if_neg e] at h
    exact he j hj h
theorem lru_check_f {prev next:List Int} {head tail p:Int} {l:List Int} (g:OGood prev next head tail l) (h0:0≤p) (h1:p<prev.length):f8.F (prev,next,head,tail,()) p=some (0,()):=by
 rw [f8.F_eq,(lru_says prev next head tail).yes ⟨l,g⟩,ob,bne_neg rfl,f8.L1_eq,bd_neg (by omega),bd_neg (by dsimp only;omega),f8.L2_eq]
theorem lru_twin_f {prev next:List Int} {head tail:Int} (h1:prev.length≤1000) (h2:next.length≤1000):gi.F (prev,next,head,tail,())=some ((prev,next,head,tail,()),()):=by
 rw [gi.F_eq]
 dsimp only
 rw [lim_small (by decide) (by omega),lim_small (by decide) (by omega)]
theorem rd_PV2 {n:Nat} {L:List Int} {i:Int} (h0:0≤i) (h1:i<n):(PV n L).getD i.toNat 0=pv (-1) L i:=rd_PV h0 h1
theorem rd_NX2 {n:Nat} {L:List Int} {i:Int} (h0:0≤i) (h1:i<n):(NX n L).getD i.toNat 0=nx (-1) L i:=rd_NX h0 h1
theorem lru_in_f {n:Nat} {l:List Int} (h:Ok n l) {p:Int} (h0:0≤p) (h1:p<n):gm.F (PV n l,NX n l,hd (-1) l,lst (-1) l,()) p=some (decide (p∈l),()):=by
 rw [gm.F_eq]
 dsimp only
 by_cases e:hd (-1) l=p
 ·have m:p∈l:=by
   rw [←e]
   refine hd_mem (fun hl=>?_) _
   rw [hl] at e
   have:(-1:Int)=p:=e
   omega
  rw [beq_pos e,decide_eq_true m]
 ·rw [beq_neg e,PV_len,bd_pos (by omega),rd_PV2 h0 h1]
  by_cases m:p∈l
  ·obtain ⟨A,B,rfl⟩:=List.append_of_mem m
   obtain ⟨hA,hB,hx⟩:=h.app
   have hpA:p∉A:=fun q=>hx p q List.mem_cons_self
   have hne:A≠[]:=by
    rintro rfl
    exact e rfl
   have hl:=hA.2 _ (lst_mem hne (-1))
   have q:(lst (-1) A !=(-1:Int))=true:=bne_iff_ne.2 (by omega)
   rw [pv_app,if_neg hpA,pv,if_pos rfl,decide_eq_true m,q]
  ·rw [pv_out m,decide_eq_false m];rfl
theorem hd_del {A B:List Int} {p:Int} (h:A≠[]):hd (-1) (A++p::B)=hd (-1) (A++B):=by
 cases A with
 |nil=>exact absurd rfl h
 |cons a A=>rfl
theorem lst_del {A B:List Int} {p:Int} (h:B≠[]):lst (-1) (A++p::B)=lst (-1) (A++B):=by
 rw [lst_app,lst_app]
 cases B with
 |nil=>exact absurd rfl h
 |cons b B=>rfl
theorem lru_out_f {n:Nat} {A B:List Int} {p:Int} (h:Ok n (A++p::B)):fh.F (PV n (A++p::B),NX n (A++p::B),hd (-1) (A++p::B),lst (-1) (A++p::B),()) p=some ((PV n (A++B),NX n (A++B),hd (-1) (A++B),lst (-1) (A++B),()),()):=by
 obtain ⟨hA,hpB,hx⟩:=h.app
 have hp:=hpB.2 p List.mem_cons_self
 have hB:Ok n B:=⟨(List.nodup_cons.1 hpB.1).2,fun x hx=>hpB.2 x (List.mem_cons_of_mem _ hx)⟩
 have hpA:p∉A:=fun q=>hx p q List.mem_cons_self
 have e1:pv (-1) (A++p::B) p=lst (-1) A:=by rw [pv_app,if_neg hpA,pv,if_pos rfl]
 have e2:nx (-1) (A++p::B) p=hd (-1) B:=by rw [nx_app,if_neg hpA,nx,if_pos rfl]
 have po:=PV_out h
 have no:=NX_out h
 unfold putIf at po no
 rw [fh.F_eq]
 dsimp only
 rw [PV_len,NX_len,bd_pos (by omega),bd_pos (by omega),rd_PV2 hp.1 hp.2,rd_NX2 hp.1 hp.2,e1,e2]
 have fin:∀(hh tt:Int) (P N:List Int),P.length=n→N.length=n→fh.L2 p hh tt P N=some ((P.set p.toNat (-1),N.set p.toNat (-1),hh,tt,()),()):=fun hh tt P N hP hN=>by
  rw [fh.L2_eq,bd_pos (by omega),bd_pos (by omega)]
 by_cases a:lst (-1) A= -1
 ·have eA:A=[]:=(hA.lst_ne).1 a
  rw [if_pos a] at no
  rw [beq_pos a,fh.L1_eq]
  by_cases b:hd (-1) B= -1
  ·have eB:B=[]:=(hB.hd_ne).1 b
   rw [if_pos b] at po
   rw [beq_pos b,fin _ _ _ _ (PV_len _ _) (NX_len _ _),po,no,a,b,eA,eB]
   rfl
  ·have hne:B≠[]:=fun q=>b ((hB.hd_ne).2 q)
   have hh:=hB.2 _ (hd_mem hne (-1))
   rw [if_neg b] at po
   rw [beq_neg b,PV_len,bd_pos (by omega),fin _ _ _ _ (by rw [List.length_set,PV_len]) (NX_len _ _),po,no,lst_del hne,eA]
   rfl
 ·have hne:A≠[]:=fun q=>a ((hA.lst_ne).2 q)
  have hl:=hA.2 _ (lst_mem hne (-1))
  rw [if_neg a] at no
  rw [beq_neg a,bd_pos (by omega),fh.L1_eq]
  by_cases b:hd (-1) B= -1
  ·have eB:B=[]:=(hB.hd_ne).1 b
   rw [if_pos b] at po
   rw [beq_pos b,fin _ _ _ _ (PV_len _ _) (by rw [List.length_set,NX_len]),po,no,hd_del hne,eB,List.append_nil]
  ·have hneB:B≠[]:=fun q=>b ((hB.hd_ne).2 q)
   have hh:=hB.2 _ (hd_mem hneB (-1))
   rw [if_neg b] at po
   rw [beq_neg b,PV_len,bd_pos (by omega),fin _ _ _ _ (by rw [List.length_set,PV_len]) (by rw [List.length_set,NX_len]),po,no,hd_del hne,lst_del hneB]
theorem erase_mid {A B:List Int} {p:Int} (h:p∉A):(A++p::B).erase p=A++B:=by
 rw [List.erase_append_right _ h,List.erase_cons_head]
theorem lru_Touch_ok {prev next:List Int} {head tail p:Int} {l:List Int} (g:OGood prev next head tail l) (h0:0≤p) (hp1:p<prev.length):
  ∃prev' next':List Int,∃head' tail':Int,dj.F (prev,next,head,tail,()) p=some ((prev',next',head',tail',()),0,())∧OGood prev' next' head' tail' (p::l.erase p)∧prev'.length=prev.length:=by
 have ok:=g.ok
 have h1:=g.low
 have h2:=g.high
 have ck:=lru_check_f g h0 hp1
 obtain ⟨m1,m2,m3,m4⟩:=g.made
 generalize hn:prev.length=n at ok h1 h2 hp1 m1 m2
 rw [m1,m2,m3,m4] at ck ⊢
 have okL:Ok n (l.erase p):=⟨ok.1.erase p,fun x hx=>ok.2 x (List.mem_of_mem_erase hx)⟩
 have np:p∉l.erase p:=fun q=>((ok.1.mem_erase_iff).1 q).1 rfl
 have okp:Ok n (p::l.erase p):=⟨List.nodup_cons.2 ⟨np,okL.1⟩,fun x hx=>by
  rcases List.mem_cons.1 hx with rfl|q
  ·exact ⟨h0,hp1⟩
  ·exact okL.2 x q⟩
 refine ⟨_,_,_,_,?_,OGood.of h1 h2 okp,PV_len _ _⟩
 have l2:dj.L2 p (hd (-1) (l.erase p)) (lst (-1) (l.erase p)) [] (PV n (l.erase p)) (NX n (l.erase p))=some ((PV n (p::l.erase p),NX n (p::l.erase p),hd (-1) (p::l.erase p),lst (-1) (p::l.erase p),()),0,()):=by
  generalize l.erase p=L at okL okp np
  rw [dj.L2_eq,NX_len,bd_pos (by omega),PV_cons okp,NX_cons okp]
  unfold putIf
  by_cases e:hd (-1) L= -1
  ·have eL:L=[]:=(okL.hd_ne).1 e
   rw [beq_pos e,dj.L3_eq,if_pos e,eL]
   rfl
  ·have hne:L≠[]:=fun q=>e ((okL.hd_ne).2 q)
   have hh:=okL.2 _ (hd_mem hne (-1))
   rw [beq_neg e,PV_len,bd_pos (by omega),dj.L3_eq,if_neg e]
   show some ((_,_,p,lst (-1) L,()),0,())=some ((_,_,p,lst p L,()),0,())
   rw [lst_any hne (-1) p]
 rw [dj.F_eq,ck,ob,bne_neg rfl,dj.L1_eq]
 dsimp only
 rw [lru_twin_f (by rw [PV_len];omega) (by rw [NX_len];omega),ob,lru_in_f ok h0 hp1,ob]
 by_cases m:p∈l
 ·rw [decide_eq_true m,bt rfl]
  obtain ⟨A,B,rfl⟩:=List.append_of_mem m
  have hpA:p∉A:=fun q=>(ok.app).2.2 p q List.mem_cons_self
  rw [erase_mid hpA] at l2 ⊢
  rw [lru_out_f ok,ob,l2]
 ·rw [decide_eq_false m,bf rfl]
  rw [List.erase_of_not_mem m] at l2 ⊢
  exact l2
end Go.Proofs.YtkihjakbbcajbaaGreat.TB
namespace Go.Proofs.YtkihjakbbcajbaaGreat.TB
set_option linter.unusedSimpArgs false
set_option linter.unusedVariables false
open Go Go.Proofs Go.Proofs.YtkihjakbbcajbaaGreat.PM Go.Proofs.YtkihjakbbcajbaaGreat.RP
section
variable {cap:Int} {keys:List Int} {bks:List t1.den} {next:List Int} {used:List Bool} {free:Int} {x:List t3.den} {prev nxt:List Int} {head tail:Int} {l:List Int}
theorem TGood.lens (g:TGood cap keys bks next used free x prev nxt head tail l):keys.length=used.length∧bks.length=used.length∧next.length=used.length∧prev.length=used.length∧cap=(used.length:Int)∧used.length≤8∧1≤used.length:=by
 have a1:=g.nkeys
 have a2:=g.nbks
 have a3:=g.nnext
 have a4:=g.nprev
 have a5:=g.low
 have a6:=g.high
 obtain ⟨_,ga⟩:=g.arena
 have a7:=ga.same
 refine ⟨by omega,by omega,by omega,by omega,by omega,by omega,by omega⟩
theorem TGood.mem_range (g:TGood cap keys bks next used free x prev nxt head tail l) {p:Int} (m:p∈l):0≤p∧p<used.length:=by
 have h:=g.order.ok.2 p m
 have:=g.lens
 omega
theorem TGood.mem_used (g:TGood cap keys bks next used free x prev nxt head tail l) {p:Int} (h0:0≤p) (h1:p<used.length):used.getD p.toNat false=true↔p∈l:=by
 have:=(g.row p.toNat (by omega)).1
 rw [show ((p.toNat:Nat):Int)=p by omega] at this
 exact this
theorem TGood.has_of (g:TGood cap keys bks next used free x prev nxt head tail l) {p:Int} (m:p∈l):Has x (keys.getD p.toNat 0) p:=by
 have hr:=g.mem_range m
 have u:=(g.mem_used hr.1 hr.2).2 m
 have:=((g.row p.toNat (by omega)).2.2 u).1
 rw [show ((p.toNat:Nat):Int)=p by omega] at this
 exact this
theorem TGood.plc (g:TGood cap keys bks next used free x prev nxt head tail l):∀p,(plc x).count p=l.count p:=by
 have hcl:=count_mem g.order.nodup (fun y hy=>g.mem_range hy) (fun i hi=>(g.row i hi).1)
 have hc:=g.count
 exact count_of_sub g.order.nodup (fun y hy=>(mem_plc g.index.len).2 (by
  obtain ⟨j,a,b,c,_,e⟩:=g.has_of hy
  exact ⟨j,a,b,c,e⟩)) (by rw [plc_len];omega)
theorem TGood.len (g:TGood cap keys bks next used free x prev nxt head tail l):cnt x=l.length:=by
 have hcl:=count_mem g.order.nodup (fun y hy=>g.mem_range hy) (fun i hi=>(g.row i hi).1)
 have hc:=g.count
 omega
theorem TGood.has_mem (g:TGood cap keys bks next used free x prev nxt head tail l) {k p:Int} (h:Has x k p):p∈l:=by
 obtain ⟨j,a,b,c,_,e⟩:=h
 have h1:p∈TB.plc x:=(mem_plc g.index.len).2 ⟨j,a,b,c,e⟩
 have:=List.count_pos_iff.2 h1
 rw [g.plc] at this
 exact List.count_pos_iff.1 this
theorem TGood.has_inj (g:TGood cap keys bks next used free x prev nxt head tail l) {k k' p:Int} (h:Has x k p) (h':Has x k' p):k=k':=by
 have hnd:(TB.plc x).Nodup:=nodup_of_count fun q=>by rw [g.plc];exact List.nodup_iff_count.1 g.order.nodup q
 have hx:=g.index.len
 have cell:∀j:Int,0≤j→j<16→cl x j∈x:=fun j h0 h1=>by
  have hj:j.toNat<x.length:=by omega
  have e2:=cl_get hj
  rw [show ((j.toNat:Nat):Int)=j by omega] at e2
  rw [e2];exact List.getElem_mem hj
 obtain ⟨j,a,b,c,d,e⟩:=h
 obtain ⟨j',a',b',c',d',e'⟩:=h'
 have:=inj_of_nodup_map hnd (cl x j) (List.mem_filter.2 ⟨cell j a b,c⟩) (cl x j') (List.mem_filter.2 ⟨cell j' a' b',c'⟩) (e.trans e'.symm)
 rw [←d,←d',this]
theorem TGood.has_key (g:TGood cap keys bks next used free x prev nxt head tail l) {k p:Int} (h:Has x k p):keys.getD p.toNat 0=k:=g.has_inj (g.has_of (g.has_mem h)) h
theorem TGood.or_none (g:TGood cap keys bks next used free x prev nxt head tail l) (k:Int):(∃p,Has x k p)∨∀p,¬Has x k p:=by
 by_cases h:∃p,Has x k p
 ·exact .inl h
 ·exact .inr fun p hp=>h ⟨p,hp⟩
theorem place_has (g:TGood cap keys bks next used free x prev nxt head tail l) {k p:Int} (h:Has x k p):dz.F (cap,keys,bks,(next,used,free,()),x,(prev,nxt,head,tail,()),()) k=some (p,()):=by
 rw [dz.F_eq]
 dsimp only
 rw [find_has g.index h,ob,bne_neg rfl,dz.L1_eq]
theorem place_none (g:TGood cap keys bks next used free x prev nxt head tail l) {k:Int} (h:∀p,¬Has x k p):dz.F (cap,keys,bks,(next,used,free,()),x,(prev,nxt,head,tail,()),()) k=some (-1,()):=by
 rw [dz.F_eq]
 dsimp only
 rw [find_none g.index h,ob,bne_pos (by decide)]
theorem countP_set {u:List Bool} {i:Int} {b:Bool} (h0:0≤i) (h1:i<u.length):(u.set i.toNat b).countP id+(if u.getD i.toNat false=true then 1 else 0)=u.countP id+(if b=true then 1 else 0):=by
 have hi:i.toNat<u.length:=by omega
 rw [List.countP_set hi,getD_get hi]
 simp only [id]
 by_cases h:u[i.toNat]=true
 ·have:0<u.countP id:=List.countP_pos_iff.2 ⟨u[i.toNat],List.getElem_mem _,h⟩
  rw [if_pos h]
  have e:u.countP (fun a=>a)=u.countP id:=rfl
  omega
 ·rw [if_neg h]
  have e:u.countP (fun a=>a)=u.countP id:=rfl
  omega
theorem touch_good (g:TGood cap keys bks next used free x prev nxt head tail l) {p:Int} (m:p∈l):
  ∃(prev' nxt':List Int) (head' tail':Int),dj.F (prev,nxt,head,tail,()) p=some ((prev',nxt',head',tail',()),0,())∧TGood cap keys bks next used free x prev' nxt' head' tail' (p::l.erase p):=by
 have hr:=g.mem_range m
 obtain ⟨l1,l2,l3,l4,l5,l6,l7⟩:=g.lens
 obtain ⟨prev',nxt',head',tail',e2,go,hpl⟩:=lru_Touch_ok g.order hr.1 (by omega)
 refine ⟨prev',nxt',head',tail',e2,⟨g.low,g.high,g.nkeys,g.nbks,g.nnext,by rw [hpl];exact g.nprev,g.arena,g.index,go,fun i hi=>?_,g.count⟩⟩
 obtain ⟨r1,r2,r3⟩:=g.row i hi
 refine ⟨r1.trans ?_,r2,r3⟩
 rw [List.mem_cons,g.order.nodup.mem_erase_iff]
 constructor
 ·intro h
  by_cases e:(i:Int)=p
  ·exact .inl e
  ·exact .inr ⟨e,h⟩
 ·rintro (h|h)
  ·rw [h];exact m
  ·exact h.2
theorem insert_good (g:TGood cap keys bks next used free x prev nxt head tail l) {key:Int} {b:t1.den} (hb:BktOk b) (n:∀p,¬Has x key p) {i:Int} {fl:List Int} (ga:AGood next used free (i::fl)):
  ∃(next':List Int) (used':List Bool) (free':Int) (x':List t3.den) (prev' nxt':List Int) (head' tail':Int),
   dx.F (next,used,free,())=some ((next',used',free',()),i,0,())∧cm.F x key i=some (x',0,())∧dj.F (prev,nxt,head,tail,()) i=some ((prev',nxt',head',tail',()),0,())∧
   TGood cap (keys.set i.toNat key) (bks.set i.toNat b) next' used' free' x' prev' nxt' head' tail' (i::l)∧(∀k q,Has x' k q↔Has x k q∨(k=key∧q=i))∧0≤i∧i<used.length:=by
 obtain ⟨l1,l2,l3,l4,l5,l6,l7⟩:=g.lens
 obtain ⟨e1,ga2,i0,i1,hu⟩:=arena_Take_ok ga
 have nm:i∉l:=fun m=>by
  have:=(g.mem_used i0 i1).2 m
  rw [hu] at this;cases this
 have hlen:=g.len
 have hll:=g.order.ok.len
 obtain ⟨x',e3,px,hx,hc⟩:=probe_Put_ok g.index (key:=key) (place:=i) n i0 (by omega) (by omega)
 obtain ⟨prev',nxt',head',tail',e2,go,hpl⟩:=lru_Touch_ok g.order i0 (by omega)
 rw [List.erase_of_not_mem nm] at go
 refine ⟨_,_,_,x',prev',nxt',head',tail',e1,e3,e2,⟨g.low,g.high,by rw [List.length_set];exact g.nkeys,by rw [List.length_set];exact g.nbks,by rw [List.length_set];exact g.nnext,by rw [hpl];exact g.nprev,⟨_,ga2⟩,px,go,?_,?_⟩,hx,i0,i1⟩
 ·intro j hj
  rw [List.length_set] at hj
  obtain ⟨r1,r2,r3⟩:=g.row j hj
  unfold RowOk
  rw [set_nat i0 (by omega),set_nat i0 (by omega),set_nat i0 (by omega),List.mem_cons]
  by_cases e:i=(j:Int)
  ·rw [if_pos e,if_pos e,if_pos e]
   exact ⟨⟨fun _=> .inl e.symm,fun _=>rfl⟩,fun h=>(by cases h),fun _=>⟨(hx _ _).2 (.inr ⟨rfl,e.symm⟩),hb⟩⟩
  ·rw [if_neg e,if_neg e,if_neg e]
   refine ⟨⟨fun h=> .inr (r1.1 h),fun h=>r1.2 (h.resolve_left fun q=>e q.symm)⟩,r2,fun h=>?_⟩
   obtain ⟨hcell,hb⟩:=r3 h
   exact ⟨(hx _ _).2 (.inl hcell),hb⟩
 ·have h1:=countP_set (b:=true) i0 i1
  rw [if_neg (by rw [hu];decide),if_pos rfl] at h1
  have h2:=g.count
  omega
theorem ttwin_f (g:TGood cap keys bks next used free x prev nxt head tail l):fw.F (cap,keys,bks,(next,used,free,()),x,(prev,nxt,head,tail,()),())=some ((cap,keys,bks,(next,used,free,()),x,(prev,nxt,head,tail,()),()),()):=by
 obtain ⟨l1,l2,l3,l4,l5,l6,l7⟩:=g.lens
 have h1:=g.index.len
 have h2:=g.order.same
 rw [fw.F_eq]
 dsimp only
 rw [lim_small (by decide) (by omega),lim_small (by decide) (by omega),lim_small (by decide) (by omega),lim_small (by decide) (by omega),lim_small (by decide) (by omega),lim_small (by decide) (by omega),lim_small (by decide) (by omega)]
end
end Go.Proofs.YtkihjakbbcajbaaGreat.TB
namespace Go.Proofs.YtkihjakbbcajbaaGreat.TB
set_option linter.unusedSimpArgs false
set_option linter.unusedVariables false
open Go Go.Proofs Go.Proofs.YtkihjakbbcajbaaGreat.PM Go.Proofs.YtkihjakbbcajbaaGreat.RP
@[reducible] noncomputable def fullB (lm:t0.den) (tick:Int):t1.den:=((lm.1,lm.2.1,lm.2.2.1,()),lm.1,0,tick,())
theorem full_f {lm:t0.den} (h:LimOk lm) (tick:Int):f9.F lm tick=some (fullB lm tick,0,()):=by
 rw [f9.F_eq,(limit_says lm).yes h,ob,bne_neg rfl,f9.L1_eq]
theorem full_ok {lm:t0.den} (h:LimOk lm) (tick:Int):BktOk (fullB lm tick):=by
 obtain ⟨h1,h2,h3,h4,h5,h6,_⟩:=h
 refine ⟨⟨h1,h2,h3,h4,h5,h6,trivial⟩,?_,?_,?_,?_,?_⟩
 ·show ¬Z lm.1<0
  omega
 ·show ¬Z lm.1 - Z lm.1<0
  omega
 ·show ¬Z 0<0
  decide
 ·show ¬(0:Int)≥Z lm.2.2.1
  omega
 ·intro _
  show ¬Z 0>0
  decide
theorem full_lev {lm:t0.den} (h:LimOk lm) (tick:Int):Z (fullB lm tick).2.1≤9223372036854775807:=by
 obtain ⟨h1,h2,_⟩:=h
 show Z lm.1≤9223372036854775807
 omega
section
variable {cap:Int} {keys:List Int} {bks:List t1.den} {next:List Int} {used:List Bool} {free:Int} {x:List t3.den} {prev nxt:List Int} {head tail:Int} {l:List Int}
theorem tcheck_f (g:TGood cap keys bks next used free x prev nxt head tail l) (hw:∀c∈bks,Z c.2.1≤9223372036854775807):af.F (cap,keys,bks,(next,used,free,()),x,(prev,nxt,head,tail,()),())=some (0,()):=(table_says _ hw).yes ⟨l,g⟩
theorem use_has (g:TGood cap keys bks next used free x prev nxt head tail l) (hw:∀c∈bks,Z c.2.1≤9223372036854775807) {lm:t0.den} (hl:LimOk lm) (tick:Int) {key p:Int} (h:Has x key p) {prev' nxt':List Int} {head' tail':Int}
  (e:dj.F (prev,nxt,head,tail,()) p=some ((prev',nxt',head',tail',()),0,())):
  cu.F (cap,keys,bks,(next,used,free,()),x,(prev,nxt,head,tail,()),()) key lm tick=some ((cap,keys,bks,(next,used,free,()),x,(prev',nxt',head',tail',()),()),0,false,0,()):=by
 have hr:=g.mem_range (g.has_mem h)
 rw [cu.F_eq,tcheck_f g hw,ob,bne_neg rfl,cu.L1_eq]
 rw [show f9.F _ tick=_ from full_f hl tick,ob,bne_neg rfl,cu.L2_eq,ttwin_f g,ob,place_has g h,ob,bd_neg (by dsimp only;omega),cu.L4_eq,e,ob]
theorem use_new (g:TGood cap keys bks next used free x prev nxt head tail l) (hw:∀c∈bks,Z c.2.1≤9223372036854775807) {lm:t0.den} (hl:LimOk lm) (tick:Int) {key:Int} (n:∀p,¬Has x key p) {next':List Int} {used':List Bool} {free' i:Int} {x':List t3.den} {prev' nxt':List Int} {head' tail':Int}
  (e1:dx.F (next,used,free,())=some ((next',used',free',()),i,0,())) (e2:cm.F x key i=some (x',0,())) (e3:dj.F (prev,nxt,head,tail,()) i=some ((prev',nxt',head',tail',()),0,())) (i0:0≤i) (i1:i<used.length):
  cu.F (cap,keys,bks,(next,used,free,()),x,(prev,nxt,head,tail,()),()) key lm tick=some ((cap,keys.set i.toNat key,bks.set i.toNat (fullB lm tick),(next',used',free',()),x',(prev',nxt',head',tail',()),()),0,false,0,()):=by
 obtain ⟨l1,l2,l3,l4,l5,l6,l7⟩:=g.lens
 rw [cu.F_eq,tcheck_f g hw,ob,bne_neg rfl,cu.L1_eq]
 rw [show f9.F _ tick=_ from full_f hl tick,ob,bne_neg rfl,cu.L2_eq,ttwin_f g,ob,place_none g n,ob,bd_pos (by decide),show dx.F _=_ from e1,ob,bne_neg rfl,cu.L3_eq,show dx.F _=_ from e1,ob,e2,ob,bd_pos (by dsimp only;omega),bd_pos (by dsimp only;omega),cu.L4_eq,e3,ob]
theorem keys_f (g:TGood cap keys bks next used free x prev nxt head tail l) (hw:∀c∈bks,Z c.2.1≤9223372036854775807):dr.F (cap,keys,bks,(next,used,free,()),x,(prev,nxt,head,tail,()),())=some (l.map (fun p=>keys.getD p.toNat 0),0,()):=by
 obtain ⟨l1,l2,l3,l4,l5,l6,l7⟩:=g.lens
 have hs:=g.order.short
 rw [dr.F_eq,tcheck_f g hw,ob,bne_neg rfl,dr.L1_eq,lru_List_ok g.order,ob]
 have h2:=loop_go (n:=l.length) (L:=fun i=>dr.L2 (l.length:Int) (i:Int) cap keys bks next used free x prev nxt head tail ((l.take i).map (fun p=>keys.getD p.toNat 0)) l) (fun i hi=>by
  have hm:l.getD i 0∈l:=by rw [getD_get hi];exact List.getElem_mem hi
  have hr:=g.mem_range hm
  try dsimp only
  rw [dr.L2_eq,bd_pos (by omega),dr.L3_eq,bd_pos (by omega)]
  simp only [toNat_cast]
  rw [bd_pos (by omega),lim_small (by decide) (by simp;omega),W_eq (by omega) (by omega),cast_add1,take_snoc hi,List.map_append]
  rfl)
 refine Eq.trans h2 ?_
 try dsimp only
 rw [dr.L2_eq,bd_neg (by omega),List.take_of_length_le (Nat.le_refl _)]
theorem all_used {fl:List Int} (ga:AGood next used free fl):used.countP id=used.length↔fl=[]:=by
 constructor
 ·intro h
  have h1:=List.countP_eq_length.1 h
  cases fl with
  |nil=>rfl
  |cons i fl=>
   have hi:=ga.chain.range i List.mem_cons_self
   have hs:=ga.same
   have hlt:i.toNat<used.length:=by omega
   have:=h1 used[i.toNat] (List.getElem_mem hlt)
   rw [←getD_get (d:=false) hlt] at this
   have:=(ga.mark i.toNat hlt).1 this
   rw [show ((i.toNat:Nat):Int)=i by omega] at this
   exact absurd List.mem_cons_self this
 ·rintro rfl
  refine List.countP_eq_length.2 fun b hb=>?_
  obtain ⟨i,hi,rfl⟩:=List.mem_iff_getElem.1 hb
  have:=(ga.mark i hi).2 (by simp)
  rw [getD_get hi] at this
  exact this
end
end Go.Proofs.YtkihjakbbcajbaaGreat.TB
namespace Go.Proofs.YtkihjakbbcajbaaGreat.TB
set_option linter.unusedSimpArgs false
set_option linter.unusedVariables false
open Go Go.Proofs Go.Proofs.YtkihjakbbcajbaaGreat.PM Go.Proofs.YtkihjakbbcajbaaGreat.RP Go.Proofs.YtkihjakbbcajbaaGreat.Kd
@[reducible] noncomputable def z0_:t0.den:=(0,0,0,())
def Lims (l:List t0.den):Prop:=∀i:Nat,i<3→LimOk (l.getD i z0_)
theorem valid_f (l:List t0.den):(Lims l∧dg.F l=some (true,()))∨(¬Lims l∧dg.F l=some (false,())):=by
 rw [dg.F_eq]
 rcases loop_all (n:=3) (L:=fun i=>dg.L1 l (i:Int)) (ok:=fun i=>LimOk (l.getD i z0_)) (stop:=some (false,())) (fun i hi=>by
  try dsimp only
  rw [dg.L1_eq,bd_pos (by omega),dg.L2_eq,bd_pos (by omega)]
  simp only [toNat_cast]
  rcases limit_says (l.getD i z0_) with ⟨h,e⟩|⟨h,e⟩
  ·rw [e,ob,bne_neg rfl,dg.L3_eq,W_eq (by omega) (by omega),cast_add1];exact .inl ⟨h,rfl⟩
  ·rw [e,ob,bne_pos (by decide)];exact .inr ⟨h,rfl⟩) with ⟨h,e⟩|⟨h,e⟩
 ·refine .inl ⟨h,Eq.trans e ?_⟩
  try dsimp only
  rw [dg.L1_eq,bd_neg (by decide)]
 ·exact .inr ⟨h,e⟩
theorem limited_f (l:List t0.den):(Lims l∧bg.F l=some (true,()))∨(¬Lims l∧bg.F l=some (false,())):=by
 rw [bg.F_eq]
 rcases loop_all (n:=3) (L:=fun i=>bg.L1 (i:Int) l) (ok:=fun i=>LimOk (l.getD i z0_)) (stop:=some (false,())) (fun i hi=>by
  try dsimp only
  rw [bg.L1_eq,bd_pos (by omega),bg.L2_eq,bd_pos (by omega)]
  simp only [toNat_cast]
  rcases rlimit_says (l.getD i z0_) with ⟨h,e⟩|⟨h,e⟩
  ·rw [e,ob,bne_neg rfl,bg.L3_eq,W_eq (by omega) (by omega),cast_add1];exact .inl ⟨h,rfl⟩
  ·rw [e,ob,bne_pos (by decide)];exact .inr ⟨h,rfl⟩) with ⟨h,e⟩|⟨h,e⟩
 ·refine .inl ⟨h,Eq.trans e ?_⟩
  try dsimp only
  rw [bg.L1_eq,bd_neg (by decide)]
 ·exact .inr ⟨h,e⟩
def Alike (t:t5.den) (l:t0.den) (most:Int):Prop:=∀i:Nat,i<List.length t.2.2.2.1.2.1→List.getD t.2.2.2.1.2.1 i false=true→(List.getD t.2.2.1 i b0_).1=l∧¬Z (List.getD t.2.1 i 0)>most
theorem TOk.lens {t:t5.den} (h:TOk t):Z t.1=(List.length t.2.2.2.1.2.1:Int)∧List.length t.2.1=List.length t.2.2.2.1.2.1∧List.length t.2.2.1=List.length t.2.2.2.1.2.1∧List.length t.2.2.2.1.2.1≤8:=by
 obtain ⟨l,g⟩:=h
 have a1:=g.nkeys
 have a2:=g.nbks
 have a3:=g.nnext
 have a4:Z t.1≤8:=g.high
 obtain ⟨_,ga⟩:=g.arena
 have a5:=ga.same
 have a6:(List.length t.2.1:Int)=Z t.1:=a1
 have a7:(List.length t.2.2.1:Int)=Z t.1:=a2
 have a8:(List.length t.2.2.2.1.1:Int)=Z t.1:=a3
 refine ⟨by omega,by omega,by omega,by omega⟩
theorem alike_l1 {cap:Int} {keys:List Int} {bks:List t1.den} {next:List Int} {used:List Bool} {free:Int} {x:List t3.den} {prev:List Int} {nxt:List Int} {head:Int} {tail:Int} {most b1 b12 b13:Int} (hcap:cap=(used.length:Int)) (hk:keys.length=used.length) (hb:bks.length=used.length) (hu:used.length≤8):
  ((∀i:Nat,i<used.length→used.getD i false=true→(bks.getD i b0_).1=(b1,b12,b13,())∧¬Z (keys.getD i 0)>most)∧bp.L1 most 0 cap keys bks next used free x prev nxt head tail b1 b12 b13=some (true,()))∨
  ((¬∀i:Nat,i<used.length→used.getD i false=true→(bks.getD i b0_).1=(b1,b12,b13,())∧¬Z (keys.getD i 0)>most)∧bp.L1 most 0 cap keys bks next used free x prev nxt head tail b1 b12 b13=some (false,())):=by
 rcases loop_all (n:=used.length) (L:=fun i=>bp.L1 most (i:Int) cap keys bks next used free x prev nxt head tail b1 b12 b13) (ok:=fun i=>used.getD i false=true→(bks.getD i b0_).1=(b1,b12,b13,())∧¬Z (keys.getD i 0)>most) (stop:=some (false,())) (fun i hi=>by
  have nx_:bp.L3 most (i:Int) cap keys bks next used free x prev nxt head tail b1 b12 b13=bp.L1 most ((i+1:Nat):Int) cap keys bks next used free x prev nxt head tail b1 b12 b13:=by
   rw [bp.L3_eq,W_eq (by omega) (by omega),cast_add1]
  try dsimp only
  rw [bp.L1_eq,bd_pos (by omega),bp.L2_eq,bd_pos (by omega)]
  simp only [toNat_cast]
  by_cases u:used.getD i false=true
  ·rw [bt u,bd_pos (by omega)]
   by_cases e:(bks.getD i b0_).1=(b1,b12,b13,())
   ·rw [nbeq_neg e,bd_pos (by omega)]
    by_cases k:Z (keys.getD i 0)>most
    ·rw [bd_pos (by exact k)];exact .inr ⟨fun h=>(h u).2 k,rfl⟩
    ·rw [bd_neg (by exact k),nx_];exact .inl ⟨fun _=>⟨e,k⟩,rfl⟩
   ·rw [nbeq_pos e];exact .inr ⟨fun h=>e (h u).1,rfl⟩
  ·rw [bf (bool_not u),nx_];exact .inl ⟨fun h=>absurd h u,rfl⟩) with ⟨h,e⟩|⟨h,e⟩
 ·refine .inl ⟨h,Eq.trans e ?_⟩
  try dsimp only
  rw [bp.L1_eq,bd_neg (by omega)]
 ·exact .inr ⟨h,e⟩
theorem alike_f {t:t5.den} (h:TOk t) (l:t0.den) (most:Int):(Alike t l most∧bp.F t l most=some (true,()))∨(¬Alike t l most∧bp.F t l most=some (false,())):=by
 obtain ⟨h1,h2,h3,h4⟩:=h.lens
 rw [bp.F_eq]
 exact alike_l1 h1 h2 h3 h4
def Rises (l:List Int):Prop:=∀i:Nat,i<l.length - 1→¬Z (l.getD i 0)≥l.getD (i+1) 0
theorem rrev_l4 {b0:Int} {b02:List t0.den} {b03:Int} {b04:Int} {b05:Int} {b06:Int} {b07:Int} {b08:Int} {b09:Int} {b010:List Int} {b011:List t1.den} {b012:List Int} {b013:List Bool} {b014:Int} {b015:List t3.den} {b016:List Int} {b017:List Int} {b018:Int} {b019:Int} {b020:Int} {b021:List Int} {b022:List t1.den} {b023:List Int} {b024:List Bool} {b025:Int} {b026:List t3.den} {b027:List Int} {b028:List Int} {b029:Int} {b030:Int} {rv:List Int} {b032:Int} {b033:Int} {b034:Int} (hl:rv.length≤8):Says (Rises rv) (ar.L4 1 b0 b02 b03 b04 b05 b06 b07 b08 b09 b010 b011 b012 b013 b014 b015 b016 b017 b018 b019 b020 b021 b022 b023 b024 b025 b026 b027 b028 b029 b030 rv b032 b033 b034):=by
 rcases loop_all (n:=rv.length - 1) (L:=fun i=>ar.L4 ((i+1:Nat):Int) b0 b02 b03 b04 b05 b06 b07 b08 b09 b010 b011 b012 b013 b014 b015 b016 b017 b018 b019 b020 b021 b022 b023 b024 b025 b026 b027 b028 b029 b030 rv b032 b033 b034) (ok:=fun i=>¬Z (rv.getD i 0)≥rv.getD (i+1) 0) (stop:=some (8,())) (fun i hi=>by
  try dsimp only
  rw [ar.L4_eq,bd_pos (by omega),ar.L5_eq,W_eq (by omega) (by omega),bd_pos (by omega),bd_pos (by omega)]
  simp only [toNat_cast,toNat_sub1 (Nat.succ_pos i)]
  rw [show i+1 - 1=i by omega]
  by_cases a:Z (rv.getD i 0)≥rv.getD (i+1) 0
  ·rw [bd_pos (by exact a)];exact .inr ⟨fun h=>h a,rfl⟩
  ·rw [bd_neg (by exact a),ar.L6_eq,W_eq (by omega) (by omega),cast_add1];exact .inl ⟨a,rfl⟩) with ⟨h,e⟩|⟨h,e⟩
 ·refine .inl ⟨h,Eq.trans e ?_⟩
  try dsimp only
  rw [ar.L4_eq,bd_neg (by omega)]
 ·exact .inr ⟨h,e⟩
theorem prev_l3 {p:t7.den} {n:Int} (hl:List.length p.2.2.2.2.2.1≤8):Says (Rises p.2.2.2.2.2.1) (a9.L2 p n):=by
 rw [a9.L2_eq]
 generalize hr:(p.2.2.2.2.2.1:List Int)=rv at hl ⊢
 rcases loop_all (n:=rv.length) (L:=fun i=>a9.L3 p rv (rv.length:Int) (i:Int) n) (ok:=fun i=>0<i→¬Z (rv.getD (i - 1) 0)≥rv.getD i 0) (stop:=some (8,())) (fun i hi=>by
  have nx_:a9.L5 p rv (rv.length:Int) (i:Int) n=a9.L3 p rv (rv.length:Int) ((i+1:Nat):Int) n:=by
   rw [a9.L5_eq,W_eq (by omega) (by omega),cast_add1]
  try dsimp only
  rw [a9.L3_eq,bd_pos (by omega),a9.L4_eq,bd_pos (by omega)]
  simp only [hr]
  by_cases i0:0<i
  ·rw [bd_pos (by omega),W_eq (by omega) (by omega),bd_pos (by omega)]
   simp only [toNat_cast,toNat_sub1 i0]
   by_cases a:Z (rv.getD (i - 1) 0)≥rv.getD i 0
   ·rw [bd_pos (by exact a)];exact .inr ⟨fun h=>h i0 a,rfl⟩
   ·rw [bd_neg (by exact a),nx_];exact .inl ⟨fun _=>a,rfl⟩
  ·rw [bd_neg (by omega),nx_];exact .inl ⟨fun h=>absurd h i0,rfl⟩) with ⟨h,e⟩|⟨h,e⟩
 ·refine .inl ⟨fun i hi=>?_,Eq.trans e ?_⟩
  ·have:=h (i+1) (by omega) (by omega)
   rw [show i+1 - 1=i by omega] at this
   exact this
  ·try dsimp only
   rw [a9.L3_eq,bd_neg (by omega)]
 ·refine .inr ⟨fun h2=>h fun i hi i0=>?_,e⟩
  have:=h2 (i - 1) (by omega)
  rw [show i - 1+1=i by omega] at this
  exact this
def PartOk (p:t7.den):Prop:=¬Z p.1≥16∧Lims p.2.1∧BktOk p.2.2.1∧TOk p.2.2.2.1∧TOk p.2.2.2.2.1∧p.2.2.1.1=List.getD p.2.1 0 z0_∧Alike p.2.2.2.1 (List.getD p.2.1 1 z0_) 4294967295∧Alike p.2.2.2.2.1 (List.getD p.2.1 2 z0_) 65535∧¬(List.length p.2.2.2.2.2.1:Int)>8∧Rises p.2.2.2.2.2.1
structure TWf (t:t5.den):Prop where
 lev:∀c∈t.2.2.1,Z c.2.1≤9223372036854775807
 cells:Keys t.2.2.2.2.1
 few:List.length t.2.2.2.2.1≤1000
 keys:∀k∈t.2.1,Z k≤4294967295
structure PWf (p:t7.den):Prop where
 three:List.length p.2.1=3
 lev:Z p.2.2.1.2.1≤9223372036854775807
 us:TWf p.2.2.2.1
 es:TWf p.2.2.2.2.1
theorem rpart_says {p:t7.den} (w:PWf p):Says (PartOk p) (ar.F p):=by
 rw [ar.F_eq]
 refine Says.congr (P:=¬Z p.1≥16∧Lims p.2.1∧BktOk p.2.2.1∧p.2.2.1.1=List.getD p.2.1 0 z0_∧TOk p.2.2.2.1∧TOk p.2.2.2.2.1∧Alike p.2.2.2.1 (List.getD p.2.1 1 z0_) 4294967295∧Alike p.2.2.2.2.1 (List.getD p.2.1 2 z0_) 65535∧¬(List.length p.2.2.2.2.2.1:Int)>8∧Rises p.2.2.2.2.2.1) (.guard fun _=> .bflag (limited_f p.2.1) rfl fun _=>?_) ⟨fun ⟨a,b,c,d,e,f,g⟩=>⟨a,b,c,e,f,d,g⟩,fun ⟨a,b,c,e,f,d,g⟩=>⟨a,b,c,d,e,f,g⟩⟩
 rw [bnt rfl]
 refine (rbucket_says p.2.2.1).call (fun _=>?_) rfl
 rw [bne_neg rfl,bd_pos (by decide)]
 refine .same fun _=>?_
 rw [ar.L1_eq]
 refine (rtable_says p.2.2.2.1 w.us.cells w.us.few).call (fun hu=>?_) rfl
 rw [bne_neg rfl]
 refine (rtable_says p.2.2.2.2.1 w.es.cells w.es.few).call (fun he=>?_) rfl
 rw [bne_neg rfl,bd_pos (by decide)]
 refine .bflag (alike_f hu _ _) rfl fun _=>?_
 rw [bnt rfl,bd_pos (by decide)]
 refine .bflag (alike_f he _ _) rfl fun _=>?_
 rw [bnt rfl,ar.L2_eq]
 refine .guard fun hl=>?_
 rw [ar.L3_eq]
 exact rrev_l4 (by omega)
theorem list3 {l:List t0.den} (h:l.length=3):l=[l.getD 0 z0_,l.getD 1 z0_,l.getD 2 z0_]:=by
 match l,h with
 |[a,b,c],_=>rfl
theorem titems {t:t5.den} (h:TOk t):tItems t=some (come (useT t) (keyT t) (limT t) (usedN t)):=by
 obtain ⟨h1,h2,h3,h4⟩:=h.lens
 unfold tItems
 have a1:usedN t≤1000:=Nat.le_trans h4 (by decide)
 have a2:((List.range (usedN t)).all fun j=>!(useT t j)||(decide (j<List.length (α:=Int) t.2.1) && decide (j<List.length (α:=t1.den) t.2.2.1)))=true:=by
  rw [List.all_eq_true]
  intro j hj
  have hj:=List.mem_range.1 hj
  rw [decide_eq_true (show j<List.length (α:=Int) t.2.1 from Nat.lt_of_lt_of_eq hj h2.symm),decide_eq_true (show j<List.length (α:=t1.den) t.2.2.1 from Nat.lt_of_lt_of_eq hj h3.symm)]
  simp
 rw [decide_eq_true a1,a2];rfl
theorem goR_all {S X:Type} {st:S→X→Option S} {ok:X→Prop} {s:S} (h:∀x,(ok x∧st s x=some s)∨(¬ok x∧st s x=none)):∀xs,((∀x∈xs,ok x)∧goR st xs s=some s)∨((¬∀x∈xs,ok x)∧goR st xs s=none)
 |[]=> .inl ⟨fun _ h=>(by cases h),rfl⟩
 |x::xs=>by
  show _∧(st s x).bind (goR st xs)=_∨_∧(st s x).bind (goR st xs)=_
  rcases h x with ⟨a,e⟩|⟨a,e⟩
  ·rw [e]
   rcases goR_all h xs with ⟨b,f⟩|⟨b,f⟩
   ·exact .inl ⟨fun y hy=>by
     rcases List.mem_cons.1 hy with rfl|hy
     ·exact a
     ·exact b y hy,f⟩
   ·exact .inr ⟨fun c=>b fun y hy=>c y (List.mem_cons_of_mem _ hy),f⟩
  ·rw [e];exact .inr ⟨fun c=>a (c x List.mem_cons_self),rfl⟩
theorem goR_bad {S X:Type} {st:S→X→Option S} {s:S} (h:∀x,st s x=none) (xs:List X):goR st xs s=none∨goR st xs s=some s:=by
 cases xs with
 |nil=>exact .inr rfl
 |cons x xs=>
  left
  show (st s x).bind (goR st xs)=none
  rw [h x];rfl
theorem mem_come {us:Nat→Bool} {ks:Nat→Int} {ls:Nat→Int × Int × Int} {k:Nat} {x:Int × Int × Int × Int}:x∈come us ks ls k↔∃j,j<k∧us j=true∧(ks j,ls j)=x:=by
 unfold come
 rw [List.mem_map]
 constructor
 ·rintro ⟨j,hj,e⟩
  obtain ⟨h1,h2⟩:=List.mem_filter.1 hj
  exact ⟨j,List.mem_range.1 h1,h2,e⟩
 ·rintro ⟨j,h1,h2,e⟩
  exact ⟨j,List.mem_filter.2 ⟨List.mem_range.2 h1,h2⟩,e⟩
theorem come_all {t:t5.den} {l:t0.den} {most:Int}:(∀x∈come (useT t) (keyT t) (limT t) (usedN t),toL x=l∧¬Z x.1>most)↔Alike t l most:=by
 constructor
 ·intro h i hi u
  exact h _ (mem_come.2 ⟨i,hi,u,rfl⟩)
 ·intro h x hx
  obtain ⟨i,hi,u,rfl⟩:=mem_come.1 hx
  exact h i hi u
theorem rest_says {p:t7.den} (w:PWf p) (hu:TOk p.2.2.2.1) (he:TOk p.2.2.2.2.1):Says (p.2.2.1.1=List.getD p.2.1 0 z0_∧Alike p.2.2.2.1 (List.getD p.2.1 1 z0_) 4294967295∧Alike p.2.2.2.2.1 (List.getD p.2.1 2 z0_) 65535∧¬(List.length p.2.2.2.2.2.1:Int)>8∧Rises p.2.2.2.2.2.1) (a9.Rest p):=by
 unfold a9.Rest
 rw [titems hu,ob,titems he]
 have h3:=list3 w.three
 have s0:same0 p=[p.2.2.1.1,List.getD p.2.1 1 z0_,List.getD p.2.1 2 z0_]:=rfl
 by_cases e:p.2.2.1.1=List.getD p.2.1 0 z0_
 ·have s1:same0 p=p.2.1:=by rw [s0,e];exact h3.symm
  rw [s1]
  have set1:∀v:t0.den,List.set (α:=t0.den) p.2.1 1 v=p.2.1↔v=List.getD p.2.1 1 z0_:=fun v=>by
   constructor
   ·intro h
    have:=congrArg (fun l:List t0.den=>l.getD 1 z0_) h
    rw [h3] at this
    exact this
   ·rintro rfl
    conv=>lhs;rw [h3]
    conv=>rhs;rw [h3]
    rfl
  have set2:∀v:t0.den,List.set (α:=t0.den) p.2.1 2 v=p.2.1↔v=List.getD p.2.1 2 z0_:=fun v=>by
   constructor
   ·intro h
    have:=congrArg (fun l:List t0.den=>l.getD 2 z0_) h
    rw [h3] at this
    exact this
   ·rintro rfl
    conv=>lhs;rw [h3]
    conv=>rhs;rw [h3]
    rfl
  have g1:=goR_all (st:=st1 p) (ok:=fun x=>toL x=List.getD p.2.1 1 z0_) (s:=p.2.1) (fun x=>by
   unfold st1
   by_cases q:toL x=List.getD p.2.1 1 z0_
   ·rw [tbeq_pos (t:=.arr 3 t0) ((set1 _).2 q),(set1 _).2 q];exact .inl ⟨q,rfl⟩
   ·rw [tbeq_neg (t:=.arr 3 t0) (fun h=>q ((set1 _).1 h))];exact .inr ⟨q,rfl⟩) (come (useT p.2.2.2.1) (keyT p.2.2.2.1) (limT p.2.2.2.1) (usedN p.2.2.2.1))
  have g2:=goR_all (st:=st2 p) (ok:=fun x=>toL x=List.getD p.2.1 2 z0_∧¬Z x.1>65535) (s:=p.2.1) (fun x=>by
   unfold st2
   by_cases q:toL x=List.getD p.2.1 2 z0_
   ·rw [tbeq_pos (t:=.arr 3 t0) ((set2 _).2 q),(set2 _).2 q]
    by_cases k:Z x.1>65535
    ·rw [bd_pos (by exact k)];exact .inr ⟨fun h=>h.2 k,rfl⟩
    ·rw [bd_neg (by exact k)];exact .inl ⟨⟨q,k⟩,rfl⟩
   ·rw [tbeq_neg (t:=.arr 3 t0) (fun h=>q ((set2 _).1 h))];exact .inr ⟨fun h=>q h.1,rfl⟩) (come (useT p.2.2.2.2.1) (keyT p.2.2.2.2.1) (limT p.2.2.2.2.1) (usedN p.2.2.2.2.1))
  have al1:(∀x∈come (useT p.2.2.2.1) (keyT p.2.2.2.1) (limT p.2.2.2.1) (usedN p.2.2.2.1),toL x=List.getD p.2.1 1 z0_)↔Alike p.2.2.2.1 (List.getD p.2.1 1 z0_) 4294967295:=by
   rw [←come_all]
   refine ⟨fun h x hx=>⟨h x hx,?_⟩,fun h x hx=>(h x hx).1⟩
   obtain ⟨j,hj,u,rfl⟩:=mem_come.1 hx
   have hl:=hu.lens
   have hj2:j<List.length p.2.2.2.1.2.1:=Nat.lt_of_lt_of_eq hj hl.2.1.symm
   have:=w.us.keys _ (List.getElem_mem hj2)
   rw [←getD_get (d:=0) hj2] at this
   show ¬Z (List.getD p.2.2.2.1.2.1 j 0)>4294967295
   omega
  rw [al1] at g1
  rw [come_all] at g2
  rcases g1 with ⟨a1,e1⟩|⟨a1,e1⟩
  ·rw [e1]
   rcases g2 with ⟨a2,e2⟩|⟨a2,e2⟩
   ·dsimp only
    rw [ob,e2]
    show Says _ (a9.T p 0 p.2.1)
    rw [a9.T_eq,nbeq_neg rfl]
    refine Says.congr (P:=¬(List.length p.2.2.2.2.2.1:Int)>8∧Rises p.2.2.2.2.2.1) (.guard fun hl=>prev_l3 (by omega)) ⟨fun h=>⟨e,a1,a2,h⟩,fun h=>h.2.2.2⟩
   ·dsimp only
    rw [ob,e2]
    exact .inr ⟨fun h=>a2 h.2.2.1,rfl⟩
  ·rw [e1]
   exact .inr ⟨fun h=>a1 h.2.1,rfl⟩
 ·have b1:∀x,st1 p (same0 p) x=none:=fun x=>by
   unfold st1
   rw [tbeq_neg (t:=.arr 3 t0)]
   intro h
   have:=congrArg (fun l:List t0.den=>l.getD 0 z0_) h
   rw [s0] at this
   exact e this
  have b2:∀x,st2 p (same0 p) x=none:=fun x=>by
   unfold st2
   rw [tbeq_neg (t:=.arr 3 t0)]
   intro h
   have:=congrArg (fun l:List t0.den=>l.getD 0 z0_) h
   rw [s0] at this
   exact e this
  have no:∀o,o=some (8,())→Says (p.2.2.1.1=List.getD p.2.1 0 z0_∧Alike p.2.2.2.1 (List.getD p.2.1 1 z0_) 4294967295∧Alike p.2.2.2.2.1 (List.getD p.2.1 2 z0_) 65535∧¬(List.length p.2.2.2.2.2.1:Int)>8∧Rises p.2.2.2.2.2.1) o:=fun o h=> .inr ⟨fun h=>e h.1,h⟩
  apply no
  rcases goR_bad b1 (come (useT p.2.2.2.1) (keyT p.2.2.2.1) (limT p.2.2.2.1) (usedN p.2.2.2.1)) with e1|e1
  ·rw [e1]
  ·rw [e1]
   rcases goR_bad b2 (come (useT p.2.2.2.2.1) (keyT p.2.2.2.2.1) (limT p.2.2.2.2.1) (usedN p.2.2.2.2.1)) with e2|e2
   ·dsimp only
    rw [ob,e2]
   ·dsimp only
    rw [ob,e2]
    show a9.T p 0 (same0 p)=_
    rw [a9.T_eq,nbeq_pos (t:=.arr 3 t0)]
    intro h
    have:=congrArg (fun l:List t0.den=>l.getD 0 z0_) h
    rw [s0] at this
    exact e this
theorem part_says {p:t7.den} (w:PWf p):Says (PartOk p) (a9.F p):=by
 rw [a9.F_eq]
 refine .guard fun _=> .bflag (valid_f p.2.1) rfl fun _=>?_
 rw [bnt rfl]
 refine (bucket_says p.2.2.1 w.lev).call (fun _=>?_) rfl
 rw [bne_neg rfl]
 refine (table_says p.2.2.2.1 w.us.lev).call (fun hu=>?_) rfl
 rw [bne_neg rfl]
 refine (table_says p.2.2.2.2.1 w.es.lev).call (fun he=>?_) rfl
 rw [bne_neg rfl]
 exact rest_says w hu he
end Go.Proofs.YtkihjakbbcajbaaGreat.TB
namespace Go.Proofs.YtkihjakbbcajbaaGreat.PM
set_option linter.unusedSimpArgs false
set_option linter.unusedVariables false
open Go Go.RowKit
def Ty.solid:Ty→Bool
 |.pair a b=>a.solid && b.solid
 |.arr _ t=>t.solid
 |.slice t=>Nat.ble 1 t.size && t.solid
 |_=>true
def Ty.wf:(t:Ty)→t.den→Prop
 |.int k,x=>(Lit.int k x).wf=true
 |.bool,_=>True
 |.str,x=>List.length (α:=UInt8) x≤maxLen
 |.unit,_=>True
 |.pair a b,x=>a.wf x.1∧b.wf x.2
 |.arr n t,x=>List.length (α:=t.den) x=n∧∀y∈(show List t.den from x),t.wf y
 |.slice t,x=>List.length (α:=t.den) x≤maxLen∧∀y∈(show List t.den from x),t.wf y
def Here (W:World):Nat→Prop:=fun r=>r<W.heap.size
section
variable {P:Program} {H:Type} {enc:TypeId × Value→H} {W:World} {base:Nat} {spare:Nat→Bool} {held:Bool}
theorem ty_cells {τ:Ty} {t:TypeId} (h:tyB P τ t=true):P.cellsOf t=τ.size:=by
 obtain ⟨i,z,h1,h2,_⟩:=tyB_info h
 unfold Program.cellsOf;rw [h1];exact h2
theorem cat_build {u:Ty} {a:Addr}:∀(len k:Nat),(∀i,i<len→∃(q:u.den) (c:List Value),c.length=u.size∧TRel (Here W) W u c q∧u.wf q∧∀j v,c[j]?=some v→W.cell? (a.add ((k+i)*u.size+j))=some v)→
  ∃(l:List u.den) (c:List Value),l.length=len∧Cat (TRel (Here W) W u) c l∧(∀q∈l,u.wf q)∧∀j v,c[j]?=some v→W.cell? (a.add (k*u.size+j))=some v
 |0,_,_=>⟨[],[],rfl,rfl,by simp,by simp⟩
 |len+1,k,h=>by
  obtain ⟨q,c,h1,h2,h3,h4⟩:=h 0 (by omega)
  obtain ⟨l,d,g1,g2,g3,g4⟩:=cat_build len (k+1) (fun i hi=>by
   have:=h (i+1) (by omega)
   rwa [show k+(i+1)=k+1+i by omega] at this)
  refine ⟨q::l,c++d,by simp [g1],⟨c,d,rfl,h2,g2⟩,fun z hz=>?_,fun j v hv=>?_⟩
  ·rcases List.mem_cons.1 hz with rfl|hz
   ·exact h3
   ·exact g3 z hz
  ·by_cases hj:j<c.length
   ·rw [List.getElem?_append_left hj] at hv
    have:=h4 j v hv
    rwa [Nat.add_zero] at this
   ·rw [List.getElem?_append_right (by omega)] at hv
    have:=g4 _ v hv
    rwa [show (k+1)*u.size+(j - c.length)=k*u.size+j by rw [Nat.succ_mul];omega] at this
theorem cat_of {u:Ty}:∀(n k:Nat) (cs:List Value),cs.length=(k+n)*u.size→(∀i,i<n→∃q:u.den,TRel (Here W) W u ((cs.drop ((k+i)*u.size)).take u.size) q∧u.wf q)→
  ∃l:List u.den,l.length=n∧Cat (TRel (Here W) W u) (cs.drop (k*u.size)) l∧∀q∈l,u.wf q
 |0,k,cs,hl,_=>⟨[],rfl,by show cs.drop (k*u.size)=[];rw [List.drop_eq_nil_iff];simp at hl;omega,by simp⟩
 |n+1,k,cs,hl,h=>by
  obtain ⟨q,h1,h2⟩:=h 0 (by omega)
  obtain ⟨l,g1,g2,g3⟩:=cat_of n (k+1) cs (by rw [hl];congr 1;omega) (fun i hi=>by
   have:=h (i+1) (by omega)
   rwa [show k+(i+1)=k+1+i by omega] at this)
  refine ⟨q::l,by simp [g1],⟨(cs.drop (k*u.size)).take u.size,(cs.drop (k*u.size)).drop u.size,(List.take_append_drop _ _).symm,by simpa using h1,?_⟩,fun z hz=>?_⟩
  ·rw [List.drop_drop,show k*u.size+u.size=(k+1)*u.size by rw [Nat.succ_mul]];exact g2
  ·rcases List.mem_cons.1 hz with rfl|hz
   ·exact h2
   ·exact g3 z hz
mutual
theorem trod_rel:∀(τ:Ty) (t:TypeId) (fuel:Nat) (cs:List Value) (x:DataW H × List MemPlace),tyB P τ t=true→τ.solid=true→DataW.trod enc P W base spare held fuel t cs=some x→∃a:τ.den,TRel (Here W) W τ cs a∧τ.wf a
 |.int k,t,fuel,cs,x,ht,_,h=>by
  obtain ⟨n,rfl,_,hw⟩:=DataW.trod_int (und_int ht) h
  exact ⟨n,rfl,hw⟩
 |.bool,t,fuel,cs,x,ht,_,h=>by
  have hu:P.underlying t=some .bool:=by
   simp only [tyB_bool,Bool.and_eq_true] at ht
   have h2:=ht.2
   split at h2
   ·assumption
   ·cases h2
  obtain ⟨b,rfl,_⟩:=DataW.trod_bool hu h
  exact ⟨b,rfl,trivial⟩
 |.str,t,fuel,cs,x,ht,_,h=>by
  cases fuel with
  |zero=>simp [DataW.trod] at h
  |succ n=>
   unfold DataW.trod at h
   rw [und_str ht] at h
   split at h
   all_goals first
    |(rename_i s e;cases e;done)
    |skip
   all_goals simp_all
   exact ⟨_,⟨_,rfl,rfl⟩,by
    show List.length _≤maxLen
    rename_i s
    simpa using h.1⟩
 |.unit,t,fuel,cs,x,ht,_,h=>by
  have ht':=ht
  simp only [tyB_unit,Bool.and_eq_true] at ht'
  obtain ⟨_,hu⟩:=ht'
  split at hu
  ·rename_i fs hfs
   obtain ⟨xs,n,_,_,hl,_⟩:=DataW.trod_struct hfs h
   rw [ty_cells ht] at hl
   exact ⟨(),List.length_eq_zero_iff.1 hl,trivial⟩
  ·cases hu
 |.pair a b,t,fuel,cs,x,ht,hs,h=>by
  have ht':=ht
  simp only [tyB_pair,Bool.and_eq_true] at ht'
  obtain ⟨_,hu⟩:=ht'
  split at hu
  ·rename_i fs hfs
   obtain ⟨xs,n,_,rfl,hl,hlen,hfld⟩:=DataW.trod_struct hfs h
   rw [ty_cells ht] at hl
   have:=trod_flds (.pair a b) fs.toList 0 n cs hu hs (fun q hq=>by
    obtain ⟨i,hi,rfl⟩:=List.getElem_of_mem hq
    have h1:=hfld i fs.toList[i] (by simp at hi;simp [hi])
    have h2:i<xs.length:=by rw [hlen];simpa using hi
    exact ⟨xs[i],by rw [h1,List.getElem?_eq_getElem h2]⟩) (by rw [hl];omega)
   simpa using this
  ·cases hu
 |.arr n u,t,fuel,cs,x,ht,hs,h=>by
  have ht':=ht
  simp only [tyB_arr,Bool.and_eq_true] at ht'
  obtain ⟨_,hu⟩:=ht'
  split at hu
  ·rename_i m e hm
   simp only [Bool.and_eq_true] at hu
   obtain rfl:=Nat.eq_of_beq_eq_true hu.1
   obtain ⟨xs,k,_,_,hl,hlen,hel⟩:=DataW.trod_array hm h
   have hc:=ty_cells hu.2
   rw [ty_cells ht] at hl
   obtain ⟨l,g1,g2,g3⟩:=cat_of (W:=W) (u:=u) m 0 cs (by rw [hl];simp [Ty.size]) (fun i hi=>by
    have h1:=hel i hi
    rw [List.getElem?_eq_getElem (by omega),hc] at h1
    obtain ⟨q,q1,q2⟩:=trod_rel u e k _ _ hu.2 hs h1
    exact ⟨q,by simpa using q1,q2⟩)
   exact ⟨l,⟨g1,by simpa using g2⟩,g1,g3⟩
  ·cases hu
 |.slice u,t,fuel,cs,x,ht,hs,h=>by
  obtain ⟨e,hu,he⟩:=slice_und ht
  simp only [Ty.solid,Bool.and_eq_true] at hs
  have h1:=Nat.le_of_ble_eq_true hs.1
  have hc:=ty_cells he
  rcases Deep.open_slice hu h with ⟨rfl,_⟩|⟨a,len,cap,m,n,D,Pl,rfl,_,hl,hm,hmm,_,hel⟩
  ·exact ⟨[],⟨none,0,rfl,Nat.le_refl _,fun h=>by simp at h⟩,by simp [Ty.wf]⟩
  ·have hle:len≤m:=by rw [hmm];split<;>omega
   have hcell:∀i,i<len→∃(q:u.den) (c:List Value),c.length=u.size∧TRel (Here W) W u c q∧u.wf q∧∀j v,c[j]?=some v→W.cell? (a.add ((0+i)*u.size+j))=some v:=fun i hi=>by
    obtain ⟨c,hcs,hd⟩:=hel i (by omega)
    obtain ⟨q,hq,hw⟩:=trod_rel u e _ _ _ he hs.2 hd
    obtain ⟨_,hlen,hcl⟩:=World.cells?_some hcs
    refine ⟨q,c,TRel.len u _ _ hq,hq,hw,fun j v hv=>?_⟩
    have hj:j<c.length:=(List.getElem?_eq_some_iff.1 hv).1
    have k1:=hcl j (by omega)
    rw [Addr.add_add,hc] at k1
    rw [Nat.zero_add,k1,hv]
   obtain ⟨l,c,g1,g2,g3,g4⟩:=cat_build (W:=W) (u:=u) (a:=a) len 0 hcell
   have hmx:len≤maxLen:=by omega
   refine ⟨l,⟨some a,cap,by rw [g1],by omega,fun hpos=>?_⟩,by omega,g3⟩
   have hlenc:=Cat.len (TRel.len u) g2
   have h0:0<c.length:=by
    rw [hlenc];exact Nat.mul_pos hpos h1
   have k1:=g4 0 c[0] (by rw [List.getElem?_eq_getElem h0])
   have k2:W.cell? a=some c[0]:=by simpa [Addr.add] using k1
   have k3:a.spot=none∧a.block<W.heap.size:=by
    unfold World.cell? at k2
    split at k2
    ·rename_i hb
     split at k2
     ·cases k2
     ·rename_i hsp
      exact ⟨by simpa using hsp,heap_lt hb⟩
    ·cases k2
   refine ⟨a,rfl,k3.1,k3.2,c,fun j v hv=>?_,g2⟩
   have:=g4 j v hv
   simpa using this
 termination_by τ=>(SizeOf.sizeOf τ,1)
theorem trod_flds:∀(τ:Ty) (fs:List Field) (o fuel:Nat) (cs:List Value),fldB P τ fs o=true→τ.solid=true→(∀f∈fs,∃y,DataW.trod enc P W base spare held fuel f.type ((cs.drop f.offset).take (P.cellsOf f.type))=some y)→cs.length=o+τ.size→∃a:τ.den,TRel (Here W) W τ (cs.drop o) a∧τ.wf a
 |.pair x y,fs,o,fuel,cs,hf,hs,h,hl=>by
  cases fs with
  |nil=>simp [fldB_pair0] at hf
  |cons f fs=>
   simp only [fldB_pair1,Bool.and_eq_true] at hf
   simp only [Ty.solid,Bool.and_eq_true] at hs
   obtain rfl:=Nat.eq_of_beq_eq_true hf.1
   obtain ⟨z,hz⟩:=h f (by simp)
   obtain ⟨a,ha,wa⟩:=trod_rel x f.type fuel _ _ hf.2.1 hs.1 hz
   obtain ⟨b,hb,wb⟩:=trod_flds y fs (f.offset+x.size) fuel cs hf.2.2 hs.2 (fun g hg=>h g (List.mem_cons_of_mem _ hg)) (by rw [hl];simp [Ty.size];omega)
   rw [ty_cells hf.2.1] at ha
   exact ⟨(a,b),⟨_,_,by rw [←List.drop_drop,List.take_append_drop],ha,hb⟩,wa,wb⟩
 |.unit,fs,o,fuel,cs,hf,_,_,hl=>⟨(),by
   show cs.drop o=[]
   rw [List.drop_eq_nil_iff];simp [Ty.size] at hl;omega,trivial⟩
 |.int _,_,_,_,_,hf,_,_,_=>by simp [fldB_int] at hf
 |.bool,_,_,_,_,hf,_,_,_=>by simp [fldB_bool] at hf
 |.str,_,_,_,_,hf,_,_,_=>by simp [fldB_str] at hf
 |.arr _ _,_,_,_,_,hf,_,_,_=>by simp [fldB_arr] at hf
 |.slice _,_,_,_,_,hf,_,_,_=>by simp [fldB_slice] at hf
 termination_by τ=>(SizeOf.sizeOf τ,0)
end
end
end Go.Proofs.YtkihjakbbcajbaaGreat.PM
namespace Go.Proofs.YtkihjakbbcajbaaGreat.PM
set_option linter.unusedSimpArgs false
set_option linter.unusedVariables false
open Go Go.ChangeShapes Go.WideShapes Go.ChangeAt Go.RowKit
def argsB (P:Program):List PK→List TypeId→Bool
 |[],[]=>true
 |.val τ::r,t::ts=>tyB P τ t && (τ.solid && argsB P r ts)
 |_,_=>false
def argsWf:(ps:List PK)→(argTy ps).den→Prop
 |.val t::r,x=>t.wf x.1∧argsWf r x.2
 |[],_=>True
 |_::_,_=>False
def rowsB (P:Program) (ts:List TypeId):Bool:=ts.all fun t=>P.readableRec t && decide (t<P.types.size)
section
variable {P:Program} {H:Type} {enc:TypeId × Value→H} {W W':World}
theorem okw_agg {τ:Ty} {t:TypeId} {base:Nat} {v:Value} (ht:tyB P τ t=true) (h:Value.okWide P W .any base t v):isAggV v=τ.agg:=by
 cases τ with
 |int k=>obtain ⟨n,rfl⟩:=okWide_int (und_int ht) h;rfl
 |bool=>
  have hu:P.underlying t=some .bool:=by
   simp only [tyB_bool,Bool.and_eq_true] at ht
   have h2:=ht.2
   split at h2
   ·assumption
   ·cases h2
  obtain ⟨n,rfl⟩:=okWide_bool hu h;rfl
 |str=>obtain ⟨n,rfl⟩:=okWide_string (und_str ht) h;rfl
 |unit=>
  simp only [tyB_unit,Bool.and_eq_true] at ht
  obtain ⟨_,hu⟩:=ht
  split at hu
  ·rename_i fs hfs
   obtain ⟨cs,rfl,_⟩:=okWide_struct hfs h;rfl
  ·cases hu
 |pair a b=>
  simp only [tyB_pair,Bool.and_eq_true] at ht
  obtain ⟨_,hu⟩:=ht
  split at hu
  ·rename_i fs hfs
   obtain ⟨cs,rfl,_⟩:=okWide_struct hfs h;rfl
  ·cases hu
 |arr n u=>
  simp only [tyB_arr,Bool.and_eq_true] at ht
  obtain ⟨_,hu⟩:=ht
  split at hu
  ·rename_i m e hm
   simp only [Value.okWide,hm] at h
   obtain ⟨cs,rfl,_⟩:=h;rfl
  ·cases hu
 |slice u=>
  obtain ⟨e,hu,_⟩:=slice_und ht
  obtain ⟨a,len,cap,rfl⟩:=okWide_slice hu h;rfl
theorem open_args {base:Nat} {spare:Nat→Bool} {held:Bool}:∀(ps:List PK) (ts:List TypeId) (vs:List Value) (ds:List (DataW H)) (p:List MemPlace),argsB P ps ts=true→
  (∀(j:Nat) t v,ts[j]?=some t→vs[j]?=some v→Value.okWide P W .any 0 t v)→DataW.TrodAll enc P W base spare held ts vs ds p→∃x:(argTy ps).den,ArgsRel (Here W) W ps vs x []∧argsWf ps x∧ds.length=ts.length
 |[],[],vs,ds,p,_,_,h=>by
  cases vs with
  |nil=>cases ds with
   |nil=>exact ⟨(),⟨rfl,rfl⟩,trivial,rfl⟩
   |cons d ds=>exact h.elim
  |cons v vs=>exact h.elim
 |.val τ::r,t::ts,vs,ds,p,hb,hok,h=>by
  simp only [argsB,Bool.and_eq_true] at hb
  obtain ⟨hb1,hb2,hb3⟩:=hb
  obtain ⟨v,us,d,ds',p',q,rfl,rfl,rfl,h1,h2⟩:=trodAll_cons h
  obtain ⟨fuel,hf⟩:=h1
  obtain ⟨a,ha,wa⟩:=trod_rel τ t fuel _ _ hb1 hb2 hf
  obtain ⟨x,hx,wx,hl⟩:=open_args r ts us ds' q hb3 (fun j t' v' e1 e2=>hok (j+1) t' v' (by simpa using e1) (by simpa using e2)) h2
  exact ⟨(a,x),⟨v,us,rfl,⟨okw_agg hb1 (hok 0 t v rfl rfl),ha,rfl⟩,hx⟩,⟨wa,wx⟩,by simp [hl]⟩
 |[],_::_,_,_,_,hb,_,_=>by simp [argsB] at hb
 |.val _::_,[],_,_,_,hb,_,_=>by simp [argsB] at hb
 |.io _ _::_,_,_,_,_,hb,_,_=>by simp [argsB] at hb
 |.mu _::_,_,_,_,_,hb,_,_=>by simp [argsB] at hb
 |.fn _::_,_,_,_,_,hb,_,_=>by simp [argsB] at hb
 |.eat _::_,_,_,_,_,hb,_,_=>by simp [argsB] at hb
 |.clo _ _::_,_,_,_,_,hb,_,_=>by simp [argsB] at hb
theorem keep_args (hl:laidOutB P=true) (hb:Below W.heap.size W W'):∀(ts:List TypeId) (vs:List Value) (ds:List (DataW H)) (p:List MemPlace),rowsB P ts=true→DataW.TrodAll enc P W 0 (fun _=>true) true ts vs ds p→DataW.TrodAll enc P W' 0 (fun b=>decide (b<W.heap.size)) true ts vs ds p
 |[],vs,ds,p,_,h=>by
  cases vs with
  |nil=>cases ds with
   |nil=>exact h
   |cons d ds=>exact h.elim
  |cons v vs=>exact h.elim
 |t::ts,vs,ds,p,hr,h=>by
  simp only [rowsB,List.all_cons,Bool.and_eq_true,decide_eq_true_eq] at hr
  obtain ⟨v,us,d,ds',p',q,rfl,rfl,rfl,h1,h2⟩:=trodAll_cons h
  have hlt:∀x∈p',x.block<W.heap.size:=by obtain ⟨m,hm⟩:=h1;exact DataW.trod_lt m _ _ _ hm
  exact trodAll_cons_mk (Below.trod hl hr.1.1 hr.1.2 h1 hb hlt) (keep_args hl hb ts us ds' q (by simpa [rowsB] using hr.2) h2)
end
theorem out_bool {A:Nat→Prop} {w:World} {zs:List Value} {b:Bool} {bs:List Nat} (h:ResRel A w [(.bool,true)] zs (b,()) bs):zs=[.bool b]:=by
 obtain ⟨v,us,p,q,rfl,_,⟨ha,hv⟩,rfl,_⟩:=h
 have hv:OwnT A w .bool v.cells.toList b p:=hv
 have h1:v.cells.toList=[.bool b]:=by
  unfold OwnT at hv
  exact hv.1
 have hc:=isAggV_cells (v:=v) ha
 rw [hc] at h1
 simpa using h1
theorem law_run {P:Program} {gl:List (Nat × PV)} {f:FuncId} {s:Sig} {G:(argTy s.ps).den→Option (outTy s.ps s.rs).den} {W:World} {vs:List Value} {x:(argTy s.ps).den} {y:(outTy s.ps s.rs).den}
  (hF:FnSpec P gl f ⟨s,G⟩) (hG:GlOk gl (Here W) W) (hv:ArgsRel (Here W) W s.ps vs x []) (h:G x=some y) (ho:∀A w vs zs bs,OutRel A w s.ps s.rs vs zs y bs→zs=[.bool true]):
  Calls P f vs.toArray W fun e W'=>e=.returned (.bool true)∧Below W.heap.size W W':=by
 refine (hF.calls W (Here W) vs x [] y hG hv List.nodup_nil (fun r hr=>by simp at hr) (fun _ hr=>hr) h).mono fun e W' D=>?_
 obtain ⟨⟨zs,A',bs',rfl,o1,_⟩,K⟩:=D
 obtain rfl:=ho _ _ _ _ _ o1
 exact ⟨rfl,K.os,K.tape,K.output,K.size,fun k hk=>K.block k hk (fun h=>h.elim (fun h=>by omega) (fun h=>by simp at h))⟩
theorem law_lifted {C:Checked} {os:Os} {f:FuncId} {fn:Func} {s:ChangeSpec} {conds:List PathCond} {ps:List PK} {tb:TypeId} {gl:List (Nat × PV)} {G:(argTy ps).den→Option (outTy ps [(.bool,true)]).den} {H:Type} {enc:TypeId × Value→H}
  (own:ownKnob C.prog.godebug=none) (started:os.Started) (noInit:C.prog.inits.idxOf? f=none) (hfn:C.prog.funcs[f]?=some fn)
  (witness:∃(w:World) (tape:Tape) (i:Input),w.os=os∧(w.forCall tape i).Shaped C.prog∧i.vars=[]∧Input.okWide C.prog (w.forCall tape i) .any w.heap.size f i∧
   s.pre6 enc C.prog fn conds false (w.forCall tape i).memory i.args∧({}:Assume).holds C.prog (Go.lone (Frame.enter C.prog f i.args .normal) [] (w.forCall tape i)))
  (hvars:s.vars=[]) (hs:∀ds:List (DataW H),ds.length=fn.params.toList.length→(s.fn H ds).results=[.lit (.bool true)]∧(s.fn H ds).args=ds∧(s.fn H ds).vars=[])
  (hres:fn.resultTypes=#[tb]) (htb:C.prog.underlying tb=some .bool) (hargs:argsB C.prog ps fn.params.toList=true) (hl:laidOutB C.prog=true) (hrows:rowsB C.prog fn.params.toList=true)
  (hF:FnSpec C.prog gl f ⟨⟨ps,[(.bool,true)]⟩,G⟩) (hgl:gl=[])
  (hG:∀x,argsWf ps x→∃y,G x=some y∧∀A w vs zs bs,OutRel A w ps [(.bool,true)] vs zs y bs→zs=[.bool true]):
  ReturnsInHanded {} C os f .any (s.pre6 enc C.prog fn conds false) (s.post enc C.prog fn false true false false):=by
 refine returnsInHanded_of_change_sized own started noInit hfn witness ?_
 intro W base args ds gs before hval hW hcnd hsz _
 have hW':=hW
 obtain ⟨p,q,hA,hV,rfl,hfz,hnd⟩:=hW
 have hlen:args.size=args.size:=rfl
 obtain ⟨x,hx,wx,hdl⟩:=open_args (W:=W) ps fn.params.toList args.toList ds p hargs (fun j t v e1 e2=>hval j t v (by simpa using e1) (by simpa using e2)) hA
 obtain ⟨y,hy,ho⟩:=hG x wx
 subst hgl
 have hc:=law_run hF (fun n x e=>by cases e) hx hy ho
 have e1:args.toList.toArray=args:=by simp
 rw [e1] at hc
 rw [hvars] at hV
 obtain ⟨rfl,rfl⟩:=trodVars_none hV
 refine hc.mono fun e W' ⟨he,hb⟩=>?_
 subst he
 obtain ⟨r1,r2,r3⟩:=hs ds hdl
 refine ⟨_,rfl,ds,[],_,[],p,[],hW',?_,?_,?_,hb.frame _,fun h=>by cases h⟩
 ·rw [List.append_nil,r1,hres];exact trodAll_mk1 (shut_bool htb _)
 ·rw [List.append_nil,r2];exact keep_args hl hb _ _ _ _ hrows hA
 ·rw [List.append_nil,r3,hvars];rfl
end Go.Proofs.YtkihjakbbcajbaaGreat.PM
namespace Go.Proofs.YtkihjakbbcajbaaGreat.TB
set_option linter.unusedSimpArgs false
set_option linter.unusedVariables false
open Go Go.Proofs Go.Proofs.YtkihjakbbcajbaaGreat.PM Go.Proofs.YtkihjakbbcajbaaGreat.RP
structure TSmall (t:t5.den):Prop where
 keys:¬(List.length t.2.1:Int)>100
 bks:¬(List.length t.2.2.1:Int)>100
 idx:¬(List.length t.2.2.2.2.1:Int)>100
 next:¬(List.length t.2.2.2.1.1:Int)>100
 used:¬(List.length t.2.2.2.1.2.1:Int)>100
 prev:¬(List.length t.2.2.2.2.2.1.1:Int)>100
 nxt:¬(List.length t.2.2.2.2.2.1.2.1:Int)>100
structure PSmall (p:t7.den):Prop where
 us:TSmall p.2.2.2.1
 es:TSmall p.2.2.2.2.1
 rev:¬(List.length p.2.2.2.2.2.1:Int)>100
theorem keys_refl {a:List Int} (h:a.length≤1000):av.F a a=some (true,()):=by
 rw [av.F_eq,bne_neg rfl,av.L1_eq]
 have h2:=loop_go (n:=a.length) (L:=fun i=>av.L2 a a (i:Int)) (fun i hi=>by
  try dsimp only
  rw [av.L2_eq,bd_pos (by omega),av.L3_eq,bd_pos (by omega),bd_pos (by omega),bne_neg rfl,av.L4_eq,W_eq (by omega) (by omega),cast_add1])
 refine Eq.trans h2 ?_
 try dsimp only
 rw [av.L2_eq,bd_neg (by omega)]
theorem same13_refl {a:List Int} {b:List Bool} {c:Int} (h1:a.length≤1000) (h2:b.length≤1000):ak.F (a,b,c,()) (a,b,c,())=some (true,()):=by
 rw [ak.F_eq]
 dsimp only
 rw [bne_neg rfl,bne_neg rfl,bne_neg rfl,ak.L1_eq]
 have e1:=loop_go (n:=a.length) (L:=fun i=>ak.L2 (i:Int) a b c a b c) (fun i hi=>by
  try dsimp only
  rw [ak.L2_eq,bd_pos (by omega),ak.L3_eq,bd_pos (by omega),bd_pos (by omega),bne_neg rfl,ak.L7_eq,W_eq (by omega) (by omega),cast_add1])
 refine Eq.trans e1 ?_
 try dsimp only
 rw [ak.L2_eq,bd_neg (by omega)]
 have e2:=loop_go (n:=b.length) (L:=fun i=>ak.L4 (i:Int) a b c a b c) (fun i hi=>by
  try dsimp only
  rw [ak.L4_eq,bd_pos (by omega),ak.L5_eq,bd_pos (by omega),bd_pos (by omega),bnt (beq_self_eq_true _),ak.L6_eq,W_eq (by omega) (by omega),cast_add1])
 refine Eq.trans e2 ?_
 try dsimp only
 rw [ak.L4_eq,bd_neg (by omega)]
theorem same14_refl {a:List t3.den} (h:a.length≤1000):cb.F a a=some (true,()):=by
 rw [cb.F_eq,bne_neg rfl,cb.L1_eq]
 have h2:=loop_go (n:=a.length) (L:=fun i=>cb.L2 a a (i:Int)) (fun i hi=>by
  try dsimp only
  rw [cb.L2_eq,bd_pos (by omega),cb.L3_eq,bd_pos (by omega),bd_pos (by omega),nbeq_neg rfl,cb.L4_eq,W_eq (by omega) (by omega),cast_add1])
 refine Eq.trans h2 ?_
 try dsimp only
 rw [cb.L2_eq,bd_neg (by omega)]
theorem same16_refl {t:t5.den} (h:TSmall t):bw.F t t=some (true,()):=by
 obtain ⟨h1,h2,h3,h4,h5,h6,h7⟩:=h
 obtain ⟨cap,keys,bks,⟨next,used,free,⟨⟩⟩,x,⟨prev,nxt,head,tail,⟨⟩⟩,⟨⟩⟩:=t
 dsimp only at h1 h2 h3 h4 h5 h6 h7
 rw [bw.F_eq]
 dsimp only
 rw [bne_neg rfl,keys_refl (by omega),ob,bnt rfl,bne_neg rfl,same13_refl (by omega) (by omega),ob,bnt rfl,same14_refl (by omega),ob,bnt rfl,same15_f (by omega) (by omega),ob,decide_eq_true ⟨rfl,rfl,rfl,rfl⟩,bnt rfl,bw.L1_eq]
 have e1:=loop_go (n:=bks.length) (L:=fun i=>bw.L2 (i:Int) cap keys bks next used free x prev nxt head tail cap keys bks next used free x prev nxt head tail) (fun i hi=>by
  try dsimp only
  rw [bw.L2_eq,bd_pos (by omega),bw.L3_eq,bd_pos (by omega),bd_pos (by omega),nbeq_neg rfl,bw.L4_eq,W_eq (by omega) (by omega),cast_add1])
 refine Eq.trans e1 ?_
 try dsimp only
 rw [bw.L2_eq,bd_neg (by omega)]
theorem same18_refl {p:t7.den} (h:PSmall p):fk.F p p=some (true,()):=by
 obtain ⟨h1,h2,h3⟩:=h
 rw [fk.F_eq,beq_pos rfl,tbeq_pos (t:=.arr 3 t0) rfl,tbeq_pos (t:=t1) rfl,same16_refl h1,ob,bt rfl,same16_refl h2,ob,bt rfl,keys_refl (by omega),ob,bt rfl,(beq_iff t6 _ _).2 rfl]
theorem same19_refl {l:List t7.den} (hl:l.length≤1000) (h:∀p∈l,PSmall p):cc.F l l=some (true,()):=by
 rw [cc.F_eq,bne_neg rfl,cc.L1_eq]
 have h2:=loop_go (n:=l.length) (L:=fun i=>cc.L2 l l (i:Int)) (fun i hi=>by
  try dsimp only
  rw [cc.L2_eq,bd_pos (by omega),cc.L3_eq,bd_pos (by omega),bd_pos (by omega)]
  simp only [toNat_cast]
  rw [getD_get hi,same18_refl (h _ (List.getElem_mem hi)),ob,bnt rfl,cc.L4_eq,W_eq (by omega) (by omega),cast_add1])
 refine Eq.trans h2 ?_
 try dsimp only
 rw [cc.L2_eq,bd_neg (by omega)]
structure GReg (l:List t7.den):Prop where
 len:l.length≤8
 ok:∀p∈l,PartOk p
 inc:∀(i:Nat) (h:i+1<l.length),Z (l[i]).1<(l[i+1]).1
def AtOk (l:List t7.den) (i:Nat):Prop:=∀h:i<l.length,PartOk l[i]∧(0<i→Z (l[i - 1]'(by omega)).1<(l[i]).1)
theorem at_ok {l:List t7.den} (hl:l.length≤8) (h:∀i,i<l.length→AtOk l i):GReg l where
 len:=hl
 ok p hp:=by
  obtain ⟨i,hi,rfl⟩:=List.mem_iff_getElem.1 hp
  exact (h i hi hi).1
 inc i hi:=(h (i+1) hi hi).2 (Nat.succ_pos i)
theorem at_of {l:List t7.den} (g:GReg l) (i:Nat) (hi:i<l.length):AtOk l i:=fun h=>⟨g.ok _ (List.getElem_mem h),fun i0=>by
 have:=g.inc (i - 1) (by omega)
 have e:i - 1+1=i:=by omega
 simp only [e] at this
 exact this⟩
theorem check_f {l:List t7.den} (w:∀p∈l,PWf p) (hl:l.length≤20):(GReg l∧cd.F l=some (0,())∧bd.F l=some (0,()))∨(¬GReg l∧∃e:Int,(e=4∨e=8)∧cd.F l=some (e,())∧bd.F l=some (e,())):=by
 rw [cd.F_eq,bd.F_eq]
 by_cases h8:(l.length:Int)>8
 ·rw [bd_pos h8,bd_pos h8];exact .inr ⟨fun g=>by have:=g.len;omega,4,.inl rfl,rfl,rfl⟩
 rw [bd_neg h8,bd_neg h8,cd.L1_eq,bd.L1_eq]
 have a:=loop_all (n:=l.length) (L:=fun i=>cd.L2 l (l.length:Int) (i:Int)) (ok:=AtOk l) (stop:=some (8,())) (fun i hi=>by
  have nx_:cd.L4 l (l.length:Int) (i:Int)=cd.L2 l (l.length:Int) ((i+1:Nat):Int):=by
   rw [cd.L4_eq,W_eq (by omega) (by omega),cast_add1]
  try dsimp only
  rw [cd.L2_eq,bd_pos (by omega),cd.L3_eq,bd_pos (by omega)]
  simp only [toNat_cast]
  rw [getD_get hi]
  rcases part_says (w _ (List.getElem_mem hi)) with ⟨p,e⟩|⟨p,e⟩
  ·rw [e,ob,bne_neg rfl]
   by_cases i0:0<i
   ·rw [bd_pos (by omega),W_eq (by omega) (by omega),bd_pos (by omega),toNat_sub1 i0,getD_get (by omega:i - 1<l.length)]
    by_cases q:Z (l[i - 1]).1≥(l[i]).1
    ·rw [bd_pos (by exact q)];exact .inr ⟨fun h=>absurd q (Int.not_le.2 ((h hi).2 i0)),rfl⟩
    ·rw [bd_neg (by exact q),nx_];exact .inl ⟨fun _=>⟨p,fun _=>Int.not_le.1 q⟩,rfl⟩
   ·rw [bd_neg (by omega),nx_];exact .inl ⟨fun _=>⟨p,fun h=>absurd h i0⟩,rfl⟩
  ·rw [e,ob,bne_pos (by decide)];exact .inr ⟨fun h=>p (h hi).1,rfl⟩)
 have b:=loop_all (n:=l.length) (L:=fun i=>bd.L2 l (i:Int)) (ok:=AtOk l) (stop:=some (8,())) (fun i hi=>by
  have nx_:bd.L4 l (i:Int)=bd.L2 l ((i+1:Nat):Int):=by
   rw [bd.L4_eq,W_eq (by omega) (by omega),cast_add1]
  try dsimp only
  rw [bd.L2_eq,bd_pos (by omega),bd.L3_eq,bd_pos (by omega)]
  simp only [toNat_cast]
  rw [getD_get hi]
  rcases rpart_says (w _ (List.getElem_mem hi)) with ⟨p,e⟩|⟨p,e⟩
  ·rw [e,ob,bne_neg rfl]
   by_cases i0:0<i
   ·rw [bd_pos (by omega),bd_pos (by omega),W_eq (by omega) (by omega),bd_pos (by omega),toNat_sub1 i0,getD_get (by omega:i - 1<l.length)]
    by_cases q:Z (l[i]).1≤(l[i - 1]).1
    ·rw [bd_pos (by exact q)];exact .inr ⟨fun h=>absurd q (Int.not_le.2 ((h hi).2 i0)),rfl⟩
    ·rw [bd_neg (by exact q),nx_];exact .inl ⟨fun _=>⟨p,fun _=>Int.not_le.1 q⟩,rfl⟩
   ·rw [bd_neg (by omega),nx_];exact .inl ⟨fun _=>⟨p,fun h=>absurd h i0⟩,rfl⟩
  ·rw [e,ob,bne_pos (by decide)];exact .inr ⟨fun h=>p (h hi).1,rfl⟩)
 rcases a with ⟨a,e⟩|⟨a,e⟩
 ·rcases b with ⟨b,f⟩|⟨b,f⟩
  ·refine .inl ⟨at_ok (by omega) a,Eq.trans e ?_,Eq.trans f ?_⟩
   ·try dsimp only
    rw [cd.L2_eq,bd_neg (by omega)]
   ·try dsimp only
    rw [bd.L2_eq,bd_neg (by omega)]
  ·exact absurd a b
 ·rcases b with ⟨b,f⟩|⟨b,f⟩
  ·exact absurd b a
  ·exact .inr ⟨fun g=>a (at_of g),8,.inr rfl,e,f⟩
section
variable {cap:Int} {keys:List Int} {bks:List t1.den} {next:List Int} {used:List Bool} {free:Int} {x:List t3.den} {prev nxt:List Int} {head tail:Int} {l:List Int}
theorem get_f (g:TGood cap keys bks next used free x prev nxt head tail l) (hw:∀c∈bks,Z c.2.1≤9223372036854775807) {key p:Int} (h:Has x key p):fc.F (cap,keys,bks,(next,used,free,()),x,(prev,nxt,head,tail,()),()) key=some (bks.getD p.toNat b0_,0,()):=by
 have hr:=g.mem_range (g.has_mem h)
 obtain ⟨l1,l2,l3,l4,l5,l6,l7⟩:=g.lens
 rw [fc.F_eq,tcheck_f g hw,ob,bne_neg rfl,fc.L1_eq,place_has g h,ob,bd_neg (by dsimp only;omega),fc.L2_eq,bd_pos (by dsimp only;omega)]
end
end Go.Proofs.YtkihjakbbcajbaaGreat.TB
namespace Go.Proofs.YtkihjakbbcajbaaGreat.TB
set_option linter.unusedSimpArgs false
set_option linter.unusedVariables false
open Go Go.Proofs Go.Proofs.YtkihjakbbcajbaaGreat.PM Go.Proofs.YtkihjakbbcajbaaGreat.RP
@[reducible] def w8 (n:Int):Int:=IntKind.wrap .u8 n
@[reducible] def w64 (n:Int):Int:=IntKind.wrap .u64 n
noncomputable def bt8 (n:Int) (k:Nat):Int:=IntKind.wrap .u8 (Int.fdiv n (2 ^ min (Int.toNat (IntKind.wrap .i64 (8*(k:Int)))) (IntKind.bits .u64)))
noncomputable def be (n:Int):Nat→List Int
 |0=>[]
 |k+1=>bt8 n k::be n k
theorem be_len (n:Int):∀k,(be n k).length=k
 |0=>rfl
 |k+1=>by rw [be,List.length_cons,be_len n k]
theorem be_one (x:Int):be (w64 x) 1=[w8 x]:=by
 have h:(2:Int) ^ min (Int.toNat (IntKind.wrap .i64 (8*((0:Nat):Int)))) (IntKind.bits .u64)=1:=by decide
 show [bt8 (w64 x) 0]=_
 rw [bt8,h,show Int.fdiv (w64 x) 1=w64 x by simp]
 show [IntKind.wrap .u8 (IntKind.wrap .u64 x)]=[IntKind.wrap .u8 x]
 rw [IntKind.wrap_u64,IntKind.wrap_u8,IntKind.wrap_u8]
 congr 1
 omega
theorem flat_len {α:Type} {f:α→List Int} {c:Nat}:∀(x:List α),(∀y∈x,(f y).length≤c)→(x.flatMap f).length≤c*x.length
 |[],_=>Nat.zero_le _
 |y::x,h=>by
  have h1:=h y List.mem_cons_self
  have h2:=flat_len x fun z hz=>h z (List.mem_cons_of_mem _ hz)
  rw [List.flatMap_cons,List.length_append,List.length_cons,Nat.mul_succ]
  omega
theorem flat_take {α:Type} {f:α→List Int} {x:List α} {i:Nat} (h:i<x.length):(x.take (i+1)).flatMap f=(x.take i).flatMap f++f x[i]:=by
 rw [←List.take_append_getElem h,List.flatMap_append,List.flatMap_cons,List.flatMap_nil,List.append_nil]
theorem flat_range {f:Nat→List Int} (i:Nat):(List.range (i+1)).flatMap f=(List.range i).flatMap f++f i:=by
 rw [List.range_succ,List.flatMap_append,List.flatMap_cons,List.flatMap_nil,List.append_nil]
theorem put_l1 (n:Int):∀(k:Nat) (l:List Int),k≤8→l.length+k≤50000010→az.L1 n ((k:Int) - 1) l=some ((l++be n k,()),())
 |0,l,_,_=>by rw [az.L1_eq,bd_neg (by omega),be,List.append_nil]
 |k+1,l,hk,hl=>by
  have e:((k+1:Nat):Int) - 1=(k:Int):=by omega
  rw [az.L1_eq,bd_pos (by omega),az.L2_eq,e,bd_pos (by rw [W_eq (by omega) (by omega)];omega),lim_small (by decide) (by simp only [List.length_cons,List.length_nil];omega),W_eq (x:=(k:Int) - 1) (by omega) (by omega),put_l1 n k _ (by omega) (by simp only [List.length_append,List.length_cons,List.length_nil];omega),List.append_assoc]
  rfl
theorem put_f (n:Int) (k:Nat) {l:List Int} (hk:k≤8) (hl:l.length≤50000000):az.F (l,()) n (k:Int)=some ((l++be n k,()),()):=by
 rw [az.F_eq,W_eq (by omega) (by omega),put_l1 n k l hk (by omega)]
theorem put8 {l:List Int} (hl:l.length≤50000000) (n:Int):az.F (l,()) n 8=some ((l++be n 8,()),()):=put_f n 8 (by decide) hl
theorem put4 {l:List Int} (hl:l.length≤50000000) (n:Int):az.F (l,()) n 4=some ((l++be n 4,()),()):=put_f n 4 (by decide) hl
theorem put1 {l:List Int} (hl:l.length≤50000000) (x:Int):az.F (l,()) (w64 x) 1=some ((l++[w8 x],()),()):=by
 rw [←be_one];exact put_f (w64 x) 1 (by decide) hl
noncomputable def bkB (b:t1.den):List Int:=be (w64 b.2.1) 8++(be (w64 b.2.2.1) 8++be b.2.2.2.1 8)
theorem bkB_len (b:t1.den):(bkB b).length=24:=by simp only [bkB,List.length_append,be_len]
theorem wbkt_f {l:List Int} (h:l.length≤40000000) (b:t1.den):eu.F (l,()) b=some ((l++bkB b,()),()):=by
 rw [eu.F_eq,put8 (by omega),ob]
 dsimp only
 rw [put8 (by simp only [List.length_append,be_len];omega),ob]
 dsimp only
 rw [put8 (by simp only [List.length_append,be_len];omega),ob,List.append_assoc,List.append_assoc]
 rfl
noncomputable def hdB (h:t9.den):List Int:=be (w64 h.1) 4++bkB h.2.1
theorem hdB_len (h:t9.den):(hdB h).length=28:=by simp only [hdB,List.length_append,be_len,bkB_len]
noncomputable def hlB (x:List t9.den):List Int:=w8 (x.length:Int)::x.flatMap hdB
theorem hl_len (x:List t9.den):(x.flatMap hdB).length≤28*x.length:=flat_len x fun y _=>Nat.le_of_eq (hdB_len y)
theorem hlB_len (x:List t9.den):(hlB x).length≤28*x.length+1:=by
 rw [hlB,List.length_cons];have:=hl_len x;omega
theorem wheld_f {l:List Int} (h:l.length≤30000000) {x:List t9.den} (hx:x.length≤1000):cp.F (l,()) x=some ((l++hlB x,()),()):=by
 have h2:=loop_go (n:=x.length) (L:=fun i=>cp.L1 x (x.length:Int) (i:Int) (l++(w8 (x.length:Int)::(x.take i).flatMap hdB))) (fun i hi=>by
  have h3:=hl_len (x.take i)
  rw [List.length_take] at h3
  try dsimp only
  rw [cp.L1_eq,bd_pos (by omega),cp.L2_eq,bd_pos (by omega)]
  simp only [toNat_cast]
  rw [getD_get hi,put4 (by simp only [List.length_append,List.length_cons];omega),ob]
  dsimp only
  rw [wbkt_f (by simp only [List.length_append,List.length_cons,be_len];omega),ob,W_eq (by omega) (by omega),cast_add1,flat_take hi]
  simp only [hdB,List.append_assoc,List.cons_append])
 have h2:cp.L1 x (x.length:Int) 0 (l++[w8 (x.length:Int)])=cp.L1 x (x.length:Int) (x.length:Int) (l++(w8 (x.length:Int)::(x.take x.length).flatMap hdB)):=h2
 rw [cp.F_eq,put1 (by omega),ob]
 dsimp only
 rw [h2,cp.L1_eq,bd_neg (by omega),List.take_of_length_le (Nat.le_refl _)]
 rfl
noncomputable def lmB (x:List t0.den) (i:Nat):List Int:=be (w64 (x.getD i (0,0,0,())).1) 4++(be (w64 (x.getD i (0,0,0,())).2.1) 4++be (w64 (x.getD i (0,0,0,())).2.2.1) 4)
theorem lmB_len (x:List t0.den) (i:Nat):(lmB x i).length=12:=by simp only [lmB,List.length_append,be_len]
noncomputable def rvB (u:Int):List Int:=be (w64 u) 4
theorem rvB_len (u:Int):(rvB u).length=4:=be_len _ _
noncomputable def accB (a:t10.den):List Int:=
 w8 a.1::((List.range 3).flatMap (lmB a.2.1)++(w8 (List.getD a.2.2.1 (Int.toNat 0) 0)::w8 (List.getD a.2.2.1 (Int.toNat 1) 0)::(bkB a.2.2.2.1++(hlB a.2.2.2.2.1++(hlB a.2.2.2.2.2.1++(w8 (List.length a.2.2.2.2.2.2.1:Int)::(List.flatMap rvB a.2.2.2.2.2.2.1++(be a.2.2.2.2.2.2.2.1.1 8++(be a.2.2.2.2.2.2.2.1.2.1 8++be a.2.2.2.2.2.2.2.1.2.2.1 8)))))))))
structure ASmall (a:t10.den):Prop where
 us:List.length a.2.2.2.2.1≤1000
 es:List.length a.2.2.2.2.2.1≤1000
 rv:List.length a.2.2.2.2.2.2.1≤1000
theorem lm_len (x:List t0.den) (i:Nat):((List.range i).flatMap (lmB x)).length≤12*i:=by
 have:=flat_len (c:=12) (f:=lmB x) (List.range i) fun y _=>Nat.le_of_eq (lmB_len x y)
 rwa [List.length_range] at this
theorem rv_len (x:List Int):(x.flatMap rvB).length≤4*x.length:=flat_len x fun y _=>Nat.le_of_eq (rvB_len y)
theorem accB_len {a:t10.den} (s:ASmall a):(accB a).length≤100000:=by
 obtain ⟨h1,h2,h3⟩:=s
 have a1:=lm_len a.2.1 3
 have a2:=hlB_len a.2.2.2.2.1
 have a3:=hlB_len a.2.2.2.2.2.1
 have a4:=rv_len a.2.2.2.2.2.2.1
 simp only [accB,List.length_append,List.length_cons,be_len,bkB_len]
 omega
theorem wacc_f {l:List Int} (h:l.length≤20000000) {a:t10.den} (s:ASmall a):al.F (l,()) a=some ((l++accB a,()),()):=by
 obtain ⟨h1,h2,h3⟩:=s
 obtain ⟨tn,lims,caps,⟨⟨o1,o2,o3,⟨⟩⟩,o4,o5,o6,⟨⟩⟩,us,es,rv,⟨y1,y2,y3,⟨⟩⟩,⟨⟩⟩:=a
 dsimp only at h1 h2 h3
 have q1:=lm_len lims 3
 have q2:=hlB_len us
 have q3:=hlB_len es
 have e1:=loop_go (n:=3) (L:=fun i=>al.L1 lims (i:Int) tn caps o1 o2 o3 o4 o5 o6 us es rv y1 y2 y3 (l++(w8 tn::(List.range i).flatMap (lmB lims)))) (fun i hi=>by
  have q:=lm_len lims i
  try dsimp only
  rw [al.L1_eq,bd_pos (by omega),al.L2_eq,bd_pos (by omega)]
  simp only [toNat_cast]
  rw [put4 (by simp only [List.length_append,List.length_cons];omega),ob]
  dsimp only
  rw [put4 (by simp only [List.length_append,List.length_cons,be_len];omega),ob]
  dsimp only
  rw [put4 (by simp only [List.length_append,List.length_cons,be_len];omega),ob,W_eq (by omega) (by omega),cast_add1,flat_range]
  simp only [lmB,List.append_assoc,List.cons_append])
 have e1:al.L1 lims 0 tn caps o1 o2 o3 o4 o5 o6 us es rv y1 y2 y3 (l++[w8 tn])=al.L1 lims ((3:Nat):Int) tn caps o1 o2 o3 o4 o5 o6 us es rv y1 y2 y3 (l++(w8 tn::(List.range 3).flatMap (lmB lims))):=e1
 have e2:=fun (l0:List Int) (hl0:l0.length≤25000000)=>loop_go (n:=rv.length) (L:=fun i=>al.L3 rv (rv.length:Int) (i:Int) tn lims caps o1 o2 o3 o4 o5 o6 us es y1 y2 y3 (l0++(rv.take i).flatMap rvB)) (fun i hi=>by
  have q:=rv_len (rv.take i)
  rw [List.length_take] at q
  try dsimp only
  rw [al.L3_eq,bd_pos (by omega),al.L4_eq,bd_pos (by omega)]
  simp only [toNat_cast]
  rw [put4 (by simp only [List.length_append];omega),ob,W_eq (by omega) (by omega),cast_add1,flat_take hi,getD_get hi]
  simp only [rvB,List.append_assoc])
 have e2:∀(l0:List Int),l0.length≤25000000→al.L3 rv (rv.length:Int) 0 tn lims caps o1 o2 o3 o4 o5 o6 us es y1 y2 y3 l0=al.L3 rv (rv.length:Int) (rv.length:Int) tn lims caps o1 o2 o3 o4 o5 o6 us es y1 y2 y3 (l0++rv.flatMap rvB):=fun l0 hl0=>by
  have:=e2 l0 hl0
  rw [List.take_of_length_le (Nat.le_refl _)] at this
  refine Eq.trans ?_ this
  show _=al.L3 _ _ 0 _ _ _ _ _ _ _ _ _ _ _ _ _ _ (l0++[])
  rw [List.append_nil]
 have q4:=rv_len rv
 rw [al.F_eq]
 dsimp only
 rw [put1 (by omega),ob]
 dsimp only
 rw [e1,al.L1_eq,bd_neg (by omega),bd_pos (by decide),put1 (by simp only [List.length_append,List.length_cons,List.length_nil];omega),ob,bd_pos (by decide)]
 dsimp only
 rw [put1 (by simp only [List.length_append,List.length_cons,List.length_nil];omega),ob]
 dsimp only
 rw [wbkt_f (by simp only [List.length_append,List.length_cons,List.length_nil];omega),ob]
 dsimp only
 rw [wheld_f (by simp only [List.length_append,List.length_cons,List.length_nil,bkB_len];omega) h1,ob]
 dsimp only
 rw [wheld_f (by simp only [List.length_append,List.length_cons,List.length_nil,bkB_len];omega) h2,ob]
 dsimp only
 rw [put1 (by simp only [List.length_append,List.length_cons,List.length_nil,bkB_len];omega),ob]
 dsimp only
 rw [e2 _ (by simp only [List.length_append,List.length_cons,List.length_nil,bkB_len];omega),al.L3_eq,bd_neg (by omega),put8 (by simp only [List.length_append,List.length_cons,List.length_nil,bkB_len];omega),ob]
 dsimp only
 rw [put8 (by simp only [List.length_append,List.length_cons,List.length_nil,bkB_len,be_len];omega),ob]
 dsimp only
 rw [put8 (by simp only [List.length_append,List.length_cons,List.length_nil,bkB_len,be_len];omega),ob]
 simp only [accB,List.append_assoc,List.cons_append,List.nil_append]
end Go.Proofs.YtkihjakbbcajbaaGreat.TB
namespace Go.Proofs.YtkihjakbbcajbaaGreat.TB
set_option linter.unusedSimpArgs false
set_option linter.unusedVariables false
open Go Go.Proofs Go.Proofs.YtkihjakbbcajbaaGreat.PM Go.Proofs.YtkihjakbbcajbaaGreat.RP
section
variable {cap:Int} {keys:List Int} {bks:List t1.den} {next:List Int} {used:List Bool} {free:Int} {x:List t3.den} {prev nxt:List Int} {head tail:Int} {l:List Int}
noncomputable def hd_ (keys:List Int) (bks:List t1.den) (p:Int):t9.den:=(keys.getD p.toNat 0,bks.getD p.toNat b0_,())
theorem rheld_f (g:TGood cap keys bks next used free x prev nxt head tail l) (hw:∀c∈bks,Z c.2.1≤9223372036854775807):dp.F (cap,keys,bks,(next,used,free,()),x,(prev,nxt,head,tail,()),())=some (l.map (hd_ keys bks),()):=by
 obtain ⟨l1,l2,l3,l4,l5,l6,l7⟩:=g.lens
 have hs:=g.order.short
 rw [dp.F_eq,keys_f g hw,ob]
 dsimp only
 have h2:=loop_go (n:=l.length) (L:=fun i=>dp.L1 ((l.map (fun p=>keys.getD p.toNat 0)).length:Int) (i:Int) cap keys bks next used free x prev nxt head tail ((l.take i).map (hd_ keys bks)) (l.map (fun p=>keys.getD p.toNat 0))) (fun i hi=>by
  have hm:l[i]∈l:=List.getElem_mem hi
  have e3:(l.map (fun p=>keys.getD p.toNat 0)).getD i 0=keys.getD (l[i]).toNat 0:=by
   rw [getD_get (by rw [List.length_map];exact hi),List.getElem_map]
  try dsimp only
  rw [dp.L1_eq,bd_pos (by rw [List.length_map];omega),dp.L2_eq,bd_pos (by rw [List.length_map];omega)]
  simp only [toNat_cast]
  rw [e3,get_f g hw (g.has_of hm),ob]
  dsimp only
  rw [lim_small (by decide) (by simp;omega),W_eq (by omega) (by omega),cast_add1,←List.take_append_getElem hi,List.map_append]
  rfl)
 refine Eq.trans h2 ?_
 try dsimp only
 rw [dp.L1_eq,bd_neg (by rw [List.length_map];omega),List.take_of_length_le (Nat.le_refl _)]
end
@[irreducible] noncomputable def heldOf (t:t5.den):List t9.den:=match dp.F t with
 |some (us,_)=>us
 |none=>[]
theorem heldOf_good {cap:Int} {keys:List Int} {bks:List t1.den} {next:List Int} {used:List Bool} {free:Int} {x:List t3.den} {prev nxt:List Int} {head tail:Int} {l:List Int} (g:TGood cap keys bks next used free x prev nxt head tail l) (hw:∀c∈bks,Z c.2.1≤9223372036854775807):heldOf (cap,keys,bks,(next,used,free,()),x,(prev,nxt,head,tail,()),())=l.map (hd_ keys bks):=by
 unfold heldOf;rw [rheld_f g hw]
theorem held_is {t:t5.den} (h:TOk t) (w:TWf t):(heldOf t).length≤16∧dp.F t=some (heldOf t,()):=by
 obtain ⟨cap,keys,bks,⟨next,used,free,⟨⟩⟩,x,⟨prev,nxt,head,tail,⟨⟩⟩,⟨⟩⟩:=t
 obtain ⟨l,g⟩:=h
 rw [heldOf_good g w.lev]
 have hs:=g.order.short
 exact ⟨by rw [List.length_map];exact hs,rheld_f g w.lev⟩
noncomputable def accOf (p:t7.den):t10.den:=(p.1,p.2.1,[p.2.2.2.1.1,p.2.2.2.2.1.1],p.2.2.1,heldOf p.2.2.2.1,heldOf p.2.2.2.2.1,p.2.2.2.2.2.1,p.2.2.2.2.2.2.1,())
theorem accOf_small {p:t7.den} (h:PartOk p) (w:PWf p):ASmall (accOf p):=by
 obtain ⟨h1,h2,h3,h4,h5,h6,h7,h8,h9,_⟩:=h
 have a:=(held_is h4 w.us).1
 have b:=(held_is h5 w.es).1
 refine ⟨?_,?_,?_⟩
 ·dsimp only [accOf]
  omega
 ·dsimp only [accOf]
  omega
 ·dsimp only [accOf]
  omega
theorem rof_f {s:t8.den} (hl:List.length s.2.2.2.1≤8) (h:∀p∈s.2.2.2.1,PartOk p) (w:∀p∈s.2.2.2.1,PWf p):ez.F s=some ((s.1,s.2.1,s.2.2.1,List.map accOf s.2.2.2.1,()),()):=by
 obtain ⟨now,seed,ep,ps,⟨⟩⟩:=s
 dsimp only at hl h w
 rw [ez.F_eq]
 dsimp only
 generalize List.replicate 32 (0:Int)=r1
 generalize List.replicate 16 (0:Int)=r2
 have h2:=loop_go (n:=ps.length) (L:=fun i=>ez.L1 ps (ps.length:Int) (i:Int) r1 r2 now seed ep [] ((ps.take i).map accOf)) (fun i hi=>by
  have hm:ps[i]∈ps:=List.getElem_mem hi
  obtain ⟨q1,q2,q3,q4,q5,q6,q7,q8,q9,_⟩:=h _ hm
  have ww:=w _ hm
  try dsimp only
  rw [ez.L1_eq,bd_pos (by omega),ez.L2_eq,bd_pos (by omega)]
  simp only [toNat_cast]
  rw [getD_get hi,(held_is q4 ww.us).2,ob,(held_is q5 ww.es).2,ob,lim_small (by decide) (by omega)]
  dsimp only
  rw [lim_small (by decide) (by simp;omega),W_eq (by omega) (by omega),cast_add1,←List.take_append_getElem hi,List.map_append]
  rfl)
 refine Eq.trans h2 ?_
 try dsimp only
 rw [ez.L1_eq,bd_neg (by omega),List.take_of_length_le (Nat.le_refl _)]
end Go.Proofs.YtkihjakbbcajbaaGreat.TB
namespace Go.Proofs.YtkihjakbbcajbaaGreat.TB
set_option linter.unusedSimpArgs false
set_option linter.unusedVariables false
open Go Go.Proofs Go.Proofs.YtkihjakbbcajbaaGreat.PM Go.Proofs.YtkihjakbbcajbaaGreat.RP
def LateL (l:List t1.den) (t:Int):Prop:=∃b∈l,Z b.2.2.2.1>t
def LateP (p:t7.den) (t:Int):Prop:=Z p.2.2.1.2.2.2.1>t∨LateL p.2.2.2.1.2.2.1 t∨LateL p.2.2.2.2.1.2.2.1 t
theorem late_at {l:List t1.den} {t:Int}:LateL l t↔∃i:Nat,∃h:i<l.length,Z (l[i]).2.2.2.1>t:=by
 constructor
 ·rintro ⟨b,hb,h⟩
  obtain ⟨i,hi,rfl⟩:=List.mem_iff_getElem.1 hb
  exact ⟨i,hi,h⟩
 ·rintro ⟨i,hi,h⟩
  exact ⟨_,List.getElem_mem hi,h⟩
theorem clate1_f (b:t1.den) (t:Int):fm.F b t=some (t,decide (Z b.2.2.2.1>t),()):=fm.F_eq b t
theorem contB_f {l:List t1.den} (hl:l.length≤1000) (t:Int):(LateL l t∧du.F l t=some (t,true,()))∨(¬LateL l t∧du.F l t=some (t,false,())):=by
 rw [du.F_eq,bi.F_eq]
 rcases find_loop (n:=l.length) (L:=fun i=>bi.L1 l (l.length:Int) (i:Int) t) (p:=fun i:Nat=>∃h:i<l.length,Z (l[i]).2.2.2.1>t) (hit:=fun i=>some (t,(i:Int),())) (miss:=some (t, -1,())) (fun i hi=>by
  try dsimp only
  rw [bi.L1_eq,bd_pos (by omega),bi.L2_eq,bd_pos (by omega)]
  simp only [toNat_cast]
  rw [getD_get hi,clate1_f,ob]
  dsimp only
  by_cases h:Z (l[i]).2.2.2.1>t
  ·rw [bd_pos h];exact .inl ⟨⟨hi,h⟩,rfl⟩
  ·rw [bd_neg h,bi.L3_eq,W_eq (by omega) (by omega),cast_add1];exact .inr ⟨fun ⟨_,z⟩=>h z,rfl⟩) (by
  try dsimp only
  rw [bi.L1_eq,bd_neg (by omega)]) with ⟨i,hi,h1,_,h2⟩|⟨h1,h2⟩
 ·refine .inl ⟨late_at.2 ⟨i,h1⟩,?_⟩
  rw [show bi.L1 l (l.length:Int) 0 t=_ from h2,ob]
  dsimp only
  rw [decide_eq_true (by omega)]
 ·refine .inr ⟨fun z=>?_,?_⟩
  ·obtain ⟨i,hi,h⟩:=late_at.1 z
   exact h1 i hi ⟨hi,h⟩
  ·rw [show bi.L1 l (l.length:Int) 0 t=_ from h2,ob]
   rfl
theorem late20_f {l:List t1.den} (hl:l.length≤1000) (t:Int):(LateL l t∧cj.F l t=some (true,()))∨(¬LateL l t∧cj.F l t=some (false,())):=by
 rw [cj.F_eq]
 rcases find_loop (n:=l.length) (L:=fun i=>cj.L1 l t (i:Int)) (p:=fun i:Nat=>∃h:i<l.length,Z (l[i]).2.2.2.1>t) (hit:=fun i=>some (true,())) (miss:=some (false,())) (fun i hi=>by
  try dsimp only
  rw [cj.L1_eq,bd_pos (by omega),cj.L2_eq,bd_pos (by omega)]
  simp only [toNat_cast]
  rw [getD_get hi]
  by_cases h:Z (l[i]).2.2.2.1>t
  ·rw [bd_pos h];exact .inl ⟨⟨hi,h⟩,rfl⟩
  ·rw [bd_neg h,cj.L3_eq,W_eq (by omega) (by omega),cast_add1];exact .inr ⟨fun ⟨_,z⟩=>h z,rfl⟩) (by
  try dsimp only
  rw [cj.L1_eq,bd_neg (by omega)]) with ⟨i,hi,h1,_,h2⟩|⟨h1,h2⟩
 ·exact .inl ⟨late_at.2 ⟨i,h1⟩,h2⟩
 ·refine .inr ⟨fun z=>?_,h2⟩
  obtain ⟨i,hi,h⟩:=late_at.1 z
  exact h1 i hi ⟨hi,h⟩
theorem alate_f {p:t7.den} (s:PSmall p) (t:Int):(LateP p t∧ge.F p t=some (true,()))∨(¬LateP p t∧ge.F p t=some (false,())):=by
 have h1:=s.us.bks
 have h2:=s.es.bks
 rw [ge.F_eq,clate1_f,ob]
 dsimp only
 by_cases a:Z p.2.2.1.2.2.2.1>t
 ·rw [bd_pos a];exact .inl ⟨.inl a,rfl⟩
 rw [bd_neg a]
 rcases contB_f (l:=p.2.2.2.1.2.2.1) (by omega) t with ⟨b,e⟩|⟨b,e⟩
 ·rw [e,ob,bt rfl];exact .inl ⟨.inr (.inl b),rfl⟩
 rw [e,ob,bf rfl]
 dsimp only
 rcases contB_f (l:=p.2.2.2.2.1.2.2.1) (by omega) t with ⟨c,e⟩|⟨c,e⟩
 ·rw [e,ob];exact .inl ⟨.inr (.inr c),rfl⟩
 ·rw [e,ob];exact .inr ⟨fun z=>z.elim a fun z=>z.elim b c,rfl⟩
theorem contP_f {l:List t7.den} (hl:l.length≤1000) (hs:∀p∈l,PSmall p) (s:t8.den):((∃p∈l,LateP p s.1)∧ek.F l s=some (s,true,()))∨((¬∃p∈l,LateP p s.1)∧ek.F l s=some (s,false,())):=by
 obtain ⟨now,seed,ep,ps,⟨⟩⟩:=s
 rw [ek.F_eq,bh.F_eq]
 dsimp only
 rcases find_loop (n:=l.length) (L:=fun i=>bh.L1 l (l.length:Int) (i:Int) now seed ep ps) (p:=fun i:Nat=>∃h:i<l.length,LateP l[i] now) (hit:=fun i=>some ((now,seed,ep,ps,()),(i:Int),())) (miss:=some ((now,seed,ep,ps,()), -1,())) (fun i hi=>by
  try dsimp only
  rw [bh.L1_eq,bd_pos (by omega),bh.L2_eq,bd_pos (by omega)]
  simp only [toNat_cast]
  rw [getD_get hi,fq.F_eq]
  dsimp only
  rcases alate_f (hs _ (List.getElem_mem hi)) now with ⟨a,e⟩|⟨a,e⟩
  ·rw [e,ob,ob,bt rfl];exact .inl ⟨⟨hi,a⟩,rfl⟩
  ·rw [e,ob,ob,bf rfl,bh.L3_eq,W_eq (by omega) (by omega),cast_add1];exact .inr ⟨fun ⟨_,z⟩=>a z,rfl⟩) (by
  try dsimp only
  rw [bh.L1_eq,bd_neg (by omega)]) with ⟨i,hi,⟨_,h1⟩,_,h2⟩|⟨h1,h2⟩
 ·refine .inl ⟨⟨_,List.getElem_mem hi,h1⟩,?_⟩
  rw [show bh.L1 l (l.length:Int) 0 now seed ep ps=_ from h2,ob]
  dsimp only
  rw [decide_eq_true (by omega)]
 ·refine .inr ⟨fun ⟨p,hp,z⟩=>?_,?_⟩
  ·obtain ⟨i,hi,rfl⟩:=List.mem_iff_getElem.1 hp
   exact h1 i hi ⟨hi,z⟩
  ·rw [show bh.L1 l (l.length:Int) 0 now seed ep ps=_ from h2,ob]
   rfl
def EpOk (ep:List Int):Prop:=∀i:Nat,i<16→¬Z (ep.getD i 0)>1000000
theorem max_l2 {ep:List Int} (hl:ep.length=16):∀(k i:Nat) (m:Int),i+k=16→∃m',dq.L2 ep m (i:Int)=some (m',())∧(m'>1000000↔m>1000000∨∃j:Nat,i≤j∧j<16∧Z (ep.getD j 0)>1000000)
 |0,i,m,h=>by
  rw [dq.L2_eq,bd_neg (by omega)]
  refine ⟨m,rfl,.inl,fun h=>h.elim id fun ⟨j,h1,h2,_⟩=>by omega⟩
 |k+1,i,m,h=>by
  obtain ⟨m',e,hm⟩:=max_l2 hl k (i+1) (max m (ep.getD i 0)) (by omega)
  rw [dq.L2_eq,bd_pos (by omega),dq.L3_eq,bd_pos (by omega),W_eq (by omega) (by omega),cast_add1,toNat_cast]
  refine ⟨m',e,hm.trans ⟨?_,?_⟩⟩
  ·rintro (h1|⟨j,h1,h2,h3⟩)
   ·by_cases h2:m>1000000
    ·exact .inl h2
    ·exact .inr ⟨i,Nat.le_refl _,by omega,by show ep.getD i 0>1000000;omega⟩
   ·exact .inr ⟨j,by omega,h2,h3⟩
  ·rintro (h1|⟨j,h1,h2,h3⟩)
   ·exact .inl (by omega)
   ·by_cases e:j=i
    ·subst e
     have h3:ep.getD j 0>1000000:=h3
     exact .inl (by omega)
    ·exact .inr ⟨j,by omega,h2,h3⟩
theorem max_f {ep:List Int} (hl:ep.length=16):∃m,dq.F ep=some (m,())∧(m>1000000↔¬EpOk ep):=by
 obtain ⟨m',e,hm⟩:=max_l2 hl 15 1 (ep.getD 0 0) rfl
 refine ⟨m',?_,hm.trans ?_⟩
 ·rw [dq.F_eq,bd_neg (by omega),dq.L1_eq,bd_pos (by omega)]
  exact e
 ·constructor
  ·rintro (h|⟨j,h1,h2,h3⟩) o
   ·exact o 0 (by omega) h
   ·exact o j h2 h3
  ·intro h
   apply Classical.byContradiction
   intro n
   refine h fun i hi z=>n ?_
   by_cases e:i=0
   ·subst e;exact .inl z
   ·exact .inr ⟨i,by omega,hi,z⟩
structure SVal (s:t8.den):Prop where
 reg:GReg s.2.2.2.1
 ep:EpOk s.2.2.1
 late:¬∃p∈s.2.2.2.1,LateP p s.1
structure SWf (s:t8.den):Prop where
 few:List.length s.2.2.2.1≤20
 small:∀p∈s.2.2.2.1,PSmall p
 wf:∀p∈s.2.2.2.1,PWf p
 eps:List.length s.2.2.1=16
 seed:List.length s.2.1=32
theorem svalid_says {s:t8.den} (w:SWf s):Says (SVal s) (fv.F s):=by
 obtain ⟨few,sm,wf,eps,_⟩:=w
 obtain ⟨now,seed,ep,ps,⟨⟩⟩:=s
 dsimp only at few sm wf eps
 rw [fv.F_eq,ew.F_eq]
 dsimp only
 rcases check_f wf few with ⟨g,e,_⟩|⟨g,c,hc,e,_⟩
 ·rw [e,ob,bne_neg rfl,ew.L1_eq,bd_pos (by decide)]
  obtain ⟨m,em,hm⟩:=max_f eps
  have et:List.take ((Int.toNat 16) - (Int.toNat 0)) (List.drop (Int.toNat 0) ep)=ep:=by
   show List.take 16 ep=ep
   exact List.take_of_length_le (by omega)
  rw [et,em,ob]
  dsimp only
  by_cases a:m>1000000
  ·rw [bd_pos a];exact .inr ⟨fun z=>hm.1 a z.ep,rfl⟩
  rw [bd_neg a]
  have ho:EpOk ep:=Classical.byContradiction fun z=>a (hm.2 z)
  rcases contP_f (l:=ps) (by omega) sm (now,seed,ep,ps,()) with ⟨b,e⟩|⟨b,e⟩
  ·rw [e,ob,bt rfl];exact .inr ⟨fun z=>z.late b,rfl⟩
  ·rw [e,ob,bf rfl,ew.L2_eq];exact .inl ⟨⟨g,ho,b⟩,rfl⟩
 ·have c0:c≠0:=by omega
  rw [e,ob,bne_pos c0];exact .inr ⟨fun z=>g z.reg,rfl⟩
theorem rvalid_says {s:t8.den} (w:SWf s):Says (SVal s) (ah.F s):=by
 obtain ⟨few,sm,wf,eps,_⟩:=w
 obtain ⟨now,seed,ep,ps,⟨⟩⟩:=s
 dsimp only at few sm wf eps
 rw [ah.F_eq]
 dsimp only
 rcases check_f wf few with ⟨g,_,e⟩|⟨g,c,hc,_,e⟩
 ·rw [e,ob,bne_neg rfl,ah.L1_eq]
  have a:=loop_all (n:=16) (L:=fun i=>ah.L2 (i:Int) now seed ep ps) (ok:=fun i=>¬Z (ep.getD i 0)>1000000) (stop:=some (8,())) (fun i hi=>by
   try dsimp only
   rw [ah.L2_eq,bd_pos (by omega),ah.L3_eq,bd_pos (by omega)]
   simp only [toNat_cast]
   by_cases h:Z (ep.getD i 0)>1000000
   ·rw [bd_pos h];exact .inr ⟨fun z=>z h,rfl⟩
   ·rw [bd_neg h,ah.L7_eq,W_eq (by omega) (by omega),cast_add1];exact .inl ⟨h,rfl⟩)
  have b:=loop_all (n:=ps.length) (L:=fun i=>ah.L4 (i:Int) now seed ep ps) (ok:=fun i=>∀h:i<ps.length,¬LateP ps[i] now) (stop:=some (8,())) (fun i hi=>by
   have h1:=(sm _ (List.getElem_mem hi)).us.bks
   have h2:=(sm _ (List.getElem_mem hi)).es.bks
   try dsimp only
   rw [ah.L4_eq,bd_pos (by omega),ah.L5_eq,bd_pos (by omega)]
   simp only [toNat_cast]
   rw [getD_get hi]
   by_cases a:Z (ps[i]).2.2.1.2.2.2.1>now
   ·rw [bd_pos a];exact .inr ⟨fun z=>z hi (.inl a),rfl⟩
   rw [bd_neg a]
   rcases late20_f (l:=(ps[i]).2.2.2.1.2.2.1) (by omega) now with ⟨b,e⟩|⟨b,e⟩
   ·rw [e,ob,bt rfl];exact .inr ⟨fun z=>z hi (.inr (.inl b)),rfl⟩
   rw [e,ob,bf rfl]
   rcases late20_f (l:=(ps[i]).2.2.2.2.1.2.2.1) (by omega) now with ⟨c,e⟩|⟨c,e⟩
   ·rw [e,ob,bt rfl];exact .inr ⟨fun z=>z hi (.inr (.inr c)),rfl⟩
   ·rw [e,ob,bf rfl,ah.L6_eq,W_eq (by omega) (by omega),cast_add1]
    exact .inl ⟨fun _ z=>z.elim a fun z=>z.elim b c,rfl⟩)
  rcases a with ⟨a,e⟩|⟨a,e⟩
  ·rw [show ah.L2 0 now seed ep ps=_ from e]
   try dsimp only
   rw [ah.L2_eq,bd_neg (by omega)]
   rcases b with ⟨b,e⟩|⟨b,e⟩
   ·rw [show ah.L4 0 now seed ep ps=_ from e]
    try dsimp only
    rw [ah.L4_eq,bd_neg (by omega)]
    refine .inl ⟨⟨g,a,fun ⟨p,hp,z⟩=>?_⟩,rfl⟩
    obtain ⟨i,hi,rfl⟩:=List.mem_iff_getElem.1 hp
    exact b i hi hi z
   ·rw [show ah.L4 0 now seed ep ps=_ from e]
    exact .inr ⟨fun z=>b fun i hi h z2=>z.late ⟨_,List.getElem_mem h,z2⟩,rfl⟩
  ·rw [show ah.L2 0 now seed ep ps=_ from e]
   exact .inr ⟨fun z=>a z.ep,rfl⟩
 ·have c0:c≠0:=by omega
  rw [e,ob,bne_pos c0];exact .inr ⟨fun z=>g z.reg,rfl⟩
end Go.Proofs.YtkihjakbbcajbaaGreat.TB
namespace Go.Proofs.YtkihjakbbcajbaaGreat.TB
set_option linter.unusedSimpArgs false
set_option linter.unusedVariables false
open Go Go.Proofs Go.Proofs.YtkihjakbbcajbaaGreat.PM Go.Proofs.YtkihjakbbcajbaaGreat.RP
noncomputable def epB (ep:List Int) (i:Nat):List Int:=be (w64 (ep.getD i 0)) 4
theorem ep_len (ep:List Int) (i:Nat):((List.range i).flatMap (epB ep)).length≤4*i:=by
 have:=flat_len (c:=4) (f:=epB ep) (List.range i) fun y _=>Nat.le_of_eq (be_len _ _)
 rwa [List.length_range] at this
noncomputable def mdB (now:Int) (seed ep:List Int) (ac:List t10.den):List Int:=
 be now 8++(List.take 32 seed++((List.range 16).flatMap (epB ep)++(w8 (ac.length:Int)::ac.flatMap accB)))
theorem ac_len {ac:List t10.den} (h:∀a∈ac,ASmall a):(ac.flatMap accB).length≤100000*ac.length:=flat_len ac fun a ha=>accB_len (h a ha)
theorem wep_l2 {now:Int} {seed ep:List Int} {ac:List t10.den} {b:List Int} (hb:b.length≤1000):ca.L2 ep 0 now seed ac b=ca.L4 (ac.length:Int) 0 ac ((b++(List.range 16).flatMap (epB ep))++[w8 (ac.length:Int)]):=by
 have e1:=loop_go (n:=16) (L:=fun i=>ca.L2 ep (i:Int) now seed ac (b++(List.range i).flatMap (epB ep))) (fun i hi=>by
  have q:=ep_len ep i
  try dsimp only
  rw [ca.L2_eq,bd_pos (by omega),ca.L3_eq,bd_pos (by omega)]
  simp only [toNat_cast]
  rw [put4 (by simp only [List.length_append];omega),ob,W_eq (by omega) (by omega),cast_add1,flat_range]
  simp only [epB,List.append_assoc])
 have e1:ca.L2 ep 0 now seed ac (b++[])=ca.L2 ep ((16:Nat):Int) now seed ac (b++(List.range 16).flatMap (epB ep)):=e1
 rw [List.append_nil] at e1
 have q:=ep_len ep 16
 rw [e1,ca.L2_eq,bd_neg (by omega),put1 (by simp only [List.length_append,List.length_cons,List.length_nil];omega),ob]
theorem wacc_l4 {ac:List t10.den} {b:List Int} (hb:b.length≤2000) (hl:ac.length≤100) (ha:∀a∈ac,ASmall a):ca.L4 (ac.length:Int) 0 ac b=some (b++ac.flatMap accB,0,()):=by
 have e1:=loop_go (n:=ac.length) (L:=fun i=>ca.L4 (ac.length:Int) (i:Int) ac (b++(ac.take i).flatMap accB)) (fun i hi=>by
  have q:=ac_len (ac:=ac.take i) fun a h=>ha a (List.mem_of_mem_take h)
  rw [List.length_take] at q
  try dsimp only
  rw [ca.L4_eq,bd_pos (by omega),ca.L5_eq,bd_pos (by omega)]
  simp only [toNat_cast]
  rw [getD_get hi,wacc_f (by simp only [List.length_append];omega) (ha _ (List.getElem_mem hi)),ob,W_eq (by omega) (by omega),cast_add1,flat_take hi,List.append_assoc])
 have e1:ca.L4 (ac.length:Int) 0 ac (b++[])=ca.L4 (ac.length:Int) (ac.length:Int) ac (b++(ac.take ac.length).flatMap accB):=e1
 rw [List.append_nil,List.take_of_length_le (Nat.le_refl _)] at e1
 rw [e1,ca.L4_eq,bd_neg (by omega)]
noncomputable def imB (s:t8.den):List Int:=mdB s.1 s.2.1 s.2.2.1 (List.map accOf s.2.2.2.1)
theorem accs_small {s:t8.den} (w:SWf s) (v:SVal s):∀a∈List.map accOf s.2.2.2.1,ASmall a:=fun a ha=>by
 obtain ⟨p,hp,rfl⟩:=List.mem_map.1 ha
 exact accOf_small (v.reg.ok p hp) (w.wf p hp)
theorem of_f {s:t8.den} (w:SWf s) (v:SVal s):fe.F s=some ((s.1,s.2.1,s.2.2.1,List.map accOf s.2.2.2.1,()),0,()):=by
 rw [fe.F_eq,(svalid_says w).yes v,ob,bne_neg rfl,fe.L1_eq]
 rw [show ez.F (s.1,s.2.1,s.2.2.1,s.2.2.2.1,())=_ from rof_f v.reg.len v.reg.ok w.wf,ob]
theorem write_f {s:t8.den} (w:SWf s) (v:SVal s):ca.F s=some (imB s,0,()):=by
 have q0:=be_len s.1 8
 have q:=ep_len s.2.2.1 16
 have hl:=v.reg.len
 have hs:=w.seed
 rw [ca.F_eq,(svalid_says w).yes v,ob,bne_neg rfl,ca.L1_eq,show fe.F (s.1,s.2.1,s.2.2.1,s.2.2.2.1,())=_ from of_f w v,ob]
 dsimp only
 rw [put8 (by decide),ob,bd_pos (by decide)]
 dsimp only
 have et:List.take ((Int.toNat 32) - (Int.toNat 0)) (List.drop (Int.toNat 0) s.2.1)=List.take 32 s.2.1:=rfl
 rw [et,List.nil_append,lim_small (by decide) (by rw [List.length_take];omega),wep_l2 (by rw [List.length_append,List.length_take];omega),wacc_l4 (by simp only [List.length_append,List.length_take,List.length_cons,List.length_nil];omega) (by rw [List.length_map];omega) (accs_small w v)]
 simp only [imB,mdB,List.append_assoc,List.cons_append,List.nil_append]
end Go.Proofs.YtkihjakbbcajbaaGreat.TB
namespace Go.Proofs.YtkihjakbbcajbaaGreat.TB
set_option linter.unusedSimpArgs false
set_option linter.unusedVariables false
open Go Go.Proofs Go.Proofs.YtkihjakbbcajbaaGreat.PM Go.Proofs.YtkihjakbbcajbaaGreat.RP
def vN:List Int→Nat→Nat
 |[],n=>n
 |x::xs,n=>vN xs (n*256+x.toNat)
def Bytes (b:List Int):Prop:=∀x∈b,0≤Z x∧Z x<256
theorem vN_snoc (x:Int):∀(xs:List Int) (n:Nat),vN (xs++[x]) n=vN xs n*256+x.toNat
 |[],_=>rfl
 |y::ys,n=>vN_snoc x ys _
theorem vN_lt:∀(xs:List Int) (n:Nat),Bytes xs→vN xs n<(n+1)*256 ^ xs.length
 |[],n,_=>by simp [vN]
 |x::xs,n,h=>by
  have hx:0≤x∧x<256:=h x List.mem_cons_self
  have:=vN_lt xs (n*256+x.toNat) fun y hy=>h y (List.mem_cons_of_mem _ hy)
  have h2:n*256+x.toNat+1≤(n+1)*256:=by omega
  have h3:(n*256+x.toNat+1)*256 ^ xs.length≤((n+1)*256)*256 ^ xs.length:=Nat.mul_le_mul_right _ h2
  rw [List.length_cons,Nat.pow_succ]
  show vN xs (n*256+x.toNat)<(n+1)*(256 ^ xs.length*256)
  have h4:(n+1)*256*256 ^ xs.length=(n+1)*(256 ^ xs.length*256):=by
   rw [Nat.mul_assoc,Nat.mul_comm 256]
  omega
theorem vN_small {xs:List Int} (h:Bytes xs) (hl:xs.length≤8):vN xs 0<18446744073709551616:=by
 have h1:=vN_lt xs 0 h
 have h2:256 ^ xs.length≤256 ^ 8:=Nat.pow_le_pow_right (by decide) hl
 have h3:(256:Nat) ^ 8=18446744073709551616:=by decide
 omega
theorem or_bytes {m c:Nat} (hc:c<256) (hm:m*256+c<18446744073709551616):PM.bits .or .u64 ((m*256:Nat):Int) (c:Int)=((m*256+c:Nat):Int):=by
 have e:m*256|||c=m*256+c:=by
  have:=Nat.two_pow_add_eq_or_of_lt (i:=8) (b:=c) (by omega) m
  rw [Nat.mul_comm m 256]
  exact this.symm
 show IntKind.wrap .u64 (((BitVec.ofInt 64 ((m*256:Nat):Int))|||(BitVec.ofInt 64 ((c:Nat):Int))).toNat:Int)=_
 rw [BitVec.toNat_or,BitVec.toNat_ofInt,BitVec.toNat_ofInt]
 have e1:((((m*256:Nat):Int)) % ((2 ^ 64:Nat):Int)).toNat=m*256:=by
  have:(2:Nat) ^ 64=18446744073709551616:=by decide
  rw [this];omega
 have e2:(((c:Nat):Int) % ((2 ^ 64:Nat):Int)).toNat=c:=by
  have:(2:Nat) ^ 64=18446744073709551616:=by decide
  rw [this];omega
 rw [e1,e2,e,IntKind.wrap_u64]
 omega
theorem Bytes.take {b:List Int} (h:Bytes b) (k:Nat):Bytes (b.take k):=fun x hx=>h x (List.mem_of_mem_take hx)
theorem Bytes.drop {b:List Int} (h:Bytes b) (k:Nat):Bytes (b.drop k):=fun x hx=>h x (List.mem_of_mem_drop hx)
theorem vN_step {b:List Int} (hb:Bytes b) {i:Nat} (hi:i<b.length) (h8:i<8):vN (b.take (i+1)) 0=vN (b.take i) 0*256+(b.getD i 0).toNat∧0≤b.getD i 0∧b.getD i 0<256∧vN (b.take i) 0*256+(b.getD i 0).toNat<18446744073709551616:=by
 have e:vN (b.take (i+1)) 0=vN (b.take i) 0*256+(b.getD i 0).toNat:=by rw [take_snoc hi,vN_snoc]
 have hx:0≤b.getD i 0∧b.getD i 0<256:=by rw [getD_get hi];exact hb _ (List.getElem_mem hi)
 have:=vN_small (hb.take (i+1)) (by rw [List.length_take];omega)
 exact ⟨e,hx.1,hx.2,by omega⟩
theorem get_ok {b:List Int} (hb:Bytes b) (s:Bool) {k:Nat} (k8:k≤8) (h:k≤b.length) (hl:b.length≤100000):ai.F (b,s,()) (k:Int)=some ((b.drop k,s,()),((vN (b.take k) 0:Nat):Int),()):=by
 rw [ai.F_eq]
 dsimp only
 rw [bd_neg (by omega),ai.L1_eq,bd_pos (by omega)]
 have et:List.take (Int.toNat (k:Int) - Int.toNat 0) (List.drop (Int.toNat 0) b)=b.take k:=by rw [toNat_cast];rfl
 rw [et]
 have tl:(b.take k).length=k:=by rw [List.length_take];omega
 have e2:=loop_go (n:=k) (L:=fun i=>ai.L2 (k:Int) ((vN (b.take i) 0:Nat):Int) (b.take k) (k:Int) (i:Int) b s) (fun i hi=>by
  obtain ⟨v1,v2,v3,v4⟩:=vN_step hb (i:=i) (by omega) (by omega)
  have eg:(b.take k).getD i 0=b.getD i 0:=by rw [getD_get (by omega),getD_get (by omega),List.getElem_take]
  obtain ⟨c,hc⟩:∃c:Nat,b.getD i 0=(c:Int):=⟨(b.getD i 0).toNat,by omega⟩
  rw [hc] at v1 v2 v3 v4
  rw [toNat_cast] at v1 v4
  have p8:(2:Int) ^ min (Int.toNat 8) (IntKind.bits .u64)=256:=by decide
  try dsimp only
  rw [ai.L2_eq,bd_pos (by omega),ai.L3_eq,bd_pos (by omega),bd_pos (by decide)]
  simp only [toNat_cast]
  rw [eg,hc,p8,W_eq (by omega) (by omega),cast_add1,v1]
  have w1:IntKind.wrap .u64 (((vN (b.take i) 0:Nat):Int)*256)=((vN (b.take i) 0*256:Nat):Int):=by rw [IntKind.wrap_u64];omega
  have w2:IntKind.wrap .u64 ((c:Nat):Int)=((c:Nat):Int):=by rw [IntKind.wrap_u64];omega
  rw [w1,w2,or_bytes (by omega) v4])
 have e2:ai.L2 (k:Int) 0 (b.take k) (k:Int) 0 b s=ai.L2 (k:Int) ((vN (b.take k) 0:Nat):Int) (b.take k) (k:Int) (k:Int) b s:=e2
 rw [tl,e2,ai.L2_eq,bd_neg (by omega),bd_pos (by omega)]
 simp only [toNat_cast]
 rw [List.take_of_length_le (by rw [List.length_drop];omega)]
theorem get_no {b:List Int} (s:Bool) {k:Nat} (h:¬k≤b.length):ai.F (b,s,()) (k:Int)=some (([],true,()),0,()):=by
 rw [ai.F_eq]
 dsimp only
 rw [bd_pos (by omega)]
theorem take_ok {b:List Int} (hb:Bytes b) (s:Bool) {k:Nat} (k8:k≤8) (h:k≤b.length) (hl:b.length≤100000):au.F (b,s,()) (k:Int)=some ((b.drop k,s,()),((vN (b.take k) 0:Nat):Int),()):=by
 rw [au.F_eq]
 dsimp only
 rw [bd_neg (by omega),au.L1_eq]
 have e2:=loop_go (n:=k) (L:=fun i=>au.L2 (k:Int) ((vN (b.take i) 0:Nat):Int) (i:Int) b s) (fun i hi=>by
  obtain ⟨v1,v2,v3,v4⟩:=vN_step hb (i:=i) (by omega) (by omega)
  obtain ⟨c,hc⟩:∃c:Nat,b.getD i 0=(c:Int):=⟨(b.getD i 0).toNat,by omega⟩
  rw [hc] at v1 v2 v3 v4
  rw [toNat_cast] at v1 v4
  have p8:(2:Int) ^ min (Int.toNat 8) (IntKind.bits .u64)=256:=by decide
  try dsimp only
  rw [au.L2_eq,bd_pos (by omega),au.L3_eq,bd_pos (by decide),bd_pos (by omega)]
  simp only [toNat_cast]
  rw [hc,p8,W_eq (by omega) (by omega),cast_add1,v1]
  have w1:IntKind.wrap .u64 (IntKind.wrap .u64 (((vN (b.take i) 0:Nat):Int)*256)+IntKind.wrap .u64 ((c:Nat):Int))=((vN (b.take i) 0*256+c:Nat):Int):=by rw [IntKind.wrap_u64,IntKind.wrap_u64,IntKind.wrap_u64];omega
  rw [w1])
 have e2:au.L2 (k:Int) 0 0 b s=au.L2 (k:Int) ((vN (b.take k) 0:Nat):Int) (k:Int) b s:=e2
 rw [e2,au.L2_eq,bd_neg (by omega),bd_pos (by omega)]
 simp only [toNat_cast]
 rw [List.take_of_length_le (by rw [List.length_drop];omega)]
theorem take_no {b:List Int} (s:Bool) {k:Nat} (h:¬k≤b.length):au.F (b,s,()) (k:Int)=some ((b,true,()),0,()):=by
 rw [au.F_eq]
 dsimp only
 rw [bd_pos (by omega)]
end Go.Proofs.YtkihjakbbcajbaaGreat.TB
namespace Go.Proofs.YtkihjakbbcajbaaGreat.TB
set_option linter.unusedSimpArgs false
set_option linter.unusedVariables false
open Go Go.Proofs Go.Proofs.YtkihjakbbcajbaaGreat.PM Go.Proofs.YtkihjakbbcajbaaGreat.RP
noncomputable def nA (b:List Int) (i k:Nat):Int:=((vN ((b.drop i).take k) 0:Nat):Int)
theorem get_short (b:List Int) (hb:Bytes b) (hl:b.length≤100000) {k:Nat} (k8:k≤8):∃b' n,Bytes b'∧b'.length≤b.length∧ai.F (b,true,()) (k:Int)=some ((b',true,()),n,()):=by
 by_cases h:k≤b.length
 ·exact ⟨b.drop k,_,hb.drop k,by rw [List.length_drop];omega,get_ok hb true k8 h hl⟩
 ·exact ⟨[],0,(fun x hx=>by cases hx),Nat.zero_le _,get_no true h⟩
theorem take_short (b:List Int) (hb:Bytes b) (hl:b.length≤100000) {k:Nat} (k8:k≤8):∃b' n,Bytes b'∧b'.length≤b.length∧au.F (b,true,()) (k:Int)=some ((b',true,()),n,()):=by
 by_cases h:k≤b.length
 ·exact ⟨b.drop k,_,hb.drop k,by rw [List.length_drop];omega,take_ok hb true k8 h hl⟩
 ·exact ⟨b,0,hb,Nat.le_refl _,take_no true h⟩
end Go.Proofs.YtkihjakbbcajbaaGreat.TB
namespace Go.Proofs.YtkihjakbbcajbaaGreat.RD
set_option linter.unusedSimpArgs false
set_option linter.unusedVariables false
open Go Go.Proofs Go.Proofs.YtkihjakbbcajbaaGreat.PM Go.Proofs.YtkihjakbbcajbaaGreat.RP Go.Proofs.YtkihjakbbcajbaaGreat.TB
def SOk (b:List Int):Prop:=Bytes b∧b.length≤100000
@[reducible] def PR (α:Type):Type:=List Int→Option (α × List Int)
def RR (r:t12.den):Option (List Int)→Prop
 |some b=>SOk b∧r=(b,false,())
 |none=>∃b,SOk b∧r=(b,true,())
def Rds {α:Type} (o:Option (t12.den × α × Unit)):Option (α × List Int)→Prop
 |some (v,b)=>SOk b∧o=some ((b,false,()),v,())
 |none=>∃b v,SOk b∧o=some ((b,true,()),v,())
theorem stp {α β X:Type} (C:Option X→Option β→Prop) {o:Option (t12.den × α × Unit)} {s:Option (List Int)} {P:PR α} {Q:α × List Int→Option β} {G:t12.den × α × Unit→Option X} (h:Rds o (s.bind P))
  (k:∀r v s',RR r s'→(∀b,s'=some b→s.bind P=some (v,b))→C (G (r,v,())) (s'.bind fun b=>Q (v,b))):C (o.bind G) (s.bind fun b=>(P b).bind Q):=by
 have e:(s.bind fun b=>(P b).bind Q)=(s.bind P).bind Q:=by cases s<;>rfl
 rw [e]
 cases hp:s.bind P with
 |none=>
  rw [hp] at h
  obtain ⟨b,v,hb,rfl⟩:=h
  exact k (b,true,()) v none ⟨b,hb,rfl⟩ (fun b e=>by cases e)
 |some x=>
  obtain ⟨v,b⟩:=x
  rw [hp] at h
  obtain ⟨hb,rfl⟩:=h
  exact k (b,false,()) v (some b) ⟨hb,rfl⟩ (fun b' e=>by rw [hp,Option.some.inj e])
theorem ret {α:Type} {r:t12.den} {s:Option (List Int)} (h:RR r s) (v:α):Rds (some (r,v,())) (s.bind fun b=>some (v,b)):=by
 cases s with
 |none=>
  obtain ⟨b,hb,rfl⟩:=h
  exact ⟨b,v,hb,rfl⟩
 |some b=>
  obtain ⟨hb,rfl⟩:=h
  exact ⟨hb,rfl⟩
noncomputable def pN (k:Nat):PR Int:=fun b=>if k≤b.length then some (nA b 0 k,b.drop k) else none
theorem SOk.drop {b:List Int} (h:SOk b) (k:Nat):SOk (b.drop k):=⟨h.1.drop k,by have:=h.2;rw [List.length_drop];omega⟩
theorem SOk.nil:SOk []:=⟨fun x hx=>(by cases hx),Nat.zero_le _⟩
theorem get_run {r:t12.den} {s:Option (List Int)} (h:RR r s) {k:Nat} (k8:k≤8):Rds (ai.F r (k:Int)) (s.bind (pN k)):=by
 cases s with
 |none=>
  obtain ⟨b,hb,rfl⟩:=h
  obtain ⟨b',n,h1,h2,h3⟩:=get_short b hb.1 hb.2 k8
  exact ⟨b',n,⟨h1,Nat.le_trans h2 hb.2⟩,h3⟩
 |some b=>
  obtain ⟨hb,rfl⟩:=h
  show Rds _ (pN k b)
  unfold pN
  split
  ·rename_i hk;exact ⟨hb.drop k,get_ok hb.1 false k8 hk hb.2⟩
  ·rename_i hk;exact ⟨[],0,.nil,get_no false hk⟩
theorem take_run {r:t12.den} {s:Option (List Int)} (h:RR r s) {k:Nat} (k8:k≤8):Rds (au.F r (k:Int)) (s.bind (pN k)):=by
 cases s with
 |none=>
  obtain ⟨b,hb,rfl⟩:=h
  obtain ⟨b',n,h1,h2,h3⟩:=take_short b hb.1 hb.2 k8
  exact ⟨b',n,⟨h1,Nat.le_trans h2 hb.2⟩,h3⟩
 |some b=>
  obtain ⟨hb,rfl⟩:=h
  show Rds _ (pN k b)
  unfold pN
  split
  ·rename_i hk;exact ⟨hb.drop k,take_ok hb.1 false k8 hk hb.2⟩
  ·rename_i hk;exact ⟨b,0,hb,take_no false hk⟩
section
variable {r:t12.den} {s:Option (List Int)} (h:RR r s)
include h
theorem g1:Rds (ai.F r 1) (s.bind (pN 1)):=get_run h (k:=1) (by decide)
theorem g4:Rds (ai.F r 4) (s.bind (pN 4)):=get_run h (k:=4) (by decide)
theorem g8:Rds (ai.F r 8) (s.bind (pN 8)):=get_run h (k:=8) (by decide)
theorem k1:Rds (au.F r 1) (s.bind (pN 1)):=take_run h (k:=1) (by decide)
theorem k4:Rds (au.F r 4) (s.bind (pN 4)):=take_run h (k:=4) (by decide)
theorem k8:Rds (au.F r 8) (s.bind (pN 8)):=take_run h (k:=8) (by decide)
theorem num1 {s':Option (List Int)} {v:Int} (hp:∀b,s'=some b→s.bind (pN 1)=some (v,b)):s'=none∨∃n:Nat,n<256∧v=(n:Int):=by
 cases s' with
 |none=>exact .inl rfl
 |some b=>
  right
  have hp:=hp b rfl
  cases s with
  |none=>cases hp
  |some b0=>
   obtain ⟨hb,rfl⟩:=h
   have hp:pN 1 b0=some (v,b):=hp
   unfold pN at hp
   split at hp
   ·have:=congrArg (fun x=>x.1) (Option.some.inj hp)
    refine ⟨_,?_,this.symm⟩
    have h2:=vN_lt (b0.drop 0|>.take 1) 0 ((hb.1.drop 0).take 1)
    have h3:256 ^ (List.take 1 (List.drop 0 b0)).length≤256 ^ 1:=Nat.pow_le_pow_right (by decide) (by rw [List.length_take];omega)
    omega
   ·cases hp
end
noncomputable def pB (l:t0.den):PR t1.den:=fun b=>(pN 8 b).bind fun x=>(pN 8 x.2).bind fun y=>(pN 8 y.2).bind fun z=>some ((l,IntKind.wrap .i64 x.1,IntKind.wrap .i64 y.1,z.1,()),z.2)
theorem gbkt {r:t12.den} {s:Option (List Int)} (h:RR r s) (l:t0.den):Rds (eo.F r l) (s.bind (pB l)):=by
 rw [eo.F_eq]
 refine stp Rds (g8 h) fun r1 v1 s1 h1 _=>?_
 dsimp only
 refine stp Rds (g8 h1) fun r2 v2 s2 h2 _=>?_
 dsimp only
 refine stp Rds (g8 h2) fun r3 v3 s3 h3 _=>?_
 dsimp only
 exact ret h3 _
noncomputable def pRep {α:Type}:Nat→PR α→PR (List α)
 |0,_=>fun b=>some ([],b)
 |k+1,p=>fun b=>(p b).bind fun x=>(pRep k p x.2).bind fun y=>some (x.1::y.1,y.2)
noncomputable def pH (l:t0.den):PR t9.den:=fun b=>(pN 4 b).bind fun x=>(pB l x.2).bind fun y=>some ((IntKind.wrap .u32 x.1,y.1,()),y.2)
noncomputable def pHl (l:t0.den):PR (List t9.den):=fun b=>(pN 1 b).bind fun x=>pRep x.1.toNat (pH l) x.2
theorem rep_H (k:Nat) (l:t0.den) (acc:List t9.den):(fun b=>(pRep (k+1) (pH l) b).bind fun y=>some (acc++y.1,y.2))=fun b=>(pN 4 b).bind fun x=>(pB l x.2).bind fun y=>(pRep k (pH l) y.2).bind fun z=>some ((acc++[(IntKind.wrap .u32 x.1,y.1,())])++z.1,z.2):=by
 funext b
 simp only [pRep,pH,Option.bind_assoc,Option.bind_some,List.append_assoc,List.cons_append,List.nil_append]
theorem rep_nil {α:Type} (k:Nat) (p:PR α) (s:Option (List Int)):(s.bind fun b=>(pRep k p b).bind fun y=>some (([]:List α)++y.1,y.2))=s.bind fun b=>pRep k p b:=by
 cases s with
 |none=>rfl
 |some b=>
  show (pRep k p b).bind _=pRep k p b
  cases pRep k p b<;>rfl
theorem u64_dec {k:Nat} (h:k≤100000):IntKind.wrap .u64 (((k+1:Nat):Int) - 1)=(k:Int):=by rw [IntKind.wrap_u64];omega
theorem gheld_short {r:t12.den} (h:RR r none) (n b1 b12 b13:Int) (acc:List t9.den):Rds (cq.L1 n r.1 r.2.1 b1 b12 b13 acc) none:=by
 obtain ⟨b,hb,rfl⟩:=h
 rw [cq.L1_eq]
 by_cases hn:n>0
 ·rw [bd_pos hn,bnt rfl];exact ⟨b,acc,hb,rfl⟩
 ·rw [bd_neg hn];exact ⟨b,acc,hb,rfl⟩
theorem gheld_l1 (l:t0.den):∀(k:Nat) (acc:List t9.den) (r:t12.den) (s:Option (List Int)),RR r s→acc.length+k≤1000→Rds (cq.L1 (k:Int) r.1 r.2.1 l.1 l.2.1 l.2.2.1 acc) (s.bind fun b=>(pRep k (pH l) b).bind fun y=>some (acc++y.1,y.2))
 |k,acc,r,none,h,hl=>gheld_short h _ _ _ _ _
 |0,acc,r,some b,h,hl=>by
  obtain ⟨hb,rfl⟩:=h
  rw [cq.L1_eq,bd_neg (by omega)]
  show Rds _ (some (acc++[],b))
  rw [List.append_nil]
  exact ⟨hb,rfl⟩
 |k+1,acc,r,some b,h,hl=>by
  have h0:=h
  obtain ⟨hb,rfl⟩:=h
  rw [cq.L1_eq,bd_pos (by omega),bnf rfl,cq.L2_eq,rep_H]
  refine stp Rds (g4 h0) fun r1 v1 s1 h1 _=>?_
  dsimp only
  refine stp Rds (gbkt h1 l) fun r2 v2 s2 h2 _=>?_
  dsimp only
  rw [lim_small (by decide) (by simp only [List.length_cons,List.length_nil];omega),u64_dec (by omega)]
  exact gheld_l1 l k _ r2 s2 h2 (by simp only [List.length_append,List.length_cons,List.length_nil];omega)
theorem gheld {r:t12.den} {s:Option (List Int)} (h:RR r s) (l:t0.den):Rds (cq.F r l) (s.bind (pHl l)):=by
 rw [cq.F_eq]
 refine stp Rds (g1 h) fun r1 v1 s1 h1 e1=>?_
 dsimp only
 rcases num1 h e1 with rfl|⟨n,hn,rfl⟩
 ·exact gheld_short h1 _ _ _ _ _
 ·rw [toNat_cast,←rep_nil]
  exact gheld_l1 l n [] r1 s1 h1 (by simp only [List.length_nil];omega)
end Go.Proofs.YtkihjakbbcajbaaGreat.RD
namespace Go.Proofs.YtkihjakbbcajbaaGreat.RD
set_option linter.unusedSimpArgs false
set_option linter.unusedVariables false
open Go Go.Proofs Go.Proofs.YtkihjakbbcajbaaGreat.PM Go.Proofs.YtkihjakbbcajbaaGreat.RP Go.Proofs.YtkihjakbbcajbaaGreat.TB
@[reducible] noncomputable def z0:t0.den:=(0,0,0,())
noncomputable def pL:PR t0.den:=fun b=>(pN 4 b).bind fun x=>(pN 4 x.2).bind fun y=>(pN 4 y.2).bind fun z=>some ((IntKind.wrap .i64 x.1,IntKind.wrap .i64 y.1,IntKind.wrap .i64 z.1,()),z.2)
noncomputable def pC:PR Int:=fun b=>(pN 1 b).bind fun x=>some (IntKind.wrap .i64 x.1,x.2)
noncomputable def pV:PR Int:=fun b=>(pN 4 b).bind fun x=>some (IntKind.wrap .u32 x.1,x.2)
noncomputable def pVl:PR (List Int):=fun b=>(pN 1 b).bind fun x=>pRep x.1.toNat pV x.2
noncomputable def pTl:PR t6.den:=fun b=>(pN 8 b).bind fun x=>(pN 8 x.2).bind fun y=>(pN 8 y.2).bind fun z=>some ((x.1,y.1,z.1,()),z.2)
noncomputable def pA2 (tn:Int) (lims:List t0.den) (caps:List Int):PR t10.den:=fun b=>
 (pB (lims.getD 0 z0) b).bind fun x3=>(pHl (lims.getD 1 z0) x3.2).bind fun x4=>(pHl (lims.getD 2 z0) x4.2).bind fun x5=>(pVl x5.2).bind fun x6=>(pTl x6.2).bind fun x7=>some ((tn,lims,caps,x3.1,x4.1,x5.1,x6.1,x7.1,()),x7.2)
noncomputable def pA:PR t10.den:=fun b=>
 (pN 1 b).bind fun x0=>(pRep 3 pL x0.2).bind fun x1=>(pRep 2 pC x1.2).bind fun x2=>pA2 (IntKind.wrap .u32 x0.1) x1.1 x2.1 x2.2
theorem set_mid {α:Type} (acc:List α) (z:α) (rest:List α) (v:α):(acc++z::rest).set acc.length v=acc++v::rest:=by
 rw [List.set_append_right _ _ (Nat.le_refl _),Nat.sub_self];rfl
theorem getD_mid {α:Type} (acc:List α) (z:α) (rest:List α) (d:α):(acc++z::rest).getD acc.length d=z:=by
 rw [List.getD_eq_getElem?_getD,List.getElem?_append_right (Nat.le_refl _),Nat.sub_self];rfl
theorem bind_nil {α β:Type} (s:Option (List Int)) (K:List α→List Int→Option β) (acc:List α) (p:PR α):(s.bind fun b=>(pRep 0 p b).bind fun y=>K (acc++y.1) y.2)=s.bind (K acc):=by
 cases s with
 |none=>rfl
 |some b=>
  show K (acc++[]) b=K acc b
  rw [List.append_nil]
theorem rep_L {β:Type} (k:Nat) (acc:List t0.den) (K:List t0.den→List Int→Option β):(fun b=>(pRep (k+1) pL b).bind fun y=>K (acc++y.1) y.2)=fun b=>(pN 4 b).bind fun x=>(pN 4 x.2).bind fun y=>(pN 4 y.2).bind fun z=>(pRep k pL z.2).bind fun y'=>K ((acc++[(IntKind.wrap .i64 x.1,IntKind.wrap .i64 y.1,IntKind.wrap .i64 z.1,())])++y'.1) y'.2:=by
 funext b
 simp only [pRep,pL,Option.bind_assoc,Option.bind_some,List.append_assoc,List.cons_append,List.nil_append]
theorem rep_C {β:Type} (k:Nat) (acc:List Int) (K:List Int→List Int→Option β):(fun b=>(pRep (k+1) pC b).bind fun y=>K (acc++y.1) y.2)=fun b=>(pN 1 b).bind fun x=>(pRep k pC x.2).bind fun y'=>K ((acc++[IntKind.wrap .i64 x.1])++y'.1) y'.2:=by
 funext b
 simp only [pRep,pC,Option.bind_assoc,Option.bind_some,List.append_assoc,List.cons_append,List.nil_append]
theorem rep_V {β:Type} (k:Nat) (acc:List Int) (K:List Int→List Int→Option β):(fun b=>(pRep (k+1) pV b).bind fun y=>K (acc++y.1) y.2)=fun b=>(pN 4 b).bind fun x=>(pRep k pV x.2).bind fun y'=>K ((acc++[IntKind.wrap .u32 x.1])++y'.1) y'.2:=by
 funext b
 simp only [pRep,pV,Option.bind_assoc,Option.bind_some,List.append_assoc,List.cons_append,List.nil_append]
theorem len_snoc {α:Type} (acc:List α) (v:α):((acc.length:Nat):Int)+1=(((acc++[v]).length:Nat):Int):=by simp
section
variable (tn:Int) (lims b1:List t0.den) (caps b12:List Int) (o1 o2 o3 o4 o5 o6:Int) (l3:List t9.den) (l5:List Int) (us es:List t9.den)
noncomputable def mkA (rv:List Int) (y:t6.den):t10.den:=(tn,lims,caps,((o1,o2,o3,()),o4,o5,o6,()),us,es,rv,y,())
theorem gend {r:t12.den} {s:Option (List Int)} (h:RR r s) (rv:List Int):Rds ((ai.F (r.1,r.2.1,()) 8).bind fun r0=>(ai.F r0.1 8).bind fun r1=>(ai.F r1.1 8).bind fun r2=>some (r2.1,(tn,lims,caps,((o1,o2,o3,()),o4,o5,o6,()),us,es,rv,(r0.2.1,r1.2.1,r2.2.1,()),()),()))
  (s.bind fun b=>(pTl b).bind fun x=>some (mkA tn lims caps o1 o2 o3 o4 o5 o6 us es rv x.1,x.2)):=by
 have e:(fun b=>(pTl b).bind fun x=>some (mkA tn lims caps o1 o2 o3 o4 o5 o6 us es rv x.1,x.2))=fun b=>(pN 8 b).bind fun x=>(pN 8 x.2).bind fun y=>(pN 8 y.2).bind fun z=>some (mkA tn lims caps o1 o2 o3 o4 o5 o6 us es rv (x.1,y.1,z.1,()),z.2):=by
  funext b
  simp only [pTl,Option.bind_assoc,Option.bind_some]
 rw [e]
 refine stp Rds (g8 h) fun r1 v1 s1 h1 _=>?_
 dsimp only
 refine stp Rds (g8 h1) fun r2 v2 s2 h2 _=>?_
 dsimp only
 refine stp Rds (g8 h2) fun r3 v3 s3 h3 _=>?_
 exact ret h3 _
theorem gacc_short {r:t12.den} (h:RR r none) (n:Int) (rv:List Int):Rds (ab.L5 n r.1 r.2.1 b1 b12 tn lims caps o1 o2 o3 o4 o5 o6 l3 l5 us es rv) none:=by
 have e:=gend tn lims caps o1 o2 o3 o4 o5 o6 us es h rv
 obtain ⟨b,hb,rfl⟩:=h
 rw [ab.L5_eq]
 by_cases hn:n>0
 ·rw [bd_pos hn,bnt rfl];exact e
 ·rw [bd_neg hn];exact e
theorem gacc_l5:∀(k:Nat) (rv:List Int) (r:t12.den) (s:Option (List Int)),RR r s→rv.length+k≤1000→Rds (ab.L5 (k:Int) r.1 r.2.1 b1 b12 tn lims caps o1 o2 o3 o4 o5 o6 l3 l5 us es rv) (s.bind fun b=>(pRep k pV b).bind fun y=>(pTl y.2).bind fun x=>some (mkA tn lims caps o1 o2 o3 o4 o5 o6 us es (rv++y.1) x.1,x.2))
 |k,rv,r,none,h,hl=>gacc_short tn lims b1 caps b12 o1 o2 o3 o4 o5 o6 l3 l5 us es h _ _
 |0,rv,r,some b,h,hl=>by
  have e:=gend tn lims caps o1 o2 o3 o4 o5 o6 us es h rv
  rw [ab.L5_eq,bd_neg (by omega),bind_nil (K:=fun l c=>(pTl c).bind fun x=>some (mkA tn lims caps o1 o2 o3 o4 o5 o6 us es l x.1,x.2))]
  exact e
 |k+1,rv,r,some b,h,hl=>by
  have h0:=h
  obtain ⟨hb,rfl⟩:=h
  rw [ab.L5_eq,bd_pos (by omega),bnf rfl,ab.L6_eq,rep_V (K:=fun l c=>(pTl c).bind fun x=>some (mkA tn lims caps o1 o2 o3 o4 o5 o6 us es l x.1,x.2))]
  refine stp Rds (g4 h0) fun r1 v1 s1 h1 _=>?_
  dsimp only
  rw [lim_small (by decide) (by simp only [List.length_cons,List.length_nil];omega),u64_dec (by omega)]
  exact gacc_l5 k _ r1 s1 h1 (by simp only [List.length_append,List.length_cons,List.length_nil];omega)
theorem gacc_l5' {r:t12.den} {s:Option (List Int)} (h:RR r s):Rds ((ai.F r 1).bind fun r3=>ab.L5 r3.2.1 r3.1.1 r3.1.2.1 b1 b12 tn lims caps o1 o2 o3 o4 o5 o6 l3 l5 us es []) (s.bind fun b=>(pVl b).bind fun y=>(pTl y.2).bind fun x=>some (mkA tn lims caps o1 o2 o3 o4 o5 o6 us es y.1 x.1,x.2)):=by
 have e:(fun b=>(pVl b).bind fun y=>(pTl y.2).bind fun x=>some (mkA tn lims caps o1 o2 o3 o4 o5 o6 us es y.1 x.1,x.2))=fun b=>(pN 1 b).bind fun z=>(pRep z.1.toNat pV z.2).bind fun y=>(pTl y.2).bind fun x=>some (mkA tn lims caps o1 o2 o3 o4 o5 o6 us es y.1 x.1,x.2):=by
  funext b
  simp only [pVl,Option.bind_assoc,Option.bind_some]
 rw [e]
 refine stp Rds (g1 h) fun r1 v1 s1 h1 e1=>?_
 dsimp only
 rcases num1 h e1 with rfl|⟨n,hn,rfl⟩
 ·exact gacc_short tn lims b1 caps b12 o1 o2 o3 o4 o5 o6 l3 l5 us es h1 _ _
 ·rw [toNat_cast]
  exact gacc_l5 tn lims b1 caps b12 o1 o2 o3 o4 o5 o6 l3 l5 us es n [] r1 s1 h1 (by simp only [List.length_nil];omega)
end
section
variable (tn:Int) (b1:List t0.den) (b12:List Int)
theorem gacc_l3e (lims:List t0.den) (caps:List Int) {r:t12.den} {s:Option (List Int)} (h:RR r s):Rds (ab.L3 2 r.1 r.2.1 b1 b12 tn lims caps [] []) (s.bind (pA2 tn lims caps)):=by
 rw [ab.L3_eq,bd_neg (by decide),bd_pos (by decide)]
 refine stp Rds (gbkt h _) fun r1 v1 s1 h1 _=>?_
 dsimp only
 rw [bd_pos (by decide)]
 refine stp Rds (gheld h1 _) fun r2 v2 s2 h2 _=>?_
 dsimp only
 rw [bd_pos (by decide)]
 refine stp Rds (gheld h2 _) fun r3 v3 s3 h3 _=>?_
 dsimp only
 exact gacc_l5' tn lims b1 caps b12 _ _ _ _ _ _ [] [] _ _ h3
theorem gacc_l3 (lims:List t0.den):∀(k:Nat) (caps:List Int) (r:t12.den) (s:Option (List Int)),RR r s→caps.length+k=2→Rds (ab.L3 (caps.length:Int) r.1 r.2.1 b1 b12 tn lims (caps++List.replicate k 0) [] []) (s.bind fun b=>(pRep k pC b).bind fun y=>pA2 tn lims (caps++y.1) y.2)
 |0,caps,r,s,h,hl=>by
  rw [bind_nil (K:=fun l=>pA2 tn lims l)]
  have e:caps.length=2:=by omega
  rw [e,List.replicate_zero,List.append_nil]
  exact gacc_l3e tn b1 b12 lims caps h
 |k+1,caps,r,s,h,hl=>by
  rw [ab.L3_eq,bd_pos (by omega),ab.L4_eq,rep_C (K:=fun l=>pA2 tn lims l)]
  refine stp Rds (g1 h) fun r1 v1 s1 h1 _=>?_
  dsimp only
  have e:caps++IntKind.wrap .i64 v1::List.replicate k 0=(caps++[IntKind.wrap .i64 v1])++List.replicate k 0:=by rw [List.append_assoc];rfl
  rw [bd_pos (by omega),W_eq (by omega) (by omega),toNat_cast,List.replicate_succ,set_mid,len_snoc caps (IntKind.wrap .i64 v1),e]
  exact gacc_l3 lims k _ r1 s1 h1 (by simp only [List.length_append,List.length_cons,List.length_nil];omega)
theorem gacc_l1:∀(k:Nat) (lims:List t0.den) (r:t12.den) (s:Option (List Int)),RR r s→lims.length+k=3→Rds (ab.L1 (lims.length:Int) r.1 r.2.1 b1 (List.replicate 2 0) tn (lims++List.replicate k z0) [] []) (s.bind fun b=>(pRep k pL b).bind fun y=>(pRep 2 pC y.2).bind fun w=>pA2 tn (lims++y.1) w.1 w.2)
 |0,lims,r,s,h,hl=>by
  rw [bind_nil (K:=fun l c=>(pRep 2 pC c).bind fun w=>pA2 tn l w.1 w.2)]
  rw [ab.L1_eq,bd_neg (by omega),List.replicate_zero,List.append_nil]
  exact gacc_l3 tn b1 _ lims 2 [] r s h rfl
 |k+1,lims,r,s,h,hl=>by
  rw [ab.L1_eq,bd_pos (by omega),ab.L2_eq,bd_pos (by omega),rep_L (K:=fun l c=>(pRep 2 pC c).bind fun w=>pA2 tn l w.1 w.2)]
  refine stp Rds (g4 h) fun r1 v1 s1 h1 _=>?_
  dsimp only
  refine stp Rds (g4 h1) fun r2 v2 s2 h2 _=>?_
  dsimp only
  refine stp Rds (g4 h2) fun r3 v3 s3 h3 _=>?_
  dsimp only
  have e:∀v:t0.den,lims++v::List.replicate k z0=(lims++[v])++List.replicate k z0:=fun v=>by rw [List.append_assoc];rfl
  rw [W_eq (by omega) (by omega),toNat_cast,show List.replicate (k+1) z0=z0::List.replicate k z0 from rfl]
  simp only [set_mid,getD_mid]
  rw [len_snoc lims (IntKind.wrap .i64 v1,IntKind.wrap .i64 v2,IntKind.wrap .i64 v3,()),e]
  exact gacc_l1 k _ r3 s3 h3 (by simp only [List.length_append,List.length_cons,List.length_nil];omega)
end
theorem gacc {r:t12.den} {s:Option (List Int)} (h:RR r s):Rds (ab.F r) (s.bind pA):=by
 rw [ab.F_eq]
 refine stp Rds (g1 h) fun r1 v1 s1 h1 _=>?_
 exact gacc_l1 _ _ 3 [] r1 s1 h1 rfl
end Go.Proofs.YtkihjakbbcajbaaGreat.RD
