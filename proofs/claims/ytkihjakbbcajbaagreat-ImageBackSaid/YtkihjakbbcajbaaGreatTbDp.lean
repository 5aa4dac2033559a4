/- Parts of the proof, joined: TbW, TbA, TbP, TbOw, TbO, TbB, TbT, TbR1, TbR2, TbN, TbDp. -/
import Derived.Test.YtkihjakbbcajbaaGreatPlain0
namespace Go.Proofs.YtkihjakbbcajbaaGreat.RP
set_option linter.unusedSimpArgs false
set_option linter.unusedVariables false
open Go Go.Proofs.YtkihjakbbcajbaaGreat.PM
@[reducible] def Z (x:Int):Int:=x
def Says (P:Prop) (o:Option (Int × Unit)):Prop:=(P∧o=some (0,()))∨(¬P∧o=some (8,()))
theorem Says.yes {P:Prop} {o:Option (Int × Unit)} (h:Says P o) (p:P):o=some (0,()):=by
 rcases h with h|h
 ·exact h.2
 ·exact absurd p h.1
theorem Says.no {P:Prop} {o:Option (Int × Unit)} (h:Says P o) (p:¬P):o=some (8,()):=by
 rcases h with h|h
 ·exact absurd h.1 p
 ·exact h.2
theorem Says.congr {P Q:Prop} {o:Option (Int × Unit)} (h:Says P o) (e:P↔Q):Says Q o:=by
 rcases h with h|h
 ·exact .inl ⟨e.1 h.1,h.2⟩
 ·exact .inr ⟨fun q=>h.1 (e.2 q),h.2⟩
theorem Says.eq {P:Prop} {o q:Option (Int × Unit)} (h:Says P o) (k:Says P q):o=q:=by
 rcases h with h|h
 ·rw [h.2,k.yes h.1]
 ·rw [h.2,k.no h.1]
theorem loop_all {R:Type} {n:Nat} {L:Nat→R} {ok:Nat→Prop} {stop:R} (h:∀i,i<n→(ok i∧L i=L (i+1))∨(¬ok i∧L i=stop)):
  ((∀i,i<n→ok i)∧L 0=L n)∨((¬∀i,i<n→ok i)∧L 0=stop):=by
 induction n with
 |zero=>exact .inl ⟨fun i hi=>by omega,rfl⟩
 |succ n ih=>
  rcases ih (fun i hi=>h i (by omega)) with ⟨h1,h2⟩|⟨h1,h2⟩
  ·rcases h n (by omega) with ⟨h3,h4⟩|⟨h3,h4⟩
   ·exact .inl ⟨fun i hi=>by
     by_cases e:i=n
     ·rw [e];exact h3
     ·exact h1 i (by omega),h2.trans h4⟩
   ·exact .inr ⟨fun h5=>h3 (h5 n (by omega)),h2.trans h4⟩
  ·exact .inr ⟨fun h3=>h1 fun i hi=>h3 i (by omega),h2⟩
theorem loop_go {R:Type} {n:Nat} {L:Nat→R} (h:∀i,i<n→L i=L (i+1)):L 0=L n:=by
 induction n with
 |zero=>rfl
 |succ n ih=>rw [ih (fun i hi=>h i (by omega)),h n (by omega)]
inductive Chain (next:List Int):Int→List Int→Prop
 |nil:Chain next (-1) []
 |cons {i:Int} {l:List Int} (h0:0≤i) (h1:i<next.length) (h:Chain next (next.getD i.toNat 0) l):Chain next i (i::l)
theorem Chain.det {next:List Int} {i:Int} {l l':List Int} (h:Chain next i l) (h':Chain next i l'):l=l':=by
 induction h generalizing l' with
 |nil=>cases h' with
  |nil=>rfl
  |cons h0=>omega
 |cons h0 h1 _ ih=>cases h' with
  |nil=>omega
  |cons _ _ h2=>rw [ih h2]
theorem Chain.range {next:List Int} {i:Int} {l:List Int} (h:Chain next i l):∀x∈l,0≤x∧x<next.length:=by
 induction h with
 |nil=>simp
 |cons h0 h1 _ ih=>
  intro x hx
  rcases List.mem_cons.1 hx with rfl|hx
  ·exact ⟨h0,h1⟩
  ·exact ih x hx
theorem set_at {α:Type} {l:List α} {i j:Int} {v d:α} (h0:0≤i) (h1:i<l.length) (h2:0≤j):(l.set i.toNat v).getD j.toNat d=if i=j then v else l.getD j.toNat d:=by
 simp only [List.getD_eq_getElem?_getD,List.getElem?_set]
 by_cases e:i=j
 ·subst e;rw [if_pos rfl,if_pos rfl,if_pos (by omega)];rfl
 ·rw [if_neg (by omega),if_neg e]
theorem nodup_le {l:List Int} {n:Nat} (h:l.Nodup) (hr:∀x∈l,0≤x∧x<n):l.length≤n:=by
 have h2:l ⊆ (List.range n).map Int.ofNat:=by
  intro x hx
  have:=hr x hx
  exact List.mem_map.2 ⟨x.toNat,by simp;omega,by simp;omega⟩
 have:=List.Nodup.length_le_of_subset h h2
 simpa using this
theorem nodup_snoc {acc:List Int} {i:Int} (h:acc.Nodup) (hi:¬i∈acc):(acc++[i]).Nodup:=by
 rw [List.nodup_append]
 refine ⟨h,by simp,fun a ha b hb=>?_⟩
 rw [List.mem_singleton.1 hb]
 rintro rfl
 exact hi ha
def marks (s:List Bool) (l:List Int):List Bool:=l.foldl (fun s x=>s.set x.toNat true) s
theorem marks_length (s:List Bool) (l:List Int):(marks s l).length=s.length:=by
 induction l generalizing s with
 |nil=>rfl
 |cons x l ih=>show (marks (s.set x.toNat true) l).length=_;rw [ih];simp
theorem marks_at {s:List Bool} {l:List Int} (hl:∀x∈l,0≤x∧x<s.length) {j:Int} (hj:0≤j):(marks s l).getD j.toNat false=true↔(s.getD j.toNat false=true∨j∈l):=by
 induction l generalizing s with
 |nil=>simp [marks]
 |cons x l ih=>
  have hx:=hl x (by simp)
  show (marks (s.set x.toNat true) l).getD j.toNat false=true↔_
  rw [ih (by intro y hy;have:=hl y (by simp [hy]);simpa using this),set_at hx.1 hx.2 hj]
  by_cases e:x=j
  ·subst e;simp
  ·rw [if_neg e];simp [show ¬j=x from fun h=>e h.symm]
theorem count_set {s:List Bool} {i:Int} (h0:0≤i) (h1:i<s.length) (hf:¬s.getD i.toNat false=true):(s.set i.toNat true).count false+1=s.count false:=by
 have hi:i.toNat<s.length:=by omega
 have e:s[i.toNat]=false:=by
  simp [List.getD_eq_getElem?_getD,List.getElem?_eq_getElem hi] at hf
  exact hf
 rw [List.count_set hi,e]
 have:0<s.count false:=List.count_pos_iff.2 (by rw [←e];exact List.getElem_mem hi)
 simp;omega
theorem bool_not {b:Bool} (h:¬b=true):b=false:=by simpa using h
theorem bt {α:Type} {b:Bool} {x y:α} (h:b=true):(bif b then x else y)=x:=by rw [h];rfl
theorem bf {α:Type} {b:Bool} {x y:α} (h:b=false):(bif b then x else y)=y:=by rw [h];rfl
theorem bnt {α:Type} {b:Bool} {x y:α} (h:b=true):(bif !b then x else y)=y:=by rw [h];rfl
theorem bnf {α:Type} {b:Bool} {x y:α} (h:b=false):(bif !b then x else y)=x:=by rw [h];rfl
theorem lim_small {n:Nat} {u:Ty} {α:Type} {a b:α} (hu:u.bytes≤1000000) (h:n≤100000000):(bif lim n u then a else b)=a:=lim_ok_small hu h
theorem allB_iff {α:Type} {f:α→α→Bool} (h:∀a b,f a b=true↔a=b):∀xs ys:List α,allB f xs ys=true↔xs=ys
 |[],[]=>by simp [allB]
 |[],y::ys=>by simp [allB]
 |x::xs,[]=>by simp [allB]
 |x::xs,y::ys=>by
  rw [allB,Bool.and_eq_true,h x y,allB_iff h xs ys]
  simp
theorem beq_iff:∀(t:Ty) (a b:t.den),Ty.beq t a b=true↔a=b
 |.int _,x,y=>by unfold Ty.beq;exact decide_eq_true_iff
 |.bool,x,y=>by unfold Ty.beq;exact beq_iff_eq
 |.str,x,y=>by unfold Ty.beq;exact decide_eq_true_iff
 |.unit,_,_=>by unfold Ty.beq;exact ⟨fun _=>rfl,fun _=>rfl⟩
 |.pair a b,(x1,x2),(y1,y2)=>by
  unfold Ty.beq
  rw [Bool.and_eq_true,beq_iff a,beq_iff b]
  exact ⟨fun h=>Prod.ext h.1 h.2,fun h=>⟨congrArg Prod.fst h,congrArg Prod.snd h⟩⟩
 |.arr _ t,x,y=>by unfold Ty.beq;exact allB_iff (beq_iff t) x y
 |.slice t,x,y=>by unfold Ty.beq;exact allB_iff (beq_iff t) x y
theorem nbeq_pos {t:Ty} {x y:t.den} {α:Type} {a b:α} (h:x≠y):(bif !(Ty.beq t x y) then a else b)=a:=by
 rw [bool_not (fun e=>h ((beq_iff t x y).1 e))];rfl
theorem nbeq_neg {t:Ty} {x y:t.den} {α:Type} {a b:α} (h:x=y):(bif !(Ty.beq t x y) then a else b)=b:=by
 rw [(beq_iff t x y).2 h];rfl
theorem tbeq_pos {t:Ty} {x y:t.den} {α:Type} {a b:α} (h:x=y):(bif Ty.beq t x y then a else b)=a:=by
 rw [(beq_iff t x y).2 h];rfl
theorem tbeq_neg {t:Ty} {x y:t.den} {α:Type} {a b:α} (h:x≠y):(bif Ty.beq t x y then a else b)=b:=by
 rw [bool_not (fun e=>h ((beq_iff t x y).1 e))];rfl
theorem Says.done:Says True (some (0,())):=.inl ⟨trivial,rfl⟩
theorem Says.guard {p P:Prop} [Decidable p] {o:Option (Int × Unit)} (h:¬p→Says P o):Says (¬p∧P) (bif decide p then some (8,()) else o):=by
 by_cases q:p
 ·rw [bd_pos q];exact .inr ⟨fun k=>k.1 q,rfl⟩
 ·rw [bd_neg q]
  rcases h q with h|h
  ·exact .inl ⟨⟨q,h.1⟩,h.2⟩
  ·exact .inr ⟨fun k=>h.1 k.2,h.2⟩
theorem Says.neq {x y:Int} {P:Prop} {o:Option (Int × Unit)} (h:x=y→Says P o):Says (x=y∧P) (bif x !=y then some (8,()) else o):=by
 by_cases q:x=y
 ·rw [bne_neg q]
  rcases h q with h|h
  ·exact .inl ⟨⟨q,h.1⟩,h.2⟩
  ·exact .inr ⟨fun k=>h.1 k.2,h.2⟩
 ·rw [bne_pos q];exact .inr ⟨fun k=>q k.1,rfl⟩
theorem Says.flag {b:Bool} {P:Prop} {o:Option (Int × Unit)} (h:b=true→Says P o):Says (b=true∧P) (bif !b then some (8,()) else o):=by
 cases b with
 |false=>exact .inr ⟨fun k=>(by cases k.1),rfl⟩
 |true=>
  rcases h rfl with h|h
  ·exact .inl ⟨⟨rfl,h.1⟩,h.2⟩
  ·exact .inr ⟨fun k=>h.1 k.2,h.2⟩
theorem Says.same {t:Ty} {x y:t.den} {P:Prop} {o:Option (Int × Unit)} (h:x=y→Says P o):Says (x=y∧P) (bif !(Ty.beq t x y) then some (8,()) else o):=
 (Says.flag (b:=Ty.beq t x y) fun e=>h ((beq_iff t x y).1 e)).congr (and_congr (beq_iff t x y) Iff.rfl)
theorem Says.call {P Q:Prop} {o:Option (Int × Unit)} {f:Int × Unit→Option (Int × Unit)} (h:Says P o) (k:P→Says Q (f (0,()))) (k8:f (8,())=some (8,())):Says (P∧Q) (o.bind f):=by
 rcases h with ⟨h,e⟩|⟨h,e⟩
 ·rw [e]
  rcases k h with k|k
  ·exact .inl ⟨⟨h,k.1⟩,k.2⟩
  ·exact .inr ⟨fun q=>k.1 q.2,k.2⟩
 ·rw [e];exact .inr ⟨fun q=>h q.1,k8⟩
theorem Says.cond {b:Bool} {P Q:Prop} {o q:Option (Int × Unit)} (h1:b=true→Says P o) (h2:b=false→Says Q q):Says ((b=true→P)∧(b=false→Q)) (bif b then o else q):=by
 cases b with
 |true=>exact (h1 rfl).congr ⟨fun p=>⟨fun _=>p,fun h=>(by cases h)⟩,fun k=>k.1 rfl⟩
 |false=>exact (h2 rfl).congr ⟨fun p=>⟨fun h=>(by cases h),fun _=>p⟩,fun k=>k.2 rfl⟩
theorem find_loop {R:Type} {n:Nat} {L:Nat→R} {p:Nat→Prop} {hit:Nat→R} {miss:R} (h:∀i,i<n→(p i∧L i=hit i)∨(¬p i∧L i=L (i+1))) (hm:L n=miss):
  (∃i,i<n∧p i∧(∀j,j<i→¬p j)∧L 0=hit i)∨((∀i,i<n→¬p i)∧L 0=miss):=by
 have go:∀m,m≤n→(∃i,i<m∧p i∧(∀j,j<i→¬p j)∧L 0=hit i)∨((∀i,i<m→¬p i)∧L 0=L m):=by
  intro m
  induction m with
  |zero=>exact fun _=> .inr ⟨fun i hi=>by omega,rfl⟩
  |succ m ih=>
   intro hm
   rcases ih (by omega) with ⟨i,h1,h2,h3,h4⟩|⟨h1,h2⟩
   ·exact .inl ⟨i,by omega,h2,h3,h4⟩
   ·rcases h m (by omega) with ⟨h3,h4⟩|⟨h3,h4⟩
    ·exact .inl ⟨m,by omega,h3,h1,h2.trans h4⟩
    ·refine .inr ⟨fun i hi=>?_,h2.trans h4⟩
     by_cases e:i=m
     ·rw [e];exact h3
     ·exact h1 i (by omega)
 rcases go n (Nat.le_refl _) with h1|⟨h1,h2⟩
 ·exact .inl h1
 ·exact .inr ⟨h1,h2.trans hm⟩
theorem walk_gen {L:Int→List Int→Option (List Int × Bool × Unit)} {next:List Int} (hn:next.length≤100)
  (h:∀i acc,acc.length≤100→L i acc=if i= -1 then some (acc,true,()) else if i<0 then some ([],false,()) else if i≥next.length then some ([],false,()) else if i∈acc then some ([],false,()) else L (next.getD i.toNat 0) (acc++[i])) (d:Nat):
  ∀(acc:List Int) (i:Int),acc.Nodup→(∀x∈acc,0≤x∧x<next.length)→next.length - acc.length≤d→
   (∃l,Chain next i l∧(acc++l).Nodup∧L i acc=some (acc++l,true,()))∨((¬∃l,Chain next i l∧(acc++l).Nodup)∧L i acc=some ([],false,())):=by
 induction d with
 |zero=>
  intro acc i hnd hr hd
  have hlen:=nodup_le hnd hr
  rw [h i acc (by omega)]
  by_cases e:i= -1
  ·rw [if_pos e]
   exact .inl ⟨[],by rw [e];exact .nil,by simpa using hnd,by rw [List.append_nil]⟩
  rw [if_neg e]
  by_cases h0:i<0
  ·rw [if_pos h0];exact .inr ⟨fun ⟨l,hl,_⟩=>by cases hl<;>omega,rfl⟩
  rw [if_neg h0]
  by_cases h1:i≥next.length
  ·rw [if_pos h1];exact .inr ⟨fun ⟨l,hl,_⟩=>by cases hl<;>omega,rfl⟩
  rw [if_neg h1]
  by_cases hm:i∈acc
  ·rw [if_pos hm]
   refine .inr ⟨fun ⟨l,hl,hn2⟩=>?_,rfl⟩
   cases hl with
   |nil=>omega
   |cons a b c=>exact (List.nodup_append.1 hn2).2.2 i hm i (by simp) rfl
  ·have:=nodup_le (nodup_snoc hnd hm) (n:=next.length) (fun x hx=>by
    rcases List.mem_append.1 hx with hx|hx
    ·exact hr x hx
    ·rw [List.mem_singleton.1 hx];omega)
   simp at this
   omega
 |succ d ih=>
  intro acc i hnd hr hd
  have hlen:=nodup_le hnd hr
  rw [h i acc (by omega)]
  by_cases e:i= -1
  ·rw [if_pos e]
   exact .inl ⟨[],by rw [e];exact .nil,by simpa using hnd,by rw [List.append_nil]⟩
  rw [if_neg e]
  by_cases h0:i<0
  ·rw [if_pos h0];exact .inr ⟨fun ⟨l,hl,_⟩=>by cases hl<;>omega,rfl⟩
  rw [if_neg h0]
  by_cases h1:i≥next.length
  ·rw [if_pos h1];exact .inr ⟨fun ⟨l,hl,_⟩=>by cases hl<;>omega,rfl⟩
  rw [if_neg h1]
  by_cases hm:i∈acc
  ·rw [if_pos hm]
   refine .inr ⟨fun ⟨l,hl,hn2⟩=>?_,rfl⟩
   cases hl with
   |nil=>omega
   |cons a b c=>exact (List.nodup_append.1 hn2).2.2 i hm i (by simp) rfl
  ·rw [if_neg hm]
   rcases ih (acc++[i]) (next.getD i.toNat 0) (nodup_snoc hnd hm) (fun x hx=>by
    rcases List.mem_append.1 hx with hx|hx
    ·exact hr x hx
    ·rw [List.mem_singleton.1 hx];omega) (by simp;omega) with ⟨l,hl,hn2,e2⟩|⟨hx,e2⟩
   ·exact .inl ⟨i::l,.cons (by omega) (by omega) hl,by simpa using hn2,by rw [e2];simp⟩
   ·refine .inr ⟨fun ⟨l,hl,hn2⟩=>?_,e2⟩
    cases hl with
    |nil=>omega
    |cons a b c=>exact hx ⟨_,c,by simpa using hn2⟩
theorem count_of_sub {U:List Int}:∀{S:List Int},U.Nodup→(∀x∈U,x∈S)→S.length=U.length→∀p,S.count p=U.count p:=by
 induction U with
 |nil=>
  intro S _ _ hl p
  have:S=[]:=List.length_eq_zero_iff.1 hl
  rw [this]
 |cons u U ih=>
  intro S hn hs hl p
  obtain ⟨h1,h2⟩:=List.nodup_cons.1 hn
  have hu:=hs u (by simp)
  have h3:=ih (S:=S.erase u) h2 (fun x hx=>(List.mem_erase_of_ne (fun e=>h1 (by rw [←e];exact hx))).2 (hs x (by simp [hx]))) (by
   rw [List.length_erase_of_mem hu,hl];simp) p
  rw [List.count_erase] at h3
  rw [List.count_cons]
  by_cases e:u=p
  ·subst e
   have:=List.count_pos_iff.2 hu
   simp at h3 ⊢
   omega
  ·have e2:(u==p)=false:=by simpa using e
   rw [e2] at h3 ⊢
   simp at h3 ⊢
   exact h3
theorem nodup_of_count {S:List Int} (h:∀p,S.count p≤1):S.Nodup:=by
 induction S with
 |nil=>exact List.nodup_nil
 |cons a S ih=>
  refine List.nodup_cons.2 ⟨fun hm=>?_,ih fun p=>Nat.le_trans ?_ (h p)⟩
  ·have h1:=h a
   have h2:=List.count_pos_iff.2 hm
   rw [List.count_cons] at h1
   simp at h1
   omega
  ·rw [List.count_cons];omega
theorem inj_of_nodup_map {α β:Type} {f:α→β}:∀{l:List α},(l.map f).Nodup→∀a∈l,∀b∈l,f a=f b→a=b
 |[],_,a,ha,_,_,_=>by cases ha
 |c::l,h,a,ha,b,hb,e=>by
  obtain ⟨h1,h2⟩:=List.nodup_cons.1 h
  by_cases ea:a=c
  ·by_cases eb:b=c
   ·rw [ea,eb]
   ·have hb:b∈l:=(List.mem_cons.1 hb).resolve_left eb
    exact (h1 (List.mem_map.2 ⟨b,hb,by rw [←e,ea]⟩)).elim
  ·have ha:a∈l:=(List.mem_cons.1 ha).resolve_left ea
   by_cases eb:b=c
   ·exact (h1 (List.mem_map.2 ⟨a,ha,by rw [e,eb]⟩)).elim
   ·exact inj_of_nodup_map h2 a ha b ((List.mem_cons.1 hb).resolve_left eb) e
theorem count_mem {used:List Bool} {l:List Int} (hn:l.Nodup) (hr:∀x∈l,0≤x∧x<used.length) (h:∀i:Nat,i<used.length→(used.getD i false=true↔(i:Int)∈l)):used.countP id=l.length:=by
 have e:used=(List.range used.length).map (fun i=>used.getD i false):=by
  refine List.ext_getElem (by simp) fun i h1 h2=>?_
  simp only [List.getElem_map,List.getElem_range]
  rw [getD_get h1]
 have e2:used.countP id=((List.range used.length).filter (fun i=>used.getD i false)).length:=by
  conv=>lhs;rw [e]
  rw [List.countP_map,List.countP_eq_length_filter];rfl
 rw [e2]
 have hU:((List.range used.length).filter (fun i=>used.getD i false)).Nodup:=List.Pairwise.filter _ List.nodup_range
 have h1:(((List.range used.length).filter (fun i=>used.getD i false)).map Int.ofNat).length≤l.length:=by
  refine List.Nodup.length_le_of_subset ?_ ?_
  ·refine List.Pairwise.map _ (fun a b hab e=>hab (Int.ofNat.inj e)) hU
  ·intro x hx
   obtain ⟨i,hi,rfl⟩:=List.mem_map.1 hx
   have:=List.mem_filter.1 hi
   exact (h i (List.mem_range.1 this.1)).1 this.2
 have h2:l.length≤(((List.range used.length).filter (fun i=>used.getD i false)).map Int.ofNat).length:=by
  refine List.Nodup.length_le_of_subset hn ?_
  intro x hx
  have hx2:=hr x hx
  have ex:((x.toNat:Nat):Int)=x:=by omega
  refine List.mem_map.2 ⟨x.toNat,List.mem_filter.2 ⟨List.mem_range.2 (by omega),(h x.toNat (by omega)).2 (by rw [ex];exact hx)⟩,ex⟩
 rw [List.length_map] at h1 h2
 omega
theorem Says.bflag {P Q:Prop} {r:Option (Bool × Unit)} (h:(P∧r=some (true,()))∨(¬P∧r=some (false,()))) {f:Bool × Unit→Option (Int × Unit)} (hf:f (false,())=some (8,())) (ht:P→Says Q (f (true,()))):Says (P∧Q) (r.bind f):=by
 rcases h with ⟨h,e⟩|⟨h,e⟩
 ·rw [e]
  rcases ht h with k|k
  ·exact .inl ⟨⟨h,k.1⟩,k.2⟩
  ·exact .inr ⟨fun q=>k.1 q.2,k.2⟩
 ·rw [e];exact .inr ⟨fun q=>h q.1,hf⟩
end Go.Proofs.YtkihjakbbcajbaaGreat.RP
namespace Go.Proofs.YtkihjakbbcajbaaGreat.TB
set_option linter.unusedSimpArgs false
set_option linter.unusedVariables false
open Go Go.Proofs Go.Proofs.YtkihjakbbcajbaaGreat.PM Go.Proofs.YtkihjakbbcajbaaGreat.RP
structure AGood (next:List Int) (used:List Bool) (free:Int) (l:List Int):Prop where
 low:1≤next.length
 high:next.length≤16
 same:used.length=next.length
 chain:Chain next free l
 nodup:l.Nodup
 mark:∀j:Nat,j<used.length→(used.getD j false=true↔¬(j:Int)∈l)
 end_:∀j:Nat,j<used.length→used.getD j false=true→next.getD j 0= -1
def AOk (next:List Int) (used:List Bool) (free:Int):Prop:=∃l,AGood next used free l
theorem AGood.short {next:List Int} {used:List Bool} {free:Int} {l:List Int} (g:AGood next used free l):l.length≤16:=by
 have:=nodup_le g.nodup g.chain.range
 have:=g.high
 omega
def AllOk (s used:List Bool) (next:List Int) (i:Nat):Prop:=s.getD i false=true∧(used.getD i false=true→next.getD i 0= -1)
theorem arena_l4 {s used:List Bool} {next:List Int} {free:Int} (h1:s.length=used.length) (h2:next.length=used.length) (hu:used.length≤16):
  Says (∀i,i<used.length→AllOk s used next i) (b8.L4 used (used.length:Int) 0 next free s):=by
 have:=loop_all (n:=used.length) (L:=fun i=>b8.L4 used (used.length:Int) (i:Int) next free s) (ok:=AllOk s used next) (stop:=some (8,())) (fun i hi=>by
  have nxt:b8.L6 used (used.length:Int) (i:Int) next free s=b8.L4 used (used.length:Int) ((i+1:Nat):Int) next free s:=by
   rw [b8.L6_eq,W_eq (by omega) (by omega),cast_add1]
  try dsimp only
  rw [b8.L4_eq,bd_pos (by omega),b8.L5_eq,bd_pos (by omega),bd_pos (by omega)]
  simp only [toNat_cast]
  by_cases a:s.getD i false=true
  ·rw [bnt a]
   by_cases u:used.getD i false=true
   ·rw [bt u,bd_pos (by omega)]
    by_cases e:next.getD i 0= -1
    ·rw [bne_neg e,nxt];exact .inl ⟨⟨a,fun _=>e⟩,rfl⟩
    ·rw [bne_pos e];exact .inr ⟨fun h=>e (h.2 u),rfl⟩
   ·rw [bf (bool_not u),nxt];exact .inl ⟨⟨a,fun h=>absurd h u⟩,rfl⟩
  ·rw [bnf (bool_not a)];exact .inr ⟨fun h=>a h.1,rfl⟩)
 rcases this with ⟨h,e⟩|⟨h,e⟩
 ·refine .inl ⟨h,?_⟩
  refine Eq.trans e ?_
  try dsimp only
  rw [b8.L4_eq,bd_neg (by omega)]
 ·exact .inr ⟨h,e⟩
theorem arena_walk_yes {used:List Bool} {next:List Int} {free:Int} {i:Int} {l:List Int} (h:Chain next i l):
  ∀s:List Bool,s.length=next.length→l.Nodup→(∀x∈l,s.getD x.toNat false=false)→
   b8.L2 (next.length:Int) i next used free s=b8.L4 used (used.length:Int) 0 next free (marks s l):=by
 induction h with
 |nil=>
  intro s hs _ _
  rw [b8.L2_eq,bne_neg rfl];rfl
 |@cons i l h0 h1 hc ih=>
  intro s hs hn hf
  obtain ⟨hi,hn⟩:=List.nodup_cons.1 hn
  have hr:=ih (s.set i.toNat true) (by simpa using hs) hn (fun x hx=>by
   have hxr:=hc.range x hx
   rw [set_at h0 (by omega) hxr.1,if_neg (fun e=>hi (by rw [e];exact hx))]
   exact hf x (by simp [hx]))
  rw [b8.L2_eq,bne_pos (by omega),b8.L3_eq,bd_neg (by omega),bd_neg (by omega),bd_pos (by omega),bf (hf i (by simp)),b8.L7_eq,bd_pos (by omega),bd_pos (by omega)]
  exact hr
theorem arena_walk_no {used:List Bool} {next:List Int} {free:Int} (d:Nat):
  ∀(s:List Bool) (i:Int),s.length=next.length→s.count false≤d→(¬∃l,Chain next i l∧l.Nodup∧∀x∈l,s.getD x.toNat false=false)→
   b8.L2 (next.length:Int) i next used free s=some (8,()):=by
 induction d with
 |zero=>
  intro s i hs hd hn
  by_cases e:i= -1
  ·exact absurd ⟨[],by rw [e];exact .nil,by simp,by simp⟩ hn
  rw [b8.L2_eq,bne_pos e,b8.L3_eq]
  by_cases h0:i<0
  ·rw [bd_pos h0]
  by_cases h1:i≥next.length
  ·rw [bd_neg h0,bd_pos h1]
  rw [bd_neg h0,bd_neg h1,bd_pos (by omega)]
  by_cases hf:s.getD i.toNat false=true
  ·rw [bt hf]
  ·have:=count_set (by omega) (by omega) hf
   omega
 |succ d ih=>
  intro s i hs hd hn
  by_cases e:i= -1
  ·exact absurd ⟨[],by rw [e];exact .nil,by simp,by simp⟩ hn
  rw [b8.L2_eq,bne_pos e,b8.L3_eq]
  by_cases h0:i<0
  ·rw [bd_pos h0]
  by_cases h1:i≥next.length
  ·rw [bd_neg h0,bd_pos h1]
  rw [bd_neg h0,bd_neg h1,bd_pos (by omega)]
  by_cases hf:s.getD i.toNat false=true
  ·rw [bt hf]
  ·have hc:=count_set (s:=s) (i:=i) (by omega) (by omega) hf
   have hr:=ih (s.set i.toNat true) (next.getD i.toNat 0) (by simpa using hs) (by omega) (by
    rintro ⟨l,hl,hnd,hx⟩
    refine hn ⟨i::l,.cons (by omega) (by omega) hl,List.nodup_cons.2 ⟨fun hi=>?_,hnd⟩,?_⟩
    ·have:=hx i hi
     rw [set_at (by omega) (by omega) (by omega),if_pos rfl] at this
     exact Bool.noConfusion this
    ·intro x hxm
     rcases List.mem_cons.1 hxm with rfl|hxm
     ·exact bool_not hf
     ·have:=hx x hxm
      have hxr:=hl.range x hxm
      rw [set_at (by omega) (by omega) hxr.1] at this
      split at this
      ·exact Bool.noConfusion this
      ·exact this)
   rw [bf (bool_not hf),b8.L7_eq,bd_pos (by omega),bd_pos (by omega)]
   exact hr
theorem arena_says (next:List Int) (used:List Bool) (free:Int):Says (AOk next used free) (b8.F (next,used,free,())):=by
 rw [b8.F_eq]
 try dsimp only
 by_cases hlow:(next.length:Int)<1
 ·rw [bd_pos hlow];exact .inr ⟨fun ⟨l,g⟩=>by have:=g.low;omega,rfl⟩
 by_cases hhigh:(next.length:Int)>16
 ·rw [bd_neg hlow,bd_pos hhigh];exact .inr ⟨fun ⟨l,g⟩=>by have:=g.high;omega,rfl⟩
 by_cases hsame:(used.length:Int)=(next.length:Int)
 ·rw [bd_neg hlow,bd_neg hhigh,bne_neg hsame,b8.L1_eq,lim_small (by decide) (by omega)]
  by_cases hc:∃l,Chain next free l∧l.Nodup∧∀x∈l,used.getD x.toNat false=false
  ·obtain ⟨l,hl,hnd,hx⟩:=hc
   rw [arena_walk_yes hl used (by omega) hnd hx]
   have hr:∀x∈l,0≤x∧x<used.length:=fun x hx=>by have:=hl.range x hx;omega
   refine (arena_l4 (by rw [marks_length]) (by omega) (by omega)).congr ⟨fun h=>⟨l,by omega,by omega,by omega,hl,hnd,fun j hj=>?_,fun j hj=>(h j hj).2⟩,fun ⟨l',g⟩ i hi=>?_⟩
   ·have h2:=(marks_at hr (j:=(j:Int)) (by omega)).1 (h j hj).1
    constructor
    ·intro ht hm;have:=hx _ hm;rw [toNat_cast,ht] at this;exact Bool.noConfusion this
    ·intro hm;exact h2.resolve_right hm
   ·obtain rfl:=hl.det g.chain
    refine ⟨(marks_at hr (j:=(i:Int)) (by omega)).2 ?_,g.end_ i hi⟩
    by_cases m:(i:Int)∈l
    ·exact .inr m
    ·exact .inl ((g.mark i hi).2 m)
  ·rw [arena_walk_no (used.count false) used free (by omega) (Nat.le_refl _) hc]
   refine .inr ⟨fun ⟨l,g⟩=>hc ⟨l,g.chain,g.nodup,fun x hx=>?_⟩,rfl⟩
   have hr:=g.chain.range x hx
   have e:((x.toNat:Nat):Int)=x:=by omega
   apply bool_not
   intro h
   have hm:=(g.mark x.toNat (by omega)).1 h
   rw [e] at hm;exact hm hx
 ·rw [bd_neg hlow,bd_neg hhigh,bne_pos hsame];exact .inr ⟨fun ⟨l,g⟩=>by have:=g.same;omega,rfl⟩
end Go.Proofs.YtkihjakbbcajbaaGreat.TB
namespace Go.Proofs.YtkihjakbbcajbaaGreat.TB
set_option linter.unusedSimpArgs false
set_option linter.unusedVariables false
open Go Go.Proofs Go.Proofs.YtkihjakbbcajbaaGreat.PM Go.Proofs.YtkihjakbbcajbaaGreat.RP
@[reducible] noncomputable def cl (x:List t3.den) (i:Int):t3.den:=List.getD x (Int.toNat i) (0,0,false,())
theorem and15_fin:∀n:Fin 81,PM.bits .and .i64 ((n.val:Int) - 40) 15=((n.val:Int) - 40) % 16:=by decide+kernel
theorem wrap_f {a:Int} (h0: -40≤a) (h1:a≤40):fy.F a=some (a % 16,()):=by
 rw [fy.F_eq]
 have:=and15_fin ⟨(a+40).toNat,by omega⟩
 have e:(((a+40).toNat:Int) - 40)=a:=by omega
 simp only [e] at this
 rw [this]
def hm (key:Int):Int:=((key*2654435769) % 4294967296) / 268435456
theorem hm_range (key:Int):0≤hm key∧hm key<16:=by unfold hm;omega
theorem home_f (key:Int):g9.F key=some (hm key,()):=by
 rw [g9.F_eq,bd_pos (by decide),show (2:Int) ^ min (Int.toNat 28) (IntKind.bits .u32)=268435456 by decide,Int.fdiv_eq_ediv_of_nonneg _ (by decide),IntKind.wrap_u32,W_eq]
 ·rfl
 ·omega
 ·omega
def Oth (x:List t3.den) (key:Int) (d:Nat):Prop:=∀e:Nat,e<d→(cl x ((hm key+e) % 16)).2.2.1=true∧(cl x ((hm key+e) % 16)).1≠key
def Ends (x:List t3.den) (key:Int) (d:Nat):Prop:=(cl x ((hm key+d) % 16)).2.2.1=true→(cl x ((hm key+d) % 16)).1=key
theorem next_pos (h:Int) (e:Nat):((h+(e:Int)) % 16+1) % 16=(h+((e+1:Nat):Int)) % 16:=by omega
theorem look_l1 {x:List t3.den} {key:Int} (hx:x.length=16) {d:Nat} (hd:d≤16) (hp:Oth x key d) (hq:Ends x key d) (n:Nat):
  ∀e:Nat,e+n=d→dh.L1 x key ((hm key+e) % 16) (e:Int)=some ((hm key+d) % 16,(d:Int)+1,()):=by
 induction n with
 |zero=>
  intro e he
  have:e=d:=by omega
  subst this
  rw [dh.L1_eq,bd_pos (by omega),W_eq (by omega) (by omega)]
  by_cases u:(cl x ((hm key+e) % 16)).2.2.1=true
  ·rw [bt u,bd_pos (by omega),bne_neg (hq u)]
  ·rw [bf (bool_not u)]
 |succ n ih=>
  intro e he
  obtain ⟨u,v⟩:=hp e (by omega)
  rw [dh.L1_eq,bd_pos (by omega),bt u,bd_pos (by omega),bne_pos v,dh.L2_eq,W_eq (x:=(hm key+e) % 16+1) (by omega) (by omega),wrap_f (by omega) (by omega),ob,next_pos,W_eq (by omega) (by omega),cast_add1]
  exact ih (e+1) (by omega)
theorem look_f {x:List t3.den} {key:Int} (hx:x.length=16) {d:Nat} (hd:d≤16) (hp:Oth x key d) (hq:Ends x key d):
  dh.F x key=some ((hm key+d) % 16,(d:Int)+1,()):=by
 have h:=look_l1 hx hd hp hq d 0 (by omega)
 have:=hm_range key
 rw [dh.F_eq,home_f,ob]
 rw [show (hm key+((0:Nat):Int)) % 16=hm key by omega] at h
 exact h
noncomputable def cnt (x:List t3.den):Nat:=x.countP (·.2.2.1)
theorem cl_get {x:List t3.den} {i:Nat} (h:i<x.length):cl x (i:Int)=x[i]:=by
 unfold cl;rw [toNat_cast,getD_get h]
theorem free_ex {x:List t3.den} (hx:x.length=16) (hc:cnt x≤12):∃i:Int,0≤i∧i<16∧(cl x i).2.2.1=false:=by
 by_cases h:∀c∈x,c.2.2.1=true
 ·have:cnt x=x.length:=List.countP_eq_length.2 h
  omega
 ·obtain ⟨c,hc,hu⟩:∃c∈x,¬c.2.2.1=true:=by
   apply Classical.byContradiction;intro hn;exact h fun c hc=>Classical.byContradiction fun hu=>hn ⟨c,hc,hu⟩
  obtain ⟨i,hi,rfl⟩:=List.mem_iff_getElem.1 hc
  exact ⟨i,by omega,by omega,by rw [cl_get hi];exact bool_not hu⟩
theorem first_ex (P:Nat→Prop) (n:Nat) (h:P n):∃d,d≤n∧P d∧∀e,e<d→¬P e:=by
 induction n using Nat.strongRecOn with
 |_ n ih=>
  by_cases hq:∃e,e<n∧P e
  ·obtain ⟨e,he,hp⟩:=hq
   obtain ⟨d,h1,h2,h3⟩:=ih e he hp
   exact ⟨d,by omega,h2,h3⟩
  ·exact ⟨n,Nat.le_refl _,h,fun e he hp=>hq ⟨e,he,hp⟩⟩
theorem look_ex {x:List t3.den} (hx:x.length=16) (hc:cnt x≤12) (key:Int):∃d:Nat,d<16∧Oth x key d∧Ends x key d:=by
 obtain ⟨i,h0,h1,hu⟩:=free_ex hx hc
 have hr:=hm_range key
 obtain ⟨d,hd,hp,hq⟩:=first_ex (fun d=>Ends x key d) ((i - hm key) % 16).toNat (by
  intro u
  rw [show (hm key+(((i - hm key) % 16).toNat:Int)) % 16=i by omega] at u
  rw [hu] at u;exact absurd u (by simp))
 exact ⟨d,by omega,fun e he=>by
  have:=hq e he
  unfold Ends at this
  by_cases u:(cl x ((hm key+e) % 16)).2.2.1=true
  ·exact ⟨u,fun hk=>this fun _=>hk⟩
  ·exact absurd (fun u'=>absurd u' u) this,hp⟩
theorem take_cnt {x:List t3.den} {i:Nat} (h:i<x.length):(x.take (i+1)).countP (·.2.2.1)=(x.take i).countP (·.2.2.1)+(if (cl x (i:Int)).2.2.1=true then 1 else 0):=by
 rw [←List.take_append_getElem h,List.countP_append,cl_get h]
 simp [List.countP_cons]
theorem cnt_le (x:List t3.den) (i:Nat):(x.take i).countP (·.2.2.1)≤x.length:=by
 have:=List.countP_le_length (p:=fun c:t3.den=>c.2.2.1) (l:=x.take i)
 have:=List.length_take_le' i x
 omega
structure POk (x:List t3.den):Prop where
 len:x.length=16
 few:cnt x≤12
 zero:∀i:Int,0≤i→i<16→(cl x i).2.2.1=false→cl x i=(0,0,false,())
 place:∀i:Int,0≤i→i<16→(cl x i).2.2.1=true→0≤Z (cl x i).2.1∧Z (cl x i).2.1<16
 uniq:∀i j:Int,0≤i→i<16→0≤j→j<16→(cl x i).2.2.1=true→(cl x j).2.2.1=true→(cl x i).1=(cl x j).1→i=j
 path:∀i:Int,0≤i→i<16→(cl x i).2.2.1=true→∀e:Nat,(e:Int)<(i - hm (cl x i).1) % 16→(cl x ((hm (cl x i).1+e) % 16)).2.2.1=true
def CellOk (x:List t3.den) (i:Int):Prop:=
 ((cl x i).2.2.1=false→cl x i=(0,0,false,()))∧
 ((cl x i).2.2.1=true→0≤Z (cl x i).2.1∧Z (cl x i).2.1<16∧Oth x (cl x i).1 ((i - hm (cl x i).1) % 16).toNat)
theorem look_at {x:List t3.den} (i:Int) (h0:0≤i) (h1:i<16) {d:Nat} (hd:d<16) (hp:Oth x (cl x i).1 d) (hq:Ends x (cl x i).1 d):
  (hm (cl x i).1+d) % 16=i↔Oth x (cl x i).1 ((i - hm (cl x i).1) % 16).toNat:=by
 have hr:=hm_range (cl x i).1
 constructor
 ·intro h
  rw [show ((i - hm (cl x i).1) % 16).toNat=d by omega];exact hp
 ·intro h
  generalize hD:((i - hm (cl x i).1) % 16).toNat=D at h
  have hi:(hm (cl x i).1+D) % 16=i:=by omega
  rcases Nat.lt_trichotomy d D with hl|he|hg
  ·have:=h d hl
   exact absurd (hq this.1) this.2
  ·rw [he];exact hi
  ·have:=hp D hg
   rw [hi] at this
   exact absurd rfl this.2
theorem cells_of_valid {x:List t3.den} (h:POk x) (i:Int) (h0:0≤i) (h1:i<16):CellOk x i:=by
 refine ⟨h.zero i h0 h1,fun u=>⟨(h.place i h0 h1 u).1,(h.place i h0 h1 u).2,fun e he=>?_⟩⟩
 have hr:=hm_range (cl x i).1
 have hu:=h.path i h0 h1 u e (by omega)
 refine ⟨hu,fun hk=>?_⟩
 have:=h.uniq _ i (by omega) (by omega) h0 h1 hu u hk
 omega
theorem valid_of_cells {x:List t3.den} (hx:x.length=16) (hc:cnt x≤12) (h:∀i:Int,0≤i→i<16→CellOk x i):POk x where
 len:=hx
 few:=hc
 zero i h0 h1:=(h i h0 h1).1
 place i h0 h1 u:=⟨((h i h0 h1).2 u).1,((h i h0 h1).2 u).2.1⟩
 uniq i j h0 h1 g0 g1 u v hk:=by
  obtain ⟨d,hd,hp,hq⟩:=look_ex hx hc (cl x i).1
  have a:=(look_at i h0 h1 hd hp hq).2 ((h i h0 h1).2 u).2.2
  have b:=(look_at j g0 g1 hd (hk▸hp) (hk▸hq)).2 ((h j g0 g1).2 v).2.2
  rw [hk] at a;omega
 path i h0 h1 u e he:=(((h i h0 h1).2 u).2.2 e (by omega)).1
theorem check_l5_step {x:List t3.den} (hx:x.length=16) (hc:cnt x≤12) {i:Nat} (h1:i<16):
  (CellOk x (i:Int)∧aj.L5 x (i:Int)=aj.L5 x ((i+1:Nat):Int))∨(¬CellOk x (i:Int)∧aj.L5 x (i:Int)=some (8,())):=by
 obtain ⟨d,hd,hp,hq⟩:=look_ex hx hc (cl x (i:Int)).1
 have hl:=look_f hx (by omega) hp hq
 have hat:=look_at (i:Int) (by omega) (by omega) hd hp hq
 have nxt:aj.L8 x (i:Int)=aj.L5 x ((i+1:Nat):Int):=by
  rw [aj.L8_eq,W_eq (by omega) (by omega),cast_add1]
 rw [aj.L5_eq,bd_pos (by omega),aj.L6_eq,bd_pos (by omega)]
 by_cases u:(cl x (i:Int)).2.2.1=true
 ·have nz:¬((cl x (i:Int)).2.2.1=false):=by rw [u];simp
  rw [bnt u,bt u]
  by_cases p0:Z (cl x (i:Int)).2.1<0
  ·rw [bd_pos (by exact p0)];exact .inr ⟨fun hc=>by have:=(hc.2 u).1;omega,rfl⟩
  by_cases p1:Z (cl x (i:Int)).2.1≥16
  ·rw [bd_neg (by exact p0),bd_pos (by exact p1)];exact .inr ⟨fun hc=>by have:=(hc.2 u).2.1;omega,rfl⟩
  rw [bd_neg (by exact p0),bd_neg (by exact p1),aj.L7_eq,hl,ob,bt u]
  by_cases hh:(hm (cl x (i:Int)).1+d) % 16=(i:Int)
  ·rw [bne_neg hh,nxt]
   exact .inl ⟨⟨fun uf=>absurd uf nz,fun _=>⟨by omega,by omega,hat.1 hh⟩⟩,rfl⟩
  ·rw [bne_pos hh]
   exact .inr ⟨fun hc=>hh (hat.2 (hc.2 u).2.2),rfl⟩
 ·have uf:=bool_not u
  rw [bnf uf]
  by_cases z:cl x (i:Int)=(0,0,false,())
  ·rw [nbeq_neg z,bf uf,aj.L7_eq,hl,ob,bf uf,nxt]
   exact .inl ⟨⟨fun _=>z,fun ut=>absurd ut u⟩,rfl⟩
  ·rw [nbeq_pos z];exact .inr ⟨fun hc=>z (hc.1 uf),rfl⟩
theorem probe_says (x:List t3.den):Says (POk x) (aj.F x):=by
 rw [aj.F_eq]
 by_cases hx:(x.length:Int)=16
 ·have hx':x.length=16:=by omega
  rw [bne_neg hx,aj.L1_eq]
  have h2:=loop_go (n:=x.length) (L:=fun i=>aj.L2 x (((x.take i).countP (·.2.2.1):Nat):Int) (x.length:Int) (i:Int)) (fun i hi=>by
   have hle:=cnt_le x i
   try dsimp only
   rw [aj.L2_eq,bd_pos (by omega),aj.L3_eq,bd_pos (by omega),take_cnt hi]
   by_cases u:(cl x (i:Int)).2.2.1=true
   ·rw [bt u,if_pos u,aj.L9_eq,W_eq (by omega) (by omega),W_eq (by omega) (by omega),cast_add1,cast_add1]
   ·rw [bf (bool_not u),if_neg u,aj.L9_eq,W_eq (x:=(i:Int)+1) (by omega) (by omega),cast_add1];rfl)
  try dsimp only at h2
  rw [List.take_of_length_le (Nat.le_refl _)] at h2
  have h3:aj.L2 x 0 (x.length:Int) 0=aj.L2 x (cnt x:Int) (x.length:Int) (x.length:Int):=h2
  rw [h3,aj.L2_eq,bd_neg (by omega)]
  by_cases hc:cnt x≤12
  ·rw [bd_neg (by omega),aj.L4_eq]
   rcases loop_all (n:=16) (L:=fun i=>aj.L5 x (i:Int)) (ok:=fun i=>CellOk x (i:Int)) (stop:=some (8,())) (fun i hi=>check_l5_step hx' hc hi) with ⟨a,e⟩|⟨a,e⟩
   ·refine .inl ⟨valid_of_cells hx' hc fun i h0 h1=>?_,Eq.trans e ?_⟩
    ·have:=a i.toNat (by omega)
     rw [show ((i.toNat:Nat):Int)=i by omega] at this
     exact this
    ·try dsimp only
     rw [aj.L5_eq,bd_neg (by decide)]
   ·exact .inr ⟨fun h=>a fun i hi=>cells_of_valid h i (by omega) (by omega),e⟩
  ·rw [bd_pos (by omega)];exact .inr ⟨fun h=>hc h.few,rfl⟩
 ·rw [bne_pos hx];exact .inr ⟨fun h=>hx (by rw [h.len];rfl),rfl⟩
theorem found {x:List t3.den} (h:POk x) (key:Int):∃d:Nat,d<16∧Oth x key d∧Ends x key d∧dh.F x key=some ((hm key+d) % 16,(d:Int)+1,())∧
  (((cl x ((hm key+d) % 16)).2.2.1=true∧(cl x ((hm key+d) % 16)).1=key)∨
   ((cl x ((hm key+d) % 16)).2.2.1=false∧(∀j:Int,0≤j→j<16→¬((cl x j).2.2.1=true∧(cl x j).1=key)))):=by
 obtain ⟨d,hd,hp,hq⟩:=look_ex h.len h.few key
 have hr:=hm_range key
 refine ⟨d,hd,hp,hq,look_f h.len (by omega) hp hq,?_⟩
 by_cases u:(cl x ((hm key+d) % 16)).2.2.1=true
 ·exact Or.inl ⟨u,hq u⟩
 ·refine Or.inr ⟨bool_not u,?_⟩
  intro j h0 h1 ⟨v,e⟩
  have ho:=((cells_of_valid h j h0 h1).2 v).2.2
  have:=(look_at j h0 h1 hd (e▸hp) (e▸hq)).2 ho
  rw [e] at this;rw [this] at u;exact u v
theorem probe_Find_ok {x:List t3.den} (h:POk x) (key:Int):
  (∃i:Int,0≤i∧i<16∧(cl x i).2.2.1=true∧(cl x i).1=key∧ee.F x key=some ((cl x i).2.1,0,()))∨
  ((∀j:Int,0≤j→j<16→¬((cl x j).2.2.1=true∧(cl x j).1=key))∧ee.F x key=some (0,6,())):=by
 obtain ⟨d,hd,hp,hq,hl,hc⟩:=found h key
 have hx:=h.len
 have hr:=hm_range key
 rw [ee.F_eq,(probe_says x).yes h,ob,bne_neg rfl,ee.L1_eq,hl,ob,bd_pos (by dsimp only;omega)]
 rcases hc with ⟨u,e⟩|⟨u,n⟩
 ·refine .inl ⟨(hm key+d) % 16,by omega,by omega,u,e,?_⟩
  rw [bnt u,ee.L2_eq,bd_pos (by dsimp only;omega)]
 ·refine .inr ⟨n,?_⟩
  rw [bnf u]
end Go.Proofs.YtkihjakbbcajbaaGreat.TB
namespace Go.Proofs.YtkihjakbbcajbaaGreat.TB
set_option linter.unusedSimpArgs false
set_option linter.unusedVariables false
open Go.Proofs.YtkihjakbbcajbaaGreat.RP
@[reducible] def rd (l:List Int) (i:Int):Int:=l.getD i.toNat 0
def row (n:Nat) (f:Int→Int):List Int:=(List.range n).map (fun i:Nat=>f (i:Int))
theorem row_len (n:Nat) (f:Int→Int):(row n f).length=n:=by simp [row]
theorem row_congr {n:Nat} {f g:Int→Int} (h:∀i:Int,0≤i→i<n→f i=g i):row n f=row n g:=by
 unfold row
 refine List.map_congr_left fun i hi=>?_
 have:=List.mem_range.1 hi
 exact h i (by omega) (by omega)
theorem set_row (n:Nat) (f:Int→Int) (p v:Int) (h0:0≤p):(row n f).set p.toNat v=row n (fun i=>if i=p then v else f i):=by
 refine List.ext_getElem (by simp [row]) fun i h1 h2=>?_
 simp only [row,List.getElem_set,List.getElem_map,List.getElem_range]
 by_cases e:p.toNat=i
 ·rw [if_pos e,if_pos (by omega)]
 ·rw [if_neg e,if_neg (by omega)]
theorem rd_row {n:Nat} {f:Int→Int} {i:Int} (h0:0≤i) (h1:i<n):rd (row n f) i=f i:=by
 have e:((i.toNat:Nat):Int)=i:=by omega
 unfold rd row
 rw [List.getD_eq_getElem?_getD,List.getElem?_map,List.getElem?_range (by omega)]
 simp [e]
theorem row_of (xs:List Int):xs=row xs.length (rd xs):=by
 refine List.ext_getElem (by simp [row]) fun i h1 h2=>?_
 simp [row,rd,List.getD_eq_getElem?_getD,h1]
theorem row_nil (n:Nat):row n (fun _=> -1)=List.replicate n (-1):=by
 simp [row,List.map_const',List.length_range]
def hd (e:Int):List Int→Int
 |[]=>e
 |y::_=>y
def lst:Int→List Int→Int
 |c,[]=>c
 |_,y::l=>lst y l
def pv:Int→List Int→Int→Int
 |_,[],_=> -1
 |c,y::l,x=>if x=y then c else pv y l x
def nx (e:Int):List Int→Int→Int
 |[],_=> -1
 |y::l,x=>if x=y then hd e l else nx e l x
theorem hd_app (e:Int) (A B:List Int):hd e (A++B)=hd (hd e B) A:=by cases A<;>rfl
theorem lst_app (c:Int) (A B:List Int):lst c (A++B)=lst (lst c A) B:=by
 induction A generalizing c with
 |nil=>rfl
 |cons y l ih=>exact ih y
theorem lst_mem {A:List Int} (h:A≠[]) (c:Int):lst c A∈A:=by
 induction A generalizing c with
 |nil=>exact absurd rfl h
 |cons y l ih=>
  cases l with
  |nil=>exact List.mem_cons_self
  |cons z l=>exact List.mem_cons_of_mem _ (ih (by simp) y)
theorem lst_any {A:List Int} (h:A≠[]) (c d:Int):lst c A=lst d A:=by cases A with
 |nil=>exact absurd rfl h
 |cons y l=>rfl
theorem hd_mem {A:List Int} (h:A≠[]) (c:Int):hd c A∈A:=by cases A with
 |nil=>exact absurd rfl h
 |cons y l=>exact List.mem_cons_self
theorem pv_app (c:Int) (A B:List Int) (x:Int):pv c (A++B) x=if x∈A then pv c A x else pv (lst c A) B x:=by
 induction A generalizing c with
 |nil=>simp [lst]
 |cons y l ih=>
  rw [List.cons_append,pv,pv,lst]
  by_cases e:x=y
  ·simp [e]
  ·rw [if_neg e,if_neg e,ih]
   simp [e]
theorem nx_app (e:Int) (A B:List Int) (x:Int):nx e (A++B) x=if x∈A then nx (hd e B) A x else nx e B x:=by
 induction A with
 |nil=>simp
 |cons y l ih=>
  rw [List.cons_append,nx,nx]
  by_cases h:x=y
  ·simp [h,hd_app]
  ·rw [if_neg h,if_neg h,ih]
   simp [h]
theorem pv_out {c:Int} {A:List Int} {x:Int} (h:x∉A):pv c A x= -1:=by
 induction A generalizing c with
 |nil=>rfl
 |cons y l ih=>
  rw [pv,if_neg (fun e=>h (by rw [e];exact List.mem_cons_self)),ih (fun m=>h (List.mem_cons_of_mem _ m))]
theorem nx_out {e:Int} {A:List Int} {x:Int} (h:x∉A):nx e A x= -1:=by
 induction A with
 |nil=>rfl
 |cons y l ih=>
  rw [nx,if_neg (fun e=>h (by rw [e];exact List.mem_cons_self)),ih (fun m=>h (List.mem_cons_of_mem _ m))]
theorem nx_lst {e c:Int} {A:List Int} (h:A≠[]) (hn:A.Nodup):nx e A (lst c A)=e:=by
 induction A generalizing c with
 |nil=>exact absurd rfl h
 |cons y l ih=>
  rw [nx,lst]
  cases l with
  |nil=>simp [lst,hd]
  |cons z l=>
   have hm:lst y (z::l)∈z::l:=lst_mem (by simp) y
   rw [if_neg (fun e=>(List.nodup_cons.1 hn).1 (by rw [←e];exact hm))]
   exact ih (by simp) (List.nodup_cons.1 hn).2
theorem nx_else {e d c:Int} {A:List Int} {x:Int} (hx:x≠lst c A):nx e A x=nx d A x:=by
 induction A generalizing c with
 |nil=>rfl
 |cons y l ih=>
  rw [nx,nx]
  by_cases h:x=y
  ·rw [if_pos h,if_pos h]
   cases l with
   |nil=>exact absurd h hx
   |cons z l=>rfl
  ·rw [if_neg h,if_neg h]
   exact ih (c:=y) hx
theorem pv_else {c d:Int} {B:List Int} {x:Int} (hx:x≠hd (-1) B∨B=[]):pv c B x=pv d B x:=by
 cases B with
 |nil=>rfl
 |cons y l=>
  have h:x≠y:=by rcases hx with h|h;exact h;cases h
  rw [pv,pv,if_neg h,if_neg h]
def Ok (n:Nat) (L:List Int):Prop:=L.Nodup∧∀x∈L,0≤x∧x<n
def PV (n:Nat) (L:List Int):List Int:=row n (pv (-1) L)
def NX (n:Nat) (L:List Int):List Int:=row n (nx (-1) L)
theorem PV_len (n:Nat) (L:List Int):(PV n L).length=n:=row_len _ _
theorem NX_len (n:Nat) (L:List Int):(NX n L).length=n:=row_len _ _
theorem rd_PV {n:Nat} {L:List Int} {i:Int} (h0:0≤i) (h1:i<n):rd (PV n L) i=pv (-1) L i:=rd_row h0 h1
theorem rd_NX {n:Nat} {L:List Int} {i:Int} (h0:0≤i) (h1:i<n):rd (NX n L) i=nx (-1) L i:=rd_row h0 h1
theorem Ok.nil (n:Nat):Ok n []:=⟨List.nodup_nil,fun _ h=>by cases h⟩
theorem Ok.app {n:Nat} {A B:List Int} (h:Ok n (A++B)):Ok n A∧Ok n B∧∀x∈A,x∉B:=by
 obtain ⟨h1,h2⟩:=h
 obtain ⟨a,b,c⟩:=List.nodup_append.1 h1
 exact ⟨⟨a,fun x hx=>h2 x (List.mem_append_left _ hx)⟩,⟨b,fun x hx=>h2 x (List.mem_append_right _ hx)⟩,fun x hx hb=>c x hx x hb rfl⟩
theorem Ok.hd_ne {n:Nat} {B:List Int} (h:Ok n B):hd (-1) B= -1↔B=[]:=by
 constructor
 ·intro e
  apply Classical.byContradiction
  intro hb
  have:=h.2 _ (hd_mem hb (-1))
  omega
 ·rintro rfl;rfl
theorem Ok.lst_ne {n:Nat} {B:List Int} (h:Ok n B):lst (-1) B= -1↔B=[]:=by
 constructor
 ·intro e
  apply Classical.byContradiction
  intro hb
  have:=h.2 _ (lst_mem hb (-1))
  omega
 ·rintro rfl;rfl
theorem Ok.len {n:Nat} {L:List Int} (h:Ok n L):L.length≤n:=by
 induction n generalizing L with
 |zero=>
  cases L with
  |nil=>exact Nat.le_refl _
  |cons y l=>have:=h.2 y List.mem_cons_self;omega
 |succ n ih=>
  by_cases m:(n:Int)∈L
  ·have h2:Ok n (L.erase (n:Int)):=⟨h.1.erase _,fun x hx=>by
    have h3:=(h.1.mem_erase_iff).1 hx
    have:=h.2 x h3.2
    have:=h3.1
    omega⟩
   have:=ih h2
   rw [List.length_erase_of_mem m] at this
   omega
  ·have:=ih (L:=L) ⟨h.1,fun x hx=>by
    have h3:=h.2 x hx
    have:x≠n:=fun e=>m (by rw [←e];exact hx)
    omega⟩
   omega
theorem PV_snoc {n:Nat} {A:List Int} {y:Int} (h:Ok n (A++[y])):PV n (A++[y])=(PV n A).set y.toNat (lst (-1) A):=by
 obtain ⟨hA,hB,hd_⟩:=h.app
 have hy:=hB.2 y List.mem_cons_self
 unfold PV
 rw [set_row _ _ _ _ hy.1]
 refine row_congr fun i h0 h1=>?_
 rw [pv_app]
 by_cases m:i∈A
 ·rw [if_pos m,if_neg (fun e=>hd_ i m (by rw [e];exact List.mem_cons_self))]
 ·rw [if_neg m,pv_out m];rfl
theorem NX_snoc {n:Nat} {A:List Int} {y:Int} (h:Ok n (A++[y])) (hne:A≠[]):NX n (A++[y])=(NX n A).set (lst (-1) A).toNat y:=by
 obtain ⟨hA,hB,hd_⟩:=h.app
 have hl:=hA.2 _ (lst_mem hne (-1))
 unfold NX
 rw [set_row _ _ _ _ hl.1]
 refine row_congr fun i h0 h1=>?_
 rw [nx_app]
 by_cases m:i∈A
 ·rw [if_pos m]
  by_cases e:i=lst (-1) A
  ·rw [if_pos e,e,nx_lst hne hA.1];rfl
  ·rw [if_neg e];exact nx_else e
 ·rw [if_neg m,if_neg (fun e=>m (by rw [e];exact lst_mem hne _)),nx_out m,nx,nx]
  split<;>rfl
theorem NX_one (n:Nat) (y:Int):NX n [y]=NX n []:=by
 refine row_congr fun i _ _=>?_
 simp [nx,hd]
theorem PV_one (n:Nat) (y:Int):PV n [y]=PV n []:=by
 refine row_congr fun i _ _=>?_
 simp [pv]
def putIf (xs:List Int) (i v:Int):List Int:=if i= -1 then xs else xs.set i.toNat v
theorem PV_out {n:Nat} {A B:List Int} {p:Int} (h:Ok n (A++p::B)):(putIf (PV n (A++p::B)) (hd (-1) B) (lst (-1) A)).set p.toNat (-1)=PV n (A++B):=by
 obtain ⟨hA,hpB,hd_⟩:=h.app
 have hp:=hpB.2 p List.mem_cons_self
 have hB:Ok n B:=⟨(List.nodup_cons.1 hpB.1).2,fun x hx=>hpB.2 x (List.mem_cons_of_mem _ hx)⟩
 have hpn:p∉B:=(List.nodup_cons.1 hpB.1).1
 have hpA:p∉A:=fun m=>hd_ p m List.mem_cons_self
 have key:∀i,pv (-1) (A++p::B) i=if i∈A then pv (-1) A i else if i=p then lst (-1) A else pv p B i:=fun i=>by rw [pv_app];rfl
 unfold putIf PV
 by_cases e:hd (-1) B= -1
 ·rw [if_pos e,set_row _ _ _ _ hp.1]
  have eB:B=[]:=(hB.hd_ne).1 e
  subst eB
  refine row_congr fun i h0 h1=>?_
  rw [key,List.append_nil]
  by_cases q:i=p
  ·rw [if_pos q,q,pv_out hpA]
  ·rw [if_neg q,if_neg q]
   by_cases m:i∈A
   ·rw [if_pos m]
   ·rw [if_neg m,pv_out m];rfl
 ·rw [if_neg e]
  have hne:B≠[]:=fun hb=>e ((hB.hd_ne).2 hb)
  have hm:=hd_mem hne (-1)
  have hh:=hB.2 _ hm
  rw [set_row _ _ _ _ hh.1,set_row _ _ _ _ hp.1]
  refine row_congr fun i h0 h1=>?_
  rw [key,pv_app]
  by_cases q:i=p
  ·rw [if_pos q,q,if_neg hpA,pv_out hpn]
  ·rw [if_neg q,if_neg q]
   by_cases m:i∈A
   ·rw [if_pos m,if_pos m,if_neg (fun e2=>hd_ i m (by rw [e2];exact List.mem_cons_of_mem _ hm))]
   ·rw [if_neg m,if_neg m]
    by_cases e2:i=hd (-1) B
    ·rw [if_pos e2]
     cases B with
     |nil=>exact absurd rfl hne
     |cons b l=>rw [pv,if_pos (show i=b from e2)]
    ·rw [if_neg e2];exact pv_else (.inl e2)
theorem NX_out {n:Nat} {A B:List Int} {p:Int} (h:Ok n (A++p::B)):(putIf (NX n (A++p::B)) (lst (-1) A) (hd (-1) B)).set p.toNat (-1)=NX n (A++B):=by
 obtain ⟨hA,hpB,hd_⟩:=h.app
 have hp:=hpB.2 p List.mem_cons_self
 have hB:Ok n B:=⟨(List.nodup_cons.1 hpB.1).2,fun x hx=>hpB.2 x (List.mem_cons_of_mem _ hx)⟩
 have hpn:p∉B:=(List.nodup_cons.1 hpB.1).1
 have hpA:p∉A:=fun m=>hd_ p m List.mem_cons_self
 have key:∀i,nx (-1) (A++p::B) i=if i∈A then nx p A i else if i=p then hd (-1) B else nx (-1) B i:=fun i=>by rw [nx_app];rfl
 unfold putIf NX
 by_cases e:lst (-1) A= -1
 ·rw [if_pos e,set_row _ _ _ _ hp.1]
  have eA:A=[]:=(hA.lst_ne).1 e
  subst eA
  refine row_congr fun i h0 h1=>?_
  rw [key,List.nil_append]
  by_cases q:i=p
  ·rw [if_pos q,q,nx_out hpn]
  ·rw [if_neg q,if_neg q];simp
 ·rw [if_neg e]
  have hne:A≠[]:=fun hb=>e ((hA.lst_ne).2 hb)
  have hm:=lst_mem hne (-1)
  have hh:=hA.2 _ hm
  rw [set_row _ _ _ _ hh.1,set_row _ _ _ _ hp.1]
  refine row_congr fun i h0 h1=>?_
  rw [key,nx_app]
  by_cases q:i=p
  ·rw [if_pos q,q,if_neg hpA,nx_out hpn]
  ·rw [if_neg q,if_neg q]
   by_cases m:i∈A
   ·rw [if_pos m,if_pos m]
    by_cases e2:i=lst (-1) A
    ·rw [if_pos e2,e2,nx_lst hne hA.1]
    ·rw [if_neg e2];exact nx_else e2
   ·rw [if_neg m,if_neg m,if_neg (fun e2=>m (by rw [e2];exact hm))]
theorem PV_cons {n:Nat} {L:List Int} {p:Int} (h:Ok n (p::L)):PV n (p::L)=putIf (PV n L) (hd (-1) L) p:=by
 have hp:=h.2 p List.mem_cons_self
 have hL:Ok n L:=⟨(List.nodup_cons.1 h.1).2,fun x hx=>h.2 x (List.mem_cons_of_mem _ hx)⟩
 have hpn:p∉L:=(List.nodup_cons.1 h.1).1
 unfold putIf PV
 by_cases e:hd (-1) L= -1
 ·rw [if_pos e]
  have eL:L=[]:=(hL.hd_ne).1 e
  subst eL
  refine row_congr fun i h0 h1=>?_
  simp [pv]
 ·rw [if_neg e]
  have hne:L≠[]:=fun hb=>e ((hL.hd_ne).2 hb)
  have hh:=hL.2 _ (hd_mem hne (-1))
  rw [set_row _ _ _ _ hh.1]
  refine row_congr fun i h0 h1=>?_
  rw [pv]
  by_cases q:i=p
  ·rw [if_pos q,if_neg (fun e2=>hpn (by rw [←q,e2];exact hd_mem hne _)),q,pv_out hpn]
  ·rw [if_neg q]
   by_cases e2:i=hd (-1) L
   ·rw [if_pos e2]
    cases L with
    |nil=>exact absurd rfl hne
    |cons b l=>rw [pv,if_pos (show i=b from e2)]
   ·rw [if_neg e2];exact pv_else (.inl e2)
theorem NX_cons {n:Nat} {L:List Int} {p:Int} (h:Ok n (p::L)):NX n (p::L)=(NX n L).set p.toNat (hd (-1) L):=by
 have hp:=h.2 p List.mem_cons_self
 unfold NX
 rw [set_row _ _ _ _ hp.1]
 rfl
def path (N:List Int):Int→List Int→Prop
 |i,[]=>i= -1
 |i,y::l=>i=y∧y≠ -1∧path N (rd N y) l
theorem nx_of_path {N:List Int} {i:Int} {L:List Int} (h:path N i L) (hn:L.Nodup):i=hd (-1) L∧∀x∈L,rd N x=nx (-1) L x:=by
 induction L generalizing i with
 |nil=>exact ⟨h,fun _ m=>by cases m⟩
 |cons y l ih=>
  obtain ⟨h1,h2,h3⟩:=h
  obtain ⟨e1,e2⟩:=ih h3 (List.nodup_cons.1 hn).2
  refine ⟨h1,fun x hx=>?_⟩
  rw [nx]
  by_cases q:x=y
  ·rw [if_pos q,q,e1]
  ·rw [if_neg q]
   exact e2 x (by rcases List.mem_cons.1 hx with m|m;exact absurd m q;exact m)
def both (P N:List Int):Int→Int→List Int→Prop
 |_,i,[]=>i= -1
 |c,i,y::l=>i=y∧y≠ -1∧rd P y=c∧both P N y (rd N y) l
theorem both_path {P N:List Int} {c i:Int} {L:List Int} (h:both P N c i L):path N i L:=by
 induction L generalizing c i with
 |nil=>exact h
 |cons y l ih=>exact ⟨h.1,h.2.1,ih h.2.2.2⟩
theorem both_pv {P N:List Int} {c i:Int} {L:List Int} (h:both P N c i L) (hn:L.Nodup):∀x∈L,rd P x=pv c L x:=by
 induction L generalizing c i with
 |nil=>exact fun _ m=>by cases m
 |cons y l ih=>
  intro x hx
  rw [pv]
  by_cases q:x=y
  ·rw [if_pos q,q];exact h.2.2.1
  ·rw [if_neg q]
   exact ih h.2.2.2 (List.nodup_cons.1 hn).2 x (by rcases List.mem_cons.1 hx with m|m;exact absurd m q;exact m)
theorem both_made {n:Nat} {A B:List Int} (h:Ok n (A++B)):both (PV n (A++B)) (NX n (A++B)) (lst (-1) A) (hd (-1) B) B:=by
 induction B generalizing A with
 |nil=>rfl
 |cons y l ih=>
  obtain ⟨hA,hB,hd_⟩:=h.app
  have hy:=hB.2 y List.mem_cons_self
  have e:A++y::l=(A++[y])++l:=by simp
  have hm:y∉A:=fun m=>hd_ y m List.mem_cons_self
  refine ⟨rfl,by omega,?_,?_⟩
  ·rw [rd_PV hy.1 hy.2,pv_app,if_neg hm,pv,if_pos rfl]
  ·have h2:=ih (A:=A++[y]) (by rw [←e];exact h)
   rw [lst_app] at h2
   rw [rd_NX hy.1 hy.2,nx_app,if_neg hm,nx,if_pos rfl,e]
   exact h2
end Go.Proofs.YtkihjakbbcajbaaGreat.TB
namespace Go.Proofs.YtkihjakbbcajbaaGreat.TB
set_option linter.unusedSimpArgs false
set_option linter.unusedVariables false
open Go Go.Proofs Go.Proofs.YtkihjakbbcajbaaGreat.PM Go.Proofs.YtkihjakbbcajbaaGreat.RP
inductive Both (prev next:List Int):Int→Int→List Int→Prop
 |nil (c:Int):Both prev next c (-1) []
 |cons {c i:Int} {l:List Int} (h0:0≤i) (h1:i<next.length) (hp:prev.getD i.toNat 0=c) (h:Both prev next i (next.getD i.toNat 0) l):Both prev next c i (i::l)
theorem Both.chain {prev next:List Int} {c i:Int} {l:List Int} (h:Both prev next c i l):Chain next i l:=by
 induction h with
 |nil=>exact .nil
 |cons h0 h1 _ _ ih=>exact .cons h0 h1 ih
theorem Both.to {prev next:List Int} {c i:Int} {l:List Int} (h:Both prev next c i l):both prev next c i l:=by
 induction h with
 |nil=>rfl
 |cons h0 h1 hp _ ih=>exact ⟨rfl,by omega,hp,ih⟩
theorem Both.of {prev next:List Int}:∀{l:List Int} {c i:Int},both prev next c i l→(∀x∈l,0≤x∧x<next.length)→Both prev next c i l
 |[],c,i,h,_=>by
  have e:i= -1:=h
  rw [e];exact .nil c
 |y::l,c,i,h,hr=>by
  obtain ⟨h1,h2,h3,h4⟩:=h
  subst h1
  have:=hr i (by simp)
  exact .cons this.1 this.2 h3 (Both.of h4 fun x hx=>hr x (by simp [hx]))
structure OGood (prev next:List Int) (head tail:Int) (l:List Int):Prop where
 low:1≤prev.length
 high:prev.length≤16
 same:next.length=prev.length
 both:Both prev next (-1) head l
 nodup:l.Nodup
 out:∀j:Nat,j<prev.length→¬(j:Int)∈l→prev.getD j 0= -1∧next.getD j 0= -1
 tail:tail=lst (-1) l
def OOk (prev next:List Int) (head tail:Int):Prop:=∃l,OGood prev next head tail l
theorem OGood.ok {prev next:List Int} {head tail:Int} {l:List Int} (g:OGood prev next head tail l):Ok prev.length l:=
 ⟨g.nodup,fun x hx=>by have:=g.both.chain.range x hx;have:=g.same;omega⟩
theorem OGood.det {prev next:List Int} {head tail:Int} {l l':List Int} (g:OGood prev next head tail l) (g':OGood prev next head tail l'):l=l':=g.both.chain.det g'.both.chain
theorem OGood.short {prev next:List Int} {head tail:Int} {l:List Int} (g:OGood prev next head tail l):l.length≤16:=by
 have:=g.ok.len
 have:=g.high
 omega
theorem OGood.made {prev next:List Int} {head tail:Int} {l:List Int} (g:OGood prev next head tail l):prev=PV prev.length l∧next=NX prev.length l∧head=hd (-1) l∧tail=lst (-1) l:=by
 have hb:=g.both.to
 have hn:=nx_of_path (both_path hb) g.nodup
 have hp:=both_pv hb g.nodup
 refine ⟨?_,?_,hn.1,g.tail⟩
 ·refine Eq.trans (row_of prev) (row_congr fun i h0 h1=>?_)
  by_cases m:i∈l
  ·exact hp i m
  ·have:=g.out i.toNat (by omega) (by rw [show ((i.toNat:Nat):Int)=i by omega];exact m)
   rw [pv_out m];exact this.1
 ·refine Eq.trans (row_of next) ?_
  rw [g.same]
  refine row_congr fun i h0 h1=>?_
  by_cases m:i∈l
  ·exact hn.2 i m
  ·have:=g.out i.toNat (by omega) (by rw [show ((i.toNat:Nat):Int)=i by omega];exact m)
   rw [nx_out m];exact this.2
theorem OGood.of {n:Nat} {l:List Int} (h1:1≤n) (h2:n≤16) (h:Ok n l):OGood (PV n l) (NX n l) (hd (-1) l) (lst (-1) l) l where
 low:=by rw [PV_len];exact h1
 high:=by rw [PV_len];exact h2
 same:=by rw [PV_len,NX_len]
 both:=Both.of (both_made (A:=[]) h) (by rw [NX_len];exact h.2)
 nodup:=h.1
 out j hj hm:=by
  rw [PV_len] at hj
  have a:=rd_PV (L:=l) (n:=n) (i:=(j:Int)) (by omega) (by omega)
  have b:=rd_NX (L:=l) (n:=n) (i:=(j:Int)) (by omega) (by omega)
  unfold rd at a b
  rw [toNat_cast] at a b
  rw [a,b]
  exact ⟨pv_out hm,nx_out hm⟩
 tail:=rfl
theorem lru_walk_yes {prev next:List Int} {head tail last i:Int} {l:List Int} (hl:prev.length=next.length) (h:Both prev next last i l):
  ∀s:List Bool,s.length=next.length→l.Nodup→(∀x∈l,s.getD x.toNat false=false)→
   bm.L2 (next.length:Int) last i prev next head tail s=bm.L4 (lst last l) (next.length:Int) 0 prev next head tail (marks s l):=by
 induction h with
 |nil c=>
  intro s hs _ _
  rw [bm.L2_eq,bne_neg rfl,←hs];rfl
 |@cons c i l h0 h1 hp hc ih=>
  intro s hs hn hf
  obtain ⟨hi,hn⟩:=List.nodup_cons.1 hn
  have hr:=ih (s.set i.toNat true) (by simpa using hs) hn (fun x hx=>by
   have hxr:=hc.chain.range x hx
   rw [set_at h0 (by omega) hxr.1,if_neg (fun e=>hi (by rw [e];exact hx))]
   exact hf x (by simp [hx]))
  rw [bm.L2_eq,bne_pos (by omega),bm.L3_eq,bd_neg (by omega),bd_neg (by omega),bd_pos (by omega),bf (hf i (by simp)),bd_pos (by omega),bne_neg hp,bm.L8_eq,bd_pos (by omega),bd_pos (by omega)]
  exact hr
theorem lru_walk_no {prev next:List Int} {head tail:Int} (hl:prev.length=next.length) (d:Nat):
  ∀(s:List Bool) (last i:Int),s.length=next.length→s.count false≤d→(¬∃l,Both prev next last i l∧l.Nodup∧∀x∈l,s.getD x.toNat false=false)→
   bm.L2 (next.length:Int) last i prev next head tail s=some (8,()):=by
 induction d with
 |zero=>
  intro s last i hs hd hn
  by_cases e:i= -1
  ·exact absurd ⟨[],by rw [e];exact .nil _,by simp,by simp⟩ hn
  rw [bm.L2_eq,bne_pos e,bm.L3_eq]
  by_cases h0:i<0
  ·rw [bd_pos h0]
  by_cases h1:i≥next.length
  ·rw [bd_neg h0,bd_pos h1]
  rw [bd_neg h0,bd_neg h1,bd_pos (by omega)]
  by_cases hf:s.getD i.toNat false=true
  ·rw [bt hf]
  ·have:=count_set (by omega) (by omega) hf
   omega
 |succ d ih=>
  intro s last i hs hd hn
  by_cases e:i= -1
  ·exact absurd ⟨[],by rw [e];exact .nil _,by simp,by simp⟩ hn
  rw [bm.L2_eq,bne_pos e,bm.L3_eq]
  by_cases h0:i<0
  ·rw [bd_pos h0]
  by_cases h1:i≥next.length
  ·rw [bd_neg h0,bd_pos h1]
  rw [bd_neg h0,bd_neg h1,bd_pos (by omega)]
  by_cases hf:s.getD i.toNat false=true
  ·rw [bt hf]
  rw [bf (bool_not hf),bd_pos (by omega)]
  by_cases hp:prev.getD i.toNat 0=last
  ·have hc:=count_set (s:=s) (i:=i) (by omega) (by omega) hf
   have hr:=ih (s.set i.toNat true) i (next.getD i.toNat 0) (by simpa using hs) (by omega) (by
    rintro ⟨l,hl,hnd,hx⟩
    refine hn ⟨i::l,.cons (by omega) (by omega) hp hl,List.nodup_cons.2 ⟨fun hi=>?_,hnd⟩,?_⟩
    ·have:=hx i hi
     rw [set_at (by omega) (by omega) (by omega),if_pos rfl] at this
     exact Bool.noConfusion this
    ·intro x hxm
     rcases List.mem_cons.1 hxm with rfl|hxm
     ·exact bool_not hf
     ·have:=hx x hxm
      have hxr:=hl.chain.range x hxm
      rw [set_at (by omega) (by omega) hxr.1] at this
      split at this
      ·exact Bool.noConfusion this
      ·exact this)
   rw [bne_neg hp,bm.L8_eq,bd_pos (by omega),bd_pos (by omega)]
   exact hr
  ·rw [bne_pos hp]
def OutOk (s:List Bool) (prev next:List Int) (i:Nat):Prop:=s.getD i false=false→prev.getD i 0= -1∧next.getD i 0= -1
theorem lru_l4 {s:List Bool} {prev next:List Int} {head tail last:Int} (h1:s.length=next.length) (h2:prev.length=next.length) (hu:next.length≤16):
  Says ((∀i,i<next.length→OutOk s prev next i)∧tail=last) (bm.L4 last (next.length:Int) 0 prev next head tail s):=by
 have:=loop_all (n:=next.length) (L:=fun i=>bm.L4 last (next.length:Int) (i:Int) prev next head tail s) (ok:=OutOk s prev next) (stop:=some (8,())) (fun i hi=>by
  have nxt:bm.L7 last (next.length:Int) (i:Int) prev next head tail s=bm.L4 last (next.length:Int) ((i+1:Nat):Int) prev next head tail s:=by
   rw [bm.L7_eq,W_eq (by omega) (by omega),cast_add1]
  try dsimp only
  rw [bm.L4_eq,bd_pos (by omega),bm.L5_eq,bd_pos (by omega)]
  simp only [toNat_cast]
  by_cases a:s.getD i false=true
  ·rw [bnt a,nxt];exact .inl ⟨fun h=>(by rw [a] at h;cases h),rfl⟩
  ·rw [bnf (bool_not a),bd_pos (by omega)]
   by_cases e:prev.getD i 0= -1
   ·rw [bne_neg e,bd_pos (by omega)]
    by_cases f:next.getD i 0= -1
    ·rw [bne_neg f,nxt];exact .inl ⟨fun _=>⟨e,f⟩,rfl⟩
    ·rw [bne_pos f];exact .inr ⟨fun h=>f (h (bool_not a)).2,rfl⟩
   ·rw [bne_pos e];exact .inr ⟨fun h=>e (h (bool_not a)).1,rfl⟩)
 rcases this with ⟨h,e⟩|⟨h,e⟩
 ·have e2:bm.L4 last (next.length:Int) 0 prev next head tail s=bm.L4 last (next.length:Int) (next.length:Int) prev next head tail s:=e
  rw [e2,bm.L4_eq,bd_neg (by omega)]
  by_cases t:tail=last
  ·rw [bne_neg t,bm.L6_eq];exact .inl ⟨⟨h,t⟩,rfl⟩
  ·rw [bne_pos t];exact .inr ⟨fun h=>t h.2,rfl⟩
 ·exact .inr ⟨fun h2=>h h2.1,e⟩
theorem lru_says (prev next:List Int) (head tail:Int):Says (OOk prev next head tail) (bm.F (prev,next,head,tail,())):=by
 rw [bm.F_eq]
 try dsimp only
 by_cases hlow:(prev.length:Int)<1
 ·rw [bd_pos hlow];exact .inr ⟨fun ⟨l,g⟩=>by have:=g.low;omega,rfl⟩
 by_cases hhigh:(prev.length:Int)>16
 ·rw [bd_neg hlow,bd_pos hhigh];exact .inr ⟨fun ⟨l,g⟩=>by have:=g.high;omega,rfl⟩
 by_cases hsame:(next.length:Int)=(prev.length:Int)
 ·have hl:prev.length=next.length:=by omega
  rw [bd_neg hlow,bd_neg hhigh,bne_neg hsame,bm.L1_eq,decide_eq_true (show (0:Int)≤(prev.length:Int)∧(prev.length:Int)≤(prev.length:Int) by omega),Bool.true_and,lim_small (by decide) (by omega),toNat_cast,hl]
  have h0:∀i:Nat,(List.replicate next.length false).getD i false=false:=fun i=>by simp [List.getD_eq_getElem?_getD,List.getElem?_replicate];split<;>rfl
  by_cases hc:∃l,Both prev next (-1) head l∧l.Nodup
  ·obtain ⟨l,hb,hnd⟩:=hc
   rw [lru_walk_yes hl hb _ (by simp) hnd (fun x _=>h0 _)]
   have hr:∀x∈l,0≤x∧x<(List.replicate next.length false).length:=fun x hx=>by have:=hb.chain.range x hx;simp;omega
   have hm:∀i:Nat,(marks (List.replicate next.length false) l).getD i false=true↔(i:Int)∈l:=fun i=>by
    have:=marks_at hr (j:=(i:Int)) (by omega)
    rw [toNat_cast,h0] at this
    simpa using this
   refine (lru_l4 (by rw [marks_length];simp) hl (by omega)).congr ⟨fun h=>⟨l,by omega,by omega,by omega,hb,hnd,fun j hj m=>h.1 j (by omega) (bool_not fun e=>m ((hm j).1 e)),h.2⟩,fun ⟨l',g⟩=>?_⟩
   obtain rfl:=hb.chain.det g.both.chain
   exact ⟨fun i hi e=>g.out i (by omega) fun m=>(by rw [(hm i).2 m] at e;cases e),g.tail⟩
  ·rw [lru_walk_no hl ((List.replicate next.length false).count false) _ _ _ (by simp) (Nat.le_refl _) (fun ⟨l,a,b,_⟩=>hc ⟨l,a,b⟩)]
   exact .inr ⟨fun ⟨l,g⟩=>hc ⟨l,g.both,g.nodup⟩,rfl⟩
 ·rw [bd_neg hlow,bd_neg hhigh,bne_pos hsame];exact .inr ⟨fun ⟨l,g⟩=>by have:=g.same;omega,rfl⟩
theorem list_walk {prev next:List Int} {head tail i:Int} {l:List Int} (h:Chain next i l):∀acc:List Int,acc.length+l.length≤1000→eh.L2 i prev next head tail acc=some (acc++l,0,()):=by
 induction h with
 |nil=>
  intro acc _
  rw [eh.L2_eq,bne_neg rfl,List.append_nil]
 |@cons i l h0 h1 hc ih=>
  intro acc ha
  have ha:acc.length+(l.length+1)≤1000:=ha
  rw [eh.L2_eq,bne_pos (by omega),eh.L3_eq,lim_small (by decide) (by simp;omega),bd_pos (by omega),ih _ (by simp;omega)]
  simp
theorem lru_List_ok {prev next:List Int} {head tail:Int} {l:List Int} (g:OGood prev next head tail l):eh.F (prev,next,head,tail,())=some (l,0,()):=by
 have:=g.short
 rw [eh.F_eq,(lru_says prev next head tail).yes ⟨l,g⟩,ob,bne_neg rfl,eh.L1_eq]
 try dsimp only
 rw [list_walk g.both.chain [] (by simp;omega)]
 rfl
theorem lru_List_no {prev next:List Int} {head tail:Int} (h:¬OOk prev next head tail):eh.F (prev,next,head,tail,())=some ([],8,()):=by
 rw [eh.F_eq,(lru_says prev next head tail).no h,ob,bne_pos (by decide)]
end Go.Proofs.YtkihjakbbcajbaaGreat.TB
namespace Go.Proofs.YtkihjakbbcajbaaGreat.TB
set_option linter.unusedSimpArgs false
set_option linter.unusedVariables false
open Go Go.Proofs Go.Proofs.YtkihjakbbcajbaaGreat.PM Go.Proofs.YtkihjakbbcajbaaGreat.RP
def LimOk (l:t0.den):Prop:=¬(Z l.1)<1∧¬(Z l.1)>1000000000∧¬(Z l.2.1)<0∧¬(Z l.2.1)>1000000000∧¬(Z l.2.2.1)<1∧¬(Z l.2.2.1)>1000000000∧True
theorem limit_says (l:t0.den):Says (LimOk l) (cw.F l):=by
 rw [cw.F_eq]
 exact .guard fun _=> .guard fun _=> .guard fun _=> .guard fun _=> .guard fun _=> .guard fun _=>by rw [cw.L1_eq];exact .done
def BktOk (b:t1.den):Prop:=LimOk b.1∧¬(Z b.2.1)<0∧¬((Z b.1.1) - Z b.2.1)<0∧¬(Z b.2.2.1)<0∧¬(Z b.2.2.1)≥Z b.1.2.2.1∧((Z b.1.1) - Z b.2.1=0→¬(Z b.2.2.1)>0)
theorem bucket_says (b:t1.den) (hb:(Z b.2.1)≤9223372036854775807):Says (BktOk b) (cx.F b):=by
 rw [cx.F_eq]
 refine (limit_says b.1).call (fun hl=>?_) rfl
 obtain ⟨h1,h2,_⟩:=hl
 rw [bne_neg rfl,cx.L1_eq]
 refine .guard fun a=>?_
 have e:IntKind.wrap .i64 ((Z b.1.1) - Z b.2.1)=(Z b.1.1) - Z b.2.1:=W_eq (by omega) (by omega)
 rw [e]
 refine .guard fun _=> .guard fun _=> .guard fun _=>?_
 by_cases z:(Z b.1.1) - Z b.2.1=0
 ·rw [beq_pos z]
  by_cases w:(Z b.2.2.1)>0
  ·rw [bd_pos (by exact w)];exact .inr ⟨fun h=>h z w,rfl⟩
  ·rw [bd_neg (by exact w),cx.L2_eq];exact .inl ⟨fun _=>w,rfl⟩
 ·rw [beq_neg z,cx.L2_eq];exact .inl ⟨fun h=>absurd h z,rfl⟩
theorem index_l1 {s:List Int} {v:Int} (hs:s.length≤1000):∀(k i:Nat),i+k=s.length→∃r:Int,dc.L1 s v (s.length:Int) (i:Int)=some (r,())∧(0≤r↔v∈s.drop i)
 |0,i,h=>by
  refine ⟨-1,by rw [dc.L1_eq,bd_neg (by omega)],?_⟩
  rw [List.drop_of_length_le (by omega)];simp
 |k+1,i,h=>by
  have hi:i<s.length:=by omega
  rw [dc.L1_eq,bd_pos (by omega),dc.L2_eq,bd_pos (by omega)]
  simp only [toNat_cast]
  rw [getD_get hi,List.drop_eq_getElem_cons hi]
  by_cases e:v=s[i]
  ·exact ⟨i,by rw [beq_pos e],⟨fun _=>by rw [e];exact List.mem_cons_self,fun _=>by omega⟩⟩
  ·obtain ⟨r,h1,h2⟩:=index_l1 hs k (i+1) (by omega)
   refine ⟨r,by rw [beq_neg e,dc.L3_eq,W_eq (by omega) (by omega),cast_add1,h1],?_⟩
   rw [h2,List.mem_cons]
   exact ⟨Or.inr,fun h=>h.resolve_left e⟩
theorem contains_f {s:List Int} (hs:s.length≤1000) (v:Int):ft.F s v=some (decide (v∈s),()):=by
 obtain ⟨r,h1,h2⟩:=index_l1 (v:=v) hs s.length 0 (by omega)
 have h1:dc.L1 s v (s.length:Int) 0=some (r,()):=h1
 rw [ft.F_eq,dc.F_eq,h1,ob]
 rw [List.drop_zero] at h2
 show some (decide (r≥0),())=_
 rw [decide_eq_decide.2 h2]
end Go.Proofs.YtkihjakbbcajbaaGreat.TB
namespace Go.Proofs.YtkihjakbbcajbaaGreat.TB
set_option linter.unusedSimpArgs false
set_option linter.unusedVariables false
open Go Go.Proofs Go.Proofs.YtkihjakbbcajbaaGreat.PM Go.Proofs.YtkihjakbbcajbaaGreat.RP
@[reducible] noncomputable def b0_:t1.den:=((0,0,0,()),0,0,0,())
def RowOk (keys:List Int) (bks:List t1.den) (used:List Bool) (x:List t3.den) (l:List Int) (i:Nat):Prop:=
 (used.getD i false=true↔(i:Int)∈l)∧
 (used.getD i false=false→keys.getD i 0=0∧bks.getD i b0_=b0_)∧
 (used.getD i false=true→(∃j:Int,0≤j∧j<16∧(cl x j).2.2.1=true∧(cl x j).1=keys.getD i 0∧(cl x j).2.1=(i:Int))∧BktOk (bks.getD i b0_))
structure TGood (cap:Int) (keys:List Int) (bks:List t1.den) (next:List Int) (used:List Bool) (free:Int) (x:List t3.den) (prev nxt:List Int) (head tail:Int) (l:List Int):Prop where
 low:1≤cap
 high:cap≤8
 nkeys:(keys.length:Int)=cap
 nbks:(bks.length:Int)=cap
 nnext:(next.length:Int)=cap
 nprev:(prev.length:Int)=cap
 arena:AOk next used free
 index:POk x
 order:OGood prev nxt head tail l
 row:∀i:Nat,i<used.length→RowOk keys bks used x l i
 count:used.countP id=cnt x
def TOk (t:t5.den):Prop:=∃l,TGood t.1 t.2.1 t.2.2.1 t.2.2.2.1.1 t.2.2.2.1.2.1 t.2.2.2.1.2.2.1 t.2.2.2.2.1 t.2.2.2.2.2.1.1 t.2.2.2.2.2.1.2.1 t.2.2.2.2.2.1.2.2.1 t.2.2.2.2.2.1.2.2.2.1 l
theorem take_count {used:List Bool} {i:Nat} (h:i<used.length):(used.take (i+1)).countP id=(used.take i).countP id+(if used.getD i false=true then 1 else 0):=by
 rw [←List.take_append_getElem h,List.countP_append,getD_get h]
 simp [List.countP_cons]
theorem count_le (used:List Bool) (i:Nat):(used.take i).countP id≤used.length:=by
 have:=List.countP_le_length (p:=id) (l:=used.take i)
 have:=List.length_take_le' i used
 omega
theorem table_l5 {x:List t3.den} (hx:x.length=16) (n:Nat) (hn:n≤1000):Says (n=cnt x) (af.L5 (n:Int) x (x.length:Int) 0):=by
 have h2:=loop_go (n:=x.length) (L:=fun i=>af.L5 ((n:Int) - (((x.take i).countP (·.2.2.1):Nat):Int)) x (x.length:Int) (i:Int)) (fun i hi=>by
  have hle:=cnt_le x i
  try dsimp only
  rw [af.L5_eq,bd_pos (by omega),af.L6_eq,bd_pos (by omega),take_cnt hi]
  by_cases u:(cl x (i:Int)).2.2.1=true
  ·rw [bt u,if_pos u,af.L8_eq,W_eq (by omega) (by omega),W_eq (by omega) (by omega),cast_add1]
   congr 1
   omega
  ·rw [bf (bool_not u),if_neg u,af.L8_eq,W_eq (x:=(i:Int)+1) (by omega) (by omega),cast_add1];rfl)
 try dsimp only at h2
 rw [List.take_of_length_le (Nat.le_refl _)] at h2
 have h3:af.L5 ((n:Int) - ((0:Nat):Int)) x (x.length:Int) 0=af.L5 ((n:Int) - (cnt x:Int)) x (x.length:Int) (x.length:Int):=h2
 rw [show ((n:Int) - ((0:Nat):Int))=n by omega] at h3
 rw [h3,af.L5_eq,bd_neg (by omega)]
 by_cases e:n=cnt x
 ·rw [bne_neg (by omega),af.L7_eq];exact .inl ⟨e,rfl⟩
 ·rw [bne_pos (by omega)];exact .inr ⟨e,rfl⟩
theorem table_l3 {cap:Int} {keys:List Int} {bks:List t1.den} {next:List Int} {used:List Bool} {free:Int} {x:List t3.den} {prev nxt:List Int} {head tail:Int} {l:List Int}
  (hk:keys.length=used.length) (hb:bks.length=used.length) (hu:used.length≤8) (hx:POk x) (hl:l.length≤16) (hw:∀c∈bks,Z c.2.1≤9223372036854775807):
  Says ((∀i,i<used.length→RowOk keys bks used x l i)∧used.countP id=cnt x) (af.L3 0 used (used.length:Int) 0 cap keys bks next free x prev nxt head tail l):=by
 have hx16:=hx.len
 rcases loop_all (n:=used.length) (L:=fun i=>af.L3 (((used.take i).countP id:Nat):Int) used (used.length:Int) (i:Int) cap keys bks next free x prev nxt head tail l) (ok:=RowOk keys bks used x l) (stop:=some (8,())) (fun i hi=>by
  have hle:=count_le used i
  try dsimp only
  rw [take_count hi]
  rw [af.L3_eq,bd_pos (by omega),af.L4_eq,bd_pos (by omega),contains_f (by omega),ob]
  simp only [toNat_cast]
  by_cases u:used.getD i false=true
  ·rw [if_pos u]
   rw [u]
   by_cases m:(i:Int)∈l
   ·rw [decide_eq_true m,bnt (b:=true==true) rfl,bnt rfl,af.L9_eq,bnt rfl,af.L10_eq,bd_pos (by omega)]
    simp only [toNat_cast]
    have hbi:Z (bks.getD i b0_).2.1≤9223372036854775807:=by
     rw [getD_get (by omega)];exact hw _ (List.getElem_mem _)
    rcases probe_Find_ok hx (keys.getD i 0) with ⟨j,h0,h1,v,e,f⟩|⟨n,f⟩
    ·rw [f,ob,bne_neg rfl]
     by_cases q:Z (cl x j).2.1=(i:Int)
     ·rw [bne_neg q,bd_pos (by omega)]
      rcases bucket_says _ hbi with ⟨ok,g⟩|⟨ok,g⟩
      ·rw [g,ob,bne_neg rfl,af.L11_eq,W_eq (by omega) (by omega),W_eq (by omega) (by omega),cast_add1,cast_add1]
       exact .inl ⟨⟨⟨fun _=>m,fun _=>u⟩,fun h=>(by rw [u] at h;cases h),fun _=>⟨⟨j,h0,h1,v,e,q⟩,ok⟩⟩,rfl⟩
      ·rw [g,ob,bne_pos (by decide)]
       exact .inr ⟨fun h=>ok (h.2.2 u).2,rfl⟩
     ·rw [bne_pos q]
      refine .inr ⟨fun h=>?_,rfl⟩
      obtain ⟨⟨k,a,b,c,d,g⟩,_⟩:=h.2.2 u
      exact q (by rw [hx.uniq j k h0 h1 a b v c (e.trans d.symm)];exact g)
    ·rw [f,ob,bne_pos (by decide)]
     refine .inr ⟨fun h=>?_,rfl⟩
     obtain ⟨⟨k,a,b,c,d,g⟩,_⟩:=h.2.2 u
     exact n k a b ⟨c,d⟩
   ·rw [decide_eq_false m]
    exact .inr ⟨fun h=>m (h.1.1 u),rfl⟩
  ·have uf:=bool_not u
   rw [if_neg u]
   rw [uf]
   by_cases m:(i:Int)∈l
   ·rw [decide_eq_true m]
    exact .inr ⟨fun h=>u (h.1.2 m),rfl⟩
   ·rw [decide_eq_false m,bnt (b:=false==false) rfl,bnf rfl,bd_pos (by omega)]
    by_cases k0:keys.getD i 0=0
    ·rw [bne_neg k0,bd_pos (by omega)]
     by_cases z:bks.getD i b0_=b0_
     ·rw [nbeq_neg z,af.L9_eq,bnf rfl,W_eq (by omega) (by omega),cast_add1]
      exact .inl ⟨⟨⟨fun h=>absurd h u,fun h=>absurd h m⟩,fun _=>⟨k0,z⟩,fun h=>absurd h u⟩,rfl⟩
     ·rw [nbeq_pos z]
      exact .inr ⟨fun h=>z (h.2.1 uf).2,rfl⟩
    ·rw [bne_pos k0]
     exact .inr ⟨fun h=>k0 (h.2.1 uf).1,rfl⟩) with ⟨a,e⟩|⟨a,e⟩
 ·have e2:af.L3 0 used (used.length:Int) 0 cap keys bks next free x prev nxt head tail l=af.L3 (((used.take used.length).countP id:Nat):Int) used (used.length:Int) (used.length:Int) cap keys bks next free x prev nxt head tail l:=e
  have hle:=count_le used used.length
  rw [List.take_of_length_le (Nat.le_refl _)] at e2 hle
  rw [e2,af.L3_eq,bd_neg (by omega)]
  exact (table_l5 hx16 (used.countP id) (by omega)).congr ⟨fun h=>⟨a,h⟩,fun h=>h.2⟩
 ·exact .inr ⟨fun h=>a h.1,e⟩
theorem table_says (t:t5.den) (hw:∀c∈t.2.2.1,Z c.2.1≤9223372036854775807):Says (TOk t) (af.F t):=by
 obtain ⟨cap,keys,bks,⟨next,used,free,⟨⟩⟩,x,⟨prev,nxt,head,tail,⟨⟩⟩,⟨⟩⟩:=t
 rw [af.F_eq]
 dsimp only at hw ⊢
 refine Says.congr (P:=¬(Z cap<1)∧¬(Z cap>8)∧(([(keys.length:Int),(bks.length:Int),(next.length:Int),(prev.length:Int)]:List Int)=[cap,cap,cap,cap])∧AOk next used free∧POk x∧∃l,OGood prev nxt head tail l∧(∀i,i<used.length→RowOk keys bks used x l i)∧used.countP id=cnt x) ?_ ?_
 ·refine .guard fun c0=> .guard fun c1=> .same (t:=.arr 4 (.int .i64)) fun hs=>?_
  have c0:¬Z cap<1:=c0
  have c1:¬Z cap>8:=c1
  have hs:[(keys.length:Int),(bks.length:Int),(next.length:Int),(prev.length:Int)]=[Z cap,Z cap,Z cap,Z cap]:=hs
  simp only [List.cons.injEq,and_true] at hs
  obtain ⟨s1,s2,s3,s4⟩:=hs
  refine (arena_says next used free).call (fun ha=>?_) rfl
  rw [bne_neg rfl]
  refine (probe_says x).call (fun hp=>?_) rfl
  rw [bne_neg rfl,af.L1_eq]
  have hlen:used.length=next.length:=by obtain ⟨_,g⟩:=ha;exact g.same
  by_cases ho:OOk prev nxt head tail
  ·obtain ⟨l,g⟩:=ho
   rw [lru_List_ok g,ob,bne_neg rfl,af.L2_eq]
   have hs:=g.short
   refine (table_l3 (cap:=cap) (next:=next) (free:=free) (prev:=prev) (nxt:=nxt) (head:=head) (tail:=tail) (by omega) (by omega) (by omega) hp hs hw).congr ⟨fun h=>⟨l,g,h⟩,fun ⟨l',g',h⟩=>?_⟩
   obtain rfl:=g.det g'
   exact h
  ·rw [lru_List_no ho,ob,bne_pos (by decide)]
   exact .inr ⟨fun ⟨l,g,_⟩=>ho ⟨l,g⟩,rfl⟩
 ·constructor
  ·rintro ⟨c0,c1,hs,ha,hp,l,g,hr,hc⟩
   simp only [List.cons.injEq,and_true] at hs
   obtain ⟨s1,s2,s3,s4⟩:=hs
   exact ⟨l,Int.not_lt.1 c0,Int.not_lt.1 c1,s1,s2,s3,s4,ha,hp,g,hr,hc⟩
  ·rintro ⟨l,g⟩
   have h1:=g.low
   have h2:=g.high
   refine ⟨Int.not_lt.2 h1,Int.not_lt.2 h2,?_,g.arena,g.index,l,g.order,g.row,g.count⟩
   rw [g.nkeys,g.nbks,g.nnext,g.nprev]
end Go.Proofs.YtkihjakbbcajbaaGreat.TB
namespace Go.Proofs.YtkihjakbbcajbaaGreat.TB
set_option linter.unusedSimpArgs false
set_option linter.unusedVariables false
open Go Go.Proofs Go.Proofs.YtkihjakbbcajbaaGreat.PM Go.Proofs.YtkihjakbbcajbaaGreat.RP
theorem in_f {l:List Int} (hl:l.length≤1000) (n:Int):ch.F l n=some (decide (n∈l),()):=by
 rw [ch.F_eq]
 rcases find_loop (n:=l.length) (L:=fun i=>ch.L1 l n (i:Int)) (p:=fun i=>l.getD i 0=n) (hit:=fun _=>some (true,())) (miss:=some (false,())) (fun i hi=>by
  try dsimp only
  rw [ch.L1_eq,bd_pos (by omega),ch.L2_eq,bd_pos (by omega)]
  simp only [toNat_cast]
  by_cases e:l.getD i 0=n
  ·rw [beq_pos e];exact .inl ⟨e,rfl⟩
  ·rw [beq_neg e,ch.L3_eq,W_eq (by omega) (by omega),cast_add1];exact .inr ⟨e,rfl⟩) (by
  try dsimp only
  rw [ch.L1_eq,bd_neg (by omega)]) with ⟨i,hi,h1,_,h2⟩|⟨h1,h2⟩
 ·refine Eq.trans h2 ?_
  rw [decide_eq_true]
  rw [getD_get hi] at h1
  rw [←h1];exact List.getElem_mem hi
 ·refine Eq.trans h2 ?_
  rw [decide_eq_false]
  intro hm
  obtain ⟨i,hi,e⟩:=List.mem_iff_getElem.1 hm
  exact h1 i hi (by rw [getD_get hi,e])
theorem free_step (next:List Int) (used:List Bool) (free:Int) (hn:next.length≤100) (i:Int) (acc:List Int) (ha:acc.length≤100):ci.L1 i next used free acc=if i= -1 then some (acc,true,()) else if i<0 then some ([],false,()) else if i≥next.length then some ([],false,()) else if i∈acc then some ([],false,()) else ci.L1 (next.getD i.toNat 0) next used free (acc++[i]):=by
 conv=>lhs;rw [ci.L1_eq]
 by_cases e:i= -1
 ·rw [bne_neg e,if_pos e]
 rw [bne_pos e,if_neg e,ci.L2_eq]
 by_cases h0:i<0
 ·rw [bd_pos h0,if_pos h0]
 rw [bd_neg h0,if_neg h0]
 by_cases h1:i≥next.length
 ·rw [bd_pos h1,if_pos h1]
 rw [bd_neg h1,if_neg h1,in_f (by omega),ob]
 by_cases hm:i∈acc
 ·rw [if_pos hm,decide_eq_true hm];rfl
 ·rw [if_neg hm,decide_eq_false hm,bf rfl,ci.L3_eq,lim_small (by decide) (by simp;omega),bd_pos (by omega)]
theorem free_f (next:List Int) (used:List Bool) (free:Int) (hn:next.length≤100):(∃l,Chain next free l∧l.Nodup∧ci.F (next,used,free,())=some (l,true,()))∨((¬∃l,Chain next free l∧l.Nodup)∧ci.F (next,used,free,())=some ([],false,())):=by
 have:=walk_gen (L:=fun i acc=>ci.L1 i next used free acc) hn (fun i acc ha=>free_step next used free hn i acc ha) next.length [] free (by simp) (by simp) (by simp)
 simpa [ci.F_eq] using this
theorem all_step (prev next:List Int) (head tail:Int) (hn:next.length≤100) (i:Int) (acc:List Int) (ha:acc.length≤100):cg.L1 i prev next head tail acc=if i= -1 then some (acc,true,()) else if i<0 then some ([],false,()) else if i≥next.length then some ([],false,()) else if i∈acc then some ([],false,()) else cg.L1 (next.getD i.toNat 0) prev next head tail (acc++[i]):=by
 conv=>lhs;rw [cg.L1_eq]
 by_cases e:i= -1
 ·rw [bne_neg e,if_pos e]
 rw [bne_pos e,if_neg e,cg.L2_eq]
 by_cases h0:i<0
 ·rw [bd_pos h0,if_pos h0]
 rw [bd_neg h0,if_neg h0]
 by_cases h1:i≥next.length
 ·rw [bd_pos h1,if_pos h1]
 rw [bd_neg h1,if_neg h1,in_f (by omega),ob]
 by_cases hm:i∈acc
 ·rw [if_pos hm,decide_eq_true hm];rfl
 ·rw [if_neg hm,decide_eq_false hm,bf rfl,cg.L3_eq,lim_small (by decide) (by simp;omega),bd_pos (by omega)]
theorem all_f (prev next:List Int) (head tail:Int) (hn:next.length≤100):(∃l,Chain next head l∧l.Nodup∧cg.F (prev,next,head,tail,())=some (l,true,()))∨((¬∃l,Chain next head l∧l.Nodup)∧cg.F (prev,next,head,tail,())=some ([],false,())):=by
 have:=walk_gen (L:=fun i acc=>cg.L1 i prev next head tail acc) hn (fun i acc ha=>all_step prev next head tail hn i acc ha) next.length [] head (by simp) (by simp) (by simp)
 simpa [cg.F_eq] using this
theorem rarena_says (next:List Int) (used:List Bool) (free:Int):Says (AOk next used free) (ay.F (next,used,free,())):=by
 rw [ay.F_eq]
 dsimp only
 by_cases hlow:(next.length:Int)<1
 ·rw [bd_pos hlow];exact .inr ⟨fun ⟨l,g⟩=>by have:=g.low;omega,rfl⟩
 by_cases hhigh:(next.length:Int)>16
 ·rw [bd_neg hlow,bd_pos hhigh];exact .inr ⟨fun ⟨l,g⟩=>by have:=g.high;omega,rfl⟩
 by_cases hsame:(used.length:Int)=(next.length:Int)
 ·rw [bd_neg hlow,bd_neg hhigh,bne_neg hsame,ay.L1_eq]
  rcases free_f next used free (by omega) with ⟨l,hc,hnd,e⟩|⟨hc,e⟩
  ·have hs:=nodup_le hnd hc.range
   rw [e,ob,bnt rfl,ay.L2_eq]
   refine Says.congr (P:=∀i,i<used.length→((used.getD i false=true↔¬(i:Int)∈l)∧(used.getD i false=true→next.getD i 0= -1))) ?_ ⟨fun h=>⟨l,by omega,by omega,by omega,hc,hnd,fun j hj=>(h j hj).1,fun j hj=>(h j hj).2⟩,fun ⟨l',g⟩ i hi=>?_⟩
   ·rcases loop_all (n:=used.length) (L:=fun i=>ay.L3 (i:Int) next used free l) (ok:=fun i=>((used.getD i false=true↔¬(i:Int)∈l)∧(used.getD i false=true→next.getD i 0= -1))) (stop:=some (8,())) (fun i hi=>by
     try dsimp only
     rw [ay.L3_eq,bd_pos (by omega),ay.L4_eq,bd_pos (by omega),in_f (by omega),ob]
     simp only [toNat_cast]
     have nxt:ay.L5 (i:Int) next used free l=ay.L3 ((i+1:Nat):Int) next used free l:=by
      rw [ay.L5_eq,W_eq (by omega) (by omega),cast_add1]
     by_cases u:used.getD i false=true
     ·by_cases m:(i:Int)∈l
      ·rw [u,decide_eq_true m];exact .inr ⟨fun h=>h.1.1 rfl m,rfl⟩
      ·rw [u,decide_eq_false m,bf (b:=true==false) rfl,bd_pos (by omega),bt rfl,bd_pos (by omega)]
       by_cases z:next.getD i 0= -1
       ·rw [bne_neg z,nxt];exact .inl ⟨⟨⟨fun _=>m,fun _=>rfl⟩,fun _=>z⟩,rfl⟩
       ·rw [bne_pos z];exact .inr ⟨fun h=>z (h.2 rfl),rfl⟩
     ·rw [bool_not u]
      by_cases m:(i:Int)∈l
      ·rw [decide_eq_true m,bf (b:=false==true) rfl,bd_pos (by omega),bf rfl,nxt]
       exact .inl ⟨⟨⟨fun h=>(by cases h),fun h=>absurd m h⟩,fun h=>(by cases h)⟩,rfl⟩
      ·rw [decide_eq_false m];exact .inr ⟨fun h=>(by cases h.1.2 m),rfl⟩) with ⟨h,e⟩|⟨h,e⟩
    ·refine .inl ⟨h,Eq.trans e ?_⟩
     try dsimp only
     rw [ay.L3_eq,bd_neg (by omega)]
    ·exact .inr ⟨h,e⟩
   ·obtain rfl:=hc.det g.chain
    exact ⟨g.mark i hi,g.end_ i hi⟩
  ·rw [e,ob,bnf rfl]
   exact .inr ⟨fun ⟨l,g⟩=>hc ⟨l,g.chain,g.nodup⟩,rfl⟩
 ·rw [bd_neg hlow,bd_neg hhigh,bne_pos hsame];exact .inr ⟨fun ⟨l,g⟩=>by have:=g.same;omega,rfl⟩
theorem count_f {x:List t3.den} (hx:x.length≤1000):bn.F x=some ((cnt x:Int),()):=by
 have h2:=loop_go (n:=x.length) (L:=fun i=>bn.L1 x (((x.take i).countP (·.2.2.1):Nat):Int) (i:Int)) (fun i hi=>by
  have hle:=cnt_le x i
  try dsimp only
  rw [bn.L1_eq,bd_pos (by omega),bn.L2_eq,bd_pos (by omega),take_cnt hi]
  by_cases u:(cl x (i:Int)).2.2.1=true
  ·rw [bt u,if_pos u,bn.L3_eq,W_eq (by omega) (by omega),W_eq (by omega) (by omega),cast_add1,cast_add1]
  ·rw [bf (bool_not u),if_neg u,bn.L3_eq,W_eq (x:=(i:Int)+1) (by omega) (by omega),cast_add1];rfl)
 try dsimp only at h2
 rw [List.take_of_length_le (Nat.le_refl _)] at h2
 have h3:bn.L1 x 0 0=bn.L1 x (cnt x:Int) (x.length:Int):=h2
 rw [bn.F_eq,h3,bn.L1_eq,bd_neg (by omega)]
theorem at_f {x:List t3.den} (hx:x.length≤1000) (key:Int):
  (∃i:Nat,i<x.length∧(cl x (i:Int)).2.2.1=true∧(cl x (i:Int)).1=key∧(∀j:Nat,j<i→¬((cl x (j:Int)).2.2.1=true∧(cl x (j:Int)).1=key))∧co.F x key=some ((i:Int),()))∨
  ((∀j:Nat,j<x.length→¬((cl x (j:Int)).2.2.1=true∧(cl x (j:Int)).1=key))∧co.F x key=some (-1,())):=by
 rw [co.F_eq]
 rcases find_loop (n:=x.length) (L:=fun i=>co.L1 x key (i:Int)) (p:=fun j:Nat=>(cl x (j:Int)).2.2.1=true∧(cl x (j:Int)).1=key) (hit:=fun i=>some ((i:Int),())) (miss:=some (-1,())) (fun i hi=>by
  try dsimp only
  have nxt:co.L3 x key (i:Int)=co.L1 x key ((i+1:Nat):Int):=by
   rw [co.L3_eq,W_eq (by omega) (by omega),cast_add1]
  rw [co.L1_eq,bd_pos (by omega),co.L2_eq,bd_pos (by omega)]
  by_cases u:(cl x (i:Int)).2.2.1=true
  ·rw [bt u,bd_pos (by omega)]
   by_cases e:(cl x (i:Int)).1=key
   ·rw [beq_pos e];exact .inl ⟨⟨u,e⟩,rfl⟩
   ·rw [beq_neg e,nxt];exact .inr ⟨fun h=>e h.2,rfl⟩
  ·rw [bf (bool_not u),nxt];exact .inr ⟨fun h=>u h.1,rfl⟩) (by
  try dsimp only
  rw [co.L1_eq,bd_neg (by omega)]) with ⟨i,hi,h1,h3,h2⟩|⟨h1,h2⟩
 ·exact .inl ⟨i,hi,h1.1,h1.2,h3,h2⟩
 ·exact .inr ⟨h1,h2⟩
theorem at_valid {x:List t3.den} (h:POk x) {i:Int} (h0:0≤i) (h1:i<16) (u:(cl x i).2.2.1=true):co.F x (cl x i).1=some (i,()):=by
 have hl:=h.len
 rcases at_f (x:=x) (by omega) (cl x i).1 with ⟨j,hj,v,e,_,f⟩|⟨n,_⟩
 ·rw [f,h.uniq (j:Int) i (by omega) (by omega) h0 h1 v u e]
 ·have:=n i.toNat (by omega)
  rw [show ((i.toNat:Nat):Int)=i by omega] at this
  exact absurd ⟨u,rfl⟩ this
def Keys (x:List t3.den):Prop:=∀i:Int,0≤i→i<x.length→0≤Z (cl x i).1∧Z (cl x i).1<4294967296
theorem rhome_f {key:Int} (h0:0≤key) (h1:key<4294967296):fi.F key=some (hm key,()):=by
 have e1:IntKind.wrap .u64 key=key:=by rw [IntKind.wrap_u64];omega
 have e2:IntKind.wrap .u64 (key*2654435769)=key*2654435769:=by rw [IntKind.wrap_u64];omega
 have e3:IntKind.wrap .u64 (hm key)=hm key:=by have:=hm_range key;rw [IntKind.wrap_u64];omega
 have e4:IntKind.wrap .i64 (hm key)=hm key:=by have:=hm_range key;exact W_eq (by omega) (by omega)
 rw [fi.F_eq,bd_pos (by decide),bd_pos (by decide),e1,e2,Int.tmod_eq_emod_of_nonneg (by omega),Int.tdiv_eq_ediv_of_nonneg (by omega)]
 show some (IntKind.wrap .i64 (IntKind.wrap .u64 (hm key)),())=_
 rw [e3,e4]
def RefOk (x:List t3.den) (i:Int):Prop:=
 ((cl x i).2.2.1=false→cl x i=(0,0,false,()))∧
 ((cl x i).2.2.1=true→0≤Z (cl x i).2.1∧Z (cl x i).2.1<16∧co.F x (cl x i).1=some (i,())∧
  ∀e:Nat,(e:Int)<(i - hm (cl x i).1) % 16→(cl x ((hm (cl x i).1+e) % 16)).2.2.1=true)
theorem ref_of_valid {x:List t3.den} (h:POk x) (i:Int) (h0:0≤i) (h1:i<16):RefOk x i:=
 ⟨h.zero i h0 h1,fun u=>⟨(h.place i h0 h1 u).1,(h.place i h0 h1 u).2,at_valid h h0 h1 u,h.path i h0 h1 u⟩⟩
theorem valid_of_ref {x:List t3.den} (hx:x.length=16) (hc:cnt x≤12) (h:∀i:Int,0≤i→i<16→RefOk x i):POk x where
 len:=hx
 few:=hc
 zero i h0 h1:=(h i h0 h1).1
 place i h0 h1 u:=⟨((h i h0 h1).2 u).1,((h i h0 h1).2 u).2.1⟩
 uniq i j h0 h1 g0 g1 u v hk:=by
  have a:=((h i h0 h1).2 u).2.2.1
  have b:=((h j g0 g1).2 v).2.2.1
  rw [hk,b] at a
  exact (congrArg Prod.fst (Option.some.inj a)).symm
 path i h0 h1 u e he:=((h i h0 h1).2 u).2.2.2 e he
theorem rpath {x:List t3.den} (hx:x.length=16) {i:Nat} {h:Int} (h1:i<16) (g0:0≤h) (g1:h<16):
  ((∀e:Nat,(e:Int)<((i:Int) - h) % 16→(cl x ((h+e) % 16)).2.2.1=true)∧aa.L7 x (i:Int) h=aa.L2 x ((i+1:Nat):Int))∨
  ((¬∀e:Nat,(e:Int)<((i:Int) - h) % 16→(cl x ((h+e) % 16)).2.2.1=true)∧aa.L7 x (i:Int) h=some (8,())):=by
 rcases loop_all (n:=(((i:Int) - h) % 16).toNat) (L:=fun e=>aa.L7 x (i:Int) ((h+(e:Int)) % 16)) (ok:=fun e=>(cl x ((h+(e:Int)) % 16)).2.2.1=true) (stop:=some (8,())) (fun e he=>by
  try dsimp only
  rw [aa.L7_eq,bne_pos (by omega),aa.L8_eq,bd_pos (by omega)]
  by_cases u:(cl x ((h+(e:Int)) % 16)).2.2.1=true
  ·rw [bnt u,aa.L9_eq,bd_pos (by decide),W_eq (by omega) (by omega),Int.tmod_eq_emod_of_nonneg (by omega),next_pos]
   exact .inl ⟨u,rfl⟩
  ·rw [bnf (bool_not u)];exact .inr ⟨u,rfl⟩) with ⟨a,e⟩|⟨a,e⟩
 ·left
  refine ⟨fun e he=>a e (by omega),?_⟩
  try dsimp only at e
  rw [show (h+((0:Nat):Int)) % 16=h by omega,show (h+(((((i:Int) - h) % 16).toNat:Nat):Int)) % 16=(i:Int) by omega] at e
  rw [e,aa.L7_eq,bne_neg rfl,W_eq (by omega) (by omega),cast_add1]
 ·right
  refine ⟨fun h2=>a fun e he=>h2 e (by omega),?_⟩
  try dsimp only at e
  rw [show (h+((0:Nat):Int)) % 16=h by omega] at e
  exact e
theorem rprobe_says {x:List t3.den} (hk:Keys x) (hl:x.length≤1000):Says (POk x) (aa.F x):=by
 rw [aa.F_eq]
 by_cases hx:(x.length:Int)=16
 ·have hx':x.length=16:=by omega
  rw [bne_neg hx,count_f hl,ob]
  by_cases hc:cnt x≤12
  ·rw [bd_neg (by dsimp only;omega),aa.L1_eq]
   rcases loop_all (n:=16) (L:=fun i=>aa.L2 x (i:Int)) (ok:=fun i=>RefOk x (i:Int)) (stop:=some (8,())) (fun i hi=>by
    try dsimp only
    rw [aa.L2_eq,bd_pos (by omega),aa.L3_eq,bd_pos (by omega)]
    by_cases u:(cl x (i:Int)).2.2.1=true
    ·have nz:¬((cl x (i:Int)).2.2.1=false):=by rw [u];simp
     rw [bnt u,aa.L5_eq,bd_pos (by omega)]
     by_cases p0:Z (cl x (i:Int)).2.1<0
     ·rw [bd_pos (by exact p0)];exact .inr ⟨fun hc=>by have:=(hc.2 u).1;omega,rfl⟩
     by_cases p1:Z (cl x (i:Int)).2.1≥16
     ·rw [bd_neg (by exact p0),bd_pos (by omega),bd_pos (by exact p1)];exact .inr ⟨fun hc=>by have:=(hc.2 u).2.1;omega,rfl⟩
     rw [bd_neg (by exact p0),bd_pos (by omega),bd_neg (by exact p1),bd_pos (by omega)]
     have hr:=hm_range (cl x (i:Int)).1
     have ki:=hk (i:Int) (by omega) (by omega)
     rcases at_f (x:=x) (by omega) (cl x (i:Int)).1 with ⟨j,hj,v,e,_,f⟩|⟨n,f⟩
     ·rw [f,ob]
      by_cases q:(j:Int)=(i:Int)
      ·rw [bne_neg q,aa.L6_eq,bd_pos (by omega),rhome_f ki.1 ki.2,ob]
       rcases rpath hx' hi hr.1 hr.2 with ⟨a,b⟩|⟨a,b⟩
       ·refine .inl ⟨⟨fun uf=>absurd uf nz,fun _=>⟨by omega,by omega,by rw [f,q],a⟩⟩,b⟩
       ·exact .inr ⟨fun h=>a (h.2 u).2.2.2,b⟩
      ·rw [bne_pos q]
       refine .inr ⟨fun h=>q ?_,rfl⟩
       have:=(h.2 u).2.2.1
       rw [f] at this
       exact congrArg Prod.fst (Option.some.inj this)
     ·exact absurd ⟨u,rfl⟩ (n i (by omega))
    ·have uf:=bool_not u
     rw [bnf uf,bd_pos (by omega)]
     by_cases z:cl x (i:Int)=(0,0,false,())
     ·rw [nbeq_neg z,aa.L4_eq,W_eq (by omega) (by omega),cast_add1]
      exact .inl ⟨⟨fun _=>z,fun ut=>absurd ut u⟩,rfl⟩
     ·rw [nbeq_pos z];exact .inr ⟨fun hc=>z (hc.1 uf),rfl⟩) with ⟨a,e⟩|⟨a,e⟩
   ·refine .inl ⟨valid_of_ref hx' hc fun i h0 h1=>?_,Eq.trans e ?_⟩
    ·have:=a i.toNat (by omega)
     rw [show ((i.toNat:Nat):Int)=i by omega] at this
     exact this
    ·try dsimp only
     rw [aa.L2_eq,bd_neg (by decide)]
   ·exact .inr ⟨fun h=>a fun i hi=>ref_of_valid h i (by omega) (by omega),e⟩
  ·rw [bd_pos (by dsimp only;omega)];exact .inr ⟨fun h=>hc h.few,rfl⟩
 ·rw [bne_pos hx];exact .inr ⟨fun h=>hx (by rw [h.len];rfl),rfl⟩
theorem rlimit_says (l:t0.den):Says (LimOk l) (cf.F l):=by
 rw [cf.F_eq]
 exact .guard fun _=> .guard fun _=> .guard fun _=> .guard fun _=> .guard fun _=> .guard fun _=>by rw [cf.L1_eq];exact .done
theorem rbucket_says (b:t1.den):Says (BktOk b) (da.F b):=by
 rw [da.F_eq]
 refine (rlimit_says b.1).call (fun hl=>?_) rfl
 rw [bne_neg rfl]
 refine .guard fun a=>?_
 refine Says.congr (P:=¬Z b.2.1>Z b.1.1∧_) (.guard fun c=> .guard fun pz=> .guard fun _=>?_) (and_congr ⟨fun h=>by omega,fun h=>by omega⟩ Iff.rfl)
 have pz:¬Z b.2.2.1<0:=pz
 by_cases z:Z b.2.1=Z b.1.1
 ·rw [beq_pos (by exact z)]
  by_cases w:Z b.2.2.1=0
  ·rw [bne_neg (by exact w),da.L1_eq];exact .inl ⟨fun _=>by omega,rfl⟩
  ·rw [bne_pos (by exact w)];exact .inr ⟨fun h=>by have:=h (by omega);omega,rfl⟩
 ·rw [beq_neg (by exact z),da.L1_eq];exact .inl ⟨fun h=>absurd h (by omega),rfl⟩
end Go.Proofs.YtkihjakbbcajbaaGreat.TB
namespace Go.Proofs.YtkihjakbbcajbaaGreat.TB
set_option linter.unusedSimpArgs false
set_option linter.unusedVariables false
open Go Go.Proofs Go.Proofs.YtkihjakbbcajbaaGreat.PM Go.Proofs.YtkihjakbbcajbaaGreat.RP
theorem ext_getD {α:Type} {a b:List α} {d:α} (h:a.length=b.length) (k:∀i:Nat,i<a.length→a.getD i d=b.getD i d):a=b:=by
 refine List.ext_getElem h fun i h1 h2=>?_
 have:=k i h1
 rw [getD_get h1,getD_get h2] at this
 exact this
theorem sameInts_f {a b:List Int} (ha:a.length≤1000):ax.F a b=some (decide (a=b),()):=by
 rw [ax.F_eq]
 by_cases hl:(a.length:Int)=(b.length:Int)
 ·rw [bne_neg hl,ax.L1_eq]
  rcases loop_all (n:=a.length) (L:=fun i=>ax.L2 a b (i:Int)) (ok:=fun i=>a.getD i 0=b.getD i 0) (stop:=some (false,())) (fun i hi=>by
   try dsimp only
   rw [ax.L2_eq,bd_pos (by omega),ax.L3_eq,bd_pos (by omega),bd_pos (by omega)]
   simp only [toNat_cast]
   by_cases e:a.getD i 0=b.getD i 0
   ·rw [bne_neg e,ax.L4_eq,W_eq (by omega) (by omega),cast_add1];exact .inl ⟨e,rfl⟩
   ·rw [bne_pos e];exact .inr ⟨e,rfl⟩) with ⟨h,e⟩|⟨h,e⟩
  ·refine Eq.trans e ?_
   try dsimp only
   rw [ax.L2_eq,bd_neg (by omega),decide_eq_true (ext_getD (by omega) h)]
  ·refine Eq.trans e ?_
   rw [decide_eq_false]
   rintro rfl
   exact h fun _ _=>rfl
 ·rw [bne_pos hl,decide_eq_false]
  rintro rfl
  exact hl rfl
theorem same15_f {p q:List Int} {p' q':List Int} {h t h' t':Int} (hp:p.length≤1000) (hq:q.length≤1000):
  fb.F (p,q,h,t,()) (p',q',h',t',())=some (decide (p=p'∧q=q'∧h=h'∧t=t'),()):=by
 rw [fb.F_eq]
 dsimp only
 rw [sameInts_f hp,ob]
 by_cases e1:p=p'
 ·rw [decide_eq_true e1,bt rfl,sameInts_f hq,ob]
  by_cases e2:q=q'
  ·rw [decide_eq_true e2,bt rfl]
   by_cases e3:h=h'
   ·rw [beq_pos e3]
    by_cases e4:t=t'
    ·rw [decide_eq_true ⟨e1,e2,e3,e4⟩,e4,beq_self_eq_true]
    ·rw [decide_eq_false (fun h=>e4 h.2.2.2),show (t==t')=false by simpa using e4]
   ·rw [beq_neg e3,decide_eq_false (fun h=>e3 h.2.2.1)]
  ·rw [decide_eq_false e2,bf rfl,decide_eq_false (fun h=>e2 h.2.1)]
 ·rw [decide_eq_false e1,bf rfl,decide_eq_false (fun h=>e1 h.1)]
theorem take_snoc {l:List Int} {i:Nat} (h:i<l.length):l.take (i+1)=l.take i++[l.getD i 0]:=by
 rw [getD_get h,List.take_append_getElem h]
theorem Ok.take {n:Nat} {l:List Int} (h:Ok n l) (i:Nat):Ok n (l.take i):=
 ⟨h.1.sublist (List.take_sublist i l),fun x hx=>h.2 x (List.mem_of_mem_take hx)⟩
theorem lst_snoc (c:Int) (A:List Int) (y:Int):lst c (A++[y])=y:=by rw [lst_app];rfl
theorem made_f {n:Nat} {l:List Int} (hn:n≤100) (h:Ok n l):aq.F (n:Int) l=some ((PV n l,NX n l,hd (-1) l,lst (-1) l,()),()):=by
 have hl:=h.len
 have h1:=loop_go (n:=n) (L:=fun i=>aq.L1 (n:Int) l (i:Int) [] (List.replicate i (-1))) (fun i hi=>by
  try dsimp only
  rw [aq.L1_eq,bd_pos (by omega),aq.L2_eq,lim_small (by decide) (by simp;omega),lim_small (by decide) (by simp;omega),W_eq (by omega) (by omega),cast_add1,List.replicate_succ'])
 have h1:aq.L1 (n:Int) l 0 [] []=aq.L1 (n:Int) l (n:Int) [] (List.replicate n (-1)):=h1
 have e0:List.replicate n (-1)=PV n []:=(row_nil n).symm
 have e1:List.replicate n (-1)=NX n []:=(row_nil n).symm
 rw [aq.F_eq,h1,aq.L1_eq,bd_neg (by omega)]
 have h2:=loop_go (n:=l.length) (L:=fun i=>aq.L3 l (i:Int) (hd (-1) (l.take i)) (lst (-1) (l.take i)) [] (PV n (l.take i)) (NX n (l.take i))) (fun i hi=>by
  have ht:=h.take (i+1)
  rw [take_snoc hi] at ht
  have hm:l.getD i 0∈l:=by rw [getD_get hi];exact List.getElem_mem hi
  have hr:=h.2 _ hm
  try dsimp only
  rw [aq.L3_eq,bd_pos (by omega),aq.L4_eq,take_snoc hi]
  have nxt:∀(a b:Int) (p q:List Int),aq.L5 l (i:Int) a b [] p q=aq.L3 l ((i+1:Nat):Int) a (l.getD i 0) [] p q:=fun a b p q=>by
   rw [aq.L5_eq,bd_pos (by omega),W_eq (by omega) (by omega),cast_add1,toNat_cast]
  by_cases i0:i=0
  ·subst i0
   rw [beq_pos (show ((0:Nat):Int)=0 from rfl),bd_pos (by omega),nxt]
   rw [List.take_zero,List.nil_append,PV_one,NX_one]
   rfl
  ·have hi1:i - 1<l.length:=by omega
   have hm1:l.getD (i - 1) 0∈l:=by rw [getD_get hi1];exact List.getElem_mem hi1
   have hr1:=h.2 _ hm1
   have hne:l.take i≠[]:=by
    intro e
    have h9:=List.length_take (i:=i) (l:=l)
    rw [e,List.length_nil] at h9
    omega
   have hlast:lst (-1) (l.take i)=l.getD (i - 1) 0:=by
    have:=take_snoc hi1
    rw [show i - 1+1=i by omega] at this
    rw [this,lst_snoc]
   rw [beq_neg (by omega),bd_pos (by omega),W_eq (by omega) (by omega),bd_pos (by omega)]
   simp only [toNat_cast,toNat_sub1 (Nat.pos_of_ne_zero i0)]
   rw [PV_len,NX_len,bd_pos (by omega),bd_pos (by omega),bd_pos (by omega),bd_pos (by omega),nxt,PV_snoc ht,NX_snoc ht hne,hlast,lst_snoc,hd_app]
   congr 1
   generalize l.take i=A at hne
   cases A with
   |nil=>exact absurd rfl hne
   |cons a A=>rfl)
 have h2:aq.L3 l 0 (-1) (-1) [] (PV n []) (NX n [])=aq.L3 l (l.length:Int) (hd (-1) (l.take l.length)) (lst (-1) (l.take l.length)) [] (PV n (l.take l.length)) (NX n (l.take l.length)):=h2
 rw [List.take_of_length_le (Nat.le_refl _)] at h2
 conv=>lhs;rw [e0]
 conv=>lhs;arg 7;rw [←e0,e1]
 rw [h2,aq.L3_eq,bd_neg (by omega)]
theorem rlru_says (prev next:List Int) (head tail:Int):Says (OOk prev next head tail) (cz.F (prev,next,head,tail,())):=by
 rw [cz.F_eq]
 dsimp only
 by_cases hlow:(prev.length:Int)<1
 ·rw [bd_pos hlow];exact .inr ⟨fun ⟨l,g⟩=>by have:=g.low;omega,rfl⟩
 by_cases hhigh:(prev.length:Int)>16
 ·rw [bd_neg hlow,bd_pos hhigh];exact .inr ⟨fun ⟨l,g⟩=>by have:=g.high;omega,rfl⟩
 by_cases hsame:(next.length:Int)=(prev.length:Int)
 ·rw [bd_neg hlow,bd_neg hhigh,bne_neg hsame,cz.L1_eq]
  rcases all_f prev next head tail (by omega) with ⟨l,hc,hnd,e⟩|⟨hc,e⟩
  ·have ok:Ok prev.length l:=⟨hnd,fun x hx=>by have:=hc.range x hx;omega⟩
   rw [e,ob,bnt rfl,made_f (by omega) ok,ob,same15_f (by omega) (by omega),ob]
   by_cases q:prev=PV prev.length l∧next=NX prev.length l∧head=hd (-1) l∧tail=lst (-1) l
   ·rw [decide_eq_true q,bnt rfl,cz.L2_eq]
    have g:=OGood.of (n:=prev.length) (by omega) (by omega) ok
    rw [←q.1,←q.2.1,←q.2.2.1,←q.2.2.2] at g
    exact .inl ⟨⟨l,g⟩,rfl⟩
   ·rw [decide_eq_false q,bnf rfl]
    refine .inr ⟨fun ⟨l',g⟩=>q ?_,rfl⟩
    obtain rfl:=hc.det g.both.chain
    exact g.made
  ·rw [e,ob,bnf rfl]
   exact .inr ⟨fun ⟨l,g⟩=>hc ⟨l,g.both.chain,g.nodup⟩,rfl⟩
 ·rw [bd_neg hlow,bd_neg hhigh,bne_pos hsame];exact .inr ⟨fun ⟨l,g⟩=>by have:=g.same;omega,rfl⟩
theorem all_good {prev next:List Int} {head tail:Int} {l:List Int} (g:OGood prev next head tail l):cg.F (prev,next,head,tail,())=some (l,true,()):=by
 rcases all_f prev next head tail (by have:=g.high;have:=g.same;omega) with ⟨l',hc,hnd,e⟩|⟨hc,e⟩
 ·rw [e,hc.det g.both.chain]
 ·exact absurd ⟨l,g.both.chain,g.nodup⟩ hc
noncomputable def cn (x:List t3.den) (p:Int):Nat:=x.countP fun c=>c.2.2.1 && decide (c.2.1=p)
noncomputable def keyed (x:List t3.den) (p key:Int):Bool:=x.all fun c=>!(c.2.2.1 && decide (c.2.1=p))||decide (c.1=key)
theorem cells_f {x:List t3.den} (hx:x.length≤1000) (p key:Int):bq.F x p key=some ((cn x p:Int),keyed x p key,()):=by
 have h2:=loop_go (n:=x.length) (L:=fun i=>bq.L1 x p key (((x.take i).countP (fun c=>c.2.2.1 && decide (c.2.1=p)):Nat):Int) ((x.take i).all fun c=>!(c.2.2.1 && decide (c.2.1=p))||decide (c.1=key)) (i:Int)) (fun i hi=>by
  have hle:(x.take i).countP (fun c=>c.2.2.1 && decide (c.2.1=p))≤x.length:=by
   have:=List.countP_le_length (p:=fun c:t3.den=>c.2.2.1 && decide (c.2.1=p)) (l:=x.take i)
   have:=List.length_take_le' i x
   omega
  try dsimp only
  rw [bq.L1_eq,bd_pos (by omega),bq.L2_eq,bd_pos (by omega)]
  have nxt:∀(n:Int) (b:Bool),bq.L3 x p key n b (i:Int)=bq.L1 x p key n b ((i+1:Nat):Int):=fun n b=>by
   rw [bq.L3_eq,W_eq (by omega) (by omega),cast_add1]
  rw [←List.take_append_getElem hi,List.countP_append,List.all_append,←cl_get hi]
  simp only [List.countP_cons,List.countP_nil,List.all_cons,List.all_nil,Bool.and_true,Nat.zero_add]
  by_cases u:(cl x (i:Int)).2.2.1=true
  ·rw [bt u,bd_pos (by omega),u,Bool.true_and]
   by_cases e:(cl x (i:Int)).2.1=p
   ·rw [beq_pos e,decide_eq_true e,if_pos rfl,Bool.not_true,Bool.false_or,W_eq (by omega) (by omega),cast_add1,bd_pos (by omega),nxt,nxt]
    cases (x.take i).all fun c=>!(c.2.2.1 && decide (c.2.1=p))||decide (c.1=key)
    ·rfl
    ·rfl
   ·rw [beq_neg e,decide_eq_false e,if_neg (by decide),Bool.not_false,Bool.true_or,Bool.and_true,nxt];rfl
  ·rw [bf (bool_not u),bool_not u,Bool.false_and,if_neg (by decide),Bool.not_false,Bool.true_or,Bool.and_true,nxt];rfl)
 try dsimp only at h2
 rw [List.take_of_length_le (Nat.le_refl _)] at h2
 have h3:bq.L1 x p key 0 true 0=bq.L1 x p key (cn x p:Int) (keyed x p key) (x.length:Int):=h2
 rw [bq.F_eq,h3,bq.L1_eq,bd_neg (by omega)]
noncomputable def plc (x:List t3.den):List Int:=(x.filter (·.2.2.1)).map fun c=>c.2.1
theorem plc_len (x:List t3.den):(plc x).length=cnt x:=by
 unfold plc cnt
 rw [List.length_map,List.countP_eq_length_filter]
theorem plc_count (x:List t3.den) (p:Int):(plc x).count p=cn x p:=by
 unfold plc cn
 rw [List.count,List.countP_map,List.countP_filter]
 refine List.countP_congr fun c _=>?_
 simp only [Function.comp,Bool.and_eq_true,decide_eq_true_eq,beq_iff_eq]
 exact And.comm
theorem mem_plc {x:List t3.den} (hx:x.length=16) {p:Int}:p∈plc x↔∃j:Int,0≤j∧j<16∧(cl x j).2.2.1=true∧(cl x j).2.1=p:=by
 unfold plc
 rw [List.mem_map]
 constructor
 ·rintro ⟨c,hc,e⟩
  obtain ⟨hc,u⟩:=List.mem_filter.1 hc
  obtain ⟨i,hi,rfl⟩:=List.mem_iff_getElem.1 hc
  exact ⟨(i:Int),by omega,by omega,by rw [cl_get hi];exact u,by rw [cl_get hi];exact e⟩
 ·rintro ⟨j,h0,h1,u,e⟩
  have hj:j.toNat<x.length:=by omega
  have e2:=cl_get hj
  rw [show ((j.toNat:Nat):Int)=j by omega] at e2
  exact ⟨cl x j,List.mem_filter.2 ⟨by rw [e2];exact List.getElem_mem hj,u⟩,e⟩
def RefRow (keys:List Int) (bks:List t1.den) (used:List Bool) (x:List t3.den) (l:List Int) (i:Nat):Prop:=
 (used.getD i false=true↔(i:Int)∈l)∧(used.getD i false=true↔cn x (i:Int)=1)∧keyed x (i:Int) (keys.getD i 0)=true∧
 (used.getD i false=true→BktOk (bks.getD i b0_))∧(used.getD i false=false→keys.getD i 0=0∧bks.getD i b0_=b0_)
theorem rows_iff {keys:List Int} {bks:List t1.den} {used:List Bool} {x:List t3.den} {l:List Int} (hx:POk x) (hn:l.Nodup) (hr:∀y∈l,0≤y∧y<used.length):
  ((∀i:Nat,i<used.length→RowOk keys bks used x l i)∧used.countP id=cnt x)↔(cnt x=l.length∧∀i:Nat,i<used.length→RefRow keys bks used x l i):=by
 constructor
 ·rintro ⟨h,hc⟩
  have hcl:=count_mem hn hr (fun i hi=>(h i hi).1)
  have hS:=count_of_sub (U:=l) (S:=plc x) hn (fun y hy=>by
   have hy2:=hr y hy
   have ey:((y.toNat:Nat):Int)=y:=by omega
   have hro:=h y.toNat (by omega)
   rw [RowOk,ey] at hro
   obtain ⟨⟨j,h0,h1,u,e,f⟩,_⟩:=hro.2.2 (hro.1.2 hy)
   exact (mem_plc hx.len).2 ⟨j,h0,h1,u,f⟩) (by rw [plc_len];omega)
  refine ⟨by omega,fun i hi=>?_⟩
  obtain ⟨a,b,c⟩:=h i hi
  have hcn:cn x (i:Int)=l.count (i:Int):=by rw [←plc_count];exact hS _
  have hle:∀p,l.count p≤1:=List.nodup_iff_count.1 hn
  refine ⟨a,?_,?_,fun u=>(c u).2,b⟩
  ·rw [a,hcn,←List.count_pos_iff]
   have:=hle (i:Int)
   omega
  ·unfold keyed
   rw [List.all_eq_true]
   intro y hy
   by_cases w:y.2.2.1=true∧y.2.1=(i:Int)
   ·have hp:(i:Int)∈plc x:=List.mem_map.2 ⟨y,List.mem_filter.2 ⟨hy,w.1⟩,w.2⟩
    have hil:(i:Int)∈l:=by
     have:=List.count_pos_iff.2 hp
     rw [hS] at this
     exact List.count_pos_iff.1 this
    obtain ⟨⟨j,h0,h1,u,e,f⟩,_⟩:=c (a.2 hil)
    have hj:j.toNat<x.length:=by rw [hx.len];omega
    have e2:=cl_get hj
    rw [show ((j.toNat:Nat):Int)=j by omega] at e2
    have hndp:(plc x).Nodup:=nodup_of_count fun p=>by rw [hS];exact hle p
    have:=inj_of_nodup_map hndp y (List.mem_filter.2 ⟨hy,w.1⟩) (cl x j) (List.mem_filter.2 ⟨by rw [e2];exact List.getElem_mem hj,u⟩) (w.2.trans f.symm)
    rw [this,decide_eq_true e,Bool.or_true]
   ·have:(y.2.2.1 && decide (y.2.1=(i:Int)))=false:=by
     apply bool_not
     rw [Bool.and_eq_true,decide_eq_true_eq]
     exact w
    rw [this];rfl
 ·rintro ⟨hc,h⟩
  refine ⟨fun i hi=>?_,by rw [hc];exact count_mem hn hr fun i hi=>(h i hi).1⟩
  obtain ⟨a,b,c,d,e⟩:=h i hi
  refine ⟨a,e,fun u=>⟨?_,d u⟩⟩
  have h1:=b.1 u
  rw [←plc_count] at h1
  have hp:(i:Int)∈plc x:=List.count_pos_iff.1 (by omega)
  obtain ⟨j,h0,h1,v,f⟩:=(mem_plc hx.len).1 hp
  refine ⟨j,h0,h1,v,?_,f⟩
  unfold keyed at c
  rw [List.all_eq_true] at c
  have hj:j.toNat<x.length:=by rw [hx.len];omega
  have e2:=cl_get hj
  rw [show ((j.toNat:Nat):Int)=j by omega] at e2
  have:=c (cl x j) (by rw [e2];exact List.getElem_mem hj)
  rw [v,decide_eq_true f] at this
  simpa using this
theorem rtable_l4 {cap:Int} {keys:List Int} {bks:List t1.den} {next:List Int} {used:List Bool} {free:Int} {x:List t3.den} {prev nxt:List Int} {head tail:Int} {l:List Int}
  (hcap:cap=(used.length:Int)) (hk:keys.length=used.length) (hb:bks.length=used.length) (hu:used.length≤8) (hx:x.length≤1000) (hl:l.length≤16):
  Says (∀i:Nat,i<used.length→RefRow keys bks used x l i) (ae.L4 0 cap keys bks next used free x prev nxt head tail l):=by
 rcases loop_all (n:=used.length) (L:=fun i=>ae.L4 (i:Int) cap keys bks next used free x prev nxt head tail l) (ok:=RefRow keys bks used x l) (stop:=some (8,())) (fun i hi=>by
  have nxt_:ae.L8 (i:Int) cap keys bks next used free x prev nxt head tail l=ae.L4 ((i+1:Nat):Int) cap keys bks next used free x prev nxt head tail l:=by
   rw [ae.L8_eq,W_eq (by omega) (by omega),cast_add1]
  try dsimp only
  rw [ae.L4_eq,bd_pos (by omega),ae.L5_eq,bd_pos (by omega),cells_f hx,ob,bd_pos (by omega),in_f (by omega),ob]
  simp only [toNat_cast]
  by_cases a:used.getD i false=true↔(i:Int)∈l
  ·have ea:(used.getD i false==decide ((i:Int)∈l))=true:=by
    rw [beq_iff_eq,Bool.eq_iff_iff,decide_eq_true_eq];exact a
   rw [bnt ea,bd_pos (by omega)]
   by_cases b:used.getD i false=true↔cn x (i:Int)=1
   ·have eb:(used.getD i false==(((cn x (i:Int):Nat):Int)==1))=true:=by
     rw [beq_iff_eq,Bool.eq_iff_iff,beq_iff_eq];rw [b];omega
    rw [bnt eb]
    by_cases c:keyed x (i:Int) (keys.getD i 0)=true
    ·rw [bnt c,ae.L6_eq,bd_pos (by omega)]
     simp only [toNat_cast]
     by_cases u:used.getD i false=true
     ·rw [bt u,bd_pos (by omega)]
      rcases rbucket_says (bks.getD i b0_) with ⟨ok,f⟩|⟨ok,f⟩
      ·rw [f,ob,bne_neg rfl,ae.L7_eq,bd_pos (by omega),toNat_cast,bnt u,nxt_]
       exact .inl ⟨⟨a,b,c,fun _=>ok,fun h=>(by rw [u] at h;cases h)⟩,rfl⟩
      ·rw [f,ob,bne_pos (by decide)];exact .inr ⟨fun h=>ok (h.2.2.2.1 u),rfl⟩
     ·have uf:=bool_not u
      rw [bf uf,ae.L7_eq,bd_pos (by omega)]
      simp only [toNat_cast]
      rw [bnf uf,bd_pos (by omega)]
      by_cases k0:keys.getD i 0=0
      ·rw [bne_neg k0,bd_pos (by omega)]
       by_cases z:bks.getD i b0_=b0_
       ·rw [nbeq_neg z,nxt_]
        exact .inl ⟨⟨a,b,c,fun h=>absurd h u,fun _=>⟨k0,z⟩⟩,rfl⟩
       ·rw [nbeq_pos z];exact .inr ⟨fun h=>z (h.2.2.2.2 uf).2,rfl⟩
      ·rw [bne_pos k0];exact .inr ⟨fun h=>k0 (h.2.2.2.2 uf).1,rfl⟩
    ·rw [bnf (bool_not c)];exact .inr ⟨fun h=>c h.2.2.1,rfl⟩
   ·have eb:(used.getD i false==(((cn x (i:Int):Nat):Int)==1))=false:=by
     apply bool_not
     rw [beq_iff_eq,Bool.eq_iff_iff,beq_iff_eq]
     intro h
     exact b (h.trans (by omega))
    rw [bnf eb];exact .inr ⟨fun h=>b h.2.1,rfl⟩
  ·have ea:(used.getD i false==decide ((i:Int)∈l))=false:=by
    apply bool_not
    rw [beq_iff_eq,Bool.eq_iff_iff,decide_eq_true_eq];exact a
   rw [bnf ea];exact .inr ⟨fun h=>a h.1,rfl⟩) with ⟨h,e⟩|⟨h,e⟩
 ·refine .inl ⟨h,Eq.trans e ?_⟩
  try dsimp only
  rw [ae.L4_eq,bd_neg (by omega)]
 ·exact .inr ⟨h,e⟩
theorem rtable_says (t:t5.den) (hk:Keys t.2.2.2.2.1) (hl:t.2.2.2.2.1.length≤1000):Says (TOk t) (ae.F t):=by
 obtain ⟨cap,keys,bks,⟨next,used,free,⟨⟩⟩,x,⟨prev,nxt,head,tail,⟨⟩⟩,⟨⟩⟩:=t
 rw [ae.F_eq]
 dsimp only at hk hl ⊢
 refine Says.congr (P:=¬(Z cap<1)∧¬(Z cap>8)∧((keys.length:Int)=Z cap)∧((bks.length:Int)=Z cap)∧((next.length:Int)=Z cap)∧((prev.length:Int)=Z cap)∧AOk next used free∧POk x∧OOk prev nxt head tail∧∃l,OGood prev nxt head tail l∧cnt x=l.length∧∀i:Nat,i<used.length→RefRow keys bks used x l i) ?_ ?_
 ·refine .guard fun c0=> .guard fun c1=> .neq fun s1=> .neq fun s2=> .neq fun s3=> .neq fun s4=>?_
  have c0:¬Z cap<1:=c0
  have c1:¬Z cap>8:=c1
  have s1:(keys.length:Int)=Z cap:=s1
  have s2:(bks.length:Int)=Z cap:=s2
  have s3:(next.length:Int)=Z cap:=s3
  have s4:(prev.length:Int)=Z cap:=s4
  rw [ae.L1_eq]
  refine (rarena_says next used free).call (fun ha=>?_) rfl
  rw [bne_neg rfl]
  refine (rprobe_says hk hl).call (fun hp=>?_) rfl
  rw [bne_neg rfl]
  refine (rlru_says prev nxt head tail).call (fun ho=>?_) rfl
  rw [bne_neg rfl,ae.L2_eq]
  obtain ⟨l,g⟩:=ho
  have hs:=g.short
  have hlen:used.length=next.length:=by obtain ⟨_,g⟩:=ha;exact g.same
  rw [all_good g,ob,count_f hl,ob]
  by_cases e:cnt x=l.length
  ·rw [bne_neg (by exact congrArg Nat.cast e),ae.L3_eq]
   refine (rtable_l4 (cap:=cap) (next:=next) (free:=free) (prev:=prev) (nxt:=nxt) (head:=head) (tail:=tail) (show Z cap=_ by omega) (by omega) (by omega) (by omega) hl hs).congr ⟨fun h=>⟨l,g,e,h⟩,fun ⟨l',g',_,h⟩=>?_⟩
   obtain rfl:=g.det g'
   exact h
  ·rw [bne_pos (by dsimp only;omega)]
   refine .inr ⟨fun ⟨l',g',h,_⟩=>?_,rfl⟩
   obtain rfl:=g.det g'
   exact e h
 ·have key:∀l,OGood prev nxt head tail l→AOk next used free→POk x→((prev.length:Int)=Z cap)→((next.length:Int)=Z cap)→(((∀i:Nat,i<used.length→RowOk keys bks used x l i)∧used.countP id=cnt x)↔(cnt x=l.length∧∀i:Nat,i<used.length→RefRow keys bks used x l i)):=fun l g ha hp h1 h2=>
   rows_iff hp g.nodup (fun y hy=>by
    have:=g.ok.2 y hy
    obtain ⟨_,ga⟩:=ha
    have:=ga.same
    omega)
  constructor
  ·rintro ⟨c0,c1,s1,s2,s3,s4,ha,hp,_,l,g,h⟩
   have:=(key l g ha hp s4 s3).2 h
   exact ⟨l,Int.not_lt.1 c0,Int.not_lt.1 c1,s1,s2,s3,s4,ha,hp,g,this.1,this.2⟩
  ·rintro ⟨l,g⟩
   exact ⟨Int.not_lt.2 g.low,Int.not_lt.2 g.high,g.nkeys,g.nbks,g.nnext,g.nprev,g.arena,g.index,⟨l,g.order⟩,l,g.order,(key l g.order g.arena g.index g.nprev g.nnext).1 ⟨g.row,g.count⟩⟩
end Go.Proofs.YtkihjakbbcajbaaGreat.TB
namespace Go.Proofs.YtkihjakbbcajbaaGreat.TB
set_option linter.unusedSimpArgs false
set_option linter.unusedVariables false
open Go Go.Proofs Go.Proofs.YtkihjakbbcajbaaGreat.PM Go.Proofs.YtkihjakbbcajbaaGreat.RP
def newN (n:Nat):List Int:=(List.range n).map (fun i:Nat=>if i+1<n then ((i+1:Nat):Int) else -1)
theorem newN_len (n:Nat):(newN n).length=n:=by simp [newN]
theorem newN_at {n i:Nat} (h:i<n):(newN n).getD i 0=if i+1<n then ((i+1:Nat):Int) else -1:=by
 rw [getD_get (by rw [newN_len];exact h)]
 simp [newN]
def seqI:Nat→Nat→List Int
 |_,0=>[]
 |i,k+1=>(i:Int)::seqI (i+1) k
theorem mem_seqI {x:Int}:∀{k i:Nat},x∈seqI i k↔(i:Int)≤x∧x<(i:Int)+k
 |0,i=>⟨fun h=>(by cases h),fun h=>by omega⟩
 |k+1,i=>by
  show x∈(i:Int)::seqI (i+1) k↔_
  rw [List.mem_cons,mem_seqI]
  omega
theorem seqI_nodup:∀k i:Nat,(seqI i k).Nodup
 |0,_=>List.nodup_nil
 |k+1,i=>List.nodup_cons.2 ⟨fun h=>by have:=mem_seqI.1 h;omega,seqI_nodup k (i+1)⟩
theorem seqI_chain {n:Nat}:∀k i:Nat,i+k=n→Chain (newN n) (if k=0 then -1 else (i:Int)) (seqI i k)
 |0,i,_=>by rw [if_pos rfl];exact .nil
 |k+1,i,h=>by
  rw [if_neg (by omega)]
  refine .cons (by omega) (by rw [newN_len];omega) ?_
  rw [toNat_cast,newN_at (i:=i) (by omega)]
  have:=seqI_chain (n:=n) k (i+1) (by omega)
  by_cases e:k=0
  ·subst e
   rw [if_neg (by omega)]
   rw [if_pos rfl] at this
   exact this
  ·rw [if_pos (by omega)]
   rw [if_neg e] at this
   exact this
theorem getD_rep {α:Type} {n i:Nat} {a d:α} (h:i<n):(List.replicate n a).getD i d=a:=by
 rw [getD_get (by rw [List.length_replicate];exact h),List.getElem_replicate]
theorem new_arena {n:Nat} (h1:1≤n) (h2:n≤16):AGood (newN n) (List.replicate n false) 0 (seqI 0 n) where
 low:=by rw [newN_len];exact h1
 high:=by rw [newN_len];exact h2
 same:=by rw [newN_len,List.length_replicate]
 chain:=by
  have:=seqI_chain (n:=n) n 0 (by omega)
  rw [if_neg (by omega)] at this
  exact this
 nodup:=seqI_nodup n 0
 mark j hj:=by
  rw [List.length_replicate] at hj
  rw [getD_rep hj]
  exact ⟨fun h=>(by cases h),fun h=>absurd (mem_seqI.2 (by omega)) h⟩
 end_ j hj h:=by
  rw [List.length_replicate] at hj
  rw [getD_rep hj] at h;cases h
@[reducible] noncomputable def c0_:t3.den:=(0,0,false,())
theorem cl_new (i:Int):cl (List.replicate 16 c0_) i=c0_:=by
 unfold cl
 by_cases h:i.toNat<16
 ·exact getD_rep h
 ·rw [List.getD_eq_getElem?_getD,List.getElem?_eq_none (by rw [List.length_replicate];omega)];rfl
theorem cnt_new:cnt (List.replicate 16 c0_)=0:=by
 unfold cnt
 rw [List.countP_replicate,if_neg (by decide)]
theorem new_index:POk (List.replicate 16 c0_) where
 len:=List.length_replicate
 few:=by rw [cnt_new];decide
 zero i _ _ _:=cl_new i
 place i _ _ h:=by rw [cl_new] at h;cases h
 uniq i j _ _ _ _ h _:=by rw [cl_new] at h;cases h
 path i _ _ h:=by rw [cl_new] at h;cases h
theorem new_order {n:Nat} (h1:1≤n) (h2:n≤16):OGood (PV n []) (NX n []) (-1) (-1) []:=OGood.of h1 h2 (Ok.nil n)
noncomputable def NT (n:Nat):t5.den:=((n:Int),List.replicate n (0:Int),List.replicate n b0_,(newN n,List.replicate n false,0,()),List.replicate 16 c0_,(PV n [],NX n [], -1, -1,()),())
theorem new_table {n:Nat} (h1:1≤n) (h2:n≤8):TGood (n:Int) (List.replicate n 0) (List.replicate n b0_) (newN n) (List.replicate n false) 0 (List.replicate 16 c0_) (PV n []) (NX n []) (-1) (-1) [] where
 low:=by omega
 high:=by omega
 nkeys:=by rw [List.length_replicate]
 nbks:=by rw [List.length_replicate]
 nnext:=by rw [newN_len]
 nprev:=by rw [PV_len]
 arena:=⟨_,new_arena h1 (by omega)⟩
 index:=new_index
 order:=new_order h1 (by omega)
 row i hi:=by
  rw [List.length_replicate] at hi
  refine ⟨?_,fun _=>⟨getD_rep hi,getD_rep hi⟩,fun h=>?_⟩
  ·rw [getD_rep hi];exact ⟨fun h=>(by cases h),fun h=>(by cases h)⟩
  ·rw [getD_rep hi] at h;cases h
 count:=by rw [cnt_new,List.countP_replicate,if_neg (by decide)]
end Go.Proofs.YtkihjakbbcajbaaGreat.TB
namespace Go.Proofs.YtkihjakbbcajbaaGreat.TB
set_option linter.unusedSimpArgs false
set_option linter.unusedVariables false
open Go Go.Proofs Go.Proofs.YtkihjakbbcajbaaGreat.PM Go.Proofs.YtkihjakbbcajbaaGreat.RP
theorem rdc_set {l:List t3.den} {i j:Int} {v:t3.den} (h0:0≤i) (h1:i<l.length) (h2:0≤j):cl (l.set i.toNat v) j=if i=j then v else cl l j:=by
 unfold cl
 simp only [List.getD_eq_getElem?_getD,List.getElem?_set]
 by_cases e:i=j
 ·subst e;rw [if_pos rfl,if_pos rfl,if_pos (by omega)];rfl
 ·rw [if_neg (by omega),if_neg e]
theorem cnt_set {x:List t3.den} {i:Int} {v:t3.den} (h0:0≤i) (h1:i<x.length):cnt (x.set i.toNat v)+(if (cl x i).2.2.1=true then 1 else 0)=cnt x+(if v.2.2.1=true then 1 else 0):=by
 have hi:i.toNat<x.length:=by omega
 have g:cl x i=x[i.toNat]:=by
  have:=cl_get hi
  rwa [Int.toNat_of_nonneg h0] at this
 unfold cnt
 rw [List.countP_set hi,g]
 by_cases u:x[i.toNat].2.2.1=true
 ·have:0<x.countP (·.2.2.1):=List.countP_pos_iff.2 ⟨x[i.toNat],List.getElem_mem _,u⟩
  rw [if_pos u];omega
 ·rw [if_neg u];omega
noncomputable def fill:Nat→Int→List t3.den→Int→List t3.den
 |0,i,p,_=>p.set i.toNat c0_
 |n+1,i,p,j=>if (hm (cl p j).1 - i - 1) % 16≥(j - i) % 16 then fill n j (p.set i.toNat (cl p j)) ((j+1) % 16) else fill n i p ((j+1) % 16)
structure Run (p:List t3.den) (i j:Int) (n:Nat):Prop where
 len:p.length=16
 i0:0≤i
 i1:i<16
 j0:0≤j
 j1:j<16
 ahead:1≤(j - i) % 16
 fits:(j - i) % 16+n<16
 used:∀e:Nat,e<n→(cl p ((j+e) % 16)).2.2.1=true
 last:(cl p ((j+n) % 16)).2.2.1=false
theorem Run.next {p:List t3.den} {i j:Int} {n:Nat} (h:Run p i j (n+1)):Run p i ((j+1) % 16) n:=by
 obtain ⟨a,b,c,d,e,f,g,u,l⟩:=h
 refine ⟨a,b,c,by omega,by omega,by omega,by omega,?_,?_⟩
 ·intro m hm
  have:=u (m+1) (by omega)
  rw [show (((j+1) % 16+(m:Int)) % 16)=(j+((m+1:Nat):Int)) % 16 by omega];exact this
 ·rw [show (((j+1) % 16+(n:Int)) % 16)=(j+((n+1:Nat):Int)) % 16 by omega];exact l
theorem Run.move {p:List t3.den} {i j:Int} {n:Nat} (h:Run p i j (n+1)):Run (p.set i.toNat (cl p j)) j ((j+1) % 16) n:=by
 obtain ⟨a,b,c,d,e,f,g,u,l⟩:=h
 refine ⟨by simpa using a,d,e,by omega,by omega,by omega,by omega,?_,?_⟩
 ·intro m hm
  have:=u (m+1) (by omega)
  rw [show (((j+1) % 16+(m:Int)) % 16)=(j+((m+1:Nat):Int)) % 16 by omega,rdc_set b (by omega) (by omega),if_neg (by omega)];exact this
 ·rw [show (((j+1) % 16+(n:Int)) % 16)=(j+((n+1:Nat):Int)) % 16 by omega,rdc_set b (by omega) (by omega),if_neg (by omega)];exact l
def Has (x:List t3.den) (key place:Int):Prop:=∃m:Int,0≤m∧m<16∧(cl x m).2.2.1=true∧(cl x m).1=key∧(cl x m).2.1=place
theorem has_one {x:List t3.den} (h:POk x) {key p q:Int} (hp:Has x key p) (hq:Has x key q):p=q:=by
 obtain ⟨m,a,b,u,e,f⟩:=hp
 obtain ⟨m',a',b',u',e',f'⟩:=hq
 have:=h.uniq m m' a b a' b' u u' (by rw [e,e'])
 subst this;rw [←f,←f']
structure Inv (p:List t3.den) (i j:Int) (n:Nat):Prop where
 run:Run p i j n
 iu:(cl p i).2.2.1=true
 few:cnt p≤12
 zero:∀m:Int,0≤m→m<16→(cl p m).2.2.1=false→cl p m=(0,0,false,())
 place:∀m:Int,0≤m→m<16→m≠i→(cl p m).2.2.1=true→0≤Z (cl p m).2.1∧Z (cl p m).2.1<16
 uniq:∀m m':Int,0≤m→m<16→m≠i→0≤m'→m'<16→m'≠i→(cl p m).2.2.1=true→(cl p m').2.2.1=true→(cl p m).1=(cl p m').1→m=m'
 path:∀m:Int,0≤m→m<16→m≠i→(cl p m).2.2.1=true→∀e:Nat,(e:Int)<(m - hm (cl p m).1) % 16→(cl p ((hm (cl p m).1+e) % 16)).2.2.1=true
 later:∀m:Int,0≤m→m<16→m≠i→(cl p m).2.2.1=true→(i - hm (cl p m).1) % 16<(m - hm (cl p m).1) % 16→(j - i) % 16≤(m - i) % 16
theorem find_has {x:List t3.den} (h:POk x) {key place:Int} (hh:Has x key place):ee.F x key=some (place,0,()):=by
 rcases probe_Find_ok h key with ⟨i,i0,i1,u,e,f⟩|⟨n,_⟩
 ·rw [f,has_one h (p:=(cl x i).2.1) ⟨i,i0,i1,u,e,rfl⟩ hh]
 ·obtain ⟨m,m0,m1,mu,mk,_⟩:=hh
  exact absurd ⟨mu,mk⟩ (n m m0 m1)
theorem find_none {x:List t3.den} (h:POk x) {key:Int} (hh:∀p,¬Has x key p):ee.F x key=some (0,6,()):=by
 rcases probe_Find_ok h key with ⟨i,i0,i1,u,e,f⟩|⟨n,f⟩
 ·exact absurd ⟨i,i0,i1,u,e,rfl⟩ (hh _)
 ·exact f
theorem put_l4 {x:List t3.den} (hx:x.length=16) {key place pos:Int} (p0:0≤pos) (p1:pos<16) (hc:cnt x<12):cm.L3 x key place pos=some (x.set pos.toNat (key,place,true,()),0,()):=by
 have h2:=loop_go (n:=x.length) (L:=fun i=>cm.L4 x key place pos (((x.take i).countP (·.2.2.1):Nat):Int) (x.length:Int) (i:Int)) (fun i hi=>by
  have hle:=cnt_le x i
  try dsimp only
  rw [cm.L4_eq,bd_pos (by omega),cm.L5_eq,bd_pos (by omega),take_cnt hi]
  by_cases u:(cl x (i:Int)).2.2.1=true
  ·rw [bt u,if_pos u,cm.L7_eq,W_eq (by omega) (by omega),W_eq (by omega) (by omega),cast_add1,cast_add1]
  ·rw [bf (bool_not u),if_neg u,cm.L7_eq,W_eq (x:=(i:Int)+1) (by omega) (by omega),cast_add1];rfl)
 try dsimp only at h2
 rw [List.take_of_length_le (Nat.le_refl _)] at h2
 have h3:cm.L4 x key place pos 0 (x.length:Int) 0=cm.L4 x key place pos (cnt x:Int) (x.length:Int) (x.length:Int):=h2
 rw [cm.L3_eq,h3,cm.L4_eq,bd_neg (by omega),bd_neg (by omega),cm.L6_eq,lim_small (by decide) (by omega),bd_pos (by omega)]
theorem probe_Put_ok {x:List t3.den} (h:POk x) {key place:Int} (hn:∀p,¬Has x key p) (p0:0≤place) (p1:place<16) (hc:cnt x<12):
  ∃y,cm.F x key place=some (y,0,())∧POk y∧(∀k p,Has y k p↔Has x k p∨(k=key∧p=place))∧cnt y=cnt x+1:=by
 have hl:=h.len
 have hr:=hm_range key
 obtain ⟨d,hd,ho,hq,hlk,hw⟩:=found h key
 rcases hw with ⟨u,e⟩|⟨u,hno⟩
 ·exact absurd ⟨(hm key+d) % 16,by omega,by omega,u,e,rfl⟩ (hn (cl x ((hm key+d) % 16)).2.1)
 have ev:cm.F x key place=some (x.set ((hm key+d) % 16).toNat (key,place,true,()),0,()):=by
  rw [cm.F_eq,(probe_says x).yes h,ob,bne_neg rfl,cm.L1_eq,bd_neg (by omega),bd_neg (by omega),cm.L2_eq,hlk,ob,bd_pos (by dsimp only;omega),bf u]
  exact put_l4 hl (by omega) (by omega) hc
 generalize hpos:(hm key+(d:Int)) % 16=pos at ev u
 have q0:0≤pos:=by omega
 have q1:pos<16:=by omega
 have rs:∀m:Int,0≤m→cl (x.set pos.toNat (key,place,true,())) m=if pos=m then (key,place,true,()) else cl x m:=fun m m0=>rdc_set q0 (by omega) m0
 have cs:=cnt_set (x:=x) (v:=(key,place,true,())) q0 (by omega)
 rw [if_neg (by rw [u];simp),if_pos rfl] at cs
 have up:∀m:Int,0≤m→(cl x m).2.2.1=true→(cl (x.set pos.toNat (key,place,true,())) m).2.2.1=true:=by
  intro m m0 hu
  rw [rs m m0]
  by_cases q:pos=m
  ·rw [if_pos q]
  ·rw [if_neg q];exact hu
 refine ⟨_,ev,⟨by simpa using hl,by omega,?_,?_,?_,?_⟩,?_,by omega⟩
 ·intro m m0 m1 hu
  rw [rs m m0] at hu ⊢
  by_cases q:pos=m
  ·rw [if_pos q] at hu;exact absurd hu (by simp)
  ·rw [if_neg q] at hu ⊢;exact h.zero m m0 m1 hu
 ·intro m m0 m1 hu
  rw [rs m m0] at hu ⊢
  by_cases q:pos=m
  ·rw [if_pos q];exact ⟨p0,p1⟩
  ·rw [if_neg q] at hu ⊢;exact h.place m m0 m1 hu
 ·intro m m' m0 m1 m0' m1' hu hu' hk
  rw [rs m m0] at hu hk
  rw [rs m' m0'] at hu' hk
  by_cases q:pos=m
  ·by_cases q':pos=m'
   ·omega
   ·rw [if_pos q,if_neg q'] at hk
    rw [if_neg q'] at hu'
    exact absurd ⟨hu',hk.symm⟩ (hno m' m0' m1')
  ·by_cases q':pos=m'
   ·rw [if_neg q,if_pos q'] at hk
    rw [if_neg q] at hu
    exact absurd ⟨hu,hk⟩ (hno m m0 m1)
   ·rw [if_neg q] at hu hk;rw [if_neg q'] at hu' hk
    exact h.uniq m m' m0 m1 m0' m1' hu hu' hk
 ·intro m m0 m1 hu s hs
  rw [rs m m0] at hu hs ⊢
  by_cases q:pos=m
  ·rw [if_pos q] at hs ⊢
   refine up _ (by omega) (ho s ?_).1
   have:(s:Int)<(m - hm key) % 16:=hs
   omega
  ·rw [if_neg q] at hu hs ⊢
   have hr2:=hm_range (cl x m).1
   exact up _ (by omega) (h.path m m0 m1 hu s hs)
 ·intro k p
  constructor
  ·rintro ⟨m,m0,m1,hu,hk,hp⟩
   rw [rs m m0] at hu hk hp
   by_cases q:pos=m
   ·rw [if_pos q] at hk hp;exact Or.inr ⟨hk.symm,hp.symm⟩
   ·rw [if_neg q] at hu hk hp;exact Or.inl ⟨m,m0,m1,hu,hk,hp⟩
  ·rintro (⟨m,m0,m1,hu,hk,hp⟩|⟨hk,hp⟩)
   ·refine ⟨m,m0,m1,?_⟩
    rw [rs m m0,if_neg (fun z=>by rw [←z,u] at hu;exact absurd hu (by simp))]
    exact ⟨hu,hk,hp⟩
   ·refine ⟨pos,q0,q1,?_⟩
    rw [rs pos q0,if_pos rfl]
    exact ⟨rfl,hk.symm,hp.symm⟩
theorem keys_of {x:List t3.den} (h:POk x) (hk:∀k p,Has x k p→0≤k∧k<4294967296):∀i:Int,0≤i→i<x.length→0≤Z (cl x i).1∧Z (cl x i).1<4294967296:=by
 intro i i0 i1
 have hl:=h.len
 by_cases u:(cl x i).2.2.1=true
 ·exact hk _ _ ⟨i,i0,by omega,u,rfl,rfl⟩
 ·rw [h.zero i i0 (by omega) (bool_not u)];decide
end Go.Proofs.YtkihjakbbcajbaaGreat.TB
