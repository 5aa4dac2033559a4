/- Parts of the proof, joined: Kr, Kd, Chk1, Chk2, Chk3, Chk4, Chk5, Chk6, Chk7. -/
import Derived.OwnWalkIn
import Derived.RangeFuncBox
import Derived.Shelf.Abstract
import Derived.Shelf.RegionOpen
import Derived.TacticsInMore
import Derived.LoopNIn
import Derived.LoopIn
import Derived.Stop.RegionWithIn
import Derived.Test.YtkihjakbbcajbaaGreatChecked
import Derived.Test.YtkihjakbbcajbaaGreatZpmB
namespace Go.Proofs.YtkihjakbbcajbaaGreat.Kd
set_option linter.unusedSimpArgs false
set_option linter.unusedVariables false
open Go Go.Proofs Go.Proofs.YtkihjakbbcajbaaGreat.PM
def tv (all:List Oper) (X:Nat→Value) (a:Act) (S:Nat→Bool):Nat→Nat→Value
 |0,t=>a.tmps.getD t undef
 |k+1,t=>if S k=true∧dstOf all k=some t then X k else tv all X a S k t
structure AtS (all:List Oper) (X:Nat→Value) (a:Act) (n0:Nat) (S:Nat→Bool) (a':Act):Prop where
 size:a'.tmps.size=a.tmps.size
 defs:a'.defers=a.defers
 vals:∀t,a'.tmps.getD t undef=tv all X a S n0 t
section
variable {all:List Oper} {X:Nat→Value} {a:Act} {S:Nat→Bool}
theorem tv_off:∀(k t:Nat),(∀j,j<k→S j=true→dstOf all j≠some t)→tv all X a S k t=a.tmps.getD t undef
 |0,_,_=>rfl
 |k+1,t,h=>by
  unfold tv
  rw [if_neg (fun ⟨h1,h2⟩=>h k (by omega) h1 h2)]
  exact tv_off k t (fun j hj=>h j (by omega))
theorem tv_on (hd:∀i j d,dstOf all i=some d→dstOf all j=some d→i=j) {i t:Nat} (hi:dstOf all i=some t) (hs:S i=true):∀k,i<k→tv all X a S k t=X i
 |k+1,h=>by
  unfold tv
  by_cases e:i=k
  ·subst e;rw [if_pos ⟨hs,hi⟩]
  ·rw [if_neg (fun ⟨_,h2⟩=>e (hd i k t hi h2))]
   exact tv_on hd hi hs k (by omega)
theorem tv_ext {S':Nat→Bool}:∀k t,(∀j,j<k→S j=S' j)→tv all X a S k t=tv all X a S' k t
 |0,_,_=>rfl
 |k+1,t,h=>by
  unfold tv
  rw [h k (by omega),tv_ext k t (fun j hj=>h j (by omega))]
theorem AtS.on {n0:Nat} {a':Act} (hd:∀i j d,dstOf all i=some d→dstOf all j=some d→i=j) (h:AtS all X a n0 S a') {i t:Nat} (hi:dstOf all i=some t) (hs:S i=true) (hk:i<n0):a'.tmps.getD t undef=X i:=
 (h.vals t).trans (tv_on hd hi hs n0 hk)
theorem AtS.off {n0:Nat} {a':Act} (h:AtS all X a n0 S a') {t:Nat} (ht:∀j,j<n0→dstOf all j≠some t):a'.tmps.getD t undef=a.tmps.getD t undef:=
 (h.vals t).trans (tv_off n0 t (fun j hj _=>ht j hj))
end
section
variable {P:Program} {all:List Oper} {Q:Exit→Act→World→Prop} {X:Nat→Value} {a:Act} {w:World} {n0 n:Nat} {F:Fence}
theorem any_reads (hn0:n0≤all.length) (hed:edgesOk all 0=true) (hd:∀i j d,dstOf all i=some d→dstOf all j=some d→i=j) (hsz:∀j d,dstOf all j=some d→d<a.tmps.size)
  (hlate:∀j,n0≤j→j<all.length→∀i,i<n0→Nat.testBit ((masks all []).getD j 0) i=true)
  (hread:∀j,j<n0→∀(S:Nat→Bool) (a':Act),(∀i,Nat.testBit ((masks all []).getD j 0) i=true→S i=true)→AtS all X a n0 S a'→(∀i j d,dstOf all i=some d→dstOf all j=some d→i=j)→∀K:Act→World→Prop,K (a'.put (dstOf all j) (X j)) w→wpOpIn F n P all.toArray Q j K a' w)
  (hfin:∀(a':Act) (listed:Array Bool),AtS all X a n0 (fun k=>decide (k<n0)) a'→listed.size=all.length→(∀k (h:k<listed.size),listed[k]=decide (k<n0))→wpAnyIn F n P .any all.toArray Q (all.length - n0) listed a' w):
  ∀(fuel:Nat) (S:Nat→Bool) (listed:Array Bool) (a':Act),listed.size=all.length→(∀k (h:k<listed.size),listed[k]=S k)→cnt S n0=fuel→(∀k,n0≤k→S k=false)→
   (∀k,k<all.length→S k=true→∀i,Nat.testBit ((masks all []).getD k 0) i=true→S i=true)→AtS all X a n0 S a'→wpAnyIn F n P .any all.toArray Q (fuel+(all.length - n0)) listed a' w
 |0,S,listed,a',hz,hS,hc,hS0,hcl,hA=>by
  have hall:=cnt_zero _ hc
  rw [Nat.zero_add]
  have e:∀k,S k=decide (k<n0):=fun k=>by
   by_cases h:k<n0
   ·rw [hall k h];simp [h]
   ·rw [hS0 k (by omega)];simp [h]
  refine hfin a' listed ⟨hA.size,hA.defs,fun t=>(hA.vals t).trans (tv_ext _ _ (fun j _=>e j))⟩ hz (fun k h=>(hS k h).trans (e k))
 |fuel+1,S,listed,a',hz,hS,hc,hS0,hcl,hA=>by
  have get:∀k d,k<all.length→listed.getD k d=S k:=fun k d hk=>by
   rw [Array.getD,dif_pos (by omega)];exact hS k (by omega)
  have hex:∃k,k<n0∧S k=false:=by
   apply Classical.byContradiction
   intro hn
   have:cnt S n0=0:=cnt_all _ (fun k hk=>by
    cases hs:S k with
    |true=>rfl
    |false=>exact absurd ⟨k,hk,hs⟩ hn)
   omega
  obtain ⟨k0,h1,h2,h3⟩:=first_free _ hex
  rw [Nat.succ_add]
  refine ⟨fun hnil=>?_,fun i hi=>?_⟩
  ·exfalso
   have ho:all[k0]?=some all[k0]:=List.getElem?_eq_getElem (by omega)
   have:k0∈Region.ready .any all.toArray listed:=ready_mem.2 ⟨_,ho,by rw [get k0 _ (by omega)];exact h2,fun e he hb=>by
    have:=edgesOk_at all 0 k0 _ hed ho e he hb
    rw [get e.on _ (by omega)];exact h3 _ (by omega)⟩
   rw [hnil] at this;cases this
  ·obtain ⟨o,ho,g1,g2⟩:=ready_mem.1 hi
   have hil:i<all.length:=by
    by_cases h:i<all.length
    ·exact h
    ·rw [List.getElem?_eq_none (by omega)] at ho;cases ho
   rw [get i _ hil] at g1
   have hbef:∀k,Nat.testBit ((masks all []).getD i 0) k=true→S k=true:=fun k hk=>by
    have hm:=masks_at all [] i o ho
    simp only [List.length_nil,Nat.zero_add] at hm
    rw [hm] at hk
    obtain ⟨e,he,hb,hk⟩:=maskE_spec _ _ _ hk
    have hlt:=edgesOk_at all 0 i o hed ho e he hb
    have hSe:S e.on=true:=by rw [←get e.on false (by omega)];exact g2 e he hb
    rcases hk with rfl|hk
    ·exact hSe
    ·rw [take_getD _ _ _ _ (by omega)] at hk
     exact hcl e.on (by omega) hSe k hk
   by_cases hin:i<n0
   ·refine hread i hin S a' hbef hA hd _ ?_
    refine any_reads hn0 hed hd hsz hlate hread hfin fuel (addS S i) _ _ (by simpa using hz) (fun k hk=>?_) (by have:=cnt_add g1 n0 hin;omega) (fun k hk=>?_) (fun k hk hSk j hj=>?_) ⟨by rw [put_size];exact hA.size,by rw [put_defs];exact hA.defs,fun t=>?_⟩
    ·have hk':k<listed.size:=by simpa using hk
     rw [Array.getElem_setIfInBounds hk']
     unfold addS
     by_cases e:i=k
     ·subst e;simp
     ·rw [if_neg e]
      have e':k≠i:=fun h=>e h.symm
      simpa [e'] using hS k hk'
    ·unfold addS;rw [hS0 k hk];simp;omega
    ·unfold addS at hSk ⊢
     by_cases e:k=i
     ·subst e;rw [hbef j hj];rfl
     ·have hSk':S k=true:=by simpa [e] using hSk
      rw [hcl k hk hSk' j hj];rfl
    ·rw [put_get _ _ _ _ (fun e he=>by rw [hA.size];exact hsz i e he),hA.vals t]
     have key:∀m,tv all X a (addS S i) m t=if i<m∧dstOf all i=some t then X i else tv all X a S m t:=by
      intro m
      induction m with
      |zero=>rw [if_neg (by omega)];rfl
      |succ m ih=>
       unfold tv
       rw [ih]
       by_cases e:m=i
       ·subst e
        by_cases hdm:dstOf all m=some t
        ·rw [if_pos ⟨by simp [addS],hdm⟩,if_pos ⟨by omega,hdm⟩]
        ·rw [if_neg (fun h=>hdm h.2),if_neg (fun h=>hdm h.2),if_neg (fun h=>hdm h.2),if_neg (fun h=>hdm h.2)]
       ·have e1:addS S i m=S m:=by unfold addS;simp [e]
        rw [e1]
        by_cases hm:S m=true∧dstOf all m=some t
        ·rw [if_pos hm,if_neg (fun h=>e (hd m i t hm.2 h.2)),if_pos hm]
        ·rw [if_neg hm,if_neg hm]
         by_cases hi2:i<m∧dstOf all i=some t
         ·rw [if_pos hi2,if_pos ⟨by omega,hi2.2⟩]
         ·rw [if_neg hi2,if_neg (fun h=>hi2 ⟨by omega,h.2⟩)]
     rw [key n0]
     by_cases hdi:dstOf all i=some t
     ·rw [if_pos hdi,if_pos ⟨hin,hdi⟩]
     ·rw [if_neg hdi,if_neg (fun h=>hdi h.2)]
   ·exfalso
    have:=hbef k0 (hlate i (by omega) hil k0 h1)
    rw [h2] at this;cases this
end
theorem rd_val {P:Program} {n:Nat} {all:List Oper} {Q:Exit→Act→World→Prop} {K:Act→World→Prop} {a:Act} {w:World} {o:Oper} {j:Nat} {v:Value} (ho:all.toArray[j]?=some o) (hw:Region.wanted o (yielded all.toArray a.tmps)=true)
  (hr:(o.semAt none a.eval).run P w=.ok (.value v) w) (hK:K (a.put (dstOf all j) v) w):wpOpIn Fence.wide n P all.toArray Q j K a w:=by
 unfold wpOpIn
 rw [ho]
 simp only [hw,if_true]
 have hd:dstOf all j=o.dst:=by unfold dstOf;rw [List.getElem?_toArray] at ho;rw [ho];rfl
 rw [hd] at hK
 refine ⟨fun _ _=>trivial,?_⟩
 show Oper.uponIn _ _ _ _ _ _ _ ((o.semAt none a.eval).run P w)
 rw [hr,Oper.uponIn_value];exact hK
theorem rd_skip {P:Program} {n:Nat} {all:List Oper} {Q:Exit→Act→World→Prop} {K:Act→World→Prop} {a:Act} {w:World} {o:Oper} {j:Nat} (ho:all.toArray[j]?=some o) (hw:Region.wanted o (yielded all.toArray a.tmps)=false)
  (hK:K (a.put (dstOf all j) undef) w):wpOpIn Fence.wide n P all.toArray Q j K a w:=by
 unfold wpOpIn
 rw [ho]
 simp only [hw,Bool.false_eq_true,if_false]
 have hd:dstOf all j=o.dst:=by unfold dstOf;rw [List.getElem?_toArray] at ho;rw [ho];rfl
 rw [hd] at hK
 exact ⟨fun _ _=>trivial,hK⟩
theorem rd_round {P:Program} {n:Nat} {all:List Oper} {Q:Exit→Act→World→Prop} {K:Act→World→Prop} {a:Act} {w:World} {o:Oper} {j l:Nat} {fn:FuncId} {tmps:Array Value} {assign body:Code} (ho:all.toArray[j]?=some o) (hw:Region.wanted o (yielded all.toArray a.tmps)=true)
  (hr:(o.semAt none a.eval).run P w=.ok (.round l fn tmps assign body) w) (hK:RoundIn Fence.wide (n - 1) P l fn tmps assign body w fun e w'=>∃v,e=.returned v∧K (a.put (dstOf all j) v) w'):wpOpIn Fence.wide n P all.toArray Q j K a w:=by
 unfold wpOpIn
 rw [ho]
 simp only [hw,if_true]
 have hd:dstOf all j=o.dst:=by unfold dstOf;rw [List.getElem?_toArray] at ho;rw [ho];rfl
 rw [hd] at hK
 refine ⟨fun _ _=>trivial,?_⟩
 show Oper.uponIn _ _ _ _ _ _ _ ((o.semAt none a.eval).run P w)
 rw [hr,Oper.uponIn_round]
 refine ⟨(fun h=>by cases h),hK.mono ?_⟩
 rintro e w' ⟨v,rfl,h⟩
 exact h
theorem yld {all:List Oper} {a:Act} {i d:Nat} {b:Bool} (hi:dstOf all i=some d) (h:a.tmps.getD d undef=.bool b) (hs:d<a.tmps.size):yielded all.toArray a.tmps i=some b:=by
 unfold yielded
 have:(all.toArray[i]?).bind (·.dst)=some d:=by rw [List.getElem?_toArray];exact hi
 rw [this]
 simp only [Option.bind_some]
 rw [Array.getElem?_eq_getElem hs]
 simp only [Array.getD,hs,dite_true] at h
 rw [show a.tmps.getInternal d hs=a.tmps[d] from rfl] at h
 rw [h]
theorem yld' {all:List Oper} {X:Nat→Value} {a a':Act} {S:Nat→Bool} {n0:Nat} (hd:∀i j d,dstOf all i=some d→dstOf all j=some d→i=j) (hA:AtS all X a n0 S a') {i d:Nat} {b:Bool} (hi:dstOf all i=some d) (hs:S i=true) (hk:i<n0) (hl:d<a.tmps.size) (hX:X i=.bool b):
  yielded all.toArray a'.tmps i=some b:=yld hi ((hA.on hd hi hs hk).trans hX) (by rw [hA.size];exact hl)
theorem ev {a:Act} {t:Nat} {v:Value} (h:a.tmps.getD t undef=v):a.eval (.tmp t)=v:=h
theorem on' {all:List Oper} {X:Nat→Value} {a a':Act} {S:Nat→Bool} {n0:Nat} (hd:∀i j d,dstOf all i=some d→dstOf all j=some d→i=j) (h:AtS all X a n0 S a') {i t:Nat} (hi:dstOf all i=some t) (hs:S i=true) (hk:i<n0):a'.tmps[t]?.getD undef=X i:=by
 have:=h.on hd hi hs hk
 simpa using this
theorem off' {all:List Oper} {X:Nat→Value} {a a':Act} {S:Nat→Bool} {n0:Nat} (h:AtS all X a n0 S a') {t:Nat} (ht:∀j,j<n0→dstOf all j≠some t):a'.tmps[t]?.getD undef=a.tmps[t]?.getD undef:=by
 have:=h.off ht
 simpa using this
theorem dst_inj {all:List Oper} (ds:List Nat) (h:all.map (·.dst)=ds.map some) (hn:ds.Nodup):∀i j d,dstOf all i=some d→dstOf all j=some d→i=j:=fun i j d hi hj=>by
 have key:∀i,dstOf all i=ds[i]?:=fun i=>by
  have:=congrArg (fun l=>(l[i]?)) h
  simp only [List.getElem?_map] at this
  unfold dstOf
  cases ha:all[i]? with
  |none=>rw [ha] at this;simp only [Option.map_none,Option.bind_none] at this ⊢;cases hb:ds[i]? with
   |none=>rfl
   |some x=>rw [hb] at this;cases this
  |some o=>rw [ha] at this;simp only [Option.map_some,Option.bind_some] at this ⊢;cases hb:ds[i]? with
   |none=>rw [hb] at this;cases this
   |some x=>rw [hb] at this;simpa using this
 rw [key] at hi hj
 have hil:i<ds.length:=(List.getElem?_eq_some_iff.1 hi).1
 exact (List.getElem?_inj hil hn).1 (hi.trans hj.symm)
theorem dst_at {all:List Oper} {ds:List Nat} (h:all.map (·.dst)=ds.map some) (i:Nat):dstOf all i=ds[i]?:=by
 have:=congrArg (fun l=>(l[i]?)) h
 simp only [List.getElem?_map] at this
 unfold dstOf
 cases ha:all[i]? with
 |none=>rw [ha] at this;simp only [Option.map_none,Option.bind_none] at this ⊢;cases hb:ds[i]? with
  |none=>rfl
  |some x=>rw [hb] at this;cases this
 |some o=>rw [ha] at this;simp only [Option.map_some,Option.bind_some] at this ⊢;cases hb:ds[i]? with
  |none=>rw [hb] at this;cases this
  |some x=>rw [hb] at this;simpa using this
theorem dst_lt {all:List Oper} (ds:List Nat) {m:Nat} (h:all.map (·.dst)=ds.map some) (hm:∀d∈ds,d<m) {j d:Nat} (hd:dstOf all j=some d):d<m:=by
 rw [dst_at h] at hd
 exact hm d (List.mem_of_getElem? hd)
theorem off_of {all:List Oper} {ds:List Nat} (h:all.map (·.dst)=ds.map some) {n:Nat} (hm:∀d∈ds,n≤d) (t:Nat) (ht:t<n) (j:Nat):dstOf all j≠some t:=fun e=>by
 rw [dst_at h] at e
 have:=hm t (List.mem_of_getElem? e)
 omega
theorem off2 {all:List Oper} {X:Nat→Value} {a a':Act} {S:Nat→Bool} {n0:Nat} (hA:AtS all X a n0 S a') (ds:List Nat) (h:all.map (·.dst)=ds.map some) {n:Nat} (hm:∀d∈ds,n≤d) (t:Nat) (ht:t<n):a'.tmps[t]?.getD undef=a.tmps[t]?.getD undef:=
 off' hA (fun j _=>off_of h hm t ht j)
theorem late_of {all:List Oper} {n0:Nat} (h:((List.range all.length).all fun j=>decide (j<n0)||(List.range n0).all fun i=>Nat.testBit ((masks all []).getD j 0) i)=true):
  ∀j,n0≤j→j<all.length→∀i,i<n0→Nat.testBit ((masks all []).getD j 0) i=true:=fun j h1 h2 i hi=>by
 have:=List.all_eq_true.1 h j (List.mem_range.2 h2)
 simp only [Bool.or_eq_true,decide_eq_true_eq,List.all_eq_true,List.mem_range] at this
 rcases this with h|h
 ·omega
 ·exact h i hi
theorem list_eq {listed:Array Bool} {m n0:Nat} {l:Array Bool} (h1:listed.size=m) (h2:∀k (h:k<listed.size),listed[k]=decide (k<n0)) (h3:Array.ofFn (fun k:Fin m=>decide (k.1<n0))=l):listed=l:=by
 subst h3
 apply Array.ext
 ·simp [h1]
 ·intro i h4 h5
  rw [h2 i h4];simp
theorem at_eq {all:List Oper} {X:Nat→Value} {a a':Act} {S:Nat→Bool} {n0 m:Nat} (h:AtS all X a n0 S a') (hs:a.tmps.size=m) {tm:Array Value} (h3:Array.ofFn (fun k:Fin m=>tv all X a S n0 k.1)=tm):{tmps:=tm,defers:=a.defers}=a':=by
 subst h3
 obtain ⟨t,d⟩:=a'
 have h1:=h.size
 have h2:=h.defs
 dsimp only at h1 h2
 subst h2
 congr 1
 apply Array.ext
 ·simp [h1,hs]
 ·intro i h4 h5
  have:=h.vals i
  dsimp only at this
  rw [Array.getElem_ofFn,←this]
  simp [Array.getD,h5]
end Go.Proofs.YtkihjakbbcajbaaGreat.Kd
namespace Go.Proofs.YtkihjakbbcajbaaGreat.Kd
set_option linter.unusedSimpArgs false
set_option linter.unusedVariables false
open Go Go.RowKit Go.Shelf Go.Proofs Go.Proofs.YtkihjakbbcajbaaGreat.PM
attribute [local go_sem] Oper.semAt_some
def come (us:Nat→Bool) (ks:Nat→Int) (ls:Nat→Int × Int × Int) (k:Nat):List (Int × Int × Int × Int):=((List.range k).filter us).map fun j=>(ks j,ls j)
theorem come_yes {us:Nat→Bool} {ks:Nat→Int} {ls:Nat→Int × Int × Int} {k:Nat} (h:us k=true):come us ks ls (k+1)=come us ks ls k++[(ks k,ls k)]:=by
 unfold come;rw [List.range_succ,List.filter_append,List.map_append];simp [h]
theorem come_no {us:Nat→Bool} {ks:Nat→Int} {ls:Nat→Int × Int × Int} {k:Nat} (h:us k=false):come us ks ls (k+1)=come us ks ls k:=by
 unfold come;rw [List.range_succ,List.filter_append,List.map_append];simp [h]
theorem come_mono {us:Nat→Bool} {ks:Nat→Int} {ls:Nat→Int × Int × Int}:∀m k:Nat,(come us ks ls k).length≤(come us ks ls (k+m)).length
 |0,k=>Nat.le_refl _
 |m+1,k=>by
  refine Nat.le_trans (come_mono m k) ?_
  show _≤(come us ks ls (k+m+1)).length
  cases h:us (k+m) with
  |true=>rw [come_yes h];simp
  |false=>rw [come_no h];exact Nat.le_refl _
def KeepB (Kb:Nat→Prop) (W W':World):Prop:=∀r,Kb r→W'.heap[r]?=W.heap[r]?
theorem KeepB.refl (Kb:Nat→Prop) (W:World):KeepB Kb W W:=fun _ _=>rfl
theorem KeepB.trans {Kb:Nat→Prop} {a b c:World} (h:KeepB Kb a b) (k:KeepB Kb b c):KeepB Kb a c:=fun r hr=>(k r hr).trans (h r hr)
theorem KeepB.drew {Kb:Nat→Prop} {a b:World} (h:KeepB Kb a b):KeepB Kb a {b with drawn:=b.drawn+1}:=h
theorem KeepB.cell {Kb:Nat→Prop} {a b:World} (h:KeepB Kb a b) {p:Addr} (hp:Kb p.block):b.cell? p=a.cell? p:=World.cell?_of_block (h _ hp)
def encs (x:Int × Int × Int × Int):Array Value:=#[.int .u32 x.1,.agg #[.int .i64 x.2.1,.int .i64 x.2.2.1,.int .i64 x.2.2.2]]
set_option maxRecDepth 100000 in
set_option maxHeartbeats 4000000 in
theorem keyed1_in (n:Nat) (hn:1≤n) (l Bs ul uc kl kc bl bc:Nat) (Kb:Nat→Prop) (ua ka ba:Option Addr) (us:Nat→Bool) (ks:Nat→Int) (ls:Nat→Int × Int × Int)
  (hu47:ul≤140737488355328) (J Jx:List (Int × Int × Int × Int)→World→Prop)
  (hY:∀pre x W,J pre W→pre.length<(come us ks ls ul).length→YieldAt Fence.wide (n - 1) Tryz.prog l (encs x) W fun e W'=>
   (e=.returned (.bool true)∧J (pre++[x]) W'∧KeepB Kb W W')∨(e=.returned (.bool false)∧Jx (pre++[x]) W'))
  (W:World) (hBs:Kb Bs)
  (h1:W.cell? ⟨Bs,1,none⟩=some (.slice ka kl kc)) (h2:W.cell? ⟨Bs,2,none⟩=some (.slice ba bl bc)) (h4:W.cell? ⟨Bs,4,none⟩=some (.slice ua ul uc))
  (hus:∀j,j<ul→∃ub uo,ua=some ⟨ub,uo,none⟩∧Kb ub∧W.cell? ⟨ub,uo+j,none⟩=some (.bool (us j)))
  (hks:∀j,j<ul→us j=true→j<kl∧∃kb ko,ka=some ⟨kb,ko,none⟩∧Kb kb∧W.cell? ⟨kb,ko+j,none⟩=some (.int .u32 (ks j)))
  (hls:∀j,j<ul→us j=true→j<bl∧∃bb bo,ba=some ⟨bb,bo,none⟩∧Kb bb∧W.cell? ⟨bb,bo+j*6,none⟩=some (.int .i64 (ls j).1)∧W.cell? ⟨bb,bo+j*6+1,none⟩=some (.int .i64 (ls j).2.1)∧W.cell? ⟨bb,bo+j*6+2,none⟩=some (.int .i64 (ls j).2.2))
  (hdrew:∀pre W,J pre W→J pre {W with drawn:=W.drawn+1}) (h0:J [] W):
  CallsIn Fence.wide n Tryz.prog 183 #[.func (.yield l) #[] #[],.pointer (some ⟨Bs,0,none⟩)] W fun e W'=>(∃v,e=.returned v)∧
   ((∃ys,ys=come us ks ls ul∧J ys W')∨(∃pre,(∃k,k≤ul∧pre=come us ks ls k)∧Jx pre W')):=by
 refine callsIn_of_wp Tryz.func183 rfl trivial ?_ rfl
 simp only [Tryz.ntmps183,List.size_toArray,List.length_cons,List.length_nil,Nat.reduceAdd,Nat.reduceSub,Array.replicate_succ,Array.replicate_zero,List.push_toArray,List.append_toArray,List.nil_append,List.cons_append]
 gi_wp2
 gi_loopw [9] (fun i wr=>∃k:Nat,k≤ul∧i=.int .i64 k∧J (come us ks ls k) wr∧KeepB Kb W wr)
  (fun i _=>ul - (RowKit.intOf i).toNat)
 case atStart=>exact ⟨0,Nat.zero_le _,rfl,h0,KeepB.refl _ _⟩
 case round=>
  obtain ⟨k,hk,rfl,hJs,hnx⟩:=hrel
  by_cases hlt:k<ul
  ·obtain ⟨ub,uo,rfl,hub,hcu0⟩:=hus k hlt
   have hcu:=(hnx.cell (p:=⟨ub,uo+k,none⟩) hub).trans hcu0
   have g4:=(hnx.cell (p:=⟨Bs,4,none⟩) hBs).trans h4
   cases hu:us k with
   |false=>
    rw [hu] at hcu
    gi_wp2
    refine wpIn_region_any (by kernel_rfl) ?_
    obtain ⟨wq,hwq⟩:∃wq:World,({wr with drawn:=wr.drawn+1}:World)=wq:=⟨_,rfl⟩
    have hJq:J (come us ks ls k) wq:=hwq▸hdrew _ wr hJs
    have hBq:KeepB Kb W wq:=hwq▸hnx.drew
    rw [hwq]
    refine any_reads (n0:=14) (X:=fun j=>match j with|0=>(.bool false)|1=>(.bool false)|2=>undef|3=>undef|4=>undef|5=>undef|6=>undef|7=>undef|8=>undef|9=>undef|10=>undef|11=>undef|12=>undef|13=>undef|_=>undef) (by decide) (by kernel_rfl) (dst_inj [14,15,16,17,18,19,20,21,22,23,24,25,26,27,28,29,30] rfl (by decide)) ?sz ?late ?read ?fin 14 (fun _=>false) _ _ (by simp) (fun q hq=>by simp) rfl (fun _ _=>rfl) (fun _ _ h=>by cases h) ⟨rfl,rfl,fun t=>(tv_off 14 t (fun j hj h=>by cases h)).symm⟩
    case sz=>exact fun j d hd=>show d<32 from dst_lt [14,15,16,17,18,19,20,21,22,23,24,25,26,27,28,29,30] rfl (by decide) hd
    case late=>exact late_of (by kernel_rfl)
    case read=>
     intro j hj S a' hb hA hd K hK
     match j,hj with
     |0,_=>
      have h4:=off2 hA [14,15,16,17,18,19,20,21,22,23,24,25,26,27,28,29,30] rfl (n:=14) (by decide) 4 (by omega)
      try dsimp only at h4
      refine rd_val rfl rfl ?_ hK
      go_simp
      try simp [h4]
     |1,_=>
      have h14:=on' hd hA (i:=0) (t:=14) rfl (hb 0 (by kernel_rfl)) (by omega)
      try dsimp only at h14
      refine rd_val rfl rfl ?_ hK
      go_simp
      try simp [h14]
     |2,_=>
      have hy:=yld' hd hA (i:=1) (d:=15) (b:=false) rfl (hb 1 (by kernel_rfl)) (by omega) (show 15<32 by decide) rfl
      exact rd_skip rfl (by simp [Region.wanted,hy]) hK
     |3,_=>
      have hy:=yld' hd hA (i:=1) (d:=15) (b:=false) rfl (hb 1 (by kernel_rfl)) (by omega) (show 15<32 by decide) rfl
      exact rd_skip rfl (by simp [Region.wanted,hy]) hK
     |4,_=>
      have hy:=yld' hd hA (i:=1) (d:=15) (b:=false) rfl (hb 1 (by kernel_rfl)) (by omega) (show 15<32 by decide) rfl
      exact rd_skip rfl (by simp [Region.wanted,hy]) hK
     |5,_=>
      have hy:=yld' hd hA (i:=1) (d:=15) (b:=false) rfl (hb 1 (by kernel_rfl)) (by omega) (show 15<32 by decide) rfl
      exact rd_skip rfl (by simp [Region.wanted,hy]) hK
     |6,_=>
      have hy:=yld' hd hA (i:=1) (d:=15) (b:=false) rfl (hb 1 (by kernel_rfl)) (by omega) (show 15<32 by decide) rfl
      exact rd_skip rfl (by simp [Region.wanted,hy]) hK
     |7,_=>
      have hy:=yld' hd hA (i:=1) (d:=15) (b:=false) rfl (hb 1 (by kernel_rfl)) (by omega) (show 15<32 by decide) rfl
      exact rd_skip rfl (by simp [Region.wanted,hy]) hK
     |8,_=>
      have hy:=yld' hd hA (i:=1) (d:=15) (b:=false) rfl (hb 1 (by kernel_rfl)) (by omega) (show 15<32 by decide) rfl
      exact rd_skip rfl (by simp [Region.wanted,hy]) hK
     |9,_=>
      have hy:=yld' hd hA (i:=1) (d:=15) (b:=false) rfl (hb 1 (by kernel_rfl)) (by omega) (show 15<32 by decide) rfl
      exact rd_skip rfl (by simp [Region.wanted,hy]) hK
     |10,_=>
      have hy:=yld' hd hA (i:=1) (d:=15) (b:=false) rfl (hb 1 (by kernel_rfl)) (by omega) (show 15<32 by decide) rfl
      exact rd_skip rfl (by simp [Region.wanted,hy]) hK
     |11,_=>
      have hy:=yld' hd hA (i:=1) (d:=15) (b:=false) rfl (hb 1 (by kernel_rfl)) (by omega) (show 15<32 by decide) rfl
      exact rd_skip rfl (by simp [Region.wanted,hy]) hK
     |12,_=>
      have hy:=yld' hd hA (i:=1) (d:=15) (b:=false) rfl (hb 1 (by kernel_rfl)) (by omega) (show 15<32 by decide) rfl
      exact rd_skip rfl (by simp [Region.wanted,hy]) hK
     |13,_=>
      have hy:=yld' hd hA (i:=1) (d:=15) (b:=false) rfl (hb 1 (by kernel_rfl)) (by omega) (show 15<32 by decide) rfl
      exact rd_skip rfl (by simp [Region.wanted,hy]) hK
    case fin=>
     intro a' listed hA hl1 hl2
     obtain rfl:listed=#[true,true,true,true,true,true,true,true,true,true,true,true,true,true,false,false,false]:=list_eq hl1 hl2 rfl
     obtain rfl:=at_eq (m:=32) hA rfl (tm:=#[(.func (.yield l) #[] #[]),(.pointer (some ⟨Bs,0,none⟩)),undef,(.int .i64 (k:Int)),(.bool false),(.pointer (some ⟨Bs,3,none⟩)),(.pointer (some ⟨Bs,4,none⟩)),(.slice (some ⟨ub,uo,none⟩) ul uc),(.int .i64 (ul:Int)),(.int .i64 (k:Int)),(.bool true),(.int .i64 (k:Int)),(.pointer (some ⟨ub,uo+k,none⟩)),(.bool false),(.bool false),(.bool false),undef,undef,undef,undef,undef,undef,undef,undef,undef,undef,undef,undef,u28,u29,u30,u31]) (by kernel_rfl)
     refine wpAnyIn_all (rs:=[14]) (by kernel_rfl) (by simp) (fun i hi=>?_)
     obtain rfl:=List.mem_singleton.1 hi
     refine rd_skip rfl rfl ?_
     show wpAnyIn _ _ _ _ _ _ _ _ ({tmps:=#[(.func (.yield l) #[] #[]),(.pointer (some ⟨Bs,0,none⟩)),undef,(.int .i64 (k:Int)),(.bool false),(.pointer (some ⟨Bs,3,none⟩)),(.pointer (some ⟨Bs,4,none⟩)),(.slice (some ⟨ub,uo,none⟩) ul uc),(.int .i64 (ul:Int)),(.int .i64 (k:Int)),(.bool true),(.int .i64 (k:Int)),(.pointer (some ⟨ub,uo+k,none⟩)),(.bool false),(.bool false),(.bool false),undef,undef,undef,undef,undef,undef,undef,undef,undef,undef,undef,undef,undef,u29,u30,u31],defers:=[]}:Act) _
     refine wpAnyIn_all (rs:=[15]) (by kernel_rfl) (by simp) (fun i hi=>?_)
     obtain rfl:=List.mem_singleton.1 hi
     refine rd_skip rfl rfl ?_
     show wpAnyIn _ _ _ _ _ _ _ _ ({tmps:=#[(.func (.yield l) #[] #[]),(.pointer (some ⟨Bs,0,none⟩)),undef,(.int .i64 (k:Int)),(.bool false),(.pointer (some ⟨Bs,3,none⟩)),(.pointer (some ⟨Bs,4,none⟩)),(.slice (some ⟨ub,uo,none⟩) ul uc),(.int .i64 (ul:Int)),(.int .i64 (k:Int)),(.bool true),(.int .i64 (k:Int)),(.pointer (some ⟨ub,uo+k,none⟩)),(.bool false),(.bool false),(.bool false),undef,undef,undef,undef,undef,undef,undef,undef,undef,undef,undef,undef,undef,undef,u30,u31],defers:=[]}:Act) _
     refine wpAnyIn_all (rs:=[16]) (by kernel_rfl) (by simp) (fun i hi=>?_)
     obtain rfl:=List.mem_singleton.1 hi
     refine rd_val (v:=.bool false) rfl rfl (by go_simp) ?_
     show wpAnyIn _ _ _ _ _ _ _ _ ({tmps:=#[(.func (.yield l) #[] #[]),(.pointer (some ⟨Bs,0,none⟩)),undef,(.int .i64 (k:Int)),(.bool false),(.pointer (some ⟨Bs,3,none⟩)),(.pointer (some ⟨Bs,4,none⟩)),(.slice (some ⟨ub,uo,none⟩) ul uc),(.int .i64 (ul:Int)),(.int .i64 (k:Int)),(.bool true),(.int .i64 (k:Int)),(.pointer (some ⟨ub,uo+k,none⟩)),(.bool false),(.bool false),(.bool false),undef,undef,undef,undef,undef,undef,undef,undef,undef,undef,undef,undef,undef,undef,(.bool false),u31],defers:=[]}:Act) _
     refine ⟨by kernel_rfl,?_⟩
     gi_wp2
     go_roundw
     case rel=>exact ⟨k+1,by omega,by simp,by rw [come_no hu];exact hJq,hBq⟩
     case measure=>simp [RowKit.intOf];omega
   |true=>
    obtain ⟨hkl,kb,ko,rfl,hkb,hck⟩:=hks k hlt hu
    obtain ⟨hbl,bb,bo,rfl,hbb,hc0,hc1,hc2⟩:=hls k hlt hu
    rw [hu] at hcu
    gi_wp2
    refine wpIn_region_any (by kernel_rfl) ?_
    obtain ⟨wq,hwq⟩:∃wq:World,({wr with drawn:=wr.drawn+1}:World)=wq:=⟨_,rfl⟩
    have hJq:J (come us ks ls k) wq:=hwq▸hdrew _ wr hJs
    have hBq:KeepB Kb W wq:=hwq▸hnx.drew
    rw [hwq]
    have e1:=(hBq.cell (p:=⟨Bs,1,none⟩) hBs).trans h1
    have e2:=(hBq.cell (p:=⟨Bs,2,none⟩) hBs).trans h2
    have e3:=(hBq.cell (p:=⟨kb,ko+k,none⟩) hkb).trans hck
    have c0:=(hBq.cell (p:=⟨bb,bo+k*6,none⟩) hbb).trans hc0
    have c1:=(hBq.cell (p:=⟨bb,bo+k*6+1,none⟩) hbb).trans hc1
    have c2:=(hBq.cell (p:=⟨bb,bo+k*6+2,none⟩) hbb).trans hc2
    refine any_reads (n0:=14) (X:=fun j=>match j with|0=>(.bool true)|1=>(.bool true)|2=>(.func (.yield l) #[] #[])|3=>(.pointer (some ⟨Bs,1,none⟩))|4=>(.slice (some ⟨kb,ko,none⟩) kl kc)|5=>(.int .i64 (k:Int))|6=>(.pointer (some ⟨kb,ko+k,none⟩))|7=>(.int .u32 (ks k))|8=>(.pointer (some ⟨Bs,2,none⟩))|9=>(.slice (some ⟨bb,bo,none⟩) bl bc)|10=>(.int .i64 (k:Int))|11=>(.pointer (some ⟨bb,bo+k*6,none⟩))|12=>(.pointer (some ⟨bb,bo+k*6,none⟩))|13=>(.agg #[.int .i64 (ls k).1,.int .i64 (ls k).2.1,.int .i64 (ls k).2.2])|_=>undef) (by decide) (by kernel_rfl) (dst_inj [14,15,16,17,18,19,20,21,22,23,24,25,26,27,28,29,30] rfl (by decide)) ?sz ?late ?read ?fin 14 (fun _=>false) _ _ (by simp) (fun q hq=>by simp) rfl (fun _ _=>rfl) (fun _ _ h=>by cases h) ⟨rfl,rfl,fun t=>(tv_off 14 t (fun j hj h=>by cases h)).symm⟩
    case sz=>exact fun j d hd=>show d<32 from dst_lt [14,15,16,17,18,19,20,21,22,23,24,25,26,27,28,29,30] rfl (by decide) hd
    case late=>exact late_of (by kernel_rfl)
    case read=>
     intro j hj S a' hb hA hd K hK
     match j,hj with
     |0,_=>
      have h4:=off2 hA [14,15,16,17,18,19,20,21,22,23,24,25,26,27,28,29,30] rfl (n:=14) (by decide) 4 (by omega)
      try dsimp only at h4
      refine rd_val rfl rfl ?_ hK
      go_simp
      try simp [h4,e1,e2,e3,c0,c1,c2,hkl,hbl]
     |1,_=>
      have h14:=on' hd hA (i:=0) (t:=14) rfl (hb 0 (by kernel_rfl)) (by omega)
      try dsimp only at h14
      refine rd_val rfl rfl ?_ hK
      go_simp
      try simp [h14,e1,e2,e3,c0,c1,c2,hkl,hbl]
     |2,_=>
      have h0:=off2 hA [14,15,16,17,18,19,20,21,22,23,24,25,26,27,28,29,30] rfl (n:=14) (by decide) 0 (by omega)
      have hy:=yld' hd hA (i:=1) (d:=15) (b:=true) rfl (hb 1 (by kernel_rfl)) (by omega) (show 15<32 by decide) rfl
      try dsimp only at h0
      refine rd_val rfl (by simp [Region.wanted,hy]) ?_ hK
      go_simp
      try simp [h0,e1,e2,e3,c0,c1,c2,hkl,hbl]
     |3,_=>
      have h1:=off2 hA [14,15,16,17,18,19,20,21,22,23,24,25,26,27,28,29,30] rfl (n:=14) (by decide) 1 (by omega)
      have hy:=yld' hd hA (i:=1) (d:=15) (b:=true) rfl (hb 1 (by kernel_rfl)) (by omega) (show 15<32 by decide) rfl
      try dsimp only at h1
      refine rd_val rfl (by simp [Region.wanted,hy]) ?_ hK
      go_simp
      try simp [h1,e1,e2,e3,c0,c1,c2,hkl,hbl]
     |4,_=>
      have h17:=on' hd hA (i:=3) (t:=17) rfl (hb 3 (by kernel_rfl)) (by omega)
      have hy:=yld' hd hA (i:=1) (d:=15) (b:=true) rfl (hb 1 (by kernel_rfl)) (by omega) (show 15<32 by decide) rfl
      try dsimp only at h17
      refine rd_val rfl (by simp [Region.wanted,hy]) ?_ hK
      go_simp
      try simp [h17,e1,e2,e3,c0,c1,c2,hkl,hbl]
     |5,_=>
      have h3:=off2 hA [14,15,16,17,18,19,20,21,22,23,24,25,26,27,28,29,30] rfl (n:=14) (by decide) 3 (by omega)
      have hy:=yld' hd hA (i:=1) (d:=15) (b:=true) rfl (hb 1 (by kernel_rfl)) (by omega) (show 15<32 by decide) rfl
      try dsimp only at h3
      refine rd_val rfl (by simp [Region.wanted,hy]) ?_ hK
      go_simp
      try simp [h3,e1,e2,e3,c0,c1,c2,hkl,hbl]
     |6,_=>
      have h18:=on' hd hA (i:=4) (t:=18) rfl (hb 4 (by kernel_rfl)) (by omega)
      have h19:=on' hd hA (i:=5) (t:=19) rfl (hb 5 (by kernel_rfl)) (by omega)
      have hy:=yld' hd hA (i:=1) (d:=15) (b:=true) rfl (hb 1 (by kernel_rfl)) (by omega) (show 15<32 by decide) rfl
      try dsimp only at h18 h19
      refine rd_val rfl (by simp [Region.wanted,hy]) ?_ hK
      go_simp
      try simp [h18,h19,e1,e2,e3,c0,c1,c2,hkl,hbl]
     |7,_=>
      have h20:=on' hd hA (i:=6) (t:=20) rfl (hb 6 (by kernel_rfl)) (by omega)
      have hy:=yld' hd hA (i:=1) (d:=15) (b:=true) rfl (hb 1 (by kernel_rfl)) (by omega) (show 15<32 by decide) rfl
      try dsimp only at h20
      refine rd_val rfl (by simp [Region.wanted,hy]) ?_ hK
      go_simp
      try simp [h20,e1,e2,e3,c0,c1,c2,hkl,hbl]
     |8,_=>
      have h1:=off2 hA [14,15,16,17,18,19,20,21,22,23,24,25,26,27,28,29,30] rfl (n:=14) (by decide) 1 (by omega)
      have hy:=yld' hd hA (i:=1) (d:=15) (b:=true) rfl (hb 1 (by kernel_rfl)) (by omega) (show 15<32 by decide) rfl
      try dsimp only at h1
      refine rd_val rfl (by simp [Region.wanted,hy]) ?_ hK
      go_simp
      try simp [h1,e1,e2,e3,c0,c1,c2,hkl,hbl]
     |9,_=>
      have h22:=on' hd hA (i:=8) (t:=22) rfl (hb 8 (by kernel_rfl)) (by omega)
      have hy:=yld' hd hA (i:=1) (d:=15) (b:=true) rfl (hb 1 (by kernel_rfl)) (by omega) (show 15<32 by decide) rfl
      try dsimp only at h22
      refine rd_val rfl (by simp [Region.wanted,hy]) ?_ hK
      go_simp
      try simp [h22,e1,e2,e3,c0,c1,c2,hkl,hbl]
     |10,_=>
      have h3:=off2 hA [14,15,16,17,18,19,20,21,22,23,24,25,26,27,28,29,30] rfl (n:=14) (by decide) 3 (by omega)
      have hy:=yld' hd hA (i:=1) (d:=15) (b:=true) rfl (hb 1 (by kernel_rfl)) (by omega) (show 15<32 by decide) rfl
      try dsimp only at h3
      refine rd_val rfl (by simp [Region.wanted,hy]) ?_ hK
      go_simp
      try simp [h3,e1,e2,e3,c0,c1,c2,hkl,hbl]
     |11,_=>
      have h23:=on' hd hA (i:=9) (t:=23) rfl (hb 9 (by kernel_rfl)) (by omega)
      have h24:=on' hd hA (i:=10) (t:=24) rfl (hb 10 (by kernel_rfl)) (by omega)
      have hy:=yld' hd hA (i:=1) (d:=15) (b:=true) rfl (hb 1 (by kernel_rfl)) (by omega) (show 15<32 by decide) rfl
      try dsimp only at h23 h24
      refine rd_val rfl (by simp [Region.wanted,hy]) ?_ hK
      go_simp
      try simp [h23,h24,e1,e2,e3,c0,c1,c2,hkl,hbl]
     |12,_=>
      have h25:=on' hd hA (i:=11) (t:=25) rfl (hb 11 (by kernel_rfl)) (by omega)
      have hy:=yld' hd hA (i:=1) (d:=15) (b:=true) rfl (hb 1 (by kernel_rfl)) (by omega) (show 15<32 by decide) rfl
      try dsimp only at h25
      refine rd_val rfl (by simp [Region.wanted,hy]) ?_ hK
      go_simp
      try simp [h25,e1,e2,e3,c0,c1,c2,hkl,hbl]
     |13,_=>
      have h26:=on' hd hA (i:=12) (t:=26) rfl (hb 12 (by kernel_rfl)) (by omega)
      have hy:=yld' hd hA (i:=1) (d:=15) (b:=true) rfl (hb 1 (by kernel_rfl)) (by omega) (show 15<32 by decide) rfl
      try dsimp only at h26
      refine rd_val rfl (by simp [Region.wanted,hy]) ?_ hK
      go_simp
      try simp [h26,e1,e2,e3,c0,c1,c2,hkl,hbl]
    case fin=>
     intro a' listed hA hl1 hl2
     obtain rfl:listed=#[true,true,true,true,true,true,true,true,true,true,true,true,true,true,false,false,false]:=list_eq hl1 hl2 rfl
     obtain rfl:=at_eq (m:=32) hA rfl (tm:=#[(.func (.yield l) #[] #[]),(.pointer (some ⟨Bs,0,none⟩)),undef,(.int .i64 (k:Int)),(.bool true),(.pointer (some ⟨Bs,3,none⟩)),(.pointer (some ⟨Bs,4,none⟩)),(.slice (some ⟨ub,uo,none⟩) ul uc),(.int .i64 (ul:Int)),(.int .i64 (k:Int)),(.bool true),(.int .i64 (k:Int)),(.pointer (some ⟨ub,uo+k,none⟩)),(.bool true),(.bool true),(.bool true),(.func (.yield l) #[] #[]),(.pointer (some ⟨Bs,1,none⟩)),(.slice (some ⟨kb,ko,none⟩) kl kc),(.int .i64 (k:Int)),(.pointer (some ⟨kb,ko+k,none⟩)),(.int .u32 (ks k)),(.pointer (some ⟨Bs,2,none⟩)),(.slice (some ⟨bb,bo,none⟩) bl bc),(.int .i64 (k:Int)),(.pointer (some ⟨bb,bo+k*6,none⟩)),(.pointer (some ⟨bb,bo+k*6,none⟩)),(.agg #[.int .i64 (ls k).1,.int .i64 (ls k).2.1,.int .i64 (ls k).2.2]),u28,u29,u30,u31]) (by kernel_rfl)
     have hlen:(come us ks ls k).length<(come us ks ls ul).length:=by
      have:=come_mono (us:=us) (ks:=ks) (ls:=ls) (ul - (k+1)) (k+1)
      rw [show k+1+(ul - (k+1))=ul by omega,come_yes hu,List.length_append,List.length_singleton] at this
      omega
     obtain ⟨fn,tmps,assign,body,hy,hR⟩:=hY _ (ks k,ls k) wq hJq hlen
     unfold encs at hy
     dsimp only at hy
     refine wpAnyIn_all (rs:=[14]) (by kernel_rfl) (by simp) (fun i hi=>?_)
     obtain rfl:=List.mem_singleton.1 hi
     refine rd_round (l:=l) (fn:=fn) (tmps:=tmps) (assign:=assign) (body:=body) rfl rfl (by go_simp;try simp [hy]) (hR.mono ?_)
     rintro e W3 (⟨rfl,hJ3,hk3⟩|⟨rfl,hJx3⟩)
     ·refine ⟨_,rfl,?_⟩
      show wpAnyIn _ _ _ _ _ _ _ _ ({tmps:=#[(.func (.yield l) #[] #[]),(.pointer (some ⟨Bs,0,none⟩)),undef,(.int .i64 (k:Int)),(.bool true),(.pointer (some ⟨Bs,3,none⟩)),(.pointer (some ⟨Bs,4,none⟩)),(.slice (some ⟨ub,uo,none⟩) ul uc),(.int .i64 (ul:Int)),(.int .i64 (k:Int)),(.bool true),(.int .i64 (k:Int)),(.pointer (some ⟨ub,uo+k,none⟩)),(.bool true),(.bool true),(.bool true),(.func (.yield l) #[] #[]),(.pointer (some ⟨Bs,1,none⟩)),(.slice (some ⟨kb,ko,none⟩) kl kc),(.int .i64 (k:Int)),(.pointer (some ⟨kb,ko+k,none⟩)),(.int .u32 (ks k)),(.pointer (some ⟨Bs,2,none⟩)),(.slice (some ⟨bb,bo,none⟩) bl bc),(.int .i64 (k:Int)),(.pointer (some ⟨bb,bo+k*6,none⟩)),(.pointer (some ⟨bb,bo+k*6,none⟩)),(.agg #[.int .i64 (ls k).1,.int .i64 (ls k).2.1,.int .i64 (ls k).2.2]),(.bool true),u29,u30,u31],defers:=[]}:Act) _
      refine wpAnyIn_all (rs:=[15]) (by kernel_rfl) (by simp) (fun i hi=>?_)
      obtain rfl:=List.mem_singleton.1 hi
      refine rd_val (v:=.bool false) rfl rfl (by go_simp) ?_
      show wpAnyIn _ _ _ _ _ _ _ _ ({tmps:=#[(.func (.yield l) #[] #[]),(.pointer (some ⟨Bs,0,none⟩)),undef,(.int .i64 (k:Int)),(.bool true),(.pointer (some ⟨Bs,3,none⟩)),(.pointer (some ⟨Bs,4,none⟩)),(.slice (some ⟨ub,uo,none⟩) ul uc),(.int .i64 (ul:Int)),(.int .i64 (k:Int)),(.bool true),(.int .i64 (k:Int)),(.pointer (some ⟨ub,uo+k,none⟩)),(.bool true),(.bool true),(.bool true),(.func (.yield l) #[] #[]),(.pointer (some ⟨Bs,1,none⟩)),(.slice (some ⟨kb,ko,none⟩) kl kc),(.int .i64 (k:Int)),(.pointer (some ⟨kb,ko+k,none⟩)),(.int .u32 (ks k)),(.pointer (some ⟨Bs,2,none⟩)),(.slice (some ⟨bb,bo,none⟩) bl bc),(.int .i64 (k:Int)),(.pointer (some ⟨bb,bo+k*6,none⟩)),(.pointer (some ⟨bb,bo+k*6,none⟩)),(.agg #[.int .i64 (ls k).1,.int .i64 (ls k).2.1,.int .i64 (ls k).2.2]),(.bool true),(.bool false),u30,u31],defers:=[]}:Act) _
      refine wpAnyIn_all (rs:=[16]) (by kernel_rfl) (by simp) (fun i hi=>?_)
      obtain rfl:=List.mem_singleton.1 hi
      refine rd_val (v:=.bool false) rfl rfl (by go_simp) ?_
      show wpAnyIn _ _ _ _ _ _ _ _ ({tmps:=#[(.func (.yield l) #[] #[]),(.pointer (some ⟨Bs,0,none⟩)),undef,(.int .i64 (k:Int)),(.bool true),(.pointer (some ⟨Bs,3,none⟩)),(.pointer (some ⟨Bs,4,none⟩)),(.slice (some ⟨ub,uo,none⟩) ul uc),(.int .i64 (ul:Int)),(.int .i64 (k:Int)),(.bool true),(.int .i64 (k:Int)),(.pointer (some ⟨ub,uo+k,none⟩)),(.bool true),(.bool true),(.bool true),(.func (.yield l) #[] #[]),(.pointer (some ⟨Bs,1,none⟩)),(.slice (some ⟨kb,ko,none⟩) kl kc),(.int .i64 (k:Int)),(.pointer (some ⟨kb,ko+k,none⟩)),(.int .u32 (ks k)),(.pointer (some ⟨Bs,2,none⟩)),(.slice (some ⟨bb,bo,none⟩) bl bc),(.int .i64 (k:Int)),(.pointer (some ⟨bb,bo+k*6,none⟩)),(.pointer (some ⟨bb,bo+k*6,none⟩)),(.agg #[.int .i64 (ls k).1,.int .i64 (ls k).2.1,.int .i64 (ls k).2.2]),(.bool true),(.bool false),(.bool false),u31],defers:=[]}:Act) _
      refine ⟨by kernel_rfl,?_⟩
      gi_wp2
      go_roundw
      case rel=>exact ⟨k+1,by omega,by simp,by rw [come_yes hu];exact hJ3,hBq.trans hk3⟩
      case measure=>simp [RowKit.intOf];omega
     ·refine ⟨_,rfl,?_⟩
      show wpAnyIn _ _ _ _ _ _ _ _ ({tmps:=#[(.func (.yield l) #[] #[]),(.pointer (some ⟨Bs,0,none⟩)),undef,(.int .i64 (k:Int)),(.bool true),(.pointer (some ⟨Bs,3,none⟩)),(.pointer (some ⟨Bs,4,none⟩)),(.slice (some ⟨ub,uo,none⟩) ul uc),(.int .i64 (ul:Int)),(.int .i64 (k:Int)),(.bool true),(.int .i64 (k:Int)),(.pointer (some ⟨ub,uo+k,none⟩)),(.bool true),(.bool true),(.bool true),(.func (.yield l) #[] #[]),(.pointer (some ⟨Bs,1,none⟩)),(.slice (some ⟨kb,ko,none⟩) kl kc),(.int .i64 (k:Int)),(.pointer (some ⟨kb,ko+k,none⟩)),(.int .u32 (ks k)),(.pointer (some ⟨Bs,2,none⟩)),(.slice (some ⟨bb,bo,none⟩) bl bc),(.int .i64 (k:Int)),(.pointer (some ⟨bb,bo+k*6,none⟩)),(.pointer (some ⟨bb,bo+k*6,none⟩)),(.agg #[.int .i64 (ls k).1,.int .i64 (ls k).2.1,.int .i64 (ls k).2.2]),(.bool false),u29,u30,u31],defers:=[]}:Act) _
      refine wpAnyIn_all (rs:=[15]) (by kernel_rfl) (by simp) (fun i hi=>?_)
      obtain rfl:=List.mem_singleton.1 hi
      refine rd_val (v:=.bool true) rfl rfl (by go_simp) ?_
      show wpAnyIn _ _ _ _ _ _ _ _ ({tmps:=#[(.func (.yield l) #[] #[]),(.pointer (some ⟨Bs,0,none⟩)),undef,(.int .i64 (k:Int)),(.bool true),(.pointer (some ⟨Bs,3,none⟩)),(.pointer (some ⟨Bs,4,none⟩)),(.slice (some ⟨ub,uo,none⟩) ul uc),(.int .i64 (ul:Int)),(.int .i64 (k:Int)),(.bool true),(.int .i64 (k:Int)),(.pointer (some ⟨ub,uo+k,none⟩)),(.bool true),(.bool true),(.bool true),(.func (.yield l) #[] #[]),(.pointer (some ⟨Bs,1,none⟩)),(.slice (some ⟨kb,ko,none⟩) kl kc),(.int .i64 (k:Int)),(.pointer (some ⟨kb,ko+k,none⟩)),(.int .u32 (ks k)),(.pointer (some ⟨Bs,2,none⟩)),(.slice (some ⟨bb,bo,none⟩) bl bc),(.int .i64 (k:Int)),(.pointer (some ⟨bb,bo+k*6,none⟩)),(.pointer (some ⟨bb,bo+k*6,none⟩)),(.agg #[.int .i64 (ls k).1,.int .i64 (ls k).2.1,.int .i64 (ls k).2.2]),(.bool false),(.bool true),u30,u31],defers:=[]}:Act) _
      refine wpAnyIn_all (rs:=[16]) (by kernel_rfl) (by simp) (fun i hi=>?_)
      obtain rfl:=List.mem_singleton.1 hi
      refine rd_val (v:=.bool true) rfl rfl (by go_simp) ?_
      show wpAnyIn _ _ _ _ _ _ _ _ ({tmps:=#[(.func (.yield l) #[] #[]),(.pointer (some ⟨Bs,0,none⟩)),undef,(.int .i64 (k:Int)),(.bool true),(.pointer (some ⟨Bs,3,none⟩)),(.pointer (some ⟨Bs,4,none⟩)),(.slice (some ⟨ub,uo,none⟩) ul uc),(.int .i64 (ul:Int)),(.int .i64 (k:Int)),(.bool true),(.int .i64 (k:Int)),(.pointer (some ⟨ub,uo+k,none⟩)),(.bool true),(.bool true),(.bool true),(.func (.yield l) #[] #[]),(.pointer (some ⟨Bs,1,none⟩)),(.slice (some ⟨kb,ko,none⟩) kl kc),(.int .i64 (k:Int)),(.pointer (some ⟨kb,ko+k,none⟩)),(.int .u32 (ks k)),(.pointer (some ⟨Bs,2,none⟩)),(.slice (some ⟨bb,bo,none⟩) bl bc),(.int .i64 (k:Int)),(.pointer (some ⟨bb,bo+k*6,none⟩)),(.pointer (some ⟨bb,bo+k*6,none⟩)),(.agg #[.int .i64 (ls k).1,.int .i64 (ls k).2.1,.int .i64 (ls k).2.2]),(.bool false),(.bool true),(.bool true),u31],defers:=[]}:Act) _
      refine ⟨by kernel_rfl,?_⟩
      gi_wp2
      refine bodyPost_ret (results_none rfl _ _ _) rfl ?_
      exact ⟨⟨_,rfl⟩,.inr ⟨_,⟨k+1,by omega,(come_yes hu).symm⟩,hJx3⟩⟩
  ·obtain rfl:k=ul:=by omega
   gi_wp2
   go_end0
   exact ⟨⟨_,rfl⟩,.inl ⟨_,rfl,hJs⟩⟩
set_option maxHeartbeats 1000000 in
theorem keyed_in (n:Nat) (cs:Array Value) (hcs:cs.size=11) (w:World):
  CallsIn Fence.wide n Tryz.prog 169 #[.agg cs] w fun e w'=>e=.returned (.func (.func 183) #[] #[.pointer (some ⟨w.heap.size,0,none⟩)])∧w'=w.alloc (.cells cs 64):=by
 refine callsIn_of_wp Tryz.func169 rfl trivial ?_ rfl
 simp only [Tryz.ntmps169,List.size_toArray,List.length_cons,List.length_nil,Nat.reduceAdd,Nat.reduceSub,Array.replicate_succ,Array.replicate_zero,List.push_toArray,List.append_toArray,List.nil_append,List.cons_append]
 gi_wp2
 go_ret
 exact ⟨rfl,rfl⟩
end Go.Proofs.YtkihjakbbcajbaaGreat.Kd
namespace Go.Proofs.YtkihjakbbcajbaaGreat.PM
set_option linter.unusedSimpArgs false
set_option linter.unusedVariables false
open Go Go.Proofs
def evR (E:Env) (ops:List Oper) (nx:Nat) (tm:List (Nat × PV)) (h:Hp):Option (List (Nat × PV) × Hp):=(opsD E ops ops nx tm h [] (fun tm hp _=> .done (tm,hp))).ev fun _ _=>none
def tmR (X:Option (List (Nat × PV) × Hp)):List (Nat × PV):=(X.getD ([],[])).1
def hR (X:Option (List (Nat × PV) × Hp)):Hp:=(X.getD ([],[])).2
theorem evR_some {X:Option (List (Nat × PV) × Hp)} (h:X.isSome=true):X=some (tmR X,hR X):=by
 obtain ⟨x,rfl⟩:=Option.isSome_iff_exists.1 h;rfl
noncomputable def pb:Code:=a9.b
noncomputable def rf1:Code:=subC pb [1,1,1,0,1,0]
noncomputable def rf2:Code:=subC pb [1,1,1,1,0,1,0]
noncomputable def bd1:Code:=rfBdy rf1
noncomputable def bd2:Code:=rfBdy rf2
noncomputable def toL (x:Int × Int × Int × Int):t0.den:=(x.2.1,x.2.2.1,x.2.2.2,())
noncomputable def tmP (p:t7.den):List (Nat × PV):=[(1,.iptr t7 p),(2,.ptr 1 []),(3,.ptr 2 [])]
noncomputable def bx2 (b2 b3:Nat) (n:Int) (s:List t0.den):List BoxF:=[⟨1,b2,.int .i64,n⟩,⟨2,b3,.arr 3 t0,s⟩]
noncomputable def bx3 (b2 b3 b5:Nat) (n:Int) (s:List t0.den) (x:Int × Int × Int × Int):List BoxF:=[⟨1,b2,.int .i64,n⟩,⟨2,b3,.arr 3 t0,s⟩,⟨3,b5,t0,toL x⟩]
noncomputable def hp2 (n:Int) (s:List t0.den):Hp:=hpL (bx2 0 0 n s)
noncomputable def hp3 (n:Int) (s:List t0.den) (x:Int × Int × Int × Int):Hp:=hpL (bx3 0 0 0 n s x)
noncomputable def a1:List Oper:=regOps (rfAsg rf1)
noncomputable def r6:List Oper:=regOps (subC bd1 [0,0])
noncomputable def r7:List Oper:=regOps (subC bd1 [0,1,0])
noncomputable def r8:List Oper:=regOps (subC bd1 [0,1,1,0,0])
theorem a1_eq:rfAsg rf1=.region 5 a1.toArray false:=by kernel_rfl
theorem bd1_eq:bd1=.block 1 (.seq (.region 6 r6.toArray false) (.seq (.region 7 r7.toArray false) (.cond (.tmp 57) (.seq (.region 8 r8.toArray false) .ret) .skip))):=by kernel_rfl
noncomputable def qa1 (p:t7.den) (n:Int) (s:List t0.den) (x:Int × Int × Int × Int):=evR a9.E a1 1000 ((51,mk t0 (toL x))::(50,.v (.int .u32) x.1)::tmP p) (hp2 n s)
theorem qa1_ok (p:t7.den) (n:Int) (s:List t0.den) (x:Int × Int × Int × Int):(qa1 p n s x).isSome=true:=by kernel_rfl
theorem qa1_5 (p:t7.den) (n:Int) (s:List t0.den) (x:Int × Int × Int × Int):look 5 (tmR (qa1 p n s x))=some (.ptr 1000 []):=by kernel_rfl
theorem qa1_b (p:t7.den) (n:Int) (s:List t0.den) (x:Int × Int × Int × Int):(hR (qa1 p n s x)).at 1000=some (.box (mk t0 (toL x))):=by kernel_rfl
theorem qa1_1 (p:t7.den) (n:Int) (s:List t0.den) (x:Int × Int × Int × Int):(hR (qa1 p n s x)).at 1=some (.box (.v (.int .i64) n)):=by kernel_rfl
theorem qa1_2 (p:t7.den) (n:Int) (s:List t0.den) (x:Int × Int × Int × Int):(hR (qa1 p n s x)).at 2=some (.box (.v (.arr 3 t0) s)):=by kernel_rfl
noncomputable def q6 (p:t7.den) (n:Int) (s:List t0.den) (x:Int × Int × Int × Int):=evR a9.E r6 2000 ((5,.ptr 3 [])::tmP p) (hp3 n s x)
theorem q6_ok (p:t7.den) (n:Int) (s:List t0.den) (x:Int × Int × Int × Int):(q6 p n s x).isSome=true:=by kernel_rfl
noncomputable def q7 (p:t7.den) (n:Int) (s:List t0.den) (x:Int × Int × Int × Int):=evR a9.E r7 3000 (tmR (q6 p n s x)) (hR (q6 p n s x))
theorem q7_ok (p:t7.den) (n:Int) (s:List t0.den) (x:Int × Int × Int × Int):(q7 p n s x).isSome=true:=by kernel_rfl
theorem q7_57 (p:t7.den) (n:Int) (s:List t0.den) (x:Int × Int × Int × Int):look 57 (tmR (q7 p n s x))=some (.v .bool (!(Ty.beq (.arr 3 t0) (List.set s 1 (toL x)) p.2.1))):=by kernel_rfl
theorem q7_1 (p:t7.den) (n:Int) (s:List t0.den) (x:Int × Int × Int × Int):(hR (q7 p n s x)).at 1=some (.box (.v (.int .i64) n)):=by kernel_rfl
theorem q7_2 (p:t7.den) (n:Int) (s:List t0.den) (x:Int × Int × Int × Int):(hR (q7 p n s x)).at 2=some (.box (.v (.arr 3 t0) (List.set s 1 (toL x)))):=by kernel_rfl
noncomputable def q8 (p:t7.den) (n:Int) (s:List t0.den) (x:Int × Int × Int × Int):=evR a9.E r8 4000 (tmR (q7 p n s x)) (hR (q7 p n s x))
theorem q8_ok (p:t7.den) (n:Int) (s:List t0.den) (x:Int × Int × Int × Int):(q8 p n s x).isSome=true:=by kernel_rfl
theorem q8_1 (p:t7.den) (n:Int) (s:List t0.den) (x:Int × Int × Int × Int):(hR (q8 p n s x)).at 1=some (.box (.v (.int .i64) 8)):=by kernel_rfl
theorem q8_2 (p:t7.den) (n:Int) (s:List t0.den) (x:Int × Int × Int × Int):(hR (q8 p n s x)).at 2=some (.box (.v (.arr 3 t0) (List.set s 1 (toL x)))):=by kernel_rfl
noncomputable def a2:List Oper:=regOps (subC (rfAsg rf2) [0])
noncomputable def a3:List Oper:=regOps (subC (rfAsg rf2) [1])
noncomputable def r12:List Oper:=regOps (subC bd2 [0,0])
noncomputable def r13:List Oper:=regOps (subC bd2 [0,1,0])
noncomputable def r14:List Oper:=regOps (subC bd2 [0,1,1,0,0])
theorem a2_eq:rfAsg rf2=.seq (.region 10 a2.toArray false) (.region 11 a3.toArray false):=by kernel_rfl
theorem bd2_eq:bd2=.block 3 (.seq (.region 12 r12.toArray false) (.seq (.region 13 r13.toArray false) (.cond (.tmp 72) (.seq (.region 14 r14.toArray false) .ret) .skip))):=by kernel_rfl
noncomputable def qa2 (p:t7.den) (n:Int) (s:List t0.den) (x:Int × Int × Int × Int):=evR a9.E a2 1000 ((62,mk t0 (toL x))::(61,.v (.int .u32) x.1)::tmP p) (hp2 n s)
theorem qa2_ok (p:t7.den) (n:Int) (s:List t0.den) (x:Int × Int × Int × Int):(qa2 p n s x).isSome=true:=by kernel_rfl
noncomputable def qa3 (p:t7.den) (n:Int) (s:List t0.den) (x:Int × Int × Int × Int):=evR a9.E a3 2000 (tmR (qa2 p n s x)) (hR (qa2 p n s x))
theorem qa3_ok (p:t7.den) (n:Int) (s:List t0.den) (x:Int × Int × Int × Int):(qa3 p n s x).isSome=true:=by kernel_rfl
theorem qa3_6 (p:t7.den) (n:Int) (s:List t0.den) (x:Int × Int × Int × Int):look 6 (tmR (qa3 p n s x))=some (.v (.int .u32) x.1):=by kernel_rfl
theorem qa3_7 (p:t7.den) (n:Int) (s:List t0.den) (x:Int × Int × Int × Int):look 7 (tmR (qa3 p n s x))=some (.ptr 2000 []):=by kernel_rfl
theorem qa3_b (p:t7.den) (n:Int) (s:List t0.den) (x:Int × Int × Int × Int):(hR (qa3 p n s x)).at 2000=some (.box (mk t0 (toL x))):=by kernel_rfl
theorem qa3_1 (p:t7.den) (n:Int) (s:List t0.den) (x:Int × Int × Int × Int):(hR (qa3 p n s x)).at 1=some (.box (.v (.int .i64) n)):=by kernel_rfl
theorem qa3_2 (p:t7.den) (n:Int) (s:List t0.den) (x:Int × Int × Int × Int):(hR (qa3 p n s x)).at 2=some (.box (.v (.arr 3 t0) s)):=by kernel_rfl
noncomputable def q12 (p:t7.den) (n:Int) (s:List t0.den) (x:Int × Int × Int × Int):=evR a9.E r12 2000 ((7,.ptr 3 [])::(6,.v (.int .u32) x.1)::tmP p) (hp3 n s x)
theorem q12_ok (p:t7.den) (n:Int) (s:List t0.den) (x:Int × Int × Int × Int):(q12 p n s x).isSome=true:=by kernel_rfl
def brT {ρ:Type}:DT ρ→DT ρ
 |.br _ x _=>x
 |d=>d
def brF {ρ:Type}:DT ρ→DT ρ
 |.br _ _ y=>y
 |d=>d
noncomputable def d13 (p:t7.den) (n:Int) (s:List t0.den) (x:Int × Int × Int × Int):DT (List (Nat × PV) × Hp):=opsD a9.E r13 r13 3000 (tmR (q12 p n s x)) (hR (q12 p n s x)) [] (fun tm hp _=> .done (tm,hp))
noncomputable def q13 (p:t7.den) (n:Int) (s:List t0.den) (x:Int × Int × Int × Int):=evR a9.E r13 3000 (tmR (q12 p n s x)) (hR (q12 p n s x))
noncomputable def q13a (p:t7.den) (n:Int) (s:List t0.den) (x:Int × Int × Int × Int):=(brT (d13 p n s x)).ev fun _ _=>none
noncomputable def q13b (p:t7.den) (n:Int) (s:List t0.den) (x:Int × Int × Int × Int):=(brF (d13 p n s x)).ev fun _ _=>none
theorem d13_eq (p:t7.den) (n:Int) (s:List t0.den) (x:Int × Int × Int × Int):d13 p n s x=.br (!(Ty.beq (.arr 3 t0) (List.set s 2 (toL x)) p.2.1)) (brT (d13 p n s x)) (brF (d13 p n s x)):=by kernel_rfl
theorem q13_eq (p:t7.den) (n:Int) (s:List t0.den) (x:Int × Int × Int × Int):q13 p n s x=cond (!(Ty.beq (.arr 3 t0) (List.set s 2 (toL x)) p.2.1)) (q13a p n s x) (q13b p n s x):=by
 show (d13 p n s x).ev _=_
 rw [d13_eq];rfl
theorem q13a_ok (p:t7.den) (n:Int) (s:List t0.den) (x:Int × Int × Int × Int):(q13a p n s x).isSome=true:=by kernel_rfl
theorem q13b_ok (p:t7.den) (n:Int) (s:List t0.den) (x:Int × Int × Int × Int):(q13b p n s x).isSome=true:=by kernel_rfl
theorem q13a_72 (p:t7.den) (n:Int) (s:List t0.den) (x:Int × Int × Int × Int):look 72 (tmR (q13a p n s x))=some (.v .bool true):=by kernel_rfl
theorem q13b_72 (p:t7.den) (n:Int) (s:List t0.den) (x:Int × Int × Int × Int):look 72 (tmR (q13b p n s x))=some (.v .bool (decide (x.1>65535))):=by kernel_rfl
theorem q13b_1 (p:t7.den) (n:Int) (s:List t0.den) (x:Int × Int × Int × Int):(hR (q13b p n s x)).at 1=some (.box (.v (.int .i64) n)):=by kernel_rfl
theorem q13b_2 (p:t7.den) (n:Int) (s:List t0.den) (x:Int × Int × Int × Int):(hR (q13b p n s x)).at 2=some (.box (.v (.arr 3 t0) (List.set s 2 (toL x)))):=by kernel_rfl
noncomputable def q14a (p:t7.den) (n:Int) (s:List t0.den) (x:Int × Int × Int × Int):=evR a9.E r14 4000 (tmR (q13a p n s x)) (hR (q13a p n s x))
noncomputable def q14b (p:t7.den) (n:Int) (s:List t0.den) (x:Int × Int × Int × Int):=evR a9.E r14 4000 (tmR (q13b p n s x)) (hR (q13b p n s x))
theorem q14a_ok (p:t7.den) (n:Int) (s:List t0.den) (x:Int × Int × Int × Int):(q14a p n s x).isSome=true:=by kernel_rfl
theorem q14b_ok (p:t7.den) (n:Int) (s:List t0.den) (x:Int × Int × Int × Int):(q14b p n s x).isSome=true:=by kernel_rfl
theorem q14a_1 (p:t7.den) (n:Int) (s:List t0.den) (x:Int × Int × Int × Int):(hR (q14a p n s x)).at 1=some (.box (.v (.int .i64) 8)):=by kernel_rfl
theorem q14a_2 (p:t7.den) (n:Int) (s:List t0.den) (x:Int × Int × Int × Int):(hR (q14a p n s x)).at 2=some (.box (.v (.arr 3 t0) (List.set s 2 (toL x)))):=by kernel_rfl
theorem q14b_1 (p:t7.den) (n:Int) (s:List t0.den) (x:Int × Int × Int × Int):(hR (q14b p n s x)).at 1=some (.box (.v (.int .i64) 8)):=by kernel_rfl
theorem q14b_2 (p:t7.den) (n:Int) (s:List t0.den) (x:Int × Int × Int × Int):(hR (q14b p n s x)).at 2=some (.box (.v (.arr 3 t0) (List.set s 2 (toL x)))):=by kernel_rfl
noncomputable def r3:List Oper:=regOps (subC pb [1,1,0])
noncomputable def r4:Array Oper:=(regOps (subC pb [1,1,1,0,0])).toArray
noncomputable def r9:Array Oper:=(regOps (subC pb [1,1,1,1,0,0])).toArray
noncomputable def ct:Code:=subC pb [1,1,1,1,1]
theorem k1_eq:atJoin a9.b [1,0,1]=[.code (.seq (.region 3 r3.toArray false) (.seq (.seq (.region 4 r4 false) (.block 0 (.rangeFunc (.tmp 49) #[50,51] (rfAsg rf1) bd1))) (.seq (.seq (.region 9 r9 false) (.block 2 (.rangeFunc (.tmp 60) #[61,62] (rfAsg rf2) bd2))) ct)))]:=by kernel_rfl
end Go.Proofs.YtkihjakbbcajbaaGreat.PM
namespace Go.Proofs.YtkihjakbbcajbaaGreat.PM
set_option linter.unusedSimpArgs false
set_option linter.unusedVariables false
open Go Go.Proofs Go.Proofs.YtkihjakbbcajbaaGreat.Kd
def goR {S X:Type} (st:S→X→Option S):List X→S→Option S
 |[],s=>some s
 |x::xs,s=>(st s x).bind (goR st xs)
theorem goR_app {S X:Type} {st:S→X→Option S}:∀(xs ys:List X) (s:S),goR st (xs++ys) s=(goR st xs s).bind (goR st ys)
 |[],_,_=>rfl
 |x::xs,ys,s=>by
  show (st s x).bind (goR st (xs++ys))=((st s x).bind (goR st xs)).bind (goR st ys)
  cases st s x with
  |none=>rfl
  |some s'=>exact goR_app xs ys s'
def Wb (w:World) (b2 b3:Nat):Nat→Prop:=fun r=>w.heap.size≤r∨r=b2∨r=b3
structure Ground (A:Nat→Prop) (w:World) (b1 b2 b3:Nat) (c1:List Value) (p:t7.den):Prop where
 gl:GlOk globs A w
 lt:∀r,A r→r<w.heap.size
 hb1:A b1
 at1:At w ⟨b1,0,none⟩ c1
 rel:TRel A w t7 c1 p
 n2:¬A b2
 n3:¬A b3
 lt2:b2<w.heap.size
 lt3:b3<w.heap.size
structure Inv (A:Nat→Prop) (w:World) (b2 b3:Nat) (n:Int) (s:List t0.den) (W:World):Prop where
 bx:Boxes A W (bx2 b2 b3 n s)
 keep:Keep (Wb w b2 b3) w W
def Pts (b1 b2 b3:Nat) (a:Act):Prop:=a.tmps.size=104∧a.tmps.getD 1 undef=.pointer (some ⟨b1,0,none⟩)∧a.tmps.getD 2 undef=.pointer (some ⟨b2,0,none⟩)∧a.tmps.getD 3 undef=.pointer (some ⟨b3,0,none⟩)
section
variable {A:Nat→Prop} {w:World} {b1 b2 b3:Nat} {c1:List Value} {p:t7.den} {n:Int} {s:List t0.den} {W:World}
theorem Ground.same (G:Ground A w b1 b2 b3 c1 p) (k:Keep (Wb w b2 b3) w W) (r:Nat) (hr:A r):W.heap[r]?=w.heap[r]?:=
 k.block r (G.lt r hr) (fun h=>by
  rcases h with h|rfl|rfl
  ·have:=G.lt r hr;omega
  ·exact G.n2 hr
  ·exact G.n3 hr)
theorem Ground.glAt (G:Ground A w b1 b2 b3 c1 p) (k:Keep (Wb w b2 b3) w W):GlOk globs A W:=G.gl.mono (fun _ h=>h) (G.same k)
theorem Ground.iptr (G:Ground A w b1 b2 b3 c1 p) (k:Keep (Wb w b2 b3) w W) (g:Gh):VRel g A W (.iptr t7 p) (.pointer (some ⟨b1,0,none⟩)):=
 mk_iptr (c:=c1) rfl G.hb1 (At.mono (G.same k b1 G.hb1) G.at1) (TRel.mono (fun _ h=>h) (G.same k) _ _ _ G.rel)
theorem tmP_ok (G:Ground A w b1 b2 b3 c1 p) (k:Keep (Wb w b2 b3) w W) {a:Act} (hp:Pts b1 b2 b3 a) {l:List BoxF} (g2:gL l 1=some ⟨some b2,0,0⟩) (g3:gL l 2=some ⟨some b3,0,0⟩):
  ∀t x,look t (tmP p)=some x→t<104∧VRel (gL l) A W x (a.tmps.getD t undef):=fun t x h=>by
 obtain ⟨_,h1,h2,h3⟩:=hp
 unfold tmP at h
 rw [look_cons] at h
 split at h
 ·rename_i e;subst e
  injection h with h;subst h
  exact ⟨by decide,by rw [h1];exact G.iptr k _⟩
 ·rw [look_cons] at h
  split at h
  ·rename_i e;subst e
   injection h with h;subst h
   exact ⟨by decide,by rw [h2];exact mk_ptr (p:=[]) g2 rfl trivial⟩
  ·rw [look_cons] at h
   split at h
   ·rename_i e;subst e
    injection h with h;subst h
    exact ⟨by decide,by rw [h3];exact mk_ptr (p:=[]) g3 rfl trivial⟩
   ·cases h
theorem tm_cons {g:Gh} {a:Act} {tm:List (Nat × PV)} {d:Nat} {y:PV} (hd:d<104) (hy:VRel g A W y (a.tmps.getD d undef)) (h:∀t x,look t tm=some x→t<104∧VRel g A W x (a.tmps.getD t undef)):
  ∀t x,look t ((d,y)::tm)=some x→t<104∧VRel g A W x (a.tmps.getD t undef):=fun t x e=>by
 rw [look_cons] at e
 split at e
 ·rename_i e';subst e'
  injection e with e;subst e
  exact ⟨hd,hy⟩
 ·exact h t x e
theorem new_box {g:Gh} {A':Nat→Prop} {a:Act} {W':World} {tm:List (Nat × PV)} {h:Hp} {l:List BoxF} {gl:List (Nat × PV)} {hg:GlOk gl A W} {nt:Nat} {df:List Deferred} (R:RS (BL hg l nt df) g A' a W' tm h (ioL l)) {id t:Nat} {X:PV}
  (hq:h.at id=some (.box X)) (ht:look t tm=some (.ptr id [])) (hl:∀q∈l,q.id≠id∧∃Y,h.at q.id=some (.box Y)) {τ:Ty} {x:τ.den} (hf:τ.flat=true) (hX:flatV τ X=some x):
  ∃b,a.tmps.getD t undef=.pointer (some ⟨b,0,none⟩)∧W.heap.size≤b∧∃c e,W'.heap[b]?=some (.cells c e (0,0))∧TRel A W' τ c.toList x:=by
 obtain ⟨s,b,c,e,h1,h2,h3,h4⟩:=R.hr.blk id _ hq
 have hv:=(R.tms t _ ht).2
 obtain ⟨s2,b2,k1,k2,k3,_⟩:=rel_ptr hv
 rw [h1] at k1;injection k1 with k1;subst k1
 rw [h2] at k2;injection k2 with k2;subst k2
 obtain ⟨o1,o2⟩:=R.hr.own id _ s b hq rfl h1 h2
 refine ⟨b,k3,?_,c,e,h3,TRel.flat _ _ _ hf (flatV_rel _ _ _ _ h4 hX)⟩
 rcases o2 with o2|⟨q,hql,rfl⟩
 ·exact o2
 ·exfalso
  obtain ⟨hne,Y,hY⟩:=hl q hql
  have hio:=R.io
  have key:∀{m:List BoxF},IoR g (ioL m) (slL m)→∀q∈m,g q.id=some ⟨some q.b,0,0⟩:=by
   intro m
   induction m with
   |nil=>intro _ q hq;cases hq
   |cons r m ih=>
    intro hm q hq
    obtain ⟨⟨i,hi,hgi⟩,h2⟩:=hm
    rcases List.mem_cons.1 hq with rfl|hq
    ·have:i=q.id:=by
      rcases hi with hi|hi
      ·injection hi with hi;exact hi.symm
      ·cases hi
     rw [this] at hgi;exact hgi
    ·exact ih h2 q hq
  have hgq:=key (show IoR g (ioL l) (slL l) from hio) q hql
  exact hne (R.hr.inj q.id id _ _ _ _ q.b hY hq rfl rfl hgq h1 rfl h2)
theorem Inv.own (I:Inv A w b2 b3 n s W) (lt2:b2<w.heap.size) (lt3:b3<w.heap.size) (lt:∀r,A r→r<w.heap.size) {W':World} {row:Option Nat} (hg:W.grownBy W' row) (hr:∀r,row=some r→w.heap.size≤r):Inv A w b2 b3 n s W':=by
 have same:∀r,r<w.heap.size→W'.heap[r]?=W.heap[r]?:=fun r h=>hg.block r (Nat.lt_of_lt_of_le h I.keep.size) (fun e=>by have:=hr r e.symm;omega)
 refine ⟨I.bx.turn (fun r h=>same r ?_) hg.size,I.keep.trans ⟨hg.os,hg.tape,hg.output,hg.size,fun r h hn=>hg.block r h (fun e=>hn (.inl (hr r e.symm)))⟩⟩
 rcases h with h|⟨q,hq,rfl⟩
 ·exact lt r h
 ·unfold bx2 at hq
  simp only [List.mem_cons,List.not_mem_nil,or_false] at hq
  rcases hq with rfl|rfl
  ·exact lt2
  ·exact lt3
end
end Go.Proofs.YtkihjakbbcajbaaGreat.PM
namespace Go.Proofs.YtkihjakbbcajbaaGreat.PM
set_option linter.unusedSimpArgs false
set_option linter.unusedVariables false
open Go Go.Proofs Go.Proofs.YtkihjakbbcajbaaGreat.Kd
section
variable {A:Nat→Prop} {w:World} {b1 b2 b3:Nat} {c1:List Value} {p:t7.den} {n:Int} {s:List t0.den} {W:World}
theorem bx2_sub {b2 b3 b5:Nat} {n m:Int} {s s':List t0.den} {x:Int × Int × Int × Int}:∀q∈bx2 b2 b3 m s',∃r∈bx3 b2 b3 b5 n s x,r.id=q.id∧r.b=q.b:=fun q hq=>by
 unfold bx2 at hq
 simp only [List.mem_cons,List.not_mem_nil,or_false] at hq
 unfold bx3
 rcases hq with rfl|rfl
 ·exact ⟨_,List.mem_cons_self ..,rfl,rfl⟩
 ·exact ⟨_,List.mem_cons_of_mem _ (List.mem_cons_self ..),rfl,rfl⟩
theorem bx2_sub2 {b2 b3:Nat} {n m:Int} {s s':List t0.den}:∀q∈bx2 b2 b3 m s',∃r∈bx2 b2 b3 n s,r.id=q.id∧r.b=q.b:=fun q hq=>by
 unfold bx2 at hq
 simp only [List.mem_cons,List.not_mem_nil,or_false] at hq
 unfold bx2
 rcases hq with rfl|rfl
 ·exact ⟨_,List.mem_cons_self ..,rfl,rfl⟩
 ·exact ⟨_,List.mem_cons_of_mem _ (List.mem_cons_self ..),rfl,rfl⟩
theorem bx2_all {b2 b3:Nat} {m:Int} {s':List t0.den} {h:Hp} (h1:h.at 1=some (.box (.v (.int .i64) m))) (h2:h.at 2=some (.box (.v (.arr 3 t0) s'))):∀q∈bx2 b2 b3 m s',∃X,h.at q.id=some (.box X)∧flatV q.t X=some q.x∧q.t.flat=true:=fun q hq=>by
 unfold bx2 at hq
 simp only [List.mem_cons,List.not_mem_nil,or_false] at hq
 rcases hq with rfl|rfl
 ·exact ⟨_,h1,by kernel_rfl,by kernel_rfl⟩
 ·exact ⟨_,h2,by kernel_rfl,by kernel_rfl⟩
theorem bx2_nd {m:Int} {s':List t0.den} (I:Inv A w b2 b3 n s W):((bx2 b2 b3 m s').map (·.id)).Nodup∧((bx2 b2 b3 m s').map (·.b)).Nodup:=⟨I.bx.ids,I.bx.bs⟩
theorem lim_rel (x:Int × Int × Int × Int):TRel A W t0 [.int .i64 x.2.1,.int .i64 x.2.2.1,.int .i64 x.2.2.2] (toL x):=
 ⟨[_],_,rfl,rfl,[_],_,rfl,rfl,[_],_,rfl,rfl,rfl⟩
theorem lim_vrel {g:Gh} (x:Int × Int × Int × Int):VRel g A W (mk t0 (toL x)) (.agg #[.int .i64 x.2.1,.int .i64 x.2.2.1,.int .i64 x.2.2.2]):=⟨_,rfl,mk_rel t0 (toL x) _ (lim_rel x)⟩
theorem gL2_1 {b2 b3:Nat} {n:Int} {s:List t0.den}:gL (bx2 b2 b3 n s) 1=some ⟨some b2,0,0⟩:=rfl
theorem gL2_2 {b2 b3:Nat} {n:Int} {s:List t0.den}:gL (bx2 b2 b3 n s) 2=some ⟨some b3,0,0⟩:=rfl
theorem gL3_1 {b2 b3 b5:Nat} {n:Int} {s:List t0.den} {x:Int × Int × Int × Int}:gL (bx3 b2 b3 b5 n s x) 1=some ⟨some b2,0,0⟩:=rfl
theorem gL3_2 {b2 b3 b5:Nat} {n:Int} {s:List t0.den} {x:Int × Int × Int × Int}:gL (bx3 b2 b3 b5 n s x) 2=some ⟨some b3,0,0⟩:=rfl
theorem gL3_3 {b2 b3 b5:Nat} {n:Int} {s:List t0.den} {x:Int × Int × Int × Int}:gL (bx3 b2 b3 b5 n s x) 3=some ⟨some b5,0,0⟩:=rfl
theorem bx3_ok (I:Inv A w b2 b3 n s W) (G:Ground A w b1 b2 b3 c1 p) {b5:Nat} {x:Int × Int × Int × Int} (h5:w.heap.size≤b5) (hc:∃c e,W.heap[b5]?=some (.cells c e (0,0))∧TRel A W t0 c.toList (toL x)):Boxes A W (bx3 b2 b3 b5 n s x) where
 cell q hq:=by
  unfold bx3 at hq
  simp only [List.mem_cons,List.not_mem_nil,or_false] at hq
  rcases hq with rfl|rfl|rfl
  ·exact I.bx.cell ⟨1,b2,.int .i64,n⟩ (List.mem_cons_self ..)
  ·exact I.bx.cell ⟨2,b3,.arr 3 t0,s⟩ (List.mem_cons_of_mem _ (List.mem_cons_self ..))
  ·exact hc
 out q hq:=by
  unfold bx3 at hq
  simp only [List.mem_cons,List.not_mem_nil,or_false] at hq
  rcases hq with rfl|rfl|rfl
  ·exact G.n2
  ·exact G.n3
  ·exact fun h=>by have:=G.lt _ h;simp only at this;omega
 ids:=by unfold bx3;simp
 bs:=by
  have h23:=I.bx.bs
  unfold bx2 at h23
  simp only [List.map_cons,List.map_nil,List.nodup_cons,List.mem_cons,List.not_mem_nil,or_false,not_false_eq_true,List.nodup_nil,and_true] at h23
  unfold bx3
  have:=G.lt2
  have:=G.lt3
  simp only [List.map_cons,List.map_nil,List.nodup_cons,List.mem_cons,List.not_mem_nil,or_false,not_false_eq_true,List.nodup_nil,and_true]
  omega
 lt:=I.bx.lt
def Kp (A:Nat→Prop) (w:World) (Bs:Nat) (W W':World):Prop:=KeepsFrom w.heap.size W W'∧KeepB (fun r=>A r∨r=Bs) W W'
theorem kp_of {g:Gh} {A':Nat→Prop} {a:Act} {W':World} {tm:List (Nat × PV)} {h:Hp} {l:List BoxF} {io:List PV} {hg:GlOk globs A W} {nt:Nat} {df:List Deferred} {Bs:Nat} (R:RS (BL hg l nt df) g A' a W' tm h io) (C:Boxes A W l) (hB:Bs<W.heap.size) (hBl:∀q∈l,q.b≠Bs):Kp A w Bs W W':=by
 refine ⟨kept_of R rfl rfl C _,fun r hr=>?_⟩
 rcases hr with hr|rfl
 ·exact R.same r hr
 ·refine R.keep.block r hB (fun hx=>?_)
  rcases hx with hx|⟨q,hq,rfl⟩
  ·have:W.heap.size≤r:=hx
   omega
  ·exact hBl q hq rfl
noncomputable def st1 (p:t7.den) (s:List t0.den) (x:Int × Int × Int × Int):Option (List t0.den):=bif Ty.beq (.arr 3 t0) (List.set s 1 (toL x)) p.2.1 then some (List.set s 1 (toL x)) else none
noncomputable def st2 (p:t7.den) (s:List t0.den) (x:Int × Int × Int × Int):Option (List t0.den):=bif Ty.beq (.arr 3 t0) (List.set s 2 (toL x)) p.2.1 then (bif decide (x.1>65535) then none else some (List.set s 2 (toL x))) else none
theorem pts_of {b1 b2 b3:Nat} {a a':Act} {ops:List Oper} (hp:Pts b1 b2 b3 a) (hs:a'.tmps.size=104) (hf:∀t,(∀o∈ops,o.dst≠some t)→a'.tmps.getD t undef=a.tmps.getD t undef) (ho:(ops.all fun o=>match o.dst with|some d=>Nat.blt 3 d|none=>true)=true):Pts b1 b2 b3 a':=by
 have h:∀t,t≤3→a'.tmps.getD t undef=a.tmps.getD t undef:=fun t ht=>hf t (fun o hm e=>by
  have:=List.all_eq_true.1 ho o hm
  rw [e] at this
  have this:Nat.blt 3 t=true:=this
  rw [Nat.blt_eq] at this
  omega)
 exact ⟨hs,(h 1 (by omega)).trans hp.2.1,(h 2 (by omega)).trans hp.2.2.1,(h 3 (by omega)).trans hp.2.2.2⟩
def Ax1 (A:Nat→Prop) (w:World) (b1 b2 b3:Nat) (x:Int × Int × Int × Int) (a:Act) (W:World):Prop:=
 Pts b1 b2 b3 a∧a.defers=[]∧∃b5,a.tmps.getD 5 undef=.pointer (some ⟨b5,0,none⟩)∧w.heap.size≤b5∧∃c e,W.heap[b5]?=some (.cells c e (0,0))∧TRel A W t0 c.toList (toL x)
theorem asg1_ok (G:Ground A w b1 b2 b3 c1 p) (I:Inv A w b2 b3 n s W) {a0:Act} (hp:Pts b1 b2 b3 a0) {x:Int × Int × Int × Int} (h50:a0.tmps.getD 50 undef=.int .u32 x.1) (h51:a0.tmps.getD 51 undef=.agg #[.int .i64 x.2.1,.int .i64 x.2.2.1,.int .i64 x.2.2.2]) (hd:a0.defers=[]) {r:Option Nat} {n' Bs:Nat} {K:Act→World→Prop}
  (hB:Bs<w.heap.size) (hB2:b2≠Bs) (hB3:b3≠Bs) (hK:∀a' W',Kp A w Bs W W'→Inv A w b2 b3 n s W'→Ax1 A w b1 b2 b3 x a' W'→K a' W'):(rfAsg rf1).wpIn (rnd r) n' Tryz.prog (Exit.then K (fun _ _ _=>False)) a0 W:=by
 have hg:=G.glAt I.keep
 have R0:=boxes_RS (nt:=104) I.bx hg (a:=a0) (tm:=(51,mk t0 (toL x))::(50,.v (.int .u32) x.1)::tmP p) hp.1
  (tm_cons (by decide) (by rw [h51];exact lim_vrel x) (tm_cons (by decide) (by rw [h50];exact of_int _ _) (tmP_ok G I.keep hp gL2_1 gL2_2)))
 have fin:∀g A' a' W' X,RS (BL hg (bx2 b2 b3 n s) 104 a0.defers) g A' a' W' (tmR X) (hR X) (ioL (bx2 b2 b3 n s))→Pts b1 b2 b3 a'→look 5 (tmR X)=some (.ptr 1000 [])→(hR X).at 1000=some (.box (mk t0 (toL x)))→(hR X).at 1=some (.box (.v (.int .i64) n))→(hR X).at 2=some (.box (.v (.arr 3 t0) s))→K a' W':=by
  intro g A' a' W' X R hp' k1 k2 k3 k4
  have kp:=kp_of (w:=w) (Bs:=Bs) R I.bx (Nat.lt_of_lt_of_le hB I.keep.size) (fun q hq=>by
   unfold bx2 at hq
   simp only [List.mem_cons,List.not_mem_nil,or_false] at hq
   rcases hq with rfl|rfl
   ·exact hB2
   ·exact hB3)
  have hI:Inv A w b2 b3 n s W':=⟨boxes_of rfl R rfl I.bx R.keep.size bx2_sub2 (bx2_nd I).1 (bx2_nd I).2 (bx2_all k3 k4),I.keep.trans ⟨R.keep.os,R.keep.tape,R.keep.output,R.keep.size,fun r hr hn=>R.keep.block r hr (fun hx=>hn (by
   rcases hx with hx|⟨q,hq,rfl⟩
   ·exact .inl (Nat.le_trans I.keep.size hx)
   ·unfold bx2 at hq
    simp only [List.mem_cons,List.not_mem_nil,or_false] at hq
    rcases hq with rfl|rfl
    ·exact .inr (.inl rfl)
    ·exact .inr (.inr rfl)))⟩⟩
  obtain ⟨b5,e1,e2,c,e,e3,e4⟩:=new_box R k2 k1 (fun q hq=>by
   unfold bx2 at hq
   simp only [List.mem_cons,List.not_mem_nil,or_false] at hq
   rcases hq with rfl|rfl
   ·exact ⟨(fun e=>by cases e),_,k3⟩
   ·exact ⟨(fun e=>by cases e),_,k4⟩) (τ:=t0) (x:=toL x) (by kernel_rfl) (by kernel_rfl)
  exact hK a' W' kp hI ⟨hp',R.defs.trans hd,b5,e1,Nat.le_trans I.keep.size e2,c,e,e3,e4⟩
 rw [a1_eq]
 refine regionIn_ok a9.envOk rfl (evR_some (qa1_ok p n s x)) (by kernel_rfl) (by kernel_rfl) R0 (fun g A' a' W' R hf=>?_)
 exact fin g A' a' W' (qa1 p n s x) R (pts_of hp (by rw [R.size];rfl) hf (by kernel_rfl)) (qa1_5 ..) (qa1_b ..) (qa1_1 ..) (qa1_2 ..)
theorem bdy1_ok (G:Ground A w b1 b2 b3 c1 p) (I:Inv A w b2 b3 n s W) {a0:Act} {x:Int × Int × Int × Int} (hAx:Ax1 A w b1 b2 b3 x a0 W) {r:Option Nat} {n' Bs:Nat} {Q:Exit→Act→World→Prop}
  (hB:Bs<w.heap.size) (hB2:b2≠Bs) (hB3:b3≠Bs) (hn:∀a' W' s',Kp A w Bs W W'→st1 p s x=some s'→Inv A w b2 b3 n s' W'→Q .normal a' W') (hr:∀a' W' s',Kp A w Bs W W'→st1 p s x=none→Inv A w b2 b3 8 s' W'→Q .ret a' W'):bd1.wpIn (rnd r) n' Tryz.prog Q a0 W:=by
 obtain ⟨hp,hd,b5,h5,hb5,hc5⟩:=hAx
 have hg:=G.glAt I.keep
 have C:=bx3_ok (x:=x) I G hb5 hc5
 have R0:=boxes_RS (nt:=104) C hg (a:=a0) (tm:=(5,.ptr 3 [])::tmP p) hp.1
  (tm_cons (by decide) (by rw [h5];exact mk_ptr (p:=[]) gL3_3 rfl trivial) (tmP_ok G I.keep hp gL3_1 gL3_2))
 have fin:∀g A' a' W' X m s',RS (BL hg (bx3 b2 b3 b5 n s x) 104 a0.defers) g A' a' W' (tmR X) (hR X) (ioL (bx3 b2 b3 b5 n s x))→(hR X).at 1=some (.box (.v (.int .i64) m))→(hR X).at 2=some (.box (.v (.arr 3 t0) s'))→Kp A w Bs W W'∧Inv A w b2 b3 m s' W':=by
  intro g A' a' W' X m s' R k3 k4
  have kp:=kp_of (w:=w) (Bs:=Bs) R C (Nat.lt_of_lt_of_le hB I.keep.size) (fun q hq=>by
   unfold bx3 at hq
   simp only [List.mem_cons,List.not_mem_nil,or_false] at hq
   rcases hq with rfl|rfl|rfl
   ·exact hB2
   ·exact hB3
   ·exact fun e=>by have e:b5=Bs:=e;omega)
  refine ⟨kp,boxes_of rfl R rfl C R.keep.size bx2_sub (bx2_nd I).1 (bx2_nd I).2 (bx2_all k3 k4),I.keep.trans ⟨R.keep.os,R.keep.tape,R.keep.output,R.keep.size,fun r hr hn=>R.keep.block r hr (fun hx=>hn ?_)⟩⟩
  rcases hx with hx|⟨q,hq,rfl⟩
  ·exact .inl (Nat.le_trans I.keep.size hx)
  ·unfold bx3 at hq
   simp only [List.mem_cons,List.not_mem_nil,or_false] at hq
   rcases hq with rfl|rfl|rfl
   ·exact .inr (.inl rfl)
   ·exact .inr (.inr rfl)
   ·exact .inl hb5
 rw [bd1_eq]
 refine wpIn_block ?_
 refine wpIn_seq ?_
 refine regionIn_ok a9.envOk rfl (evR_some (q6_ok p n s x)) (by kernel_rfl) (by kernel_rfl) R0 (fun g A' a' W' R _=>?_)
 refine wpIn_seq ?_
 refine regionIn_ok a9.envOk rfl (evR_some (q7_ok p n s x)) (by kernel_rfl) (by kernel_rfl) R (fun g A' a' W' R _=>?_)
 have hc:=v_bool (R.tms 57 _ (q7_57 p n s x)).2
 cases hb:Ty.beq (.arr 3 t0) (List.set s 1 (toL x)) p.2.1 with
 |true=>
  rw [hb] at hc
  refine wpIn_cond_false hc (wpIn_skip ?_)
  obtain ⟨kp,hI⟩:=fin g A' a' W' _ _ _ R (q7_1 p n s x) (q7_2 p n s x)
  exact hn a' W' _ kp (by unfold st1;rw [hb];rfl) hI
 |false=>
  rw [hb] at hc
  refine wpIn_cond_true hc (wpIn_seq ?_)
  refine regionIn_ok a9.envOk rfl (evR_some (q8_ok p n s x)) (by kernel_rfl) (by kernel_rfl) R (fun g A' a' W' R _=>?_)
  refine wpIn_ret ?_
  obtain ⟨kp,hI⟩:=fin g A' a' W' _ _ _ R (q8_1 p n s x) (q8_2 p n s x)
  exact hr a' W' _ kp (by unfold st1;rw [hb];rfl) hI
def Ax2 (A:Nat→Prop) (w:World) (b1 b2 b3:Nat) (x:Int × Int × Int × Int) (a:Act) (W:World):Prop:=
 Pts b1 b2 b3 a∧a.defers=[]∧a.tmps.getD 6 undef=.int .u32 x.1∧∃b5,a.tmps.getD 7 undef=.pointer (some ⟨b5,0,none⟩)∧w.heap.size≤b5∧∃c e,W.heap[b5]?=some (.cells c e (0,0))∧TRel A W t0 c.toList (toL x)
theorem asg2_ok (G:Ground A w b1 b2 b3 c1 p) (I:Inv A w b2 b3 n s W) {a0:Act} (hp:Pts b1 b2 b3 a0) {x:Int × Int × Int × Int} (h61:a0.tmps.getD 61 undef=.int .u32 x.1) (h62:a0.tmps.getD 62 undef=.agg #[.int .i64 x.2.1,.int .i64 x.2.2.1,.int .i64 x.2.2.2]) (hd:a0.defers=[]) {r:Option Nat} {n' Bs:Nat} {K:Act→World→Prop}
  (hB:Bs<w.heap.size) (hB2:b2≠Bs) (hB3:b3≠Bs) (hK:∀a' W',Kp A w Bs W W'→Inv A w b2 b3 n s W'→Ax2 A w b1 b2 b3 x a' W'→K a' W'):(rfAsg rf2).wpIn (rnd r) n' Tryz.prog (Exit.then K (fun _ _ _=>False)) a0 W:=by
 have hg:=G.glAt I.keep
 have R0:=boxes_RS (nt:=104) I.bx hg (a:=a0) (tm:=(62,mk t0 (toL x))::(61,.v (.int .u32) x.1)::tmP p) hp.1
  (tm_cons (by decide) (by rw [h62];exact lim_vrel x) (tm_cons (by decide) (by rw [h61];exact of_int _ _) (tmP_ok G I.keep hp gL2_1 gL2_2)))
 have fin:∀g A' a' W' X,RS (BL hg (bx2 b2 b3 n s) 104 a0.defers) g A' a' W' (tmR X) (hR X) (ioL (bx2 b2 b3 n s))→Pts b1 b2 b3 a'→look 7 (tmR X)=some (.ptr 2000 [])→look 6 (tmR X)=some (.v (.int .u32) x.1)→(hR X).at 2000=some (.box (mk t0 (toL x)))→(hR X).at 1=some (.box (.v (.int .i64) n))→(hR X).at 2=some (.box (.v (.arr 3 t0) s))→K a' W':=by
  intro g A' a' W' X R hp' k1 k6 k2 k3 k4
  have kp:=kp_of (w:=w) (Bs:=Bs) R I.bx (Nat.lt_of_lt_of_le hB I.keep.size) (fun q hq=>by
   unfold bx2 at hq
   simp only [List.mem_cons,List.not_mem_nil,or_false] at hq
   rcases hq with rfl|rfl
   ·exact hB2
   ·exact hB3)
  have hI:Inv A w b2 b3 n s W':=⟨boxes_of rfl R rfl I.bx R.keep.size bx2_sub2 (bx2_nd I).1 (bx2_nd I).2 (bx2_all k3 k4),I.keep.trans ⟨R.keep.os,R.keep.tape,R.keep.output,R.keep.size,fun r hr hn=>R.keep.block r hr (fun hx=>hn (by
   rcases hx with hx|⟨q,hq,rfl⟩
   ·exact .inl (Nat.le_trans I.keep.size hx)
   ·unfold bx2 at hq
    simp only [List.mem_cons,List.not_mem_nil,or_false] at hq
    rcases hq with rfl|rfl
    ·exact .inr (.inl rfl)
    ·exact .inr (.inr rfl)))⟩⟩
  obtain ⟨b5,e1,e2,c,e,e3,e4⟩:=new_box R k2 k1 (fun q hq=>by
   unfold bx2 at hq
   simp only [List.mem_cons,List.not_mem_nil,or_false] at hq
   rcases hq with rfl|rfl
   ·exact ⟨(fun e=>by cases e),_,k3⟩
   ·exact ⟨(fun e=>by cases e),_,k4⟩) (τ:=t0) (x:=toL x) (by kernel_rfl) (by kernel_rfl)
  exact hK a' W' kp hI ⟨hp',R.defs.trans hd,v_int (R.tms 6 _ k6).2,b5,e1,Nat.le_trans I.keep.size e2,c,e,e3,e4⟩
 rw [a2_eq]
 refine wpIn_seq ?_
 refine regionIn_ok a9.envOk rfl (evR_some (qa2_ok p n s x)) (by kernel_rfl) (by kernel_rfl) R0 (fun g A' a' W' R hf=>?_)
 have hp':=pts_of hp (by rw [R.size];rfl) hf (by kernel_rfl)
 refine regionIn_ok a9.envOk rfl (evR_some (qa3_ok p n s x)) (by kernel_rfl) (by kernel_rfl) R (fun g A' a'' W' R' hf'=>?_)
 exact fin g A' a'' W' (qa3 p n s x) R' (pts_of hp' (by rw [R'.size];rfl) hf' (by kernel_rfl)) (qa3_7 ..) (qa3_6 ..) (qa3_b ..) (qa3_1 ..) (qa3_2 ..)
theorem bdy2_ok (G:Ground A w b1 b2 b3 c1 p) (I:Inv A w b2 b3 n s W) {a0:Act} {x:Int × Int × Int × Int} (hAx:Ax2 A w b1 b2 b3 x a0 W) {r:Option Nat} {n' Bs:Nat} {Q:Exit→Act→World→Prop}
  (hB:Bs<w.heap.size) (hB2:b2≠Bs) (hB3:b3≠Bs) (hn:∀a' W' s',Kp A w Bs W W'→st2 p s x=some s'→Inv A w b2 b3 n s' W'→Q .normal a' W') (hr:∀a' W' s',Kp A w Bs W W'→st2 p s x=none→Inv A w b2 b3 8 s' W'→Q .ret a' W'):bd2.wpIn (rnd r) n' Tryz.prog Q a0 W:=by
 obtain ⟨hp,hd,h6,b5,h5,hb5,hc5⟩:=hAx
 have hg:=G.glAt I.keep
 have C:=bx3_ok (x:=x) I G hb5 hc5
 have R0:=boxes_RS (nt:=104) C hg (a:=a0) (tm:=(7,.ptr 3 [])::(6,.v (.int .u32) x.1)::tmP p) hp.1
  (tm_cons (by decide) (by rw [h5];exact mk_ptr (p:=[]) gL3_3 rfl trivial) (tm_cons (by decide) (by rw [h6];exact of_int _ _) (tmP_ok G I.keep hp gL3_1 gL3_2)))
 have fin:∀g A' a' W' X m s',RS (BL hg (bx3 b2 b3 b5 n s x) 104 a0.defers) g A' a' W' (tmR X) (hR X) (ioL (bx3 b2 b3 b5 n s x))→(hR X).at 1=some (.box (.v (.int .i64) m))→(hR X).at 2=some (.box (.v (.arr 3 t0) s'))→Kp A w Bs W W'∧Inv A w b2 b3 m s' W':=by
  intro g A' a' W' X m s' R k3 k4
  have kp:=kp_of (w:=w) (Bs:=Bs) R C (Nat.lt_of_lt_of_le hB I.keep.size) (fun q hq=>by
   unfold bx3 at hq
   simp only [List.mem_cons,List.not_mem_nil,or_false] at hq
   rcases hq with rfl|rfl|rfl
   ·exact hB2
   ·exact hB3
   ·exact fun e=>by have e:b5=Bs:=e;omega)
  refine ⟨kp,boxes_of rfl R rfl C R.keep.size bx2_sub (bx2_nd I).1 (bx2_nd I).2 (bx2_all k3 k4),I.keep.trans ⟨R.keep.os,R.keep.tape,R.keep.output,R.keep.size,fun r hr hn=>R.keep.block r hr (fun hx=>hn ?_)⟩⟩
  rcases hx with hx|⟨q,hq,rfl⟩
  ·exact .inl (Nat.le_trans I.keep.size hx)
  ·unfold bx3 at hq
   simp only [List.mem_cons,List.not_mem_nil,or_false] at hq
   rcases hq with rfl|rfl|rfl
   ·exact .inr (.inl rfl)
   ·exact .inr (.inr rfl)
   ·exact .inl hb5
 rw [bd2_eq]
 refine wpIn_block ?_
 refine wpIn_seq ?_
 refine regionIn_ok a9.envOk rfl (evR_some (q12_ok p n s x)) (by kernel_rfl) (by kernel_rfl) R0 (fun g A' a' W' R _=>?_)
 refine wpIn_seq ?_
 cases hb:Ty.beq (.arr 3 t0) (List.set s 2 (toL x)) p.2.1 with
 |false=>
  have e13:q13 p n s x=some (tmR (q13a p n s x),hR (q13a p n s x)):=by rw [q13_eq,hb,Bool.not_false,cond_true];exact evR_some (q13a_ok p n s x)
  refine regionIn_ok a9.envOk rfl e13 (by kernel_rfl) (by kernel_rfl) R (fun g A' a' W' R _=>?_)
  have hc:=v_bool (R.tms 72 _ (q13a_72 p n s x)).2
  refine wpIn_cond_true hc (wpIn_seq ?_)
  refine regionIn_ok a9.envOk rfl (evR_some (q14a_ok p n s x)) (by kernel_rfl) (by kernel_rfl) R (fun g A' a' W' R _=>?_)
  refine wpIn_ret ?_
  obtain ⟨kp,hI⟩:=fin g A' a' W' _ _ _ R (q14a_1 p n s x) (q14a_2 p n s x)
  exact hr a' W' _ kp (by unfold st2;rw [hb];rfl) hI
 |true=>
  have e13:q13 p n s x=some (tmR (q13b p n s x),hR (q13b p n s x)):=by rw [q13_eq,hb,Bool.not_true,cond_false];exact evR_some (q13b_ok p n s x)
  refine regionIn_ok a9.envOk rfl e13 (by kernel_rfl) (by kernel_rfl) R (fun g A' a' W' R _=>?_)
  have hc:=v_bool (R.tms 72 _ (q13b_72 p n s x)).2
  cases hk:decide (x.1>65535) with
  |false=>
   rw [hk] at hc
   refine wpIn_cond_false hc (wpIn_skip ?_)
   obtain ⟨kp,hI⟩:=fin g A' a' W' _ _ _ R (q13b_1 p n s x) (q13b_2 p n s x)
   exact hn a' W' _ kp (by unfold st2;rw [hb,hk];rfl) hI
  |true=>
   rw [hk] at hc
   refine wpIn_cond_true hc (wpIn_seq ?_)
   refine regionIn_ok a9.envOk rfl (evR_some (q14b_ok p n s x)) (by kernel_rfl) (by kernel_rfl) R (fun g A' a' W' R _=>?_)
   refine wpIn_ret ?_
   obtain ⟨kp,hI⟩:=fin g A' a' W' _ _ _ R (q14b_1 p n s x) (q14b_2 p n s x)
   exact hr a' W' _ kp (by unfold st2;rw [hb,hk];rfl) hI
end
end Go.Proofs.YtkihjakbbcajbaaGreat.PM
namespace Go.Proofs.YtkihjakbbcajbaaGreat.PM
set_option linter.unusedSimpArgs false
set_option linter.unusedVariables false
open Go Go.Proofs Go.Proofs.YtkihjakbbcajbaaGreat.Kd
noncomputable def useT (t:t5.den):Nat→Bool:=fun j=>List.getD (α:=Bool) t.2.2.2.1.2.1 j false
noncomputable def keyT (t:t5.den):Nat→Int:=fun j=>List.getD (α:=Int) t.2.1 j 0
noncomputable def limT (t:t5.den):Nat→Int × Int × Int:=fun j=>let b:=List.getD (α:=t1.den) t.2.2.1 j t1.zero;(b.1.1,b.1.2.1,b.1.2.2.1)
noncomputable def usedN (t:t5.den):Nat:=List.length (α:=Bool) t.2.2.2.1.2.1
noncomputable def tItems (t:t5.den):Option (List (Int × Int × Int × Int)):=
 bif decide (usedN t≤1000) && (List.range (usedN t)).all fun j=>!(useT t j)||(decide (j<List.length (α:=Int) t.2.1) && decide (j<List.length (α:=t1.den) t.2.2.1)) then some (come (useT t) (keyT t) (limT t) (usedN t)) else none
section
variable {A:Nat→Prop} {w:World}
theorem cat_at {τ:Ty} {ys:List τ.den} {c:List Value} {ad:Addr} {j i:Nat} {v:Value} (hs:ad.spot=none) (hA:At w ad c) (h:Cat (TRel A w τ) c ys) (hj:j<ys.length) (hv:∀cs,TRel A w τ cs ys[j]→cs[i]?=some v):w.cell? ⟨ad.block,ad.off+(j*τ.size+i),none⟩=some v:=by
 have h1:=hv _ (h.nth (fun c x=>TRel.len τ c x) hj)
 have h2:c[j*τ.size+i]?=some v:=by
  rw [List.getElem?_take] at h1
  split at h1
  ·rw [List.getElem?_drop] at h1;exact h1
  ·cases h1
 have h3:=hA _ v h2
 obtain ⟨b,o,sp⟩:=ad
 cases hs
 rw [add_at] at h3
 exact h3
theorem slice_out {τ:Ty} {cs:List Value} {x:List τ.den} (h:TRel A w (.slice τ) cs x):∃a cap,cs=[.slice a x.length cap]∧∀j,j<x.length→∃b o,a=some ⟨b,o,none⟩∧A b∧∀i v,(∀(hj:j<x.length) cs,TRel A w τ cs x[j]→cs[i]?=some v)→w.cell? ⟨b,o+(j*τ.size+i),none⟩=some v:=by
 obtain ⟨a,cap,h1,_,h2⟩:=h
 refine ⟨a,cap,h1,fun j hj=>?_⟩
 obtain ⟨⟨b,o,sp⟩,e1,e2,e3,c,e4,e5⟩:=h2 (Nat.lt_of_le_of_lt (Nat.zero_le _) hj)
 cases e2
 exact ⟨b,o,e1,e3,fun i v hv=>cat_at (ad:=⟨b,o,none⟩) rfl e4 e5 hj (hv hj)⟩
theorem keyed_stops {m Bs:Nat} {cs:Array Value} {e:TypeId} {t:t5.den} (hn:1≤m) (hlt:∀r,A r→r<w.heap.size) (hBs:w.heap[Bs]?=some (.cells cs e (0,0))) (hT:TRel A w t5 cs.toList t) {xs:List (Int × Int × Int × Int)} (hx:tItems t=some xs):
  SeqStopsK Fence.wide m Tryz.prog 183 #[.pointer (some ⟨Bs,0,none⟩)] encs (KeepB fun r=>A r∨r=Bs) (fun ys=>ys=xs) (fun pre=>∃rest,xs=pre++rest) xs.length w:=by
 intro l J Jx W hW hJ hJx hY h0
 unfold tItems at hx
 cases hc:decide (usedN t≤1000) && (List.range (usedN t)).all fun j=>!(useT t j)||(decide (j<List.length (α:=Int) t.2.1) && decide (j<List.length (α:=t1.den) t.2.2.1)) with
 |false=>rw [hc] at hx;cases hx
 |true=>
  rw [hc] at hx
  have hx:some (come (useT t) (keyT t) (limT t) (usedN t))=some xs:=hx
  injection hx with hx
  subst hx
  rw [Bool.and_eq_true,decide_eq_true_eq,List.all_eq_true] at hc
  obtain ⟨hu,hall⟩:=hc
  have hB:Bs<w.heap.size:=heap_lt hBs
  have hWk:∀r,A r∨r=Bs→W.heap[r]?=w.heap[r]?:=fun r hr=>hW.block r (by
   rcases hr with hr|rfl
   ·exact hlt r hr
   ·exact hB)
  obtain ⟨ccap,c1,e1,r1,ckeys,c2,e2,r2,cbs,c3,e3,r3,car,c4,e4,r4,_⟩:=hT
  obtain ⟨cnext,c5,e5,_,cused,c6,e6,r6,_⟩:=r4
  obtain ⟨ka,kc,hk,hks⟩:=slice_out r2
  obtain ⟨ba,bc,hb,hbs⟩:=slice_out r3
  obtain ⟨ua,uc,hus,hus2⟩:=slice_out r6
  have r1:ccap=[.int .i64 t.1]:=r1
  have hnext:cnext.length=1:=by
   have:=TRel.len _ _ _ (show TRel A w (.slice (.int .i64)) cnext _ from by assumption)
   exact this
  have hcs:∃x rest,cs.toList=[.int .i64 t.1,.slice ka (List.length (α:=Int) t.2.1) kc,.slice ba (List.length (α:=t1.den) t.2.2.1) bc,x,.slice ua (usedN t) uc]++rest:=by
   match cnext,hnext with
   |[x],_=>
    refine ⟨x,c6++c4,?_⟩
    rw [e1,e2,e3,e4,e5,e6,r1,hk,hb,hus];simp [usedN]
  obtain ⟨x,rest,hcs⟩:=hcs
  have hAtW:At w ⟨Bs,0,none⟩ cs.toList:=At_block hBs (fun j v h=>by rw [Nat.zero_add];simpa using h)
  have cell:∀j v,cs.toList[j]?=some v→W.cell? ⟨Bs,j,none⟩=some v:=fun j v h=>by
   have:=hAtW j v h
   rw [add_at,Nat.zero_add] at this
   exact (World.cell?_of_block (a:=⟨Bs,j,none⟩) (hWk Bs (.inr rfl))).trans this
  have far:∀b o,A b→W.cell? ⟨b,o,none⟩=w.cell? ⟨b,o,none⟩:=fun b o h=>World.cell?_of_block (a:=⟨b,o,none⟩) (hWk b (.inl h))
  refine (keyed1_in m hn l Bs (usedN t) uc (List.length (α:=Int) t.2.1) kc (List.length (α:=t1.den) t.2.2.1) bc (fun r=>A r∨r=Bs) ua ka ba (useT t) (keyT t) (limT t) (by omega) J Jx hY W (.inr rfl)
   (cell 1 _ (by rw [hcs];rfl)) (cell 2 _ (by rw [hcs];rfl)) (cell 4 _ (by rw [hcs];rfl)) (fun j hj=>?_) (fun j hj hu=>?_) (fun j hj hu=>?_) (fun pre W1 h=>hJ pre W1 _ none h ⟨rfl,rfl,rfl,Nat.le_refl _,fun _ _ _=>rfl⟩ (fun _ e=>by cases e)) h0).mono ?_
  ·obtain ⟨b,o,k1,k2,k3⟩:=hus2 j hj
   refine ⟨b,o,k1,.inl k2,?_⟩
   rw [far b _ k2]
   have:=k3 0 (.bool (useT t j)) (fun hj cs hr=>by
    have hr:cs=[.bool _]:=hr
    rw [hr]
    unfold useT
    rw [List.getD,List.getElem?_eq_getElem hj];rfl)
   rw [show j*Ty.bool.size+0=j by show j*1+0=j;omega] at this
   exact this
  ·have:=hall j (List.mem_range.2 hj)
   rw [hu] at this
   simp only [Bool.not_true,Bool.false_or,Bool.and_eq_true,decide_eq_true_eq] at this
   refine ⟨this.1,?_⟩
   obtain ⟨b,o,k1,k2,k3⟩:=hks j this.1
   refine ⟨b,o,k1,.inl k2,?_⟩
   rw [far b _ k2]
   have:=k3 0 (.int .u32 (keyT t j)) (fun hj cs hr=>by
    have hr:cs=[.int .u32 _]:=hr
    rw [hr]
    unfold keyT
    rw [List.getD,List.getElem?_eq_getElem hj];rfl)
   rw [show j*(Ty.int .u32).size+0=j by show j*1+0=j;omega] at this
   exact this
  ·have:=hall j (List.mem_range.2 hj)
   rw [hu] at this
   simp only [Bool.not_true,Bool.false_or,Bool.and_eq_true,decide_eq_true_eq] at this
   refine ⟨this.2,?_⟩
   obtain ⟨b,o,k1,k2,k3⟩:=hbs j this.2
   have lim:∀(hj:j<List.length (α:=t1.den) t.2.2.1) cs,TRel A w t1 cs (t.2.2.1[j]'hj)→cs[0]?=some (.int .i64 (limT t j).1)∧cs[1]?=some (.int .i64 (limT t j).2.1)∧cs[2]?=some (.int .i64 (limT t j).2.2):=fun hj cs hr=>by
    obtain ⟨cl,cr,k1,⟨d1,d2,k2,k3,d3,d4,k4,k5,d5,d6,k6,k7,k8⟩,_⟩:=hr
    have k3:d1=[.int .i64 _]:=k3
    have k5:d3=[.int .i64 _]:=k5
    have k7:d5=[.int .i64 _]:=k7
    unfold limT
    rw [List.getD,List.getElem?_eq_getElem hj,k1,k2,k3,k4,k5,k6,k7]
    exact ⟨rfl,rfl,rfl⟩
   refine ⟨b,o,k1,.inl k2,?_,?_,?_⟩
   ·rw [far b _ k2];exact k3 0 _ (fun hj cs hr=>(lim hj cs hr).1)
   ·rw [far b _ k2];exact k3 1 _ (fun hj cs hr=>(lim hj cs hr).2.1)
   ·rw [far b _ k2];exact k3 2 _ (fun hj cs hr=>(lim hj cs hr).2.2)
  ·rintro e W' ⟨he,⟨ys,rfl,hj⟩|⟨pre,⟨k,hk,rfl⟩,hj⟩⟩
   ·exact ⟨he,.inl ⟨_,rfl,hj⟩⟩
   ·refine ⟨he,.inr ⟨_,?_,hj⟩⟩
    have:∀d:Nat,∃rest,come (useT t) (keyT t) (limT t) (k+d)=come (useT t) (keyT t) (limT t) k++rest:=fun d=>by
     induction d with
     |zero=>exact ⟨[],by simp⟩
     |succ d ih=>
      obtain ⟨r,hr⟩:=ih
      rw [←Nat.add_assoc]
      cases hu:useT t (k+d) with
      |true=>rw [come_yes hu,hr,List.append_assoc];exact ⟨_,rfl⟩
      |false=>rw [come_no hu,hr];exact ⟨_,rfl⟩
    have:=this (usedN t - k)
    rwa [show k+(usedN t - k)=usedN t by omega] at this
end
end Go.Proofs.YtkihjakbbcajbaaGreat.PM
namespace Go.Proofs.YtkihjakbbcajbaaGreat.PM
set_option linter.unusedSimpArgs false
set_option linter.unusedVariables false
open Go Go.Proofs Go.Proofs.YtkihjakbbcajbaaGreat.Kd
def opOf (l:Array Oper) (i:Nat):Oper:=l.getD i {dst:=none,op:=.move (.tmp 0),type:=0,pos:= "",after:=#[],guard:=none}
def mark (D:Nat):Deferred:={target:=.collected D,args:=#[]}
section
variable {A:Nat→Prop} {w:World} {b1 b2 b3:Nat} {c1:List Value} {p:t7.den} {n:Int} {s:List t0.den}
theorem getD_put1 {t:Array Value} {i j:Nat} {v:Value} (h:i<t.size):(t.setIfInBounds i v).getD j undef=if i=j then v else t.getD j undef:=by
 simp only [Array.getD_eq_getD_getElem?]
 by_cases e:i=j
 ·subst e;rw [if_pos rfl];simp [h]
 ·rw [if_neg e,Array.getElem?_setIfInBounds_ne e]
theorem Ground.next {W':World} {W:World} (G:Ground A w b1 b2 b3 c1 p) (I:Inv A w b2 b3 n s W) (hg:Grew W W'):Ground A W' b1 b2 b3 c1 p∧Inv A W' b2 b3 n s W':=by
 have sameA:∀r,A r→W'.heap[r]?=w.heap[r]?:=fun r hr=>(hg.block r (Nat.lt_of_lt_of_le (G.lt r hr) I.keep.size)).trans (G.same I.keep r hr)
 have hz:w.heap.size≤W'.heap.size:=Nat.le_trans I.keep.size hg.size
 refine ⟨⟨G.gl.mono (fun _ h=>h) sameA,fun r hr=>Nat.lt_of_lt_of_le (G.lt r hr) hz,G.hb1,At.mono (sameA b1 G.hb1) G.at1,TRel.mono (fun _ h=>h) sameA _ _ _ G.rel,G.n2,G.n3,Nat.lt_of_lt_of_le G.lt2 hz,Nat.lt_of_lt_of_le G.lt3 hz⟩,I.bx.turn (fun r hr=>hg.block r ?_) hg.size,.refl _ _⟩
 rcases hr with hr|⟨q,hq,rfl⟩
 ·exact Nat.lt_of_lt_of_le (G.lt r hr) I.keep.size
 ·unfold bx2 at hq
  simp only [List.mem_cons,List.not_mem_nil,or_false] at hq
  rcases hq with rfl|rfl
  ·exact Nat.lt_of_lt_of_le G.lt2 I.keep.size
  ·exact Nat.lt_of_lt_of_le G.lt3 I.keep.size
theorem val_step {ops:Array Oper} {i:Nat} {l:List Nat} {a:Act} {v:Value} {m:Nat} {Q:Exit→Act→World→Prop} (ho:ops[i]?=some (opOf ops i)) (hg:(opOf ops i).guard=none) (hd:∀c,(opOf ops i).op≠ .defer c) (hr:(execOp a.eval (opOf ops i)).run Tryz.prog w=.ok (.value v) w)
  (h:wpOpsIn Fence.wide m Tryz.prog ops Q l (a.put (opOf ops i).dst v) w):wpOpsIn Fence.wide m Tryz.prog ops Q (i::l) a w:=by
 rw [wpOpsIn_cons]
 unfold wpOpIn
 rw [ho]
 simp only [Region.wanted,hg,if_true]
 refine ⟨fun _ _=>trivial,?_⟩
 rw [Oper.semAt_eq _ _ _ hd,hr]
 exact h
theorem call_step {ops:Array Oper} {i:Nat} {l:List Nat} {a:Act} {f:Nat} {args:Array Value} {m:Nat} {Q:Exit→Act→World→Prop} {R:Value→World→Prop} (ho:ops[i]?=some (opOf ops i)) (hg:(opOf ops i).guard=none) (hd:∀c,(opOf ops i).op≠ .defer c) (hr:(execOp a.eval (opOf ops i)).run Tryz.prog w=.ok (.enter f args) w)
  (hc:CallsIn Fence.wide (m - 1) Tryz.prog f args w fun e w'=>∃v,e=.returned v∧R v w') (h:∀v w',R v w'→wpOpsIn Fence.wide m Tryz.prog ops Q l (a.put (opOf ops i).dst v) w'):wpOpsIn Fence.wide m Tryz.prog ops Q (i::l) a w:=by
 rw [wpOpsIn_cons]
 unfold wpOpIn
 rw [ho]
 simp only [Region.wanted,hg,if_true]
 refine ⟨fun _ _=>trivial,?_⟩
 rw [Oper.semAt_eq _ _ _ hd,hr]
 refine ⟨(fun h=>by cases h),hc.mono ?_⟩
 rintro e w' ⟨v,rfl,hv⟩
 exact h v w' hv
theorem run_keyed (o:Oper) (ρ:Operand→Value) (x:Nat) (ho:o.op=.call {callee:=.value (.func 169),args:=#[.tmp x],argTypes:=#[64]}) (hρ:ρ (.func 169)=.func (.func 169) #[] #[]):(execOp ρ o).run Tryz.prog w=.ok (.enter 169 #[ρ (.tmp x)]) w:=by
 have he:∀args w,(callFunc 169 args).run Tryz.prog w=.ok (.enter 169 args) w:=Go.Proofs.enters_of Tryz.func169 (by kernel_rfl) rfl
 unfold execOp
 rw [ho]
 simp [resolve,invoke,hρ,he,go_sem]
theorem no_boxes (hlt:∀r,A r→r<w.heap.size):Boxes A w []:=⟨(fun q h=>by cases h),(fun q h=>by cases h),List.nodup_nil,List.nodup_nil,hlt⟩
theorem r4_0:r4[0]?=some (opOf r4 0)∧(opOf r4 0).op=.fieldAddr 68 (.tmp 1) 3∧(opOf r4 0).guard=none∧(opOf r4 0).dst=some 47:=⟨by kernel_rfl,by kernel_rfl,by kernel_rfl,by kernel_rfl⟩
theorem r4_1:r4[1]?=some (opOf r4 1)∧(opOf r4 1).op=.load 64 (.tmp 47)∧(opOf r4 1).guard=none∧(opOf r4 1).dst=some 48:=⟨by kernel_rfl,by kernel_rfl,by kernel_rfl,by kernel_rfl⟩
theorem r4_2:r4[2]?=some (opOf r4 2)∧(opOf r4 2).op=.call {callee:=.value (.func 169),args:=#[.tmp 48],argTypes:=#[64]}∧(opOf r4 2).guard=none∧(opOf r4 2).dst=some 49:=⟨by kernel_rfl,by kernel_rfl,by kernel_rfl,by kernel_rfl⟩
theorem r4_n:r4.size=3:=by kernel_rfl
theorem fa1 (p:t7.den):fieldAddrQ a9.E 68 (.iptr t7 p) 3=.ret (.iptr t5 p.2.2.2.1):=by kernel_rfl
theorem ld1 (t:t5.den):loadQ a9.E 64 (.iptr t5 t)=.ret (mk t5 t):=by kernel_rfl
set_option maxRecDepth 100000 in
theorem make1_ok (G:Ground A w b1 b2 b3 c1 p) (I:Inv A w b2 b3 n s w) {a:Act} (hp:Pts b1 b2 b3 a) {m:Nat} {Q:Exit→Act→World→Prop}
  (hQ:∀(a':Act) (cs:Array Value) W',Pts b1 b2 b3 a'→a'.defers=a.defers→a'.tmps.getD 49 undef=.func (.func 183) #[] #[.pointer (some ⟨w.heap.size,0,none⟩)]→W'=w.alloc (.cells cs 64)→TRel A W' t5 cs.toList p.2.2.2.1→Q .normal a' W'):(Code.region 4 r4 false).wpIn Fence.wide m Tryz.prog Q a w:=by
 refine wpIn_region ?_
 rw [r4_n]
 show wpOpsIn _ _ _ _ _ [0,1,2] _ _
 have H0:=boxes_HR (no_boxes G.lt)
 obtain ⟨_,u,hu,hru⟩:=fieldAddr_ok (i:=3) (h:=hpL []) tabOk (G.iptr (.refl _ w) (gL [])) (show (fieldAddrQ a9.E 68 (.iptr t7 p) 3).Ok (hpL []) (.iptr t5 p.2.2.2.1) (hpL []) by rw [fa1];exact ⟨rfl,rfl⟩)
 obtain ⟨_,v,hv,hrv⟩:=load_ok (E:=a9.E) (tabB_look tabOk (show look 64 tl=some (.data t5) by kernel_rfl)) (by kernel_rfl) H0 hru (show (loadQ a9.E 64 (.iptr t5 p.2.2.2.1)).Ok (hpL []) (mk t5 p.2.2.2.1) (hpL []) by rw [ld1];exact ⟨rfl,rfl⟩)
 obtain ⟨cs,rfl,hcs⟩:∃cs,v=.agg cs∧(mk t5 p.2.2.2.1).rel (gL []) A w cs.toList:=hrv
 have hT:TRel A w t5 cs.toList p.2.2.2.1:=flatV_rel _ _ _ _ hcs (by kernel_rfl)
 have hlen:cs.size=11:=by
  have:=TRel.len _ _ _ hT
  rw [Array.length_toList] at this;exact this
 have ha:=hp.1
 refine val_step r4_0.1 r4_0.2.2.1 (fun c e=>by rw [r4_0.2.1] at e;cases e) (v:=u) ?_ ?_
 ·unfold execOp
  rw [r4_0.2.1]
  have e1:a.eval (.tmp 1)=.pointer (some ⟨b1,0,none⟩):=hp.2.1
  simp only [e1,Sem.run_bind,hu];rfl
 rw [r4_0.2.2.2]
 refine val_step r4_1.1 r4_1.2.2.1 (fun c e=>by rw [r4_1.2.1] at e;cases e) (v:=.agg cs) ?_ ?_
 ·unfold execOp
  rw [r4_1.2.1]
  have e1:(a.put (some 47) u).eval (.tmp 47)=u:=by
   show (a.put (some 47) u).tmps.getD 47 undef=u
   rw [put_get _ _ _ _ (fun e h=>by injection h with h;subst h;rw [ha];decide)];simp
  simp only [e1,Sem.run_bind,hv];rfl
 rw [r4_1.2.2.2]
 refine call_step (f:=169) (args:=#[.agg cs]) (R:=fun v w'=>v=.func (.func 183) #[] #[.pointer (some ⟨w.heap.size,0,none⟩)]∧w'=w.alloc (.cells cs 64)) r4_2.1 r4_2.2.2.1 (fun c e=>by rw [r4_2.2.1] at e;cases e) ?_ ?_ ?_
 ·rw [run_keyed _ _ 48 r4_2.2.1 rfl]
  have e1:((a.put (some 47) u).put (some 48) (.agg cs)).eval (.tmp 48)=.agg cs:=by
   show ((a.put (some 47) u).put (some 48) (.agg cs)).tmps.getD 48 undef=_
   rw [put_get _ _ _ _ (fun e h=>by injection h with h;subst h;rw [put_size,ha];decide)];simp
  rw [e1]
 ·exact (keyed_in (m - 1) cs hlen w).mono (fun e w' h=>⟨_,h.1,rfl,h.2⟩)
 ·rintro v w' ⟨rfl,rfl⟩
  rw [r4_2.2.2.2]
  have s1:∀(a:Act) (d t:Nat) (v:Value),a.tmps.size=104→d<104→(a.put (some d) v).tmps.getD t undef=if d=t then v else a.tmps.getD t undef:=fun a d t v hs hd=>by
   rw [put_get _ _ _ _ (fun e h=>by injection h with h;subst h;rw [hs];exact hd)]
   by_cases e:d=t
   ·rw [if_pos e,if_pos (by rw [e])]
   ·rw [if_neg e,if_neg (fun h=>e (by injection h))]
  have z:(((a.put (some 47) u).put (some 48) (.agg cs)).put (some 49) (.func (.func 183) #[] #[.pointer (some ⟨w.heap.size,0,none⟩)])).tmps.size=104:=by rw [put_size,put_size,put_size];exact ha
  have z2:((a.put (some 47) u).put (some 48) (.agg cs)).tmps.size=104:=by rw [put_size,put_size];exact ha
  have z3:(a.put (some 47) u).tmps.size=104:=by rw [put_size];exact ha
  have low:∀t,t≤3→(((a.put (some 47) u).put (some 48) (.agg cs)).put (some 49) (.func (.func 183) #[] #[.pointer (some ⟨w.heap.size,0,none⟩)])).tmps.getD t undef=a.tmps.getD t undef:=fun t ht=>by
   rw [s1 _ _ _ _ z2 (by decide),if_neg (by omega),s1 _ _ _ _ z3 (by decide),if_neg (by omega),s1 _ _ _ _ ha (by decide),if_neg (by omega)]
  refine hQ _ cs _ ⟨z,(low 1 (by omega)).trans hp.2.1,(low 2 (by omega)).trans hp.2.2.1,(low 3 (by omega)).trans hp.2.2.2⟩ rfl ?_ rfl ?_
  ·rw [s1 _ _ _ _ z2 (by decide),if_pos rfl]
  ·have G2:=Grew.alloc w (.cells cs 64)
   exact TRel.mono (fun _ h=>h) (fun r hr=>G2.block r (G.lt r hr)) _ _ _ hT
theorem loop1_ok (G:Ground A w b1 b2 b3 c1 p) (I:Inv A w b2 b3 n s w) {a:Act} (hp:Pts b1 b2 b3 a) {Bs:Nat} {cs:Array Value} {e:TypeId} {t:t5.den} {xs:List (Int × Int × Int × Int)} (hg:a.tmps.getD 49 undef=.func (.func 183) #[] #[.pointer (some ⟨Bs,0,none⟩)])
  (hBs:w.heap[Bs]?=some (.cells cs e (0,0))) (hB2:b2≠Bs) (hB3:b3≠Bs) (hT:TRel A w t5 cs.toList t) (hx:tItems t=some xs) {Q:Exit→Act→World→Prop}
  (hdone:∀D W s',w.heap.size≤D→goR (st1 p) xs s=some s'→Inv A w b2 b3 n s' W→W.heap[D]?=some (.deferred (some []))→Q .normal {a with defers:=mark D::a.defers} W)
  (hstop:∀D W s',w.heap.size≤D→goR (st1 p) xs s=none→Inv A w b2 b3 8 s' W→W.heap[D]?=some (.deferred (some []))→Q .ret {a with defers:=mark D::a.defers} W):
  (Code.rangeFunc (.tmp 49) #[50,51] (rfAsg rf1) bd1).wpIn Fence.wide 3 Tryz.prog Q a w:=by
 have hB:=heap_lt hBs
 have own:∀m s',OwnFrom w.heap.size (fun (_:Unit) W=>Inv A w b2 b3 m s' W):=fun m s' _ W W' row I hgr hr=>I.own G.lt2 G.lt3 G.lt hgr (fun r e=>(hr r e).1)
 refine wpIn_rangeFunc_ownH (F:=Fence.wide) (n:=3) rfl (by decide) (gf:=183) (lb:=#[.pointer (some ⟨Bs,0,none⟩)]) hg trivial (Go.Proofs.enters_of Tryz.func183 (by kernel_rfl) rfl) (encs:=encs)
  (keyed_stops (m:=2) (by decide) G.lt hBs hT hx) (fun h k=>h.trans k) (fun W l o o' hl hh ho _ r hr=>?_) (Go.RowKit.Below.refl _ _) (fun _=>rfl)
  (fun pre W=>∃s',goR (st1 p) pre s=some s'∧Inv A w b2 b3 n s' W) (fun c pre W=>c=.ret∧goR (st1 p) pre s=none∧∃s',Inv A w b2 b3 8 s' W)
  (fun pre W W' row ⟨s',h1,h2⟩ hgr hr=>⟨s',h1,own n s' () W W' row h2 hgr hr⟩) (fun c pre W W' row ⟨h0,h1,s',h2⟩ hgr hr=>⟨h0,h1,s',own 8 s' () W W' row h2 hgr hr⟩) ⟨s,rfl,I⟩
  (fun x a' W=>Ax1 A w b1 b2 b3 x a' W) (fun x a' _ W W' row h hgr hr=>?_) (fun l pre x W K ⟨s',hs,hI⟩ hK=>?_) (fun l pre x a' W hl hrec ⟨s',hs,hI⟩ hAx hlen=>?_) (fun D ys W hD he ⟨s',hs,hI⟩ hk=>?_) (fun D c pre W hD ⟨rest,he⟩ ⟨hc,hs,s',hI⟩ hk=>?_)
 ·have hne:l≠r:=fun e=>by
   subst e
   rcases hr with hr|rfl
   ·have:=G.lt l hr;omega
   ·omega
  have:=(grownBy_putObj' W l o').block r (by
   rcases hr with hr|rfl
   ·have:=G.lt r hr
    have:=heap_lt hh
    omega
   ·have:=heap_lt hh
    omega) (fun e=>hne (by injection e with e;exact e.symm))
  exact this
 ·obtain ⟨h1,h2,b5,h3,h4,c,e,h5,h7⟩:=h
  refine ⟨h1,h2,b5,h3,h4,c,e,?_,TRel.flat _ _ _ (by kernel_rfl) h7⟩
  rw [hgr.block b5 (heap_lt h5) (fun e'=>by
   obtain ⟨_,o,ho,hc⟩:=hr b5 e'.symm
   rw [h5] at ho
   injection ho with ho;subst ho
   cases hc)]
  exact h5
 ·have ht:(#[50,51].zip (encs x)).foldl (fun t ((p,v):Nat × Value)=>t.setIfInBounds p v) a.tmps=(a.tmps.setIfInBounds 50 (.int .u32 x.1)).setIfInBounds 51 (.agg #[.int .i64 x.2.1,.int .i64 x.2.2.1,.int .i64 x.2.2.2]):=by kernel_rfl
  have z1:50<a.tmps.size:=by rw [hp.1];decide
  have z2:51<(a.tmps.setIfInBounds 50 (.int .u32 x.1)).size:=by rw [Array.size_setIfInBounds,hp.1];decide
  have g:∀j,((a.tmps.setIfInBounds 50 (.int .u32 x.1)).setIfInBounds 51 (.agg #[.int .i64 x.2.1,.int .i64 x.2.2.1,.int .i64 x.2.2.2])).getD j undef=if 51=j then _ else if 50=j then _ else a.tmps.getD j undef:=fun j=>by rw [getD_put1 z2,getD_put1 z1]
  rw [ht]
  refine asg1_ok (r:=some l) (Bs:=Bs) G hI (a0:={tmps:=(a.tmps.setIfInBounds 50 (.int .u32 x.1)).setIfInBounds 51 (.agg #[.int .i64 x.2.1,.int .i64 x.2.2.1,.int .i64 x.2.2.2]),defers:=[]}) ⟨?_,?_,?_,?_⟩ (x:=x) ?_ ?_ rfl hB hB2 hB3 (fun a' W' kp hI' hAx=>hK a' W' kp.1 kp.2 ⟨s',hs,hI'⟩ hAx)
  ·show (Array.setIfInBounds _ _ _).size=104
   rw [Array.size_setIfInBounds,Array.size_setIfInBounds];exact hp.1
  ·show Array.getD _ _ _=_
   rw [g];exact hp.2.1
  ·show Array.getD _ _ _=_
   rw [g];exact hp.2.2.1
  ·show Array.getD _ _ _=_
   rw [g];exact hp.2.2.2
  ·show Array.getD _ _ _=_
   rw [g];rfl
  ·show Array.getD _ _ _=_
   rw [g];rfl
 ·refine bdy1_ok (r:=some l) (Bs:=Bs) G hI hAx hB hB2 hB3 (fun a'' W' s'' kp hst hI'=>⟨kp.1,kp.2,s'',?_,hI'⟩) (fun a'' W' s'' kp hst hI'=>⟨kp.1,rfl,?_,s'',hI'⟩)
  ·rw [goR_app,hs]
   show (st1 p s' x).bind _=_
   rw [hst];rfl
  ·rw [goR_app,hs]
   show (st1 p s' x).bind _=_
   rw [hst];rfl
 ·have he:ys=xs:=he
  subst he
  exact hdone D W s' hD hs hI hk
 ·subst hc
  refine wpIn_ret (hstop D W s' hD ?_ hI hk)
  rw [he,goR_app,hs];rfl
theorem r9_0:r9[0]?=some (opOf r9 0)∧(opOf r9 0).op=.fieldAddr 68 (.tmp 1) 4∧(opOf r9 0).guard=none∧(opOf r9 0).dst=some 58:=⟨by kernel_rfl,by kernel_rfl,by kernel_rfl,by kernel_rfl⟩
theorem r9_1:r9[1]?=some (opOf r9 1)∧(opOf r9 1).op=.load 64 (.tmp 58)∧(opOf r9 1).guard=none∧(opOf r9 1).dst=some 59:=⟨by kernel_rfl,by kernel_rfl,by kernel_rfl,by kernel_rfl⟩
theorem r9_2:r9[2]?=some (opOf r9 2)∧(opOf r9 2).op=.call {callee:=.value (.func 169),args:=#[.tmp 59],argTypes:=#[64]}∧(opOf r9 2).guard=none∧(opOf r9 2).dst=some 60:=⟨by kernel_rfl,by kernel_rfl,by kernel_rfl,by kernel_rfl⟩
theorem r9_n:r9.size=3:=by kernel_rfl
theorem fa2 (p:t7.den):fieldAddrQ a9.E 68 (.iptr t7 p) 4=.ret (.iptr t5 p.2.2.2.2.1):=by kernel_rfl
theorem ld2 (t:t5.den):loadQ a9.E 64 (.iptr t5 t)=.ret (mk t5 t):=by kernel_rfl
set_option maxRecDepth 100000 in
theorem make2_ok (G:Ground A w b1 b2 b3 c1 p) (I:Inv A w b2 b3 n s w) {a:Act} (hp:Pts b1 b2 b3 a) {m:Nat} {Q:Exit→Act→World→Prop}
  (hQ:∀(a':Act) (cs:Array Value) W',Pts b1 b2 b3 a'→a'.defers=a.defers→a'.tmps.getD 60 undef=.func (.func 183) #[] #[.pointer (some ⟨w.heap.size,0,none⟩)]→W'=w.alloc (.cells cs 64)→TRel A W' t5 cs.toList p.2.2.2.2.1→Q .normal a' W'):(Code.region 9 r9 false).wpIn Fence.wide m Tryz.prog Q a w:=by
 refine wpIn_region ?_
 rw [r9_n]
 show wpOpsIn _ _ _ _ _ [0,1,2] _ _
 have H0:=boxes_HR (no_boxes G.lt)
 obtain ⟨_,u,hu,hru⟩:=fieldAddr_ok (i:=4) (h:=hpL []) tabOk (G.iptr (.refl _ w) (gL [])) (show (fieldAddrQ a9.E 68 (.iptr t7 p) 4).Ok (hpL []) (.iptr t5 p.2.2.2.2.1) (hpL []) by rw [fa2];exact ⟨rfl,rfl⟩)
 obtain ⟨_,v,hv,hrv⟩:=load_ok (E:=a9.E) (tabB_look tabOk (show look 64 tl=some (.data t5) by kernel_rfl)) (by kernel_rfl) H0 hru (show (loadQ a9.E 64 (.iptr t5 p.2.2.2.2.1)).Ok (hpL []) (mk t5 p.2.2.2.2.1) (hpL []) by rw [ld2];exact ⟨rfl,rfl⟩)
 obtain ⟨cs,rfl,hcs⟩:∃cs,v=.agg cs∧(mk t5 p.2.2.2.2.1).rel (gL []) A w cs.toList:=hrv
 have hT:TRel A w t5 cs.toList p.2.2.2.2.1:=flatV_rel _ _ _ _ hcs (by kernel_rfl)
 have hlen:cs.size=11:=by
  have:=TRel.len _ _ _ hT
  rw [Array.length_toList] at this;exact this
 have ha:=hp.1
 refine val_step r9_0.1 r9_0.2.2.1 (fun c e=>by rw [r9_0.2.1] at e;cases e) (v:=u) ?_ ?_
 ·unfold execOp
  rw [r9_0.2.1]
  have e1:a.eval (.tmp 1)=.pointer (some ⟨b1,0,none⟩):=hp.2.1
  simp only [e1,Sem.run_bind,hu];rfl
 rw [r9_0.2.2.2]
 refine val_step r9_1.1 r9_1.2.2.1 (fun c e=>by rw [r9_1.2.1] at e;cases e) (v:=.agg cs) ?_ ?_
 ·unfold execOp
  rw [r9_1.2.1]
  have e1:(a.put (some 58) u).eval (.tmp 58)=u:=by
   show (a.put (some 58) u).tmps.getD 58 undef=u
   rw [put_get _ _ _ _ (fun e h=>by injection h with h;subst h;rw [ha];decide)];simp
  simp only [e1,Sem.run_bind,hv];rfl
 rw [r9_1.2.2.2]
 refine call_step (f:=169) (args:=#[.agg cs]) (R:=fun v w'=>v=.func (.func 183) #[] #[.pointer (some ⟨w.heap.size,0,none⟩)]∧w'=w.alloc (.cells cs 64)) r9_2.1 r9_2.2.2.1 (fun c e=>by rw [r9_2.2.1] at e;cases e) ?_ ?_ ?_
 ·rw [run_keyed _ _ 59 r9_2.2.1 rfl]
  have e1:((a.put (some 58) u).put (some 59) (.agg cs)).eval (.tmp 59)=.agg cs:=by
   show ((a.put (some 58) u).put (some 59) (.agg cs)).tmps.getD 59 undef=_
   rw [put_get _ _ _ _ (fun e h=>by injection h with h;subst h;rw [put_size,ha];decide)];simp
  rw [e1]
 ·exact (keyed_in (m - 1) cs hlen w).mono (fun e w' h=>⟨_,h.1,rfl,h.2⟩)
 ·rintro v w' ⟨rfl,rfl⟩
  rw [r9_2.2.2.2]
  have s1:∀(a:Act) (d t:Nat) (v:Value),a.tmps.size=104→d<104→(a.put (some d) v).tmps.getD t undef=if d=t then v else a.tmps.getD t undef:=fun a d t v hs hd=>by
   rw [put_get _ _ _ _ (fun e h=>by injection h with h;subst h;rw [hs];exact hd)]
   by_cases e:d=t
   ·rw [if_pos e,if_pos (by rw [e])]
   ·rw [if_neg e,if_neg (fun h=>e (by injection h))]
  have z:(((a.put (some 58) u).put (some 59) (.agg cs)).put (some 60) (.func (.func 183) #[] #[.pointer (some ⟨w.heap.size,0,none⟩)])).tmps.size=104:=by rw [put_size,put_size,put_size];exact ha
  have z2:((a.put (some 58) u).put (some 59) (.agg cs)).tmps.size=104:=by rw [put_size,put_size];exact ha
  have z3:(a.put (some 58) u).tmps.size=104:=by rw [put_size];exact ha
  have low:∀t,t≤3→(((a.put (some 58) u).put (some 59) (.agg cs)).put (some 60) (.func (.func 183) #[] #[.pointer (some ⟨w.heap.size,0,none⟩)])).tmps.getD t undef=a.tmps.getD t undef:=fun t ht=>by
   rw [s1 _ _ _ _ z2 (by decide),if_neg (by omega),s1 _ _ _ _ z3 (by decide),if_neg (by omega),s1 _ _ _ _ ha (by decide),if_neg (by omega)]
  refine hQ _ cs _ ⟨z,(low 1 (by omega)).trans hp.2.1,(low 2 (by omega)).trans hp.2.2.1,(low 3 (by omega)).trans hp.2.2.2⟩ rfl ?_ rfl ?_
  ·rw [s1 _ _ _ _ z2 (by decide),if_pos rfl]
  ·have G2:=Grew.alloc w (.cells cs 64)
   exact TRel.mono (fun _ h=>h) (fun r hr=>G2.block r (G.lt r hr)) _ _ _ hT
theorem loop2_ok (G:Ground A w b1 b2 b3 c1 p) (I:Inv A w b2 b3 n s w) {a:Act} (hp:Pts b1 b2 b3 a) {Bs:Nat} {cs:Array Value} {e:TypeId} {t:t5.den} {xs:List (Int × Int × Int × Int)} (hg:a.tmps.getD 60 undef=.func (.func 183) #[] #[.pointer (some ⟨Bs,0,none⟩)])
  (hBs:w.heap[Bs]?=some (.cells cs e (0,0))) (hB2:b2≠Bs) (hB3:b3≠Bs) (hT:TRel A w t5 cs.toList t) (hx:tItems t=some xs) {Q:Exit→Act→World→Prop}
  (hdone:∀D W s',w.heap.size≤D→goR (st2 p) xs s=some s'→Inv A w b2 b3 n s' W→W.heap[D]?=some (.deferred (some []))→Q .normal {a with defers:=mark D::a.defers} W)
  (hstop:∀D W s',w.heap.size≤D→goR (st2 p) xs s=none→Inv A w b2 b3 8 s' W→W.heap[D]?=some (.deferred (some []))→Q .ret {a with defers:=mark D::a.defers} W):
  (Code.rangeFunc (.tmp 60) #[61,62] (rfAsg rf2) bd2).wpIn Fence.wide 3 Tryz.prog Q a w:=by
 have hB:=heap_lt hBs
 have own:∀m s',OwnFrom w.heap.size (fun (_:Unit) W=>Inv A w b2 b3 m s' W):=fun m s' _ W W' row I hgr hr=>I.own G.lt2 G.lt3 G.lt hgr (fun r e=>(hr r e).1)
 refine wpIn_rangeFunc_ownH (F:=Fence.wide) (n:=3) rfl (by decide) (gf:=183) (lb:=#[.pointer (some ⟨Bs,0,none⟩)]) hg trivial (Go.Proofs.enters_of Tryz.func183 (by kernel_rfl) rfl) (encs:=encs)
  (keyed_stops (m:=2) (by decide) G.lt hBs hT hx) (fun h k=>h.trans k) (fun W l o o' hl hh ho _ r hr=>?_) (Go.RowKit.Below.refl _ _) (fun _=>rfl)
  (fun pre W=>∃s',goR (st2 p) pre s=some s'∧Inv A w b2 b3 n s' W) (fun c pre W=>c=.ret∧goR (st2 p) pre s=none∧∃s',Inv A w b2 b3 8 s' W)
  (fun pre W W' row ⟨s',h1,h2⟩ hgr hr=>⟨s',h1,own n s' () W W' row h2 hgr hr⟩) (fun c pre W W' row ⟨h0,h1,s',h2⟩ hgr hr=>⟨h0,h1,s',own 8 s' () W W' row h2 hgr hr⟩) ⟨s,rfl,I⟩
  (fun x a' W=>Ax2 A w b1 b2 b3 x a' W) (fun x a' _ W W' row h hgr hr=>?_) (fun l pre x W K ⟨s',hs,hI⟩ hK=>?_) (fun l pre x a' W hl hrec ⟨s',hs,hI⟩ hAx hlen=>?_) (fun D ys W hD he ⟨s',hs,hI⟩ hk=>?_) (fun D c pre W hD ⟨rest,he⟩ ⟨hc,hs,s',hI⟩ hk=>?_)
 ·have hne:l≠r:=fun e=>by
   subst e
   rcases hr with hr|rfl
   ·have:=G.lt l hr;omega
   ·omega
  have:=(grownBy_putObj' W l o').block r (by
   rcases hr with hr|rfl
   ·have:=G.lt r hr
    have:=heap_lt hh
    omega
   ·have:=heap_lt hh
    omega) (fun e=>hne (by injection e with e;exact e.symm))
  exact this
 ·obtain ⟨h1,h2,h6,b5,h3,h4,c,e,h5,h7⟩:=h
  refine ⟨h1,h2,h6,b5,h3,h4,c,e,?_,TRel.flat _ _ _ (by kernel_rfl) h7⟩
  rw [hgr.block b5 (heap_lt h5) (fun e'=>by
   obtain ⟨_,o,ho,hc⟩:=hr b5 e'.symm
   rw [h5] at ho
   injection ho with ho;subst ho
   cases hc)]
  exact h5
 ·have ht:(#[61,62].zip (encs x)).foldl (fun t ((p,v):Nat × Value)=>t.setIfInBounds p v) a.tmps=(a.tmps.setIfInBounds 61 (.int .u32 x.1)).setIfInBounds 62 (.agg #[.int .i64 x.2.1,.int .i64 x.2.2.1,.int .i64 x.2.2.2]):=by kernel_rfl
  have z1:61<a.tmps.size:=by rw [hp.1];decide
  have z2:62<(a.tmps.setIfInBounds 61 (.int .u32 x.1)).size:=by rw [Array.size_setIfInBounds,hp.1];decide
  have g:∀j,((a.tmps.setIfInBounds 61 (.int .u32 x.1)).setIfInBounds 62 (.agg #[.int .i64 x.2.1,.int .i64 x.2.2.1,.int .i64 x.2.2.2])).getD j undef=if 62=j then _ else if 61=j then _ else a.tmps.getD j undef:=fun j=>by rw [getD_put1 z2,getD_put1 z1]
  rw [ht]
  refine asg2_ok (r:=some l) (Bs:=Bs) G hI (a0:={tmps:=(a.tmps.setIfInBounds 61 (.int .u32 x.1)).setIfInBounds 62 (.agg #[.int .i64 x.2.1,.int .i64 x.2.2.1,.int .i64 x.2.2.2]),defers:=[]}) ⟨?_,?_,?_,?_⟩ (x:=x) ?_ ?_ rfl hB hB2 hB3 (fun a' W' kp hI' hAx=>hK a' W' kp.1 kp.2 ⟨s',hs,hI'⟩ hAx)
  ·show (Array.setIfInBounds _ _ _).size=104
   rw [Array.size_setIfInBounds,Array.size_setIfInBounds];exact hp.1
  ·show Array.getD _ _ _=_
   rw [g];exact hp.2.1
  ·show Array.getD _ _ _=_
   rw [g];exact hp.2.2.1
  ·show Array.getD _ _ _=_
   rw [g];exact hp.2.2.2
  ·show Array.getD _ _ _=_
   rw [g];rfl
  ·show Array.getD _ _ _=_
   rw [g];rfl
 ·refine bdy2_ok (r:=some l) (Bs:=Bs) G hI hAx hB hB2 hB3 (fun a'' W' s'' kp hst hI'=>⟨kp.1,kp.2,s'',?_,hI'⟩) (fun a'' W' s'' kp hst hI'=>⟨kp.1,rfl,?_,s'',hI'⟩)
  ·rw [goR_app,hs]
   show (st2 p s' x).bind _=_
   rw [hst];rfl
  ·rw [goR_app,hs]
   show (st2 p s' x).bind _=_
   rw [hst];rfl
 ·have he:ys=xs:=he
  subst he
  exact hdone D W s' hD hs hI hk
 ·subst hc
  refine wpIn_ret (hstop D W s' hD ?_ hI hk)
  rw [he,goR_app,hs];rfl
end
end Go.Proofs.YtkihjakbbcajbaaGreat.PM
namespace Go.Proofs.YtkihjakbbcajbaaGreat.PM
set_option linter.unusedSimpArgs false
set_option linter.unusedVariables false
open Go Go.Proofs Go.Proofs.YtkihjakbbcajbaaGreat.Kd
noncomputable def same0 (p:t7.den):List t0.den:=[p.2.2.1.1,List.getD (α:=t0.den) p.2.1 1 t0.zero,List.getD (α:=t0.den) p.2.1 2 t0.zero]
noncomputable def a9.Rest (p:t7.den):Option (Int × Unit):=
 (tItems p.2.2.2.1).bind fun xs=>match goR (st1 p) xs (same0 p) with
  |none=>some (8,())
  |some s1=>(tItems p.2.2.2.2.1).bind fun ys=>match goR (st2 p) ys s1 with
   |none=>some (8,())
   |some s2=>a9.T p 0 s2
noncomputable def a9.Fn:Fun:=⟨a9.sg,fun x=>(entry a9.E a9.sg Tryz.f128 x).ev fun _ _=>a9.Rest x.1⟩
noncomputable def a9.F (p:t7.den):Option (Int × Unit):=a9.Fn.F (p,())
noncomputable def s1P (p:t7.den):St:=a9.S1 p.1 p.2.1 p.2.2.1.1.1 p.2.2.1.1.2.1 p.2.2.1.1.2.2.1 p.2.2.1.2.1 p.2.2.1.2.2.1 p.2.2.1.2.2.2.1 p.2.2.2.1.1 p.2.2.2.1.2.1 p.2.2.2.1.2.2.1 p.2.2.2.1.2.2.2.1.1 p.2.2.2.1.2.2.2.1.2.1 p.2.2.2.1.2.2.2.1.2.2.1 p.2.2.2.1.2.2.2.2.1 p.2.2.2.1.2.2.2.2.2.1.1 p.2.2.2.1.2.2.2.2.2.1.2.1 p.2.2.2.1.2.2.2.2.2.1.2.2.1 p.2.2.2.1.2.2.2.2.2.1.2.2.2.1 p.2.2.2.2.1.1 p.2.2.2.2.1.2.1 p.2.2.2.2.1.2.2.1 p.2.2.2.2.1.2.2.2.1.1 p.2.2.2.2.1.2.2.2.1.2.1 p.2.2.2.2.1.2.2.2.1.2.2.1 p.2.2.2.2.1.2.2.2.2.1 p.2.2.2.2.1.2.2.2.2.2.1.1 p.2.2.2.2.1.2.2.2.2.2.1.2.1 p.2.2.2.2.1.2.2.2.2.2.1.2.2.1 p.2.2.2.2.1.2.2.2.2.2.1.2.2.2.1 p.2.2.2.2.2.1 p.2.2.2.2.2.2.1.1 p.2.2.2.2.2.2.1.2.1 p.2.2.2.2.2.2.1.2.2.1
noncomputable def q3 (p:t7.den):=evR a9.E r3 1000 (s1P p).tm (s1P p).hp
theorem q3_ok (p:t7.den):(q3 p).isSome=true:=by kernel_rfl
theorem q3_t1 (p:t7.den):look 1 (tmR (q3 p))=some (.ptr 0 []):=by kernel_rfl
theorem q3_t2 (p:t7.den):look 2 (tmR (q3 p))=some (.ptr 1 []):=by kernel_rfl
theorem q3_t3 (p:t7.den):look 3 (tmR (q3 p))=some (.ptr 1640 []):=by kernel_rfl
theorem q3_h0 (p:t7.den):(hR (q3 p)).at 0=some (.box (mk t7 p)):=by kernel_rfl
theorem q3_h1 (p:t7.den):(hR (q3 p)).at 1=some (.box (.v (.int .i64) 0)):=by kernel_rfl
theorem q3_h2 (p:t7.den):(hR (q3 p)).at 1640=some (.box (.v (.arr 3 t0) (same0 p))):=by kernel_rfl
theorem ntmps:Tryz.f128.ntmps=104:=by kernel_rfl
section
variable {A:Nat→Prop} {w:World} {vs:List Value}
theorem done_int {w':World} (hA:∀r,A r→r<w.heap.size) (v0:Value) (hv:vs=[v0]) (hk:Keep (fun r=>w.heap.size≤r∨r∈([]:List Nat)) w w') (m:Int):Done a9.Fn A w vs [] (m,()) (.returned (.int .i64 m)) w':=by
 subst hv
 refine ⟨⟨[.int .i64 m],A,[],rfl,?_,List.nodup_nil,fun r h=>(by cases h),fun r h=> .inl h,fun r h=>Nat.lt_of_lt_of_le (hA r h) hk.size⟩,hk⟩
 exact ⟨_,[],[],[],rfl,rfl,⟨rfl,rfl,rfl⟩,rfl,rfl⟩
theorem out_int {B:Nat→Prop} {w':World} {zs:List Value} {y:(outTy a9.sg.ps a9.sg.rs).den} {bs:List Nat} (h:OutRel B w' a9.sg.ps a9.sg.rs vs zs y bs):zs=[.int .i64 y.1]:=by
 obtain ⟨v,us,p,q,h1,h2,⟨h3,h4⟩,h5⟩:=h
 obtain ⟨h5,_⟩:=h5
 have h4:v.cells.toList=[.int .i64 y.1]:=h4.1
 have h3:isAggV v=false:=h3
 subst h1 h5
 have key:∀v:Value,isAggV v=false→v.cells.toList=[v]:=fun v h=>by
  cases v with
  |agg xs=>cases h
  |_=>rfl
 rw [key v h3] at h4
 exact h4
theorem leave_marks {fn:Func} {tmps:Array Value} {R:Ending→World→Prop} {v:Value}:∀(Ds:List Nat) (W:World),(∀D∈Ds,W.heap[D]?=some (.deferred (some [])))→Ds.Nodup→
  (∀W':World,(∀(r:Nat) (c:Array Value) (e:TypeId) (z:Nat × Nat),W.heap[r]?=some (Obj.cells c e z)→W'.heap[r]?=W.heap[r]?)→W'.os=W.os→W'.tape=W.tape→W'.output=W.output→W'.heap.size=W.heap.size→(∀r,r∉Ds→W'.heap[r]?=W.heap[r]?)→(results fn tmps).run Tryz.prog W'=.ok v W'∧R (.returned v) W')→
  LeavesInM Fence.wide 3 Tryz.prog fn tmps R (Ds.map mark) .returning W
 |[],W,_,_,h=>by
  obtain ⟨h1,h2⟩:=h W (fun _ _ _ _ _=>rfl) rfl rfl rfl rfl (fun _ _=>rfl)
  exact ⟨v,h1,h2⟩
 |D::Ds,W,hD,hn,h=>by
  have hd:=hD D (List.mem_cons_self ..)
  have hsz:(W.putObj D (.deferred none)).heap.size=W.heap.size:=by simp [World.putObj]
  have other:∀r,r≠D→(W.putObj D (.deferred none)).heap[r]?=W.heap[r]?:=fun r hr=>by
   simp only [World.putObj]
   rw [Array.getElem?_setIfInBounds_ne (fun e=>hr e.symm)]
  rw [List.nodup_cons] at hn
  refine ⟨by simp,.inl ⟨D,W.putObj D (.deferred none),rfl,run_takeDeferred hd,?_⟩⟩
  refine leave_marks Ds _ (fun E hE=>by rw [other E (fun e=>hn.1 (e▸hE))];exact hD E (List.mem_cons_of_mem _ hE)) hn.2 (fun W' h1 h2 h3 h4 h5 h6=>h W' (fun r c e z hr=>?_) h2 h3 h4 (h5.trans hsz) (fun r hr=>?_))
  ·have hne:r≠D:=fun e'=>by subst e';rw [hd] at hr;cases hr
   rw [h1 r c e z (by rw [other r hne];exact hr),other r hne]
  ·rw [h6 r (fun h=>hr (List.mem_cons_of_mem _ h)),other r (fun e=>hr (e▸List.mem_cons_self ..))]
end
theorem Keep.mono {V V':Nat→Prop} {a b:World} (h:∀r,V r→V' r) (k:Keep V a b):Keep V' a b:=⟨k.os,k.tape,k.output,k.size,fun r hr hn=>k.block r hr (fun hv=>hn (h r hv))⟩
end Go.Proofs.YtkihjakbbcajbaaGreat.PM
namespace Go.Proofs.YtkihjakbbcajbaaGreat.PM
set_option linter.unusedSimpArgs false
set_option linter.unusedVariables false
open Go Go.Proofs Go.Proofs.YtkihjakbbcajbaaGreat.Kd
theorem fhb:Tryz.f128.body=some a9.b:=rfl
theorem fwf:wfC Tryz.f128.ntmps a9.b=true:=by kernel_rfl
theorem fres:resOk Tryz.prog a9.sg.rs Tryz.f128.results.toList=true:=by kernel_rfl
theorem fct:wfI 104 [.code ct]=true:=by kernel_rfl
theorem T_def (p:t7.den) (n:Int) (s:List t0.den):a9.T p n s=res a9.c [.code ct] (a9.ST p n s):=by kernel_rfl
theorem ST_tm (p:t7.den) (n:Int) (s:List t0.den):(a9.ST p n s).tm=tmP p:=by kernel_rfl
theorem ST_hp (p:t7.den) (n:Int) (s:List t0.den):(a9.ST p n s).hp=hpL (bx2 0 0 n s):=by kernel_rfl
theorem ST_io (p:t7.den) (n:Int) (s:List t0.den):(a9.ST p n s).io=[]:=by kernel_rfl
theorem fin_ret (p:t7.den) (n:Int) (s:List t0.den) (ff:List It→St→Option (Int × Unit)):(a9.c.fin (a9.ST p n s)).ev ff=some (n,()):=by kernel_rfl
def outP (R:Ending→World→Prop):Exit→Act→World→Prop:=fun e a w=>(e=.normal∨e=.ret)∧LeavesInM Fence.wide 3 Tryz.prog Tryz.f128 a.tmps R a.defers .returning w
section
variable {A A0:Nat→Prop} {w w0:World} {b1 b2 b3:Nat} {c1:List Value} {p:t7.den} {n:Int} {s:List t0.den} {vs:List Value}
theorem box_at {B:Bs} {g:Gh} {A':Nat→Prop} {a:Act} {W':World} {tm:List (Nat × PV)} {h:Hp} {io:List PV} (R:RS B g A' a W' tm h io) {id t:Nat} {X:PV} (hq:h.at id=some (.box X)) (ht:look t tm=some (.ptr id [])):
  ∃sl b c e,a.tmps.getD t undef=.pointer (some ⟨b,0,none⟩)∧g id=some sl∧sl.blk=some b∧W'.heap[b]?=some (.cells c e (0,0))∧X.rel g A' W' c.toList∧¬A' b∧B.W b:=by
 obtain ⟨s,b,c,e,h1,h2,h3,h4⟩:=R.hr.blk id _ hq
 obtain ⟨s2,b2,k1,k2,k3,_⟩:=rel_ptr (R.tms t _ ht).2
 rw [h1] at k1;injection k1 with k1;subst k1
 rw [h2] at k2;injection k2 with k2;subst k2
 obtain ⟨o1,o2⟩:=R.hr.own id _ s b hq rfl h1 h2
 exact ⟨s,b,c,e,k3,h1,h2,h3,h4,o1,o2⟩
theorem fin_marks {B:Bs} {g:Gh} {A':Nat→Prop} {a:Act} {w':World} {st:St} (R:RS B g A' a w' st.tm st.hp st.io) (hsl:B.sl=[]) {ff:List It→St→Option (Int × Unit)} {y:Int × Unit} (e:(a9.c.fin st).ev ff=some y) {Ds:List Nat} (hdf:B.df=Ds.map mark) (hn:Ds.Nodup) (hD:∀D∈Ds,w'.heap[D]?=some (.deferred (some []))∧w0.heap.size≤D)
  {v0:Value} (hv:vs=[v0]) (hA:∀r,A0 r→r<w0.heap.size) (hk:Keep (fun r=>w0.heap.size≤r∨r∈([]:List Nat)) w0 w'):LeavesInM Fence.wide 3 Tryz.prog Tryz.f128 a.tmps (Done a9.Fn A0 w0 vs [] y) a.defers .returning w':=by
 obtain ⟨z,ws',rs',k1,k2⟩:=toD_evT _ _ _ _ _ e
 have k1:=OkT_Ok _ _ _ _ _ k1
 simp only [DT.ev] at k2
 injection k2 with k2
 subst k2
 have hio:=R.io
 rw [hsl] at hio
 obtain ⟨A2,bs2,zs,G,o1,o2⟩:=outs_ok (P:=Tryz.prog) (a:=a) (st:=st) (fun t x e=>(R.tms t x e).2) fres a9.sg.ps st.io vs [] A' st.hp z _ (fun _ h=>h) R.hr hio (by subst hv;rfl) k1
 have hz:=out_int o1
 subst hz
 rw [R.defs,hdf]
 refine leave_marks Ds w' (fun D h=>(hD D h).1) hn (fun W h1 h2 h3 h4 h5 h6=>⟨results_run (resAll_turn h1 _ _ o2),?_⟩)
 refine done_int hA v0 hv ⟨h2.trans hk.os,h3.trans hk.tape,h4.trans hk.output,?_,fun r hr hn=>?_⟩ z.1
 ·rw [h5];exact hk.size
 ·rw [h6 r (fun h=>by have:=(hD r h).2;omega)];exact hk.block r hr hn
theorem tail_ok (G:Ground A w b1 b2 b3 c1 p) (I:Inv A w b2 b3 n s w) {a:Act} (hp:Pts b1 b2 b3 a) {Ds:List Nat} (hdf:a.defers=Ds.map mark) (hn:Ds.Nodup) (hD:∀D∈Ds,w.heap[D]?=some (.deferred (some []))∧w0.heap.size≤D)
  {v0:Value} (hv:vs=[v0]) (hA:∀r,A0 r→r<w0.heap.size) (hk:Keep (fun r=>w0.heap.size≤r∨r∈([]:List Nat)) w0 w) (n2:w0.heap.size≤b2) (n3:w0.heap.size≤b3) {y:Int × Unit} (hT:a9.T p n s=some y):
  ct.wpIn Fence.wide 3 Tryz.prog (outP (Done a9.Fn A0 w0 vs [] y)) a w:=by
 have R0:=boxes_RS0 (nt:=104) (a:=a) (tm:=tmP p) I.bx G.gl hp.1 (tmP_ok G (.refl _ w) hp gL2_1 gL2_2)
 have R:RS (BL0 G.gl (bx2 b2 b3 n s) 104 a.defers) (gL (bx2 b2 b3 n s)) A a w (a9.ST p n s).tm (a9.ST p n s).hp (a9.ST p n s).io:=by
  rw [ST_tm,ST_hp,ST_io];exact R0
 rw [T_def] at hT
 have hw:∀{g:Gh} {A':Nat→Prop} {a':Act} {w':World} {tm:List (Nat × PV)} {h:Hp} {io:List PV},RS (BL0 G.gl (bx2 b2 b3 n s) 104 a.defers) g A' a' w' tm h io→Keep (fun r=>w0.heap.size≤r∨r∈([]:List Nat)) w0 w'∧∀D∈Ds,w'.heap[D]?=some (.deferred (some []))∧w0.heap.size≤D:=fun {g A' a' w' tm h io} R'=>by
  have hk':=R'.keep
  have hW:∀r,r<w.heap.size→r≠b2→r≠b3→w'.heap[r]?=w.heap[r]?:=fun r hr h2 h3=>hk'.block r hr (fun hx=>by
   rcases hx with hx|⟨q,hq,rfl⟩
   ·have:w.heap.size≤r:=hx
    omega
   ·unfold bx2 at hq
    simp only [List.mem_cons,List.not_mem_nil,or_false] at hq
    rcases hq with rfl|rfl
    ·exact h2 rfl
    ·exact h3 rfl)
  refine ⟨⟨hk'.os.trans hk.os,hk'.tape.trans hk.tape,hk'.output.trans hk.output,Nat.le_trans hk.size hk'.size,fun r hr hn=>?_⟩,fun D hDs=>?_⟩
  ·rw [hW r (Nat.lt_of_lt_of_le hr hk.size) (by omega) (by omega)];exact hk.block r hr hn
  ·obtain ⟨h1,h2⟩:=hD D hDs
   have cell:∀q∈bx2 b2 b3 n s,q.b≠D:=fun q hq e=>by
    obtain ⟨c,e',h3,_⟩:=I.bx.cell q hq
    rw [e,h1] at h3;cases h3
   refine ⟨?_,h2⟩
   rw [hW D (heap_lt h1) (fun e=>cell ⟨1,b2,.int .i64,n⟩ (List.mem_cons_self ..) e.symm) (fun e=>cell ⟨2,b3,.arr 3 t0,s⟩ (List.mem_cons_of_mem _ (List.mem_cons_self ..)) e.symm)]
   exact h1
 have fin:∀(ff:List It→St→Option (Int × Unit)) (st:St) (r:Int × Unit),(a9.c.fin st).ev ff=some r→∀g A' a' w',RS (BL0 G.gl (bx2 b2 b3 n s) 104 a.defers) g A' a' w' st.tm st.hp st.io→LeavesInM Fence.wide 3 Tryz.prog Tryz.f128 a'.tmps (Done a9.Fn A0 w0 vs [] r) a'.defers .returning w':=fun ff st r e g A' a' w' R'=>
  fin_marks R' rfl e hdf hn (hw R').2 hv hA (hw R').1
 refine wpIn_wide.2 (fun b k cs=>?_)
 obtain ⟨ex,a',w',hex,harr⟩:=res_ok (B:=BL0 G.gl (bx2 b2 b3 n s) 104 a.defers) (Post:=fun r _ a' w'=>LeavesInM Fence.wide 3 Tryz.prog Tryz.f128 a'.tmps (Done a9.Fn A0 w0 vs [] r) a'.defers .returning w') a9.envOk rfl mixOk (C:=a9.c) rfl ntmps fin fin b k cs hT R fct
 refine ⟨ex,a',w',?_,harr⟩
 rcases hex with ⟨rfl,h⟩|⟨rfl,h⟩
 ·exact ⟨.inl rfl,h⟩
 ·exact ⟨.inr rfl,h⟩
end
end Go.Proofs.YtkihjakbbcajbaaGreat.PM
