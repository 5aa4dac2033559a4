/- Parts of the proof, joined: TbR1, TbR2, TbN, TbDp, TbDo, TbDt, TbDu, TbR3, PM28, PM29, ImgP1. -/
import Derived.Test.YtkihjakbbcajbaaGreatTbT
import Derived.ProofKit
import Derived.OpenShut
import Derived.Deep.Slices
import Derived.ShutString
import Derived.ChangeOld
import Derived.SizedLaws
import Derived.Carry
namespace Go.Proofs.YtkihjakbbcajbaaGreat.TB
set_option linter.unusedSimpArgs false
set_option linter.unusedVariables false
open Go Go.Proofs Go.Proofs.YtkihjakbbcajbaaGreat.PM Go.Proofs.YtkihjakbbcajbaaGreat.RP
theorem in_f {l:List Int} (hl:l.length≤1000) (n:Int):co.F l n=some (decide (n∈l),()):=by
 rw [co.F_eq]
 rcases find_loop (n:=l.length) (L:=fun i=>co.L1 l n (i:Int)) (p:=fun i=>l.getD i 0=n) (hit:=fun _=>some (true,())) (miss:=some (false,())) (fun i hi=>by
  try dsimp only
  rw [co.L1_eq,bd_pos (by omega),co.L2_eq,bd_pos (by omega)]
  simp only [toNat_cast]
  by_cases e:l.getD i 0=n
  ·rw [beq_pos e];exact .inl ⟨e,rfl⟩
  ·rw [beq_neg e,co.L3_eq,W_eq (by omega) (by omega),cast_add1];exact .inr ⟨e,rfl⟩) (by
  try dsimp only
  rw [co.L1_eq,bd_neg (by omega)]) with ⟨i,hi,h1,_,h2⟩|⟨h1,h2⟩
 ·refine Eq.trans h2 ?_
  rw [decide_eq_true]
  rw [getD_get hi] at h1
  rw [←h1];exact List.getElem_mem hi
 ·refine Eq.trans h2 ?_
  rw [decide_eq_false]
  intro hm
  obtain ⟨i,hi,e⟩:=List.mem_iff_getElem.1 hm
  exact h1 i hi (by rw [getD_get hi,e])
theorem free_step (next:List Int) (used:List Bool) (free:Int) (hn:next.length≤100) (i:Int) (acc:List Int) (ha:acc.length≤100):cp.L1 i next used free acc=if i= -1 then some (acc,true,()) else if i<0 then some ([],false,()) else if i≥next.length then some ([],false,()) else if i∈acc then some ([],false,()) else cp.L1 (next.getD i.toNat 0) next used free (acc++[i]):=by
 conv=>lhs;rw [cp.L1_eq]
 by_cases e:i= -1
 ·rw [bne_neg e,if_pos e]
 rw [bne_pos e,if_neg e,cp.L2_eq]
 by_cases h0:i<0
 ·rw [bd_pos h0,if_pos h0]
 rw [bd_neg h0,if_neg h0]
 by_cases h1:i≥next.length
 ·rw [bd_pos h1,if_pos h1]
 rw [bd_neg h1,if_neg h1,in_f (by omega),ob]
 by_cases hm:i∈acc
 ·rw [if_pos hm,decide_eq_true hm];rfl
 ·rw [if_neg hm,decide_eq_false hm,bf rfl,cp.L3_eq,lim_small (by decide) (by simp;omega),bd_pos (by omega)]
theorem free_f (next:List Int) (used:List Bool) (free:Int) (hn:next.length≤100):(∃l,Chain next free l∧l.Nodup∧cp.F (next,used,free,())=some (l,true,()))∨((¬∃l,Chain next free l∧l.Nodup)∧cp.F (next,used,free,())=some ([],false,())):=by
 have:=walk_gen (L:=fun i acc=>cp.L1 i next used free acc) hn (fun i acc ha=>free_step next used free hn i acc ha) next.length [] free (by simp) (by simp) (by simp)
 simpa [cp.F_eq] using this
theorem all_step (prev next:List Int) (head tail:Int) (hn:next.length≤100) (i:Int) (acc:List Int) (ha:acc.length≤100):cm.L1 i prev next head tail acc=if i= -1 then some (acc,true,()) else if i<0 then some ([],false,()) else if i≥next.length then some ([],false,()) else if i∈acc then some ([],false,()) else cm.L1 (next.getD i.toNat 0) prev next head tail (acc++[i]):=by
 conv=>lhs;rw [cm.L1_eq]
 by_cases e:i= -1
 ·rw [bne_neg e,if_pos e]
 rw [bne_pos e,if_neg e,cm.L2_eq]
 by_cases h0:i<0
 ·rw [bd_pos h0,if_pos h0]
 rw [bd_neg h0,if_neg h0]
 by_cases h1:i≥next.length
 ·rw [bd_pos h1,if_pos h1]
 rw [bd_neg h1,if_neg h1,in_f (by omega),ob]
 by_cases hm:i∈acc
 ·rw [if_pos hm,decide_eq_true hm];rfl
 ·rw [if_neg hm,decide_eq_false hm,bf rfl,cm.L3_eq,lim_small (by decide) (by simp;omega),bd_pos (by omega)]
theorem all_f (prev next:List Int) (head tail:Int) (hn:next.length≤100):(∃l,Chain next head l∧l.Nodup∧cm.F (prev,next,head,tail,())=some (l,true,()))∨((¬∃l,Chain next head l∧l.Nodup)∧cm.F (prev,next,head,tail,())=some ([],false,())):=by
 have:=walk_gen (L:=fun i acc=>cm.L1 i prev next head tail acc) hn (fun i acc ha=>all_step prev next head tail hn i acc ha) next.length [] head (by simp) (by simp) (by simp)
 simpa [cm.F_eq] using this
theorem rarena_says (next:List Int) (used:List Bool) (free:Int):Says (AOk next used free) (ay.F (next,used,free,())):=by
 rw [ay.F_eq]
 dsimp only
 by_cases hlow:(next.length:Int)<1
 ·rw [bd_pos hlow];exact .inr ⟨fun ⟨l,g⟩=>by have:=g.low;omega,rfl⟩
 by_cases hhigh:(next.length:Int)>16
 ·rw [bd_neg hlow,bd_pos hhigh];exact .inr ⟨fun ⟨l,g⟩=>by have:=g.high;omega,rfl⟩
 by_cases hsame:(used.length:Int)=(next.length:Int)
 ·rw [bd_neg hlow,bd_neg hhigh,bne_neg hsame,ay.L1_eq]
  rcases free_f next used free (by omega) with ⟨l,hc,hnd,e⟩|⟨hc,e⟩
  ·have hs:=nodup_le hnd hc.range
   rw [e,ob,bnt rfl,ay.L2_eq]
   refine Says.congr (P:=∀i,i<used.length→((used.getD i false=true↔¬(i:Int)∈l)∧(used.getD i false=true→next.getD i 0= -1))) ?_ ⟨fun h=>⟨l,by omega,by omega,by omega,hc,hnd,fun j hj=>(h j hj).1,fun j hj=>(h j hj).2⟩,fun ⟨l',g⟩ i hi=>?_⟩
   ·rcases loop_all (n:=used.length) (L:=fun i=>ay.L3 (i:Int) next used free l) (ok:=fun i=>((used.getD i false=true↔¬(i:Int)∈l)∧(used.getD i false=true→next.getD i 0= -1))) (stop:=some (8,())) (fun i hi=>by
     try dsimp only
     rw [ay.L3_eq,bd_pos (by omega),ay.L4_eq,bd_pos (by omega),in_f (by omega),ob]
     simp only [toNat_cast]
     have nxt:ay.L5 (i:Int) next used free l=ay.L3 ((i+1:Nat):Int) next used free l:=by
      rw [ay.L5_eq,W_eq (by omega) (by omega),cast_add1]
     by_cases u:used.getD i false=true
     ·by_cases m:(i:Int)∈l
      ·rw [u,decide_eq_true m];exact .inr ⟨fun h=>h.1.1 rfl m,rfl⟩
      ·rw [u,decide_eq_false m,bf (b:=true==false) rfl,bd_pos (by omega),bt rfl,bd_pos (by omega)]
       by_cases z:next.getD i 0= -1
       ·rw [bne_neg z,nxt];exact .inl ⟨⟨⟨fun _=>m,fun _=>rfl⟩,fun _=>z⟩,rfl⟩
       ·rw [bne_pos z];exact .inr ⟨fun h=>z (h.2 rfl),rfl⟩
     ·rw [bool_not u]
      by_cases m:(i:Int)∈l
      ·rw [decide_eq_true m,bf (b:=false==true) rfl,bd_pos (by omega),bf rfl,nxt]
       exact .inl ⟨⟨⟨fun h=>(by cases h),fun h=>absurd m h⟩,fun h=>(by cases h)⟩,rfl⟩
      ·rw [decide_eq_false m];exact .inr ⟨fun h=>(by cases h.1.2 m),rfl⟩) with ⟨h,e⟩|⟨h,e⟩
    ·refine .inl ⟨h,Eq.trans e ?_⟩
     try dsimp only
     rw [ay.L3_eq,bd_neg (by omega)]
    ·exact .inr ⟨h,e⟩
   ·obtain rfl:=hc.det g.chain
    exact ⟨g.mark i hi,g.end_ i hi⟩
  ·rw [e,ob,bnf rfl]
   exact .inr ⟨fun ⟨l,g⟩=>hc ⟨l,g.chain,g.nodup⟩,rfl⟩
 ·rw [bd_neg hlow,bd_neg hhigh,bne_pos hsame];exact .inr ⟨fun ⟨l,g⟩=>by have:=g.same;omega,rfl⟩
theorem count_f {x:List t3.den} (hx:x.length≤1000):bq.F x=some ((cnt x:Int),()):=by
 have h2:=loop_go (n:=x.length) (L:=fun i=>bq.L1 x (((x.take i).countP (·.2.2.1):Nat):Int) (i:Int)) (fun i hi=>by
  have hle:=cnt_le x i
  try dsimp only
  rw [bq.L1_eq,bd_pos (by omega),bq.L2_eq,bd_pos (by omega),take_cnt hi]
  by_cases u:(cl x (i:Int)).2.2.1=true
  ·rw [bt u,if_pos u,bq.L3_eq,W_eq (by omega) (by omega),W_eq (by omega) (by omega),cast_add1,cast_add1]
  ·rw [bf (bool_not u),if_neg u,bq.L3_eq,W_eq (x:=(i:Int)+1) (by omega) (by omega),cast_add1];rfl)
 try dsimp only at h2
 rw [List.take_of_length_le (Nat.le_refl _)] at h2
 have h3:bq.L1 x 0 0=bq.L1 x (cnt x:Int) (x.length:Int):=h2
 rw [bq.F_eq,h3,bq.L1_eq,bd_neg (by omega)]
theorem at_f {x:List t3.den} (hx:x.length≤1000) (key:Int):
  (∃i:Nat,i<x.length∧(cl x (i:Int)).2.2.1=true∧(cl x (i:Int)).1=key∧(∀j:Nat,j<i→¬((cl x (j:Int)).2.2.1=true∧(cl x (j:Int)).1=key))∧cw.F x key=some ((i:Int),()))∨
  ((∀j:Nat,j<x.length→¬((cl x (j:Int)).2.2.1=true∧(cl x (j:Int)).1=key))∧cw.F x key=some (-1,())):=by
 rw [cw.F_eq]
 rcases find_loop (n:=x.length) (L:=fun i=>cw.L1 x key (i:Int)) (p:=fun j:Nat=>(cl x (j:Int)).2.2.1=true∧(cl x (j:Int)).1=key) (hit:=fun i=>some ((i:Int),())) (miss:=some (-1,())) (fun i hi=>by
  try dsimp only
  have nxt:cw.L3 x key (i:Int)=cw.L1 x key ((i+1:Nat):Int):=by
   rw [cw.L3_eq,W_eq (by omega) (by omega),cast_add1]
  rw [cw.L1_eq,bd_pos (by omega),cw.L2_eq,bd_pos (by omega)]
  by_cases u:(cl x (i:Int)).2.2.1=true
  ·rw [bt u,bd_pos (by omega)]
   by_cases e:(cl x (i:Int)).1=key
   ·rw [beq_pos e];exact .inl ⟨⟨u,e⟩,rfl⟩
   ·rw [beq_neg e,nxt];exact .inr ⟨fun h=>e h.2,rfl⟩
  ·rw [bf (bool_not u),nxt];exact .inr ⟨fun h=>u h.1,rfl⟩) (by
  try dsimp only
  rw [cw.L1_eq,bd_neg (by omega)]) with ⟨i,hi,h1,h3,h2⟩|⟨h1,h2⟩
 ·exact .inl ⟨i,hi,h1.1,h1.2,h3,h2⟩
 ·exact .inr ⟨h1,h2⟩
theorem at_valid {x:List t3.den} (h:POk x) {i:Int} (h0:0≤i) (h1:i<16) (u:(cl x i).2.2.1=true):cw.F x (cl x i).1=some (i,()):=by
 have hl:=h.len
 rcases at_f (x:=x) (by omega) (cl x i).1 with ⟨j,hj,v,e,_,f⟩|⟨n,_⟩
 ·rw [f,h.uniq (j:Int) i (by omega) (by omega) h0 h1 v u e]
 ·have:=n i.toNat (by omega)
  rw [show ((i.toNat:Nat):Int)=i by omega] at this
  exact absurd ⟨u,rfl⟩ this
def Keys (x:List t3.den):Prop:=∀i:Int,0≤i→i<x.length→0≤Z (cl x i).1∧Z (cl x i).1<4294967296
theorem rhome_f {key:Int} (h0:0≤key) (h1:key<4294967296):gp.F key=some (hm key,()):=by
 have e1:IntKind.wrap .u64 key=key:=by rw [IntKind.wrap_u64];omega
 have e2:IntKind.wrap .u64 (key*2654435769)=key*2654435769:=by rw [IntKind.wrap_u64];omega
 have e3:IntKind.wrap .u64 (hm key)=hm key:=by have:=hm_range key;rw [IntKind.wrap_u64];omega
 have e4:IntKind.wrap .i64 (hm key)=hm key:=by have:=hm_range key;exact W_eq (by omega) (by omega)
 rw [gp.F_eq,bd_pos (by decide),bd_pos (by decide),e1,e2,Int.tmod_eq_emod_of_nonneg (by omega),Int.tdiv_eq_ediv_of_nonneg (by omega)]
 show some (IntKind.wrap .i64 (IntKind.wrap .u64 (hm key)),())=_
 rw [e3,e4]
def RefOk (x:List t3.den) (i:Int):Prop:=
 ((cl x i).2.2.1=false→cl x i=(0,0,false,()))∧
 ((cl x i).2.2.1=true→0≤Z (cl x i).2.1∧Z (cl x i).2.1<16∧cw.F x (cl x i).1=some (i,())∧
  ∀e:Nat,(e:Int)<(i - hm (cl x i).1) % 16→(cl x ((hm (cl x i).1+e) % 16)).2.2.1=true)
theorem ref_of_valid {x:List t3.den} (h:POk x) (i:Int) (h0:0≤i) (h1:i<16):RefOk x i:=
 ⟨h.zero i h0 h1,fun u=>⟨(h.place i h0 h1 u).1,(h.place i h0 h1 u).2,at_valid h h0 h1 u,h.path i h0 h1 u⟩⟩
theorem valid_of_ref {x:List t3.den} (hx:x.length=16) (hc:cnt x≤12) (h:∀i:Int,0≤i→i<16→RefOk x i):POk x where
 len:=hx
 few:=hc
 zero i h0 h1:=(h i h0 h1).1
 place i h0 h1 u:=⟨((h i h0 h1).2 u).1,((h i h0 h1).2 u).2.1⟩
 uniq i j h0 h1 g0 g1 u v hk:=by
  have a:=((h i h0 h1).2 u).2.2.1
  have b:=((h j g0 g1).2 v).2.2.1
  rw [hk,b] at a
  exact (congrArg Prod.fst (Option.some.inj a)).symm
 path i h0 h1 u e he:=((h i h0 h1).2 u).2.2.2 e he
theorem rpath {x:List t3.den} (hx:x.length=16) {i:Nat} {h:Int} (h1:i<16) (g0:0≤h) (g1:h<16):
  ((∀e:Nat,(e:Int)<((i:Int) - h) % 16→(cl x ((h+e) % 16)).2.2.1=true)∧aa.L7 x (i:Int) h=aa.L2 x ((i+1:Nat):Int))∨
  ((¬∀e:Nat,(e:Int)<((i:Int) - h) % 16→(cl x ((h+e) % 16)).2.2.1=true)∧aa.L7 x (i:Int) h=some (8,())):=by
 rcases loop_all (n:=(((i:Int) - h) % 16).toNat) (L:=fun e=>aa.L7 x (i:Int) ((h+(e:Int)) % 16)) (ok:=fun e=>(cl x ((h+(e:Int)) % 16)).2.2.1=true) (stop:=some (8,())) (fun e he=>by
  try dsimp only
  rw [aa.L7_eq,bne_pos (by omega),aa.L8_eq,bd_pos (by omega)]
  by_cases u:(cl x ((h+(e:Int)) % 16)).2.2.1=true
  ·rw [bnt u,aa.L9_eq,bd_pos (by decide),W_eq (by omega) (by omega),Int.tmod_eq_emod_of_nonneg (by omega),next_pos]
   exact .inl ⟨u,rfl⟩
  ·rw [bnf (bool_not u)];exact .inr ⟨u,rfl⟩) with ⟨a,e⟩|⟨a,e⟩
 ·left
  refine ⟨fun e he=>a e (by omega),?_⟩
  try dsimp only at e
  rw [show (h+((0:Nat):Int)) % 16=h by omega,show (h+(((((i:Int) - h) % 16).toNat:Nat):Int)) % 16=(i:Int) by omega] at e
  rw [e,aa.L7_eq,bne_neg rfl,W_eq (by omega) (by omega),cast_add1]
 ·right
  refine ⟨fun h2=>a fun e he=>h2 e (by omega),?_⟩
  try dsimp only at e
  rw [show (h+((0:Nat):Int)) % 16=h by omega] at e
  exact e
theorem rprobe_says {x:List t3.den} (hk:Keys x) (hl:x.length≤1000):Says (POk x) (aa.F x):=by
 rw [aa.F_eq]
 by_cases hx:(x.length:Int)=16
 ·have hx':x.length=16:=by omega
  rw [bne_neg hx,count_f hl,ob]
  by_cases hc:cnt x≤12
  ·rw [bd_neg (by dsimp only;omega),aa.L1_eq]
   rcases loop_all (n:=16) (L:=fun i=>aa.L2 x (i:Int)) (ok:=fun i=>RefOk x (i:Int)) (stop:=some (8,())) (fun i hi=>by
    try dsimp only
    rw [aa.L2_eq,bd_pos (by omega),aa.L3_eq,bd_pos (by omega)]
    by_cases u:(cl x (i:Int)).2.2.1=true
    ·have nz:¬((cl x (i:Int)).2.2.1=false):=by rw [u];simp
     rw [bnt u,aa.L5_eq,bd_pos (by omega)]
     by_cases p0:Z (cl x (i:Int)).2.1<0
     ·rw [bd_pos (by exact p0)];exact .inr ⟨fun hc=>by have:=(hc.2 u).1;omega,rfl⟩
     by_cases p1:Z (cl x (i:Int)).2.1≥16
     ·rw [bd_neg (by exact p0),bd_pos (by omega),bd_pos (by exact p1)];exact .inr ⟨fun hc=>by have:=(hc.2 u).2.1;omega,rfl⟩
     rw [bd_neg (by exact p0),bd_pos (by omega),bd_neg (by exact p1),bd_pos (by omega)]
     have hr:=hm_range (cl x (i:Int)).1
     have ki:=hk (i:Int) (by omega) (by omega)
     rcases at_f (x:=x) (by omega) (cl x (i:Int)).1 with ⟨j,hj,v,e,_,f⟩|⟨n,f⟩
     ·rw [f,ob]
      by_cases q:(j:Int)=(i:Int)
      ·rw [bne_neg q,aa.L6_eq,bd_pos (by omega),rhome_f ki.1 ki.2,ob]
       rcases rpath hx' hi hr.1 hr.2 with ⟨a,b⟩|⟨a,b⟩
       ·refine .inl ⟨⟨fun uf=>absurd uf nz,fun _=>⟨by omega,by omega,by rw [f,q],a⟩⟩,b⟩
       ·exact .inr ⟨fun h=>a (h.2 u).2.2.2,b⟩
      ·rw [bne_pos q]
       refine .inr ⟨fun h=>q ?_,rfl⟩
       have:=(h.2 u).2.2.1
       rw [f] at this
       exact congrArg Prod.fst (Option.some.inj this)
     ·exact absurd ⟨u,rfl⟩ (n i (by omega))
    ·have uf:=bool_not u
     rw [bnf uf,bd_pos (by omega)]
     by_cases z:cl x (i:Int)=(0,0,false,())
     ·rw [nbeq_neg z,aa.L4_eq,W_eq (by omega) (by omega),cast_add1]
      exact .inl ⟨⟨fun _=>z,fun ut=>absurd ut u⟩,rfl⟩
     ·rw [nbeq_pos z];exact .inr ⟨fun hc=>z (hc.1 uf),rfl⟩) with ⟨a,e⟩|⟨a,e⟩
   ·refine .inl ⟨valid_of_ref hx' hc fun i h0 h1=>?_,Eq.trans e ?_⟩
    ·have:=a i.toNat (by omega)
     rw [show ((i.toNat:Nat):Int)=i by omega] at this
     exact this
    ·try dsimp only
     rw [aa.L2_eq,bd_neg (by decide)]
   ·exact .inr ⟨fun h=>a fun i hi=>ref_of_valid h i (by omega) (by omega),e⟩
  ·rw [bd_pos (by dsimp only;omega)];exact .inr ⟨fun h=>hc h.few,rfl⟩
 ·rw [bne_pos hx];exact .inr ⟨fun h=>hx (by rw [h.len];rfl),rfl⟩
theorem rlimit_says (l:t0.den):Says (LimOk l) (cj.F l):=by
 rw [cj.F_eq]
 exact .guard fun _=> .guard fun _=> .guard fun _=> .guard fun _=> .guard fun _=> .guard fun _=>by rw [cj.L1_eq];exact .done
theorem rbucket_says (b:t1.den):Says (BktOk b) (dh.F b):=by
 rw [dh.F_eq]
 refine (rlimit_says b.1).call (fun hl=>?_) rfl
 rw [bne_neg rfl]
 refine .guard fun a=>?_
 refine Says.congr (P:=¬Z b.2.1>Z b.1.1∧_) (.guard fun c=> .guard fun pz=> .guard fun _=>?_) (and_congr ⟨fun h=>by omega,fun h=>by omega⟩ Iff.rfl)
 have pz:¬Z b.2.2.1<0:=pz
 by_cases z:Z b.2.1=Z b.1.1
 ·rw [beq_pos (by exact z)]
  by_cases w:Z b.2.2.1=0
  ·rw [bne_neg (by exact w),dh.L1_eq];exact .inl ⟨fun _=>by omega,rfl⟩
  ·rw [bne_pos (by exact w)];exact .inr ⟨fun h=>by have:=h (by omega);omega,rfl⟩
 ·rw [beq_neg (by exact z),dh.L1_eq];exact .inl ⟨fun h=>absurd h (by omega),rfl⟩
end Go.Proofs.YtkihjakbbcajbaaGreat.TB
namespace Go.Proofs.YtkihjakbbcajbaaGreat.TB
set_option linter.unusedSimpArgs false
set_option linter.unusedVariables false
open Go Go.Proofs Go.Proofs.YtkihjakbbcajbaaGreat.PM Go.Proofs.YtkihjakbbcajbaaGreat.RP
theorem ext_getD {α:Type} {a b:List α} {d:α} (h:a.length=b.length) (k:∀i:Nat,i<a.length→a.getD i d=b.getD i d):a=b:=by
 refine List.ext_getElem h fun i h1 h2=>?_
 have:=k i h1
 rw [getD_get h1,getD_get h2] at this
 exact this
theorem sameInts_f {a b:List Int} (ha:a.length≤1000):ax.F a b=some (decide (a=b),()):=by
 rw [ax.F_eq]
 by_cases hl:(a.length:Int)=(b.length:Int)
 ·rw [bne_neg hl,ax.L1_eq]
  rcases loop_all (n:=a.length) (L:=fun i=>ax.L2 a b (i:Int)) (ok:=fun i=>a.getD i 0=b.getD i 0) (stop:=some (false,())) (fun i hi=>by
   try dsimp only
   rw [ax.L2_eq,bd_pos (by omega),ax.L3_eq,bd_pos (by omega),bd_pos (by omega)]
   simp only [toNat_cast]
   by_cases e:a.getD i 0=b.getD i 0
   ·rw [bne_neg e,ax.L4_eq,W_eq (by omega) (by omega),cast_add1];exact .inl ⟨e,rfl⟩
   ·rw [bne_pos e];exact .inr ⟨e,rfl⟩) with ⟨h,e⟩|⟨h,e⟩
  ·refine Eq.trans e ?_
   try dsimp only
   rw [ax.L2_eq,bd_neg (by omega),decide_eq_true (ext_getD (by omega) h)]
  ·refine Eq.trans e ?_
   rw [decide_eq_false]
   rintro rfl
   exact h fun _ _=>rfl
 ·rw [bne_pos hl,decide_eq_false]
  rintro rfl
  exact hl rfl
theorem same15_f {p q:List Int} {p' q':List Int} {h t h' t':Int} (hp:p.length≤1000) (hq:q.length≤1000):
  fv.F (p,q,h,t,()) (p',q',h',t',())=some (decide (p=p'∧q=q'∧h=h'∧t=t'),()):=by
 rw [fv.F_eq]
 dsimp only
 rw [sameInts_f hp,ob]
 by_cases e1:p=p'
 ·rw [decide_eq_true e1,bt rfl,sameInts_f hq,ob]
  by_cases e2:q=q'
  ·rw [decide_eq_true e2,bt rfl]
   by_cases e3:h=h'
   ·rw [beq_pos e3]
    by_cases e4:t=t'
    ·rw [decide_eq_true ⟨e1,e2,e3,e4⟩,e4,beq_self_eq_true]
    ·rw [decide_eq_false (fun h=>e4 h.2.2.2),show (t==t')=false by simpa using e4]
   ·rw [beq_neg e3,decide_eq_false (fun h=>e3 h.2.2.1)]
  ·rw [decide_eq_false e2,bf rfl,decide_eq_false (fun h=>e2 h.2.1)]
 ·rw [decide_eq_false e1,bf rfl,decide_eq_false (fun h=>e1 h.1)]
theorem take_snoc {l:List Int} {i:Nat} (h:i<l.length):l.take (i+1)=l.take i++[l.getD i 0]:=by
 rw [getD_get h,List.take_append_getElem h]
theorem Ok.take {n:Nat} {l:List Int} (h:Ok n l) (i:Nat):Ok n (l.take i):=
 ⟨h.1.sublist (List.take_sublist i l),fun x hx=>h.2 x (List.mem_of_mem_take hx)⟩
theorem lst_snoc (c:Int) (A:List Int) (y:Int):lst c (A++[y])=y:=by rw [lst_app];rfl
theorem made_f {n:Nat} {l:List Int} (hn:n≤100) (h:Ok n l):aq.F (n:Int) l=some ((PV n l,NX n l,hd (-1) l,lst (-1) l,()),()):=by
 have hl:=h.len
 have h1:=loop_go (n:=n) (L:=fun i=>aq.L1 (n:Int) l (i:Int) [] (List.replicate i (-1))) (fun i hi=>by
  try dsimp only
  rw [aq.L1_eq,bd_pos (by omega),aq.L2_eq,lim_small (by decide) (by simp;omega),lim_small (by decide) (by simp;omega),W_eq (by omega) (by omega),cast_add1,List.replicate_succ'])
 have h1:aq.L1 (n:Int) l 0 [] []=aq.L1 (n:Int) l (n:Int) [] (List.replicate n (-1)):=h1
 have e0:List.replicate n (-1)=PV n []:=(row_nil n).symm
 have e1:List.replicate n (-1)=NX n []:=(row_nil n).symm
 rw [aq.F_eq,h1,aq.L1_eq,bd_neg (by omega)]
 have h2:=loop_go (n:=l.length) (L:=fun i=>aq.L3 l (i:Int) (hd (-1) (l.take i)) (lst (-1) (l.take i)) [] (PV n (l.take i)) (NX n (l.take i))) (fun i hi=>by
  have ht:=h.take (i+1)
  rw [take_snoc hi] at ht
  have hm:l.getD i 0∈l:=by rw [getD_get hi];exact List.getElem_mem hi
  have hr:=h.2 _ hm
  try dsimp only
  rw [aq.L3_eq,bd_pos (by omega),aq.L4_eq,take_snoc hi]
  have nxt:∀(a b:Int) (p q:List Int),aq.L5 l (i:Int) a b [] p q=aq.L3 l ((i+1:Nat):Int) a (l.getD i 0) [] p q:=fun a b p q=>by
   rw [aq.L5_eq,bd_pos (by omega),W_eq (by omega) (by omega),cast_add1,toNat_cast]
  by_cases i0:i=0
  ·subst i0
   rw [beq_pos (show ((0:Nat):Int)=0 from rfl),bd_pos (by omega),nxt]
   rw [List.take_zero,List.nil_append,PV_one,NX_one]
   rfl
  ·have hi1:i - 1<l.length:=by omega
   have hm1:l.getD (i - 1) 0∈l:=by rw [getD_get hi1];exact List.getElem_mem hi1
   have hr1:=h.2 _ hm1
   have hne:l.take i≠[]:=by
    intro e
    have h9:=List.length_take (i:=i) (l:=l)
    rw [e,List.length_nil] at h9
    omega
   have hlast:lst (-1) (l.take i)=l.getD (i - 1) 0:=by
    have:=take_snoc hi1
    rw [show i - 1+1=i by omega] at this
    rw [this,lst_snoc]
   rw [beq_neg (by omega),bd_pos (by omega),W_eq (by omega) (by omega),bd_pos (by omega)]
   simp only [toNat_cast,toNat_sub1 (Nat.pos_of_ne_zero i0)]
   rw [PV_len,NX_len,bd_pos (by omega),bd_pos (by omega),bd_pos (by omega),bd_pos (by omega),nxt,PV_snoc ht,NX_snoc ht hne,hlast,lst_snoc,hd_app]
   congr 1
   generalize l.take i=A at hne
   cases A with
   |nil=>exact absurd rfl hne
   |cons a A=>rfl)
 have h2:aq.L3 l 0 (-1) (-1) [] (PV n []) (NX n [])=aq.L3 l (l.length:Int) (hd (-1) (l.take l.length)) (lst (-1) (l.take l.length)) [] (PV n (l.take l.length)) (NX n (l.take l.length)):=h2
 rw [List.take_of_length_le (Nat.le_refl _)] at h2
 conv=>lhs;rw [e0]
 conv=>lhs;arg 7;rw [←e0,e1]
 rw [h2,aq.L3_eq,bd_neg (by omega)]
theorem rlru_says (prev next:List Int) (head tail:Int):Says (OOk prev next head tail) (dg.F (prev,next,head,tail,())):=by
 rw [dg.F_eq]
 dsimp only
 by_cases hlow:(prev.length:Int)<1
 ·rw [bd_pos hlow];exact .inr ⟨fun ⟨l,g⟩=>by have:=g.low;omega,rfl⟩
 by_cases hhigh:(prev.length:Int)>16
 ·rw [bd_neg hlow,bd_pos hhigh];exact .inr ⟨fun ⟨l,g⟩=>by have:=g.high;omega,rfl⟩
 by_cases hsame:(next.length:Int)=(prev.length:Int)
 ·rw [bd_neg hlow,bd_neg hhigh,bne_neg hsame,dg.L1_eq]
  rcases all_f prev next head tail (by omega) with ⟨l,hc,hnd,e⟩|⟨hc,e⟩
  ·have ok:Ok prev.length l:=⟨hnd,fun x hx=>by have:=hc.range x hx;omega⟩
   rw [e,ob,bnt rfl,made_f (by omega) ok,ob,same15_f (by omega) (by omega),ob]
   by_cases q:prev=PV prev.length l∧next=NX prev.length l∧head=hd (-1) l∧tail=lst (-1) l
   ·rw [decide_eq_true q,bnt rfl,dg.L2_eq]
    have g:=OGood.of (n:=prev.length) (by omega) (by omega) ok
    rw [←q.1,←q.2.1,←q.2.2.1,←q.2.2.2] at g
    exact .inl ⟨⟨l,g⟩,rfl⟩
   ·rw [decide_eq_false q,bnf rfl]
    refine .inr ⟨fun ⟨l',g⟩=>q ?_,rfl⟩
    obtain rfl:=hc.det g.both.chain
    exact g.made
  ·rw [e,ob,bnf rfl]
   exact .inr ⟨fun ⟨l,g⟩=>hc ⟨l,g.both.chain,g.nodup⟩,rfl⟩
 ·rw [bd_neg hlow,bd_neg hhigh,bne_pos hsame];exact .inr ⟨fun ⟨l,g⟩=>by have:=g.same;omega,rfl⟩
theorem all_good {prev next:List Int} {head tail:Int} {l:List Int} (g:OGood prev next head tail l):cm.F (prev,next,head,tail,())=some (l,true,()):=by
 rcases all_f prev next head tail (by have:=g.high;have:=g.same;omega) with ⟨l',hc,hnd,e⟩|⟨hc,e⟩
 ·rw [e,hc.det g.both.chain]
 ·exact absurd ⟨l,g.both.chain,g.nodup⟩ hc
noncomputable def cn (x:List t3.den) (p:Int):Nat:=x.countP fun c=>c.2.2.1 && decide (c.2.1=p)
noncomputable def keyed (x:List t3.den) (p key:Int):Bool:=x.all fun c=>!(c.2.2.1 && decide (c.2.1=p))||decide (c.1=key)
theorem cells_f {x:List t3.den} (hx:x.length≤1000) (p key:Int):bp.F x p key=some ((cn x p:Int),keyed x p key,()):=by
 have h2:=loop_go (n:=x.length) (L:=fun i=>bp.L1 x p key (((x.take i).countP (fun c=>c.2.2.1 && decide (c.2.1=p)):Nat):Int) ((x.take i).all fun c=>!(c.2.2.1 && decide (c.2.1=p))||decide (c.1=key)) (i:Int)) (fun i hi=>by
  have hle:(x.take i).countP (fun c=>c.2.2.1 && decide (c.2.1=p))≤x.length:=by
   have:=List.countP_le_length (p:=fun c:t3.den=>c.2.2.1 && decide (c.2.1=p)) (l:=x.take i)
   have:=List.length_take_le' i x
   omega
  try dsimp only
  rw [bp.L1_eq,bd_pos (by omega),bp.L2_eq,bd_pos (by omega)]
  have nxt:∀(n:Int) (b:Bool),bp.L3 x p key n b (i:Int)=bp.L1 x p key n b ((i+1:Nat):Int):=fun n b=>by
   rw [bp.L3_eq,W_eq (by omega) (by omega),cast_add1]
  rw [←List.take_append_getElem hi,List.countP_append,List.all_append,←cl_get hi]
  simp only [List.countP_cons,List.countP_nil,List.all_cons,List.all_nil,Bool.and_true,Nat.zero_add]
  by_cases u:(cl x (i:Int)).2.2.1=true
  ·rw [bt u,bd_pos (by omega),u,Bool.true_and]
   by_cases e:(cl x (i:Int)).2.1=p
   ·rw [beq_pos e,decide_eq_true e,if_pos rfl,Bool.not_true,Bool.false_or,W_eq (by omega) (by omega),cast_add1,bd_pos (by omega),nxt,nxt]
    cases (x.take i).all fun c=>!(c.2.2.1 && decide (c.2.1=p))||decide (c.1=key)
    ·rfl
    ·rfl
   ·rw [beq_neg e,decide_eq_false e,if_neg (by decide),Bool.not_false,Bool.true_or,Bool.and_true,nxt];rfl
  ·rw [bf (bool_not u),bool_not u,Bool.false_and,if_neg (by decide),Bool.not_false,Bool.true_or,Bool.and_true,nxt];rfl)
 try dsimp only at h2
 rw [List.take_of_length_le (Nat.le_refl _)] at h2
 have h3:bp.L1 x p key 0 true 0=bp.L1 x p key (cn x p:Int) (keyed x p key) (x.length:Int):=h2
 rw [bp.F_eq,h3,bp.L1_eq,bd_neg (by omega)]
noncomputable def plc (x:List t3.den):List Int:=(x.filter (·.2.2.1)).map fun c=>c.2.1
theorem plc_len (x:List t3.den):(plc x).length=cnt x:=by
 unfold plc cnt
 rw [List.length_map,List.countP_eq_length_filter]
theorem plc_count (x:List t3.den) (p:Int):(plc x).count p=cn x p:=by
 unfold plc cn
 rw [List.count,List.countP_map,List.countP_filter]
 refine List.countP_congr fun c _=>?_
 simp only [Function.comp,Bool.and_eq_true,decide_eq_true_eq,beq_iff_eq]
 exact And.comm
theorem mem_plc {x:List t3.den} (hx:x.length=16) {p:Int}:p∈plc x↔∃j:Int,0≤j∧j<16∧(cl x j).2.2.1=true∧(cl x j).2.1=p:=by
 unfold plc
 rw [List.mem_map]
 constructor
 ·rintro ⟨c,hc,e⟩
  obtain ⟨hc,u⟩:=List.mem_filter.1 hc
  obtain ⟨i,hi,rfl⟩:=List.mem_iff_getElem.1 hc
  exact ⟨(i:Int),by omega,by omega,by rw [cl_get hi];exact u,by rw [cl_get hi];exact e⟩
 ·rintro ⟨j,h0,h1,u,e⟩
  have hj:j.toNat<x.length:=by omega
  have e2:=cl_get hj
  rw [show ((j.toNat:Nat):Int)=j by omega] at e2
  exact ⟨cl x j,List.mem_filter.2 ⟨by rw [e2];exact List.getElem_mem hj,u⟩,e⟩
def RefRow (keys:List Int) (bks:List t1.den) (used:List Bool) (x:List t3.den) (l:List Int) (i:Nat):Prop:=
 (used.getD i false=true↔(i:Int)∈l)∧(used.getD i false=true↔cn x (i:Int)=1)∧keyed x (i:Int) (keys.getD i 0)=true∧
 (used.getD i false=true→BktOk (bks.getD i b0_))∧(used.getD i false=false→keys.getD i 0=0∧bks.getD i b0_=b0_)
theorem rows_iff {keys:List Int} {bks:List t1.den} {used:List Bool} {x:List t3.den} {l:List Int} (hx:POk x) (hn:l.Nodup) (hr:∀y∈l,0≤y∧y<used.length):
  ((∀i:Nat,i<used.length→RowOk keys bks used x l i)∧used.countP id=cnt x)↔(cnt x=l.length∧∀i:Nat,i<used.length→RefRow keys bks used x l i):=by
 constructor
 ·rintro ⟨h,hc⟩
  have hcl:=count_mem hn hr (fun i hi=>(h i hi).1)
  have hS:=count_of_sub (U:=l) (S:=plc x) hn (fun y hy=>by
   have hy2:=hr y hy
   have ey:((y.toNat:Nat):Int)=y:=by omega
   have hro:=h y.toNat (by omega)
   rw [RowOk,ey] at hro
   obtain ⟨⟨j,h0,h1,u,e,f⟩,_⟩:=hro.2.2 (hro.1.2 hy)
   exact (mem_plc hx.len).2 ⟨j,h0,h1,u,f⟩) (by rw [plc_len];omega)
  refine ⟨by omega,fun i hi=>?_⟩
  obtain ⟨a,b,c⟩:=h i hi
  have hcn:cn x (i:Int)=l.count (i:Int):=by rw [←plc_count];exact hS _
  have hle:∀p,l.count p≤1:=List.nodup_iff_count.1 hn
  refine ⟨a,?_,?_,fun u=>(c u).2,b⟩
  ·rw [a,hcn,←List.count_pos_iff]
   have:=hle (i:Int)
   omega
  ·unfold keyed
   rw [List.all_eq_true]
   intro y hy
   by_cases w:y.2.2.1=true∧y.2.1=(i:Int)
   ·have hp:(i:Int)∈plc x:=List.mem_map.2 ⟨y,List.mem_filter.2 ⟨hy,w.1⟩,w.2⟩
    have hil:(i:Int)∈l:=by
     have:=List.count_pos_iff.2 hp
     rw [hS] at this
     exact List.count_pos_iff.1 this
    obtain ⟨⟨j,h0,h1,u,e,f⟩,_⟩:=c (a.2 hil)
    have hj:j.toNat<x.length:=by rw [hx.len];omega
    have e2:=cl_get hj
    rw [show ((j.toNat:Nat):Int)=j by omega] at e2
    have hndp:(plc x).Nodup:=nodup_of_count fun p=>by rw [hS];exact hle p
    have:=inj_of_nodup_map hndp y (List.mem_filter.2 ⟨hy,w.1⟩) (cl x j) (List.mem_filter.2 ⟨by rw [e2];exact List.getElem_mem hj,u⟩) (w.2.trans f.symm)
    rw [this,decide_eq_true e,Bool.or_true]
   ·have:(y.2.2.1 && decide (y.2.1=(i:Int)))=false:=by
     apply bool_not
     rw [Bool.and_eq_true,decide_eq_true_eq]
     exact w
    rw [this];rfl
 ·rintro ⟨hc,h⟩
  refine ⟨fun i hi=>?_,by rw [hc];exact count_mem hn hr fun i hi=>(h i hi).1⟩
  obtain ⟨a,b,c,d,e⟩:=h i hi
  refine ⟨a,e,fun u=>⟨?_,d u⟩⟩
  have h1:=b.1 u
  rw [←plc_count] at h1
  have hp:(i:Int)∈plc x:=List.count_pos_iff.1 (by omega)
  obtain ⟨j,h0,h1,v,f⟩:=(mem_plc hx.len).1 hp
  refine ⟨j,h0,h1,v,?_,f⟩
  unfold keyed at c
  rw [List.all_eq_true] at c
  have hj:j.toNat<x.length:=by rw [hx.len];omega
  have e2:=cl_get hj
  rw [show ((j.toNat:Nat):Int)=j by omega] at e2
  have:=c (cl x j) (by rw [e2];exact List.getElem_mem hj)
  rw [v,decide_eq_true f] at this
  simpa using this
theorem rtable_l4 {cap:Int} {keys:List Int} {bks:List t1.den} {next:List Int} {used:List Bool} {free:Int} {x:List t3.den} {prev nxt:List Int} {head tail:Int} {l:List Int}
  (hcap:cap=(used.length:Int)) (hk:keys.length=used.length) (hb:bks.length=used.length) (hu:used.length≤8) (hx:x.length≤1000) (hl:l.length≤16):
  Says (∀i:Nat,i<used.length→RefRow keys bks used x l i) (ae.L4 0 cap keys bks next used free x prev nxt head tail l):=by
 rcases loop_all (n:=used.length) (L:=fun i=>ae.L4 (i:Int) cap keys bks next used free x prev nxt head tail l) (ok:=RefRow keys bks used x l) (stop:=some (8,())) (fun i hi=>by
  have nxt_:ae.L8 (i:Int) cap keys bks next used free x prev nxt head tail l=ae.L4 ((i+1:Nat):Int) cap keys bks next used free x prev nxt head tail l:=by
   rw [ae.L8_eq,W_eq (by omega) (by omega),cast_add1]
  try dsimp only
  rw [ae.L4_eq,bd_pos (by omega),ae.L5_eq,bd_pos (by omega),cells_f hx,ob,bd_pos (by omega),in_f (by omega),ob]
  simp only [toNat_cast]
  by_cases a:used.getD i false=true↔(i:Int)∈l
  ·have ea:(used.getD i false==decide ((i:Int)∈l))=true:=by
    rw [beq_iff_eq,Bool.eq_iff_iff,decide_eq_true_eq];exact a
   rw [bnt ea,bd_pos (by omega)]
   by_cases b:used.getD i false=true↔cn x (i:Int)=1
   ·have eb:(used.getD i false==(((cn x (i:Int):Nat):Int)==1))=true:=by
     rw [beq_iff_eq,Bool.eq_iff_iff,beq_iff_eq];rw [b];omega
    rw [bnt eb]
    by_cases c:keyed x (i:Int) (keys.getD i 0)=true
    ·rw [bnt c,ae.L6_eq,bd_pos (by omega)]
     simp only [toNat_cast]
     by_cases u:used.getD i false=true
     ·rw [bt u,bd_pos (by omega)]
      rcases rbucket_says (bks.getD i b0_) with ⟨ok,f⟩|⟨ok,f⟩
      ·rw [f,ob,bne_neg rfl,ae.L7_eq,bd_pos (by omega),toNat_cast,bnt u,nxt_]
       exact .inl ⟨⟨a,b,c,fun _=>ok,fun h=>(by rw [u] at h;cases h)⟩,rfl⟩
      ·rw [f,ob,bne_pos (by decide)];exact .inr ⟨fun h=>ok (h.2.2.2.1 u),rfl⟩
     ·have uf:=bool_not u
      rw [bf uf,ae.L7_eq,bd_pos (by omega)]
      simp only [toNat_cast]
      rw [bnf uf,bd_pos (by omega)]
      by_cases k0:keys.getD i 0=0
      ·rw [bne_neg k0,bd_pos (by omega)]
       by_cases z:bks.getD i b0_=b0_
       ·rw [nbeq_neg z,nxt_]
        exact .inl ⟨⟨a,b,c,fun h=>absurd h u,fun _=>⟨k0,z⟩⟩,rfl⟩
       ·rw [nbeq_pos z];exact .inr ⟨fun h=>z (h.2.2.2.2 uf).2,rfl⟩
      ·rw [bne_pos k0];exact .inr ⟨fun h=>k0 (h.2.2.2.2 uf).1,rfl⟩
    ·rw [bnf (bool_not c)];exact .inr ⟨fun h=>c h.2.2.1,rfl⟩
   ·have eb:(used.getD i false==(((cn x (i:Int):Nat):Int)==1))=false:=by
     apply bool_not
     rw [beq_iff_eq,Bool.eq_iff_iff,beq_iff_eq]
     intro h
     exact b (h.trans (by omega))
    rw [bnf eb];exact .inr ⟨fun h=>b h.2.1,rfl⟩
  ·have ea:(used.getD i false==decide ((i:Int)∈l))=false:=by
    apply bool_not
    rw [beq_iff_eq,Bool.eq_iff_iff,decide_eq_true_eq];exact a
   rw [bnf ea];exact .inr ⟨fun h=>a h.1,rfl⟩) with ⟨h,e⟩|⟨h,e⟩
 ·refine .inl ⟨h,Eq.trans e ?_⟩
  try dsimp only
  rw [ae.L4_eq,bd_neg (by omega)]
 ·exact .inr ⟨h,e⟩
theorem rtable_says (t:t5.den) (hk:Keys t.2.2.2.2.1) (hl:t.2.2.2.2.1.length≤1000):Says (TOk t) (ae.F t):=by
 obtain ⟨cap,keys,bks,⟨next,used,free,⟨⟩⟩,x,⟨prev,nxt,head,tail,⟨⟩⟩,⟨⟩⟩:=t
 rw [ae.F_eq]
 dsimp only at hk hl ⊢
 refine Says.congr (P:=¬(Z cap<1)∧¬(Z cap>8)∧((keys.length:Int)=Z cap)∧((bks.length:Int)=Z cap)∧((next.length:Int)=Z cap)∧((prev.length:Int)=Z cap)∧AOk next used free∧POk x∧OOk prev nxt head tail∧∃l,OGood prev nxt head tail l∧cnt x=l.length∧∀i:Nat,i<used.length→RefRow keys bks used x l i) ?_ ?_
 ·refine .guard fun c0=> .guard fun c1=> .neq fun s1=> .neq fun s2=> .neq fun s3=> .neq fun s4=>?_
  have c0:¬Z cap<1:=c0
  have c1:¬Z cap>8:=c1
  have s1:(keys.length:Int)=Z cap:=s1
  have s2:(bks.length:Int)=Z cap:=s2
  have s3:(next.length:Int)=Z cap:=s3
  have s4:(prev.length:Int)=Z cap:=s4
  rw [ae.L1_eq]
  refine (rarena_says next used free).call (fun ha=>?_) rfl
  rw [bne_neg rfl]
  refine (rprobe_says hk hl).call (fun hp=>?_) rfl
  rw [bne_neg rfl]
  refine (rlru_says prev nxt head tail).call (fun ho=>?_) rfl
  rw [bne_neg rfl,ae.L2_eq]
  obtain ⟨l,g⟩:=ho
  have hs:=g.short
  have hlen:used.length=next.length:=by obtain ⟨_,g⟩:=ha;exact g.same
  rw [all_good g,ob,count_f hl,ob]
  by_cases e:cnt x=l.length
  ·rw [bne_neg (by exact congrArg Nat.cast e),ae.L3_eq]
   refine (rtable_l4 (cap:=cap) (next:=next) (free:=free) (prev:=prev) (nxt:=nxt) (head:=head) (tail:=tail) (show Z cap=_ by omega) (by omega) (by omega) (by omega) hl hs).congr ⟨fun h=>⟨l,g,e,h⟩,fun ⟨l',g',_,h⟩=>?_⟩
   obtain rfl:=g.det g'
   exact h
  ·rw [bne_pos (by dsimp only;omega)]
   refine .inr ⟨fun ⟨l',g',h,_⟩=>?_,rfl⟩
   obtain rfl:=g.det g'
   exact e h
 ·have key:∀l,OGood prev nxt head tail l→AOk next used free→POk x→((prev.length:Int)=Z cap)→((next.length:Int)=Z cap)→(((∀i:Nat,i<used.length→RowOk keys bks used x l i)∧used.countP id=cnt x)↔(cnt x=l.length∧∀i:Nat,i<used.length→RefRow keys bks used x l i)):=fun l g ha hp h1 h2=>
   rows_iff hp g.nodup (fun y hy=>by
    have:=g.ok.2 y hy
    obtain ⟨_,ga⟩:=ha
    have:=ga.same
    omega)
  constructor
  ·rintro ⟨c0,c1,s1,s2,s3,s4,ha,hp,_,l,g,h⟩
   have:=(key l g ha hp s4 s3).2 h
   exact ⟨l,Int.not_lt.1 c0,Int.not_lt.1 c1,s1,s2,s3,s4,ha,hp,g,this.1,this.2⟩
  ·rintro ⟨l,g⟩
   exact ⟨Int.not_lt.2 g.low,Int.not_lt.2 g.high,g.nkeys,g.nbks,g.nnext,g.nprev,g.arena,g.index,⟨l,g.order⟩,l,g.order,(key l g.order g.arena g.index g.nprev g.nnext).1 ⟨g.row,g.count⟩⟩
end Go.Proofs.YtkihjakbbcajbaaGreat.TB
namespace Go.Proofs.YtkihjakbbcajbaaGreat.TB
set_option linter.unusedSimpArgs false
set_option linter.unusedVariables false
open Go Go.Proofs Go.Proofs.YtkihjakbbcajbaaGreat.PM Go.Proofs.YtkihjakbbcajbaaGreat.RP
def newN (n:Nat):List Int:=(List.range n).map (fun i:Nat=>if i+1<n then ((i+1:Nat):Int) else -1)
theorem newN_len (n:Nat):(newN n).length=n:=by simp [newN]
theorem newN_at {n i:Nat} (h:i<n):(newN n).getD i 0=if i+1<n then ((i+1:Nat):Int) else -1:=by
 rw [getD_get (by rw [newN_len];exact h)]
 simp [newN]
def seqI:Nat→Nat→List Int
 |_,0=>[]
 |i,k+1=>(i:Int)::seqI (i+1) k
theorem mem_seqI {x:Int}:∀{k i:Nat},x∈seqI i k↔(i:Int)≤x∧x<(i:Int)+k
 |0,i=>⟨fun h=>(by cases h),fun h=>by omega⟩
 |k+1,i=>by
  show x∈(i:Int)::seqI (i+1) k↔_
  rw [List.mem_cons,mem_seqI]
  omega
theorem seqI_nodup:∀k i:Nat,(seqI i k).Nodup
 |0,_=>List.nodup_nil
 |k+1,i=>List.nodup_cons.2 ⟨fun h=>by have:=mem_seqI.1 h;omega,seqI_nodup k (i+1)⟩
theorem seqI_chain {n:Nat}:∀k i:Nat,i+k=n→Chain (newN n) (if k=0 then -1 else (i:Int)) (seqI i k)
 |0,i,_=>by rw [if_pos rfl];exact .nil
 |k+1,i,h=>by
  rw [if_neg (by omega)]
  refine .cons (by omega) (by rw [newN_len];omega) ?_
  rw [toNat_cast,newN_at (i:=i) (by omega)]
  have:=seqI_chain (n:=n) k (i+1) (by omega)
  by_cases e:k=0
  ·subst e
   rw [if_neg (by omega)]
   rw [if_pos rfl] at this
   exact this
  ·rw [if_pos (by omega)]
   rw [if_neg e] at this
   exact this
theorem getD_rep {α:Type} {n i:Nat} {a d:α} (h:i<n):(List.replicate n a).getD i d=a:=by
 rw [getD_get (by rw [List.length_replicate];exact h),List.getElem_replicate]
theorem new_arena {n:Nat} (h1:1≤n) (h2:n≤16):AGood (newN n) (List.replicate n false) 0 (seqI 0 n) where
 low:=by rw [newN_len];exact h1
 high:=by rw [newN_len];exact h2
 same:=by rw [newN_len,List.length_replicate]
 chain:=by
  have:=seqI_chain (n:=n) n 0 (by omega)
  rw [if_neg (by omega)] at this
  exact this
 nodup:=seqI_nodup n 0
 mark j hj:=by
  rw [List.length_replicate] at hj
  rw [getD_rep hj]
  exact ⟨fun h=>(by cases h),fun h=>absurd (mem_seqI.2 (by omega)) h⟩
 end_ j hj h:=by
  rw [List.length_replicate] at hj
  rw [getD_rep hj] at h;cases h
@[reducible] noncomputable def c0_:t3.den:=(0,0,false,())
theorem cl_new (i:Int):cl (List.replicate 16 c0_) i=c0_:=by
 unfold cl
 by_cases h:i.toNat<16
 ·exact getD_rep h
 ·rw [List.getD_eq_getElem?_getD,List.getElem?_eq_none (by rw [List.length_replicate];omega)];rfl
theorem cnt_new:cnt (List.replicate 16 c0_)=0:=by
 unfold cnt
 rw [List.countP_replicate,if_neg (by decide)]
theorem new_index:POk (List.replicate 16 c0_) where
 len:=List.length_replicate
 few:=by rw [cnt_new];decide
 zero i _ _ _:=cl_new i
 place i _ _ h:=by rw [cl_new] at h;cases h
 uniq i j _ _ _ _ h _:=by rw [cl_new] at h;cases h
 path i _ _ h:=by rw [cl_new] at h;cases h
theorem new_order {n:Nat} (h1:1≤n) (h2:n≤16):OGood (PV n []) (NX n []) (-1) (-1) []:=OGood.of h1 h2 (Ok.nil n)
noncomputable def NT (n:Nat):t5.den:=((n:Int),List.replicate n (0:Int),List.replicate n b0_,(newN n,List.replicate n false,0,()),List.replicate 16 c0_,(PV n [],NX n [], -1, -1,()),())
theorem new_table {n:Nat} (h1:1≤n) (h2:n≤8):TGood (n:Int) (List.replicate n 0) (List.replicate n b0_) (newN n) (List.replicate n false) 0 (List.replicate 16 c0_) (PV n []) (NX n []) (-1) (-1) [] where
 low:=by omega
 high:=by omega
 nkeys:=by rw [List.length_replicate]
 nbks:=by rw [List.length_replicate]
 nnext:=by rw [newN_len]
 nprev:=by rw [PV_len]
 arena:=⟨_,new_arena h1 (by omega)⟩
 index:=new_index
 order:=new_order h1 (by omega)
 row i hi:=by
  rw [List.length_replicate] at hi
  refine ⟨?_,fun _=>⟨getD_rep hi,getD_rep hi⟩,fun h=>?_⟩
  ·rw [getD_rep hi];exact ⟨fun h=>(by cases h),fun h=>(by cases h)⟩
  ·rw [getD_rep hi] at h;cases h
 count:=by rw [cnt_new,List.countP_replicate,if_neg (by decide)]
end Go.Proofs.YtkihjakbbcajbaaGreat.TB
namespace Go.Proofs.YtkihjakbbcajbaaGreat.TB
set_option linter.unusedSimpArgs false
set_option linter.unusedVariables false
open Go Go.Proofs Go.Proofs.YtkihjakbbcajbaaGreat.PM Go.Proofs.YtkihjakbbcajbaaGreat.RP
theorem rdc_set {l:List t3.den} {i j:Int} {v:t3.den} (h0:0≤i) (h1:i<l.length) (h2:0≤j):cl (l.set i.toNat v) j=if i=j then v else cl l j:=by
 unfold cl
 simp only [List.getD_eq_getElem?_getD,List.getElem?_set]
 by_cases e:i=j
 ·subst e;rw [if_pos rfl,if_pos rfl,if_pos (by omega)];rfl
 ·rw [if_neg (by omega),if_neg e]
theorem cnt_set {x:List t3.den} {i:Int} {v:t3.den} (h0:0≤i) (h1:i<x.length):cnt (x.set i.toNat v)+(if (cl x i).2.2.1=true then 1 else 0)=cnt x+(if v.2.2.1=true then 1 else 0):=by
 have hi:i.toNat<x.length:=by omega
 have g:cl x i=x[i.toNat]:=by
  have:=cl_get hi
  rwa [Int.toNat_of_nonneg h0] at this
 unfold cnt
 rw [List.countP_set hi,g]
 by_cases u:x[i.toNat].2.2.1=true
 ·have:0<x.countP (·.2.2.1):=List.countP_pos_iff.2 ⟨x[i.toNat],List.getElem_mem _,u⟩
  rw [if_pos u];omega
 ·rw [if_neg u];omega
noncomputable def fill:Nat→Int→List t3.den→Int→List t3.den
 |0,i,p,_=>p.set i.toNat c0_
 |n+1,i,p,j=>if (hm (cl p j).1 - i - 1) % 16≥(j - i) % 16 then fill n j (p.set i.toNat (cl p j)) ((j+1) % 16) else fill n i p ((j+1) % 16)
structure Run (p:List t3.den) (i j:Int) (n:Nat):Prop where
 len:p.length=16
 i0:0≤i
 i1:i<16
 j0:0≤j
 j1:j<16
 ahead:1≤(j - i) % 16
 fits:(j - i) % 16+n<16
 used:∀e:Nat,e<n→(cl p ((j+e) % 16)).2.2.1=true
 last:(cl p ((j+n) % 16)).2.2.1=false
theorem Run.next {p:List t3.den} {i j:Int} {n:Nat} (h:Run p i j (n+1)):Run p i ((j+1) % 16) n:=by
 obtain ⟨a,b,c,d,e,f,g,u,l⟩:=h
 refine ⟨a,b,c,by omega,by omega,by omega,by omega,?_,?_⟩
 ·intro m hm
  have:=u (m+1) (by omega)
  rw [show (((j+1) % 16+(m:Int)) % 16)=(j+((m+1:Nat):Int)) % 16 by omega];exact this
 ·rw [show (((j+1) % 16+(n:Int)) % 16)=(j+((n+1:Nat):Int)) % 16 by omega];exact l
theorem Run.move {p:List t3.den} {i j:Int} {n:Nat} (h:Run p i j (n+1)):Run (p.set i.toNat (cl p j)) j ((j+1) % 16) n:=by
 obtain ⟨a,b,c,d,e,f,g,u,l⟩:=h
 refine ⟨by simpa using a,d,e,by omega,by omega,by omega,by omega,?_,?_⟩
 ·intro m hm
  have:=u (m+1) (by omega)
  rw [show (((j+1) % 16+(m:Int)) % 16)=(j+((m+1:Nat):Int)) % 16 by omega,rdc_set b (by omega) (by omega),if_neg (by omega)];exact this
 ·rw [show (((j+1) % 16+(n:Int)) % 16)=(j+((n+1:Nat):Int)) % 16 by omega,rdc_set b (by omega) (by omega),if_neg (by omega)];exact l
def Has (x:List t3.den) (key place:Int):Prop:=∃m:Int,0≤m∧m<16∧(cl x m).2.2.1=true∧(cl x m).1=key∧(cl x m).2.1=place
theorem has_one {x:List t3.den} (h:POk x) {key p q:Int} (hp:Has x key p) (hq:Has x key q):p=q:=by
 obtain ⟨m,a,b,u,e,f⟩:=hp
 obtain ⟨m',a',b',u',e',f'⟩:=hq
 have:=h.uniq m m' a b a' b' u u' (by rw [e,e'])
 subst this;rw [←f,←f']
structure Inv (p:List t3.den) (i j:Int) (n:Nat):Prop where
 run:Run p i j n
 iu:(cl p i).2.2.1=true
 few:cnt p≤12
 zero:∀m:Int,0≤m→m<16→(cl p m).2.2.1=false→cl p m=(0,0,false,())
 place:∀m:Int,0≤m→m<16→m≠i→(cl p m).2.2.1=true→0≤Z (cl p m).2.1∧Z (cl p m).2.1<16
 uniq:∀m m':Int,0≤m→m<16→m≠i→0≤m'→m'<16→m'≠i→(cl p m).2.2.1=true→(cl p m').2.2.1=true→(cl p m).1=(cl p m').1→m=m'
 path:∀m:Int,0≤m→m<16→m≠i→(cl p m).2.2.1=true→∀e:Nat,(e:Int)<(m - hm (cl p m).1) % 16→(cl p ((hm (cl p m).1+e) % 16)).2.2.1=true
 later:∀m:Int,0≤m→m<16→m≠i→(cl p m).2.2.1=true→(i - hm (cl p m).1) % 16<(m - hm (cl p m).1) % 16→(j - i) % 16≤(m - i) % 16
theorem find_has {x:List t3.den} (h:POk x) {key place:Int} (hh:Has x key place):fb.F x key=some (place,0,()):=by
 rcases probe_Find_ok h key with ⟨i,i0,i1,u,e,f⟩|⟨n,_⟩
 ·rw [f,has_one h (p:=(cl x i).2.1) ⟨i,i0,i1,u,e,rfl⟩ hh]
 ·obtain ⟨m,m0,m1,mu,mk,_⟩:=hh
  exact absurd ⟨mu,mk⟩ (n m m0 m1)
theorem find_none {x:List t3.den} (h:POk x) {key:Int} (hh:∀p,¬Has x key p):fb.F x key=some (0,6,()):=by
 rcases probe_Find_ok h key with ⟨i,i0,i1,u,e,f⟩|⟨n,f⟩
 ·exact absurd ⟨i,i0,i1,u,e,rfl⟩ (hh _)
 ·exact f
theorem put_l4 {x:List t3.den} (hx:x.length=16) {key place pos:Int} (p0:0≤pos) (p1:pos<16) (hc:cnt x<12):cu.L3 x key place pos=some (x.set pos.toNat (key,place,true,()),0,()):=by
 have h2:=loop_go (n:=x.length) (L:=fun i=>cu.L4 x key place pos (((x.take i).countP (·.2.2.1):Nat):Int) (x.length:Int) (i:Int)) (fun i hi=>by
  have hle:=cnt_le x i
  try dsimp only
  rw [cu.L4_eq,bd_pos (by omega),cu.L5_eq,bd_pos (by omega),take_cnt hi]
  by_cases u:(cl x (i:Int)).2.2.1=true
  ·rw [bt u,if_pos u,cu.L7_eq,W_eq (by omega) (by omega),W_eq (by omega) (by omega),cast_add1,cast_add1]
  ·rw [bf (bool_not u),if_neg u,cu.L7_eq,W_eq (x:=(i:Int)+1) (by omega) (by omega),cast_add1];rfl)
 try dsimp only at h2
 rw [List.take_of_length_le (Nat.le_refl _)] at h2
 have h3:cu.L4 x key place pos 0 (x.length:Int) 0=cu.L4 x key place pos (cnt x:Int) (x.length:Int) (x.length:Int):=h2
 rw [cu.L3_eq,h3,cu.L4_eq,bd_neg (by omega),bd_neg (by omega),cu.L6_eq,lim_small (by decide) (by omega),bd_pos (by omega)]
theorem probe_Put_ok {x:List t3.den} (h:POk x) {key place:Int} (hn:∀p,¬Has x key p) (p0:0≤place) (p1:place<16) (hc:cnt x<12):
  ∃y,cu.F x key place=some (y,0,())∧POk y∧(∀k p,Has y k p↔Has x k p∨(k=key∧p=place))∧cnt y=cnt x+1:=by
 have hl:=h.len
 have hr:=hm_range key
 obtain ⟨d,hd,ho,hq,hlk,hw⟩:=found h key
 rcases hw with ⟨u,e⟩|⟨u,hno⟩
 ·exact absurd ⟨(hm key+d) % 16,by omega,by omega,u,e,rfl⟩ (hn (cl x ((hm key+d) % 16)).2.1)
 have ev:cu.F x key place=some (x.set ((hm key+d) % 16).toNat (key,place,true,()),0,()):=by
  rw [cu.F_eq,(probe_says x).yes h,ob,bne_neg rfl,cu.L1_eq,bd_neg (by omega),bd_neg (by omega),cu.L2_eq,hlk,ob,bd_pos (by dsimp only;omega),bf u]
  exact put_l4 hl (by omega) (by omega) hc
 generalize hpos:(hm key+(d:Int)) % 16=pos at ev u
 have q0:0≤pos:=by omega
 have q1:pos<16:=by omega
 have rs:∀m:Int,0≤m→cl (x.set pos.toNat (key,place,true,())) m=if pos=m then (key,place,true,()) else cl x m:=fun m m0=>rdc_set q0 (by omega) m0
 have cs:=cnt_set (x:=x) (v:=(key,place,true,())) q0 (by omega)
 rw [if_neg (by rw [u];simp),if_pos rfl] at cs
 have up:∀m:Int,0≤m→(cl x m).2.2.1=true→(cl (x.set pos.toNat (key,place,true,())) m).2.2.1=true:=by
  intro m m0 hu
  rw [rs m m0]
  by_cases q:pos=m
  ·rw [if_pos q]
  ·rw [if_neg q];exact hu
 refine ⟨_,ev,⟨by simpa using hl,by omega,?_,?_,?_,?_⟩,?_,by omega⟩
 ·intro m m0 m1 hu
  rw [rs m m0] at hu ⊢
  by_cases q:pos=m
  ·rw [if_pos q] at hu;exact absurd hu (by simp)
  ·rw [if_neg q] at hu ⊢;exact h.zero m m0 m1 hu
 ·intro m m0 m1 hu
  rw [rs m m0] at hu ⊢
  by_cases q:pos=m
  ·rw [if_pos q];exact ⟨p0,p1⟩
  ·rw [if_neg q] at hu ⊢;exact h.place m m0 m1 hu
 ·intro m m' m0 m1 m0' m1' hu hu' hk
  rw [rs m m0] at hu hk
  rw [rs m' m0'] at hu' hk
  by_cases q:pos=m
  ·by_cases q':pos=m'
   ·omega
   ·rw [if_pos q,if_neg q'] at hk
    rw [if_neg q'] at hu'
    exact absurd ⟨hu',hk.symm⟩ (hno m' m0' m1')
  ·by_cases q':pos=m'
   ·rw [if_neg q,if_pos q'] at hk
    rw [if_neg q] at hu
    exact absurd ⟨hu,hk⟩ (hno m m0 m1)
   ·rw [if_neg q] at hu hk;rw [if_neg q'] at hu' hk
    exact h.uniq m m' m0 m1 m0' m1' hu hu' hk
 ·intro m m0 m1 hu s hs
  rw [rs m m0] at hu hs ⊢
  by_cases q:pos=m
  ·rw [if_pos q] at hs ⊢
   refine up _ (by omega) (ho s ?_).1
   have:(s:Int)<(m - hm key) % 16:=hs
   omega
  ·rw [if_neg q] at hu hs ⊢
   have hr2:=hm_range (cl x m).1
   exact up _ (by omega) (h.path m m0 m1 hu s hs)
 ·intro k p
  constructor
  ·rintro ⟨m,m0,m1,hu,hk,hp⟩
   rw [rs m m0] at hu hk hp
   by_cases q:pos=m
   ·rw [if_pos q] at hk hp;exact Or.inr ⟨hk.symm,hp.symm⟩
   ·rw [if_neg q] at hu hk hp;exact Or.inl ⟨m,m0,m1,hu,hk,hp⟩
  ·rintro (⟨m,m0,m1,hu,hk,hp⟩|⟨hk,hp⟩)
   ·refine ⟨m,m0,m1,?_⟩
    rw [rs m m0,if_neg (fun z=>by rw [←z,u] at hu;exact absurd hu (by simp))]
    exact ⟨hu,hk,hp⟩
   ·refine ⟨pos,q0,q1,?_⟩
    rw [rs pos q0,if_pos rfl]
    exact ⟨rfl,hk.symm,hp.symm⟩
theorem keys_of {x:List t3.den} (h:POk x) (hk:∀k p,Has x k p→0≤k∧k<4294967296):∀i:Int,0≤i→i<x.length→0≤Z (cl x i).1∧Z (cl x i).1<4294967296:=by
 intro i i0 i1
 have hl:=h.len
 by_cases u:(cl x i).2.2.1=true
 ·exact hk _ _ ⟨i,i0,by omega,u,rfl,rfl⟩
 ·rw [h.zero i i0 (by omega) (bool_not u)];decide
end Go.Proofs.YtkihjakbbcajbaaGreat.TB
namespace Go.Proofs.YtkihjakbbcajbaaGreat.TB
set_option linter.unusedSimpArgs false
set_option linter.unusedVariables false
open Go Go.Proofs Go.Proofs.YtkihjakbbcajbaaGreat.PM Go.Proofs.YtkihjakbbcajbaaGreat.RP
theorem set_nat {α:Type} {l:List α} {i:Int} {j:Nat} {v d:α} (h0:0≤i) (h1:i<l.length):(l.set i.toNat v).getD j d=if i=(j:Int) then v else l.getD j d:=by
 have:=set_at (l:=l) (v:=v) (d:=d) h0 h1 (j:=(j:Int)) (by omega)
 rw [toNat_cast] at this
 exact this
theorem chain_set {next:List Int} {k i v:Int} {l:List Int} (h:Chain next k l) (h0:0≤i) (h1:i<next.length) (n:¬i∈l):Chain (next.set i.toNat v) k l:=by
 induction h with
 |nil=>exact .nil
 |@cons k l a b c ih=>
  have hne:i≠k:=fun e=>n (by rw [e];exact List.mem_cons_self)
  refine .cons a (by rw [List.length_set];exact b) ?_
  rw [set_at h0 h1 a,if_neg hne]
  exact ih fun m=>n (List.mem_cons_of_mem _ m)
theorem arena_twin_f {next:List Int} {used:List Bool} {free:Int} (h1:next.length≤1000) (h2:used.length≤1000):ib.F (next,used,free,())=some ((next,used,free,()),()):=by
 rw [ib.F_eq]
 dsimp only
 rw [lim_small (by decide) (by omega),lim_small (by decide) (by omega)]
theorem arena_Take_ok {next:List Int} {used:List Bool} {free i:Int} {l:List Int} (g:AGood next used free (i::l)):
  ew.F (next,used,free,())=some ((next.set i.toNat (-1),used.set i.toNat true,next.getD i.toNat 0,()),i,0,())∧AGood (next.set i.toNat (-1)) (used.set i.toNat true) (next.getD i.toNat 0) l∧0≤i∧i<used.length∧used.getD i.toNat false=false:=by
 obtain rfl:free=i:=by cases g.chain with
  |cons _ _ _=>rfl
 have h1:=g.low
 have h2:=g.high
 have h3:=g.same
 have hn:=List.nodup_cons.1 g.nodup
 have hc:=g.chain
 have hm:=g.mark
 have he:=g.end_
 cases hc with
 |cons a b c=>
  have hu:used.getD free.toNat false=false:=by
   apply bool_not
   intro h
   have:=(hm free.toNat (by omega)).1 h
   rw [show ((free.toNat:Nat):Int)=free by omega] at this
   exact this List.mem_cons_self
  refine ⟨?_,⟨by rw [List.length_set];exact h1,by rw [List.length_set];exact h2,by rw [List.length_set,List.length_set];exact h3,chain_set c a b hn.1,hn.2,?_,?_⟩,a,by omega,hu⟩
  ·rw [ew.F_eq,(arena_says next used free).yes ⟨_,g⟩,ob,bne_neg rfl,ew.L1_eq]
   dsimp only
   rw [beq_neg (by omega),ew.L2_eq,arena_twin_f (by omega) (by omega),ob,bd_pos (by omega),bd_pos (by dsimp only;omega),bd_pos (by dsimp only;omega)]
  ·intro j hj
   rw [List.length_set] at hj
   rw [set_nat a (by omega)]
   by_cases e:free=(j:Int)
   ·rw [if_pos e,←e];exact ⟨fun _=>hn.1,fun _=>rfl⟩
   ·rw [if_neg e,hm j hj,List.mem_cons]
    exact ⟨fun h h2=>h (.inr h2),fun h h2=>h2.elim (fun q=>e q.symm) h⟩
  ·intro j hj h
   rw [List.length_set] at hj
   rw [set_nat a b]
   by_cases e:free=(j:Int)
   ·rw [if_pos e]
   ·rw [if_neg e]
    rw [set_nat a (by omega),if_neg e] at h
    exact he j hj h
theorem lru_check_f {prev next:List Int} {head tail p:Int} {l:List Int} (g:OGood prev next head tail l) (h0:0≤p) (h1:p<prev.length):fo.F (prev,next,head,tail,()) p=some (0,()):=by
 rw [fo.F_eq,(lru_says prev next head tail).yes ⟨l,g⟩,ob,bne_neg rfl,fo.L1_eq,bd_neg (by omega),bd_neg (by dsimp only;omega),fo.L2_eq]
theorem lru_twin_f {prev next:List Int} {head tail:Int} (h1:prev.length≤1000) (h2:next.length≤1000):il.F (prev,next,head,tail,())=some ((prev,next,head,tail,()),()):=by
 rw [il.F_eq]
 dsimp only
 rw [lim_small (by decide) (by omega),lim_small (by decide) (by omega)]
theorem rd_PV2 {n:Nat} {L:List Int} {i:Int} (h0:0≤i) (h1:i<n):(PV n L).getD i.toNat 0=pv (-1) L i:=rd_PV h0 h1
theorem rd_NX2 {n:Nat} {L:List Int} {i:Int} (h0:0≤i) (h1:i<n):(NX n L).getD i.toNat 0=nx (-1) L i:=rd_NX h0 h1
theorem lru_in_f {n:Nat} {l:List Int} (h:Ok n l) {p:Int} (h0:0≤p) (h1:p<n):iq.F (PV n l,NX n l,hd (-1) l,lst (-1) l,()) p=some (decide (p∈l),()):=by
 rw [iq.F_eq]
 dsimp only
 by_cases e:hd (-1) l=p
 ·have m:p∈l:=by
   rw [←e]
   refine hd_mem (fun hl=>?_) _
   rw [hl] at e
   have:(-1:Int)=p:=e
   omega
  rw [beq_pos e,decide_eq_true m]
 ·rw [beq_neg e,PV_len,bd_pos (by omega),rd_PV2 h0 h1]
  by_cases m:p∈l
  ·obtain ⟨A,B,rfl⟩:=List.append_of_mem m
   obtain ⟨hA,hB,hx⟩:=h.app
   have hpA:p∉A:=fun q=>hx p q List.mem_cons_self
   have hne:A≠[]:=by
    rintro rfl
    exact e rfl
   have hl:=hA.2 _ (lst_mem hne (-1))
   have q:(lst (-1) A !=(-1:Int))=true:=bne_iff_ne.2 (by omega)
   rw [pv_app,if_neg hpA,pv,if_pos rfl,decide_eq_true m,q]
  ·rw [pv_out m,decide_eq_false m];rfl
theorem hd_del {A B:List Int} {p:Int} (h:A≠[]):hd (-1) (A++p::B)=hd (-1) (A++B):=by
 cases A with
 |nil=>exact absurd rfl h
 |cons a A=>rfl
theorem lst_del {A B:List Int} {p:Int} (h:B≠[]):lst (-1) (A++p::B)=lst (-1) (A++B):=by
 rw [lst_app,lst_app]
 cases B with
 |nil=>exact absurd rfl h
 |cons b B=>rfl
theorem lru_out_f {n:Nat} {A B:List Int} {p:Int} (h:Ok n (A++p::B)):ge.F (PV n (A++p::B),NX n (A++p::B),hd (-1) (A++p::B),lst (-1) (A++p::B),()) p=some ((PV n (A++B),NX n (A++B),hd (-1) (A++B),lst (-1) (A++B),()),()):=by
 obtain ⟨hA,hpB,hx⟩:=h.app
 have hp:=hpB.2 p List.mem_cons_self
 have hB:Ok n B:=⟨(List.nodup_cons.1 hpB.1).2,fun x hx=>hpB.2 x (List.mem_cons_of_mem _ hx)⟩
 have hpA:p∉A:=fun q=>hx p q List.mem_cons_self
 have e1:pv (-1) (A++p::B) p=lst (-1) A:=by rw [pv_app,if_neg hpA,pv,if_pos rfl]
 have e2:nx (-1) (A++p::B) p=hd (-1) B:=by rw [nx_app,if_neg hpA,nx,if_pos rfl]
 have po:=PV_out h
 have no:=NX_out h
 unfold putIf at po no
 rw [ge.F_eq]
 dsimp only
 rw [PV_len,NX_len,bd_pos (by omega),bd_pos (by omega),rd_PV2 hp.1 hp.2,rd_NX2 hp.1 hp.2,e1,e2]
 have fin:∀(hh tt:Int) (P N:List Int),P.length=n→N.length=n→ge.L2 p hh tt P N=some ((P.set p.toNat (-1),N.set p.toNat (-1),hh,tt,()),()):=fun hh tt P N hP hN=>by
  rw [ge.L2_eq,bd_pos (by omega),bd_pos (by omega)]
 by_cases a:lst (-1) A= -1
 ·have eA:A=[]:=(hA.lst_ne).1 a
  rw [if_pos a] at no
  rw [beq_pos a,ge.L1_eq]
  by_cases b:hd (-1) B= -1
  ·have eB:B=[]:=(hB.hd_ne).1 b
   rw [if_pos b] at po
   rw [beq_pos b,fin _ _ _ _ (PV_len _ _) (NX_len _ _),po,no,a,b,eA,eB]
   rfl
  ·have hne:B≠[]:=fun q=>b ((hB.hd_ne).2 q)
   have hh:=hB.2 _ (hd_mem hne (-1))
   rw [if_neg b] at po
   rw [beq_neg b,PV_len,bd_pos (by omega),fin _ _ _ _ (by rw [List.length_set,PV_len]) (NX_len _ _),po,no,lst_del hne,eA]
   rfl
 ·have hne:A≠[]:=fun q=>a ((hA.lst_ne).2 q)
  have hl:=hA.2 _ (lst_mem hne (-1))
  rw [if_neg a] at no
  rw [beq_neg a,bd_pos (by omega),ge.L1_eq]
  by_cases b:hd (-1) B= -1
  ·have eB:B=[]:=(hB.hd_ne).1 b
   rw [if_pos b] at po
   rw [beq_pos b,fin _ _ _ _ (PV_len _ _) (by rw [List.length_set,NX_len]),po,no,hd_del hne,eB,List.append_nil]
  ·have hneB:B≠[]:=fun q=>b ((hB.hd_ne).2 q)
   have hh:=hB.2 _ (hd_mem hneB (-1))
   rw [if_neg b] at po
   rw [beq_neg b,PV_len,bd_pos (by omega),fin _ _ _ _ (by rw [List.length_set,PV_len]) (by rw [List.length_set,NX_len]),po,no,hd_del hne,lst_del hneB]
theorem erase_mid {A B:List Int} {p:Int} (h:p∉A):(A++p::B).erase p=A++B:=by
 rw [List.erase_append_right _ h,List.erase_cons_head]
theorem lru_Touch_ok {prev next:List Int} {head tail p:Int} {l:List Int} (g:OGood prev next head tail l) (h0:0≤p) (hp1:p<prev.length):
  ∃prev' next':List Int,∃head' tail':Int,du.F (prev,next,head,tail,()) p=some ((prev',next',head',tail',()),0,())∧OGood prev' next' head' tail' (p::l.erase p)∧prev'.length=prev.length:=by
 have ok:=g.ok
 have h1:=g.low
 have h2:=g.high
 have ck:=lru_check_f g h0 hp1
 obtain ⟨m1,m2,m3,m4⟩:=g.made
 generalize hn:prev.length=n at ok h1 h2 hp1 m1 m2
 rw [m1,m2,m3,m4] at ck ⊢
 have okL:Ok n (l.erase p):=⟨ok.1.erase p,fun x hx=>ok.2 x (List.mem_of_mem_erase hx)⟩
 have np:p∉l.erase p:=fun q=>((ok.1.mem_erase_iff).1 q).1 rfl
 have okp:Ok n (p::l.erase p):=⟨List.nodup_cons.2 ⟨np,okL.1⟩,fun x hx=>by
  rcases List.mem_cons.1 hx with rfl|q
  ·exact ⟨h0,hp1⟩
  ·exact okL.2 x q⟩
 refine ⟨_,_,_,_,?_,OGood.of h1 h2 okp,PV_len _ _⟩
 have l2:du.L2 p (hd (-1) (l.erase p)) (lst (-1) (l.erase p)) [] (PV n (l.erase p)) (NX n (l.erase p))=some ((PV n (p::l.erase p),NX n (p::l.erase p),hd (-1) (p::l.erase p),lst (-1) (p::l.erase p),()),0,()):=by
  generalize l.erase p=L at okL okp np
  rw [du.L2_eq,NX_len,bd_pos (by omega),PV_cons okp,NX_cons okp]
  unfold putIf
  by_cases e:hd (-1) L= -1
  ·have eL:L=[]:=(okL.hd_ne).1 e
   rw [beq_pos e,du.L3_eq,if_pos e,eL]
   rfl
  ·have hne:L≠[]:=fun q=>e ((okL.hd_ne).2 q)
   have hh:=okL.2 _ (hd_mem hne (-1))
   rw [beq_neg e,PV_len,bd_pos (by omega),du.L3_eq,if_neg e]
   show some ((_,_,p,lst (-1) L,()),0,())=some ((_,_,p,lst p L,()),0,())
   rw [lst_any hne (-1) p]
 rw [du.F_eq,ck,ob,bne_neg rfl,du.L1_eq]
 dsimp only
 rw [lru_twin_f (by rw [PV_len];omega) (by rw [NX_len];omega),ob,lru_in_f ok h0 hp1,ob]
 by_cases m:p∈l
 ·rw [decide_eq_true m,bt rfl]
  obtain ⟨A,B,rfl⟩:=List.append_of_mem m
  have hpA:p∉A:=fun q=>(ok.app).2.2 p q List.mem_cons_self
  rw [erase_mid hpA] at l2 ⊢
  rw [lru_out_f ok,ob,l2]
 ·rw [decide_eq_false m,bf rfl]
  rw [List.erase_of_not_mem m] at l2 ⊢
  exact l2
end Go.Proofs.YtkihjakbbcajbaaGreat.TB
namespace Go.Proofs.YtkihjakbbcajbaaGreat.TB
set_option linter.unusedSimpArgs false
set_option linter.unusedVariables false
open Go Go.Proofs Go.Proofs.YtkihjakbbcajbaaGreat.PM Go.Proofs.YtkihjakbbcajbaaGreat.RP
section
variable {cap:Int} {keys:List Int} {bks:List t1.den} {next:List Int} {used:List Bool} {free:Int} {x:List t3.den} {prev nxt:List Int} {head tail:Int} {l:List Int}
theorem TGood.lens (g:TGood cap keys bks next used free x prev nxt head tail l):keys.length=used.length∧bks.length=used.length∧next.length=used.length∧prev.length=used.length∧cap=(used.length:Int)∧used.length≤8∧1≤used.length:=by
 have a1:=g.nkeys
 have a2:=g.nbks
 have a3:=g.nnext
 have a4:=g.nprev
 have a5:=g.low
 have a6:=g.high
 obtain ⟨_,ga⟩:=g.arena
 have a7:=ga.same
 refine ⟨by omega,by omega,by omega,by omega,by omega,by omega,by omega⟩
theorem TGood.mem_range (g:TGood cap keys bks next used free x prev nxt head tail l) {p:Int} (m:p∈l):0≤p∧p<used.length:=by
 have h:=g.order.ok.2 p m
 have:=g.lens
 omega
theorem TGood.mem_used (g:TGood cap keys bks next used free x prev nxt head tail l) {p:Int} (h0:0≤p) (h1:p<used.length):used.getD p.toNat false=true↔p∈l:=by
 have:=(g.row p.toNat (by omega)).1
 rw [show ((p.toNat:Nat):Int)=p by omega] at this
 exact this
theorem TGood.has_of (g:TGood cap keys bks next used free x prev nxt head tail l) {p:Int} (m:p∈l):Has x (keys.getD p.toNat 0) p:=by
 have hr:=g.mem_range m
 have u:=(g.mem_used hr.1 hr.2).2 m
 have:=((g.row p.toNat (by omega)).2.2 u).1
 rw [show ((p.toNat:Nat):Int)=p by omega] at this
 exact this
theorem TGood.plc (g:TGood cap keys bks next used free x prev nxt head tail l):∀p,(plc x).count p=l.count p:=by
 have hcl:=count_mem g.order.nodup (fun y hy=>g.mem_range hy) (fun i hi=>(g.row i hi).1)
 have hc:=g.count
 exact count_of_sub g.order.nodup (fun y hy=>(mem_plc g.index.len).2 (by
  obtain ⟨j,a,b,c,_,e⟩:=g.has_of hy
  exact ⟨j,a,b,c,e⟩)) (by rw [plc_len];omega)
theorem TGood.len (g:TGood cap keys bks next used free x prev nxt head tail l):cnt x=l.length:=by
 have hcl:=count_mem g.order.nodup (fun y hy=>g.mem_range hy) (fun i hi=>(g.row i hi).1)
 have hc:=g.count
 omega
theorem TGood.has_mem (g:TGood cap keys bks next used free x prev nxt head tail l) {k p:Int} (h:Has x k p):p∈l:=by
 obtain ⟨j,a,b,c,_,e⟩:=h
 have h1:p∈TB.plc x:=(mem_plc g.index.len).2 ⟨j,a,b,c,e⟩
 have:=List.count_pos_iff.2 h1
 rw [g.plc] at this
 exact List.count_pos_iff.1 this
theorem TGood.has_inj (g:TGood cap keys bks next used free x prev nxt head tail l) {k k' p:Int} (h:Has x k p) (h':Has x k' p):k=k':=by
 have hnd:(TB.plc x).Nodup:=nodup_of_count fun q=>by rw [g.plc];exact List.nodup_iff_count.1 g.order.nodup q
 have hx:=g.index.len
 have cell:∀j:Int,0≤j→j<16→cl x j∈x:=fun j h0 h1=>by
  have hj:j.toNat<x.length:=by omega
  have e2:=cl_get hj
  rw [show ((j.toNat:Nat):Int)=j by omega] at e2
  rw [e2];exact List.getElem_mem hj
 obtain ⟨j,a,b,c,d,e⟩:=h
 obtain ⟨j',a',b',c',d',e'⟩:=h'
 have:=inj_of_nodup_map hnd (cl x j) (List.mem_filter.2 ⟨cell j a b,c⟩) (cl x j') (List.mem_filter.2 ⟨cell j' a' b',c'⟩) (e.trans e'.symm)
 rw [←d,←d',this]
theorem TGood.has_key (g:TGood cap keys bks next used free x prev nxt head tail l) {k p:Int} (h:Has x k p):keys.getD p.toNat 0=k:=g.has_inj (g.has_of (g.has_mem h)) h
theorem TGood.or_none (g:TGood cap keys bks next used free x prev nxt head tail l) (k:Int):(∃p,Has x k p)∨∀p,¬Has x k p:=by
 by_cases h:∃p,Has x k p
 ·exact .inl h
 ·exact .inr fun p hp=>h ⟨p,hp⟩
theorem place_has (g:TGood cap keys bks next used free x prev nxt head tail l) {k p:Int} (h:Has x k p):fa.F (cap,keys,bks,(next,used,free,()),x,(prev,nxt,head,tail,()),()) k=some (p,()):=by
 rw [fa.F_eq]
 dsimp only
 rw [find_has g.index h,ob,bne_neg rfl,fa.L1_eq]
theorem place_none (g:TGood cap keys bks next used free x prev nxt head tail l) {k:Int} (h:∀p,¬Has x k p):fa.F (cap,keys,bks,(next,used,free,()),x,(prev,nxt,head,tail,()),()) k=some (-1,()):=by
 rw [fa.F_eq]
 dsimp only
 rw [find_none g.index h,ob,bne_pos (by decide)]
theorem countP_set {u:List Bool} {i:Int} {b:Bool} (h0:0≤i) (h1:i<u.length):(u.set i.toNat b).countP id+(if u.getD i.toNat false=true then 1 else 0)=u.countP id+(if b=true then 1 else 0):=by
 have hi:i.toNat<u.length:=by omega
 rw [List.countP_set hi,getD_get hi]
 simp only [id]
 by_cases h:u[i.toNat]=true
 ·have:0<u.countP id:=List.countP_pos_iff.2 ⟨u[i.toNat],List.getElem_mem _,h⟩
  rw [if_pos h]
  have e:u.countP (fun a=>a)=u.countP id:=rfl
  omega
 ·rw [if_neg h]
  have e:u.countP (fun a=>a)=u.countP id:=rfl
  omega
theorem touch_good (g:TGood cap keys bks next used free x prev nxt head tail l) {p:Int} (m:p∈l):
  ∃(prev' nxt':List Int) (head' tail':Int),du.F (prev,nxt,head,tail,()) p=some ((prev',nxt',head',tail',()),0,())∧TGood cap keys bks next used free x prev' nxt' head' tail' (p::l.erase p):=by
 have hr:=g.mem_range m
 obtain ⟨l1,l2,l3,l4,l5,l6,l7⟩:=g.lens
 obtain ⟨prev',nxt',head',tail',e2,go,hpl⟩:=lru_Touch_ok g.order hr.1 (by omega)
 refine ⟨prev',nxt',head',tail',e2,⟨g.low,g.high,g.nkeys,g.nbks,g.nnext,by rw [hpl];exact g.nprev,g.arena,g.index,go,fun i hi=>?_,g.count⟩⟩
 obtain ⟨r1,r2,r3⟩:=g.row i hi
 refine ⟨r1.trans ?_,r2,r3⟩
 rw [List.mem_cons,g.order.nodup.mem_erase_iff]
 constructor
 ·intro h
  by_cases e:(i:Int)=p
  ·exact .inl e
  ·exact .inr ⟨e,h⟩
 ·rintro (h|h)
  ·rw [h];exact m
  ·exact h.2
theorem insert_good (g:TGood cap keys bks next used free x prev nxt head tail l) {key:Int} {b:t1.den} (hb:BktOk b) (n:∀p,¬Has x key p) {i:Int} {fl:List Int} (ga:AGood next used free (i::fl)):
  ∃(next':List Int) (used':List Bool) (free':Int) (x':List t3.den) (prev' nxt':List Int) (head' tail':Int),
   ew.F (next,used,free,())=some ((next',used',free',()),i,0,())∧cu.F x key i=some (x',0,())∧du.F (prev,nxt,head,tail,()) i=some ((prev',nxt',head',tail',()),0,())∧
   TGood cap (keys.set i.toNat key) (bks.set i.toNat b) next' used' free' x' prev' nxt' head' tail' (i::l)∧(∀k q,Has x' k q↔Has x k q∨(k=key∧q=i))∧0≤i∧i<used.length:=by
 obtain ⟨l1,l2,l3,l4,l5,l6,l7⟩:=g.lens
 obtain ⟨e1,ga2,i0,i1,hu⟩:=arena_Take_ok ga
 have nm:i∉l:=fun m=>by
  have:=(g.mem_used i0 i1).2 m
  rw [hu] at this;cases this
 have hlen:=g.len
 have hll:=g.order.ok.len
 obtain ⟨x',e3,px,hx,hc⟩:=probe_Put_ok g.index (key:=key) (place:=i) n i0 (by omega) (by omega)
 obtain ⟨prev',nxt',head',tail',e2,go,hpl⟩:=lru_Touch_ok g.order i0 (by omega)
 rw [List.erase_of_not_mem nm] at go
 refine ⟨_,_,_,x',prev',nxt',head',tail',e1,e3,e2,⟨g.low,g.high,by rw [List.length_set];exact g.nkeys,by rw [List.length_set];exact g.nbks,by rw [List.length_set];exact g.nnext,by rw [hpl];exact g.nprev,⟨_,ga2⟩,px,go,?_,?_⟩,hx,i0,i1⟩
 ·intro j hj
  rw [List.length_set] at hj
  obtain ⟨r1,r2,r3⟩:=g.row j hj
  unfold RowOk
  rw [set_nat i0 (by omega),set_nat i0 (by omega),set_nat i0 (by omega),List.mem_cons]
  by_cases e:i=(j:Int)
  ·rw [if_pos e,if_pos e,if_pos e]
   exact ⟨⟨fun _=> .inl e.symm,fun _=>rfl⟩,fun h=>(by cases h),fun _=>⟨(hx _ _).2 (.inr ⟨rfl,e.symm⟩),hb⟩⟩
  ·rw [if_neg e,if_neg e,if_neg e]
   refine ⟨⟨fun h=> .inr (r1.1 h),fun h=>r1.2 (h.resolve_left fun q=>e q.symm)⟩,r2,fun h=>?_⟩
   obtain ⟨hcell,hb⟩:=r3 h
   exact ⟨(hx _ _).2 (.inl hcell),hb⟩
 ·have h1:=countP_set (b:=true) i0 i1
  rw [if_neg (by rw [hu];decide),if_pos rfl] at h1
  have h2:=g.count
  omega
theorem ttwin_f (g:TGood cap keys bks next used free x prev nxt head tail l):i8.F (cap,keys,bks,(next,used,free,()),x,(prev,nxt,head,tail,()),())=some ((cap,keys,bks,(next,used,free,()),x,(prev,nxt,head,tail,()),()),()):=by
 obtain ⟨l1,l2,l3,l4,l5,l6,l7⟩:=g.lens
 have h1:=g.index.len
 have h2:=g.order.same
 rw [i8.F_eq]
 dsimp only
 rw [lim_small (by decide) (by omega),lim_small (by decide) (by omega),lim_small (by decide) (by omega),lim_small (by decide) (by omega),lim_small (by decide) (by omega),lim_small (by decide) (by omega),lim_small (by decide) (by omega)]
end
end Go.Proofs.YtkihjakbbcajbaaGreat.TB
namespace Go.Proofs.YtkihjakbbcajbaaGreat.TB
set_option linter.unusedSimpArgs false
set_option linter.unusedVariables false
open Go Go.Proofs Go.Proofs.YtkihjakbbcajbaaGreat.PM Go.Proofs.YtkihjakbbcajbaaGreat.RP
@[reducible] noncomputable def fullB (lm:t0.den) (tick:Int):t1.den:=((lm.1,lm.2.1,lm.2.2.1,()),lm.1,0,tick,())
theorem full_f {lm:t0.den} (h:LimOk lm) (tick:Int):fq.F lm tick=some (fullB lm tick,0,()):=by
 rw [fq.F_eq,(limit_says lm).yes h,ob,bne_neg rfl,fq.L1_eq]
theorem full_ok {lm:t0.den} (h:LimOk lm) (tick:Int):BktOk (fullB lm tick):=by
 obtain ⟨h1,h2,h3,h4,h5,h6,_⟩:=h
 refine ⟨⟨h1,h2,h3,h4,h5,h6,trivial⟩,?_,?_,?_,?_,?_⟩
 ·show ¬Z lm.1<0
  omega
 ·show ¬Z lm.1 - Z lm.1<0
  omega
 ·show ¬Z 0<0
  decide
 ·show ¬(0:Int)≥Z lm.2.2.1
  omega
 ·intro _
  show ¬Z 0>0
  decide
theorem full_lev {lm:t0.den} (h:LimOk lm) (tick:Int):Z (fullB lm tick).2.1≤9223372036854775807:=by
 obtain ⟨h1,h2,_⟩:=h
 show Z lm.1≤9223372036854775807
 omega
section
variable {cap:Int} {keys:List Int} {bks:List t1.den} {next:List Int} {used:List Bool} {free:Int} {x:List t3.den} {prev nxt:List Int} {head tail:Int} {l:List Int}
theorem tcheck_f (g:TGood cap keys bks next used free x prev nxt head tail l) (hw:∀c∈bks,Z c.2.1≤9223372036854775807):af.F (cap,keys,bks,(next,used,free,()),x,(prev,nxt,head,tail,()),())=some (0,()):=(table_says _ hw).yes ⟨l,g⟩
theorem use_has (g:TGood cap keys bks next used free x prev nxt head tail l) (hw:∀c∈bks,Z c.2.1≤9223372036854775807) {lm:t0.den} (hl:LimOk lm) (tick:Int) {key p:Int} (h:Has x key p) {prev' nxt':List Int} {head' tail':Int}
  (e:du.F (prev,nxt,head,tail,()) p=some ((prev',nxt',head',tail',()),0,())):
  cz.F (cap,keys,bks,(next,used,free,()),x,(prev,nxt,head,tail,()),()) key lm tick=some ((cap,keys,bks,(next,used,free,()),x,(prev',nxt',head',tail',()),()),0,false,0,()):=by
 have hr:=g.mem_range (g.has_mem h)
 rw [cz.F_eq,tcheck_f g hw,ob,bne_neg rfl,cz.L1_eq]
 rw [show fq.F _ tick=_ from full_f hl tick,ob,bne_neg rfl,cz.L2_eq,ttwin_f g,ob,place_has g h,ob,bd_neg (by dsimp only;omega),cz.L4_eq,e,ob]
theorem use_new (g:TGood cap keys bks next used free x prev nxt head tail l) (hw:∀c∈bks,Z c.2.1≤9223372036854775807) {lm:t0.den} (hl:LimOk lm) (tick:Int) {key:Int} (n:∀p,¬Has x key p) {next':List Int} {used':List Bool} {free' i:Int} {x':List t3.den} {prev' nxt':List Int} {head' tail':Int}
  (e1:ew.F (next,used,free,())=some ((next',used',free',()),i,0,())) (e2:cu.F x key i=some (x',0,())) (e3:du.F (prev,nxt,head,tail,()) i=some ((prev',nxt',head',tail',()),0,())) (i0:0≤i) (i1:i<used.length):
  cz.F (cap,keys,bks,(next,used,free,()),x,(prev,nxt,head,tail,()),()) key lm tick=some ((cap,keys.set i.toNat key,bks.set i.toNat (fullB lm tick),(next',used',free',()),x',(prev',nxt',head',tail',()),()),0,false,0,()):=by
 obtain ⟨l1,l2,l3,l4,l5,l6,l7⟩:=g.lens
 rw [cz.F_eq,tcheck_f g hw,ob,bne_neg rfl,cz.L1_eq]
 rw [show fq.F _ tick=_ from full_f hl tick,ob,bne_neg rfl,cz.L2_eq,ttwin_f g,ob,place_none g n,ob,bd_pos (by decide),show ew.F _=_ from e1,ob,bne_neg rfl,cz.L3_eq,show ew.F _=_ from e1,ob,e2,ob,bd_pos (by dsimp only;omega),bd_pos (by dsimp only;omega),cz.L4_eq,e3,ob]
theorem keys_f (g:TGood cap keys bks next used free x prev nxt head tail l) (hw:∀c∈bks,Z c.2.1≤9223372036854775807):ee.F (cap,keys,bks,(next,used,free,()),x,(prev,nxt,head,tail,()),())=some (l.map (fun p=>keys.getD p.toNat 0),0,()):=by
 obtain ⟨l1,l2,l3,l4,l5,l6,l7⟩:=g.lens
 have hs:=g.order.short
 rw [ee.F_eq,tcheck_f g hw,ob,bne_neg rfl,ee.L1_eq,lru_List_ok g.order,ob]
 have h2:=loop_go (n:=l.length) (L:=fun i=>ee.L2 (l.length:Int) (i:Int) cap keys bks next used free x prev nxt head tail ((l.take i).map (fun p=>keys.getD p.toNat 0)) l) (fun i hi=>by
  have hm:l.getD i 0∈l:=by rw [getD_get hi];exact List.getElem_mem hi
  have hr:=g.mem_range hm
  try dsimp only
  rw [ee.L2_eq,bd_pos (by omega),ee.L3_eq,bd_pos (by omega)]
  simp only [toNat_cast]
  rw [bd_pos (by omega),lim_small (by decide) (by simp;omega),W_eq (by omega) (by omega),cast_add1,take_snoc hi,List.map_append]
  rfl)
 refine Eq.trans h2 ?_
 try dsimp only
 rw [ee.L2_eq,bd_neg (by omega),List.take_of_length_le (Nat.le_refl _)]
theorem all_used {fl:List Int} (ga:AGood next used free fl):used.countP id=used.length↔fl=[]:=by
 constructor
 ·intro h
  have h1:=List.countP_eq_length.1 h
  cases fl with
  |nil=>rfl
  |cons i fl=>
   have hi:=ga.chain.range i List.mem_cons_self
   have hs:=ga.same
   have hlt:i.toNat<used.length:=by omega
   have:=h1 used[i.toNat] (List.getElem_mem hlt)
   rw [←getD_get (d:=false) hlt] at this
   have:=(ga.mark i.toNat hlt).1 this
   rw [show ((i.toNat:Nat):Int)=i by omega] at this
   exact absurd List.mem_cons_self this
 ·rintro rfl
  refine List.countP_eq_length.2 fun b hb=>?_
  obtain ⟨i,hi,rfl⟩:=List.mem_iff_getElem.1 hb
  have:=(ga.mark i hi).2 (by simp)
  rw [getD_get hi] at this
  exact this
end
end Go.Proofs.YtkihjakbbcajbaaGreat.TB
namespace Go.Proofs.YtkihjakbbcajbaaGreat.TB
set_option linter.unusedSimpArgs false
set_option linter.unusedVariables false
open Go Go.Proofs Go.Proofs.YtkihjakbbcajbaaGreat.PM Go.Proofs.YtkihjakbbcajbaaGreat.RP Go.Proofs.YtkihjakbbcajbaaGreat.Kd
@[reducible] noncomputable def z0_:t0.den:=(0,0,0,())
def Lims (l:List t0.den):Prop:=∀i:Nat,i<3→LimOk (l.getD i z0_)
theorem valid_f (l:List t0.den):(Lims l∧dq.F l=some (true,()))∨(¬Lims l∧dq.F l=some (false,())):=by
 rw [dq.F_eq]
 rcases loop_all (n:=3) (L:=fun i=>dq.L1 l (i:Int)) (ok:=fun i=>LimOk (l.getD i z0_)) (stop:=some (false,())) (fun i hi=>by
  try dsimp only
  rw [dq.L1_eq,bd_pos (by omega),dq.L2_eq,bd_pos (by omega)]
  simp only [toNat_cast]
  rcases limit_says (l.getD i z0_) with ⟨h,e⟩|⟨h,e⟩
  ·rw [e,ob,bne_neg rfl,dq.L3_eq,W_eq (by omega) (by omega),cast_add1];exact .inl ⟨h,rfl⟩
  ·rw [e,ob,bne_pos (by decide)];exact .inr ⟨h,rfl⟩) with ⟨h,e⟩|⟨h,e⟩
 ·refine .inl ⟨h,Eq.trans e ?_⟩
  try dsimp only
  rw [dq.L1_eq,bd_neg (by decide)]
 ·exact .inr ⟨h,e⟩
theorem limited_f (l:List t0.den):(Lims l∧bg.F l=some (true,()))∨(¬Lims l∧bg.F l=some (false,())):=by
 rw [bg.F_eq]
 rcases loop_all (n:=3) (L:=fun i=>bg.L1 (i:Int) l) (ok:=fun i=>LimOk (l.getD i z0_)) (stop:=some (false,())) (fun i hi=>by
  try dsimp only
  rw [bg.L1_eq,bd_pos (by omega),bg.L2_eq,bd_pos (by omega)]
  simp only [toNat_cast]
  rcases rlimit_says (l.getD i z0_) with ⟨h,e⟩|⟨h,e⟩
  ·rw [e,ob,bne_neg rfl,bg.L3_eq,W_eq (by omega) (by omega),cast_add1];exact .inl ⟨h,rfl⟩
  ·rw [e,ob,bne_pos (by decide)];exact .inr ⟨h,rfl⟩) with ⟨h,e⟩|⟨h,e⟩
 ·refine .inl ⟨h,Eq.trans e ?_⟩
  try dsimp only
  rw [bg.L1_eq,bd_neg (by decide)]
 ·exact .inr ⟨h,e⟩
def Alike (t:t5.den) (l:t0.den) (most:Int):Prop:=∀i:Nat,i<List.length t.2.2.2.1.2.1→List.getD t.2.2.2.1.2.1 i false=true→(List.getD t.2.2.1 i b0_).1=l∧¬Z (List.getD t.2.1 i 0)>most
theorem TOk.lens {t:t5.den} (h:TOk t):Z t.1=(List.length t.2.2.2.1.2.1:Int)∧List.length t.2.1=List.length t.2.2.2.1.2.1∧List.length t.2.2.1=List.length t.2.2.2.1.2.1∧List.length t.2.2.2.1.2.1≤8:=by
 obtain ⟨l,g⟩:=h
 have a1:=g.nkeys
 have a2:=g.nbks
 have a3:=g.nnext
 have a4:Z t.1≤8:=g.high
 obtain ⟨_,ga⟩:=g.arena
 have a5:=ga.same
 have a6:(List.length t.2.1:Int)=Z t.1:=a1
 have a7:(List.length t.2.2.1:Int)=Z t.1:=a2
 have a8:(List.length t.2.2.2.1.1:Int)=Z t.1:=a3
 refine ⟨by omega,by omega,by omega,by omega⟩
theorem alike_l1 {cap:Int} {keys:List Int} {bks:List t1.den} {next:List Int} {used:List Bool} {free:Int} {x:List t3.den} {prev:List Int} {nxt:List Int} {head:Int} {tail:Int} {most b1 b12 b13:Int} (hcap:cap=(used.length:Int)) (hk:keys.length=used.length) (hb:bks.length=used.length) (hu:used.length≤8):
  ((∀i:Nat,i<used.length→used.getD i false=true→(bks.getD i b0_).1=(b1,b12,b13,())∧¬Z (keys.getD i 0)>most)∧bn.L1 most 0 cap keys bks next used free x prev nxt head tail b1 b12 b13=some (true,()))∨
  ((¬∀i:Nat,i<used.length→used.getD i false=true→(bks.getD i b0_).1=(b1,b12,b13,())∧¬Z (keys.getD i 0)>most)∧bn.L1 most 0 cap keys bks next used free x prev nxt head tail b1 b12 b13=some (false,())):=by
 rcases loop_all (n:=used.length) (L:=fun i=>bn.L1 most (i:Int) cap keys bks next used free x prev nxt head tail b1 b12 b13) (ok:=fun i=>used.getD i false=true→(bks.getD i b0_).1=(b1,b12,b13,())∧¬Z (keys.getD i 0)>most) (stop:=some (false,())) (fun i hi=>by
  have nx_:bn.L3 most (i:Int) cap keys bks next used free x prev nxt head tail b1 b12 b13=bn.L1 most ((i+1:Nat):Int) cap keys bks next used free x prev nxt head tail b1 b12 b13:=by
   rw [bn.L3_eq,W_eq (by omega) (by omega),cast_add1]
  try dsimp only
  rw [bn.L1_eq,bd_pos (by omega),bn.L2_eq,bd_pos (by omega)]
  simp only [toNat_cast]
  by_cases u:used.getD i false=true
  ·rw [bt u,bd_pos (by omega)]
   by_cases e:(bks.getD i b0_).1=(b1,b12,b13,())
   ·rw [nbeq_neg e,bd_pos (by omega)]
    by_cases k:Z (keys.getD i 0)>most
    ·rw [bd_pos (by exact k)];exact .inr ⟨fun h=>(h u).2 k,rfl⟩
    ·rw [bd_neg (by exact k),nx_];exact .inl ⟨fun _=>⟨e,k⟩,rfl⟩
   ·rw [nbeq_pos e];exact .inr ⟨fun h=>e (h u).1,rfl⟩
  ·rw [bf (bool_not u),nx_];exact .inl ⟨fun h=>absurd h u,rfl⟩) with ⟨h,e⟩|⟨h,e⟩
 ·refine .inl ⟨h,Eq.trans e ?_⟩
  try dsimp only
  rw [bn.L1_eq,bd_neg (by omega)]
 ·exact .inr ⟨h,e⟩
theorem alike_f {t:t5.den} (h:TOk t) (l:t0.den) (most:Int):(Alike t l most∧bn.F t l most=some (true,()))∨(¬Alike t l most∧bn.F t l most=some (false,())):=by
 obtain ⟨h1,h2,h3,h4⟩:=h.lens
 rw [bn.F_eq]
 exact alike_l1 h1 h2 h3 h4
def Rises (l:List Int):Prop:=∀i:Nat,i<l.length - 1→¬Z (l.getD i 0)≥l.getD (i+1) 0
theorem rrev_l4 {b0:Int} {b02:List t0.den} {b03:Int} {b04:Int} {b05:Int} {b06:Int} {b07:Int} {b08:Int} {b09:Int} {b010:List Int} {b011:List t1.den} {b012:List Int} {b013:List Bool} {b014:Int} {b015:List t3.den} {b016:List Int} {b017:List Int} {b018:Int} {b019:Int} {b020:Int} {b021:List Int} {b022:List t1.den} {b023:List Int} {b024:List Bool} {b025:Int} {b026:List t3.den} {b027:List Int} {b028:List Int} {b029:Int} {b030:Int} {rv:List Int} {b032:Int} {b033:Int} {b034:Int} (hl:rv.length≤8):Says (Rises rv) (ar.L4 1 b0 b02 b03 b04 b05 b06 b07 b08 b09 b010 b011 b012 b013 b014 b015 b016 b017 b018 b019 b020 b021 b022 b023 b024 b025 b026 b027 b028 b029 b030 rv b032 b033 b034):=by
 rcases loop_all (n:=rv.length - 1) (L:=fun i=>ar.L4 ((i+1:Nat):Int) b0 b02 b03 b04 b05 b06 b07 b08 b09 b010 b011 b012 b013 b014 b015 b016 b017 b018 b019 b020 b021 b022 b023 b024 b025 b026 b027 b028 b029 b030 rv b032 b033 b034) (ok:=fun i=>¬Z (rv.getD i 0)≥rv.getD (i+1) 0) (stop:=some (8,())) (fun i hi=>by
  try dsimp only
  rw [ar.L4_eq,bd_pos (by omega),ar.L5_eq,W_eq (by omega) (by omega),bd_pos (by omega),bd_pos (by omega)]
  simp only [toNat_cast,toNat_sub1 (Nat.succ_pos i)]
  rw [show i+1 - 1=i by omega]
  by_cases a:Z (rv.getD i 0)≥rv.getD (i+1) 0
  ·rw [bd_pos (by exact a)];exact .inr ⟨fun h=>h a,rfl⟩
  ·rw [bd_neg (by exact a),ar.L6_eq,W_eq (by omega) (by omega),cast_add1];exact .inl ⟨a,rfl⟩) with ⟨h,e⟩|⟨h,e⟩
 ·refine .inl ⟨h,Eq.trans e ?_⟩
  try dsimp only
  rw [ar.L4_eq,bd_neg (by omega)]
 ·exact .inr ⟨h,e⟩
theorem prev_l3 {p:t7.den} {n:Int} (hl:List.length p.2.2.2.2.2.1≤8):Says (Rises p.2.2.2.2.2.1) (a9.L2 p n):=by
 rw [a9.L2_eq]
 generalize hr:(p.2.2.2.2.2.1:List Int)=rv at hl ⊢
 rcases loop_all (n:=rv.length) (L:=fun i=>a9.L3 p rv (rv.length:Int) (i:Int) n) (ok:=fun i=>0<i→¬Z (rv.getD (i - 1) 0)≥rv.getD i 0) (stop:=some (8,())) (fun i hi=>by
  have nx_:a9.L5 p rv (rv.length:Int) (i:Int) n=a9.L3 p rv (rv.length:Int) ((i+1:Nat):Int) n:=by
   rw [a9.L5_eq,W_eq (by omega) (by omega),cast_add1]
  try dsimp only
  rw [a9.L3_eq,bd_pos (by omega),a9.L4_eq,bd_pos (by omega)]
  simp only [hr]
  by_cases i0:0<i
  ·rw [bd_pos (by omega),W_eq (by omega) (by omega),bd_pos (by omega)]
   simp only [toNat_cast,toNat_sub1 i0]
   by_cases a:Z (rv.getD (i - 1) 0)≥rv.getD i 0
   ·rw [bd_pos (by exact a)];exact .inr ⟨fun h=>h i0 a,rfl⟩
   ·rw [bd_neg (by exact a),nx_];exact .inl ⟨fun _=>a,rfl⟩
  ·rw [bd_neg (by omega),nx_];exact .inl ⟨fun h=>absurd h i0,rfl⟩) with ⟨h,e⟩|⟨h,e⟩
 ·refine .inl ⟨fun i hi=>?_,Eq.trans e ?_⟩
  ·have:=h (i+1) (by omega) (by omega)
   rw [show i+1 - 1=i by omega] at this
   exact this
  ·try dsimp only
   rw [a9.L3_eq,bd_neg (by omega)]
 ·refine .inr ⟨fun h2=>h fun i hi i0=>?_,e⟩
  have:=h2 (i - 1) (by omega)
  rw [show i - 1+1=i by omega] at this
  exact this
def PartOk (p:t7.den):Prop:=¬Z p.1≥16∧Lims p.2.1∧BktOk p.2.2.1∧TOk p.2.2.2.1∧TOk p.2.2.2.2.1∧p.2.2.1.1=List.getD p.2.1 0 z0_∧Alike p.2.2.2.1 (List.getD p.2.1 1 z0_) 4294967295∧Alike p.2.2.2.2.1 (List.getD p.2.1 2 z0_) 65535∧¬(List.length p.2.2.2.2.2.1:Int)>8∧Rises p.2.2.2.2.2.1
structure TWf (t:t5.den):Prop where
 lev:∀c∈t.2.2.1,Z c.2.1≤9223372036854775807
 cells:Keys t.2.2.2.2.1
 few:List.length t.2.2.2.2.1≤1000
 keys:∀k∈t.2.1,Z k≤4294967295
structure PWf (p:t7.den):Prop where
 three:List.length p.2.1=3
 lev:Z p.2.2.1.2.1≤9223372036854775807
 us:TWf p.2.2.2.1
 es:TWf p.2.2.2.2.1
theorem rpart_says {p:t7.den} (w:PWf p):Says (PartOk p) (ar.F p):=by
 rw [ar.F_eq]
 refine Says.congr (P:=¬Z p.1≥16∧Lims p.2.1∧BktOk p.2.2.1∧p.2.2.1.1=List.getD p.2.1 0 z0_∧TOk p.2.2.2.1∧TOk p.2.2.2.2.1∧Alike p.2.2.2.1 (List.getD p.2.1 1 z0_) 4294967295∧Alike p.2.2.2.2.1 (List.getD p.2.1 2 z0_) 65535∧¬(List.length p.2.2.2.2.2.1:Int)>8∧Rises p.2.2.2.2.2.1) (.guard fun _=> .bflag (limited_f p.2.1) rfl fun _=>?_) ⟨fun ⟨a,b,c,d,e,f,g⟩=>⟨a,b,c,e,f,d,g⟩,fun ⟨a,b,c,e,f,d,g⟩=>⟨a,b,c,d,e,f,g⟩⟩
 rw [bnt rfl]
 refine (rbucket_says p.2.2.1).call (fun _=>?_) rfl
 rw [bne_neg rfl,bd_pos (by decide)]
 refine .same fun _=>?_
 rw [ar.L1_eq]
 refine (rtable_says p.2.2.2.1 w.us.cells w.us.few).call (fun hu=>?_) rfl
 rw [bne_neg rfl]
 refine (rtable_says p.2.2.2.2.1 w.es.cells w.es.few).call (fun he=>?_) rfl
 rw [bne_neg rfl,bd_pos (by decide)]
 refine .bflag (alike_f hu _ _) rfl fun _=>?_
 rw [bnt rfl,bd_pos (by decide)]
 refine .bflag (alike_f he _ _) rfl fun _=>?_
 rw [bnt rfl,ar.L2_eq]
 refine .guard fun hl=>?_
 rw [ar.L3_eq]
 exact rrev_l4 (by omega)
theorem list3 {l:List t0.den} (h:l.length=3):l=[l.getD 0 z0_,l.getD 1 z0_,l.getD 2 z0_]:=by
 match l,h with
 |[a,b,c],_=>rfl
theorem titems {t:t5.den} (h:TOk t):tItems t=some (come (useT t) (keyT t) (limT t) (usedN t)):=by
 obtain ⟨h1,h2,h3,h4⟩:=h.lens
 unfold tItems
 have a1:usedN t≤1000:=Nat.le_trans h4 (by decide)
 have a2:((List.range (usedN t)).all fun j=>!(useT t j)||(decide (j<List.length (α:=Int) t.2.1) && decide (j<List.length (α:=t1.den) t.2.2.1)))=true:=by
  rw [List.all_eq_true]
  intro j hj
  have hj:=List.mem_range.1 hj
  rw [decide_eq_true (show j<List.length (α:=Int) t.2.1 from Nat.lt_of_lt_of_eq hj h2.symm),decide_eq_true (show j<List.length (α:=t1.den) t.2.2.1 from Nat.lt_of_lt_of_eq hj h3.symm)]
  simp
 rw [decide_eq_true a1,a2];rfl
theorem goR_all {S X:Type} {st:S→X→Option S} {ok:X→Prop} {s:S} (h:∀x,(ok x∧st s x=some s)∨(¬ok x∧st s x=none)):∀xs,((∀x∈xs,ok x)∧goR st xs s=some s)∨((¬∀x∈xs,ok x)∧goR st xs s=none)
 |[]=> .inl ⟨fun _ h=>(by cases h),rfl⟩
 |x::xs=>by
  show _∧(st s x).bind (goR st xs)=_∨_∧(st s x).bind (goR st xs)=_
  rcases h x with ⟨a,e⟩|⟨a,e⟩
  ·rw [e]
   rcases goR_all h xs with ⟨b,f⟩|⟨b,f⟩
   ·exact .inl ⟨fun y hy=>by
     rcases List.mem_cons.1 hy with rfl|hy
     ·exact a
     ·exact b y hy,f⟩
   ·exact .inr ⟨fun c=>b fun y hy=>c y (List.mem_cons_of_mem _ hy),f⟩
  ·rw [e];exact .inr ⟨fun c=>a (c x List.mem_cons_self),rfl⟩
theorem goR_bad {S X:Type} {st:S→X→Option S} {s:S} (h:∀x,st s x=none) (xs:List X):goR st xs s=none∨goR st xs s=some s:=by
 cases xs with
 |nil=>exact .inr rfl
 |cons x xs=>
  left
  show (st s x).bind (goR st xs)=none
  rw [h x];rfl
theorem mem_come {us:Nat→Bool} {ks:Nat→Int} {ls:Nat→Int × Int × Int} {k:Nat} {x:Int × Int × Int × Int}:x∈come us ks ls k↔∃j,j<k∧us j=true∧(ks j,ls j)=x:=by
 unfold come
 rw [List.mem_map]
 constructor
 ·rintro ⟨j,hj,e⟩
  obtain ⟨h1,h2⟩:=List.mem_filter.1 hj
  exact ⟨j,List.mem_range.1 h1,h2,e⟩
 ·rintro ⟨j,h1,h2,e⟩
  exact ⟨j,List.mem_filter.2 ⟨List.mem_range.2 h1,h2⟩,e⟩
theorem come_all {t:t5.den} {l:t0.den} {most:Int}:(∀x∈come (useT t) (keyT t) (limT t) (usedN t),toL x=l∧¬Z x.1>most)↔Alike t l most:=by
 constructor
 ·intro h i hi u
  exact h _ (mem_come.2 ⟨i,hi,u,rfl⟩)
 ·intro h x hx
  obtain ⟨i,hi,u,rfl⟩:=mem_come.1 hx
  exact h i hi u
theorem rest_says {p:t7.den} (w:PWf p) (hu:TOk p.2.2.2.1) (he:TOk p.2.2.2.2.1):Says (p.2.2.1.1=List.getD p.2.1 0 z0_∧Alike p.2.2.2.1 (List.getD p.2.1 1 z0_) 4294967295∧Alike p.2.2.2.2.1 (List.getD p.2.1 2 z0_) 65535∧¬(List.length p.2.2.2.2.2.1:Int)>8∧Rises p.2.2.2.2.2.1) (a9.Rest p):=by
 unfold a9.Rest
 rw [titems hu,ob,titems he]
 have h3:=list3 w.three
 have s0:same0 p=[p.2.2.1.1,List.getD p.2.1 1 z0_,List.getD p.2.1 2 z0_]:=rfl
 by_cases e:p.2.2.1.1=List.getD p.2.1 0 z0_
 ·have s1:same0 p=p.2.1:=by rw [s0,e];exact h3.symm
  rw [s1]
  have set1:∀v:t0.den,List.set (α:=t0.den) p.2.1 1 v=p.2.1↔v=List.getD p.2.1 1 z0_:=fun v=>by
   constructor
   ·intro h
    have:=congrArg (fun l:List t0.den=>l.getD 1 z0_) h
    rw [h3] at this
    exact this
   ·rintro rfl
    conv=>lhs;rw [h3]
    conv=>rhs;rw [h3]
    rfl
  have set2:∀v:t0.den,List.set (α:=t0.den) p.2.1 2 v=p.2.1↔v=List.getD p.2.1 2 z0_:=fun v=>by
   constructor
   ·intro h
    have:=congrArg (fun l:List t0.den=>l.getD 2 z0_) h
    rw [h3] at this
    exact this
   ·rintro rfl
    conv=>lhs;rw [h3]
    conv=>rhs;rw [h3]
    rfl
  have g1:=goR_all (st:=st1 p) (ok:=fun x=>toL x=List.getD p.2.1 1 z0_) (s:=p.2.1) (fun x=>by
   unfold st1
   by_cases q:toL x=List.getD p.2.1 1 z0_
   ·rw [tbeq_pos (t:=.arr 3 t0) ((set1 _).2 q),(set1 _).2 q];exact .inl ⟨q,rfl⟩
   ·rw [tbeq_neg (t:=.arr 3 t0) (fun h=>q ((set1 _).1 h))];exact .inr ⟨q,rfl⟩) (come (useT p.2.2.2.1) (keyT p.2.2.2.1) (limT p.2.2.2.1) (usedN p.2.2.2.1))
  have g2:=goR_all (st:=st2 p) (ok:=fun x=>toL x=List.getD p.2.1 2 z0_∧¬Z x.1>65535) (s:=p.2.1) (fun x=>by
   unfold st2
   by_cases q:toL x=List.getD p.2.1 2 z0_
   ·rw [tbeq_pos (t:=.arr 3 t0) ((set2 _).2 q),(set2 _).2 q]
    by_cases k:Z x.1>65535
    ·rw [bd_pos (by exact k)];exact .inr ⟨fun h=>h.2 k,rfl⟩
    ·rw [bd_neg (by exact k)];exact .inl ⟨⟨q,k⟩,rfl⟩
   ·rw [tbeq_neg (t:=.arr 3 t0) (fun h=>q ((set2 _).1 h))];exact .inr ⟨fun h=>q h.1,rfl⟩) (come (useT p.2.2.2.2.1) (keyT p.2.2.2.2.1) (limT p.2.2.2.2.1) (usedN p.2.2.2.2.1))
  have al1:(∀x∈come (useT p.2.2.2.1) (keyT p.2.2.2.1) (limT p.2.2.2.1) (usedN p.2.2.2.1),toL x=List.getD p.2.1 1 z0_)↔Alike p.2.2.2.1 (List.getD p.2.1 1 z0_) 4294967295:=by
   rw [←come_all]
   refine ⟨fun h x hx=>⟨h x hx,?_⟩,fun h x hx=>(h x hx).1⟩
   obtain ⟨j,hj,u,rfl⟩:=mem_come.1 hx
   have hl:=hu.lens
   have hj2:j<List.length p.2.2.2.1.2.1:=Nat.lt_of_lt_of_eq hj hl.2.1.symm
   have:=w.us.keys _ (List.getElem_mem hj2)
   rw [←getD_get (d:=0) hj2] at this
   show ¬Z (List.getD p.2.2.2.1.2.1 j 0)>4294967295
   omega
  rw [al1] at g1
  rw [come_all] at g2
  rcases g1 with ⟨a1,e1⟩|⟨a1,e1⟩
  ·rw [e1]
   rcases g2 with ⟨a2,e2⟩|⟨a2,e2⟩
   ·dsimp only
    rw [ob,e2]
    show Says _ (a9.T p 0 p.2.1)
    rw [a9.T_eq,nbeq_neg rfl]
    refine Says.congr (P:=¬(List.length p.2.2.2.2.2.1:Int)>8∧Rises p.2.2.2.2.2.1) (.guard fun hl=>prev_l3 (by omega)) ⟨fun h=>⟨e,a1,a2,h⟩,fun h=>h.2.2.2⟩
   ·dsimp only
    rw [ob,e2]
    exact .inr ⟨fun h=>a2 h.2.2.1,rfl⟩
  ·rw [e1]
   exact .inr ⟨fun h=>a1 h.2.1,rfl⟩
 ·have b1:∀x,st1 p (same0 p) x=none:=fun x=>by
   unfold st1
   rw [tbeq_neg (t:=.arr 3 t0)]
   intro h
   have:=congrArg (fun l:List t0.den=>l.getD 0 z0_) h
   rw [s0] at this
   exact e this
  have b2:∀x,st2 p (same0 p) x=none:=fun x=>by
   unfold st2
   rw [tbeq_neg (t:=.arr 3 t0)]
   intro h
   have:=congrArg (fun l:List t0.den=>l.getD 0 z0_) h
   rw [s0] at this
   exact e this
  have no:∀o,o=some (8,())→Says (p.2.2.1.1=List.getD p.2.1 0 z0_∧Alike p.2.2.2.1 (List.getD p.2.1 1 z0_) 4294967295∧Alike p.2.2.2.2.1 (List.getD p.2.1 2 z0_) 65535∧¬(List.length p.2.2.2.2.2.1:Int)>8∧Rises p.2.2.2.2.2.1) o:=fun o h=> .inr ⟨fun h=>e h.1,h⟩
  apply no
  rcases goR_bad b1 (come (useT p.2.2.2.1) (keyT p.2.2.2.1) (limT p.2.2.2.1) (usedN p.2.2.2.1)) with e1|e1
  ·rw [e1]
  ·rw [e1]
   rcases goR_bad b2 (come (useT p.2.2.2.2.1) (keyT p.2.2.2.2.1) (limT p.2.2.2.2.1) (usedN p.2.2.2.2.1)) with e2|e2
   ·dsimp only
    rw [ob,e2]
   ·dsimp only
    rw [ob,e2]
    show a9.T p 0 (same0 p)=_
    rw [a9.T_eq,nbeq_pos (t:=.arr 3 t0)]
    intro h
    have:=congrArg (fun l:List t0.den=>l.getD 0 z0_) h
    rw [s0] at this
    exact e this
theorem part_says {p:t7.den} (w:PWf p):Says (PartOk p) (a9.F p):=by
 rw [a9.F_eq]
 refine .guard fun _=> .bflag (valid_f p.2.1) rfl fun _=>?_
 rw [bnt rfl]
 refine (bucket_says p.2.2.1 w.lev).call (fun _=>?_) rfl
 rw [bne_neg rfl]
 refine (table_says p.2.2.2.1 w.us.lev).call (fun hu=>?_) rfl
 rw [bne_neg rfl]
 refine (table_says p.2.2.2.2.1 w.es.lev).call (fun he=>?_) rfl
 rw [bne_neg rfl]
 exact rest_says w hu he
end Go.Proofs.YtkihjakbbcajbaaGreat.TB
namespace Go.Proofs.YtkihjakbbcajbaaGreat.PM
set_option linter.unusedSimpArgs false
set_option linter.unusedVariables false
open Go Go.RowKit
def Ty.solid:Ty→Bool
 |.pair a b=>a.solid && b.solid
 |.arr _ t=>t.solid
 |.slice t=>Nat.ble 1 t.size && t.solid
 |_=>true
def Ty.wf:(t:Ty)→t.den→Prop
 |.int k,x=>(Lit.int k x).wf=true
 |.bool,_=>True
 |.str,x=>List.length (α:=UInt8) x≤maxLen
 |.unit,_=>True
 |.pair a b,x=>a.wf x.1∧b.wf x.2
 |.arr n t,x=>List.length (α:=t.den) x=n∧∀y∈(show List t.den from x),t.wf y
 |.slice t,x=>List.length (α:=t.den) x≤maxLen∧∀y∈(show List t.den from x),t.wf y
def Here (W:World):Nat→Prop:=fun r=>r<W.heap.size
section
variable {P:Program} {H:Type} {enc:TypeId × Value→H} {W:World} {base:Nat} {spare:Nat→Bool} {held:Bool}
theorem ty_cells {τ:Ty} {t:TypeId} (h:tyB P τ t=true):P.cellsOf t=τ.size:=by
 obtain ⟨i,z,h1,h2,_⟩:=tyB_info h
 unfold Program.cellsOf;rw [h1];exact h2
theorem cat_build {u:Ty} {a:Addr}:∀(len k:Nat),(∀i,i<len→∃(q:u.den) (c:List Value),c.length=u.size∧TRel (Here W) W u c q∧u.wf q∧∀j v,c[j]?=some v→W.cell? (a.add ((k+i)*u.size+j))=some v)→
  ∃(l:List u.den) (c:List Value),l.length=len∧Cat (TRel (Here W) W u) c l∧(∀q∈l,u.wf q)∧∀j v,c[j]?=some v→W.cell? (a.add (k*u.size+j))=some v
 |0,_,_=>⟨[],[],rfl,rfl,by simp,by simp⟩
 |len+1,k,h=>by
  obtain ⟨q,c,h1,h2,h3,h4⟩:=h 0 (by omega)
  obtain ⟨l,d,g1,g2,g3,g4⟩:=cat_build len (k+1) (fun i hi=>by
   have:=h (i+1) (by omega)
   rwa [show k+(i+1)=k+1+i by omega] at this)
  refine ⟨q::l,c++d,by simp [g1],⟨c,d,rfl,h2,g2⟩,fun z hz=>?_,fun j v hv=>?_⟩
  ·rcases List.mem_cons.1 hz with rfl|hz
   ·exact h3
   ·exact g3 z hz
  ·by_cases hj:j<c.length
   ·rw [List.getElem?_append_left hj] at hv
    have:=h4 j v hv
    rwa [Nat.add_zero] at this
   ·rw [List.getElem?_append_right (by omega)] at hv
    have:=g4 _ v hv
    rwa [show (k+1)*u.size+(j - c.length)=k*u.size+j by rw [Nat.succ_mul];omega] at this
theorem cat_of {u:Ty}:∀(n k:Nat) (cs:List Value),cs.length=(k+n)*u.size→(∀i,i<n→∃q:u.den,TRel (Here W) W u ((cs.drop ((k+i)*u.size)).take u.size) q∧u.wf q)→
  ∃l:List u.den,l.length=n∧Cat (TRel (Here W) W u) (cs.drop (k*u.size)) l∧∀q∈l,u.wf q
 |0,k,cs,hl,_=>⟨[],rfl,by show cs.drop (k*u.size)=[];rw [List.drop_eq_nil_iff];simp at hl;omega,by simp⟩
 |n+1,k,cs,hl,h=>by
  obtain ⟨q,h1,h2⟩:=h 0 (by omega)
  obtain ⟨l,g1,g2,g3⟩:=cat_of n (k+1) cs (by rw [hl];congr 1;omega) (fun i hi=>by
   have:=h (i+1) (by omega)
   rwa [show k+(i+1)=k+1+i by omega] at this)
  refine ⟨q::l,by simp [g1],⟨(cs.drop (k*u.size)).take u.size,(cs.drop (k*u.size)).drop u.size,(List.take_append_drop _ _).symm,by simpa using h1,?_⟩,fun z hz=>?_⟩
  ·rw [List.drop_drop,show k*u.size+u.size=(k+1)*u.size by rw [Nat.succ_mul]];exact g2
  ·rcases List.mem_cons.1 hz with rfl|hz
   ·exact h2
   ·exact g3 z hz
mutual
theorem trod_rel:∀(τ:Ty) (t:TypeId) (fuel:Nat) (cs:List Value) (x:DataW H × List MemPlace),tyB P τ t=true→τ.solid=true→DataW.trod enc P W base spare held fuel t cs=some x→∃a:τ.den,TRel (Here W) W τ cs a∧τ.wf a
 |.int k,t,fuel,cs,x,ht,_,h=>by
  obtain ⟨n,rfl,_,hw⟩:=DataW.trod_int (und_int ht) h
  exact ⟨n,rfl,hw⟩
 |.bool,t,fuel,cs,x,ht,_,h=>by
  have hu:P.underlying t=some .bool:=by
   simp only [tyB_bool,Bool.and_eq_true] at ht
   have h2:=ht.2
   split at h2
   ·assumption
   ·cases h2
  obtain ⟨b,rfl,_⟩:=DataW.trod_bool hu h
  exact ⟨b,rfl,trivial⟩
 |.str,t,fuel,cs,x,ht,_,h=>by
  cases fuel with
  |zero=>simp [DataW.trod] at h
  |succ n=>
   unfold DataW.trod at h
   rw [und_str ht] at h
   split at h
   all_goals first
    |(rename_i s e;cases e;done)
    |skip
   all_goals simp_all
   exact ⟨_,⟨_,rfl,rfl⟩,by
    show List.length _≤maxLen
    rename_i s
    simpa using h.1⟩
 |.unit,t,fuel,cs,x,ht,_,h=>by
  have ht':=ht
  simp only [tyB_unit,Bool.and_eq_true] at ht'
  obtain ⟨_,hu⟩:=ht'
  split at hu
  ·rename_i fs hfs
   obtain ⟨xs,n,_,_,hl,_⟩:=DataW.trod_struct hfs h
   rw [ty_cells ht] at hl
   exact ⟨(),List.length_eq_zero_iff.1 hl,trivial⟩
  ·cases hu
 |.pair a b,t,fuel,cs,x,ht,hs,h=>by
  have ht':=ht
  simp only [tyB_pair,Bool.and_eq_true] at ht'
  obtain ⟨_,hu⟩:=ht'
  split at hu
  ·rename_i fs hfs
   obtain ⟨xs,n,_,rfl,hl,hlen,hfld⟩:=DataW.trod_struct hfs h
   rw [ty_cells ht] at hl
   have:=trod_flds (.pair a b) fs.toList 0 n cs hu hs (fun q hq=>by
    obtain ⟨i,hi,rfl⟩:=List.getElem_of_mem hq
    have h1:=hfld i fs.toList[i] (by simp at hi;simp [hi])
    have h2:i<xs.length:=by rw [hlen];simpa using hi
    exact ⟨xs[i],by rw [h1,List.getElem?_eq_getElem h2]⟩) (by rw [hl];omega)
   simpa using this
  ·cases hu
 |.arr n u,t,fuel,cs,x,ht,hs,h=>by
  have ht':=ht
  simp only [tyB_arr,Bool.and_eq_true] at ht'
  obtain ⟨_,hu⟩:=ht'
  split at hu
  ·rename_i m e hm
   simp only [Bool.and_eq_true] at hu
   obtain rfl:=Nat.eq_of_beq_eq_true hu.1
   obtain ⟨xs,k,_,_,hl,hlen,hel⟩:=DataW.trod_array hm h
   have hc:=ty_cells hu.2
   rw [ty_cells ht] at hl
   obtain ⟨l,g1,g2,g3⟩:=cat_of (W:=W) (u:=u) m 0 cs (by rw [hl];simp [Ty.size]) (fun i hi=>by
    have h1:=hel i hi
    rw [List.getElem?_eq_getElem (by omega),hc] at h1
    obtain ⟨q,q1,q2⟩:=trod_rel u e k _ _ hu.2 hs h1
    exact ⟨q,by simpa using q1,q2⟩)
   exact ⟨l,⟨g1,by simpa using g2⟩,g1,g3⟩
  ·cases hu
 |.slice u,t,fuel,cs,x,ht,hs,h=>by
  obtain ⟨e,hu,he⟩:=slice_und ht
  simp only [Ty.solid,Bool.and_eq_true] at hs
  have h1:=Nat.le_of_ble_eq_true hs.1
  have hc:=ty_cells he
  rcases Deep.open_slice hu h with ⟨rfl,_⟩|⟨a,len,cap,m,n,D,Pl,rfl,_,hl,hm,hmm,_,hel⟩
  ·exact ⟨[],⟨none,0,rfl,Nat.le_refl _,fun h=>by simp at h⟩,by simp [Ty.wf]⟩
  ·have hle:len≤m:=by rw [hmm];split<;>omega
   have hcell:∀i,i<len→∃(q:u.den) (c:List Value),c.length=u.size∧TRel (Here W) W u c q∧u.wf q∧∀j v,c[j]?=some v→W.cell? (a.add ((0+i)*u.size+j))=some v:=fun i hi=>by
    obtain ⟨c,hcs,hd⟩:=hel i (by omega)
    obtain ⟨q,hq,hw⟩:=trod_rel u e _ _ _ he hs.2 hd
    obtain ⟨_,hlen,hcl⟩:=World.cells?_some hcs
    refine ⟨q,c,TRel.len u _ _ hq,hq,hw,fun j v hv=>?_⟩
    have hj:j<c.length:=(List.getElem?_eq_some_iff.1 hv).1
    have k1:=hcl j (by omega)
    rw [Addr.add_add,hc] at k1
    rw [Nat.zero_add,k1,hv]
   obtain ⟨l,c,g1,g2,g3,g4⟩:=cat_build (W:=W) (u:=u) (a:=a) len 0 hcell
   have hmx:len≤maxLen:=by omega
   refine ⟨l,⟨some a,cap,by rw [g1],by omega,fun hpos=>?_⟩,by omega,g3⟩
   have hlenc:=Cat.len (TRel.len u) g2
   have h0:0<c.length:=by
    rw [hlenc];exact Nat.mul_pos hpos h1
   have k1:=g4 0 c[0] (by rw [List.getElem?_eq_getElem h0])
   have k2:W.cell? a=some c[0]:=by simpa [Addr.add] using k1
   have k3:a.spot=none∧a.block<W.heap.size:=by
    unfold World.cell? at k2
    split at k2
    ·rename_i hb
     split at k2
     ·cases k2
     ·rename_i hsp
      exact ⟨by simpa using hsp,heap_lt hb⟩
    ·cases k2
   refine ⟨a,rfl,k3.1,k3.2,c,fun j v hv=>?_,g2⟩
   have:=g4 j v hv
   simpa using this
 termination_by τ=>(SizeOf.sizeOf τ,1)
theorem trod_flds:∀(τ:Ty) (fs:List Field) (o fuel:Nat) (cs:List Value),fldB P τ fs o=true→τ.solid=true→(∀f∈fs,∃y,DataW.trod enc P W base spare held fuel f.type ((cs.drop f.offset).take (P.cellsOf f.type))=some y)→cs.length=o+τ.size→∃a:τ.den,TRel (Here W) W τ (cs.drop o) a∧τ.wf a
 |.pair x y,fs,o,fuel,cs,hf,hs,h,hl=>by
  cases fs with
  |nil=>simp [fldB_pair0] at hf
  |cons f fs=>
   simp only [fldB_pair1,Bool.and_eq_true] at hf
   simp only [Ty.solid,Bool.and_eq_true] at hs
   obtain rfl:=Nat.eq_of_beq_eq_true hf.1
   obtain ⟨z,hz⟩:=h f (by simp)
   obtain ⟨a,ha,wa⟩:=trod_rel x f.type fuel _ _ hf.2.1 hs.1 hz
   obtain ⟨b,hb,wb⟩:=trod_flds y fs (f.offset+x.size) fuel cs hf.2.2 hs.2 (fun g hg=>h g (List.mem_cons_of_mem _ hg)) (by rw [hl];simp [Ty.size];omega)
   rw [ty_cells hf.2.1] at ha
   exact ⟨(a,b),⟨_,_,by rw [←List.drop_drop,List.take_append_drop],ha,hb⟩,wa,wb⟩
 |.unit,fs,o,fuel,cs,hf,_,_,hl=>⟨(),by
   show cs.drop o=[]
   rw [List.drop_eq_nil_iff];simp [Ty.size] at hl;omega,trivial⟩
 |.int _,_,_,_,_,hf,_,_,_=>by simp [fldB_int] at hf
 |.bool,_,_,_,_,hf,_,_,_=>by simp [fldB_bool] at hf
 |.str,_,_,_,_,hf,_,_,_=>by simp [fldB_str] at hf
 |.arr _ _,_,_,_,_,hf,_,_,_=>by simp [fldB_arr] at hf
 |.slice _,_,_,_,_,hf,_,_,_=>by simp [fldB_slice] at hf
 termination_by τ=>(SizeOf.sizeOf τ,0)
end
end
end Go.Proofs.YtkihjakbbcajbaaGreat.PM
namespace Go.Proofs.YtkihjakbbcajbaaGreat.PM
set_option linter.unusedSimpArgs false
set_option linter.unusedVariables false
open Go Go.ChangeShapes Go.WideShapes Go.ChangeAt Go.RowKit
def argsB (P:Program):List PK→List TypeId→Bool
 |[],[]=>true
 |.val τ::r,t::ts=>tyB P τ t && (τ.solid && argsB P r ts)
 |_,_=>false
def argsWf:(ps:List PK)→(argTy ps).den→Prop
 |.val t::r,x=>t.wf x.1∧argsWf r x.2
 |[],_=>True
 |_::_,_=>False
def rowsB (P:Program) (ts:List TypeId):Bool:=ts.all fun t=>P.readableRec t && decide (t<P.types.size)
section
variable {P:Program} {H:Type} {enc:TypeId × Value→H} {W W':World}
theorem okw_agg {τ:Ty} {t:TypeId} {base:Nat} {v:Value} (ht:tyB P τ t=true) (h:Value.okWide P W .any base t v):isAggV v=τ.agg:=by
 cases τ with
 |int k=>obtain ⟨n,rfl⟩:=okWide_int (und_int ht) h;rfl
 |bool=>
  have hu:P.underlying t=some .bool:=by
   simp only [tyB_bool,Bool.and_eq_true] at ht
   have h2:=ht.2
   split at h2
   ·assumption
   ·cases h2
  obtain ⟨n,rfl⟩:=okWide_bool hu h;rfl
 |str=>obtain ⟨n,rfl⟩:=okWide_string (und_str ht) h;rfl
 |unit=>
  simp only [tyB_unit,Bool.and_eq_true] at ht
  obtain ⟨_,hu⟩:=ht
  split at hu
  ·rename_i fs hfs
   obtain ⟨cs,rfl,_⟩:=okWide_struct hfs h;rfl
  ·cases hu
 |pair a b=>
  simp only [tyB_pair,Bool.and_eq_true] at ht
  obtain ⟨_,hu⟩:=ht
  split at hu
  ·rename_i fs hfs
   obtain ⟨cs,rfl,_⟩:=okWide_struct hfs h;rfl
  ·cases hu
 |arr n u=>
  simp only [tyB_arr,Bool.and_eq_true] at ht
  obtain ⟨_,hu⟩:=ht
  split at hu
  ·rename_i m e hm
   simp only [Value.okWide,hm] at h
   obtain ⟨cs,rfl,_⟩:=h;rfl
  ·cases hu
 |slice u=>
  obtain ⟨e,hu,_⟩:=slice_und ht
  obtain ⟨a,len,cap,rfl⟩:=okWide_slice hu h;rfl
theorem open_args {base:Nat} {spare:Nat→Bool} {held:Bool}:∀(ps:List PK) (ts:List TypeId) (vs:List Value) (ds:List (DataW H)) (p:List MemPlace),argsB P ps ts=true→
  (∀(j:Nat) t v,ts[j]?=some t→vs[j]?=some v→Value.okWide P W .any 0 t v)→DataW.TrodAll enc P W base spare held ts vs ds p→∃x:(argTy ps).den,ArgsRel (Here W) W ps vs x []∧argsWf ps x∧ds.length=ts.length
 |[],[],vs,ds,p,_,_,h=>by
  cases vs with
  |nil=>cases ds with
   |nil=>exact ⟨(),⟨rfl,rfl⟩,trivial,rfl⟩
   |cons d ds=>exact h.elim
  |cons v vs=>exact h.elim
 |.val τ::r,t::ts,vs,ds,p,hb,hok,h=>by
  simp only [argsB,Bool.and_eq_true] at hb
  obtain ⟨hb1,hb2,hb3⟩:=hb
  obtain ⟨v,us,d,ds',p',q,rfl,rfl,rfl,h1,h2⟩:=trodAll_cons h
  obtain ⟨fuel,hf⟩:=h1
  obtain ⟨a,ha,wa⟩:=trod_rel τ t fuel _ _ hb1 hb2 hf
  obtain ⟨x,hx,wx,hl⟩:=open_args r ts us ds' q hb3 (fun j t' v' e1 e2=>hok (j+1) t' v' (by simpa using e1) (by simpa using e2)) h2
  exact ⟨(a,x),⟨v,us,rfl,⟨okw_agg hb1 (hok 0 t v rfl rfl),ha,rfl⟩,hx⟩,⟨wa,wx⟩,by simp [hl]⟩
 |[],_::_,_,_,_,hb,_,_=>by simp [argsB] at hb
 |.val _::_,[],_,_,_,hb,_,_=>by simp [argsB] at hb
 |.io _ _::_,_,_,_,_,hb,_,_=>by simp [argsB] at hb
 |.mu _::_,_,_,_,_,hb,_,_=>by simp [argsB] at hb
 |.fn _::_,_,_,_,_,hb,_,_=>by simp [argsB] at hb
 |.eat _::_,_,_,_,_,hb,_,_=>by simp [argsB] at hb
 |.clo _ _::_,_,_,_,_,hb,_,_=>by simp [argsB] at hb
theorem keep_args (hl:laidOutB P=true) (hb:Below W.heap.size W W'):∀(ts:List TypeId) (vs:List Value) (ds:List (DataW H)) (p:List MemPlace),rowsB P ts=true→DataW.TrodAll enc P W 0 (fun _=>true) true ts vs ds p→DataW.TrodAll enc P W' 0 (fun b=>decide (b<W.heap.size)) true ts vs ds p
 |[],vs,ds,p,_,h=>by
  cases vs with
  |nil=>cases ds with
   |nil=>exact h
   |cons d ds=>exact h.elim
  |cons v vs=>exact h.elim
 |t::ts,vs,ds,p,hr,h=>by
  simp only [rowsB,List.all_cons,Bool.and_eq_true,decide_eq_true_eq] at hr
  obtain ⟨v,us,d,ds',p',q,rfl,rfl,rfl,h1,h2⟩:=trodAll_cons h
  have hlt:∀x∈p',x.block<W.heap.size:=by obtain ⟨m,hm⟩:=h1;exact DataW.trod_lt m _ _ _ hm
  exact trodAll_cons_mk (Below.trod hl hr.1.1 hr.1.2 h1 hb hlt) (keep_args hl hb ts us ds' q (by simpa [rowsB] using hr.2) h2)
end
theorem out_bool {A:Nat→Prop} {w:World} {zs:List Value} {b:Bool} {bs:List Nat} (h:ResRel A w [(.bool,true)] zs (b,()) bs):zs=[.bool b]:=by
 obtain ⟨v,us,p,q,rfl,_,⟨ha,hv⟩,rfl,_⟩:=h
 have hv:OwnT A w .bool v.cells.toList b p:=hv
 have h1:v.cells.toList=[.bool b]:=by
  unfold OwnT at hv
  exact hv.1
 have hc:=isAggV_cells (v:=v) ha
 rw [hc] at h1
 simpa using h1
theorem law_run {P:Program} {gl:List (Nat × PV)} {f:FuncId} {s:Sig} {G:(argTy s.ps).den→Option (outTy s.ps s.rs).den} {W:World} {vs:List Value} {x:(argTy s.ps).den} {y:(outTy s.ps s.rs).den}
  (hF:FnSpec P gl f ⟨s,G⟩) (hG:GlOk gl (Here W) W) (hv:ArgsRel (Here W) W s.ps vs x []) (h:G x=some y) (ho:∀A w vs zs bs,OutRel A w s.ps s.rs vs zs y bs→zs=[.bool true]):
  Calls P f vs.toArray W fun e W'=>e=.returned (.bool true)∧Below W.heap.size W W':=by
 refine (hF.calls W (Here W) vs x [] y hG hv List.nodup_nil (fun r hr=>by simp at hr) (fun _ hr=>hr) h).mono fun e W' D=>?_
 obtain ⟨⟨zs,A',bs',rfl,o1,_⟩,K⟩:=D
 obtain rfl:=ho _ _ _ _ _ o1
 exact ⟨rfl,K.os,K.tape,K.output,K.size,fun k hk=>K.block k hk (fun h=>h.elim (fun h=>by omega) (fun h=>by simp at h))⟩
theorem law_lifted {C:Checked} {os:Os} {f:FuncId} {fn:Func} {s:ChangeSpec} {conds:List PathCond} {ps:List PK} {tb:TypeId} {gl:List (Nat × PV)} {G:(argTy ps).den→Option (outTy ps [(.bool,true)]).den} {H:Type} {enc:TypeId × Value→H}
  (own:ownKnob C.prog.godebug=none) (started:os.Started) (noInit:C.prog.inits.idxOf? f=none) (hfn:C.prog.funcs[f]?=some fn)
  (witness:∃(w:World) (tape:Tape) (i:Input),w.os=os∧(w.forCall tape i).Shaped C.prog∧i.vars=[]∧Input.okWide C.prog (w.forCall tape i) .any w.heap.size f i∧
   s.pre6 enc C.prog fn conds false (w.forCall tape i).memory i.args∧({}:Assume).holds C.prog (Go.lone (Frame.enter C.prog f i.args .normal) [] (w.forCall tape i)))
  (hvars:s.vars=[]) (hs:∀ds:List (DataW H),ds.length=fn.params.toList.length→(s.fn H ds).results=[.lit (.bool true)]∧(s.fn H ds).args=ds∧(s.fn H ds).vars=[])
  (hres:fn.resultTypes=#[tb]) (htb:C.prog.underlying tb=some .bool) (hargs:argsB C.prog ps fn.params.toList=true) (hl:laidOutB C.prog=true) (hrows:rowsB C.prog fn.params.toList=true)
  (hF:FnSpec C.prog gl f ⟨⟨ps,[(.bool,true)]⟩,G⟩) (hgl:gl=[])
  (hG:∀x,argsWf ps x→∃y,G x=some y∧∀A w vs zs bs,OutRel A w ps [(.bool,true)] vs zs y bs→zs=[.bool true]):
  ReturnsInHanded {} C os f .any (s.pre6 enc C.prog fn conds false) (s.post enc C.prog fn false true false false):=by
 refine returnsInHanded_of_change_sized own started noInit hfn witness ?_
 intro W base args ds gs before hval hW hcnd hsz _
 have hW':=hW
 obtain ⟨p,q,hA,hV,rfl,hfz,hnd⟩:=hW
 have hlen:args.size=args.size:=rfl
 obtain ⟨x,hx,wx,hdl⟩:=open_args (W:=W) ps fn.params.toList args.toList ds p hargs (fun j t v e1 e2=>hval j t v (by simpa using e1) (by simpa using e2)) hA
 obtain ⟨y,hy,ho⟩:=hG x wx
 subst hgl
 have hc:=law_run hF (fun n x e=>by cases e) hx hy ho
 have e1:args.toList.toArray=args:=by simp
 rw [e1] at hc
 rw [hvars] at hV
 obtain ⟨rfl,rfl⟩:=trodVars_none hV
 refine hc.mono fun e W' ⟨he,hb⟩=>?_
 subst he
 obtain ⟨r1,r2,r3⟩:=hs ds hdl
 refine ⟨_,rfl,ds,[],_,[],p,[],hW',?_,?_,?_,hb.frame _,fun h=>by cases h⟩
 ·rw [List.append_nil,r1,hres];exact trodAll_mk1 (shut_bool htb _)
 ·rw [List.append_nil,r2];exact keep_args hl hb _ _ _ _ hrows hA
 ·rw [List.append_nil,r3,hvars];rfl
end Go.Proofs.YtkihjakbbcajbaaGreat.PM
namespace Go.Proofs.YtkihjakbbcajbaaGreat.TB
set_option linter.unusedSimpArgs false
set_option linter.unusedVariables false
open Go Go.Proofs Go.Proofs.YtkihjakbbcajbaaGreat.PM Go.Proofs.YtkihjakbbcajbaaGreat.RP
structure TSmall (t:t5.den):Prop where
 keys:¬(List.length t.2.1:Int)>100
 bks:¬(List.length t.2.2.1:Int)>100
 idx:¬(List.length t.2.2.2.2.1:Int)>100
 next:¬(List.length t.2.2.2.1.1:Int)>100
 used:¬(List.length t.2.2.2.1.2.1:Int)>100
 prev:¬(List.length t.2.2.2.2.2.1.1:Int)>100
 nxt:¬(List.length t.2.2.2.2.2.1.2.1:Int)>100
structure PSmall (p:t7.den):Prop where
 us:TSmall p.2.2.2.1
 es:TSmall p.2.2.2.2.1
 rev:¬(List.length p.2.2.2.2.2.1:Int)>100
theorem great16_f (t:t5.den):(TSmall t∧fr.F t=some (false,()))∨fr.F t=some (true,()):=by
 rw [fr.F_eq]
 by_cases h1:(List.length t.2.1:Int)>100
 ·rw [bd_pos h1];exact .inr rfl
 by_cases h2:(List.length t.2.2.1:Int)>100
 ·rw [bd_neg h1,bd_pos h2];exact .inr rfl
 by_cases h3:(List.length t.2.2.2.2.1:Int)>100
 ·rw [bd_neg h1,bd_neg h2,bd_pos h3];exact .inr rfl
 rw [bd_neg h1,bd_neg h2,bd_neg h3,gi.F_eq]
 by_cases h4:(List.length t.2.2.2.1.1:Int)>100
 ·rw [bd_pos h4];exact .inr rfl
 rw [bd_neg h4,ob]
 by_cases h5:(List.length t.2.2.2.1.2.1:Int)>100
 ·rw [decide_eq_true h5];exact .inr rfl
 rw [decide_eq_false h5,bf rfl,gm.F_eq]
 by_cases h6:(List.length t.2.2.2.2.2.1.1:Int)>100
 ·rw [bd_pos h6];exact .inr rfl
 rw [bd_neg h6,ob]
 by_cases h7:(List.length t.2.2.2.2.2.1.2.1:Int)>100
 ·rw [decide_eq_true h7];exact .inr rfl
 ·rw [decide_eq_false h7];exact .inl ⟨⟨h1,h2,h3,h4,h5,h6,h7⟩,rfl⟩
theorem great18_f (p:t7.den):(PSmall p∧fx.F p=some (false,()))∨fx.F p=some (true,()):=by
 rw [fx.F_eq]
 rcases great16_f p.2.2.2.1 with ⟨h1,e1⟩|e1
 ·rw [e1,ob,bf rfl]
  rcases great16_f p.2.2.2.2.1 with ⟨h2,e2⟩|e2
  ·rw [e2,ob,bf rfl]
   by_cases h3:(List.length p.2.2.2.2.2.1:Int)>100
   ·rw [decide_eq_true h3];exact .inr rfl
   ·rw [decide_eq_false h3];exact .inl ⟨⟨h1,h2,h3⟩,rfl⟩
  ·rw [e2];exact .inr rfl
 ·rw [e1];exact .inr rfl
theorem great19_f {l:List t7.den}:(l.length≤20∧(∀p∈l,PSmall p)∧ce.F l=some (false,()))∨ce.F l=some (true,()):=by
 have key:∀k i:Nat,i+k=21→i≤l.length→(∀j:Nat,j<i→∀h:j<l.length,PSmall l[j])→(l.length≤20∧(∀p∈l,PSmall p)∧ce.L1 l (i:Int)=some (false,()))∨ce.L1 l (i:Int)=some (true,()):=by
  intro k
  induction k with
  |zero=>
   intro i hi hl hs
   right
   rw [ce.L1_eq]
   by_cases h:(i:Int)<(l.length:Int)
   ·rw [bd_pos h,bd_neg (by omega),decide_eq_true (by omega)]
   ·rw [bd_neg h,decide_eq_true (by omega)]
  |succ k ih=>
   intro i hi hl hs
   rw [ce.L1_eq]
   by_cases h:i<l.length
   ·rw [bd_pos (by omega),bd_pos (by omega),ce.L2_eq,bd_pos (by omega)]
    simp only [toNat_cast]
    rw [getD_get h]
    rcases great18_f l[i] with ⟨h1,e1⟩|e1
    ·rw [e1,ob,bf rfl,ce.L3_eq,W_eq (by omega) (by omega),cast_add1]
     refine ih (i+1) (by omega) (by omega) fun j hj hl2=>?_
     by_cases e:j=i
     ·subst e;exact h1
     ·exact hs j (by omega) hl2
    ·rw [e1];exact .inr rfl
   ·rw [bd_neg (by omega)]
    left
    refine ⟨by omega,fun p hp=>?_,by rw [decide_eq_false (by omega)]⟩
    obtain ⟨j,hj,rfl⟩:=List.mem_iff_getElem.1 hp
    exact hs j (by omega) hj
 rw [ce.F_eq]
 exact key 21 0 rfl (Nat.zero_le _) fun j hj=>absurd hj (Nat.not_lt_zero j)
theorem twin16_ok {t:t5.den} (h:TSmall t):gd.F t=some (t,()):=by
 obtain ⟨h1,h2,h3,h4,h5,h6,h7⟩:=h
 rw [gd.F_eq,lim_small (by decide) (by simp only [List.length_nil];omega),lim_small (by decide) (by simp only [List.length_nil];omega),gw.F_eq,lim_small (by decide) (by simp only [List.length_nil];omega),lim_small (by decide) (by simp only [List.length_nil];omega),ob,lim_small (by decide) (by simp only [List.length_nil];omega),gx.F_eq,lim_small (by decide) (by simp only [List.length_nil];omega),lim_small (by decide) (by simp only [List.length_nil];omega),ob]
 rfl
theorem twin18_ok {p:t7.den} (h:PSmall p):gn.F p=some (p,()):=by
 obtain ⟨h1,h2,h3⟩:=h
 rw [gn.F_eq,twin16_ok h1,ob,twin16_ok h2,ob,lim_small (by decide) (by simp only [List.length_nil];omega)]
 rfl
theorem twin19_ok {l:List t7.den} (hl:l.length≤20) (h:∀p∈l,PSmall p):da.F l=some (l,()):=by
 have h2:=loop_go (n:=l.length) (L:=fun i=>da.L1 l (i:Int) (l.take i)) (fun i hi=>by
  try dsimp only
  rw [da.L1_eq,bd_pos (by omega),da.L2_eq,bd_pos (by omega)]
  simp only [toNat_cast]
  rw [getD_get hi,twin18_ok (h _ (List.getElem_mem hi)),ob,lim_small (by decide) (by simp;omega),W_eq (by omega) (by omega),cast_add1,←List.take_append_getElem hi])
 have h2:da.L1 l 0 []=da.L1 l (l.length:Int) (l.take l.length):=h2
 rw [da.F_eq,h2,da.L1_eq,bd_neg (by omega),List.take_of_length_le (Nat.le_refl _)]
theorem keys_refl {a:List Int} (h:a.length≤1000):av.F a a=some (true,()):=by
 rw [av.F_eq,bne_neg rfl,av.L1_eq]
 have h2:=loop_go (n:=a.length) (L:=fun i=>av.L2 a a (i:Int)) (fun i hi=>by
  try dsimp only
  rw [av.L2_eq,bd_pos (by omega),av.L3_eq,bd_pos (by omega),bd_pos (by omega),bne_neg rfl,av.L4_eq,W_eq (by omega) (by omega),cast_add1])
 refine Eq.trans h2 ?_
 try dsimp only
 rw [av.L2_eq,bd_neg (by omega)]
theorem same13_refl {a:List Int} {b:List Bool} {c:Int} (h1:a.length≤1000) (h2:b.length≤1000):aj.F (a,b,c,()) (a,b,c,())=some (true,()):=by
 rw [aj.F_eq]
 dsimp only
 rw [bne_neg rfl,bne_neg rfl,bne_neg rfl,aj.L1_eq]
 have e1:=loop_go (n:=a.length) (L:=fun i=>aj.L2 (i:Int) a b c a b c) (fun i hi=>by
  try dsimp only
  rw [aj.L2_eq,bd_pos (by omega),aj.L3_eq,bd_pos (by omega),bd_pos (by omega),bne_neg rfl,aj.L7_eq,W_eq (by omega) (by omega),cast_add1])
 refine Eq.trans e1 ?_
 try dsimp only
 rw [aj.L2_eq,bd_neg (by omega)]
 have e2:=loop_go (n:=b.length) (L:=fun i=>aj.L4 (i:Int) a b c a b c) (fun i hi=>by
  try dsimp only
  rw [aj.L4_eq,bd_pos (by omega),aj.L5_eq,bd_pos (by omega),bd_pos (by omega),bnt (beq_self_eq_true _),aj.L6_eq,W_eq (by omega) (by omega),cast_add1])
 refine Eq.trans e2 ?_
 try dsimp only
 rw [aj.L4_eq,bd_neg (by omega)]
theorem same14_refl {a:List t3.den} (h:a.length≤1000):cc.F a a=some (true,()):=by
 rw [cc.F_eq,bne_neg rfl,cc.L1_eq]
 have h2:=loop_go (n:=a.length) (L:=fun i=>cc.L2 a a (i:Int)) (fun i hi=>by
  try dsimp only
  rw [cc.L2_eq,bd_pos (by omega),cc.L3_eq,bd_pos (by omega),bd_pos (by omega),nbeq_neg rfl,cc.L4_eq,W_eq (by omega) (by omega),cast_add1])
 refine Eq.trans h2 ?_
 try dsimp only
 rw [cc.L2_eq,bd_neg (by omega)]
theorem same16_refl {t:t5.den} (h:TSmall t):bz.F t t=some (true,()):=by
 obtain ⟨h1,h2,h3,h4,h5,h6,h7⟩:=h
 obtain ⟨cap,keys,bks,⟨next,used,free,⟨⟩⟩,x,⟨prev,nxt,head,tail,⟨⟩⟩,⟨⟩⟩:=t
 dsimp only at h1 h2 h3 h4 h5 h6 h7
 rw [bz.F_eq]
 dsimp only
 rw [bne_neg rfl,keys_refl (by omega),ob,bnt rfl,bne_neg rfl,same13_refl (by omega) (by omega),ob,bnt rfl,same14_refl (by omega),ob,bnt rfl,same15_f (by omega) (by omega),ob,decide_eq_true ⟨rfl,rfl,rfl,rfl⟩,bnt rfl,bz.L1_eq]
 have e1:=loop_go (n:=bks.length) (L:=fun i=>bz.L2 (i:Int) cap keys bks next used free x prev nxt head tail cap keys bks next used free x prev nxt head tail) (fun i hi=>by
  try dsimp only
  rw [bz.L2_eq,bd_pos (by omega),bz.L3_eq,bd_pos (by omega),bd_pos (by omega),nbeq_neg rfl,bz.L4_eq,W_eq (by omega) (by omega),cast_add1])
 refine Eq.trans e1 ?_
 try dsimp only
 rw [bz.L2_eq,bd_neg (by omega)]
theorem same18_refl {p:t7.den} (h:PSmall p):gg.F p p=some (true,()):=by
 obtain ⟨h1,h2,h3⟩:=h
 rw [gg.F_eq,beq_pos rfl,tbeq_pos (t:=.arr 3 t0) rfl,tbeq_pos (t:=t1) rfl,same16_refl h1,ob,bt rfl,same16_refl h2,ob,bt rfl,keys_refl (by omega),ob,bt rfl,(beq_iff t6 _ _).2 rfl]
theorem same19_refl {l:List t7.den} (hl:l.length≤1000) (h:∀p∈l,PSmall p):cd.F l l=some (true,()):=by
 rw [cd.F_eq,bne_neg rfl,cd.L1_eq]
 have h2:=loop_go (n:=l.length) (L:=fun i=>cd.L2 l l (i:Int)) (fun i hi=>by
  try dsimp only
  rw [cd.L2_eq,bd_pos (by omega),cd.L3_eq,bd_pos (by omega),bd_pos (by omega)]
  simp only [toNat_cast]
  rw [getD_get hi,same18_refl (h _ (List.getElem_mem hi)),ob,bnt rfl,cd.L4_eq,W_eq (by omega) (by omega),cast_add1])
 refine Eq.trans h2 ?_
 try dsimp only
 rw [cd.L2_eq,bd_neg (by omega)]
structure GReg (l:List t7.den):Prop where
 len:l.length≤8
 ok:∀p∈l,PartOk p
 inc:∀(i:Nat) (h:i+1<l.length),Z (l[i]).1<(l[i+1]).1
def AtOk (l:List t7.den) (i:Nat):Prop:=∀h:i<l.length,PartOk l[i]∧(0<i→Z (l[i - 1]'(by omega)).1<(l[i]).1)
theorem at_ok {l:List t7.den} (hl:l.length≤8) (h:∀i,i<l.length→AtOk l i):GReg l where
 len:=hl
 ok p hp:=by
  obtain ⟨i,hi,rfl⟩:=List.mem_iff_getElem.1 hp
  exact (h i hi hi).1
 inc i hi:=(h (i+1) hi hi).2 (Nat.succ_pos i)
theorem at_of {l:List t7.den} (g:GReg l) (i:Nat) (hi:i<l.length):AtOk l i:=fun h=>⟨g.ok _ (List.getElem_mem h),fun i0=>by
 have:=g.inc (i - 1) (by omega)
 have e:i - 1+1=i:=by omega
 simp only [e] at this
 exact this⟩
theorem check_f {l:List t7.den} (w:∀p∈l,PWf p) (hl:l.length≤20):(GReg l∧cg.F l=some (0,())∧bd.F l=some (0,()))∨(¬GReg l∧∃e:Int,(e=4∨e=8)∧cg.F l=some (e,())∧bd.F l=some (e,())):=by
 rw [cg.F_eq,bd.F_eq]
 by_cases h8:(l.length:Int)>8
 ·rw [bd_pos h8,bd_pos h8];exact .inr ⟨fun g=>by have:=g.len;omega,4,.inl rfl,rfl,rfl⟩
 rw [bd_neg h8,bd_neg h8,cg.L1_eq,bd.L1_eq]
 have a:=loop_all (n:=l.length) (L:=fun i=>cg.L2 l (l.length:Int) (i:Int)) (ok:=AtOk l) (stop:=some (8,())) (fun i hi=>by
  have nx_:cg.L4 l (l.length:Int) (i:Int)=cg.L2 l (l.length:Int) ((i+1:Nat):Int):=by
   rw [cg.L4_eq,W_eq (by omega) (by omega),cast_add1]
  try dsimp only
  rw [cg.L2_eq,bd_pos (by omega),cg.L3_eq,bd_pos (by omega)]
  simp only [toNat_cast]
  rw [getD_get hi]
  rcases part_says (w _ (List.getElem_mem hi)) with ⟨p,e⟩|⟨p,e⟩
  ·rw [e,ob,bne_neg rfl]
   by_cases i0:0<i
   ·rw [bd_pos (by omega),W_eq (by omega) (by omega),bd_pos (by omega),toNat_sub1 i0,getD_get (by omega:i - 1<l.length)]
    by_cases q:Z (l[i - 1]).1≥(l[i]).1
    ·rw [bd_pos (by exact q)];exact .inr ⟨fun h=>absurd q (Int.not_le.2 ((h hi).2 i0)),rfl⟩
    ·rw [bd_neg (by exact q),nx_];exact .inl ⟨fun _=>⟨p,fun _=>Int.not_le.1 q⟩,rfl⟩
   ·rw [bd_neg (by omega),nx_];exact .inl ⟨fun _=>⟨p,fun h=>absurd h i0⟩,rfl⟩
  ·rw [e,ob,bne_pos (by decide)];exact .inr ⟨fun h=>p (h hi).1,rfl⟩)
 have b:=loop_all (n:=l.length) (L:=fun i=>bd.L2 l (i:Int)) (ok:=AtOk l) (stop:=some (8,())) (fun i hi=>by
  have nx_:bd.L4 l (i:Int)=bd.L2 l ((i+1:Nat):Int):=by
   rw [bd.L4_eq,W_eq (by omega) (by omega),cast_add1]
  try dsimp only
  rw [bd.L2_eq,bd_pos (by omega),bd.L3_eq,bd_pos (by omega)]
  simp only [toNat_cast]
  rw [getD_get hi]
  rcases rpart_says (w _ (List.getElem_mem hi)) with ⟨p,e⟩|⟨p,e⟩
  ·rw [e,ob,bne_neg rfl]
   by_cases i0:0<i
   ·rw [bd_pos (by omega),bd_pos (by omega),W_eq (by omega) (by omega),bd_pos (by omega),toNat_sub1 i0,getD_get (by omega:i - 1<l.length)]
    by_cases q:Z (l[i]).1≤(l[i - 1]).1
    ·rw [bd_pos (by exact q)];exact .inr ⟨fun h=>absurd q (Int.not_le.2 ((h hi).2 i0)),rfl⟩
    ·rw [bd_neg (by exact q),nx_];exact .inl ⟨fun _=>⟨p,fun _=>Int.not_le.1 q⟩,rfl⟩
   ·rw [bd_neg (by omega),nx_];exact .inl ⟨fun _=>⟨p,fun h=>absurd h i0⟩,rfl⟩
  ·rw [e,ob,bne_pos (by decide)];exact .inr ⟨fun h=>p (h hi).1,rfl⟩)
 rcases a with ⟨a,e⟩|⟨a,e⟩
 ·rcases b with ⟨b,f⟩|⟨b,f⟩
  ·refine .inl ⟨at_ok (by omega) a,Eq.trans e ?_,Eq.trans f ?_⟩
   ·try dsimp only
    rw [cg.L2_eq,bd_neg (by omega)]
   ·try dsimp only
    rw [bd.L2_eq,bd_neg (by omega)]
  ·exact absurd a b
 ·rcases b with ⟨b,f⟩|⟨b,f⟩
  ·exact absurd b a
  ·exact .inr ⟨fun g=>a (at_of g),8,.inr rfl,e,f⟩
theorem wf_i64 {x:Int} (h:(Lit.int .i64 x).wf=true): -9223372036854775808≤x∧x≤9223372036854775807:=by
 simp only [Lit.wf,Bool.and_eq_true,decide_eq_true_eq] at h
 have a:IntKind.i64.min= -9223372036854775808:=by decide
 have b:IntKind.i64.max=9223372036854775807:=by decide
 omega
theorem wf_u32 {x:Int} (h:(Lit.int .u32 x).wf=true):0≤x∧x<4294967296:=by
 simp only [Lit.wf,Bool.and_eq_true,decide_eq_true_eq] at h
 have a:IntKind.u32.min=0:=by decide
 have b:IntKind.u32.max=4294967295:=by decide
 omega
theorem twf_of {t:t5.den} (h:t5.wf t) (hs:TSmall t):TWf t:=by
 obtain ⟨h1,h2,h3,h4,h5,h6,h7⟩:=h
 have hi:=hs.idx
 refine ⟨fun c hc=>(wf_i64 (h3.2 c hc).2.1).2,fun i i0 i1=>?_,by omega,fun k hk=>?_⟩
 ·have hj:i.toNat<List.length t.2.2.2.2.1:=by omega
  have e2:=cl_get hj
  rw [show ((i.toNat:Nat):Int)=i by omega] at e2
  rw [e2]
  exact wf_u32 (h5.2 _ (List.getElem_mem hj)).1
 ·have:0≤Z k∧Z k<4294967296:=wf_u32 (h2.2 k hk)
  omega
theorem pwf_of {p:t7.den} (h:t7.wf p) (hs:PSmall p):PWf p:=by
 obtain ⟨h1,h2,h3,h4,h5,h6,h7⟩:=h
 exact ⟨h2.1,(wf_i64 h3.2.1).2,twf_of h4 hs.us,twf_of h5 hs.es⟩
section
variable {cap:Int} {keys:List Int} {bks:List t1.den} {next:List Int} {used:List Bool} {free:Int} {x:List t3.den} {prev nxt:List Int} {head tail:Int} {l:List Int}
theorem get_f (g:TGood cap keys bks next used free x prev nxt head tail l) (hw:∀c∈bks,Z c.2.1≤9223372036854775807) {key p:Int} (h:Has x key p):fw.F (cap,keys,bks,(next,used,free,()),x,(prev,nxt,head,tail,()),()) key=some (bks.getD p.toNat b0_,0,()):=by
 have hr:=g.mem_range (g.has_mem h)
 obtain ⟨l1,l2,l3,l4,l5,l6,l7⟩:=g.lens
 rw [fw.F_eq,tcheck_f g hw,ob,bne_neg rfl,fw.L1_eq,place_has g h,ob,bd_neg (by dsimp only;omega),fw.L2_eq,bd_pos (by dsimp only;omega)]
end
end Go.Proofs.YtkihjakbbcajbaaGreat.TB
