/- Parts of the proof, joined: TbP, TbOw, TbO, TbB, TbT, TbR1, TbR2, TbN, TbDp, TbDo, TbDt, TbDu, TbR3. -/
import Derived.Test.YtkihjakbbcajbaaGreatTbA
namespace Go.Proofs.YtkihjakbbcajbaaGreat.TB
set_option linter.unusedSimpArgs false
set_option linter.unusedVariables false
open Go Go.Proofs Go.Proofs.YtkihjakbbcajbaaGreat.PM Go.Proofs.YtkihjakbbcajbaaGreat.RP
@[reducible] noncomputable def cl (x:List t3.den) (i:Int):t3.den:=List.getD x (Int.toNat i) (0,0,false,())
theorem and15_fin:∀n:Fin 81,PM.bits .and .i64 ((n.val:Int) - 40) 15=((n.val:Int) - 40) % 16:=by decide+kernel
theorem wrap_f {a:Int} (h0: -40≤a) (h1:a≤40):fr.F a=some (a % 16,()):=by
 rw [fr.F_eq]
 have:=and15_fin ⟨(a+40).toNat,by omega⟩
 have e:(((a+40).toNat:Int) - 40)=a:=by omega
 simp only [e] at this
 rw [this]
def hm (key:Int):Int:=((key*2654435769) % 4294967296) / 268435456
theorem hm_range (key:Int):0≤hm key∧hm key<16:=by unfold hm;omega
theorem home_f (key:Int):ft.F key=some (hm key,()):=by
 rw [ft.F_eq,bd_pos (by decide),show (2:Int) ^ min (Int.toNat 28) (IntKind.bits .u32)=268435456 by decide,Int.fdiv_eq_ediv_of_nonneg _ (by decide),IntKind.wrap_u32,W_eq]
 ·rfl
 ·omega
 ·omega
def Oth (x:List t3.den) (key:Int) (d:Nat):Prop:=∀e:Nat,e<d→(cl x ((hm key+e) % 16)).2.2.1=true∧(cl x ((hm key+e) % 16)).1≠key
def Ends (x:List t3.den) (key:Int) (d:Nat):Prop:=(cl x ((hm key+d) % 16)).2.2.1=true→(cl x ((hm key+d) % 16)).1=key
theorem next_pos (h:Int) (e:Nat):((h+(e:Int)) % 16+1) % 16=(h+((e+1:Nat):Int)) % 16:=by omega
theorem look_l1 {x:List t3.den} {key:Int} (hx:x.length=16) {d:Nat} (hd:d≤16) (hp:Oth x key d) (hq:Ends x key d) (n:Nat):
  ∀e:Nat,e+n=d→di.L1 x key ((hm key+e) % 16) (e:Int)=some ((hm key+d) % 16,(d:Int)+1,()):=by
 induction n with
 |zero=>
  intro e he
  have:e=d:=by omega
  subst this
  rw [di.L1_eq,bd_pos (by omega),W_eq (by omega) (by omega)]
  by_cases u:(cl x ((hm key+e) % 16)).2.2.1=true
  ·rw [bt u,bd_pos (by omega),bne_neg (hq u)]
  ·rw [bf (bool_not u)]
 |succ n ih=>
  intro e he
  obtain ⟨u,v⟩:=hp e (by omega)
  rw [di.L1_eq,bd_pos (by omega),bt u,bd_pos (by omega),bne_pos v,di.L2_eq,W_eq (x:=(hm key+e) % 16+1) (by omega) (by omega),wrap_f (by omega) (by omega),ob,next_pos,W_eq (by omega) (by omega),cast_add1]
  exact ih (e+1) (by omega)
theorem look_f {x:List t3.den} {key:Int} (hx:x.length=16) {d:Nat} (hd:d≤16) (hp:Oth x key d) (hq:Ends x key d):
  di.F x key=some ((hm key+d) % 16,(d:Int)+1,()):=by
 have h:=look_l1 hx hd hp hq d 0 (by omega)
 have:=hm_range key
 rw [di.F_eq,home_f,ob]
 rw [show (hm key+((0:Nat):Int)) % 16=hm key by omega] at h
 exact h
noncomputable def cnt (x:List t3.den):Nat:=x.countP (·.2.2.1)
theorem cl_get {x:List t3.den} {i:Nat} (h:i<x.length):cl x (i:Int)=x[i]:=by
 unfold cl;rw [toNat_cast,getD_get h]
theorem free_ex {x:List t3.den} (hx:x.length=16) (hc:cnt x≤12):∃i:Int,0≤i∧i<16∧(cl x i).2.2.1=false:=by
 by_cases h:∀c∈x,c.2.2.1=true
 ·have:cnt x=x.length:=List.countP_eq_length.2 h
  omega
 ·obtain ⟨c,hc,hu⟩:∃c∈x,¬c.2.2.1=true:=by
   apply Classical.byContradiction;intro hn;exact h fun c hc=>Classical.byContradiction fun hu=>hn ⟨c,hc,hu⟩
  obtain ⟨i,hi,rfl⟩:=List.mem_iff_getElem.1 hc
  exact ⟨i,by omega,by omega,by rw [cl_get hi];exact bool_not hu⟩
theorem first_ex (P:Nat→Prop) (n:Nat) (h:P n):∃d,d≤n∧P d∧∀e,e<d→¬P e:=by
 induction n using Nat.strongRecOn with
 |_ n ih=>
  by_cases hq:∃e,e<n∧P e
  ·obtain ⟨e,he,hp⟩:=hq
   obtain ⟨d,h1,h2,h3⟩:=ih e he hp
   exact ⟨d,by omega,h2,h3⟩
  ·exact ⟨n,Nat.le_refl _,h,fun e he hp=>hq ⟨e,he,hp⟩⟩
theorem look_ex {x:List t3.den} (hx:x.length=16) (hc:cnt x≤12) (key:Int):∃d:Nat,d<16∧Oth x key d∧Ends x key d:=by
 obtain ⟨i,h0,h1,hu⟩:=free_ex hx hc
 have hr:=hm_range key
 obtain ⟨d,hd,hp,hq⟩:=first_ex (fun d=>Ends x key d) ((i - hm key) % 16).toNat (by
  intro u
  rw [show (hm key+(((i - hm key) % 16).toNat:Int)) % 16=i by omega] at u
  rw [hu] at u;exact absurd u (by simp))
 exact ⟨d,by omega,fun e he=>by
  have:=hq e he
  unfold Ends at this
  by_cases u:(cl x ((hm key+e) % 16)).2.2.1=true
  ·exact ⟨u,fun hk=>this fun _=>hk⟩
  ·exact absurd (fun u'=>absurd u' u) this,hp⟩
theorem take_cnt {x:List t3.den} {i:Nat} (h:i<x.length):(x.take (i+1)).countP (·.2.2.1)=(x.take i).countP (·.2.2.1)+(if (cl x (i:Int)).2.2.1=true then 1 else 0):=by
 rw [←List.take_append_getElem h,List.countP_append,cl_get h]
 simp [List.countP_cons]
theorem cnt_le (x:List t3.den) (i:Nat):(x.take i).countP (·.2.2.1)≤x.length:=by
 have:=List.countP_le_length (p:=fun c:t3.den=>c.2.2.1) (l:=x.take i)
 have:=List.length_take_le' i x
 omega
structure POk (x:List t3.den):Prop where
 len:x.length=16
 few:cnt x≤12
 zero:∀i:Int,0≤i→i<16→(cl x i).2.2.1=false→cl x i=(0,0,false,())
 place:∀i:Int,0≤i→i<16→(cl x i).2.2.1=true→0≤Z (cl x i).2.1∧Z (cl x i).2.1<16
 uniq:∀i j:Int,0≤i→i<16→0≤j→j<16→(cl x i).2.2.1=true→(cl x j).2.2.1=true→(cl x i).1=(cl x j).1→i=j
 path:∀i:Int,0≤i→i<16→(cl x i).2.2.1=true→∀e:Nat,(e:Int)<(i - hm (cl x i).1) % 16→(cl x ((hm (cl x i).1+e) % 16)).2.2.1=true
def CellOk (x:List t3.den) (i:Int):Prop:=
 ((cl x i).2.2.1=false→cl x i=(0,0,false,()))∧
 ((cl x i).2.2.1=true→0≤Z (cl x i).2.1∧Z (cl x i).2.1<16∧Oth x (cl x i).1 ((i - hm (cl x i).1) % 16).toNat)
theorem look_at {x:List t3.den} (i:Int) (h0:0≤i) (h1:i<16) {d:Nat} (hd:d<16) (hp:Oth x (cl x i).1 d) (hq:Ends x (cl x i).1 d):
  (hm (cl x i).1+d) % 16=i↔Oth x (cl x i).1 ((i - hm (cl x i).1) % 16).toNat:=by
 have hr:=hm_range (cl x i).1
 constructor
 ·intro h
  rw [show ((i - hm (cl x i).1) % 16).toNat=d by omega];exact hp
 ·intro h
  generalize hD:((i - hm (cl x i).1) % 16).toNat=D at h
  have hi:(hm (cl x i).1+D) % 16=i:=by omega
  rcases Nat.lt_trichotomy d D with hl|he|hg
  ·have:=h d hl
   exact absurd (hq this.1) this.2
  ·rw [he];exact hi
  ·have:=hp D hg
   rw [hi] at this
   exact absurd rfl this.2
theorem cells_of_valid {x:List t3.den} (h:POk x) (i:Int) (h0:0≤i) (h1:i<16):CellOk x i:=by
 refine ⟨h.zero i h0 h1,fun u=>⟨(h.place i h0 h1 u).1,(h.place i h0 h1 u).2,fun e he=>?_⟩⟩
 have hr:=hm_range (cl x i).1
 have hu:=h.path i h0 h1 u e (by omega)
 refine ⟨hu,fun hk=>?_⟩
 have:=h.uniq _ i (by omega) (by omega) h0 h1 hu u hk
 omega
theorem valid_of_cells {x:List t3.den} (hx:x.length=16) (hc:cnt x≤12) (h:∀i:Int,0≤i→i<16→CellOk x i):POk x where
 len:=hx
 few:=hc
 zero i h0 h1:=(h i h0 h1).1
 place i h0 h1 u:=⟨((h i h0 h1).2 u).1,((h i h0 h1).2 u).2.1⟩
 uniq i j h0 h1 g0 g1 u v hk:=by
  obtain ⟨d,hd,hp,hq⟩:=look_ex hx hc (cl x i).1
  have a:=(look_at i h0 h1 hd hp hq).2 ((h i h0 h1).2 u).2.2
  have b:=(look_at j g0 g1 hd (hk▸hp) (hk▸hq)).2 ((h j g0 g1).2 v).2.2
  rw [hk] at a;omega
 path i h0 h1 u e he:=(((h i h0 h1).2 u).2.2 e (by omega)).1
theorem check_l5_step {x:List t3.den} (hx:x.length=16) (hc:cnt x≤12) {i:Nat} (h1:i<16):
  (CellOk x (i:Int)∧am.L5 x (i:Int)=am.L5 x ((i+1:Nat):Int))∨(¬CellOk x (i:Int)∧am.L5 x (i:Int)=some (8,())):=by
 obtain ⟨d,hd,hp,hq⟩:=look_ex hx hc (cl x (i:Int)).1
 have hl:=look_f hx (by omega) hp hq
 have hat:=look_at (i:Int) (by omega) (by omega) hd hp hq
 have nxt:am.L8 x (i:Int)=am.L5 x ((i+1:Nat):Int):=by
  rw [am.L8_eq,W_eq (by omega) (by omega),cast_add1]
 rw [am.L5_eq,bd_pos (by omega),am.L6_eq,bd_pos (by omega)]
 by_cases u:(cl x (i:Int)).2.2.1=true
 ·have nz:¬((cl x (i:Int)).2.2.1=false):=by rw [u];simp
  rw [bnt u,bt u]
  by_cases p0:Z (cl x (i:Int)).2.1<0
  ·rw [bd_pos (by exact p0)];exact .inr ⟨fun hc=>by have:=(hc.2 u).1;omega,rfl⟩
  by_cases p1:Z (cl x (i:Int)).2.1≥16
  ·rw [bd_neg (by exact p0),bd_pos (by exact p1)];exact .inr ⟨fun hc=>by have:=(hc.2 u).2.1;omega,rfl⟩
  rw [bd_neg (by exact p0),bd_neg (by exact p1),am.L7_eq,hl,ob,bt u]
  by_cases hh:(hm (cl x (i:Int)).1+d) % 16=(i:Int)
  ·rw [bne_neg hh,nxt]
   exact .inl ⟨⟨fun uf=>absurd uf nz,fun _=>⟨by omega,by omega,hat.1 hh⟩⟩,rfl⟩
  ·rw [bne_pos hh]
   exact .inr ⟨fun hc=>hh (hat.2 (hc.2 u).2.2),rfl⟩
 ·have uf:=bool_not u
  rw [bnf uf]
  by_cases z:cl x (i:Int)=(0,0,false,())
  ·rw [nbeq_neg z,bf uf,am.L7_eq,hl,ob,bf uf,nxt]
   exact .inl ⟨⟨fun _=>z,fun ut=>absurd ut u⟩,rfl⟩
  ·rw [nbeq_pos z];exact .inr ⟨fun hc=>z (hc.1 uf),rfl⟩
theorem probe_says (x:List t3.den):Says (POk x) (am.F x):=by
 rw [am.F_eq]
 by_cases hx:(x.length:Int)=16
 ·have hx':x.length=16:=by omega
  rw [bne_neg hx,am.L1_eq]
  have h2:=loop_go (n:=x.length) (L:=fun i=>am.L2 x (((x.take i).countP (·.2.2.1):Nat):Int) (x.length:Int) (i:Int)) (fun i hi=>by
   have hle:=cnt_le x i
   try dsimp only
   rw [am.L2_eq,bd_pos (by omega),am.L3_eq,bd_pos (by omega),take_cnt hi]
   by_cases u:(cl x (i:Int)).2.2.1=true
   ·rw [bt u,if_pos u,am.L9_eq,W_eq (by omega) (by omega),W_eq (by omega) (by omega),cast_add1,cast_add1]
   ·rw [bf (bool_not u),if_neg u,am.L9_eq,W_eq (x:=(i:Int)+1) (by omega) (by omega),cast_add1];rfl)
  try dsimp only at h2
  rw [List.take_of_length_le (Nat.le_refl _)] at h2
  have h3:am.L2 x 0 (x.length:Int) 0=am.L2 x (cnt x:Int) (x.length:Int) (x.length:Int):=h2
  rw [h3,am.L2_eq,bd_neg (by omega)]
  by_cases hc:cnt x≤12
  ·rw [bd_neg (by omega),am.L4_eq]
   rcases loop_all (n:=16) (L:=fun i=>am.L5 x (i:Int)) (ok:=fun i=>CellOk x (i:Int)) (stop:=some (8,())) (fun i hi=>check_l5_step hx' hc hi) with ⟨a,e⟩|⟨a,e⟩
   ·refine .inl ⟨valid_of_cells hx' hc fun i h0 h1=>?_,Eq.trans e ?_⟩
    ·have:=a i.toNat (by omega)
     rw [show ((i.toNat:Nat):Int)=i by omega] at this
     exact this
    ·try dsimp only
     rw [am.L5_eq,bd_neg (by decide)]
   ·exact .inr ⟨fun h=>a fun i hi=>cells_of_valid h i (by omega) (by omega),e⟩
  ·rw [bd_pos (by omega)];exact .inr ⟨fun h=>hc h.few,rfl⟩
 ·rw [bne_pos hx];exact .inr ⟨fun h=>hx (by rw [h.len];rfl),rfl⟩
theorem found {x:List t3.den} (h:POk x) (key:Int):∃d:Nat,d<16∧Oth x key d∧Ends x key d∧di.F x key=some ((hm key+d) % 16,(d:Int)+1,())∧
  (((cl x ((hm key+d) % 16)).2.2.1=true∧(cl x ((hm key+d) % 16)).1=key)∨
   ((cl x ((hm key+d) % 16)).2.2.1=false∧(∀j:Int,0≤j→j<16→¬((cl x j).2.2.1=true∧(cl x j).1=key)))):=by
 obtain ⟨d,hd,hp,hq⟩:=look_ex h.len h.few key
 have hr:=hm_range key
 refine ⟨d,hd,hp,hq,look_f h.len (by omega) hp hq,?_⟩
 by_cases u:(cl x ((hm key+d) % 16)).2.2.1=true
 ·exact Or.inl ⟨u,hq u⟩
 ·refine Or.inr ⟨bool_not u,?_⟩
  intro j h0 h1 ⟨v,e⟩
  have ho:=((cells_of_valid h j h0 h1).2 v).2.2
  have:=(look_at j h0 h1 hd (e▸hp) (e▸hq)).2 ho
  rw [e] at this;rw [this] at u;exact u v
theorem probe_Find_ok {x:List t3.den} (h:POk x) (key:Int):
  (∃i:Int,0≤i∧i<16∧(cl x i).2.2.1=true∧(cl x i).1=key∧dx.F x key=some ((cl x i).2.1,0,()))∨
  ((∀j:Int,0≤j→j<16→¬((cl x j).2.2.1=true∧(cl x j).1=key))∧dx.F x key=some (0,6,())):=by
 obtain ⟨d,hd,hp,hq,hl,hc⟩:=found h key
 have hx:=h.len
 have hr:=hm_range key
 rw [dx.F_eq,(probe_says x).yes h,ob,bne_neg rfl,dx.L1_eq,hl,ob,bd_pos (by dsimp only;omega)]
 rcases hc with ⟨u,e⟩|⟨u,n⟩
 ·refine .inl ⟨(hm key+d) % 16,by omega,by omega,u,e,?_⟩
  rw [bnt u,dx.L2_eq,bd_pos (by dsimp only;omega)]
 ·refine .inr ⟨n,?_⟩
  rw [bnf u]
end Go.Proofs.YtkihjakbbcajbaaGreat.TB
namespace Go.Proofs.YtkihjakbbcajbaaGreat.TB
set_option linter.unusedSimpArgs false
set_option linter.unusedVariables false
open Go.Proofs.YtkihjakbbcajbaaGreat.RP
@[reducible] def rd (l:List Int) (i:Int):Int:=l.getD i.toNat 0
def row (n:Nat) (f:Int→Int):List Int:=(List.range n).map (fun i:Nat=>f (i:Int))
theorem row_len (n:Nat) (f:Int→Int):(row n f).length=n:=by simp [row]
theorem row_congr {n:Nat} {f g:Int→Int} (h:∀i:Int,0≤i→i<n→f i=g i):row n f=row n g:=by
 unfold row
 refine List.map_congr_left fun i hi=>?_
 have:=List.mem_range.1 hi
 exact h i (by omega) (by omega)
theorem set_row (n:Nat) (f:Int→Int) (p v:Int) (h0:0≤p):(row n f).set p.toNat v=row n (fun i=>if i=p then v else f i):=by
 refine List.ext_getElem (by simp [row]) fun i h1 h2=>?_
 simp only [row,List.getElem_set,List.getElem_map,List.getElem_range]
 by_cases e:p.toNat=i
 ·rw [if_pos e,if_pos (by omega)]
 ·rw [if_neg e,if_neg (by omega)]
theorem rd_row {n:Nat} {f:Int→Int} {i:Int} (h0:0≤i) (h1:i<n):rd (row n f) i=f i:=by
 have e:((i.toNat:Nat):Int)=i:=by omega
 unfold rd row
 rw [List.getD_eq_getElem?_getD,List.getElem?_map,List.getElem?_range (by omega)]
 simp [e]
theorem row_of (xs:List Int):xs=row xs.length (rd xs):=by
 refine List.ext_getElem (by simp [row]) fun i h1 h2=>?_
 simp [row,rd,List.getD_eq_getElem?_getD,h1]
theorem row_nil (n:Nat):row n (fun _=> -1)=List.replicate n (-1):=by
 simp [row,List.map_const',List.length_range]
def hd (e:Int):List Int→Int
 |[]=>e
 |y::_=>y
def lst:Int→List Int→Int
 |c,[]=>c
 |_,y::l=>lst y l
def pv:Int→List Int→Int→Int
 |_,[],_=> -1
 |c,y::l,x=>if x=y then c else pv y l x
def nx (e:Int):List Int→Int→Int
 |[],_=> -1
 |y::l,x=>if x=y then hd e l else nx e l x
theorem hd_app (e:Int) (A B:List Int):hd e (A++B)=hd (hd e B) A:=by cases A<;>rfl
theorem lst_app (c:Int) (A B:List Int):lst c (A++B)=lst (lst c A) B:=by
 induction A generalizing c with
 |nil=>rfl
 |cons y l ih=>exact ih y
theorem lst_mem {A:List Int} (h:A≠[]) (c:Int):lst c A∈A:=by
 induction A generalizing c with
 |nil=>exact absurd rfl h
 |cons y l ih=>
  cases l with
  |nil=>exact List.mem_cons_self
  |cons z l=>exact List.mem_cons_of_mem _ (ih (by simp) y)
theorem lst_any {A:List Int} (h:A≠[]) (c d:Int):lst c A=lst d A:=by cases A with
 |nil=>exact absurd rfl h
 |cons y l=>rfl
theorem hd_mem {A:List Int} (h:A≠[]) (c:Int):hd c A∈A:=by cases A with
 |nil=>exact absurd rfl h
 |cons y l=>exact List.mem_cons_self
theorem pv_app (c:Int) (A B:List Int) (x:Int):pv c (A++B) x=if x∈A then pv c A x else pv (lst c A) B x:=by
 induction A generalizing c with
 |nil=>simp [lst]
 |cons y l ih=>
  rw [List.cons_append,pv,pv,lst]
  by_cases e:x=y
  ·simp [e]
  ·rw [if_neg e,if_neg e,ih]
   simp [e]
theorem nx_app (e:Int) (A B:List Int) (x:Int):nx e (A++B) x=if x∈A then nx (hd e B) A x else nx e B x:=by
 induction A with
 |nil=>simp
 |cons y l ih=>
  rw [List.cons_append,nx,nx]
  by_cases h:x=y
  ·simp [h,hd_app]
  ·rw [if_neg h,if_neg h,ih]
   simp [h]
theorem pv_out {c:Int} {A:List Int} {x:Int} (h:x∉A):pv c A x= -1:=by
 induction A generalizing c with
 |nil=>rfl
 |cons y l ih=>
  rw [pv,if_neg (fun e=>h (by rw [e];exact List.mem_cons_self)),ih (fun m=>h (List.mem_cons_of_mem _ m))]
theorem nx_out {e:Int} {A:List Int} {x:Int} (h:x∉A):nx e A x= -1:=by
 induction A with
 |nil=>rfl
 |cons y l ih=>
  rw [nx,if_neg (fun e=>h (by rw [e];exact List.mem_cons_self)),ih (fun m=>h (List.mem_cons_of_mem _ m))]
theorem nx_lst {e c:Int} {A:List Int} (h:A≠[]) (hn:A.Nodup):nx e A (lst c A)=e:=by
 induction A generalizing c with
 |nil=>exact absurd rfl h
 |cons y l ih=>
  rw [nx,lst]
  cases l with
  |nil=>simp [lst,hd]
  |cons z l=>
   have hm:lst y (z::l)∈z::l:=lst_mem (by simp) y
   rw [if_neg (fun e=>(List.nodup_cons.1 hn).1 (by rw [←e];exact hm))]
   exact ih (by simp) (List.nodup_cons.1 hn).2
theorem nx_else {e d c:Int} {A:List Int} {x:Int} (hx:x≠lst c A):nx e A x=nx d A x:=by
 induction A generalizing c with
 |nil=>rfl
 |cons y l ih=>
  rw [nx,nx]
  by_cases h:x=y
  ·rw [if_pos h,if_pos h]
   cases l with
   |nil=>exact absurd h hx
   |cons z l=>rfl
  ·rw [if_neg h,if_neg h]
   exact ih (c:=y) hx
theorem pv_else {c d:Int} {B:List Int} {x:Int} (hx:x≠hd (-1) B∨B=[]):pv c B x=pv d B x:=by
 cases B with
 |nil=>rfl
 |cons y l=>
  have h:x≠y:=by rcases hx with h|h;exact h;cases h
  rw [pv,pv,if_neg h,if_neg h]
def Ok (n:Nat) (L:List Int):Prop:=L.Nodup∧∀x∈L,0≤x∧x<n
def PV (n:Nat) (L:List Int):List Int:=row n (pv (-1) L)
def NX (n:Nat) (L:List Int):List Int:=row n (nx (-1) L)
theorem PV_len (n:Nat) (L:List Int):(PV n L).length=n:=row_len _ _
theorem NX_len (n:Nat) (L:List Int):(NX n L).length=n:=row_len _ _
theorem rd_PV {n:Nat} {L:List Int} {i:Int} (h0:0≤i) (h1:i<n):rd (PV n L) i=pv (-1) L i:=rd_row h0 h1
theorem rd_NX {n:Nat} {L:List Int} {i:Int} (h0:0≤i) (h1:i<n):rd (NX n L) i=nx (-1) L i:=rd_row h0 h1
theorem Ok.nil (n:Nat):Ok n []:=⟨List.nodup_nil,fun _ h=>by cases h⟩
theorem Ok.app {n:Nat} {A B:List Int} (h:Ok n (A++B)):Ok n A∧Ok n B∧∀x∈A,x∉B:=by
 obtain ⟨h1,h2⟩:=h
 obtain ⟨a,b,c⟩:=List.nodup_append.1 h1
 exact ⟨⟨a,fun x hx=>h2 x (List.mem_append_left _ hx)⟩,⟨b,fun x hx=>h2 x (List.mem_append_right _ hx)⟩,fun x hx hb=>c x hx x hb rfl⟩
theorem Ok.hd_ne {n:Nat} {B:List Int} (h:Ok n B):hd (-1) B= -1↔B=[]:=by
 constructor
 ·intro e
  apply Classical.byContradiction
  intro hb
  have:=h.2 _ (hd_mem hb (-1))
  omega
 ·rintro rfl;rfl
theorem Ok.lst_ne {n:Nat} {B:List Int} (h:Ok n B):lst (-1) B= -1↔B=[]:=by
 constructor
 ·intro e
  apply Classical.byContradiction
  intro hb
  have:=h.2 _ (lst_mem hb (-1))
  omega
 ·rintro rfl;rfl
theorem Ok.len {n:Nat} {L:List Int} (h:Ok n L):L.length≤n:=by
 induction n generalizing L with
 |zero=>
  cases L with
  |nil=>exact Nat.le_refl _
  |cons y l=>have:=h.2 y List.mem_cons_self;omega
 |succ n ih=>
  by_cases m:(n:Int)∈L
  ·have h2:Ok n (L.erase (n:Int)):=⟨h.1.erase _,fun x hx=>by
    have h3:=(h.1.mem_erase_iff).1 hx
    have:=h.2 x h3.2
    have:=h3.1
    omega⟩
   have:=ih h2
   rw [List.length_erase_of_mem m] at this
   omega
  ·have:=ih (L:=L) ⟨h.1,fun x hx=>by
    have h3:=h.2 x hx
    have:x≠n:=fun e=>m (by rw [←e];exact hx)
    omega⟩
   omega
theorem PV_snoc {n:Nat} {A:List Int} {y:Int} (h:Ok n (A++[y])):PV n (A++[y])=(PV n A).set y.toNat (lst (-1) A):=by
 obtain ⟨hA,hB,hd_⟩:=h.app
 have hy:=hB.2 y List.mem_cons_self
 unfold PV
 rw [set_row _ _ _ _ hy.1]
 refine row_congr fun i h0 h1=>?_
 rw [pv_app]
 by_cases m:i∈A
 ·rw [if_pos m,if_neg (fun e=>hd_ i m (by rw [e];exact List.mem_cons_self))]
 ·rw [if_neg m,pv_out m];rfl
theorem NX_snoc {n:Nat} {A:List Int} {y:Int} (h:Ok n (A++[y])) (hne:A≠[]):NX n (A++[y])=(NX n A).set (lst (-1) A).toNat y:=by
 obtain ⟨hA,hB,hd_⟩:=h.app
 have hl:=hA.2 _ (lst_mem hne (-1))
 unfold NX
 rw [set_row _ _ _ _ hl.1]
 refine row_congr fun i h0 h1=>?_
 rw [nx_app]
 by_cases m:i∈A
 ·rw [if_pos m]
  by_cases e:i=lst (-1) A
  ·rw [if_pos e,e,nx_lst hne hA.1];rfl
  ·rw [if_neg e];exact nx_else e
 ·rw [if_neg m,if_neg (fun e=>m (by rw [e];exact lst_mem hne _)),nx_out m,nx,nx]
  split<;>rfl
theorem NX_one (n:Nat) (y:Int):NX n [y]=NX n []:=by
 refine row_congr fun i _ _=>?_
 simp [nx,hd]
theorem PV_one (n:Nat) (y:Int):PV n [y]=PV n []:=by
 refine row_congr fun i _ _=>?_
 simp [pv]
def putIf (xs:List Int) (i v:Int):List Int:=if i= -1 then xs else xs.set i.toNat v
theorem PV_out {n:Nat} {A B:List Int} {p:Int} (h:Ok n (A++p::B)):(putIf (PV n (A++p::B)) (hd (-1) B) (lst (-1) A)).set p.toNat (-1)=PV n (A++B):=by
 obtain ⟨hA,hpB,hd_⟩:=h.app
 have hp:=hpB.2 p List.mem_cons_self
 have hB:Ok n B:=⟨(List.nodup_cons.1 hpB.1).2,fun x hx=>hpB.2 x (List.mem_cons_of_mem _ hx)⟩
 have hpn:p∉B:=(List.nodup_cons.1 hpB.1).1
 have hpA:p∉A:=fun m=>hd_ p m List.mem_cons_self
 have key:∀i,pv (-1) (A++p::B) i=if i∈A then pv (-1) A i else if i=p then lst (-1) A else pv p B i:=fun i=>by rw [pv_app];rfl
 unfold putIf PV
 by_cases e:hd (-1) B= -1
 ·rw [if_pos e,set_row _ _ _ _ hp.1]
  have eB:B=[]:=(hB.hd_ne).1 e
  subst eB
  refine row_congr fun i h0 h1=>?_
  rw [key,List.append_nil]
  by_cases q:i=p
  ·rw [if_pos q,q,pv_out hpA]
  ·rw [if_neg q,if_neg q]
   by_cases m:i∈A
   ·rw [if_pos m]
   ·rw [if_neg m,pv_out m];rfl
 ·rw [if_neg e]
  have hne:B≠[]:=fun hb=>e ((hB.hd_ne).2 hb)
  have hm:=hd_mem hne (-1)
  have hh:=hB.2 _ hm
  rw [set_row _ _ _ _ hh.1,set_row _ _ _ _ hp.1]
  refine row_congr fun i h0 h1=>?_
  rw [key,pv_app]
  by_cases q:i=p
  ·rw [if_pos q,q,if_neg hpA,pv_out hpn]
  ·rw [if_neg q,if_neg q]
   by_cases m:i∈A
   ·rw [if_pos m,if_pos m,if_neg (fun e2=>hd_ i m (by rw [e2];exact List.mem_cons_of_mem _ hm))]
   ·rw [if_neg m,if_neg m]
    by_cases e2:i=hd (-1) B
    ·rw [if_pos e2]
     cases B with
     |nil=>exact absurd rfl hne
     |cons b l=>rw [pv,if_pos (show i=b from e2)]
    ·rw [if_neg e2];exact pv_else (.inl e2)
theorem NX_out {n:Nat} {A B:List Int} {p:Int} (h:Ok n (A++p::B)):(putIf (NX n (A++p::B)) (lst (-1) A) (hd (-1) B)).set p.toNat (-1)=NX n (A++B):=by
 obtain ⟨hA,hpB,hd_⟩:=h.app
 have hp:=hpB.2 p List.mem_cons_self
 have hB:Ok n B:=⟨(List.nodup_cons.1 hpB.1).2,fun x hx=>hpB.2 x (List.mem_cons_of_mem _ hx)⟩
 have hpn:p∉B:=(List.nodup_cons.1 hpB.1).1
 have hpA:p∉A:=fun m=>hd_ p m List.mem_cons_self
 have key:∀i,nx (-1) (A++p::B) i=if i∈A then nx p A i else if i=p then hd (-1) B else nx (-1) B i:=fun i=>by rw [nx_app];rfl
 unfold putIf NX
 by_cases e:lst (-1) A= -1
 ·rw [if_pos e,set_row _ _ _ _ hp.1]
  have eA:A=[]:=(hA.lst_ne).1 e
  subst eA
  refine row_congr fun i h0 h1=>?_
  rw [key,List.nil_append]
  by_cases q:i=p
  ·rw [if_pos q,q,nx_out hpn]
  ·rw [if_neg q,if_neg q];simp
 ·rw [if_neg e]
  have hne:A≠[]:=fun hb=>e ((hA.lst_ne).2 hb)
  have hm:=lst_mem hne (-1)
  have hh:=hA.2 _ hm
  rw [set_row _ _ _ _ hh.1,set_row _ _ _ _ hp.1]
  refine row_congr fun i h0 h1=>?_
  rw [key,nx_app]
  by_cases q:i=p
  ·rw [if_pos q,q,if_neg hpA,nx_out hpn]
  ·rw [if_neg q,if_neg q]
   by_cases m:i∈A
   ·rw [if_pos m,if_pos m]
    by_cases e2:i=lst (-1) A
    ·rw [if_pos e2,e2,nx_lst hne hA.1]
    ·rw [if_neg e2];exact nx_else e2
   ·rw [if_neg m,if_neg m,if_neg (fun e2=>m (by rw [e2];exact hm))]
theorem PV_cons {n:Nat} {L:List Int} {p:Int} (h:Ok n (p::L)):PV n (p::L)=putIf (PV n L) (hd (-1) L) p:=by
 have hp:=h.2 p List.mem_cons_self
 have hL:Ok n L:=⟨(List.nodup_cons.1 h.1).2,fun x hx=>h.2 x (List.mem_cons_of_mem _ hx)⟩
 have hpn:p∉L:=(List.nodup_cons.1 h.1).1
 unfold putIf PV
 by_cases e:hd (-1) L= -1
 ·rw [if_pos e]
  have eL:L=[]:=(hL.hd_ne).1 e
  subst eL
  refine row_congr fun i h0 h1=>?_
  simp [pv]
 ·rw [if_neg e]
  have hne:L≠[]:=fun hb=>e ((hL.hd_ne).2 hb)
  have hh:=hL.2 _ (hd_mem hne (-1))
  rw [set_row _ _ _ _ hh.1]
  refine row_congr fun i h0 h1=>?_
  rw [pv]
  by_cases q:i=p
  ·rw [if_pos q,if_neg (fun e2=>hpn (by rw [←q,e2];exact hd_mem hne _)),q,pv_out hpn]
  ·rw [if_neg q]
   by_cases e2:i=hd (-1) L
   ·rw [if_pos e2]
    cases L with
    |nil=>exact absurd rfl hne
    |cons b l=>rw [pv,if_pos (show i=b from e2)]
   ·rw [if_neg e2];exact pv_else (.inl e2)
theorem NX_cons {n:Nat} {L:List Int} {p:Int} (h:Ok n (p::L)):NX n (p::L)=(NX n L).set p.toNat (hd (-1) L):=by
 have hp:=h.2 p List.mem_cons_self
 unfold NX
 rw [set_row _ _ _ _ hp.1]
 rfl
def path (N:List Int):Int→List Int→Prop
 |i,[]=>i= -1
 |i,y::l=>i=y∧y≠ -1∧path N (rd N y) l
theorem nx_of_path {N:List Int} {i:Int} {L:List Int} (h:path N i L) (hn:L.Nodup):i=hd (-1) L∧∀x∈L,rd N x=nx (-1) L x:=by
 induction L generalizing i with
 |nil=>exact ⟨h,fun _ m=>by cases m⟩
 |cons y l ih=>
  obtain ⟨h1,h2,h3⟩:=h
  obtain ⟨e1,e2⟩:=ih h3 (List.nodup_cons.1 hn).2
  refine ⟨h1,fun x hx=>?_⟩
  rw [nx]
  by_cases q:x=y
  ·rw [if_pos q,q,e1]
  ·rw [if_neg q]
   exact e2 x (by rcases List.mem_cons.1 hx with m|m;exact absurd m q;exact m)
def both (P N:List Int):Int→Int→List Int→Prop
 |_,i,[]=>i= -1
 |c,i,y::l=>i=y∧y≠ -1∧rd P y=c∧both P N y (rd N y) l
theorem both_path {P N:List Int} {c i:Int} {L:List Int} (h:both P N c i L):path N i L:=by
 induction L generalizing c i with
 |nil=>exact h
 |cons y l ih=>exact ⟨h.1,h.2.1,ih h.2.2.2⟩
theorem both_pv {P N:List Int} {c i:Int} {L:List Int} (h:both P N c i L) (hn:L.Nodup):∀x∈L,rd P x=pv c L x:=by
 induction L generalizing c i with
 |nil=>exact fun _ m=>by cases m
 |cons y l ih=>
  intro x hx
  rw [pv]
  by_cases q:x=y
  ·rw [if_pos q,q];exact h.2.2.1
  ·rw [if_neg q]
   exact ih h.2.2.2 (List.nodup_cons.1 hn).2 x (by rcases List.mem_cons.1 hx with m|m;exact absurd m q;exact m)
theorem both_made {n:Nat} {A B:List Int} (h:Ok n (A++B)):both (PV n (A++B)) (NX n (A++B)) (lst (-1) A) (hd (-1) B) B:=by
 induction B generalizing A with
 |nil=>rfl
 |cons y l ih=>
  obtain ⟨hA,hB,hd_⟩:=h.app
  have hy:=hB.2 y List.mem_cons_self
  have e:A++y::l=(A++[y])++l:=by simp
  have hm:y∉A:=fun m=>hd_ y m List.mem_cons_self
  refine ⟨rfl,by omega,?_,?_⟩
  ·rw [rd_PV hy.1 hy.2,pv_app,if_neg hm,pv,if_pos rfl]
  ·have h2:=ih (A:=A++[y]) (by rw [←e];exact h)
   rw [lst_app] at h2
   rw [rd_NX hy.1 hy.2,nx_app,if_neg hm,nx,if_pos rfl,e]
   exact h2
end Go.Proofs.YtkihjakbbcajbaaGreat.TB
namespace Go.Proofs.YtkihjakbbcajbaaGreat.TB
set_option linter.unusedSimpArgs false
set_option linter.unusedVariables false
open Go Go.Proofs Go.Proofs.YtkihjakbbcajbaaGreat.PM Go.Proofs.YtkihjakbbcajbaaGreat.RP
inductive Both (prev next:List Int):Int→Int→List Int→Prop
 |nil (c:Int):Both prev next c (-1) []
 |cons {c i:Int} {l:List Int} (h0:0≤i) (h1:i<next.length) (hp:prev.getD i.toNat 0=c) (h:Both prev next i (next.getD i.toNat 0) l):Both prev next c i (i::l)
theorem Both.chain {prev next:List Int} {c i:Int} {l:List Int} (h:Both prev next c i l):Chain next i l:=by
 induction h with
 |nil=>exact .nil
 |cons h0 h1 _ _ ih=>exact .cons h0 h1 ih
theorem Both.to {prev next:List Int} {c i:Int} {l:List Int} (h:Both prev next c i l):both prev next c i l:=by
 induction h with
 |nil=>rfl
 |cons h0 h1 hp _ ih=>exact ⟨rfl,by omega,hp,ih⟩
theorem Both.of {prev next:List Int}:∀{l:List Int} {c i:Int},both prev next c i l→(∀x∈l,0≤x∧x<next.length)→Both prev next c i l
 |[],c,i,h,_=>by
  have e:i= -1:=h
  rw [e];exact .nil c
 |y::l,c,i,h,hr=>by
  obtain ⟨h1,h2,h3,h4⟩:=h
  subst h1
  have:=hr i (by simp)
  exact .cons this.1 this.2 h3 (Both.of h4 fun x hx=>hr x (by simp [hx]))
structure OGood (prev next:List Int) (head tail:Int) (l:List Int):Prop where
 low:1≤prev.length
 high:prev.length≤16
 same:next.length=prev.length
 both:Both prev next (-1) head l
 nodup:l.Nodup
 out:∀j:Nat,j<prev.length→¬(j:Int)∈l→prev.getD j 0= -1∧next.getD j 0= -1
 tail:tail=lst (-1) l
def OOk (prev next:List Int) (head tail:Int):Prop:=∃l,OGood prev next head tail l
theorem OGood.ok {prev next:List Int} {head tail:Int} {l:List Int} (g:OGood prev next head tail l):Ok prev.length l:=
 ⟨g.nodup,fun x hx=>by have:=g.both.chain.range x hx;have:=g.same;omega⟩
theorem OGood.det {prev next:List Int} {head tail:Int} {l l':List Int} (g:OGood prev next head tail l) (g':OGood prev next head tail l'):l=l':=g.both.chain.det g'.both.chain
theorem OGood.short {prev next:List Int} {head tail:Int} {l:List Int} (g:OGood prev next head tail l):l.length≤16:=by
 have:=g.ok.len
 have:=g.high
 omega
theorem OGood.made {prev next:List Int} {head tail:Int} {l:List Int} (g:OGood prev next head tail l):prev=PV prev.length l∧next=NX prev.length l∧head=hd (-1) l∧tail=lst (-1) l:=by
 have hb:=g.both.to
 have hn:=nx_of_path (both_path hb) g.nodup
 have hp:=both_pv hb g.nodup
 refine ⟨?_,?_,hn.1,g.tail⟩
 ·refine Eq.trans (row_of prev) (row_congr fun i h0 h1=>?_)
  by_cases m:i∈l
  ·exact hp i m
  ·have:=g.out i.toNat (by omega) (by rw [show ((i.toNat:Nat):Int)=i by omega];exact m)
   rw [pv_out m];exact this.1
 ·refine Eq.trans (row_of next) ?_
  rw [g.same]
  refine row_congr fun i h0 h1=>?_
  by_cases m:i∈l
  ·exact hn.2 i m
  ·have:=g.out i.toNat (by omega) (by rw [show ((i.toNat:Nat):Int)=i by omega];exact m)
   rw [nx_out m];exact this.2
theorem OGood.of {n:Nat} {l:List Int} (h1:1≤n) (h2:n≤16) (h:Ok n l):OGood (PV n l) (NX n l) (hd (-1) l) (lst (-1) l) l where
 low:=by rw [PV_len];exact h1
 high:=by rw [PV_len];exact h2
 same:=by rw [PV_len,NX_len]
 both:=Both.of (both_made (A:=[]) h) (by rw [NX_len];exact h.2)
 nodup:=h.1
 out j hj hm:=by
  rw [PV_len] at hj
  have a:=rd_PV (L:=l) (n:=n) (i:=(j:Int)) (by omega) (by omega)
  have b:=rd_NX (L:=l) (n:=n) (i:=(j:Int)) (by omega) (by omega)
  unfold rd at a b
  rw [toNat_cast] at a b
  rw [a,b]
  exact ⟨pv_out hm,nx_out hm⟩
 tail:=rfl
theorem lru_walk_yes {prev next:List Int} {head tail last i:Int} {l:List Int} (hl:prev.length=next.length) (h:Both prev next last i l):
  ∀s:List Bool,s.length=next.length→l.Nodup→(∀x∈l,s.getD x.toNat false=false)→
   bj.L2 (next.length:Int) last i prev next head tail s=bj.L4 (lst last l) (next.length:Int) 0 prev next head tail (marks s l):=by
 induction h with
 |nil c=>
  intro s hs _ _
  rw [bj.L2_eq,bne_neg rfl,←hs];rfl
 |@cons c i l h0 h1 hp hc ih=>
  intro s hs hn hf
  obtain ⟨hi,hn⟩:=List.nodup_cons.1 hn
  have hr:=ih (s.set i.toNat true) (by simpa using hs) hn (fun x hx=>by
   have hxr:=hc.chain.range x hx
   rw [set_at h0 (by omega) hxr.1,if_neg (fun e=>hi (by rw [e];exact hx))]
   exact hf x (by simp [hx]))
  rw [bj.L2_eq,bne_pos (by omega),bj.L3_eq,bd_neg (by omega),bd_neg (by omega),bd_pos (by omega),bf (hf i (by simp)),bd_pos (by omega),bne_neg hp,bj.L8_eq,bd_pos (by omega),bd_pos (by omega)]
  exact hr
theorem lru_walk_no {prev next:List Int} {head tail:Int} (hl:prev.length=next.length) (d:Nat):
  ∀(s:List Bool) (last i:Int),s.length=next.length→s.count false≤d→(¬∃l,Both prev next last i l∧l.Nodup∧∀x∈l,s.getD x.toNat false=false)→
   bj.L2 (next.length:Int) last i prev next head tail s=some (8,()):=by
 induction d with
 |zero=>
  intro s last i hs hd hn
  by_cases e:i= -1
  ·exact absurd ⟨[],by rw [e];exact .nil _,by simp,by simp⟩ hn
  rw [bj.L2_eq,bne_pos e,bj.L3_eq]
  by_cases h0:i<0
  ·rw [bd_pos h0]
  by_cases h1:i≥next.length
  ·rw [bd_neg h0,bd_pos h1]
  rw [bd_neg h0,bd_neg h1,bd_pos (by omega)]
  by_cases hf:s.getD i.toNat false=true
  ·rw [bt hf]
  ·have:=count_set (by omega) (by omega) hf
   omega
 |succ d ih=>
  intro s last i hs hd hn
  by_cases e:i= -1
  ·exact absurd ⟨[],by rw [e];exact .nil _,by simp,by simp⟩ hn
  rw [bj.L2_eq,bne_pos e,bj.L3_eq]
  by_cases h0:i<0
  ·rw [bd_pos h0]
  by_cases h1:i≥next.length
  ·rw [bd_neg h0,bd_pos h1]
  rw [bd_neg h0,bd_neg h1,bd_pos (by omega)]
  by_cases hf:s.getD i.toNat false=true
  ·rw [bt hf]
  rw [bf (bool_not hf),bd_pos (by omega)]
  by_cases hp:prev.getD i.toNat 0=last
  ·have hc:=count_set (s:=s) (i:=i) (by omega) (by omega) hf
   have hr:=ih (s.set i.toNat true) i (next.getD i.toNat 0) (by simpa using hs) (by omega) (by
    rintro ⟨l,hl,hnd,hx⟩
    refine hn ⟨i::l,.cons (by omega) (by omega) hp hl,List.nodup_cons.2 ⟨fun hi=>?_,hnd⟩,?_⟩
    ·have:=hx i hi
     rw [set_at (by omega) (by omega) (by omega),if_pos rfl] at this
     exact Bool.noConfusion this
    ·intro x hxm
     rcases List.mem_cons.1 hxm with rfl|hxm
     ·exact bool_not hf
     ·have:=hx x hxm
      have hxr:=hl.chain.range x hxm
      rw [set_at (by omega) (by omega) hxr.1] at this
      split at this
      ·exact Bool.noConfusion this
      ·exact this)
   rw [bne_neg hp,bj.L8_eq,bd_pos (by omega),bd_pos (by omega)]
   exact hr
  ·rw [bne_pos hp]
def OutOk (s:List Bool) (prev next:List Int) (i:Nat):Prop:=s.getD i false=false→prev.getD i 0= -1∧next.getD i 0= -1
theorem lru_l4 {s:List Bool} {prev next:List Int} {head tail last:Int} (h1:s.length=next.length) (h2:prev.length=next.length) (hu:next.length≤16):
  Says ((∀i,i<next.length→OutOk s prev next i)∧tail=last) (bj.L4 last (next.length:Int) 0 prev next head tail s):=by
 have:=loop_all (n:=next.length) (L:=fun i=>bj.L4 last (next.length:Int) (i:Int) prev next head tail s) (ok:=OutOk s prev next) (stop:=some (8,())) (fun i hi=>by
  have nxt:bj.L7 last (next.length:Int) (i:Int) prev next head tail s=bj.L4 last (next.length:Int) ((i+1:Nat):Int) prev next head tail s:=by
   rw [bj.L7_eq,W_eq (by omega) (by omega),cast_add1]
  try dsimp only
  rw [bj.L4_eq,bd_pos (by omega),bj.L5_eq,bd_pos (by omega)]
  simp only [toNat_cast]
  by_cases a:s.getD i false=true
  ·rw [bnt a,nxt];exact .inl ⟨fun h=>(by rw [a] at h;cases h),rfl⟩
  ·rw [bnf (bool_not a),bd_pos (by omega)]
   by_cases e:prev.getD i 0= -1
   ·rw [bne_neg e,bd_pos (by omega)]
    by_cases f:next.getD i 0= -1
    ·rw [bne_neg f,nxt];exact .inl ⟨fun _=>⟨e,f⟩,rfl⟩
    ·rw [bne_pos f];exact .inr ⟨fun h=>f (h (bool_not a)).2,rfl⟩
   ·rw [bne_pos e];exact .inr ⟨fun h=>e (h (bool_not a)).1,rfl⟩)
 rcases this with ⟨h,e⟩|⟨h,e⟩
 ·have e2:bj.L4 last (next.length:Int) 0 prev next head tail s=bj.L4 last (next.length:Int) (next.length:Int) prev next head tail s:=e
  rw [e2,bj.L4_eq,bd_neg (by omega)]
  by_cases t:tail=last
  ·rw [bne_neg t,bj.L6_eq];exact .inl ⟨⟨h,t⟩,rfl⟩
  ·rw [bne_pos t];exact .inr ⟨fun h=>t h.2,rfl⟩
 ·exact .inr ⟨fun h2=>h h2.1,e⟩
theorem lru_says (prev next:List Int) (head tail:Int):Says (OOk prev next head tail) (bj.F (prev,next,head,tail,())):=by
 rw [bj.F_eq]
 try dsimp only
 by_cases hlow:(prev.length:Int)<1
 ·rw [bd_pos hlow];exact .inr ⟨fun ⟨l,g⟩=>by have:=g.low;omega,rfl⟩
 by_cases hhigh:(prev.length:Int)>16
 ·rw [bd_neg hlow,bd_pos hhigh];exact .inr ⟨fun ⟨l,g⟩=>by have:=g.high;omega,rfl⟩
 by_cases hsame:(next.length:Int)=(prev.length:Int)
 ·have hl:prev.length=next.length:=by omega
  rw [bd_neg hlow,bd_neg hhigh,bne_neg hsame,bj.L1_eq,decide_eq_true (show (0:Int)≤(prev.length:Int)∧(prev.length:Int)≤(prev.length:Int) by omega),Bool.true_and,lim_small (by decide) (by omega),toNat_cast,hl]
  have h0:∀i:Nat,(List.replicate next.length false).getD i false=false:=fun i=>by simp [List.getD_eq_getElem?_getD,List.getElem?_replicate];split<;>rfl
  by_cases hc:∃l,Both prev next (-1) head l∧l.Nodup
  ·obtain ⟨l,hb,hnd⟩:=hc
   rw [lru_walk_yes hl hb _ (by simp) hnd (fun x _=>h0 _)]
   have hr:∀x∈l,0≤x∧x<(List.replicate next.length false).length:=fun x hx=>by have:=hb.chain.range x hx;simp;omega
   have hm:∀i:Nat,(marks (List.replicate next.length false) l).getD i false=true↔(i:Int)∈l:=fun i=>by
    have:=marks_at hr (j:=(i:Int)) (by omega)
    rw [toNat_cast,h0] at this
    simpa using this
   refine (lru_l4 (by rw [marks_length];simp) hl (by omega)).congr ⟨fun h=>⟨l,by omega,by omega,by omega,hb,hnd,fun j hj m=>h.1 j (by omega) (bool_not fun e=>m ((hm j).1 e)),h.2⟩,fun ⟨l',g⟩=>?_⟩
   obtain rfl:=hb.chain.det g.both.chain
   exact ⟨fun i hi e=>g.out i (by omega) fun m=>(by rw [(hm i).2 m] at e;cases e),g.tail⟩
  ·rw [lru_walk_no hl ((List.replicate next.length false).count false) _ _ _ (by simp) (Nat.le_refl _) (fun ⟨l,a,b,_⟩=>hc ⟨l,a,b⟩)]
   exact .inr ⟨fun ⟨l,g⟩=>hc ⟨l,g.both,g.nodup⟩,rfl⟩
 ·rw [bd_neg hlow,bd_neg hhigh,bne_pos hsame];exact .inr ⟨fun ⟨l,g⟩=>by have:=g.same;omega,rfl⟩
theorem list_walk {prev next:List Int} {head tail i:Int} {l:List Int} (h:Chain next i l):∀acc:List Int,acc.length+l.length≤1000→ed.L2 i prev next head tail acc=some (acc++l,0,()):=by
 induction h with
 |nil=>
  intro acc _
  rw [ed.L2_eq,bne_neg rfl,List.append_nil]
 |@cons i l h0 h1 hc ih=>
  intro acc ha
  have ha:acc.length+(l.length+1)≤1000:=ha
  rw [ed.L2_eq,bne_pos (by omega),ed.L3_eq,lim_small (by decide) (by simp;omega),bd_pos (by omega),ih _ (by simp;omega)]
  simp
theorem lru_List_ok {prev next:List Int} {head tail:Int} {l:List Int} (g:OGood prev next head tail l):ed.F (prev,next,head,tail,())=some (l,0,()):=by
 have:=g.short
 rw [ed.F_eq,(lru_says prev next head tail).yes ⟨l,g⟩,ob,bne_neg rfl,ed.L1_eq]
 try dsimp only
 rw [list_walk g.both.chain [] (by simp;omega)]
 rfl
theorem lru_List_no {prev next:List Int} {head tail:Int} (h:¬OOk prev next head tail):ed.F (prev,next,head,tail,())=some ([],8,()):=by
 rw [ed.F_eq,(lru_says prev next head tail).no h,ob,bne_pos (by decide)]
end Go.Proofs.YtkihjakbbcajbaaGreat.TB
namespace Go.Proofs.YtkihjakbbcajbaaGreat.TB
set_option linter.unusedSimpArgs false
set_option linter.unusedVariables false
open Go Go.Proofs Go.Proofs.YtkihjakbbcajbaaGreat.PM Go.Proofs.YtkihjakbbcajbaaGreat.RP
def LimOk (l:t0.den):Prop:=¬(Z l.1)<1∧¬(Z l.1)>1000000000∧¬(Z l.2.1)<0∧¬(Z l.2.1)>1000000000∧¬(Z l.2.2.1)<1∧¬(Z l.2.2.1)>1000000000∧True
theorem limit_says (l:t0.den):Says (LimOk l) (cy.F l):=by
 rw [cy.F_eq]
 exact .guard fun _=> .guard fun _=> .guard fun _=> .guard fun _=> .guard fun _=> .guard fun _=>by rw [cy.L1_eq];exact .done
def BktOk (b:t1.den):Prop:=LimOk b.1∧¬(Z b.2.1)<0∧¬((Z b.1.1) - Z b.2.1)<0∧¬(Z b.2.2.1)<0∧¬(Z b.2.2.1)≥Z b.1.2.2.1∧((Z b.1.1) - Z b.2.1=0→¬(Z b.2.2.1)>0)
theorem bucket_says (b:t1.den) (hb:(Z b.2.1)≤9223372036854775807):Says (BktOk b) (d9.F b):=by
 rw [d9.F_eq]
 refine (limit_says b.1).call (fun hl=>?_) rfl
 obtain ⟨h1,h2,_⟩:=hl
 rw [bne_neg rfl,d9.L1_eq]
 refine .guard fun a=>?_
 have e:IntKind.wrap .i64 ((Z b.1.1) - Z b.2.1)=(Z b.1.1) - Z b.2.1:=W_eq (by omega) (by omega)
 rw [e]
 refine .guard fun _=> .guard fun _=> .guard fun _=>?_
 by_cases z:(Z b.1.1) - Z b.2.1=0
 ·rw [beq_pos z]
  by_cases w:(Z b.2.2.1)>0
  ·rw [bd_pos (by exact w)];exact .inr ⟨fun h=>h z w,rfl⟩
  ·rw [bd_neg (by exact w),d9.L2_eq];exact .inl ⟨fun _=>w,rfl⟩
 ·rw [beq_neg z,d9.L2_eq];exact .inl ⟨fun h=>absurd h z,rfl⟩
theorem index_l1 {s:List Int} {v:Int} (hs:s.length≤1000):∀(k i:Nat),i+k=s.length→∃r:Int,db.L1 s v (s.length:Int) (i:Int)=some (r,())∧(0≤r↔v∈s.drop i)
 |0,i,h=>by
  refine ⟨-1,by rw [db.L1_eq,bd_neg (by omega)],?_⟩
  rw [List.drop_of_length_le (by omega)];simp
 |k+1,i,h=>by
  have hi:i<s.length:=by omega
  rw [db.L1_eq,bd_pos (by omega),db.L2_eq,bd_pos (by omega)]
  simp only [toNat_cast]
  rw [getD_get hi,List.drop_eq_getElem_cons hi]
  by_cases e:v=s[i]
  ·exact ⟨i,by rw [beq_pos e],⟨fun _=>by rw [e];exact List.mem_cons_self,fun _=>by omega⟩⟩
  ·obtain ⟨r,h1,h2⟩:=index_l1 hs k (i+1) (by omega)
   refine ⟨r,by rw [beq_neg e,db.L3_eq,W_eq (by omega) (by omega),cast_add1,h1],?_⟩
   rw [h2,List.mem_cons]
   exact ⟨Or.inr,fun h=>h.resolve_left e⟩
theorem contains_f {s:List Int} (hs:s.length≤1000) (v:Int):fh.F s v=some (decide (v∈s),()):=by
 obtain ⟨r,h1,h2⟩:=index_l1 (v:=v) hs s.length 0 (by omega)
 have h1:db.L1 s v (s.length:Int) 0=some (r,()):=h1
 rw [fh.F_eq,db.F_eq,h1,ob]
 rw [List.drop_zero] at h2
 show some (decide (r≥0),())=_
 rw [decide_eq_decide.2 h2]
end Go.Proofs.YtkihjakbbcajbaaGreat.TB
namespace Go.Proofs.YtkihjakbbcajbaaGreat.TB
set_option linter.unusedSimpArgs false
set_option linter.unusedVariables false
open Go Go.Proofs Go.Proofs.YtkihjakbbcajbaaGreat.PM Go.Proofs.YtkihjakbbcajbaaGreat.RP
@[reducible] noncomputable def b0_:t1.den:=((0,0,0,()),0,0,0,())
def RowOk (keys:List Int) (bks:List t1.den) (used:List Bool) (x:List t3.den) (l:List Int) (i:Nat):Prop:=
 (used.getD i false=true↔(i:Int)∈l)∧
 (used.getD i false=false→keys.getD i 0=0∧bks.getD i b0_=b0_)∧
 (used.getD i false=true→(∃j:Int,0≤j∧j<16∧(cl x j).2.2.1=true∧(cl x j).1=keys.getD i 0∧(cl x j).2.1=(i:Int))∧BktOk (bks.getD i b0_))
structure TGood (cap:Int) (keys:List Int) (bks:List t1.den) (next:List Int) (used:List Bool) (free:Int) (x:List t3.den) (prev nxt:List Int) (head tail:Int) (l:List Int):Prop where
 low:1≤cap
 high:cap≤8
 nkeys:(keys.length:Int)=cap
 nbks:(bks.length:Int)=cap
 nnext:(next.length:Int)=cap
 nprev:(prev.length:Int)=cap
 arena:AOk next used free
 index:POk x
 order:OGood prev nxt head tail l
 row:∀i:Nat,i<used.length→RowOk keys bks used x l i
 count:used.countP id=cnt x
def TOk (t:t5.den):Prop:=∃l,TGood t.1 t.2.1 t.2.2.1 t.2.2.2.1.1 t.2.2.2.1.2.1 t.2.2.2.1.2.2.1 t.2.2.2.2.1 t.2.2.2.2.2.1.1 t.2.2.2.2.2.1.2.1 t.2.2.2.2.2.1.2.2.1 t.2.2.2.2.2.1.2.2.2.1 l
theorem take_count {used:List Bool} {i:Nat} (h:i<used.length):(used.take (i+1)).countP id=(used.take i).countP id+(if used.getD i false=true then 1 else 0):=by
 rw [←List.take_append_getElem h,List.countP_append,getD_get h]
 simp [List.countP_cons]
theorem count_le (used:List Bool) (i:Nat):(used.take i).countP id≤used.length:=by
 have:=List.countP_le_length (p:=id) (l:=used.take i)
 have:=List.length_take_le' i used
 omega
theorem table_l5 {x:List t3.den} (hx:x.length=16) (n:Nat) (hn:n≤1000):Says (n=cnt x) (aj.L5 (n:Int) x (x.length:Int) 0):=by
 have h2:=loop_go (n:=x.length) (L:=fun i=>aj.L5 ((n:Int) - (((x.take i).countP (·.2.2.1):Nat):Int)) x (x.length:Int) (i:Int)) (fun i hi=>by
  have hle:=cnt_le x i
  try dsimp only
  rw [aj.L5_eq,bd_pos (by omega),aj.L6_eq,bd_pos (by omega),take_cnt hi]
  by_cases u:(cl x (i:Int)).2.2.1=true
  ·rw [bt u,if_pos u,aj.L8_eq,W_eq (by omega) (by omega),W_eq (by omega) (by omega),cast_add1]
   congr 1
   omega
  ·rw [bf (bool_not u),if_neg u,aj.L8_eq,W_eq (x:=(i:Int)+1) (by omega) (by omega),cast_add1];rfl)
 try dsimp only at h2
 rw [List.take_of_length_le (Nat.le_refl _)] at h2
 have h3:aj.L5 ((n:Int) - ((0:Nat):Int)) x (x.length:Int) 0=aj.L5 ((n:Int) - (cnt x:Int)) x (x.length:Int) (x.length:Int):=h2
 rw [show ((n:Int) - ((0:Nat):Int))=n by omega] at h3
 rw [h3,aj.L5_eq,bd_neg (by omega)]
 by_cases e:n=cnt x
 ·rw [bne_neg (by omega),aj.L7_eq];exact .inl ⟨e,rfl⟩
 ·rw [bne_pos (by omega)];exact .inr ⟨e,rfl⟩
theorem table_l3 {cap:Int} {keys:List Int} {bks:List t1.den} {next:List Int} {used:List Bool} {free:Int} {x:List t3.den} {prev nxt:List Int} {head tail:Int} {l:List Int}
  (hk:keys.length=used.length) (hb:bks.length=used.length) (hu:used.length≤8) (hx:POk x) (hl:l.length≤16) (hw:∀c∈bks,Z c.2.1≤9223372036854775807):
  Says ((∀i,i<used.length→RowOk keys bks used x l i)∧used.countP id=cnt x) (aj.L3 0 used (used.length:Int) 0 cap keys bks next free x prev nxt head tail l):=by
 have hx16:=hx.len
 rcases loop_all (n:=used.length) (L:=fun i=>aj.L3 (((used.take i).countP id:Nat):Int) used (used.length:Int) (i:Int) cap keys bks next free x prev nxt head tail l) (ok:=RowOk keys bks used x l) (stop:=some (8,())) (fun i hi=>by
  have hle:=count_le used i
  try dsimp only
  rw [take_count hi]
  rw [aj.L3_eq,bd_pos (by omega),aj.L4_eq,bd_pos (by omega),contains_f (by omega),ob]
  simp only [toNat_cast]
  by_cases u:used.getD i false=true
  ·rw [if_pos u]
   rw [u]
   by_cases m:(i:Int)∈l
   ·rw [decide_eq_true m,bnt (b:=true==true) rfl,bnt rfl,aj.L9_eq,bnt rfl,aj.L10_eq,bd_pos (by omega)]
    simp only [toNat_cast]
    have hbi:Z (bks.getD i b0_).2.1≤9223372036854775807:=by
     rw [getD_get (by omega)];exact hw _ (List.getElem_mem _)
    rcases probe_Find_ok hx (keys.getD i 0) with ⟨j,h0,h1,v,e,f⟩|⟨n,f⟩
    ·rw [f,ob,bne_neg rfl]
     by_cases q:Z (cl x j).2.1=(i:Int)
     ·rw [bne_neg q,bd_pos (by omega)]
      rcases bucket_says _ hbi with ⟨ok,g⟩|⟨ok,g⟩
      ·rw [g,ob,bne_neg rfl,aj.L11_eq,W_eq (by omega) (by omega),W_eq (by omega) (by omega),cast_add1,cast_add1]
       exact .inl ⟨⟨⟨fun _=>m,fun _=>u⟩,fun h=>(by rw [u] at h;cases h),fun _=>⟨⟨j,h0,h1,v,e,q⟩,ok⟩⟩,rfl⟩
      ·rw [g,ob,bne_pos (by decide)]
       exact .inr ⟨fun h=>ok (h.2.2 u).2,rfl⟩
     ·rw [bne_pos q]
      refine .inr ⟨fun h=>?_,rfl⟩
      obtain ⟨⟨k,a,b,c,d,g⟩,_⟩:=h.2.2 u
      exact q (by rw [hx.uniq j k h0 h1 a b v c (e.trans d.symm)];exact g)
    ·rw [f,ob,bne_pos (by decide)]
     refine .inr ⟨fun h=>?_,rfl⟩
     obtain ⟨⟨k,a,b,c,d,g⟩,_⟩:=h.2.2 u
     exact n k a b ⟨c,d⟩
   ·rw [decide_eq_false m]
    exact .inr ⟨fun h=>m (h.1.1 u),rfl⟩
  ·have uf:=bool_not u
   rw [if_neg u]
   rw [uf]
   by_cases m:(i:Int)∈l
   ·rw [decide_eq_true m]
    exact .inr ⟨fun h=>u (h.1.2 m),rfl⟩
   ·rw [decide_eq_false m,bnt (b:=false==false) rfl,bnf rfl,bd_pos (by omega)]
    by_cases k0:keys.getD i 0=0
    ·rw [bne_neg k0,bd_pos (by omega)]
     by_cases z:bks.getD i b0_=b0_
     ·rw [nbeq_neg z,aj.L9_eq,bnf rfl,W_eq (by omega) (by omega),cast_add1]
      exact .inl ⟨⟨⟨fun h=>absurd h u,fun h=>absurd h m⟩,fun _=>⟨k0,z⟩,fun h=>absurd h u⟩,rfl⟩
     ·rw [nbeq_pos z]
      exact .inr ⟨fun h=>z (h.2.1 uf).2,rfl⟩
    ·rw [bne_pos k0]
     exact .inr ⟨fun h=>k0 (h.2.1 uf).1,rfl⟩) with ⟨a,e⟩|⟨a,e⟩
 ·have e2:aj.L3 0 used (used.length:Int) 0 cap keys bks next free x prev nxt head tail l=aj.L3 (((used.take used.length).countP id:Nat):Int) used (used.length:Int) (used.length:Int) cap keys bks next free x prev nxt head tail l:=e
  have hle:=count_le used used.length
  rw [List.take_of_length_le (Nat.le_refl _)] at e2 hle
  rw [e2,aj.L3_eq,bd_neg (by omega)]
  exact (table_l5 hx16 (used.countP id) (by omega)).congr ⟨fun h=>⟨a,h⟩,fun h=>h.2⟩
 ·exact .inr ⟨fun h=>a h.1,e⟩
theorem table_says (t:t5.den) (hw:∀c∈t.2.2.1,Z c.2.1≤9223372036854775807):Says (TOk t) (aj.F t):=by
 obtain ⟨cap,keys,bks,⟨next,used,free,⟨⟩⟩,x,⟨prev,nxt,head,tail,⟨⟩⟩,⟨⟩⟩:=t
 rw [aj.F_eq]
 dsimp only at hw ⊢
 refine Says.congr (P:=¬(Z cap<1)∧¬(Z cap>8)∧(([(keys.length:Int),(bks.length:Int),(next.length:Int),(prev.length:Int)]:List Int)=[cap,cap,cap,cap])∧AOk next used free∧POk x∧∃l,OGood prev nxt head tail l∧(∀i,i<used.length→RowOk keys bks used x l i)∧used.countP id=cnt x) ?_ ?_
 ·refine .guard fun c0=> .guard fun c1=> .same (t:=.arr 4 (.int .i64)) fun hs=>?_
  have c0:¬Z cap<1:=c0
  have c1:¬Z cap>8:=c1
  have hs:[(keys.length:Int),(bks.length:Int),(next.length:Int),(prev.length:Int)]=[Z cap,Z cap,Z cap,Z cap]:=hs
  simp only [List.cons.injEq,and_true] at hs
  obtain ⟨s1,s2,s3,s4⟩:=hs
  refine (arena_says next used free).call (fun ha=>?_) rfl
  rw [bne_neg rfl]
  refine (probe_says x).call (fun hp=>?_) rfl
  rw [bne_neg rfl,aj.L1_eq]
  have hlen:used.length=next.length:=by obtain ⟨_,g⟩:=ha;exact g.same
  by_cases ho:OOk prev nxt head tail
  ·obtain ⟨l,g⟩:=ho
   rw [lru_List_ok g,ob,bne_neg rfl,aj.L2_eq]
   have hs:=g.short
   refine (table_l3 (cap:=cap) (next:=next) (free:=free) (prev:=prev) (nxt:=nxt) (head:=head) (tail:=tail) (by omega) (by omega) (by omega) hp hs hw).congr ⟨fun h=>⟨l,g,h⟩,fun ⟨l',g',h⟩=>?_⟩
   obtain rfl:=g.det g'
   exact h
  ·rw [lru_List_no ho,ob,bne_pos (by decide)]
   exact .inr ⟨fun ⟨l,g,_⟩=>ho ⟨l,g⟩,rfl⟩
 ·constructor
  ·rintro ⟨c0,c1,hs,ha,hp,l,g,hr,hc⟩
   simp only [List.cons.injEq,and_true] at hs
   obtain ⟨s1,s2,s3,s4⟩:=hs
   exact ⟨l,Int.not_lt.1 c0,Int.not_lt.1 c1,s1,s2,s3,s4,ha,hp,g,hr,hc⟩
  ·rintro ⟨l,g⟩
   have h1:=g.low
   have h2:=g.high
   refine ⟨Int.not_lt.2 h1,Int.not_lt.2 h2,?_,g.arena,g.index,l,g.order,g.row,g.count⟩
   rw [g.nkeys,g.nbks,g.nnext,g.nprev]
end Go.Proofs.YtkihjakbbcajbaaGreat.TB
namespace Go.Proofs.YtkihjakbbcajbaaGreat.TB
set_option linter.unusedSimpArgs false
set_option linter.unusedVariables false
open Go Go.Proofs Go.Proofs.YtkihjakbbcajbaaGreat.PM Go.Proofs.YtkihjakbbcajbaaGreat.RP
theorem in_f {l:List Int} (hl:l.length≤1000) (n:Int):ce.F l n=some (decide (n∈l),()):=by
 rw [ce.F_eq]
 rcases find_loop (n:=l.length) (L:=fun i=>ce.L1 l n (i:Int)) (p:=fun i=>l.getD i 0=n) (hit:=fun _=>some (true,())) (miss:=some (false,())) (fun i hi=>by
  try dsimp only
  rw [ce.L1_eq,bd_pos (by omega),ce.L2_eq,bd_pos (by omega)]
  simp only [toNat_cast]
  by_cases e:l.getD i 0=n
  ·rw [beq_pos e];exact .inl ⟨e,rfl⟩
  ·rw [beq_neg e,ce.L3_eq,W_eq (by omega) (by omega),cast_add1];exact .inr ⟨e,rfl⟩) (by
  try dsimp only
  rw [ce.L1_eq,bd_neg (by omega)]) with ⟨i,hi,h1,_,h2⟩|⟨h1,h2⟩
 ·refine Eq.trans h2 ?_
  rw [decide_eq_true]
  rw [getD_get hi] at h1
  rw [←h1];exact List.getElem_mem hi
 ·refine Eq.trans h2 ?_
  rw [decide_eq_false]
  intro hm
  obtain ⟨i,hi,e⟩:=List.mem_iff_getElem.1 hm
  exact h1 i hi (by rw [getD_get hi,e])
theorem free_step (next:List Int) (used:List Bool) (free:Int) (hn:next.length≤100) (i:Int) (acc:List Int) (ha:acc.length≤100):bu.L1 i next used free acc=if i= -1 then some (acc,true,()) else if i<0 then some ([],false,()) else if i≥next.length then some ([],false,()) else if i∈acc then some ([],false,()) else bu.L1 (next.getD i.toNat 0) next used free (acc++[i]):=by
 conv=>lhs;rw [bu.L1_eq]
 by_cases e:i= -1
 ·rw [bne_neg e,if_pos e]
 rw [bne_pos e,if_neg e,bu.L2_eq]
 by_cases h0:i<0
 ·rw [bd_pos h0,if_pos h0]
 rw [bd_neg h0,if_neg h0]
 by_cases h1:i≥next.length
 ·rw [bd_pos h1,if_pos h1]
 rw [bd_neg h1,if_neg h1,in_f (by omega),ob]
 by_cases hm:i∈acc
 ·rw [if_pos hm,decide_eq_true hm];rfl
 ·rw [if_neg hm,decide_eq_false hm,bf rfl,bu.L3_eq,lim_small (by decide) (by simp;omega),bd_pos (by omega)]
theorem free_f (next:List Int) (used:List Bool) (free:Int) (hn:next.length≤100):(∃l,Chain next free l∧l.Nodup∧bu.F (next,used,free,())=some (l,true,()))∨((¬∃l,Chain next free l∧l.Nodup)∧bu.F (next,used,free,())=some ([],false,())):=by
 have:=walk_gen (L:=fun i acc=>bu.L1 i next used free acc) hn (fun i acc ha=>free_step next used free hn i acc ha) next.length [] free (by simp) (by simp) (by simp)
 simpa [bu.F_eq] using this
theorem all_step (prev next:List Int) (head tail:Int) (hn:next.length≤100) (i:Int) (acc:List Int) (ha:acc.length≤100):bp.L1 i prev next head tail acc=if i= -1 then some (acc,true,()) else if i<0 then some ([],false,()) else if i≥next.length then some ([],false,()) else if i∈acc then some ([],false,()) else bp.L1 (next.getD i.toNat 0) prev next head tail (acc++[i]):=by
 conv=>lhs;rw [bp.L1_eq]
 by_cases e:i= -1
 ·rw [bne_neg e,if_pos e]
 rw [bne_pos e,if_neg e,bp.L2_eq]
 by_cases h0:i<0
 ·rw [bd_pos h0,if_pos h0]
 rw [bd_neg h0,if_neg h0]
 by_cases h1:i≥next.length
 ·rw [bd_pos h1,if_pos h1]
 rw [bd_neg h1,if_neg h1,in_f (by omega),ob]
 by_cases hm:i∈acc
 ·rw [if_pos hm,decide_eq_true hm];rfl
 ·rw [if_neg hm,decide_eq_false hm,bf rfl,bp.L3_eq,lim_small (by decide) (by simp;omega),bd_pos (by omega)]
theorem all_f (prev next:List Int) (head tail:Int) (hn:next.length≤100):(∃l,Chain next head l∧l.Nodup∧bp.F (prev,next,head,tail,())=some (l,true,()))∨((¬∃l,Chain next head l∧l.Nodup)∧bp.F (prev,next,head,tail,())=some ([],false,())):=by
 have:=walk_gen (L:=fun i acc=>bp.L1 i prev next head tail acc) hn (fun i acc ha=>all_step prev next head tail hn i acc ha) next.length [] head (by simp) (by simp) (by simp)
 simpa [bp.F_eq] using this
theorem rarena_says (next:List Int) (used:List Bool) (free:Int):Says (AOk next used free) (ao.F (next,used,free,())):=by
 rw [ao.F_eq]
 dsimp only
 by_cases hlow:(next.length:Int)<1
 ·rw [bd_pos hlow];exact .inr ⟨fun ⟨l,g⟩=>by have:=g.low;omega,rfl⟩
 by_cases hhigh:(next.length:Int)>16
 ·rw [bd_neg hlow,bd_pos hhigh];exact .inr ⟨fun ⟨l,g⟩=>by have:=g.high;omega,rfl⟩
 by_cases hsame:(used.length:Int)=(next.length:Int)
 ·rw [bd_neg hlow,bd_neg hhigh,bne_neg hsame,ao.L1_eq]
  rcases free_f next used free (by omega) with ⟨l,hc,hnd,e⟩|⟨hc,e⟩
  ·have hs:=nodup_le hnd hc.range
   rw [e,ob,bnt rfl,ao.L2_eq]
   refine Says.congr (P:=∀i,i<used.length→((used.getD i false=true↔¬(i:Int)∈l)∧(used.getD i false=true→next.getD i 0= -1))) ?_ ⟨fun h=>⟨l,by omega,by omega,by omega,hc,hnd,fun j hj=>(h j hj).1,fun j hj=>(h j hj).2⟩,fun ⟨l',g⟩ i hi=>?_⟩
   ·rcases loop_all (n:=used.length) (L:=fun i=>ao.L3 (i:Int) next used free l) (ok:=fun i=>((used.getD i false=true↔¬(i:Int)∈l)∧(used.getD i false=true→next.getD i 0= -1))) (stop:=some (8,())) (fun i hi=>by
     try dsimp only
     rw [ao.L3_eq,bd_pos (by omega),ao.L4_eq,bd_pos (by omega),in_f (by omega),ob]
     simp only [toNat_cast]
     have nxt:ao.L5 (i:Int) next used free l=ao.L3 ((i+1:Nat):Int) next used free l:=by
      rw [ao.L5_eq,W_eq (by omega) (by omega),cast_add1]
     by_cases u:used.getD i false=true
     ·by_cases m:(i:Int)∈l
      ·rw [u,decide_eq_true m];exact .inr ⟨fun h=>h.1.1 rfl m,rfl⟩
      ·rw [u,decide_eq_false m,bf (b:=true==false) rfl,bd_pos (by omega),bt rfl,bd_pos (by omega)]
       by_cases z:next.getD i 0= -1
       ·rw [bne_neg z,nxt];exact .inl ⟨⟨⟨fun _=>m,fun _=>rfl⟩,fun _=>z⟩,rfl⟩
       ·rw [bne_pos z];exact .inr ⟨fun h=>z (h.2 rfl),rfl⟩
     ·rw [bool_not u]
      by_cases m:(i:Int)∈l
      ·rw [decide_eq_true m,bf (b:=false==true) rfl,bd_pos (by omega),bf rfl,nxt]
       exact .inl ⟨⟨⟨fun h=>(by cases h),fun h=>absurd m h⟩,fun h=>(by cases h)⟩,rfl⟩
      ·rw [decide_eq_false m];exact .inr ⟨fun h=>(by cases h.1.2 m),rfl⟩) with ⟨h,e⟩|⟨h,e⟩
    ·refine .inl ⟨h,Eq.trans e ?_⟩
     try dsimp only
     rw [ao.L3_eq,bd_neg (by omega)]
    ·exact .inr ⟨h,e⟩
   ·obtain rfl:=hc.det g.chain
    exact ⟨g.mark i hi,g.end_ i hi⟩
  ·rw [e,ob,bnf rfl]
   exact .inr ⟨fun ⟨l,g⟩=>hc ⟨l,g.chain,g.nodup⟩,rfl⟩
 ·rw [bd_neg hlow,bd_neg hhigh,bne_pos hsame];exact .inr ⟨fun ⟨l,g⟩=>by have:=g.same;omega,rfl⟩
theorem count_f {x:List t3.den} (hx:x.length≤1000):bh.F x=some ((cnt x:Int),()):=by
 have h2:=loop_go (n:=x.length) (L:=fun i=>bh.L1 x (((x.take i).countP (·.2.2.1):Nat):Int) (i:Int)) (fun i hi=>by
  have hle:=cnt_le x i
  try dsimp only
  rw [bh.L1_eq,bd_pos (by omega),bh.L2_eq,bd_pos (by omega),take_cnt hi]
  by_cases u:(cl x (i:Int)).2.2.1=true
  ·rw [bt u,if_pos u,bh.L3_eq,W_eq (by omega) (by omega),W_eq (by omega) (by omega),cast_add1,cast_add1]
  ·rw [bf (bool_not u),if_neg u,bh.L3_eq,W_eq (x:=(i:Int)+1) (by omega) (by omega),cast_add1];rfl)
 try dsimp only at h2
 rw [List.take_of_length_le (Nat.le_refl _)] at h2
 have h3:bh.L1 x 0 0=bh.L1 x (cnt x:Int) (x.length:Int):=h2
 rw [bh.F_eq,h3,bh.L1_eq,bd_neg (by omega)]
theorem at_f {x:List t3.den} (hx:x.length≤1000) (key:Int):
  (∃i:Nat,i<x.length∧(cl x (i:Int)).2.2.1=true∧(cl x (i:Int)).1=key∧(∀j:Nat,j<i→¬((cl x (j:Int)).2.2.1=true∧(cl x (j:Int)).1=key))∧cc.F x key=some ((i:Int),()))∨
  ((∀j:Nat,j<x.length→¬((cl x (j:Int)).2.2.1=true∧(cl x (j:Int)).1=key))∧cc.F x key=some (-1,())):=by
 rw [cc.F_eq]
 rcases find_loop (n:=x.length) (L:=fun i=>cc.L1 x key (i:Int)) (p:=fun j:Nat=>(cl x (j:Int)).2.2.1=true∧(cl x (j:Int)).1=key) (hit:=fun i=>some ((i:Int),())) (miss:=some (-1,())) (fun i hi=>by
  try dsimp only
  have nxt:cc.L3 x key (i:Int)=cc.L1 x key ((i+1:Nat):Int):=by
   rw [cc.L3_eq,W_eq (by omega) (by omega),cast_add1]
  rw [cc.L1_eq,bd_pos (by omega),cc.L2_eq,bd_pos (by omega)]
  by_cases u:(cl x (i:Int)).2.2.1=true
  ·rw [bt u,bd_pos (by omega)]
   by_cases e:(cl x (i:Int)).1=key
   ·rw [beq_pos e];exact .inl ⟨⟨u,e⟩,rfl⟩
   ·rw [beq_neg e,nxt];exact .inr ⟨fun h=>e h.2,rfl⟩
  ·rw [bf (bool_not u),nxt];exact .inr ⟨fun h=>u h.1,rfl⟩) (by
  try dsimp only
  rw [cc.L1_eq,bd_neg (by omega)]) with ⟨i,hi,h1,h3,h2⟩|⟨h1,h2⟩
 ·exact .inl ⟨i,hi,h1.1,h1.2,h3,h2⟩
 ·exact .inr ⟨h1,h2⟩
theorem at_valid {x:List t3.den} (h:POk x) {i:Int} (h0:0≤i) (h1:i<16) (u:(cl x i).2.2.1=true):cc.F x (cl x i).1=some (i,()):=by
 have hl:=h.len
 rcases at_f (x:=x) (by omega) (cl x i).1 with ⟨j,hj,v,e,_,f⟩|⟨n,_⟩
 ·rw [f,h.uniq (j:Int) i (by omega) (by omega) h0 h1 v u e]
 ·have:=n i.toNat (by omega)
  rw [show ((i.toNat:Nat):Int)=i by omega] at this
  exact absurd ⟨u,rfl⟩ this
def Keys (x:List t3.den):Prop:=∀i:Int,0≤i→i<x.length→0≤Z (cl x i).1∧Z (cl x i).1<4294967296
theorem rhome_f {key:Int} (h0:0≤key) (h1:key<4294967296):em.F key=some (hm key,()):=by
 have e1:IntKind.wrap .u64 key=key:=by rw [IntKind.wrap_u64];omega
 have e2:IntKind.wrap .u64 (key*2654435769)=key*2654435769:=by rw [IntKind.wrap_u64];omega
 have e3:IntKind.wrap .u64 (hm key)=hm key:=by have:=hm_range key;rw [IntKind.wrap_u64];omega
 have e4:IntKind.wrap .i64 (hm key)=hm key:=by have:=hm_range key;exact W_eq (by omega) (by omega)
 rw [em.F_eq,bd_pos (by decide),bd_pos (by decide),e1,e2,Int.tmod_eq_emod_of_nonneg (by omega),Int.tdiv_eq_ediv_of_nonneg (by omega)]
 show some (IntKind.wrap .i64 (IntKind.wrap .u64 (hm key)),())=_
 rw [e3,e4]
def RefOk (x:List t3.den) (i:Int):Prop:=
 ((cl x i).2.2.1=false→cl x i=(0,0,false,()))∧
 ((cl x i).2.2.1=true→0≤Z (cl x i).2.1∧Z (cl x i).2.1<16∧cc.F x (cl x i).1=some (i,())∧
  ∀e:Nat,(e:Int)<(i - hm (cl x i).1) % 16→(cl x ((hm (cl x i).1+e) % 16)).2.2.1=true)
theorem ref_of_valid {x:List t3.den} (h:POk x) (i:Int) (h0:0≤i) (h1:i<16):RefOk x i:=
 ⟨h.zero i h0 h1,fun u=>⟨(h.place i h0 h1 u).1,(h.place i h0 h1 u).2,at_valid h h0 h1 u,h.path i h0 h1 u⟩⟩
theorem valid_of_ref {x:List t3.den} (hx:x.length=16) (hc:cnt x≤12) (h:∀i:Int,0≤i→i<16→RefOk x i):POk x where
 len:=hx
 few:=hc
 zero i h0 h1:=(h i h0 h1).1
 place i h0 h1 u:=⟨((h i h0 h1).2 u).1,((h i h0 h1).2 u).2.1⟩
 uniq i j h0 h1 g0 g1 u v hk:=by
  have a:=((h i h0 h1).2 u).2.2.1
  have b:=((h j g0 g1).2 v).2.2.1
  rw [hk,b] at a
  exact (congrArg Prod.fst (Option.some.inj a)).symm
 path i h0 h1 u e he:=((h i h0 h1).2 u).2.2.2 e he
theorem rpath {x:List t3.den} (hx:x.length=16) {i:Nat} {h:Int} (h1:i<16) (g0:0≤h) (g1:h<16):
  ((∀e:Nat,(e:Int)<((i:Int) - h) % 16→(cl x ((h+e) % 16)).2.2.1=true)∧ab.L7 x (i:Int) h=ab.L2 x ((i+1:Nat):Int))∨
  ((¬∀e:Nat,(e:Int)<((i:Int) - h) % 16→(cl x ((h+e) % 16)).2.2.1=true)∧ab.L7 x (i:Int) h=some (8,())):=by
 rcases loop_all (n:=(((i:Int) - h) % 16).toNat) (L:=fun e=>ab.L7 x (i:Int) ((h+(e:Int)) % 16)) (ok:=fun e=>(cl x ((h+(e:Int)) % 16)).2.2.1=true) (stop:=some (8,())) (fun e he=>by
  try dsimp only
  rw [ab.L7_eq,bne_pos (by omega),ab.L8_eq,bd_pos (by omega)]
  by_cases u:(cl x ((h+(e:Int)) % 16)).2.2.1=true
  ·rw [bnt u,ab.L9_eq,bd_pos (by decide),W_eq (by omega) (by omega),Int.tmod_eq_emod_of_nonneg (by omega),next_pos]
   exact .inl ⟨u,rfl⟩
  ·rw [bnf (bool_not u)];exact .inr ⟨u,rfl⟩) with ⟨a,e⟩|⟨a,e⟩
 ·left
  refine ⟨fun e he=>a e (by omega),?_⟩
  try dsimp only at e
  rw [show (h+((0:Nat):Int)) % 16=h by omega,show (h+(((((i:Int) - h) % 16).toNat:Nat):Int)) % 16=(i:Int) by omega] at e
  rw [e,ab.L7_eq,bne_neg rfl,W_eq (by omega) (by omega),cast_add1]
 ·right
  refine ⟨fun h2=>a fun e he=>h2 e (by omega),?_⟩
  try dsimp only at e
  rw [show (h+((0:Nat):Int)) % 16=h by omega] at e
  exact e
theorem rprobe_says {x:List t3.den} (hk:Keys x) (hl:x.length≤1000):Says (POk x) (ab.F x):=by
 rw [ab.F_eq]
 by_cases hx:(x.length:Int)=16
 ·have hx':x.length=16:=by omega
  rw [bne_neg hx,count_f hl,ob]
  by_cases hc:cnt x≤12
  ·rw [bd_neg (by dsimp only;omega),ab.L1_eq]
   rcases loop_all (n:=16) (L:=fun i=>ab.L2 x (i:Int)) (ok:=fun i=>RefOk x (i:Int)) (stop:=some (8,())) (fun i hi=>by
    try dsimp only
    rw [ab.L2_eq,bd_pos (by omega),ab.L3_eq,bd_pos (by omega)]
    by_cases u:(cl x (i:Int)).2.2.1=true
    ·have nz:¬((cl x (i:Int)).2.2.1=false):=by rw [u];simp
     rw [bnt u,ab.L5_eq,bd_pos (by omega)]
     by_cases p0:Z (cl x (i:Int)).2.1<0
     ·rw [bd_pos (by exact p0)];exact .inr ⟨fun hc=>by have:=(hc.2 u).1;omega,rfl⟩
     by_cases p1:Z (cl x (i:Int)).2.1≥16
     ·rw [bd_neg (by exact p0),bd_pos (by omega),bd_pos (by exact p1)];exact .inr ⟨fun hc=>by have:=(hc.2 u).2.1;omega,rfl⟩
     rw [bd_neg (by exact p0),bd_pos (by omega),bd_neg (by exact p1),bd_pos (by omega)]
     have hr:=hm_range (cl x (i:Int)).1
     have ki:=hk (i:Int) (by omega) (by omega)
     rcases at_f (x:=x) (by omega) (cl x (i:Int)).1 with ⟨j,hj,v,e,_,f⟩|⟨n,f⟩
     ·rw [f,ob]
      by_cases q:(j:Int)=(i:Int)
      ·rw [bne_neg q,ab.L6_eq,bd_pos (by omega),rhome_f ki.1 ki.2,ob]
       rcases rpath hx' hi hr.1 hr.2 with ⟨a,b⟩|⟨a,b⟩
       ·refine .inl ⟨⟨fun uf=>absurd uf nz,fun _=>⟨by omega,by omega,by rw [f,q],a⟩⟩,b⟩
       ·exact .inr ⟨fun h=>a (h.2 u).2.2.2,b⟩
      ·rw [bne_pos q]
       refine .inr ⟨fun h=>q ?_,rfl⟩
       have:=(h.2 u).2.2.1
       rw [f] at this
       exact congrArg Prod.fst (Option.some.inj this)
     ·exact absurd ⟨u,rfl⟩ (n i (by omega))
    ·have uf:=bool_not u
     rw [bnf uf,bd_pos (by omega)]
     by_cases z:cl x (i:Int)=(0,0,false,())
     ·rw [nbeq_neg z,ab.L4_eq,W_eq (by omega) (by omega),cast_add1]
      exact .inl ⟨⟨fun _=>z,fun ut=>absurd ut u⟩,rfl⟩
     ·rw [nbeq_pos z];exact .inr ⟨fun hc=>z (hc.1 uf),rfl⟩) with ⟨a,e⟩|⟨a,e⟩
   ·refine .inl ⟨valid_of_ref hx' hc fun i h0 h1=>?_,Eq.trans e ?_⟩
    ·have:=a i.toNat (by omega)
     rw [show ((i.toNat:Nat):Int)=i by omega] at this
     exact this
    ·try dsimp only
     rw [ab.L2_eq,bd_neg (by decide)]
   ·exact .inr ⟨fun h=>a fun i hi=>ref_of_valid h i (by omega) (by omega),e⟩
  ·rw [bd_pos (by dsimp only;omega)];exact .inr ⟨fun h=>hc h.few,rfl⟩
 ·rw [bne_pos hx];exact .inr ⟨fun h=>hx (by rw [h.len];rfl),rfl⟩
theorem rlimit_says (l:t0.den):Says (LimOk l) (bn.F l):=by
 rw [bn.F_eq]
 exact .guard fun _=> .guard fun _=> .guard fun _=> .guard fun _=> .guard fun _=> .guard fun _=>by rw [bn.L1_eq];exact .done
theorem rbucket_says (b:t1.den):Says (BktOk b) (cm.F b):=by
 rw [cm.F_eq]
 refine (rlimit_says b.1).call (fun hl=>?_) rfl
 rw [bne_neg rfl]
 refine .guard fun a=>?_
 refine Says.congr (P:=¬Z b.2.1>Z b.1.1∧_) (.guard fun c=> .guard fun pz=> .guard fun _=>?_) (and_congr ⟨fun h=>by omega,fun h=>by omega⟩ Iff.rfl)
 have pz:¬Z b.2.2.1<0:=pz
 by_cases z:Z b.2.1=Z b.1.1
 ·rw [beq_pos (by exact z)]
  by_cases w:Z b.2.2.1=0
  ·rw [bne_neg (by exact w),cm.L1_eq];exact .inl ⟨fun _=>by omega,rfl⟩
  ·rw [bne_pos (by exact w)];exact .inr ⟨fun h=>by have:=h (by omega);omega,rfl⟩
 ·rw [beq_neg (by exact z),cm.L1_eq];exact .inl ⟨fun h=>absurd h (by omega),rfl⟩
end Go.Proofs.YtkihjakbbcajbaaGreat.TB
namespace Go.Proofs.YtkihjakbbcajbaaGreat.TB
set_option linter.unusedSimpArgs false
set_option linter.unusedVariables false
open Go Go.Proofs Go.Proofs.YtkihjakbbcajbaaGreat.PM Go.Proofs.YtkihjakbbcajbaaGreat.RP
theorem ext_getD {α:Type} {a b:List α} {d:α} (h:a.length=b.length) (k:∀i:Nat,i<a.length→a.getD i d=b.getD i d):a=b:=by
 refine List.ext_getElem h fun i h1 h2=>?_
 have:=k i h1
 rw [getD_get h1,getD_get h2] at this
 exact this
theorem sameInts_f {a b:List Int} (ha:a.length≤1000):ay.F a b=some (decide (a=b),()):=by
 rw [ay.F_eq]
 by_cases hl:(a.length:Int)=(b.length:Int)
 ·rw [bne_neg hl,ay.L1_eq]
  rcases loop_all (n:=a.length) (L:=fun i=>ay.L2 a b (i:Int)) (ok:=fun i=>a.getD i 0=b.getD i 0) (stop:=some (false,())) (fun i hi=>by
   try dsimp only
   rw [ay.L2_eq,bd_pos (by omega),ay.L3_eq,bd_pos (by omega),bd_pos (by omega)]
   simp only [toNat_cast]
   by_cases e:a.getD i 0=b.getD i 0
   ·rw [bne_neg e,ay.L4_eq,W_eq (by omega) (by omega),cast_add1];exact .inl ⟨e,rfl⟩
   ·rw [bne_pos e];exact .inr ⟨e,rfl⟩) with ⟨h,e⟩|⟨h,e⟩
  ·refine Eq.trans e ?_
   try dsimp only
   rw [ay.L2_eq,bd_neg (by omega),decide_eq_true (ext_getD (by omega) h)]
  ·refine Eq.trans e ?_
   rw [decide_eq_false]
   rintro rfl
   exact h fun _ _=>rfl
 ·rw [bne_pos hl,decide_eq_false]
  rintro rfl
  exact hl rfl
theorem same15_f {p q:List Int} {p' q':List Int} {h t h' t':Int} (hp:p.length≤1000) (hq:q.length≤1000):
  ew.F (p,q,h,t,()) (p',q',h',t',())=some (decide (p=p'∧q=q'∧h=h'∧t=t'),()):=by
 rw [ew.F_eq]
 dsimp only
 rw [sameInts_f hp,ob]
 by_cases e1:p=p'
 ·rw [decide_eq_true e1,bt rfl,sameInts_f hq,ob]
  by_cases e2:q=q'
  ·rw [decide_eq_true e2,bt rfl]
   by_cases e3:h=h'
   ·rw [beq_pos e3]
    by_cases e4:t=t'
    ·rw [decide_eq_true ⟨e1,e2,e3,e4⟩,e4,beq_self_eq_true]
    ·rw [decide_eq_false (fun h=>e4 h.2.2.2),show (t==t')=false by simpa using e4]
   ·rw [beq_neg e3,decide_eq_false (fun h=>e3 h.2.2.1)]
  ·rw [decide_eq_false e2,bf rfl,decide_eq_false (fun h=>e2 h.2.1)]
 ·rw [decide_eq_false e1,bf rfl,decide_eq_false (fun h=>e1 h.1)]
theorem take_snoc {l:List Int} {i:Nat} (h:i<l.length):l.take (i+1)=l.take i++[l.getD i 0]:=by
 rw [getD_get h,List.take_append_getElem h]
theorem Ok.take {n:Nat} {l:List Int} (h:Ok n l) (i:Nat):Ok n (l.take i):=
 ⟨h.1.sublist (List.take_sublist i l),fun x hx=>h.2 x (List.mem_of_mem_take hx)⟩
theorem lst_snoc (c:Int) (A:List Int) (y:Int):lst c (A++[y])=y:=by rw [lst_app];rfl
theorem made_f {n:Nat} {l:List Int} (hn:n≤100) (h:Ok n l):al.F (n:Int) l=some ((PV n l,NX n l,hd (-1) l,lst (-1) l,()),()):=by
 have hl:=h.len
 have h1:=loop_go (n:=n) (L:=fun i=>al.L1 (n:Int) l (i:Int) [] (List.replicate i (-1))) (fun i hi=>by
  try dsimp only
  rw [al.L1_eq,bd_pos (by omega),al.L2_eq,lim_small (by decide) (by simp;omega),lim_small (by decide) (by simp;omega),W_eq (by omega) (by omega),cast_add1,List.replicate_succ'])
 have h1:al.L1 (n:Int) l 0 [] []=al.L1 (n:Int) l (n:Int) [] (List.replicate n (-1)):=h1
 have e0:List.replicate n (-1)=PV n []:=(row_nil n).symm
 have e1:List.replicate n (-1)=NX n []:=(row_nil n).symm
 rw [al.F_eq,h1,al.L1_eq,bd_neg (by omega)]
 have h2:=loop_go (n:=l.length) (L:=fun i=>al.L3 l (i:Int) (hd (-1) (l.take i)) (lst (-1) (l.take i)) [] (PV n (l.take i)) (NX n (l.take i))) (fun i hi=>by
  have ht:=h.take (i+1)
  rw [take_snoc hi] at ht
  have hm:l.getD i 0∈l:=by rw [getD_get hi];exact List.getElem_mem hi
  have hr:=h.2 _ hm
  try dsimp only
  rw [al.L3_eq,bd_pos (by omega),al.L4_eq,take_snoc hi]
  have nxt:∀(a b:Int) (p q:List Int),al.L5 l (i:Int) a b [] p q=al.L3 l ((i+1:Nat):Int) a (l.getD i 0) [] p q:=fun a b p q=>by
   rw [al.L5_eq,bd_pos (by omega),W_eq (by omega) (by omega),cast_add1,toNat_cast]
  by_cases i0:i=0
  ·subst i0
   rw [beq_pos (show ((0:Nat):Int)=0 from rfl),bd_pos (by omega),nxt]
   rw [List.take_zero,List.nil_append,PV_one,NX_one]
   rfl
  ·have hi1:i - 1<l.length:=by omega
   have hm1:l.getD (i - 1) 0∈l:=by rw [getD_get hi1];exact List.getElem_mem hi1
   have hr1:=h.2 _ hm1
   have hne:l.take i≠[]:=by
    intro e
    have h9:=List.length_take (i:=i) (l:=l)
    rw [e,List.length_nil] at h9
    omega
   have hlast:lst (-1) (l.take i)=l.getD (i - 1) 0:=by
    have:=take_snoc hi1
    rw [show i - 1+1=i by omega] at this
    rw [this,lst_snoc]
   rw [beq_neg (by omega),bd_pos (by omega),W_eq (by omega) (by omega),bd_pos (by omega)]
   simp only [toNat_cast,toNat_sub1 (Nat.pos_of_ne_zero i0)]
   rw [PV_len,NX_len,bd_pos (by omega),bd_pos (by omega),bd_pos (by omega),bd_pos (by omega),nxt,PV_snoc ht,NX_snoc ht hne,hlast,lst_snoc,hd_app]
   congr 1
   generalize l.take i=A at hne
   cases A with
   |nil=>exact absurd rfl hne
   |cons a A=>rfl)
 have h2:al.L3 l 0 (-1) (-1) [] (PV n []) (NX n [])=al.L3 l (l.length:Int) (hd (-1) (l.take l.length)) (lst (-1) (l.take l.length)) [] (PV n (l.take l.length)) (NX n (l.take l.length)):=h2
 rw [List.take_of_length_le (Nat.le_refl _)] at h2
 conv=>lhs;rw [e0]
 conv=>lhs;arg 7;rw [←e0,e1]
 rw [h2,al.L3_eq,bd_neg (by omega)]
theorem rlru_says (prev next:List Int) (head tail:Int):Says (OOk prev next head tail) (cp.F (prev,next,head,tail,())):=by
 rw [cp.F_eq]
 dsimp only
 by_cases hlow:(prev.length:Int)<1
 ·rw [bd_pos hlow];exact .inr ⟨fun ⟨l,g⟩=>by have:=g.low;omega,rfl⟩
 by_cases hhigh:(prev.length:Int)>16
 ·rw [bd_neg hlow,bd_pos hhigh];exact .inr ⟨fun ⟨l,g⟩=>by have:=g.high;omega,rfl⟩
 by_cases hsame:(next.length:Int)=(prev.length:Int)
 ·rw [bd_neg hlow,bd_neg hhigh,bne_neg hsame,cp.L1_eq]
  rcases all_f prev next head tail (by omega) with ⟨l,hc,hnd,e⟩|⟨hc,e⟩
  ·have ok:Ok prev.length l:=⟨hnd,fun x hx=>by have:=hc.range x hx;omega⟩
   rw [e,ob,bnt rfl,made_f (by omega) ok,ob,same15_f (by omega) (by omega),ob]
   by_cases q:prev=PV prev.length l∧next=NX prev.length l∧head=hd (-1) l∧tail=lst (-1) l
   ·rw [decide_eq_true q,bnt rfl,cp.L2_eq]
    have g:=OGood.of (n:=prev.length) (by omega) (by omega) ok
    rw [←q.1,←q.2.1,←q.2.2.1,←q.2.2.2] at g
    exact .inl ⟨⟨l,g⟩,rfl⟩
   ·rw [decide_eq_false q,bnf rfl]
    refine .inr ⟨fun ⟨l',g⟩=>q ?_,rfl⟩
    obtain rfl:=hc.det g.both.chain
    exact g.made
  ·rw [e,ob,bnf rfl]
   exact .inr ⟨fun ⟨l,g⟩=>hc ⟨l,g.both.chain,g.nodup⟩,rfl⟩
 ·rw [bd_neg hlow,bd_neg hhigh,bne_pos hsame];exact .inr ⟨fun ⟨l,g⟩=>by have:=g.same;omega,rfl⟩
theorem all_good {prev next:List Int} {head tail:Int} {l:List Int} (g:OGood prev next head tail l):bp.F (prev,next,head,tail,())=some (l,true,()):=by
 rcases all_f prev next head tail (by have:=g.high;have:=g.same;omega) with ⟨l',hc,hnd,e⟩|⟨hc,e⟩
 ·rw [e,hc.det g.both.chain]
 ·exact absurd ⟨l,g.both.chain,g.nodup⟩ hc
noncomputable def cn (x:List t3.den) (p:Int):Nat:=x.countP fun c=>c.2.2.1 && decide (c.2.1=p)
noncomputable def keyed (x:List t3.den) (p key:Int):Bool:=x.all fun c=>!(c.2.2.1 && decide (c.2.1=p))||decide (c.1=key)
theorem cells_f {x:List t3.den} (hx:x.length≤1000) (p key:Int):bl.F x p key=some ((cn x p:Int),keyed x p key,()):=by
 have h2:=loop_go (n:=x.length) (L:=fun i=>bl.L1 x p key (((x.take i).countP (fun c=>c.2.2.1 && decide (c.2.1=p)):Nat):Int) ((x.take i).all fun c=>!(c.2.2.1 && decide (c.2.1=p))||decide (c.1=key)) (i:Int)) (fun i hi=>by
  have hle:(x.take i).countP (fun c=>c.2.2.1 && decide (c.2.1=p))≤x.length:=by
   have:=List.countP_le_length (p:=fun c:t3.den=>c.2.2.1 && decide (c.2.1=p)) (l:=x.take i)
   have:=List.length_take_le' i x
   omega
  try dsimp only
  rw [bl.L1_eq,bd_pos (by omega),bl.L2_eq,bd_pos (by omega)]
  have nxt:∀(n:Int) (b:Bool),bl.L3 x p key n b (i:Int)=bl.L1 x p key n b ((i+1:Nat):Int):=fun n b=>by
   rw [bl.L3_eq,W_eq (by omega) (by omega),cast_add1]
  rw [←List.take_append_getElem hi,List.countP_append,List.all_append,←cl_get hi]
  simp only [List.countP_cons,List.countP_nil,List.all_cons,List.all_nil,Bool.and_true,Nat.zero_add]
  by_cases u:(cl x (i:Int)).2.2.1=true
  ·rw [bt u,bd_pos (by omega),u,Bool.true_and]
   by_cases e:(cl x (i:Int)).2.1=p
   ·rw [beq_pos e,decide_eq_true e,if_pos rfl,Bool.not_true,Bool.false_or,W_eq (by omega) (by omega),cast_add1,bd_pos (by omega),nxt,nxt]
    cases (x.take i).all fun c=>!(c.2.2.1 && decide (c.2.1=p))||decide (c.1=key)
    ·rfl
    ·rfl
   ·rw [beq_neg e,decide_eq_false e,if_neg (by decide),Bool.not_false,Bool.true_or,Bool.and_true,nxt];rfl
  ·rw [bf (bool_not u),bool_not u,Bool.false_and,if_neg (by decide),Bool.not_false,Bool.true_or,Bool.and_true,nxt];rfl)
 try dsimp only at h2
 rw [List.take_of_length_le (Nat.le_refl _)] at h2
 have h3:bl.L1 x p key 0 true 0=bl.L1 x p key (cn x p:Int) (keyed x p key) (x.length:Int):=h2
 rw [bl.F_eq,h3,bl.L1_eq,bd_neg (by omega)]
noncomputable def plc (x:List t3.den):List Int:=(x.filter (·.2.2.1)).map fun c=>c.2.1
theorem plc_len (x:List t3.den):(plc x).length=cnt x:=by
 unfold plc cnt
 rw [List.length_map,List.countP_eq_length_filter]
theorem plc_count (x:List t3.den) (p:Int):(plc x).count p=cn x p:=by
 unfold plc cn
 rw [List.count,List.countP_map,List.countP_filter]
 refine List.countP_congr fun c _=>?_
 simp only [Function.comp,Bool.and_eq_true,decide_eq_true_eq,beq_iff_eq]
 exact And.comm
theorem mem_plc {x:List t3.den} (hx:x.length=16) {p:Int}:p∈plc x↔∃j:Int,0≤j∧j<16∧(cl x j).2.2.1=true∧(cl x j).2.1=p:=by
 unfold plc
 rw [List.mem_map]
 constructor
 ·rintro ⟨c,hc,e⟩
  obtain ⟨hc,u⟩:=List.mem_filter.1 hc
  obtain ⟨i,hi,rfl⟩:=List.mem_iff_getElem.1 hc
  exact ⟨(i:Int),by omega,by omega,by rw [cl_get hi];exact u,by rw [cl_get hi];exact e⟩
 ·rintro ⟨j,h0,h1,u,e⟩
  have hj:j.toNat<x.length:=by omega
  have e2:=cl_get hj
  rw [show ((j.toNat:Nat):Int)=j by omega] at e2
  exact ⟨cl x j,List.mem_filter.2 ⟨by rw [e2];exact List.getElem_mem hj,u⟩,e⟩
def RefRow (keys:List Int) (bks:List t1.den) (used:List Bool) (x:List t3.den) (l:List Int) (i:Nat):Prop:=
 (used.getD i false=true↔(i:Int)∈l)∧(used.getD i false=true↔cn x (i:Int)=1)∧keyed x (i:Int) (keys.getD i 0)=true∧
 (used.getD i false=true→BktOk (bks.getD i b0_))∧(used.getD i false=false→keys.getD i 0=0∧bks.getD i b0_=b0_)
theorem rows_iff {keys:List Int} {bks:List t1.den} {used:List Bool} {x:List t3.den} {l:List Int} (hx:POk x) (hn:l.Nodup) (hr:∀y∈l,0≤y∧y<used.length):
  ((∀i:Nat,i<used.length→RowOk keys bks used x l i)∧used.countP id=cnt x)↔(cnt x=l.length∧∀i:Nat,i<used.length→RefRow keys bks used x l i):=by
 constructor
 ·rintro ⟨h,hc⟩
  have hcl:=count_mem hn hr (fun i hi=>(h i hi).1)
  have hS:=count_of_sub (U:=l) (S:=plc x) hn (fun y hy=>by
   have hy2:=hr y hy
   have ey:((y.toNat:Nat):Int)=y:=by omega
   have hro:=h y.toNat (by omega)
   rw [RowOk,ey] at hro
   obtain ⟨⟨j,h0,h1,u,e,f⟩,_⟩:=hro.2.2 (hro.1.2 hy)
   exact (mem_plc hx.len).2 ⟨j,h0,h1,u,f⟩) (by rw [plc_len];omega)
  refine ⟨by omega,fun i hi=>?_⟩
  obtain ⟨a,b,c⟩:=h i hi
  have hcn:cn x (i:Int)=l.count (i:Int):=by rw [←plc_count];exact hS _
  have hle:∀p,l.count p≤1:=List.nodup_iff_count.1 hn
  refine ⟨a,?_,?_,fun u=>(c u).2,b⟩
  ·rw [a,hcn,←List.count_pos_iff]
   have:=hle (i:Int)
   omega
  ·unfold keyed
   rw [List.all_eq_true]
   intro y hy
   by_cases w:y.2.2.1=true∧y.2.1=(i:Int)
   ·have hp:(i:Int)∈plc x:=List.mem_map.2 ⟨y,List.mem_filter.2 ⟨hy,w.1⟩,w.2⟩
    have hil:(i:Int)∈l:=by
     have:=List.count_pos_iff.2 hp
     rw [hS] at this
     exact List.count_pos_iff.1 this
    obtain ⟨⟨j,h0,h1,u,e,f⟩,_⟩:=c (a.2 hil)
    have hj:j.toNat<x.length:=by rw [hx.len];omega
    have e2:=cl_get hj
    rw [show ((j.toNat:Nat):Int)=j by omega] at e2
    have hndp:(plc x).Nodup:=nodup_of_count fun p=>by rw [hS];exact hle p
    have:=inj_of_nodup_map hndp y (List.mem_filter.2 ⟨hy,w.1⟩) (cl x j) (List.mem_filter.2 ⟨by rw [e2];exact List.getElem_mem hj,u⟩) (w.2.trans f.symm)
    rw [this,decide_eq_true e,Bool.or_true]
   ·have:(y.2.2.1 && decide (y.2.1=(i:Int)))=false:=by
     apply bool_not
     rw [Bool.and_eq_true,decide_eq_true_eq]
     exact w
    rw [this];rfl
 ·rintro ⟨hc,h⟩
  refine ⟨fun i hi=>?_,by rw [hc];exact count_mem hn hr fun i hi=>(h i hi).1⟩
  obtain ⟨a,b,c,d,e⟩:=h i hi
  refine ⟨a,e,fun u=>⟨?_,d u⟩⟩
  have h1:=b.1 u
  rw [←plc_count] at h1
  have hp:(i:Int)∈plc x:=List.count_pos_iff.1 (by omega)
  obtain ⟨j,h0,h1,v,f⟩:=(mem_plc hx.len).1 hp
  refine ⟨j,h0,h1,v,?_,f⟩
  unfold keyed at c
  rw [List.all_eq_true] at c
  have hj:j.toNat<x.length:=by rw [hx.len];omega
  have e2:=cl_get hj
  rw [show ((j.toNat:Nat):Int)=j by omega] at e2
  have:=c (cl x j) (by rw [e2];exact List.getElem_mem hj)
  rw [v,decide_eq_true f] at this
  simpa using this
theorem rtable_l4 {cap:Int} {keys:List Int} {bks:List t1.den} {next:List Int} {used:List Bool} {free:Int} {x:List t3.den} {prev nxt:List Int} {head tail:Int} {l:List Int}
  (hcap:cap=(used.length:Int)) (hk:keys.length=used.length) (hb:bks.length=used.length) (hu:used.length≤8) (hx:x.length≤1000) (hl:l.length≤16):
  Says (∀i:Nat,i<used.length→RefRow keys bks used x l i) (ae.L4 0 cap keys bks next used free x prev nxt head tail l):=by
 rcases loop_all (n:=used.length) (L:=fun i=>ae.L4 (i:Int) cap keys bks next used free x prev nxt head tail l) (ok:=RefRow keys bks used x l) (stop:=some (8,())) (fun i hi=>by
  have nxt_:ae.L8 (i:Int) cap keys bks next used free x prev nxt head tail l=ae.L4 ((i+1:Nat):Int) cap keys bks next used free x prev nxt head tail l:=by
   rw [ae.L8_eq,W_eq (by omega) (by omega),cast_add1]
  try dsimp only
  rw [ae.L4_eq,bd_pos (by omega),ae.L5_eq,bd_pos (by omega),cells_f hx,ob,bd_pos (by omega),in_f (by omega),ob]
  simp only [toNat_cast]
  by_cases a:used.getD i false=true↔(i:Int)∈l
  ·have ea:(used.getD i false==decide ((i:Int)∈l))=true:=by
    rw [beq_iff_eq,Bool.eq_iff_iff,decide_eq_true_eq];exact a
   rw [bnt ea,bd_pos (by omega)]
   by_cases b:used.getD i false=true↔cn x (i:Int)=1
   ·have eb:(used.getD i false==(((cn x (i:Int):Nat):Int)==1))=true:=by
     rw [beq_iff_eq,Bool.eq_iff_iff,beq_iff_eq];rw [b];omega
    rw [bnt eb]
    by_cases c:keyed x (i:Int) (keys.getD i 0)=true
    ·rw [bnt c,ae.L6_eq,bd_pos (by omega)]
     simp only [toNat_cast]
     by_cases u:used.getD i false=true
     ·rw [bt u,bd_pos (by omega)]
      rcases rbucket_says (bks.getD i b0_) with ⟨ok,f⟩|⟨ok,f⟩
      ·rw [f,ob,bne_neg rfl,ae.L7_eq,bd_pos (by omega),toNat_cast,bnt u,nxt_]
       exact .inl ⟨⟨a,b,c,fun _=>ok,fun h=>(by rw [u] at h;cases h)⟩,rfl⟩
      ·rw [f,ob,bne_pos (by decide)];exact .inr ⟨fun h=>ok (h.2.2.2.1 u),rfl⟩
     ·have uf:=bool_not u
      rw [bf uf,ae.L7_eq,bd_pos (by omega)]
      simp only [toNat_cast]
      rw [bnf uf,bd_pos (by omega)]
      by_cases k0:keys.getD i 0=0
      ·rw [bne_neg k0,bd_pos (by omega)]
       by_cases z:bks.getD i b0_=b0_
       ·rw [nbeq_neg z,nxt_]
        exact .inl ⟨⟨a,b,c,fun h=>absurd h u,fun _=>⟨k0,z⟩⟩,rfl⟩
       ·rw [nbeq_pos z];exact .inr ⟨fun h=>z (h.2.2.2.2 uf).2,rfl⟩
      ·rw [bne_pos k0];exact .inr ⟨fun h=>k0 (h.2.2.2.2 uf).1,rfl⟩
    ·rw [bnf (bool_not c)];exact .inr ⟨fun h=>c h.2.2.1,rfl⟩
   ·have eb:(used.getD i false==(((cn x (i:Int):Nat):Int)==1))=false:=by
     apply bool_not
     rw [beq_iff_eq,Bool.eq_iff_iff,beq_iff_eq]
     intro h
     exact b (h.trans (by omega))
    rw [bnf eb];exact .inr ⟨fun h=>b h.2.1,rfl⟩
  ·have ea:(used.getD i false==decide ((i:Int)∈l))=false:=by
    apply bool_not
    rw [beq_iff_eq,Bool.eq_iff_iff,decide_eq_true_eq];exact a
   rw [bnf ea];exact .inr ⟨fun h=>a h.1,rfl⟩) with ⟨h,e⟩|⟨h,e⟩
 ·refine .inl ⟨h,Eq.trans e ?_⟩
  try dsimp only
  rw [ae.L4_eq,bd_neg (by omega)]
 ·exact .inr ⟨h,e⟩
theorem rtable_says (t:t5.den) (hk:Keys t.2.2.2.2.1) (hl:t.2.2.2.2.1.length≤1000):Says (TOk t) (ae.F t):=by
 obtain ⟨cap,keys,bks,⟨next,used,free,⟨⟩⟩,x,⟨prev,nxt,head,tail,⟨⟩⟩,⟨⟩⟩:=t
 rw [ae.F_eq]
 dsimp only at hk hl ⊢
 refine Says.congr (P:=¬(Z cap<1)∧¬(Z cap>8)∧((keys.length:Int)=Z cap)∧((bks.length:Int)=Z cap)∧((next.length:Int)=Z cap)∧((prev.length:Int)=Z cap)∧AOk next used free∧POk x∧OOk prev nxt head tail∧∃l,OGood prev nxt head tail l∧cnt x=l.length∧∀i:Nat,i<used.length→RefRow keys bks used x l i) ?_ ?_
 ·refine .guard fun c0=> .guard fun c1=> .neq fun s1=> .neq fun s2=> .neq fun s3=> .neq fun s4=>?_
  have c0:¬Z cap<1:=c0
  have c1:¬Z cap>8:=c1
  have s1:(keys.length:Int)=Z cap:=s1
  have s2:(bks.length:Int)=Z cap:=s2
  have s3:(next.length:Int)=Z cap:=s3
  have s4:(prev.length:Int)=Z cap:=s4
  rw [ae.L1_eq]
  refine (rarena_says next used free).call (fun ha=>?_) rfl
  rw [bne_neg rfl]
  refine (rprobe_says hk hl).call (fun hp=>?_) rfl
  rw [bne_neg rfl]
  refine (rlru_says prev nxt head tail).call (fun ho=>?_) rfl
  rw [bne_neg rfl,ae.L2_eq]
  obtain ⟨l,g⟩:=ho
  have hs:=g.short
  have hlen:used.length=next.length:=by obtain ⟨_,g⟩:=ha;exact g.same
  rw [all_good g,ob,count_f hl,ob]
  by_cases e:cnt x=l.length
  ·rw [bne_neg (by exact congrArg Nat.cast e),ae.L3_eq]
   refine (rtable_l4 (cap:=cap) (next:=next) (free:=free) (prev:=prev) (nxt:=nxt) (head:=head) (tail:=tail) (show Z cap=_ by omega) (by omega) (by omega) (by omega) hl hs).congr ⟨fun h=>⟨l,g,e,h⟩,fun ⟨l',g',_,h⟩=>?_⟩
   obtain rfl:=g.det g'
   exact h
  ·rw [bne_pos (by dsimp only;omega)]
   refine .inr ⟨fun ⟨l',g',h,_⟩=>?_,rfl⟩
   obtain rfl:=g.det g'
   exact e h
 ·have key:∀l,OGood prev nxt head tail l→AOk next used free→POk x→((prev.length:Int)=Z cap)→((next.length:Int)=Z cap)→(((∀i:Nat,i<used.length→RowOk keys bks used x l i)∧used.countP id=cnt x)↔(cnt x=l.length∧∀i:Nat,i<used.length→RefRow keys bks used x l i)):=fun l g ha hp h1 h2=>
   rows_iff hp g.nodup (fun y hy=>by
    have:=g.ok.2 y hy
    obtain ⟨_,ga⟩:=ha
    have:=ga.same
    omega)
  constructor
  ·rintro ⟨c0,c1,s1,s2,s3,s4,ha,hp,_,l,g,h⟩
   have:=(key l g ha hp s4 s3).2 h
   exact ⟨l,Int.not_lt.1 c0,Int.not_lt.1 c1,s1,s2,s3,s4,ha,hp,g,this.1,this.2⟩
  ·rintro ⟨l,g⟩
   exact ⟨Int.not_lt.2 g.low,Int.not_lt.2 g.high,g.nkeys,g.nbks,g.nnext,g.nprev,g.arena,g.index,⟨l,g.order⟩,l,g.order,(key l g.order g.arena g.index g.nprev g.nnext).1 ⟨g.row,g.count⟩⟩
end Go.Proofs.YtkihjakbbcajbaaGreat.TB
namespace Go.Proofs.YtkihjakbbcajbaaGreat.TB
set_option linter.unusedSimpArgs false
set_option linter.unusedVariables false
open Go Go.Proofs Go.Proofs.YtkihjakbbcajbaaGreat.PM Go.Proofs.YtkihjakbbcajbaaGreat.RP
def newN (n:Nat):List Int:=(List.range n).map (fun i:Nat=>if i+1<n then ((i+1:Nat):Int) else -1)
theorem newN_len (n:Nat):(newN n).length=n:=by simp [newN]
theorem newN_at {n i:Nat} (h:i<n):(newN n).getD i 0=if i+1<n then ((i+1:Nat):Int) else -1:=by
 rw [getD_get (by rw [newN_len];exact h)]
 simp [newN]
def seqI:Nat→Nat→List Int
 |_,0=>[]
 |i,k+1=>(i:Int)::seqI (i+1) k
theorem mem_seqI {x:Int}:∀{k i:Nat},x∈seqI i k↔(i:Int)≤x∧x<(i:Int)+k
 |0,i=>⟨fun h=>(by cases h),fun h=>by omega⟩
 |k+1,i=>by
  show x∈(i:Int)::seqI (i+1) k↔_
  rw [List.mem_cons,mem_seqI]
  omega
theorem seqI_nodup:∀k i:Nat,(seqI i k).Nodup
 |0,_=>List.nodup_nil
 |k+1,i=>List.nodup_cons.2 ⟨fun h=>by have:=mem_seqI.1 h;omega,seqI_nodup k (i+1)⟩
theorem seqI_chain {n:Nat}:∀k i:Nat,i+k=n→Chain (newN n) (if k=0 then -1 else (i:Int)) (seqI i k)
 |0,i,_=>by rw [if_pos rfl];exact .nil
 |k+1,i,h=>by
  rw [if_neg (by omega)]
  refine .cons (by omega) (by rw [newN_len];omega) ?_
  rw [toNat_cast,newN_at (i:=i) (by omega)]
  have:=seqI_chain (n:=n) k (i+1) (by omega)
  by_cases e:k=0
  ·subst e
   rw [if_neg (by omega)]
   rw [if_pos rfl] at this
   exact this
  ·rw [if_pos (by omega)]
   rw [if_neg e] at this
   exact this
theorem getD_rep {α:Type} {n i:Nat} {a d:α} (h:i<n):(List.replicate n a).getD i d=a:=by
 rw [getD_get (by rw [List.length_replicate];exact h),List.getElem_replicate]
theorem new_arena {n:Nat} (h1:1≤n) (h2:n≤16):AGood (newN n) (List.replicate n false) 0 (seqI 0 n) where
 low:=by rw [newN_len];exact h1
 high:=by rw [newN_len];exact h2
 same:=by rw [newN_len,List.length_replicate]
 chain:=by
  have:=seqI_chain (n:=n) n 0 (by omega)
  rw [if_neg (by omega)] at this
  exact this
 nodup:=seqI_nodup n 0
 mark j hj:=by
  rw [List.length_replicate] at hj
  rw [getD_rep hj]
  exact ⟨fun h=>(by cases h),fun h=>absurd (mem_seqI.2 (by omega)) h⟩
 end_ j hj h:=by
  rw [List.length_replicate] at hj
  rw [getD_rep hj] at h;cases h
@[reducible] noncomputable def c0_:t3.den:=(0,0,false,())
theorem cl_new (i:Int):cl (List.replicate 16 c0_) i=c0_:=by
 unfold cl
 by_cases h:i.toNat<16
 ·exact getD_rep h
 ·rw [List.getD_eq_getElem?_getD,List.getElem?_eq_none (by rw [List.length_replicate];omega)];rfl
theorem cnt_new:cnt (List.replicate 16 c0_)=0:=by
 unfold cnt
 rw [List.countP_replicate,if_neg (by decide)]
theorem new_index:POk (List.replicate 16 c0_) where
 len:=List.length_replicate
 few:=by rw [cnt_new];decide
 zero i _ _ _:=cl_new i
 place i _ _ h:=by rw [cl_new] at h;cases h
 uniq i j _ _ _ _ h _:=by rw [cl_new] at h;cases h
 path i _ _ h:=by rw [cl_new] at h;cases h
theorem new_order {n:Nat} (h1:1≤n) (h2:n≤16):OGood (PV n []) (NX n []) (-1) (-1) []:=OGood.of h1 h2 (Ok.nil n)
noncomputable def NT (n:Nat):t5.den:=((n:Int),List.replicate n (0:Int),List.replicate n b0_,(newN n,List.replicate n false,0,()),List.replicate 16 c0_,(PV n [],NX n [], -1, -1,()),())
theorem new_table {n:Nat} (h1:1≤n) (h2:n≤8):TGood (n:Int) (List.replicate n 0) (List.replicate n b0_) (newN n) (List.replicate n false) 0 (List.replicate 16 c0_) (PV n []) (NX n []) (-1) (-1) [] where
 low:=by omega
 high:=by omega
 nkeys:=by rw [List.length_replicate]
 nbks:=by rw [List.length_replicate]
 nnext:=by rw [newN_len]
 nprev:=by rw [PV_len]
 arena:=⟨_,new_arena h1 (by omega)⟩
 index:=new_index
 order:=new_order h1 (by omega)
 row i hi:=by
  rw [List.length_replicate] at hi
  refine ⟨?_,fun _=>⟨getD_rep hi,getD_rep hi⟩,fun h=>?_⟩
  ·rw [getD_rep hi];exact ⟨fun h=>(by cases h),fun h=>(by cases h)⟩
  ·rw [getD_rep hi] at h;cases h
 count:=by rw [cnt_new,List.countP_replicate,if_neg (by decide)]
end Go.Proofs.YtkihjakbbcajbaaGreat.TB
namespace Go.Proofs.YtkihjakbbcajbaaGreat.TB
set_option linter.unusedSimpArgs false
set_option linter.unusedVariables false
open Go Go.Proofs Go.Proofs.YtkihjakbbcajbaaGreat.PM Go.Proofs.YtkihjakbbcajbaaGreat.RP
theorem rdc_set {l:List t3.den} {i j:Int} {v:t3.den} (h0:0≤i) (h1:i<l.length) (h2:0≤j):cl (l.set i.toNat v) j=if i=j then v else cl l j:=by
 unfold cl
 simp only [List.getD_eq_getElem?_getD,List.getElem?_set]
 by_cases e:i=j
 ·subst e;rw [if_pos rfl,if_pos rfl,if_pos (by omega)];rfl
 ·rw [if_neg (by omega),if_neg e]
theorem cnt_set {x:List t3.den} {i:Int} {v:t3.den} (h0:0≤i) (h1:i<x.length):cnt (x.set i.toNat v)+(if (cl x i).2.2.1=true then 1 else 0)=cnt x+(if v.2.2.1=true then 1 else 0):=by
 have hi:i.toNat<x.length:=by omega
 have g:cl x i=x[i.toNat]:=by
  have:=cl_get hi
  rwa [Int.toNat_of_nonneg h0] at this
 unfold cnt
 rw [List.countP_set hi,g]
 by_cases u:x[i.toNat].2.2.1=true
 ·have:0<x.countP (·.2.2.1):=List.countP_pos_iff.2 ⟨x[i.toNat],List.getElem_mem _,u⟩
  rw [if_pos u];omega
 ·rw [if_neg u];omega
noncomputable def fill:Nat→Int→List t3.den→Int→List t3.den
 |0,i,p,_=>p.set i.toNat c0_
 |n+1,i,p,j=>if (hm (cl p j).1 - i - 1) % 16≥(j - i) % 16 then fill n j (p.set i.toNat (cl p j)) ((j+1) % 16) else fill n i p ((j+1) % 16)
structure Run (p:List t3.den) (i j:Int) (n:Nat):Prop where
 len:p.length=16
 i0:0≤i
 i1:i<16
 j0:0≤j
 j1:j<16
 ahead:1≤(j - i) % 16
 fits:(j - i) % 16+n<16
 used:∀e:Nat,e<n→(cl p ((j+e) % 16)).2.2.1=true
 last:(cl p ((j+n) % 16)).2.2.1=false
theorem Run.move {p:List t3.den} {i j:Int} {n:Nat} (h:Run p i j (n+1)):Run (p.set i.toNat (cl p j)) j ((j+1) % 16) n:=by
 obtain ⟨a,b,c,d,e,f,g,u,l⟩:=h
 refine ⟨by simpa using a,d,e,by omega,by omega,by omega,by omega,?_,?_⟩
 ·intro m hm
  have:=u (m+1) (by omega)
  rw [show (((j+1) % 16+(m:Int)) % 16)=(j+((m+1:Nat):Int)) % 16 by omega,rdc_set b (by omega) (by omega),if_neg (by omega)];exact this
 ·rw [show (((j+1) % 16+(n:Int)) % 16)=(j+((n+1:Nat):Int)) % 16 by omega,rdc_set b (by omega) (by omega),if_neg (by omega)];exact l
def Has (x:List t3.den) (key place:Int):Prop:=∃m:Int,0≤m∧m<16∧(cl x m).2.2.1=true∧(cl x m).1=key∧(cl x m).2.1=place
theorem has_one {x:List t3.den} (h:POk x) {key p q:Int} (hp:Has x key p) (hq:Has x key q):p=q:=by
 obtain ⟨m,a,b,u,e,f⟩:=hp
 obtain ⟨m',a',b',u',e',f'⟩:=hq
 have:=h.uniq m m' a b a' b' u u' (by rw [e,e'])
 subst this;rw [←f,←f']
structure Inv (p:List t3.den) (i j:Int) (n:Nat):Prop where
 run:Run p i j n
 iu:(cl p i).2.2.1=true
 few:cnt p≤12
 zero:∀m:Int,0≤m→m<16→(cl p m).2.2.1=false→cl p m=(0,0,false,())
 place:∀m:Int,0≤m→m<16→m≠i→(cl p m).2.2.1=true→0≤Z (cl p m).2.1∧Z (cl p m).2.1<16
 uniq:∀m m':Int,0≤m→m<16→m≠i→0≤m'→m'<16→m'≠i→(cl p m).2.2.1=true→(cl p m').2.2.1=true→(cl p m).1=(cl p m').1→m=m'
 path:∀m:Int,0≤m→m<16→m≠i→(cl p m).2.2.1=true→∀e:Nat,(e:Int)<(m - hm (cl p m).1) % 16→(cl p ((hm (cl p m).1+e) % 16)).2.2.1=true
 later:∀m:Int,0≤m→m<16→m≠i→(cl p m).2.2.1=true→(i - hm (cl p m).1) % 16<(m - hm (cl p m).1) % 16→(j - i) % 16≤(m - i) % 16
theorem find_has {x:List t3.den} (h:POk x) {key place:Int} (hh:Has x key place):dx.F x key=some (place,0,()):=by
 rcases probe_Find_ok h key with ⟨i,i0,i1,u,e,f⟩|⟨n,_⟩
 ·rw [f,has_one h (p:=(cl x i).2.1) ⟨i,i0,i1,u,e,rfl⟩ hh]
 ·obtain ⟨m,m0,m1,mu,mk,_⟩:=hh
  exact absurd ⟨mu,mk⟩ (n m m0 m1)
theorem find_none {x:List t3.den} (h:POk x) {key:Int} (hh:∀p,¬Has x key p):dx.F x key=some (0,6,()):=by
 rcases probe_Find_ok h key with ⟨i,i0,i1,u,e,f⟩|⟨n,f⟩
 ·exact absurd ⟨i,i0,i1,u,e,rfl⟩ (hh _)
 ·exact f
theorem put_l4 {x:List t3.den} (hx:x.length=16) {key place pos:Int} (p0:0≤pos) (p1:pos<16) (hc:cnt x<12):cb.L3 x key place pos=some (x.set pos.toNat (key,place,true,()),0,()):=by
 have h2:=loop_go (n:=x.length) (L:=fun i=>cb.L4 x key place pos (((x.take i).countP (·.2.2.1):Nat):Int) (x.length:Int) (i:Int)) (fun i hi=>by
  have hle:=cnt_le x i
  try dsimp only
  rw [cb.L4_eq,bd_pos (by omega),cb.L5_eq,bd_pos (by omega),take_cnt hi]
  by_cases u:(cl x (i:Int)).2.2.1=true
  ·rw [bt u,if_pos u,cb.L7_eq,W_eq (by omega) (by omega),W_eq (by omega) (by omega),cast_add1,cast_add1]
  ·rw [bf (bool_not u),if_neg u,cb.L7_eq,W_eq (x:=(i:Int)+1) (by omega) (by omega),cast_add1];rfl)
 try dsimp only at h2
 rw [List.take_of_length_le (Nat.le_refl _)] at h2
 have h3:cb.L4 x key place pos 0 (x.length:Int) 0=cb.L4 x key place pos (cnt x:Int) (x.length:Int) (x.length:Int):=h2
 rw [cb.L3_eq,h3,cb.L4_eq,bd_neg (by omega),bd_neg (by omega),cb.L6_eq,lim_small (by decide) (by omega),bd_pos (by omega)]
theorem probe_Put_ok {x:List t3.den} (h:POk x) {key place:Int} (hn:∀p,¬Has x key p) (p0:0≤place) (p1:place<16) (hc:cnt x<12):
  ∃y,cb.F x key place=some (y,0,())∧POk y∧(∀k p,Has y k p↔Has x k p∨(k=key∧p=place))∧cnt y=cnt x+1:=by
 have hl:=h.len
 have hr:=hm_range key
 obtain ⟨d,hd,ho,hq,hlk,hw⟩:=found h key
 rcases hw with ⟨u,e⟩|⟨u,hno⟩
 ·exact absurd ⟨(hm key+d) % 16,by omega,by omega,u,e,rfl⟩ (hn (cl x ((hm key+d) % 16)).2.1)
 have ev:cb.F x key place=some (x.set ((hm key+d) % 16).toNat (key,place,true,()),0,()):=by
  rw [cb.F_eq,(probe_says x).yes h,ob,bne_neg rfl,cb.L1_eq,bd_neg (by omega),bd_neg (by omega),cb.L2_eq,hlk,ob,bd_pos (by dsimp only;omega),bf u]
  exact put_l4 hl (by omega) (by omega) hc
 generalize hpos:(hm key+(d:Int)) % 16=pos at ev u
 have q0:0≤pos:=by omega
 have q1:pos<16:=by omega
 have rs:∀m:Int,0≤m→cl (x.set pos.toNat (key,place,true,())) m=if pos=m then (key,place,true,()) else cl x m:=fun m m0=>rdc_set q0 (by omega) m0
 have cs:=cnt_set (x:=x) (v:=(key,place,true,())) q0 (by omega)
 rw [if_neg (by rw [u];simp),if_pos rfl] at cs
 have up:∀m:Int,0≤m→(cl x m).2.2.1=true→(cl (x.set pos.toNat (key,place,true,())) m).2.2.1=true:=by
  intro m m0 hu
  rw [rs m m0]
  by_cases q:pos=m
  ·rw [if_pos q]
  ·rw [if_neg q];exact hu
 refine ⟨_,ev,⟨by simpa using hl,by omega,?_,?_,?_,?_⟩,?_,by omega⟩
 ·intro m m0 m1 hu
  rw [rs m m0] at hu ⊢
  by_cases q:pos=m
  ·rw [if_pos q] at hu;exact absurd hu (by simp)
  ·rw [if_neg q] at hu ⊢;exact h.zero m m0 m1 hu
 ·intro m m0 m1 hu
  rw [rs m m0] at hu ⊢
  by_cases q:pos=m
  ·rw [if_pos q];exact ⟨p0,p1⟩
  ·rw [if_neg q] at hu ⊢;exact h.place m m0 m1 hu
 ·intro m m' m0 m1 m0' m1' hu hu' hk
  rw [rs m m0] at hu hk
  rw [rs m' m0'] at hu' hk
  by_cases q:pos=m
  ·by_cases q':pos=m'
   ·omega
   ·rw [if_pos q,if_neg q'] at hk
    rw [if_neg q'] at hu'
    exact absurd ⟨hu',hk.symm⟩ (hno m' m0' m1')
  ·by_cases q':pos=m'
   ·rw [if_neg q,if_pos q'] at hk
    rw [if_neg q] at hu
    exact absurd ⟨hu,hk⟩ (hno m m0 m1)
   ·rw [if_neg q] at hu hk;rw [if_neg q'] at hu' hk
    exact h.uniq m m' m0 m1 m0' m1' hu hu' hk
 ·intro m m0 m1 hu s hs
  rw [rs m m0] at hu hs ⊢
  by_cases q:pos=m
  ·rw [if_pos q] at hs ⊢
   refine up _ (by omega) (ho s ?_).1
   have:(s:Int)<(m - hm key) % 16:=hs
   omega
  ·rw [if_neg q] at hu hs ⊢
   have hr2:=hm_range (cl x m).1
   exact up _ (by omega) (h.path m m0 m1 hu s hs)
 ·intro k p
  constructor
  ·rintro ⟨m,m0,m1,hu,hk,hp⟩
   rw [rs m m0] at hu hk hp
   by_cases q:pos=m
   ·rw [if_pos q] at hk hp;exact Or.inr ⟨hk.symm,hp.symm⟩
   ·rw [if_neg q] at hu hk hp;exact Or.inl ⟨m,m0,m1,hu,hk,hp⟩
  ·rintro (⟨m,m0,m1,hu,hk,hp⟩|⟨hk,hp⟩)
   ·refine ⟨m,m0,m1,?_⟩
    rw [rs m m0,if_neg (fun z=>by rw [←z,u] at hu;exact absurd hu (by simp))]
    exact ⟨hu,hk,hp⟩
   ·refine ⟨pos,q0,q1,?_⟩
    rw [rs pos q0,if_pos rfl]
    exact ⟨rfl,hk.symm,hp.symm⟩
theorem keys_of {x:List t3.den} (h:POk x) (hk:∀k p,Has x k p→0≤k∧k<4294967296):∀i:Int,0≤i→i<x.length→0≤Z (cl x i).1∧Z (cl x i).1<4294967296:=by
 intro i i0 i1
 have hl:=h.len
 by_cases u:(cl x i).2.2.1=true
 ·exact hk _ _ ⟨i,i0,by omega,u,rfl,rfl⟩
 ·rw [h.zero i i0 (by omega) (bool_not u)];decide
end Go.Proofs.YtkihjakbbcajbaaGreat.TB
namespace Go.Proofs.YtkihjakbbcajbaaGreat.TB
set_option linter.unusedSimpArgs false
set_option linter.unusedVariables false
open Go Go.Proofs Go.Proofs.YtkihjakbbcajbaaGreat.PM Go.Proofs.YtkihjakbbcajbaaGreat.RP
theorem set_nat {α:Type} {l:List α} {i:Int} {j:Nat} {v d:α} (h0:0≤i) (h1:i<l.length):(l.set i.toNat v).getD j d=if i=(j:Int) then v else l.getD j d:=by
 have:=set_at (l:=l) (v:=v) (d:=d) h0 h1 (j:=(j:Int)) (by omega)
 rw [toNat_cast] at this
 exact this
theorem chain_set {next:List Int} {k i v:Int} {l:List Int} (h:Chain next k l) (h0:0≤i) (h1:i<next.length) (n:¬i∈l):Chain (next.set i.toNat v) k l:=by
 induction h with
 |nil=>exact .nil
 |@cons k l a b c ih=>
  have hne:i≠k:=fun e=>n (by rw [e];exact List.mem_cons_self)
  refine .cons a (by rw [List.length_set];exact b) ?_
  rw [set_at h0 h1 a,if_neg hne]
  exact ih fun m=>n (List.mem_cons_of_mem _ m)
theorem arena_twin_f {next:List Int} {used:List Bool} {free:Int} (h1:next.length≤1000) (h2:used.length≤1000):fu.F (next,used,free,())=some ((next,used,free,()),()):=by
 rw [fu.F_eq]
 dsimp only
 rw [lim_small (by decide) (by omega),lim_small (by decide) (by omega)]
theorem arena_Take_ok {next:List Int} {used:List Bool} {free i:Int} {l:List Int} (g:AGood next used free (i::l)):
  dp.F (next,used,free,())=some ((next.set i.toNat (-1),used.set i.toNat true,next.getD i.toNat 0,()),i,0,())∧AGood (next.set i.toNat (-1)) (used.set i.toNat true) (next.getD i.toNat 0) l∧0≤i∧i<used.length∧used.getD i.toNat false=false:=by
 obtain rfl:free=i:=by cases g.chain with
  |cons _ _ _=>rfl
 have h1:=g.low
 have h2:=g.high
 have h3:=g.same
 have hn:=List.nodup_cons.1 g.nodup
 have hc:=g.chain
 have hm:=g.mark
 have he:=g.end_
 cases hc with
 |cons a b c=>
  have hu:used.getD free.toNat false=false:=by
   apply bool_not
   intro h
   have:=(hm free.toNat (by omega)).1 h
   rw [show ((free.toNat:Nat):Int)=free by omega] at this
   exact this List.mem_cons_self
  refine ⟨?_,⟨by rw [List.length_set];exact h1,by rw [List.length_set];exact h2,by rw [List.length_set,List.length_set];exact h3,chain_set c a b hn.1,hn.2,?_,?_⟩,a,by omega,hu⟩
  ·rw [dp.F_eq,(arena_says next used free).yes ⟨_,g⟩,ob,bne_neg rfl,dp.L1_eq]
   dsimp only
   rw [beq_neg (by omega),dp.L2_eq,arena_twin_f (by omega) (by omega),ob,bd_pos (by omega),bd_pos (by dsimp only;omega),bd_pos (by dsimp only;omega)]
  ·intro j hj
   rw [List.length_set] at hj
   rw [set_nat a (by omega)]
   by_cases e:free=(j:Int)
   ·rw [if_pos e,←e];exact ⟨fun _=>hn.1,fun _=>rfl⟩
   ·rw [if_neg e,hm j hj,List.mem_cons]
    exact ⟨fun h h2=>h (.inr h2),fun h h2=>h2.elim (fun q=>e q.symm) h⟩
  ·intro j hj h
   rw [List.length_set] at hj
   rw [set_nat a b]
   by_cases e:free=(j:Int)
   ·rw [if_pos e]
   ·rw [if_neg e]
    rw [set_nat a (by omega),if_neg e] at h
    exact he j hj h
theorem lru_check_f {prev next:List Int} {head tail p:Int} {l:List Int} (g:OGood prev next head tail l) (h0:0≤p) (h1:p<prev.length):er.F (prev,next,head,tail,()) p=some (0,()):=by
 rw [er.F_eq,(lru_says prev next head tail).yes ⟨l,g⟩,ob,bne_neg rfl,er.L1_eq,bd_neg (by omega),bd_neg (by dsimp only;omega),er.L2_eq]
theorem lru_twin_f {prev next:List Int} {head tail:Int} (h1:prev.length≤1000) (h2:next.length≤1000):gd.F (prev,next,head,tail,())=some ((prev,next,head,tail,()),()):=by
 rw [gd.F_eq]
 dsimp only
 rw [lim_small (by decide) (by omega),lim_small (by decide) (by omega)]
theorem rd_PV2 {n:Nat} {L:List Int} {i:Int} (h0:0≤i) (h1:i<n):(PV n L).getD i.toNat 0=pv (-1) L i:=rd_PV h0 h1
theorem rd_NX2 {n:Nat} {L:List Int} {i:Int} (h0:0≤i) (h1:i<n):(NX n L).getD i.toNat 0=nx (-1) L i:=rd_NX h0 h1
theorem lru_in_f {n:Nat} {l:List Int} (h:Ok n l) {p:Int} (h0:0≤p) (h1:p<n):gh.F (PV n l,NX n l,hd (-1) l,lst (-1) l,()) p=some (decide (p∈l),()):=by
 rw [gh.F_eq]
 dsimp only
 by_cases e:hd (-1) l=p
 ·have m:p∈l:=by
   rw [←e]
   refine hd_mem (fun hl=>?_) _
   rw [hl] at e
   have:(-1:Int)=p:=e
   omega
  rw [beq_pos e,decide_eq_true m]
 ·rw [beq_neg e,PV_len,bd_pos (by omega),rd_PV2 h0 h1]
  by_cases m:p∈l
  ·obtain ⟨A,B,rfl⟩:=List.append_of_mem m
   obtain ⟨hA,hB,hx⟩:=h.app
   have hpA:p∉A:=fun q=>hx p q List.mem_cons_self
   have hne:A≠[]:=by
    rintro rfl
    exact e rfl
   have hl:=hA.2 _ (lst_mem hne (-1))
   have q:(lst (-1) A !=(-1:Int))=true:=bne_iff_ne.2 (by omega)
   rw [pv_app,if_neg hpA,pv,if_pos rfl,decide_eq_true m,q]
  ·rw [pv_out m,decide_eq_false m];rfl
theorem hd_del {A B:List Int} {p:Int} (h:A≠[]):hd (-1) (A++p::B)=hd (-1) (A++B):=by
 cases A with
 |nil=>exact absurd rfl h
 |cons a A=>rfl
theorem lst_del {A B:List Int} {p:Int} (h:B≠[]):lst (-1) (A++p::B)=lst (-1) (A++B):=by
 rw [lst_app,lst_app]
 cases B with
 |nil=>exact absurd rfl h
 |cons b B=>rfl
theorem lru_out_f {n:Nat} {A B:List Int} {p:Int} (h:Ok n (A++p::B)):ez.F (PV n (A++p::B),NX n (A++p::B),hd (-1) (A++p::B),lst (-1) (A++p::B),()) p=some ((PV n (A++B),NX n (A++B),hd (-1) (A++B),lst (-1) (A++B),()),()):=by
 obtain ⟨hA,hpB,hx⟩:=h.app
 have hp:=hpB.2 p List.mem_cons_self
 have hB:Ok n B:=⟨(List.nodup_cons.1 hpB.1).2,fun x hx=>hpB.2 x (List.mem_cons_of_mem _ hx)⟩
 have hpA:p∉A:=fun q=>hx p q List.mem_cons_self
 have e1:pv (-1) (A++p::B) p=lst (-1) A:=by rw [pv_app,if_neg hpA,pv,if_pos rfl]
 have e2:nx (-1) (A++p::B) p=hd (-1) B:=by rw [nx_app,if_neg hpA,nx,if_pos rfl]
 have po:=PV_out h
 have no:=NX_out h
 unfold putIf at po no
 rw [ez.F_eq]
 dsimp only
 rw [PV_len,NX_len,bd_pos (by omega),bd_pos (by omega),rd_PV2 hp.1 hp.2,rd_NX2 hp.1 hp.2,e1,e2]
 have fin:∀(hh tt:Int) (P N:List Int),P.length=n→N.length=n→ez.L2 p hh tt P N=some ((P.set p.toNat (-1),N.set p.toNat (-1),hh,tt,()),()):=fun hh tt P N hP hN=>by
  rw [ez.L2_eq,bd_pos (by omega),bd_pos (by omega)]
 by_cases a:lst (-1) A= -1
 ·have eA:A=[]:=(hA.lst_ne).1 a
  rw [if_pos a] at no
  rw [beq_pos a,ez.L1_eq]
  by_cases b:hd (-1) B= -1
  ·have eB:B=[]:=(hB.hd_ne).1 b
   rw [if_pos b] at po
   rw [beq_pos b,fin _ _ _ _ (PV_len _ _) (NX_len _ _),po,no,a,b,eA,eB]
   rfl
  ·have hne:B≠[]:=fun q=>b ((hB.hd_ne).2 q)
   have hh:=hB.2 _ (hd_mem hne (-1))
   rw [if_neg b] at po
   rw [beq_neg b,PV_len,bd_pos (by omega),fin _ _ _ _ (by rw [List.length_set,PV_len]) (NX_len _ _),po,no,lst_del hne,eA]
   rfl
 ·have hne:A≠[]:=fun q=>a ((hA.lst_ne).2 q)
  have hl:=hA.2 _ (lst_mem hne (-1))
  rw [if_neg a] at no
  rw [beq_neg a,bd_pos (by omega),ez.L1_eq]
  by_cases b:hd (-1) B= -1
  ·have eB:B=[]:=(hB.hd_ne).1 b
   rw [if_pos b] at po
   rw [beq_pos b,fin _ _ _ _ (PV_len _ _) (by rw [List.length_set,NX_len]),po,no,hd_del hne,eB,List.append_nil]
  ·have hneB:B≠[]:=fun q=>b ((hB.hd_ne).2 q)
   have hh:=hB.2 _ (hd_mem hneB (-1))
   rw [if_neg b] at po
   rw [beq_neg b,PV_len,bd_pos (by omega),fin _ _ _ _ (by rw [List.length_set,PV_len]) (by rw [List.length_set,NX_len]),po,no,hd_del hne,lst_del hneB]
theorem erase_mid {A B:List Int} {p:Int} (h:p∉A):(A++p::B).erase p=A++B:=by
 rw [List.erase_append_right _ h,List.erase_cons_head]
theorem lru_Touch_ok {prev next:List Int} {head tail p:Int} {l:List Int} (g:OGood prev next head tail l) (h0:0≤p) (hp1:p<prev.length):
  ∃prev' next':List Int,∃head' tail':Int,dg.F (prev,next,head,tail,()) p=some ((prev',next',head',tail',()),0,())∧OGood prev' next' head' tail' (p::l.erase p)∧prev'.length=prev.length:=by
 have ok:=g.ok
 have h1:=g.low
 have h2:=g.high
 have ck:=lru_check_f g h0 hp1
 obtain ⟨m1,m2,m3,m4⟩:=g.made
 generalize hn:prev.length=n at ok h1 h2 hp1 m1 m2
 rw [m1,m2,m3,m4] at ck ⊢
 have okL:Ok n (l.erase p):=⟨ok.1.erase p,fun x hx=>ok.2 x (List.mem_of_mem_erase hx)⟩
 have np:p∉l.erase p:=fun q=>((ok.1.mem_erase_iff).1 q).1 rfl
 have okp:Ok n (p::l.erase p):=⟨List.nodup_cons.2 ⟨np,okL.1⟩,fun x hx=>by
  rcases List.mem_cons.1 hx with rfl|q
  ·exact ⟨h0,hp1⟩
  ·exact okL.2 x q⟩
 refine ⟨_,_,_,_,?_,OGood.of h1 h2 okp,PV_len _ _⟩
 have l2:dg.L2 p (hd (-1) (l.erase p)) (lst (-1) (l.erase p)) [] (PV n (l.erase p)) (NX n (l.erase p))=some ((PV n (p::l.erase p),NX n (p::l.erase p),hd (-1) (p::l.erase p),lst (-1) (p::l.erase p),()),0,()):=by
  generalize l.erase p=L at okL okp np
  rw [dg.L2_eq,NX_len,bd_pos (by omega),PV_cons okp,NX_cons okp]
  unfold putIf
  by_cases e:hd (-1) L= -1
  ·have eL:L=[]:=(okL.hd_ne).1 e
   rw [beq_pos e,dg.L3_eq,if_pos e,eL]
   rfl
  ·have hne:L≠[]:=fun q=>e ((okL.hd_ne).2 q)
   have hh:=okL.2 _ (hd_mem hne (-1))
   rw [beq_neg e,PV_len,bd_pos (by omega),dg.L3_eq,if_neg e]
   show some ((_,_,p,lst (-1) L,()),0,())=some ((_,_,p,lst p L,()),0,())
   rw [lst_any hne (-1) p]
 rw [dg.F_eq,ck,ob,bne_neg rfl,dg.L1_eq]
 dsimp only
 rw [lru_twin_f (by rw [PV_len];omega) (by rw [NX_len];omega),ob,lru_in_f ok h0 hp1,ob]
 by_cases m:p∈l
 ·rw [decide_eq_true m,bt rfl]
  obtain ⟨A,B,rfl⟩:=List.append_of_mem m
  have hpA:p∉A:=fun q=>(ok.app).2.2 p q List.mem_cons_self
  rw [erase_mid hpA] at l2 ⊢
  rw [lru_out_f ok,ob,l2]
 ·rw [decide_eq_false m,bf rfl]
  rw [List.erase_of_not_mem m] at l2 ⊢
  exact l2
end Go.Proofs.YtkihjakbbcajbaaGreat.TB
namespace Go.Proofs.YtkihjakbbcajbaaGreat.TB
set_option linter.unusedSimpArgs false
set_option linter.unusedVariables false
open Go Go.Proofs Go.Proofs.YtkihjakbbcajbaaGreat.PM Go.Proofs.YtkihjakbbcajbaaGreat.RP
section
variable {cap:Int} {keys:List Int} {bks:List t1.den} {next:List Int} {used:List Bool} {free:Int} {x:List t3.den} {prev nxt:List Int} {head tail:Int} {l:List Int}
theorem TGood.lens (g:TGood cap keys bks next used free x prev nxt head tail l):keys.length=used.length∧bks.length=used.length∧next.length=used.length∧prev.length=used.length∧cap=(used.length:Int)∧used.length≤8∧1≤used.length:=by
 have a1:=g.nkeys
 have a2:=g.nbks
 have a3:=g.nnext
 have a4:=g.nprev
 have a5:=g.low
 have a6:=g.high
 obtain ⟨_,ga⟩:=g.arena
 have a7:=ga.same
 refine ⟨by omega,by omega,by omega,by omega,by omega,by omega,by omega⟩
theorem TGood.mem_range (g:TGood cap keys bks next used free x prev nxt head tail l) {p:Int} (m:p∈l):0≤p∧p<used.length:=by
 have h:=g.order.ok.2 p m
 have:=g.lens
 omega
theorem TGood.mem_used (g:TGood cap keys bks next used free x prev nxt head tail l) {p:Int} (h0:0≤p) (h1:p<used.length):used.getD p.toNat false=true↔p∈l:=by
 have:=(g.row p.toNat (by omega)).1
 rw [show ((p.toNat:Nat):Int)=p by omega] at this
 exact this
theorem TGood.has_of (g:TGood cap keys bks next used free x prev nxt head tail l) {p:Int} (m:p∈l):Has x (keys.getD p.toNat 0) p:=by
 have hr:=g.mem_range m
 have u:=(g.mem_used hr.1 hr.2).2 m
 have:=((g.row p.toNat (by omega)).2.2 u).1
 rw [show ((p.toNat:Nat):Int)=p by omega] at this
 exact this
theorem TGood.plc (g:TGood cap keys bks next used free x prev nxt head tail l):∀p,(plc x).count p=l.count p:=by
 have hcl:=count_mem g.order.nodup (fun y hy=>g.mem_range hy) (fun i hi=>(g.row i hi).1)
 have hc:=g.count
 exact count_of_sub g.order.nodup (fun y hy=>(mem_plc g.index.len).2 (by
  obtain ⟨j,a,b,c,_,e⟩:=g.has_of hy
  exact ⟨j,a,b,c,e⟩)) (by rw [plc_len];omega)
theorem TGood.len (g:TGood cap keys bks next used free x prev nxt head tail l):cnt x=l.length:=by
 have hcl:=count_mem g.order.nodup (fun y hy=>g.mem_range hy) (fun i hi=>(g.row i hi).1)
 have hc:=g.count
 omega
theorem TGood.has_mem (g:TGood cap keys bks next used free x prev nxt head tail l) {k p:Int} (h:Has x k p):p∈l:=by
 obtain ⟨j,a,b,c,_,e⟩:=h
 have h1:p∈TB.plc x:=(mem_plc g.index.len).2 ⟨j,a,b,c,e⟩
 have:=List.count_pos_iff.2 h1
 rw [g.plc] at this
 exact List.count_pos_iff.1 this
theorem TGood.has_inj (g:TGood cap keys bks next used free x prev nxt head tail l) {k k' p:Int} (h:Has x k p) (h':Has x k' p):k=k':=by
 have hnd:(TB.plc x).Nodup:=nodup_of_count fun q=>by rw [g.plc];exact List.nodup_iff_count.1 g.order.nodup q
 have hx:=g.index.len
 have cell:∀j:Int,0≤j→j<16→cl x j∈x:=fun j h0 h1=>by
  have hj:j.toNat<x.length:=by omega
  have e2:=cl_get hj
  rw [show ((j.toNat:Nat):Int)=j by omega] at e2
  rw [e2];exact List.getElem_mem hj
 obtain ⟨j,a,b,c,d,e⟩:=h
 obtain ⟨j',a',b',c',d',e'⟩:=h'
 have:=inj_of_nodup_map hnd (cl x j) (List.mem_filter.2 ⟨cell j a b,c⟩) (cl x j') (List.mem_filter.2 ⟨cell j' a' b',c'⟩) (e.trans e'.symm)
 rw [←d,←d',this]
theorem TGood.has_key (g:TGood cap keys bks next used free x prev nxt head tail l) {k p:Int} (h:Has x k p):keys.getD p.toNat 0=k:=g.has_inj (g.has_of (g.has_mem h)) h
theorem TGood.or_none (g:TGood cap keys bks next used free x prev nxt head tail l) (k:Int):(∃p,Has x k p)∨∀p,¬Has x k p:=by
 by_cases h:∃p,Has x k p
 ·exact .inl h
 ·exact .inr fun p hp=>h ⟨p,hp⟩
theorem place_has (g:TGood cap keys bks next used free x prev nxt head tail l) {k p:Int} (h:Has x k p):dy.F (cap,keys,bks,(next,used,free,()),x,(prev,nxt,head,tail,()),()) k=some (p,()):=by
 rw [dy.F_eq]
 dsimp only
 rw [find_has g.index h,ob,bne_neg rfl,dy.L1_eq]
theorem place_none (g:TGood cap keys bks next used free x prev nxt head tail l) {k:Int} (h:∀p,¬Has x k p):dy.F (cap,keys,bks,(next,used,free,()),x,(prev,nxt,head,tail,()),()) k=some (-1,()):=by
 rw [dy.F_eq]
 dsimp only
 rw [find_none g.index h,ob,bne_pos (by decide)]
theorem countP_set {u:List Bool} {i:Int} {b:Bool} (h0:0≤i) (h1:i<u.length):(u.set i.toNat b).countP id+(if u.getD i.toNat false=true then 1 else 0)=u.countP id+(if b=true then 1 else 0):=by
 have hi:i.toNat<u.length:=by omega
 rw [List.countP_set hi,getD_get hi]
 simp only [id]
 by_cases h:u[i.toNat]=true
 ·have:0<u.countP id:=List.countP_pos_iff.2 ⟨u[i.toNat],List.getElem_mem _,h⟩
  rw [if_pos h]
  have e:u.countP (fun a=>a)=u.countP id:=rfl
  omega
 ·rw [if_neg h]
  have e:u.countP (fun a=>a)=u.countP id:=rfl
  omega
theorem touch_good (g:TGood cap keys bks next used free x prev nxt head tail l) {p:Int} (m:p∈l):
  ∃(prev' nxt':List Int) (head' tail':Int),dg.F (prev,nxt,head,tail,()) p=some ((prev',nxt',head',tail',()),0,())∧TGood cap keys bks next used free x prev' nxt' head' tail' (p::l.erase p):=by
 have hr:=g.mem_range m
 obtain ⟨l1,l2,l3,l4,l5,l6,l7⟩:=g.lens
 obtain ⟨prev',nxt',head',tail',e2,go,hpl⟩:=lru_Touch_ok g.order hr.1 (by omega)
 refine ⟨prev',nxt',head',tail',e2,⟨g.low,g.high,g.nkeys,g.nbks,g.nnext,by rw [hpl];exact g.nprev,g.arena,g.index,go,fun i hi=>?_,g.count⟩⟩
 obtain ⟨r1,r2,r3⟩:=g.row i hi
 refine ⟨r1.trans ?_,r2,r3⟩
 rw [List.mem_cons,g.order.nodup.mem_erase_iff]
 constructor
 ·intro h
  by_cases e:(i:Int)=p
  ·exact .inl e
  ·exact .inr ⟨e,h⟩
 ·rintro (h|h)
  ·rw [h];exact m
  ·exact h.2
theorem insert_good (g:TGood cap keys bks next used free x prev nxt head tail l) {key:Int} {b:t1.den} (hb:BktOk b) (n:∀p,¬Has x key p) {i:Int} {fl:List Int} (ga:AGood next used free (i::fl)):
  ∃(next':List Int) (used':List Bool) (free':Int) (x':List t3.den) (prev' nxt':List Int) (head' tail':Int),
   dp.F (next,used,free,())=some ((next',used',free',()),i,0,())∧cb.F x key i=some (x',0,())∧dg.F (prev,nxt,head,tail,()) i=some ((prev',nxt',head',tail',()),0,())∧
   TGood cap (keys.set i.toNat key) (bks.set i.toNat b) next' used' free' x' prev' nxt' head' tail' (i::l)∧(∀k q,Has x' k q↔Has x k q∨(k=key∧q=i))∧0≤i∧i<used.length:=by
 obtain ⟨l1,l2,l3,l4,l5,l6,l7⟩:=g.lens
 obtain ⟨e1,ga2,i0,i1,hu⟩:=arena_Take_ok ga
 have nm:i∉l:=fun m=>by
  have:=(g.mem_used i0 i1).2 m
  rw [hu] at this;cases this
 have hlen:=g.len
 have hll:=g.order.ok.len
 obtain ⟨x',e3,px,hx,hc⟩:=probe_Put_ok g.index (key:=key) (place:=i) n i0 (by omega) (by omega)
 obtain ⟨prev',nxt',head',tail',e2,go,hpl⟩:=lru_Touch_ok g.order i0 (by omega)
 rw [List.erase_of_not_mem nm] at go
 refine ⟨_,_,_,x',prev',nxt',head',tail',e1,e3,e2,⟨g.low,g.high,by rw [List.length_set];exact g.nkeys,by rw [List.length_set];exact g.nbks,by rw [List.length_set];exact g.nnext,by rw [hpl];exact g.nprev,⟨_,ga2⟩,px,go,?_,?_⟩,hx,i0,i1⟩
 ·intro j hj
  rw [List.length_set] at hj
  obtain ⟨r1,r2,r3⟩:=g.row j hj
  unfold RowOk
  rw [set_nat i0 (by omega),set_nat i0 (by omega),set_nat i0 (by omega),List.mem_cons]
  by_cases e:i=(j:Int)
  ·rw [if_pos e,if_pos e,if_pos e]
   exact ⟨⟨fun _=> .inl e.symm,fun _=>rfl⟩,fun h=>(by cases h),fun _=>⟨(hx _ _).2 (.inr ⟨rfl,e.symm⟩),hb⟩⟩
  ·rw [if_neg e,if_neg e,if_neg e]
   refine ⟨⟨fun h=> .inr (r1.1 h),fun h=>r1.2 (h.resolve_left fun q=>e q.symm)⟩,r2,fun h=>?_⟩
   obtain ⟨hcell,hb⟩:=r3 h
   exact ⟨(hx _ _).2 (.inl hcell),hb⟩
 ·have h1:=countP_set (b:=true) i0 i1
  rw [if_neg (by rw [hu];decide),if_pos rfl] at h1
  have h2:=g.count
  omega
theorem ttwin_f (g:TGood cap keys bks next used free x prev nxt head tail l):fo.F (cap,keys,bks,(next,used,free,()),x,(prev,nxt,head,tail,()),())=some ((cap,keys,bks,(next,used,free,()),x,(prev,nxt,head,tail,()),()),()):=by
 obtain ⟨l1,l2,l3,l4,l5,l6,l7⟩:=g.lens
 have h1:=g.index.len
 have h2:=g.order.same
 rw [fo.F_eq]
 dsimp only
 rw [lim_small (by decide) (by omega),lim_small (by decide) (by omega),lim_small (by decide) (by omega),lim_small (by decide) (by omega),lim_small (by decide) (by omega),lim_small (by decide) (by omega),lim_small (by decide) (by omega)]
end
end Go.Proofs.YtkihjakbbcajbaaGreat.TB
namespace Go.Proofs.YtkihjakbbcajbaaGreat.TB
set_option linter.unusedSimpArgs false
set_option linter.unusedVariables false
open Go Go.Proofs Go.Proofs.YtkihjakbbcajbaaGreat.PM Go.Proofs.YtkihjakbbcajbaaGreat.RP
@[reducible] noncomputable def fullB (lm:t0.den) (tick:Int):t1.den:=((lm.1,lm.2.1,lm.2.2.1,()),lm.1,0,tick,())
theorem full_f {lm:t0.den} (h:LimOk lm) (tick:Int):eu.F lm tick=some (fullB lm tick,0,()):=by
 rw [eu.F_eq,(limit_says lm).yes h,ob,bne_neg rfl,eu.L1_eq]
theorem full_ok {lm:t0.den} (h:LimOk lm) (tick:Int):BktOk (fullB lm tick):=by
 obtain ⟨h1,h2,h3,h4,h5,h6,_⟩:=h
 refine ⟨⟨h1,h2,h3,h4,h5,h6,trivial⟩,?_,?_,?_,?_,?_⟩
 ·show ¬Z lm.1<0
  omega
 ·show ¬Z lm.1 - Z lm.1<0
  omega
 ·show ¬Z 0<0
  decide
 ·show ¬(0:Int)≥Z lm.2.2.1
  omega
 ·intro _
  show ¬Z 0>0
  decide
theorem full_lev {lm:t0.den} (h:LimOk lm) (tick:Int):Z (fullB lm tick).2.1≤9223372036854775807:=by
 obtain ⟨h1,h2,_⟩:=h
 show Z lm.1≤9223372036854775807
 omega
section
variable {cap:Int} {keys:List Int} {bks:List t1.den} {next:List Int} {used:List Bool} {free:Int} {x:List t3.den} {prev nxt:List Int} {head tail:Int} {l:List Int}
theorem tcheck_f (g:TGood cap keys bks next used free x prev nxt head tail l) (hw:∀c∈bks,Z c.2.1≤9223372036854775807):aj.F (cap,keys,bks,(next,used,free,()),x,(prev,nxt,head,tail,()),())=some (0,()):=(table_says _ hw).yes ⟨l,g⟩
theorem use_has (g:TGood cap keys bks next used free x prev nxt head tail l) (hw:∀c∈bks,Z c.2.1≤9223372036854775807) {lm:t0.den} (hl:LimOk lm) (tick:Int) {key p:Int} (h:Has x key p) {prev' nxt':List Int} {head' tail':Int}
  (e:dg.F (prev,nxt,head,tail,()) p=some ((prev',nxt',head',tail',()),0,())):
  cq.F (cap,keys,bks,(next,used,free,()),x,(prev,nxt,head,tail,()),()) key lm tick=some ((cap,keys,bks,(next,used,free,()),x,(prev',nxt',head',tail',()),()),0,false,0,()):=by
 have hr:=g.mem_range (g.has_mem h)
 rw [cq.F_eq,tcheck_f g hw,ob,bne_neg rfl,cq.L1_eq]
 rw [show eu.F _ tick=_ from full_f hl tick,ob,bne_neg rfl,cq.L2_eq,ttwin_f g,ob,place_has g h,ob,bd_neg (by dsimp only;omega),cq.L4_eq,e,ob]
theorem use_new (g:TGood cap keys bks next used free x prev nxt head tail l) (hw:∀c∈bks,Z c.2.1≤9223372036854775807) {lm:t0.den} (hl:LimOk lm) (tick:Int) {key:Int} (n:∀p,¬Has x key p) {next':List Int} {used':List Bool} {free' i:Int} {x':List t3.den} {prev' nxt':List Int} {head' tail':Int}
  (e1:dp.F (next,used,free,())=some ((next',used',free',()),i,0,())) (e2:cb.F x key i=some (x',0,())) (e3:dg.F (prev,nxt,head,tail,()) i=some ((prev',nxt',head',tail',()),0,())) (i0:0≤i) (i1:i<used.length):
  cq.F (cap,keys,bks,(next,used,free,()),x,(prev,nxt,head,tail,()),()) key lm tick=some ((cap,keys.set i.toNat key,bks.set i.toNat (fullB lm tick),(next',used',free',()),x',(prev',nxt',head',tail',()),()),0,false,0,()):=by
 obtain ⟨l1,l2,l3,l4,l5,l6,l7⟩:=g.lens
 rw [cq.F_eq,tcheck_f g hw,ob,bne_neg rfl,cq.L1_eq]
 rw [show eu.F _ tick=_ from full_f hl tick,ob,bne_neg rfl,cq.L2_eq,ttwin_f g,ob,place_none g n,ob,bd_pos (by decide),show dp.F _=_ from e1,ob,bne_neg rfl,cq.L3_eq,show dp.F _=_ from e1,ob,e2,ob,bd_pos (by dsimp only;omega),bd_pos (by dsimp only;omega),cq.L4_eq,e3,ob]
theorem keys_f (g:TGood cap keys bks next used free x prev nxt head tail l) (hw:∀c∈bks,Z c.2.1≤9223372036854775807):dw.F (cap,keys,bks,(next,used,free,()),x,(prev,nxt,head,tail,()),())=some (l.map (fun p=>keys.getD p.toNat 0),0,()):=by
 obtain ⟨l1,l2,l3,l4,l5,l6,l7⟩:=g.lens
 have hs:=g.order.short
 rw [dw.F_eq,tcheck_f g hw,ob,bne_neg rfl,dw.L1_eq,lru_List_ok g.order,ob]
 have h2:=loop_go (n:=l.length) (L:=fun i=>dw.L2 (l.length:Int) (i:Int) cap keys bks next used free x prev nxt head tail ((l.take i).map (fun p=>keys.getD p.toNat 0)) l) (fun i hi=>by
  have hm:l.getD i 0∈l:=by rw [getD_get hi];exact List.getElem_mem hi
  have hr:=g.mem_range hm
  try dsimp only
  rw [dw.L2_eq,bd_pos (by omega),dw.L3_eq,bd_pos (by omega)]
  simp only [toNat_cast]
  rw [bd_pos (by omega),lim_small (by decide) (by simp;omega),W_eq (by omega) (by omega),cast_add1,take_snoc hi,List.map_append]
  rfl)
 refine Eq.trans h2 ?_
 try dsimp only
 rw [dw.L2_eq,bd_neg (by omega),List.take_of_length_le (Nat.le_refl _)]
theorem all_used {fl:List Int} (ga:AGood next used free fl):used.countP id=used.length↔fl=[]:=by
 constructor
 ·intro h
  have h1:=List.countP_eq_length.1 h
  cases fl with
  |nil=>rfl
  |cons i fl=>
   have hi:=ga.chain.range i List.mem_cons_self
   have hs:=ga.same
   have hlt:i.toNat<used.length:=by omega
   have:=h1 used[i.toNat] (List.getElem_mem hlt)
   rw [←getD_get (d:=false) hlt] at this
   have:=(ga.mark i.toNat hlt).1 this
   rw [show ((i.toNat:Nat):Int)=i by omega] at this
   exact absurd List.mem_cons_self this
 ·rintro rfl
  refine List.countP_eq_length.2 fun b hb=>?_
  obtain ⟨i,hi,rfl⟩:=List.mem_iff_getElem.1 hb
  have:=(ga.mark i hi).2 (by simp)
  rw [getD_get hi] at this
  exact this
end
end Go.Proofs.YtkihjakbbcajbaaGreat.TB
namespace Go.Proofs.YtkihjakbbcajbaaGreat.TB
set_option linter.unusedSimpArgs false
set_option linter.unusedVariables false
open Go Go.Proofs Go.Proofs.YtkihjakbbcajbaaGreat.PM Go.Proofs.YtkihjakbbcajbaaGreat.RP Go.Proofs.YtkihjakbbcajbaaGreat.Kd
@[reducible] noncomputable def z0_:t0.den:=(0,0,0,())
def Lims (l:List t0.den):Prop:=∀i:Nat,i<3→LimOk (l.getD i z0_)
def Alike (t:t5.den) (l:t0.den) (most:Int):Prop:=∀i:Nat,i<List.length t.2.2.2.1.2.1→List.getD t.2.2.2.1.2.1 i false=true→(List.getD t.2.2.1 i b0_).1=l∧¬Z (List.getD t.2.1 i 0)>most
theorem TOk.lens {t:t5.den} (h:TOk t):Z t.1=(List.length t.2.2.2.1.2.1:Int)∧List.length t.2.1=List.length t.2.2.2.1.2.1∧List.length t.2.2.1=List.length t.2.2.2.1.2.1∧List.length t.2.2.2.1.2.1≤8:=by
 obtain ⟨l,g⟩:=h
 have a1:=g.nkeys
 have a2:=g.nbks
 have a3:=g.nnext
 have a4:Z t.1≤8:=g.high
 obtain ⟨_,ga⟩:=g.arena
 have a5:=ga.same
 have a6:(List.length t.2.1:Int)=Z t.1:=a1
 have a7:(List.length t.2.2.1:Int)=Z t.1:=a2
 have a8:(List.length t.2.2.2.1.1:Int)=Z t.1:=a3
 refine ⟨by omega,by omega,by omega,by omega⟩
def Rises (l:List Int):Prop:=∀i:Nat,i<l.length - 1→¬Z (l.getD i 0)≥l.getD (i+1) 0
def PartOk (p:t7.den):Prop:=¬Z p.1≥16∧Lims p.2.1∧BktOk p.2.2.1∧TOk p.2.2.2.1∧TOk p.2.2.2.2.1∧p.2.2.1.1=List.getD p.2.1 0 z0_∧Alike p.2.2.2.1 (List.getD p.2.1 1 z0_) 4294967295∧Alike p.2.2.2.2.1 (List.getD p.2.1 2 z0_) 65535∧¬(List.length p.2.2.2.2.2.1:Int)>8∧Rises p.2.2.2.2.2.1
structure TWf (t:t5.den):Prop where
 lev:∀c∈t.2.2.1,Z c.2.1≤9223372036854775807
 cells:Keys t.2.2.2.2.1
 few:List.length t.2.2.2.2.1≤1000
 keys:∀k∈t.2.1,Z k≤4294967295
structure PWf (p:t7.den):Prop where
 three:List.length p.2.1=3
 lev:Z p.2.2.1.2.1≤9223372036854775807
 us:TWf p.2.2.2.1
 es:TWf p.2.2.2.2.1
end Go.Proofs.YtkihjakbbcajbaaGreat.TB
