/- Parts of the proof, joined: PM14, PM15, PM16, PM17, PM18, PM19, PM20, PM21. -/
import Derived.Test.YtkihjakbbcajbaaGreatPM13
import Derived.Laws.BytesString
namespace Go.Proofs.YtkihjakbbcajbaaGreat.PM
set_option linter.unusedSimpArgs false
set_option linter.unusedVariables false
open Go
section
variable {P:Program} {E:Env} {t:TypeId} {g:Gh} {A W:Nat→Prop} {w:World} {h:Hp}
theorem tyB_und {τ:Ty} (h:tyB P τ t=true):∃d,P.underlying t=some d:=by
 cases hu:P.underlying t with
 |some d=>exact ⟨d,rfl⟩
 |none=>cases τ<;>simp [tyB_int,tyB_bool,tyB_str,tyB_unit,tyB_pair,tyB_arr,tyB_slice,hu] at h
theorem und_int {k:IntKind} (h:tyB P (.int k) t=true):P.underlying t=some (.int k):=by
 simp only [tyB_int,tyB_bool,tyB_str,tyB_unit,tyB_pair,tyB_arr,tyB_slice,Bool.and_eq_true] at h
 have h2:=h.2
 split at h2
 ·rename_i j hj;rw [hj,of_decide_eq_true h2]
 ·cases h2
theorem und_str (h:tyB P .str t=true):P.underlying t=some .string:=by
 simp only [tyB_int,tyB_bool,tyB_str,tyB_unit,tyB_pair,tyB_arr,tyB_slice,Bool.and_eq_true] at h
 have h2:=h.2
 split at h2
 ·assumption
 ·cases h2
theorem cat_int {k:IntKind}:∀(ys:List Int) (c:List Value),Cat (TRel A w (.int k)) c ys→c=ys.map (.int k)
 |[],c,h=>h
 |y::ys,c,h=>by
  obtain ⟨c1,c2,rfl,h1,h2⟩:=h
  have h1:c1=[.int k y]:=h1
  rw [h1,cat_int ys c2 h2];rfl
theorem push_all:∀(ns:List Int) (r:ByteArray),(ns.foldl (fun r n=>r.push (UInt8.ofNat n.toNat)) r).data.toList=r.data.toList++ns.map fun n=>UInt8.ofNat n.toNat
 |[],r=>by simp
 |n::ns,r=>by
  rw [List.foldl_cons,push_all ns]
  simp [ByteArray.push]
theorem of_str (s:ByteArray):VRel g A w (.v .str s.data.toList) (.string s):=by
 unfold VRel;simp only [aggP,Ty.agg];unfold PV.rel TRel;exact ⟨s,rfl,rfl⟩
theorem conv_ok (hT:tabB P E.tl=true) (H:HR g A W w h) {src dst:TypeId} {x y:PV} {v:Value} {h':Hp} (hx:VRel g A w x v) (e:(convQ E src dst x).Ok h y h'):h'=h∧∃z,(convert src dst v).run P w=.ok z w∧VRel g A w y z:=by
 simp only [convQ,Ok_bind] at e
 obtain ⟨σ,h1,e1,τ,h2,e2,e⟩:=e
 obtain ⟨hE1,rfl⟩:=data_out e1
 obtain ⟨hE2,rfl⟩:=data_out e2
 have hts:tyB P σ src=true:=tabB_look hT hE1
 have htd:tyB P τ dst=true:=tabB_look hT hE2
 split at e
 ·rename_i k
  split at e
  ·rename_i n
   rw [Ok_ret] at e;obtain ⟨rfl,rfl⟩:=e
   obtain rfl:=v_int hx
   obtain ⟨d,hd⟩:=tyB_und hts
   have hk:=und_int htd
   exact ⟨rfl,_,by simp [convert,run_underlying hd,run_underlying hk,Conv.intToInt],of_int _ _⟩
  ·exact e.elim
 ·rw [Ok_cond,decide_eq_true_eq] at e
  rcases e with ⟨rfl,e⟩|⟨_,e⟩
  ·rw [Ok_bind] at e
   obtain ⟨b,h3,e3,e⟩:=e
   rw [Ok_ret] at e;obtain ⟨rfl,rfl⟩:=e
   obtain ⟨rfl,a,cap,rfl,hcap,hc⟩:=dec_shown H hx e3
   obtain ⟨e0,hu,he⟩:=slice_und hts
   have hi:=und_int he
   have hk:=und_str htd
   refine ⟨rfl,?_⟩
   by_cases h0:0<b.length
   ·obtain ⟨ad,rfl,r1,c,r2,r3⟩:=hc h0
    have hcm:=cat_int b c r3
    subst hcm
    have hl:=run_loadCells_list (P:=P) w ad _ r2
    rw [List.length_map] at hl
    have hr:=run_bytesToString w ad b.length cap b hl
    refine ⟨_,by simp only [convert,Sem.run_bind,run_underlying hu,run_underlying hk,Result.andThen_ok,run_underlying hi];exact hr,?_⟩
    have hp:=push_all b ByteArray.empty
    have h2:(b.map fun n=>UInt8.ofNat n.toNat)=(b.foldl (fun r n=>r.push (UInt8.ofNat n.toNat)) ByteArray.empty).data.toList:=by rw [hp];rfl
    show VRel g A w (.v .str (b.map fun n=>UInt8.ofNat n.toNat)) _
    rw [h2];exact of_str _
   ·have hb:b=[]:=by
     cases b with
     |nil=>rfl
     |cons x b=>simp at h0
    subst hb
    cases a with
    |none=>
     refine ⟨.string .empty,by simp [convert,run_underlying hu,run_underlying hk,run_underlying hi,Conv.bytesToString],?_⟩
     exact of_str ByteArray.empty
    |some ad=>
     have hl:=run_loadCells_list (P:=P) w ad [] (fun j v hj=>by simp at hj)
     have hr:=run_bytesToString w ad 0 cap [] hl
     refine ⟨_,by simp only [convert,Sem.run_bind,run_underlying hu,run_underlying hk,Result.andThen_ok,run_underlying hi];exact hr,?_⟩
     exact of_str ByteArray.empty
  ·exact e.elim
 ·exact e.elim
theorem Step.touch (H:HR g A W w h) {id:Nat} {B:Blk} (hb:h.at id=some B):Step g A W w g A w ((id,some B)::h):=
 ⟨Gh.le_refl g,fun _ h=>h,fun _ h=> .inl h,H.congr (fun i=>by
  rw [look_cons];split
  ·rename_i hi;rw [hi];exact at_look hb
  ·rfl),fun _ _=>rfl,.refl W w⟩
def putTo (a:Option Addr) (c:List Value):Sem Unit:=match a with
 |some a=>storeCells a c
 |none=>pure ()
theorem splice_nil {α:Type} (xs:List α) (o:Nat):splice xs o []=xs:=by simp [splice]
theorem write_any {u:Ty} (H:HR g A W w h) {id:Nat} {xs ys:List u.den} {s:Slot} {c:List Value} {o:Nat} {a:Option Addr} (hb:h.at id=some (.row u xs false)) (hg:g id=some s) (hc:Cat (TRel A w u) c ys) (ho:o+ys.length≤xs.length) (ha:0<ys.length∨o=0→a=s.blk.map fun b=>⟨b,o*u.size,none⟩):
  ∃w',(putTo a c).run P w=.ok () w'∧Step g A W w g A w' ((id,some (.row u (splice xs o ys) false))::h):=by
 by_cases h0:0<ys.length
 ·have ha:=ha (.inl h0)
  obtain ⟨s',hg',⟨hl,hr⟩,_⟩:=H.blk id _ hb
  rw [hg] at hg';injection hg' with hg';subst hg'
  cases hs:s.blk with
  |none=>rw [hs] at hr;omega
  |some b=>
   rw [hs] at ha
   subst ha
   exact write_row H hb hg hs hc ho
 ·have hy:ys=[]:=by
   cases ys with
   |nil=>rfl
   |cons y ys=>simp at h0
  subst hy
  have hc:c=[]:=hc
  subst hc
  rw [splice_nil]
  refine ⟨w,?_,Step.touch H hb⟩
  cases a with
  |none=>simp [putTo]
  |some a=>simp [putTo,storeCells]
theorem run_firstN {u:Ty} {v:Value} {ys:List u.den} (hs:Shown A w u v ys) (n:Nat) (hn:n≤ys.length):∃c:List Value,Cat (TRel A w u) c (ys.take n)∧(Builtin.firstCells u.size n v).run P w=.ok c.toArray w∧∃a cap,v=.slice a ys.length cap:=by
 obtain ⟨a,cap,rfl,hcap,hc⟩:=hs
 by_cases h0:0<ys.length
 ·obtain ⟨ad,rfl,r1,c,r2,r3⟩:=hc h0
  have hl:=Cat.len (TRel.len u) r3
  have r4:=Cat.take (TRel.len u) r3 n hn
  have hl4:(c.take (n*u.size)).length=n*u.size:=by
   rw [List.length_take,hl];exact Nat.min_eq_left (Nat.mul_le_mul_right _ hn)
  have hr:=run_loadCells_list (P:=P) w ad (c.take (n*u.size)) (fun j v hj=>r2 j v (by
   rw [List.getElem?_take] at hj;split at hj
   ·exact hj
   ·cases hj))
  rw [hl4] at hr
  exact ⟨_,r4,by simp only [Builtin.firstCells];exact hr,_,_,rfl⟩
 ·have:ys=[]:=by
   cases ys with
   |nil=>rfl
   |cons y ys=>simp at h0
  subst this
  obtain rfl:n=0:=by simpa using hn
  refine ⟨[],rfl,?_,_,_,rfl⟩
  cases a with
  |none=>simp [Builtin.firstCells]
  |some a=>
   have hr:=run_loadCells_list (P:=P) w a [] (fun j v hj=>by simp at hj)
   simp only [Builtin.firstCells,Nat.zero_mul]
   exact hr
theorem run_copy {u:Ty} (hty:tyB P (.slice u) t=true) (ts:List TypeId) (ty:TypeId) {a:Option Addr} {len cap m:Nat} {vs:Value} {c:List Value} {w':World} (hv:∃a cap,vs=.slice a m cap) (hf:(Builtin.firstCells u.size (min m len) vs).run P w=.ok c.toArray w) (hp:(putTo a c).run P w=.ok () w'):
  (Builtin.copy_ (t::ts).toArray ty #[.slice a len cap,vs]).run P w=.ok (.int .i64 (min m len:Nat)) w':=by
 obtain ⟨e0,hu,he⟩:=slice_und hty
 obtain ⟨b,cap',rfl⟩:=hv
 have hm:Nat.min m len=min m len:=rfl
 cases a with
 |none=>
  simp only [putTo,Sem.run_pure] at hp
  injection hp with _ hp;subst hp
  simp [Builtin.copy_,run_underlying hu,Builtin.lenOf,run_sizeT w he,hm,hf,goInt]
 |some a=>
  simp only [putTo] at hp
  simp [Builtin.copy_,run_underlying hu,Builtin.lenOf,run_sizeT w he,hm,hf,hp,goInt]
theorem take_min {α:Type} (ys:List α) (n:Nat):ys.take (min ys.length n)=ys.take n:=by
 by_cases h:ys.length≤n
 ·rw [Nat.min_eq_left h,List.take_length,List.take_of_length_le h]
 ·rw [Nat.min_eq_right (by omega)]
theorem copy_row {u:Ty} (hty:tyB P (.slice u) t=true) (ts:List TypeId) (ty:TypeId) (H:HR g A W w h) {id off len cap:Nat} {xs ys:List u.den} {s:Slot} {a:Option Addr} {vs:Value} (hb:h.at id=some (.row u xs false)) (hg:g id=some s) (hs:Shown A w u vs ys) (hol:off+len≤xs.length) (ha:0<len∨off=0→a=s.blk.map fun b=>⟨b,off*u.size,none⟩):
  ∃w' v,(Builtin.copy_ (t::ts).toArray ty #[.slice a len cap,vs]).run P w=.ok v w'∧Step g A W w g A w' ((id,some (.row u (splice xs off (ys.take len)) false))::h)∧VRel g A w' (.v (.int .i64) (min ys.length len:Nat)) v:=by
 obtain ⟨c,c1,c2,c3⟩:=run_firstN (P:=P) hs (min ys.length len) (Nat.min_le_left _ _)
 rw [take_min] at c1
 have hl:(ys.take len).length≤len:=by rw [List.length_take];exact Nat.min_le_left _ _
 obtain ⟨w',r,S⟩:=write_any (P:=P) H hb hg c1 (by omega) (a:=a) (fun h=>ha (h.imp (fun h=>by omega) (fun h=>h)))
 exact ⟨w',_,run_copy hty ts ty c3 c2 r,S,of_int _ _⟩
theorem sv_off {s:Slot} {off len sz:Nat} {p:List Stp} {v:Value} (h:SvV s p off len sz 0 v):p=[]∧off+len≤s.len∧∃a cap,v=.slice a len cap∧(0<len∨off=0→a=s.blk.map fun b=>⟨b,off*sz,none⟩):=by
 obtain ⟨_,h2,h3,_,a,cap,h5,_,_,h6⟩:=h
 have hp:=h3 rfl
 subst hp
 refine ⟨rfl,by simpa using h2,a,cap,h5,fun hh=>?_⟩
 have:=h6 hh
 simpa [poff] using this
theorem copyTo_ok {u:Ty} (hty:tyB P (.slice u) t=true) (ts:List TypeId) (ty:TypeId) (H:HR g A W w h) {d y:PV} {vd vs:Value} {ys:List u.den} {h':Hp} (hd:VRel g A w d vd) (hs:Shown A w u vs ys) (e:(copyTo u d ys).Ok h y h'):
  ∃w' v,(Builtin.copy_ (t::ts).toArray ty #[vd,vs]).run P w=.ok v w'∧Step g A W w g A w' h'∧VRel g A w' y v:=by
 cases d with
 |sl id=>
  obtain ⟨s,hg,hv⟩:=to_sl hd
  simp only [copyTo,Q.Ok] at e
  obtain ⟨B,hb,e⟩:=e
  cases B with
  |box x=>exact e.elim
  |row v xs fz=>
   cases fz with
   |true=>exact e.elim
   |false=>
    simp only [Ok_bind,Ok_get,Q.Ok] at e
    obtain ⟨xs',h1,⟨ec,rfl⟩,_,rfl,rfl⟩:=e
    obtain ⟨ev,_⟩:=cast_some ec
    injection ev with ev;subst ev
    obtain rfl:=cast_self ec
    obtain ⟨s',hg',⟨hl,hr⟩,_⟩:=H.blk id _ hb
    rw [hg] at hg';injection hg' with hg';subst hg'
    unfold SlV at hv
    cases hsb:s.blk with
    |none=>
     rw [hsb] at hv
     have h0:xs.length=0:=by omega
     have:=copy_row (P:=P) hty ts ty H (off:=0) (len:=0) (cap:=0) (a:=none) hb hg hs (by omega) (fun _=>by rw [hsb];rfl)
     rw [hv.1,h0];exact this
    |some b=>
     rw [hsb] at hv
     have:=copy_row (P:=P) hty ts ty H (off:=0) (len:=xs.length) (cap:=s.cap) (a:=some ⟨b,0,none⟩) hb hg hs (by omega) (fun _=>by rw [hsb];simp)
     have hv':vd=.slice (some ⟨b,0,none⟩) s.len s.cap:=hv
     rw [hv',hl];exact this
 |sv id p off len sz n=>
  obtain ⟨s,hg,hv⟩:=to_sv hd
  simp only [copyTo,Q.Ok] at e
  obtain ⟨B,hb,e⟩:=e
  cases B with
  |row v xs fz=>
   cases fz with
   |true=>exact e.elim
   |false=>
    simp only [Ok_cond,Ok_fail,and_false,or_false,Bool.and_eq_true,Ok_bind,Ok_get,Q.Ok] at e
    obtain ⟨⟨hsz,hn⟩,xs',h1,⟨ec,rfl⟩,_,rfl,rfl⟩:=e
    have hsz:=Nat.eq_of_beq_eq_true hsz
    have hn:=Nat.eq_of_beq_eq_true hn
    subst hsz hn
    obtain ⟨ev,_⟩:=cast_some ec
    injection ev with ev;subst ev
    obtain rfl:=cast_self ec
    obtain ⟨s',hg',⟨hl,hr⟩,_⟩:=H.blk id _ hb
    rw [hg] at hg';injection hg' with hg';subst hg'
    obtain ⟨rfl,ho,a,cap,rfl,ha⟩:=sv_off hv
    exact copy_row hty ts ty H hb hg hs (by omega) ha
  |box x=>
   simp only at e
   split at e
   ·rename_i m v xs hgp
    simp only [Ok_cond,Ok_fail,and_false,or_false,Bool.and_eq_true,Ok_bind,Ok_get] at e
    obtain ⟨⟨⟨⟨hm,hsz⟩,hfl⟩,hn0⟩,xs',h1,⟨ec,rfl⟩,e⟩:=e
    have hm:=Nat.eq_of_beq_eq_true hm
    have hsz:=Nat.eq_of_beq_eq_true hsz
    subst hm hsz
    obtain ⟨ev,_⟩:=cast_some ec
    injection ev with ev;subst ev
    obtain rfl:=cast_self ec
    split at e
    ·rename_i z hz
     simp only [Q.Ok] at e
     obtain ⟨_,rfl,rfl⟩:=e
     have hm0:m≠0:=by rintro rfl;simp at hn0
     obtain ⟨hpk,hol,_,hbn,a,cap,rfl,hcl,_,ha⟩:=hv
     rw [if_neg hm0] at hol
     obtain ⟨s',b,cells,ety,hg',hsb,hh,hx⟩:=H.blk id _ hb
     rw [hg] at hg';injection hg' with hg';subst hg'
     obtain ⟨c,c1,c2,c3⟩:=run_firstN (P:=P) hs (min ys.length len) (Nat.min_le_left _ _)
     rw [take_min] at c1
     have hyl:(ys.take len).length≤len:=by rw [List.length_take];exact Nat.min_le_left _ _
     obtain ⟨pre,zs,post,q1,q2,q3⟩:=getP_rel p x (.v (.arr m v) xs) cells.toList hx hpk hgp
     unfold PV.rel TRel at q3
     obtain ⟨q3,q4⟩:=q3
     have hzl:=Cat.len (TRel.len v) q4
     have hc:=Cat.len (TRel.len v) c1
     have hxl:List.length (α:=v.den) xs=m:=q3
     have hns:=Cat.splice (TRel.len v) q4 c1 off (by rw [hxl];omega)
     have hoc:(off+(ys.take len).length)*v.size=off*v.size+c.length:=by rw [Nat.add_mul,hc]
     rw [hoc] at hns
     have hle:off*v.size+c.length≤zs.length:=by
      rw [hzl,←hoc];exact Nat.mul_le_mul_right _ (by rw [hxl];omega)
     have hnr:(PV.v (.arr m v) (splice xs off (ys.take len))).rel g A w (zs.take (off*v.size)++c++zs.drop (off*v.size+c.length)):=by
      unfold PV.rel TRel
      exact ⟨by rw [splice_len (α:=v.den) _ _ _ (by rw [hxl];omega)];exact hxl,hns⟩
     have hnl:(zs.take (off*v.size)++c++zs.drop (off*v.size+c.length)).length=(PV.v (.arr m v) xs).size:=by
      rw [List.length_append,List.length_append,List.length_take,List.length_drop]
      show _=m*v.size
      rw [hxl] at hzl
      omega
     obtain ⟨pre',zs',post',u1,u2,u3,u4⟩:=setP_rel p x _ _ z cells.toList _ hx hpk hgp hz hnr hnl
     have hzz:zs'.length=zs.length:=by
      rw [u3,hnl,hzl]
      show m*v.size=_
      rw [hxl]
     have hpp:pre'=pre∧zs'=zs∧post'=post:=by
      have he:=q1.symm.trans u1
      rw [List.append_assoc,List.append_assoc] at he
      obtain ⟨w1,w2⟩:=List.append_inj he (by rw [q2,u2])
      obtain ⟨w3,w4⟩:=List.append_inj w2 hzz.symm
      exact ⟨w1.symm,w3.symm,w4.symm⟩
     obtain ⟨rfl,rfl,rfl⟩:=hpp
     by_cases hl0:0<len∨off=0
     ·have ha':=ha hl0
      rw [hsb] at ha'
      subst ha'
      have hcl:cells.toList.length=cells.size:=by simp
      have hcz:poff p+off*v.size+0+c.length≤cells.size:=by
       rw [←hcl,q1,List.length_append,List.length_append,q2];omega
      have hst:=run_storeCells_at (P:=P) b (poff p+off*v.size) ety c 0 cells w hh hcz (c1.all (TRel.one v))
      simp only [Nat.add_zero] at hst
      have hsp:cells.toList.take (poff p+off*v.size)++c++cells.toList.drop (poff p+off*v.size+c.length)=pre'++(zs'.take (off*v.size)++c++zs'.drop (off*v.size+c.length))++post':=by
       have hcut:cells.toList=(pre'++zs'.take (off*v.size))++(zs'.drop (off*v.size)).take c.length++(zs'.drop (off*v.size+c.length)++post'):=by
        rw [q1]
        have:=cut3 zs' (off*v.size) c.length
        conv=>lhs;rw [this]
        simp only [List.append_assoc]
       have hpl:(pre'++zs'.take (off*v.size)).length=poff p+off*v.size:=by
        rw [List.length_append,List.length_take,q2,Nat.min_eq_left (by omega)]
       have:=take_pre (zs:=c) hcut (by rw [List.length_take,List.length_drop];omega)
       rw [hpl] at this
       rw [this]
       simp only [List.append_assoc]
      refine ⟨_,_,run_copy hty ts ty c3 c2 (a:=some _) hst,Step.set H hb rfl hg hsb ⟨s,b,_,ety,hg,hsb,setRow_heap w b cells _ ety (0,0) hh,?_⟩,of_int _ _⟩
      refine PV.rel_mono (Gh.le_refl g) (fun _ h=>h) (fun r hr=>setRow_other w b r _ (fun e=>(H.own id _ s b hb rfl hg hsb).1 (e▸hr))) z _ ?_
      simp only []
      rw [hsp];exact u4
     ·have hlen:len=0:=by omega
      subst hlen
      have hc0:c=[]:=by
       apply List.eq_nil_of_length_eq_zero
       rw [hc];simp
      subst hc0
      have hS:=Step.set (c:=cells) H hb rfl hg hsb (B':=.box z) ⟨s,b,_,ety,hg,hsb,setRow_heap w b cells _ ety (0,0) hh,PV.rel_mono (Gh.le_refl g) (fun _ h=>h) (fun r hr=>setRow_other w b r _ (fun e=>(H.own id _ s b hb rfl hg hsb).1 (e▸hr))) z _ (by
       have:pre'++(zs'.take (off*v.size)++[]++zs'.drop (off*v.size+0))++post'=cells.toList:=by rw [q1];simp
       rw [List.length_nil] at u4
       rw [this] at u4
       exact u4)⟩
      rw [setRow_self w b cells ety (0,0) hh] at hS
      refine ⟨w,_,run_copy hty ts ty c3 c2 (a:=a) ?_,hS,of_int _ _⟩
      cases a with
      |none=>simp [putTo]
      |some a=>simp [putTo,storeCells]
    ·exact e.elim
   ·exact e.elim
 |_=>exact e.elim
theorem copy_ok (hT:tabB P E.tl=true) (ts:List TypeId) (ty:TypeId) (H:HR g A W w h) {d s y:PV} {vd vs:Value} {h':Hp} (hd:VRel g A w d vd) (hs:VRel g A w s vs) (e:(copyQ E t d s).Ok h y h'):
  ∃w' v,(Builtin.copy_ (t::ts).toArray ty #[vd,vs]).run P w=.ok v w'∧Step g A W w g A w' h'∧VRel g A w' y v:=by
 simp only [copyQ,Ok_bind] at e
 obtain ⟨u,h1,e1,ys,h2,e2,e3⟩:=e
 obtain ⟨hE,rfl⟩:=elem_out e1
 have hty:tyB P (.slice u) t=true:=tabB_look hT hE
 obtain ⟨rfl,hsh⟩:=dec_shown H hs e2
 exact copyTo_ok hty ts ty H hd hsh e3
theorem clear_ok (hT:tabB P E.tl=true) (ts:List TypeId) (ty:TypeId) (H:HR g A W w h) {d y:PV} {vd:Value} {h':Hp} (hd:VRel g A w d vd) (e:(clearQ E t d).Ok h y h'):
  ∃w' v,(Builtin.clear_ (t::ts).toArray ty #[vd]).run P w=.ok v w'∧Step g A W w g A w' h'∧VRel g A w' y v:=by
 simp only [clearQ,Ok_bind] at e
 obtain ⟨u,h1,e1,e⟩:=e
 obtain ⟨hE,rfl⟩:=elem_out e1
 have hty:tyB P (.slice u) t=true:=tabB_look hT hE
 obtain ⟨e0,hu,he⟩:=slice_und hty
 obtain ⟨i,z,_,_,_,_,hz,hrun⟩:=run_zero he
 cases d with
 |sv id p off len sz n=>
  obtain ⟨s,hg,hv⟩:=to_sv hd
  simp only [Q.Ok] at e
  obtain ⟨B,hb,e⟩:=e
  cases B with
  |box x=>exact e.elim
  |row v xs fz=>
   cases fz with
   |true=>exact e.elim
   |false=>
    simp only [Ok_cond,Ok_fail,and_false,or_false,Bool.and_eq_true,Ok_bind,Ok_get,Q.Ok] at e
    obtain ⟨⟨hsz,hn⟩,xs',h2,⟨ec,rfl⟩,_,rfl,rfl⟩:=e
    have hsz:=Nat.eq_of_beq_eq_true hsz
    have hn:=Nat.eq_of_beq_eq_true hn
    subst hsz hn
    obtain ⟨ev,_⟩:=cast_some ec
    injection ev with ev;subst ev
    obtain rfl:=cast_self ec
    obtain ⟨s',hg',⟨hl,hr⟩,_⟩:=H.blk id _ hb
    rw [hg] at hg';injection hg' with hg';subst hg'
    obtain ⟨rfl,ho,a,cap,rfl,ha⟩:=sv_off hv
    have hzs:z.cells.size=v.size:=by
     have:=TRel.len v _ _ (zcells_rel A w v)
     rw [←hz,Array.length_toList] at this;exact this
    have hzc:Cat (TRel A w v) (Builtin.zeroCells z.cells len).toList (List.replicate len v.zero):=by
     have:Builtin.zeroCells z.cells len=madeCells z.cells (len*v.size):=by unfold Builtin.zeroCells madeCells;rw [hzs]
     rw [this,madeCells_eq z.cells v.size hzs,hz];exact Cat.replicate (zcells_rel A w v) len
    obtain ⟨w',r,S⟩:=write_any (P:=P) H hb hg hzc (by rw [List.length_replicate];omega) (a:=a) (fun h=>ha (h.imp (fun h=>by rw [List.length_replicate] at h;exact h) (fun h=>h)))
    refine ⟨w',.tuple #[],?_,S,rfl⟩
    cases a with
    |none=>
     simp only [putTo,Sem.run_pure] at r
     injection r with _ r;subst r
     simp [Builtin.clear_,run_underlying hu]
    |some a=>
     simp only [putTo] at r
     cases len with
     |zero=>
      have:(Builtin.zeroCells z.cells 0).toList=[]:=by simp [Builtin.zeroCells]
      rw [this] at r
      simp [storeCells] at r
      subst r
      simp [Builtin.clear_,run_underlying hu]
     |succ len=>simp [Builtin.clear_,run_underlying hu,hrun,r]
 |_=>exact e.elim
theorem min_run {k:IntKind} (a b:Int) (ts:Array TypeId) (ty:TypeId):(Builtin.min_ ts ty #[.int k a,.int k b]).run P w=.ok (.int k (min a b)) w:=by
 have:(if b<a then b else a)=min a b:=by omega
 simp [Builtin.min_,Builtin.min2,this]
theorem max_run {k:IntKind} (a b:Int) (ts:Array TypeId) (ty:TypeId):(Builtin.max_ ts ty #[.int k a,.int k b]).run P w=.ok (.int k (max a b)) w:=by
 have:(if b>a then b else a)=max a b:=by omega
 simp [Builtin.max_,Builtin.max2,this]
end
end Go.Proofs.YtkihjakbbcajbaaGreat.PM
namespace Go.Proofs.YtkihjakbbcajbaaGreat.PM
set_option linter.unusedSimpArgs false
set_option linter.unusedVariables false
open Go
def CallOk (P:Program) (f:FuncId) (vs:Array Value) (w:World) (Post:Value→World→Prop):Prop:=
 (∃v w',(callFunc f vs).run P w=.ok (.value v) w'∧Post v w')∨
 ((callFunc f vs).run P w=.ok (.enter f vs) w∧Calls P f vs w fun e w'=>∃v,e=.returned v∧Post v w')
def NewRow (A:Nat→Prop) (w:World) (old:Option Nat) (u:Ty) (zs:List u.den) (v:Value) (w':World):Prop:=
 ∃s,SlV s v∧RowAt A w' s u zs∧(∀b,s.blk=some b→old=some b∨w.heap.size≤b)∧Keep (fun r=>w.heap.size≤r∨old=some r) w w'
structure OwnRow (A:Nat→Prop) (w:World) (s:Slot) (u:Ty) (xs:List u.den) (v:Value):Prop where
 val:SlV s v
 row:RowAt A w s u xs
 out:∀b,s.blk=some b→¬A b
 lt:∀r,A r→r<w.heap.size
def PrimSpec (P:Program) (f:FuncId):Prim→Prop
 |.clone u=>∀(A:Nat→Prop) (w:World) (v:Value) (ys:List u.den),Shown A w u v ys→(∀r,A r→r<w.heap.size)→ys.length*u.bytes≤140737488355328→CallOk P f #[v] w (NewRow A w none u ys)
 |.ins u=>∀(A:Nat→Prop) (w:World) (s:Slot) (v vv:Value) (xs ys:List u.den) (i:Nat),OwnRow A w s u xs v→Shown A w u vv ys→(∀b a l c,s.blk=some b→vv=.slice (some a) l c→0<l→a.block≠b)→i≤xs.length→(xs.length+ys.length)*u.bytes≤140737488355328→
   CallOk P f #[v,.int .i64 i,vv] w (NewRow A w s.blk u (xs.take i++ys++xs.drop i))
 |.del u=>∀(A:Nat→Prop) (w:World) (s:Slot) (v:Value) (xs:List u.den) (i j:Nat),OwnRow A w s u xs v→i≤j→j≤xs.length→CallOk P f #[v,.int .i64 i,.int .i64 j] w (NewRow A w s.blk u (xs.take i++xs.drop j))
 |.grow u=>∀(A:Nat→Prop) (w:World) (n:Nat),n*u.bytes≤140737488355328→CallOk P f #[.slice none 0 0,.int .i64 n] w (NewRow A w none u [])
 |.cmp=>∀(A:Nat→Prop) (w:World) (v v':Value) (xs ys:List Int),Shown A w (.int .u8) v xs→Shown A w (.int .u8) v' ys→CallOk P f #[v,v'] w fun z w'=>z=.int .i64 (cmpB xs ys)∧w'=w
structure EnvOk (P:Program) (E:Env):Prop where
 tab:tabB P E.tl=true
 eq:EqOk P E
 fns:∀f F,E.fns f=some F→FnSpec P E.globs f F
 prims:∀f p,look f E.prim=some p→PrimSpec P f p
section
variable {P:Program} {E:Env} {t:TypeId} {g:Gh} {A W:Nat→Prop} {w:World} {h:Hp}
theorem wp_val {o:Oper} {a:Act} {w w':World} {K:Act→World→Prop} {Q:Exit→Act→World→Prop} {v:Value} (hr:(execOp a.eval o).run P w=.ok (.value v) w') (hK:K (a.put o.dst v) w'):o.wp P a w K Q:=by
 unfold Oper.wp;rw [hr];exact hK
theorem wp_skip {o:Oper} {a:Act} {w w':World} {K:Act→World→Prop} {Q:Exit→Act→World→Prop} (hr:(execOp a.eval o).run P w=.ok .skip w') (hK:K (a.put o.dst undef) w'):o.wp P a w K Q:=by
 unfold Oper.wp;rw [hr];exact hK
theorem wp_enter {o:Oper} {a:Act} {w w':World} {K:Act→World→Prop} {Q:Exit→Act→World→Prop} {f:FuncId} {args:Array Value} (hr:(execOp a.eval o).run P w=.ok (.enter f args) w')
  (hK:Calls P f args w' fun e w''=>∃v,e=.returned v∧K (a.put o.dst v) w''):o.wp P a w K Q:=by
 unfold Oper.wp;rw [hr,Oper.upon_enter]
 exact hK.mono fun e w'' hh=>by
  obtain ⟨v,rfl,hv⟩:=hh
  exact hv
theorem of_undef:VRel g A w .undef Go.undef:=rfl
theorem seatI_ok (hT:tabB P E.tl=true) (H:HR g A W w h) {x y:PV} {v:Value} {nw:Nat} {h':Hp} (hx:VRel g A w x v) (e:(seatI E t x nw).Ok h y h'):∃g',Step g A W w g' A w h'∧VRel g' A w y v:=by
 cases x with
 |nils=>
  simp only [seatI,Ok_bind,Ok_get] at e
  obtain ⟨τ,h1,⟨_,rfl⟩,e⟩:=e
  obtain ⟨g',S,r,_⟩:=seat_ok H hx e
  exact ⟨g',S,r⟩
 |_=>
  simp only [seatI,Ok_ret] at e
  obtain ⟨rfl,rfl⟩:=e
  exact ⟨g,.refl H,hx⟩
theorem rels_of_list:∀(xs:List PV) (vs:List Value),ptrs xs=true→ListR g A w xs vs→rels g A w xs vs
 |[],[],_,_=>by unfold rels;rfl
 |x::xs,v::vs,hp,⟨h1,h2⟩=>by
  unfold ptrs at hp
  rw [List.all_cons,Bool.and_eq_true] at hp
  unfold rels
  refine ⟨[v],vs,rfl,?_,rels_of_list xs vs hp.2 h2⟩
  cases x with
  |ptr i p=>unfold VRel at h1;simp only [aggP] at h1;exact h1
  |_=>simp at hp
theorem list_of_rels:∀(xs:List PV) (vs:List Value),ptrs xs=true→rels g A w xs vs→ListR g A w xs vs
 |[],vs,_,h=>by unfold rels at h;subst h;trivial
 |x::xs,vs,hp,h=>by
  unfold ptrs at hp
  rw [List.all_cons,Bool.and_eq_true] at hp
  unfold rels at h
  obtain ⟨c,d,rfl,h2,h3⟩:=h
  cases x with
  |ptr i p=>
   obtain ⟨u,rfl,_⟩:=rel_single (.ptr i p) c rfl h2
   exact ⟨by unfold VRel;simp only [aggP];exact h2,list_of_rels xs d hp.2 h3⟩
  |_=>simp at hp
theorem list_app:∀{xs:List PV} {vs:List Value} {ys:List PV} {us:List Value},ListR g A w xs vs→ListR g A w ys us→ListR g A w (xs++ys) (vs++us)
 |[],[],_,_,_,h=>h
 |_::_,_::_,_,_,⟨h1,h2⟩,h=>⟨h1,list_app h2 h⟩
theorem opds_list {gl tm:List (Nat × PV)} {ρ:Operand→Value} (hρ:∀o x,opd gl tm o=some x→VRel g A w x (ρ o)):∀{l:List Operand} {xs:List PV},opds gl tm l=some xs→ListR g A w xs (l.map ρ)
 |[],xs,e=>by
  simp only [opds,Option.some.injEq] at e;subst e;trivial
 |o::l,xs,e=>by
  simp only [opds,Option.bind_eq_some_iff,Option.some.injEq] at e
  obtain ⟨a,e1,b,e2,rfl⟩:=e
  exact ⟨hρ o a e1,opds_list hρ e2⟩
theorem list1 {x:PV} {vs:List Value} (h:ListR g A w [x] vs):∃v,vs=[v]∧VRel g A w x v:=by
 cases vs with
 |nil=>exact h.elim
 |cons v vs=>cases vs with
  |nil=>exact ⟨v,rfl,h.1⟩
  |cons _ _=>exact h.2.elim
theorem list2 {x y:PV} {vs:List Value} (h:ListR g A w [x,y] vs):∃v u,vs=[v,u]∧VRel g A w x v∧VRel g A w y u:=by
 cases vs with
 |nil=>exact h.elim
 |cons v vs=>
  obtain ⟨u,rfl,h2⟩:=list1 h.2
  exact ⟨v,u,rfl,h.1,h2⟩
theorem tups_get:∀(xs:List PV) (vs:List Value) (i:Nat) (x:PV),tups g A w xs vs→xs[i]?=some x→∃v,vs[i]?=some v∧VRel g A w x v
 |[],_,_,_,_,e=>by simp at e
 |x::xs,vs,0,y,h,e=>by
  unfold tups at h
  obtain ⟨v,r,rfl,h1,_⟩:=h
  simp at e;subst e
  exact ⟨v,rfl,h1⟩
 |x::xs,vs,i+1,y,h,e=>by
  unfold tups at h
  obtain ⟨v,r,rfl,_,h2⟩:=h
  obtain ⟨u,h3,h4⟩:=tups_get xs r i y h2 (by simpa using e)
  exact ⟨u,by simpa using h3,h4⟩
theorem builtin_ok (hE:EnvOk P E) (H:HR g A W w h) (hW:∀r,w.heap.size≤r→W r) {b:Builtin} {ts:Array TypeId} {ty:TypeId} {cs:Array Bool} {xs:List PV} {vs:List Value} {share:Bool} {nw:Nat} {y:PV} {h':Hp} (hv:ListR g A w xs vs) (e:(builtinQ E b ts.toList xs share nw).Ok h y h'):
  ∃g' A' w' v,(builtin b ts ty cs vs.toArray).run P w=.ok (.value v) w'∧Step g A W w g' A' w' h'∧VRel g' A' w' y v:=by
 unfold builtinQ at e
 split at e
 ·rename_i t x hts
  obtain ⟨v,rfl,hx⟩:=list1 hv
  have hts':ts=#[t]:=Array.toList_inj.1 hts
  subst hts'
  obtain ⟨rfl,z,r,hz⟩:=len_ok hE.tab H hx e ty
  exact ⟨g,A,w,z,by simp [builtin,r],.refl H,hz⟩
 ·rename_i t t' s x hts
  rw [Ok_cond] at e
  rcases e with ⟨ht,e⟩|⟨_,e⟩
  ·obtain rfl:=Nat.eq_of_beq_eq_true ht
   obtain ⟨v,u,rfl,hx,hy⟩:=list2 hv
   have hts':ts=#[t,t]:=Array.toList_inj.1 hts
   subst hts'
   obtain ⟨g',A',w',z,r,S,hz⟩:=append_ok hE.tab ty H hW hx hy e
   exact ⟨g',A',w',z,by simp [builtin,r],S,hz⟩
  ·obtain ⟨v,u,rfl,hx,hy⟩:=list2 hv
   have hts':ts=#[t,t']:=Array.toList_inj.1 hts
   subst hts'
   obtain ⟨g',A',w',z,r,S,hz⟩:=appendZ_ok hE.tab ty H hW hx hy e
   exact ⟨g',A',w',z,by simp [builtin,r],S,hz⟩
 ·rename_i t ts' d s hts
  obtain ⟨v,u,rfl,hx,hy⟩:=list2 hv
  have hts':ts=(t::ts').toArray:=Array.toList_inj.1 hts
  subst hts'
  obtain ⟨w',z,r,S,hz⟩:=copy_ok hE.tab ts' ty H hx hy e
  exact ⟨g,A,w',z,by simp only [builtin,Sem.run_bind];rw [r];rfl,S,hz⟩
 ·rename_i t ts' d hts
  obtain ⟨v,rfl,hx⟩:=list1 hv
  have hts':ts=(t::ts').toArray:=Array.toList_inj.1 hts
  subst hts'
  obtain ⟨w',z,r,S,hz⟩:=clear_ok hE.tab ts' ty H hx e
  exact ⟨g,A,w',z,by simp only [builtin,Sem.run_bind];rw [r];rfl,S,hz⟩
 ·rename_i k a l b
  rw [Ok_cond,decide_eq_true_eq] at e
  rcases e with ⟨rfl,e⟩|⟨_,e⟩
  ·rw [Ok_ret] at e;obtain ⟨rfl,rfl⟩:=e
   obtain ⟨v,u,rfl,hx,hy⟩:=list2 hv
   obtain rfl:=v_int hx
   obtain rfl:=v_int hy
   exact ⟨g,A,w,_,by simp [builtin,min_run],.refl H,of_int _ _⟩
  ·exact e.elim
 ·rename_i k a l b
  rw [Ok_cond,decide_eq_true_eq] at e
  rcases e with ⟨rfl,e⟩|⟨_,e⟩
  ·rw [Ok_ret] at e;obtain ⟨rfl,rfl⟩:=e
   obtain ⟨v,u,rfl,hx,hy⟩:=list2 hv
   obtain rfl:=v_int hx
   obtain rfl:=v_int hy
   exact ⟨g,A,w,_,by simp [builtin,max_run],.refl H,of_int _ _⟩
  ·exact e.elim
 ·exact e.elim
theorem oopd_rel {gl tm:List (Nat × PV)} {ρ:Operand→Value} (hρ:∀o x,opd gl tm o=some x→VRel g A w x (ρ o)) {o:Option Operand} {x:Option PV} (e:oopd gl tm o=some x):OptR g A w x (o.map ρ):=by
 cases o with
 |none=>simp only [oopd,Option.some.injEq] at e;subst e;trivial
 |some o=>
  simp only [oopd,Option.map_eq_some_iff] at e
  obtain ⟨a,e,rfl⟩:=e
  exact hρ o a e
theorem parts_arr (ps:Array (Nat × Operand)) (ρ:Operand→Value):(ps.map fun (i,x)=>(i,ρ x))=(ps.toList.map fun p=>(p.1,ρ p.2)).toArray:=by
 apply Array.toList_inj.1;simp
theorem CallOk.mono {f:FuncId} {vs:Array Value} {p q:Value→World→Prop} (hpq:∀v w',p v w'→q v w'):CallOk P f vs w p→CallOk P f vs w q
 |.inl ⟨v,w',h1,h2⟩=> .inl ⟨v,w',h1,hpq v w' h2⟩
 |.inr ⟨h1,h2⟩=> .inr ⟨h1,h2.mono fun _ w' ⟨v,e,h⟩=>⟨v,e,hpq v w' h⟩⟩
theorem HR.delOff {w':World} (H:HR g A W w h) {id:Nat} {B:Blk} {s:Slot} (hb:h.at id=some B) (hl:B.live=true) (hg:g id=some s) (hw:∀r,r<w.heap.size→s.blk≠some r→w'.heap[r]?=w.heap[r]?) (hz:w.heap.size≤w'.heap.size):
  HR g A W w' ((id,none)::h)∧(∀b,s.blk=some b→Free g ((id,none)::h) b)∧∀i C s' r,Hp.at ((id,none)::h) i=some C→g i=some s'→s'.blk=some r→s.blk≠some r:=by
 have off:∀i C s' r,Hp.at ((id,none)::h) i=some C→g i=some s'→s'.blk=some r→s.blk≠some r:=fun i C s' r e hg' hr hs=>by
  rw [at_cons] at e
  split at e
  ·cases e
  ·rename_i hne
   cases hC:C.live with
   |true=>exact hne (H.inj i id C B s' s r e hb hC hl hg' hg hr hs)
   |false=>
    have ho:=(H.own id B s r hb hl hg hs).1
    cases C with
    |box x=>cases hC
    |row t xs fz=>
     cases fz with
     |false=>cases hC
     |true=>
      obtain ⟨s2,h1,_,h3⟩:=H.blk i _ e
      rw [hg'] at h1;injection h1 with h1;subst h1
      exact ho (h3 rfl r hr)
 refine ⟨(H.del id).move (fun r hr=>hw r (H.lt r hr) (fun hs=>(H.own id B s r hb hl hg hs).1 hr)) (fun i C s' r e hg' hr=>hw r (((H.del id).blk i C e).lt hg' hr) (off i C s' r e hg' hr)) hz,fun b hs i C s' e _ hg' hr=>off i C s' b e hg' hr hs,off⟩
theorem newRow_ok (H:HR g A W w h) (hW:∀r,w.heap.size≤r→W r) {id nw:Nat} {t u:Ty} {xs:List t.den} {zs:List u.den} {s:Slot} {v:Value} {w':World} (hb:h.at id=some (.row t xs false)) (hg:g id=some s) (hn:look nw ((id,none)::h)=none) (R:NewRow A w s.blk u zs v w'):
  ∃g' A',Step g A W w g' A' w' ((nw,some (.row u zs false))::(id,none)::h)∧VRel g' A' w' (.sl nw) v:=by
 obtain ⟨s',h1,h2,h3,K⟩:=R
 have hsame:∀r,r<w.heap.size→s.blk≠some r→w'.heap[r]?=w.heap[r]?:=fun r hr hs=>K.block r hr (fun h=>h.elim (fun h=>by omega) hs)
 obtain ⟨H1,hf,_⟩:=H.delOff hb rfl hg hsame K.size
 have hown:∀r,s.blk=some r→¬A r∧W r:=fun r hr=>H.own id _ s r hb rfl hg hr
 have hA:∀r,A r→w'.heap[r]?=w.heap[r]?:=fun r hr=>hsame r (H.lt r hr) (fun hs=>(hown r hs).1 hr)
 refine ⟨upd g nw s',A,⟨le_upd (H1.gnone hn),fun _ h=>h,fun _ h=> .inl h,H1.add hn s' ⟨s',upd_self _ _ _,h2,fun h=>by cases h⟩ (fun _ r hr=>?_),hA,K.os,K.tape,K.output,K.size,fun r hr hw=>hsame r hr (fun hs=>hw (hown r hs).2)⟩,of_sl (upd_self _ _ _) h1⟩
 rcases h3 r hr with h|h
 ·exact ⟨(hown r h).1,(hown r h).2,hf r h⟩
 ·exact ⟨fun ha=>by have:=H.lt r ha;omega,hW r h,(H.free h).del⟩
theorem newRow_ok0 (H:HR g A W w h) (hW:∀r,w.heap.size≤r→W r) {nw:Nat} {u:Ty} {zs:List u.den} {v:Value} {w':World} (hn:look nw h=none) (R:NewRow A w none u zs v w'):
  ∃g' A',Step g A W w g' A' w' ((nw,some (.row u zs false))::h)∧VRel g' A' w' (.sl nw) v:=by
 obtain ⟨s',h1,h2,h3,K⟩:=R
 have hsame:∀r,r<w.heap.size→w'.heap[r]?=w.heap[r]?:=fun r hr=>K.block r hr (fun h=>h.elim (fun h=>by omega) (fun h=>by cases h))
 have H1:HR g A W w' h:=H.move (fun r hr=>hsame r (H.lt r hr)) (fun i C s' r e hg' hr=>hsame r ((H.blk i C e).lt hg' hr)) K.size
 refine ⟨upd g nw s',A,⟨le_upd (H1.gnone hn),fun _ h=>h,fun _ h=> .inl h,H1.add hn s' ⟨s',upd_self _ _ _,h2,fun h=>by cases h⟩ (fun _ r hr=>?_),fun r hr=>hsame r (H.lt r hr),K.os,K.tape,K.output,K.size,fun r hr _=>hsame r hr⟩,of_sl (upd_self _ _ _) h1⟩
 rcases h3 r hr with h|h
 ·cases h
 ·exact ⟨fun ha=>by have:=H.lt r ha;omega,hW r h,H.free h⟩
theorem int64_out {x:PV} {n:Int} {v:Value} {h':Hp} (hx:VRel g A w x v) (e:(int64 x).Ok h n h'):h'=h∧v=.int .i64 n:=by
 unfold int64 at e
 split at e
 ·rw [Ok_ret] at e;obtain ⟨rfl,rfl⟩:=e
  exact ⟨rfl,v_int hx⟩
 ·exact e.elim
theorem ownRow_out (H:HR g A W w h) {u:Ty} {x:PV} {xs:List u.den} {v:Value} {h':Hp} (hx:VRel g A w x v) (e:(ownRow u x).Ok h xs h'):
  ∃id s,h.at id=some (.row u xs false)∧g id=some s∧h'=(id,none)::h∧OwnRow A w s u xs v:=by
 cases x with
 |sl id=>
  simp only [ownRow,Q.Ok] at e
  obtain ⟨B,hb,e⟩:=e
  cases B with
  |box x=>simp [Q.Ok] at e
  |row t ys fz=>
   cases fz with
   |true=>simp [Q.Ok] at e
   |false=>
    simp only [Ok_bind,Ok_get,Q.Ok] at e
    obtain ⟨ys',h1,⟨ec0,rfl⟩,_,rfl,rfl⟩:=e
    obtain ⟨ec,_⟩:=cast_some ec0
    injection ec with ec
    subst ec
    obtain rfl:=cast_self ec0
    obtain ⟨s,hg,hv⟩:=to_sl hx
    obtain ⟨s',hg',hrow,_⟩:=H.blk id _ hb
    rw [hg] at hg';injection hg' with hg';subst hg'
    exact ⟨id,s,hb,hg,rfl,hv,hrow,fun b hs=>(H.own id _ s b hb rfl hg hs).1,H.lt⟩
 |_=>simp [ownRow,Q.Ok] at e
theorem prim_ok {f:FuncId} {p:Prim} (hp:PrimSpec P f p) (H:HR g A W w h) (hW:∀r,w.heap.size≤r→W r) {xs:List PV} {vs:List Value} {nw:Nat} {x:PV} {h':Hp} (hv:ListR g A w xs vs) (e:(primQ p xs nw).Ok h x h'):
  CallOk P f vs.toArray w fun v w'=>∃g' A',Step g A W w g' A' w' h'∧VRel g' A' w' x v:=by
 unfold primQ at e
 split at e
 ·rename_i u
  split at e
  ·rename_i x1
   obtain ⟨v,rfl,hx⟩:=list1 hv
   simp only [Ok_bind,Ok_ask,Ok_cond,Ok_fail,and_false,or_false,Q.Ok] at e
   obtain ⟨ys,h1,e1,hlim,_,hn,rfl,rfl⟩:=e
   obtain ⟨rfl,hs⟩:=dec_shown H hx e1
   exact (hp A w v ys hs H.lt (lim_out hlim)).mono fun v w' R=>newRow_ok0 H hW hn R
  ·exact e.elim
 ·rename_i u
  split at e
  ·rename_i x1 i1 v1
   obtain ⟨v,us,rfl,hx,hr⟩:=listR_cons hv
   obtain ⟨vi,vv,rfl,hi,hvv⟩:=list2 hr
   simp only [Ok_bind,Ok_ask,Ok_cond,Ok_fail,and_false,or_false,Q.Ok,Bool.and_eq_true,decide_eq_true_eq] at e
   obtain ⟨zs,h1,e1,i,h2,e2,ys,h3,e3,⟨⟨hi0,hi1⟩,hlim⟩,_,hn,rfl,rfl⟩:=e
   obtain ⟨id,s,hb,hg,rfl,O⟩:=ownRow_out H hx e1
   obtain ⟨rfl,rfl⟩:=int64_out hi e2
   obtain ⟨H1,_,off⟩:=H.delOff hb rfl hg (fun _ _ _=>rfl) (Nat.le_refl _)
   obtain ⟨rfl,hs⟩:=dec_shown H1 hvv e3
   have hnn:i=(i.toNat:Int):=by rw [Int.toNat_of_nonneg hi0]
   have hap:∀b a l c,s.blk=some b→vv=.slice (some a) l c→0<l→a.block≠b:=fun b a l c hsb hvv' hl hab=>by
    have hag:aggP v1=(Ty.slice u).agg:=dec_agg _ _ _ _ _ e3
    have hrel:=single_of (by rw [hag];rfl) hvv
    have hd:=(dec_rel H1 (.slice u) v1 ys _ [vv] hrel e3).2
    obtain ⟨a',cap,h4,h5,h6⟩:=hd
    injection h4 with h4
    rw [hvv'] at h4
    injection h4 with h7 h8 h9
    obtain ⟨ad,k1,k2,k3,_⟩:=h6 (by omega)
    rw [←h7] at k1;injection k1 with k1;subst k1
    rw [hab] at k3
    rcases k3 with k3|⟨i,C,s',k4,k5,k6⟩
    ·exact O.out b hsb k3
    ·exact off i C s' b k4 k5 k6 hsb
   have:=hp A w s v vv zs ys i.toNat O hs hap (by omega) (lim_out hlim)
   rw [←hnn] at this
   exact this.mono fun v w' R=>newRow_ok H hW hb hg hn R
  ·exact e.elim
 ·rename_i u
  split at e
  ·rename_i x1 i1 v1
   obtain ⟨v,us,rfl,hx,hr⟩:=listR_cons hv
   obtain ⟨vi,vj,rfl,hi,hj⟩:=list2 hr
   simp only [Ok_bind,Ok_ask,Ok_cond,Ok_fail,and_false,or_false,Q.Ok,decide_eq_true_eq] at e
   obtain ⟨zs,h1,e1,i,h2,e2,j,h3,e3,⟨hi0,hij,hj1⟩,_,hn,rfl,rfl⟩:=e
   obtain ⟨id,s,hb,hg,rfl,O⟩:=ownRow_out H hx e1
   obtain ⟨rfl,rfl⟩:=int64_out hi e2
   obtain ⟨rfl,rfl⟩:=int64_out hj e3
   have hnn:i=(i.toNat:Int):=by rw [Int.toNat_of_nonneg hi0]
   have hnj:j=(j.toNat:Int):=by rw [Int.toNat_of_nonneg (by omega)]
   have:=hp A w s v zs i.toNat j.toNat O (by omega) (by omega)
   rw [←hnn,←hnj] at this
   exact this.mono fun v w' R=>newRow_ok H hW hb hg hn R
  ·exact e.elim
 ·rename_i u
  split at e
  ·rename_i n1
   obtain ⟨v,vn,rfl,hx,hi⟩:=list2 hv
   simp only [Ok_bind,Ok_ask,Ok_cond,Ok_fail,and_false,or_false,Q.Ok,Bool.and_eq_true,decide_eq_true_eq] at e
   obtain ⟨n,h2,e2,⟨hn0,hlim⟩,_,hn,rfl,rfl⟩:=e
   obtain ⟨rfl,rfl⟩:=int64_out hi e2
   have hv0:v=.slice none 0 0:=by
    unfold VRel at hx;simp only [aggP] at hx;unfold PV.rel at hx
    simpa using hx
   subst hv0
   have hnn:n=(n.toNat:Int):=by rw [Int.toNat_of_nonneg hn0]
   have:=hp A w n.toNat (lim_out hlim)
   rw [←hnn] at this
   exact this.mono fun v w' R=>newRow_ok0 H hW hn R
  ·exact e.elim
 ·split at e
  ·rename_i x1 y1
   obtain ⟨v,v',rfl,hx,hy⟩:=list2 hv
   simp only [Ok_bind,Ok_ret] at e
   obtain ⟨avs,h1,e1,bs,h2,e2,rfl,rfl⟩:=e
   obtain ⟨rfl,hs1⟩:=dec_shown H hx e1
   obtain ⟨rfl,hs2⟩:=dec_shown H hy e2
   refine (hp A w v v' avs bs hs1 hs2).mono fun z w' ⟨hz,hw⟩=>?_
   subst hz hw
   exact ⟨g,A,.refl H,of_int _ _⟩
  ·exact e.elim
theorem op_ok (hE:EnvOk P E) {tm:List (Nat × PV)} {o:Oper} {nw:Nat} {a:Act} {x:PV} {h':Hp} (H:HR g A W w h) (hW:∀r,w.heap.size≤r→W r) (hG:GlOk E.globs A w) (hρ:∀o x,opd E.globs tm o=some x→VRel g A w x (a.eval o)) (e:(opQ E tm o nw).Ok h x h') {K:Act→World→Prop} {Q:Exit→Act→World→Prop}
  (hK:∀g' A' w' v,Step g A W w g' A' w' h'→VRel g' A' w' x v→K (a.put o.dst v) w'):o.wp P a w K Q:=by
 unfold opQ at e
 split at e
 ·
  rename_i y hop
  simp only [Ok_bind,Ok_get] at e
  obtain ⟨z,h1,⟨e1,rfl⟩,e⟩:=e
  obtain ⟨g',S,r⟩:=seatI_ok hE.tab H (hρ _ _ e1) e
  exact wp_val (by simp [execOp,hop]) (hK _ _ _ _ S r)
 ·rename_i y hop
  simp only [Ok_bind,Ok_get] at e
  obtain ⟨z,h1,⟨e1,rfl⟩,e⟩:=e
  obtain ⟨g',S,r⟩:=seatI_ok hE.tab H (hρ _ _ e1) e
  exact wp_val (by simp [execOp,hop]) (hK _ _ _ _ S r)
 ·
  rename_i c y z hop
  simp only [Ok_bind,Ok_get] at e
  obtain ⟨b,h1,⟨e1,rfl⟩,e⟩:=e
  have hb:=hρ _ _ e1
  split at e
  ·rename_i t
   have hb:=v_bool hb
   rcases e with ⟨rfl,e⟩|⟨rfl,e⟩
   ·simp only [Ok_bind,Ok_get] at e
    obtain ⟨u,h2,⟨e2,rfl⟩,e⟩:=e
    obtain ⟨g',S,r⟩:=seatI_ok hE.tab H (hρ _ _ e2) e
    exact wp_val (by simp [execOp,hop,hb,asBool]) (hK _ _ _ _ S r)
   ·simp only [Ok_bind,Ok_get] at e
    obtain ⟨u,h2,⟨e2,rfl⟩,e⟩:=e
    obtain ⟨g',S,r⟩:=seatI_ok hE.tab H (hρ _ _ e2) e
    exact wp_val (by simp [execOp,hop,hb,asBool]) (hK _ _ _ _ S r)
  ·exact e.elim
 ·rename_i t hop
  obtain ⟨g',w',v,r,S,hv⟩:=alloc_ok hE.tab H hW e
  exact wp_val (by simp [execOp,hop,r]) (hK _ _ _ _ S hv)
 ·rename_i t y hop
  rw [Ok_bind] at e
  obtain ⟨τ,h1,e1,e⟩:=e
  rw [Ok_bind] at e
  obtain ⟨z,h2,e2,e⟩:=e
  rw [Ok_get] at e1 e2
  obtain ⟨e1,rfl⟩:=e1
  obtain ⟨e2,rfl⟩:=e2
  have hb:∃g' w' u,(Instr.box t (a.eval y)).run P w=.ok u w'∧Step g A W w g' A w' h'∧VRel g' A w' x u:=
   box_ok (P:=P) (E:=E) (t:=t) H hW (hρ _ _ e2) (nw:=nw) (y:=x) (h':=h') (by
    rw [Ok_bind];exact ⟨τ,_,by rw [Ok_get];exact ⟨e1,rfl⟩,e⟩)
  obtain ⟨g',w',v,r,S,hv⟩:=hb
  exact wp_val (by simp [execOp,hop,r]) (hK _ _ _ _ S hv)
 ·rename_i t ps hop
  simp only [Ok_bind,Ok_get] at e
  obtain ⟨qs,h1,⟨e1,rfl⟩,e⟩:=e
  obtain ⟨g',A',v,r,S,hv⟩:=build_ok hE.tab H (opds_rel hρ e1) e
  exact wp_val (by simp only [execOp,hop,parts_arr,Sem.run_bind,r];rfl) (hK _ _ _ _ S hv)
 ·rename_i t n ps hop
  simp only [Ok_bind,Ok_get] at e
  obtain ⟨qs,h1,⟨e1,rfl⟩,e⟩:=e
  obtain ⟨g',A',w',v,r,S,hv⟩:=buildSlice_ok hE.tab H hW (opds_rel hρ e1) e
  exact wp_val (by simp only [execOp,hop,parts_arr,Sem.run_bind,r];rfl) (hK _ _ _ _ S hv)
 ·rename_i t y hop
  simp only [Ok_bind,Ok_get] at e
  obtain ⟨z,h1,⟨e1,rfl⟩,e⟩:=e
  have e':=e
  simp only [loadQ,Ok_bind,Ok_get] at e'
  obtain ⟨τ,_,⟨hτ,_⟩,_⟩:=e'
  obtain ⟨rfl,v,r,hv⟩:=load_ok (P:=P) (tabB_look hE.tab hτ) hτ H (hρ _ _ e1) e
  exact wp_val (by simp [execOp,hop,r]) (hK _ _ _ _ (.refl H) hv)
 ·rename_i t y z hop
  simp only [Ok_bind,Ok_get] at e
  obtain ⟨u1,h1,⟨e1,rfl⟩,u2,h2,⟨e2,rfl⟩,e⟩:=e
  have e':=e
  simp only [storeQ,Ok_bind,Ok_get] at e'
  obtain ⟨τ,_,⟨hτ,_⟩,_⟩:=e'
  obtain ⟨rfl,g',A',w',r,S⟩:=store_ok (P:=P) (tabB_look hE.tab hτ) hτ H (hρ _ _ e1) (hρ _ _ e2) e
  exact wp_skip (by simp [execOp,hop,r]) (hK _ _ _ _ S of_undef)
 ·rename_i y hop
  simp only [Ok_bind,Ok_get] at e
  obtain ⟨z,h1,⟨e1,rfl⟩,e⟩:=e
  have hz:=hρ _ _ e1
  split at e
  ·rw [Ok_ret] at e;obtain ⟨rfl,rfl⟩:=e
   obtain ⟨s,b,_,_,hv,_⟩:=rel_ptr hz
   exact wp_val (v:=a.eval y) (by simp [execOp,hop,hv]) (hK _ _ _ _ (.refl H) hz)
  ·rw [Ok_ret] at e;obtain ⟨rfl,rfl⟩:=e
   obtain ⟨ad,c,hv,_⟩:=rel_iptr hz
   exact wp_val (v:=a.eval y) (by simp [execOp,hop,hv]) (hK _ _ _ _ (.refl H) hz)
  ·exact e.elim
 ·rename_i op t y z i hop
  simp only [Ok_bind,Ok_get] at e
  obtain ⟨u1,h1,⟨e1,rfl⟩,u2,h2,⟨e2,rfl⟩,e⟩:=e
  obtain ⟨rfl,q,v,r,hv⟩:=bin_ok (P:=P) (ox:=y) (oy:=z) hE.tab hE.eq H (hρ _ _ e1) (hρ _ _ e2) e
  exact wp_val (by simp [execOp,hop,q,r]) (hK _ _ _ _ (.refl H) hv)
 ·rename_i op t y hop
  simp only [Ok_bind,Ok_get] at e
  obtain ⟨u1,h1,⟨e1,rfl⟩,e⟩:=e
  obtain ⟨rfl,v,r,hv⟩:=un_ok (P:=P) (hρ _ _ e1) e
  exact wp_val (by simp [execOp,hop,r]) (hK _ _ _ _ (.refl H) hv)
 ·rename_i s t y hop
  simp only [Ok_bind,Ok_get] at e
  obtain ⟨u1,h1,⟨e1,rfl⟩,e⟩:=e
  obtain ⟨rfl,v,r,hv⟩:=conv_ok (P:=P) hE.tab H (hρ _ _ e1) e
  exact wp_val (by simp [execOp,hop,r]) (hK _ _ _ _ (.refl H) hv)
 ·rename_i t y z hop
  simp only [Ok_bind,Ok_get] at e
  obtain ⟨u1,h1,⟨e1,rfl⟩,u2,h2,⟨e2,rfl⟩,e⟩:=e
  obtain ⟨g',w',v,r,S,hv⟩:=makeSlice_ok hE.tab H hW (hρ _ _ e1) (hρ _ _ e2) e
  exact wp_val (by simp [execOp,hop,r]) (hK _ _ _ _ S hv)
 ·rename_i t y lo hi mx hop
  rw [Ok_cond] at e
  rcases e with ⟨hm,e⟩|⟨_,e⟩
  ·simp only [Ok_bind,Ok_get] at e
   obtain ⟨u1,h1,⟨e1,rfl⟩,u2,h2,⟨e2,rfl⟩,u3,h3,⟨e3,rfl⟩,e⟩:=e
   obtain ⟨rfl,v,r,hv⟩:=slice_ok (P:=P) hE.tab H (hρ _ _ e1) (oopd_rel hρ e2) (oopd_rel hρ e3) e
   have hm:mx=none:=by simpa using hm
   subst hm
   exact wp_val (by simp [execOp,hop,r]) (hK _ _ _ _ (.refl H) hv)
  ·exact e.elim
 ·rename_i t y i hop
  simp only [Ok_bind,Ok_get] at e
  obtain ⟨u1,h1,⟨e1,rfl⟩,e⟩:=e
  obtain ⟨rfl,v,r,hv⟩:=fieldAddr_ok (P:=P) hE.tab (hρ _ _ e1) e
  exact wp_val (by simp [execOp,hop,r]) (hK _ _ _ _ (.refl H) hv)
 ·rename_i t y i hop
  simp only [Ok_bind,Ok_get] at e
  obtain ⟨u1,h1,⟨e1,rfl⟩,u2,h2,⟨e2,rfl⟩,e⟩:=e
  obtain ⟨rfl,v,r,hv⟩:=indexAddr_ok (P:=P) hE.tab H (hρ _ _ e1) (hρ _ _ e2) e
  exact wp_val (by simp [execOp,hop,r]) (hK _ _ _ _ (.refl H) hv)
 ·rename_i t y i hop
  simp only [Ok_bind,Ok_get] at e
  obtain ⟨u1,h1,⟨e1,rfl⟩,u2,h2,⟨e2,rfl⟩,e⟩:=e
  obtain ⟨rfl,v,r,hv⟩:=index_ok (P:=P) hE.tab (hρ _ _ e1) (hρ _ _ e2) e
  exact wp_val (by simp [execOp,hop,r]) (hK _ _ _ _ (.refl H) hv)
 ·rename_i f first caps hop
  split at e
  ·rename_i f
   rw [Ok_cond] at e
   rcases e with ⟨hfe,e⟩|⟨_,e⟩
   ·simp only [Ok_bind,Ok_get] at e
    obtain ⟨xs,h1,⟨e1,rfl⟩,e⟩:=e
    rw [Ok_cond] at e
    rcases e with ⟨hp,e⟩|⟨_,e⟩
    ·have hl:=opds_list hρ e1
     have hfirst:first=#[]:=by
      apply Array.toList_inj.1
      exact List.isEmpty_iff.1 hfe
     subst hfirst
     rw [Ok_ret] at e
     obtain ⟨rfl,rfl⟩:=e
     refine wp_val (w':=w) (v:=.func (.func f) #[] (caps.map a.eval)) (by simp [execOp,hop,Instr.makeFunc]) (hK _ _ _ _ (.refl H) ?_)
     unfold VRel;simp only [aggP];unfold PV.rel
     refine ⟨caps.map a.eval,rfl,?_⟩
     have hm:(caps.map a.eval).toList=caps.toList.map a.eval:=by simp
     rw [hm]
     exact rels_of_list _ _ hp hl
    ·exact e.elim
   ·exact e.elim
  ·exact e.elim
 ·rename_i y i hop
  simp only [Ok_bind,Ok_get] at e
  obtain ⟨u1,h1,⟨e1,rfl⟩,e⟩:=e
  have hz:=hρ _ _ e1
  split at e
  ·rename_i xs
   rw [Ok_get] at e
   obtain ⟨e,rfl⟩:=e
   unfold VRel at hz;simp only [aggP] at hz;unfold PV.rel at hz
   obtain ⟨vs,hv,ht⟩:=hz
   injection hv with hv
   obtain ⟨v,h1,h2⟩:=tups_get xs vs.toList i x ht e
   exact wp_val (v:=v) (by
    have h1:vs[i]?=some v:=by simpa using h1
    simp [execOp,hop,hv,Instr.extract,h1]) (hK _ _ _ _ (.refl H) h2)
  ·exact e.elim
 ·rename_i c hop
  simp only [Ok_bind,Ok_get] at e
  obtain ⟨xs,h1,⟨e1,rfl⟩,e⟩:=e
  have hl:=opds_list hρ e1
  split at e
  ·rename_i b hc
   obtain ⟨g',A',w',v,r,S,hv⟩:=builtin_ok (ty:=o.type) (cs:=c.args.map fun|.const _=>true|_=>false) hE H hW hl e
   have ha:(c.args.toList.map a.eval).toArray=c.args.map a.eval:=by apply Array.toList_inj.1;simp
   rw [ha] at r
   exact wp_val (by simp only [execOp,hop,resolve,hc,Sem.run_bind,Sem.run_pure,Result.andThen_ok,invoke];exact r) (hK _ _ _ _ S hv)
  ·rename_i f hc
   simp only [Ok_bind,Ok_get] at e
   obtain ⟨z,h2,⟨e2,rfl⟩,e⟩:=e
   have hz:=hρ _ _ e2
   split at e
   ·rename_i f' caps
    unfold VRel at hz;simp only [aggP] at hz;unfold PV.rel at hz
    obtain ⟨vs,hv,hcaps⟩:=hz
    injection hv with hv
    have ha:(c.args.toList.map a.eval).toArray=c.args.map a.eval:=by apply Array.toList_inj.1;simp
    split at e
    ·rename_i p hp
     rw [Ok_cond] at e
     rcases e with ⟨hce,e⟩|⟨_,e⟩
     ·have hc0:caps=[]:=List.isEmpty_iff.1 hce
      subst hc0
      unfold rels at hcaps
      have hvs:vs=#[]:=Array.toList_inj.1 hcaps
      subst hvs
      have C:=prim_ok (hE.prims f' p hp) H hW hl e
      rw [ha] at C
      rcases C with ⟨v,w',hr,g',A',S,hv2⟩|⟨hr,C⟩
      ·exact wp_val (w':=w') (v:=v) (by
        simp only [execOp,hop,resolve,hc,hv,Deferred.ofValue,Sem.run_bind,Sem.run_pure,Result.andThen_ok,invoke]
        simpa using hr) (hK _ _ _ _ S hv2)
      ·refine wp_enter (f:=f') (args:=c.args.map a.eval) (w':=w) ?_ (C.mono fun e w' hh=>?_)
       ·simp only [execOp,hop,resolve,hc,hv,Deferred.ofValue,Sem.run_bind,Sem.run_pure,Result.andThen_ok,invoke]
        simpa using hr
       ·obtain ⟨v,rfl,g',A',S,hv⟩:=hh
        exact ⟨v,rfl,hK _ _ _ _ S hv⟩
     ·exact e.elim
    ·simp only [Ok_bind,Ok_get] at e
     obtain ⟨F,h3,⟨e3,rfl⟩,e⟩:=e
     rw [Ok_cond] at e
     rcases e with ⟨hpt,e⟩|⟨_,e⟩
     ·have hl2:ListR g A w (xs++caps) (c.args.toList.map a.eval++vs.toList):=list_app hl (list_of_rels _ _ hpt hcaps)
      have C:=call_ok hG (hE.fns f' F e3) H hW hl2 e
      have ha2:(c.args.toList.map a.eval++vs.toList).toArray=c.args.map a.eval++vs:=by apply Array.toList_inj.1;simp
      rw [ha2] at C
      refine wp_enter (f:=f') (args:=c.args.map a.eval++vs) (w':=w) ?_ (C.mono fun e w' hh=>?_)
      ·have hr:=(hE.fns f' F e3).enter (c.args.map a.eval++vs) w
       simp only [execOp,hop,resolve,hc,hv,Deferred.ofValue,Sem.run_bind,Sem.run_pure,Result.andThen_ok,invoke]
       simpa using hr
      ·obtain ⟨g',A',v,rfl,S,hv⟩:=hh
       exact ⟨v,rfl,hK _ _ _ _ S hv⟩
     ·exact e.elim
   ·exact e.elim
  ·exact e.elim
 ·exact e.elim
end
end Go.Proofs.YtkihjakbbcajbaaGreat.PM
namespace Go.Proofs.YtkihjakbbcajbaaGreat.PM
set_option linter.unusedSimpArgs false
set_option linter.unusedVariables false
open Go
def Q.OkT {α:Type}:Q α→Hp→α→Hp→List Nat→Prop
 |.ret x,_,a,ws,rs=>a=x∧ws=[]∧rs=[]
 |.fail,_,_,_,_=>False
 |.rd id k,h,a,ws,rs=>∃b rs',h.at id=some b∧(k b).OkT h a ws rs'∧rs=id::rs'
 |.wr id b k,h,a,ws,rs=>∃ws',(∃o,look id h=some o)∧k.OkT ((id,b)::h) a ws' rs∧ws=ws'++[(id,b)]
 |.new id b k,h,a,ws,rs=>∃ws',look id h=none∧k.OkT ((id,some b)::h) a ws' rs∧ws=ws'++[(id,some b)]
 |.ask b k,h,a,ws,rs=>b=true∧k.OkT h a ws rs
 |.br b x y,h,a,ws,rs=>(b=true∧x.OkT h a ws rs)∨(b=false∧y.OkT h a ws rs)
 |.opt o k,h,a,ws,rs=>∃v,o=some v∧(k v).OkT h a ws rs
theorem OkT_Ok {α:Type}:∀(q:Q α) (h:Hp) (a:α) (ws:Hp) (rs:List Nat),q.OkT h a ws rs→q.Ok h a (ws++h)
 |.ret x,h,a,ws,rs,⟨e1,e2,_⟩=>by subst e2;exact ⟨e1,rfl⟩
 |.fail,_,_,_,_,e=>e
 |.rd id k,h,a,ws,rs,⟨b,rs',hb,e,_⟩=>⟨b,hb,OkT_Ok (k b) h a ws rs' e⟩
 |.wr id b k,h,a,ws,rs,⟨ws',hb,e,hw⟩=>by
  subst hw
  refine ⟨hb,?_⟩
  have:=OkT_Ok k ((id,b)::h) a ws' rs e
  simpa using this
 |.new id b k,h,a,ws,rs,⟨ws',hb,e,hw⟩=>by
  subst hw
  refine ⟨hb,?_⟩
  have:=OkT_Ok k ((id,some b)::h) a ws' rs e
  simpa using this
 |.ask b k,h,a,ws,rs,⟨hb,e⟩=>⟨hb,OkT_Ok k h a ws rs e⟩
 |.br b x y,h,a,ws,rs,e=>e.imp (fun ⟨hb,e⟩=>⟨hb,OkT_Ok x h a ws rs e⟩) (fun ⟨hb,e⟩=>⟨hb,OkT_Ok y h a ws rs e⟩)
 |.opt o k,h,a,ws,rs,⟨v,hv,e⟩=>⟨v,hv,OkT_Ok (k v) h a ws rs e⟩
theorem OkT_frame {α:Type}:∀(q:Q α) (h k:Hp) (a:α) (ws:Hp) (rs:List Nat),q.OkT h a ws rs→(∀i,i∈rs∨i∈ws.map (·.1)→look i k=look i h)→q.OkT k a ws rs
 |.ret x,h,k,a,ws,rs,e,_=>e
 |.fail,_,_,_,_,_,e,_=>e
 |.rd id f,h,k,a,ws,rs,⟨b,rs',hb,e,hr⟩,hk=>by
  subst hr
  refine ⟨b,rs',?_,OkT_frame (f b) h k a ws rs' e (fun i hi=>hk i (hi.imp (fun h=>List.mem_cons_of_mem _ h) (fun h=>h))),rfl⟩
  unfold Hp.at at hb ⊢
  rw [hk id (.inl (by simp))];exact hb
 |.wr id b f,h,k,a,ws,rs,⟨ws',hb,e,hw⟩,hk=>by
  subst hw
  refine ⟨ws',by rw [hk id (.inr (by simp))];exact hb,OkT_frame f _ _ a ws' rs e (fun i hi=>?_),rfl⟩
  rw [look_cons,look_cons]
  split
  ·rfl
  ·exact hk i (hi.imp (fun h=>h) (fun h=>by simp at h ⊢;exact .inl h))
 |.new id b f,h,k,a,ws,rs,⟨ws',hb,e,hw⟩,hk=>by
  subst hw
  refine ⟨ws',by rw [hk id (.inr (by simp))];exact hb,OkT_frame f _ _ a ws' rs e (fun i hi=>?_),rfl⟩
  rw [look_cons,look_cons]
  split
  ·rfl
  ·exact hk i (hi.imp (fun h=>h) (fun h=>by simp at h ⊢;exact .inl h))
 |.ask b f,h,k,a,ws,rs,⟨hb,e⟩,hk=>⟨hb,OkT_frame f h k a ws rs e hk⟩
 |.br b x y,h,k,a,ws,rs,e,hk=>e.imp (fun ⟨hb,e⟩=>⟨hb,OkT_frame x h k a ws rs e hk⟩) (fun ⟨hb,e⟩=>⟨hb,OkT_frame y h k a ws rs e hk⟩)
 |.opt o f,h,k,a,ws,rs,⟨v,hv,e⟩,hk=>⟨v,hv,OkT_frame (f v) h k a ws rs e hk⟩
theorem toD_evT {α ρ:Type} {f:List It→St→Option ρ} {res:ρ}:∀(q:Q α) (h:Hp) (r w:List Nat) (K:α→Hp→List Nat→List Nat→DT ρ),
  (q.toD h r w K).ev f=some res→∃a ws rs,q.OkT h a ws rs∧(K a (ws++h) (rs.reverse++r) (ws.map (·.1)++w)).ev f=some res
 |.ret x,h,r,w,K,e=>⟨x,[],[],⟨rfl,rfl,rfl⟩,e⟩
 |.fail,_,_,_,_,e=>by simp [Q.toD,DT.ev] at e
 |.rd id k,h,r,w,K,e=>by
  simp only [Q.toD] at e
  split at e
  ·rename_i b hb
   obtain ⟨a,ws,rs,h1,h2⟩:=toD_evT (k b) h (id::r) w K e
   exact ⟨a,ws,id::rs,⟨b,rs,hb,h1,rfl⟩,by simpa using h2⟩
  ·simp [DT.ev] at e
 |.wr id b k,h,r,w,K,e=>by
  simp only [Q.toD] at e
  split at e
  ·rename_i o hb
   obtain ⟨a,ws,rs,h1,h2⟩:=toD_evT k ((id,b)::h) r (id::w) K e
   exact ⟨a,ws++[(id,b)],rs,⟨ws,⟨o,hb⟩,h1,rfl⟩,by simpa using h2⟩
  ·simp [DT.ev] at e
 |.new id b k,h,r,w,K,e=>by
  simp only [Q.toD] at e
  split at e
  ·simp [DT.ev] at e
  ·rename_i hb
   obtain ⟨a,ws,rs,h1,h2⟩:=toD_evT k ((id,some b)::h) r (id::w) K e
   exact ⟨a,ws++[(id,some b)],rs,⟨ws,hb,h1,rfl⟩,by simpa using h2⟩
 |.ask b k,h,r,w,K,e=>by
  simp only [Q.toD,DT.ev] at e
  cases b with
  |true=>
   obtain ⟨a,ws,rs,h1,h2⟩:=toD_evT k h r w K e
   exact ⟨a,ws,rs,⟨rfl,h1⟩,h2⟩
  |false=>simp at e
 |.br b x y,h,r,w,K,e=>by
  simp only [Q.toD,DT.ev] at e
  cases b with
  |true=>
   obtain ⟨a,ws,rs,h1,h2⟩:=toD_evT x h r w K e
   exact ⟨a,ws,rs,.inl ⟨rfl,h1⟩,h2⟩
  |false=>
   obtain ⟨a,ws,rs,h1,h2⟩:=toD_evT y h r w K e
   exact ⟨a,ws,rs,.inr ⟨rfl,h1⟩,h2⟩
 |.opt o k,h,r,w,K,e=>by
  simp only [Q.toD,DT.ev,Option.bind_eq_some_iff] at e
  obtain ⟨v,hv,e⟩:=e
  obtain ⟨a,ws,rs,h1,h2⟩:=toD_evT (k v) h r w K e
  exact ⟨a,ws,rs,⟨v,hv,h1⟩,h2⟩
theorem opd_congr {gl tm tm':List (Nat × PV)} {x:Operand} (h:∀t,x=.tmp t→look t tm=look t tm'):opd gl tm x=opd gl tm' x:=by
 cases x with
 |tmp t=>exact h t rfl
 |_=>rfl
theorem opds_congr {gl tm tm':List (Nat × PV)}:∀{xs:List Operand},(∀t,.tmp t∈xs→look t tm=look t tm')→opds gl tm xs=opds gl tm' xs
 |[],_=>rfl
 |x::xs,h=>by
  unfold opds
  rw [opd_congr (x:=x) (fun t e=>h t (by simp [e])),opds_congr (xs:=xs) (fun t e=>h t (by simp [e]))]
theorem partsQ_congr {gl tm tm':List (Nat × PV)}:∀{xs:List (Nat × Operand)},(∀t,.tmp t∈xs.map (·.2)→look t tm=look t tm')→partsQ gl tm xs=partsQ gl tm' xs
 |[],_=>rfl
 |(i,x)::xs,h=>by
  unfold partsQ
  rw [opd_congr (x:=x) (fun t e=>h t (by simp [e])),partsQ_congr (xs:=xs) (fun t e=>h t (by simp at e ⊢;exact .inr e))]
theorem oopd_congr {gl tm tm':List (Nat × PV)} {x:Option Operand} (h:∀t,x=some (.tmp t)→look t tm=look t tm'):oopd gl tm x=oopd gl tm' x:=by
 cases x with
 |none=>rfl
 |some x=>simp only [oopd];rw [opd_congr (x:=x) (fun t e=>h t (by rw [e]))]
theorem opQ_congr {E:Env} {tm tm':List (Nat × PV)} {o:Oper} {nw:Nat} (h:∀t,.tmp t∈o.op.operands.toList→look t tm=look t tm'):opQ E tm o nw=opQ E tm' o nw:=by
 unfold opQ
 cases hop:o.op with
 |call c=>
  rw [hop] at h
  simp only [Op.operands,Call.operands] at h
  simp only []
  rw [opds_congr (tm:=tm) (tm':=tm') (fun t ht=>h t (by simp at ht ⊢;exact .inr ht))]
  congr 1
  funext args
  cases hc:c.callee with
  |value f=>
   simp only []
   rw [opd_congr (tm:=tm) (tm':=tm') (fun t ht=>h t (by simp [hc,ht]))]
  |_=>rfl
 |makeFunc f first caps=>
  rw [hop] at h
  simp only []
  rw [opds_congr (tm:=tm) (tm':=tm') (fun t ht=>h t (by simp only [Op.operands,Array.toList_append,List.mem_append];exact .inr ht))]
 |build t ps=>
  rw [hop] at h
  simp only []
  rw [partsQ_congr (tm:=tm) (tm':=tm') (fun t ht=>h t (by simpa [Op.operands] using ht))]
 |buildSlice t n ps=>
  rw [hop] at h
  simp only []
  rw [partsQ_congr (tm:=tm) (tm':=tm') (fun t ht=>h t (by simpa [Op.operands] using ht))]
 |slice t x lo hi mx=>
  rw [hop] at h
  simp only []
  rw [opd_congr (tm:=tm) (tm':=tm') (fun t ht=>h t (by simp [Op.operands,ht])),oopd_congr (tm:=tm) (tm':=tm') (x:=lo) (fun t ht=>h t (by simp [Op.operands,ht])),oopd_congr (tm:=tm) (tm':=tm') (x:=hi) (fun t ht=>h t (by simp [Op.operands,ht]))]
 |pick c a b=>
  rw [hop] at h
  simp only []
  rw [opd_congr (tm:=tm) (tm':=tm') (x:=c) (fun t ht=>h t (by simp [Op.operands,ht])),opd_congr (tm:=tm) (tm':=tm') (x:=a) (fun t ht=>h t (by simp [Op.operands,ht])),opd_congr (tm:=tm) (tm':=tm') (x:=b) (fun t ht=>h t (by simp [Op.operands,ht]))]
 |store t a b|binOp _ _ a b _|makeSlice t a b|indexAddr t a b|index t a b=>
  rw [hop] at h
  simp only []
  rw [opd_congr (tm:=tm) (tm':=tm') (x:=a) (fun t ht=>h t (by simp [Op.operands,ht])),opd_congr (tm:=tm) (tm':=tm') (x:=b) (fun t ht=>h t (by simp [Op.operands,ht]))]
 |move x|assign x|box _ x|load _ x|nilCheck x|unOp _ _ x|convert _ _ x|fieldAddr _ x _|extract x _=>
  rw [hop] at h
  simp only []
  rw [opd_congr (tm:=tm) (tm':=tm') (x:=x) (fun t ht=>h t (by simp [Op.operands,ht]))]
 |_=>rfl
end Go.Proofs.YtkihjakbbcajbaaGreat.PM
namespace Go.Proofs.YtkihjakbbcajbaaGreat.PM
set_option linter.unusedSimpArgs false
set_option linter.unusedVariables false
open Go
theorem look_putT (tm:List (Nat × PV)) (d:Option Nat) (x:PV) (t:Nat):look t (putT tm d x)=if d=some t then some x else look t tm:=by
 cases d with
 |none=>simp [putT]
 |some d=>
  simp only [putT,look_cons,Option.some.injEq]
  by_cases h:t=d
  ·rw [if_pos h,if_pos h.symm]
  ·rw [if_neg h,if_neg (fun e=>h e.symm)]
theorem look_app (i:Nat):∀(ws h:Hp),look i (ws++h)=if i∈ws.map (·.1) then look i ws else look i h
 |[],h=>by simp
 |(j,o)::ws,h=>by
  rw [List.cons_append,look_cons,look_cons,look_app i ws h]
  by_cases e:i=j
  ·subst e
   rw [if_pos rfl,if_pos (by simp),if_pos rfl]
  ·rw [if_neg e,if_neg e,List.map_cons]
   by_cases m:i∈ws.map (·.1)
   ·rw [if_pos m,if_pos (List.mem_cons_of_mem _ m)]
   ·rw [if_neg m,if_neg (fun h=>(List.mem_cons.1 h).elim e m)]
def tmS (D:Nat→Option Nat) (X:Nat→PV) (tm0:List (Nat × PV)) (S:Nat→Bool):Nat→List (Nat × PV)
 |0=>tm0
 |j+1=>cond (S j) (putT (tmS D X tm0 S j) (D j) (X j)) (tmS D X tm0 S j)
def hpS (V:Nat→Hp) (h0:Hp) (S:Nat→Bool):Nat→Hp
 |0=>h0
 |j+1=>cond (S j) (V j++hpS V h0 S j) (hpS V h0 S j)
def addS (S:Nat→Bool) (j:Nat):Nat→Bool:=fun k=>S k||decide (k=j)
section
variable {D:Nat→Option Nat} {X:Nat→PV} {V:Nat→Hp} {tm0:List (Nat × PV)} {h0:Hp} {S S':Nat→Bool}
theorem tmS_succ (n:Nat):tmS D X tm0 S (n+1)=cond (S n) (putT (tmS D X tm0 S n) (D n) (X n)) (tmS D X tm0 S n):=rfl
theorem hpS_succ (n:Nat):hpS V h0 S (n+1)=cond (S n) (V n++hpS V h0 S n) (hpS V h0 S n):=rfl
theorem tmS_ext:∀(n:Nat),(∀k,k<n→S k=S' k)→tmS D X tm0 S n=tmS D X tm0 S' n
 |0,_=>rfl
 |n+1,h=>by unfold tmS;rw [h n (by omega),tmS_ext n (fun k hk=>h k (by omega))]
theorem hpS_ext:∀(n:Nat),(∀k,k<n→S k=S' k)→hpS V h0 S n=hpS V h0 S' n
 |0,_=>rfl
 |n+1,h=>by unfold hpS;rw [h n (by omega),hpS_ext n (fun k hk=>h k (by omega))]
theorem tmS_X {X':Nat→PV}:∀(n:Nat),(∀k,k<n→X k=X' k)→tmS D X tm0 S n=tmS D X' tm0 S n
 |0,_=>rfl
 |n+1,h=>by unfold tmS;rw [h n (by omega),tmS_X n (fun k hk=>h k (by omega))]
theorem hpS_V {V':Nat→Hp}:∀(n:Nat),(∀k,k<n→V k=V' k)→hpS V h0 S n=hpS V' h0 S n
 |0,_=>rfl
 |n+1,h=>by unfold hpS;rw [h n (by omega),hpS_V n (fun k hk=>h k (by omega))]
theorem tmS_trunc {j:Nat}:∀(n:Nat),j≤n→tmS D X tm0 (fun k=>decide (k<j)) n=tmS D X tm0 (fun _=>true) j
 |0,h=>by
  obtain rfl:j=0:=by omega
  rfl
 |n+1,h=>by
  by_cases e:j=n+1
  ·subst e;exact tmS_ext _ (fun k hk=>by simp [hk])
  ·have hn:decide (n<j)=false:=by simp;omega
   rw [tmS_succ,hn];exact tmS_trunc (j:=j) n (show j≤n by omega)
theorem hpS_trunc {j:Nat}:∀(n:Nat),j≤n→hpS V h0 (fun k=>decide (k<j)) n=hpS V h0 (fun _=>true) j
 |0,h=>by
  obtain rfl:j=0:=by omega
  rfl
 |n+1,h=>by
  by_cases e:j=n+1
  ·subst e;exact hpS_ext _ (fun k hk=>by simp [hk])
  ·have hn:decide (n<j)=false:=by simp;omega
   rw [hpS_succ,hn];exact hpS_trunc (j:=j) n (show j≤n by omega)
theorem tmS_congr {t:Nat}:∀(n:Nat),(∀k,k<n→D k=some t→S k=S' k)→look t (tmS D X tm0 S n)=look t (tmS D X tm0 S' n)
 |0,_=>rfl
 |n+1,h=>by
  have ih:=tmS_congr n (fun k hk=>h k (by omega))
  unfold tmS
  by_cases hd:D n=some t
  ·rw [h n (by omega) hd]
   cases S' n
   ·exact ih
   ·simp only [cond_true,look_putT,hd,if_true]
  ·cases S n<;>cases S' n<;>simp only [cond_true,cond_false,look_putT,hd,if_false]<;>exact ih
theorem hpS_congr {i:Nat}:∀(n:Nat),(∀k,k<n→i∈(V k).map (·.1)→S k=S' k)→look i (hpS V h0 S n)=look i (hpS V h0 S' n)
 |0,_=>rfl
 |n+1,h=>by
  have ih:=hpS_congr n (fun k hk=>h k (by omega))
  unfold hpS
  by_cases hd:i∈(V n).map (·.1)
  ·rw [h n (by omega) hd]
   cases S' n
   ·exact ih
   ·simp only [cond_true,look_app,hd,if_true]
  ·cases S n<;>cases S' n<;>simp only [cond_true,cond_false,look_app,hd,if_false]<;>exact ih
theorem tmS_add {t j:Nat} (hj:S j=false):∀(n:Nat),j<n→(∀k,j<k→k<n→S k=true→D k=some t→D j≠some t)→
  look t (tmS D X tm0 (addS S j) n)=look t (putT (tmS D X tm0 S n) (D j) (X j))
 |0,h,_=>by omega
 |n+1,hn,h=>by
  rw [look_putT]
  by_cases e:j=n
  ·subst e
   have h1:addS S j j=true:=by simp [addS]
   have h2:tmS D X tm0 (addS S j) j=tmS D X tm0 S j:=tmS_ext _ (fun k hk=>by
    have:k≠j:=by omega
    simp [addS,this])
   unfold tmS
   rw [h1,hj,h2]
   simp only [cond_true,cond_false,look_putT]
  ·have ih:=tmS_add hj n (by omega) (fun k h1 h2=>h k h1 (by omega))
   rw [look_putT] at ih
   have h1:addS S j n=S n:=by
    have:n≠j:=fun e'=>e e'.symm
    simp [addS,this]
   unfold tmS
   rw [h1]
   cases hs:S n with
   |false=>simpa using ih
   |true=>
    simp only [cond_true,look_putT]
    by_cases hd:D n=some t
    ·have:=h n (by omega) (by omega) hs hd
     simp [hd,this]
    ·simp only [hd,if_false];exact ih
theorem hpS_add {i j:Nat} (hj:S j=false):∀(n:Nat),j<n→(∀k,j<k→k<n→S k=true→i∈(V k).map (·.1)→¬i∈(V j).map (·.1))→
  look i (hpS V h0 (addS S j) n)=look i (V j++hpS V h0 S n)
 |0,h,_=>by omega
 |n+1,hn,h=>by
  rw [look_app]
  by_cases e:j=n
  ·subst e
   have h1:addS S j j=true:=by simp [addS]
   have h2:hpS V h0 (addS S j) j=hpS V h0 S j:=hpS_ext _ (fun k hk=>by
    have:k≠j:=by omega
    simp [addS,this])
   unfold hpS
   rw [h1,hj,h2]
   simp only [cond_true,cond_false,look_app]
  ·have ih:=hpS_add hj n (by omega) (fun k h1 h2=>h k h1 (by omega))
   rw [look_app] at ih
   have h1:addS S j n=S n:=by
    have:n≠j:=fun e'=>e e'.symm
    simp [addS,this]
   unfold hpS
   rw [h1]
   cases hs:S n with
   |false=>simpa using ih
   |true=>
    simp only [cond_true,look_app]
    by_cases hd:i∈(V n).map (·.1)
    ·have:=h n (by omega) (by omega) hs hd
     simp only [hd,this,if_true,if_false]
    ·simp only [hd,if_false];exact ih
end
def Runs (all:List Oper) (tm:List (Nat × PV)) (o:Oper):Prop:=o.guard=none∨∃i b d,o.guard=some (i,b)∧dstOf all i=some d∧look d tm=some (.v .bool b)
def Skips (all:List Oper) (tm:List (Nat × PV)) (o:Oper):Prop:=∃i b d,o.guard=some (i,b)∧dstOf all i=some d∧(look d tm=some (.v .bool (!b))∨look d tm=some .undef)
theorem known (tm:List (Nat × PV)) (d:Nat) (b:Bool) (h:look d tm=some (.v .bool b)) (t:Nat):look t ((d,.v .bool b)::tm)=look t tm:=by
 rw [look_cons];split
 ·rename_i e;rw [e,h]
 ·rfl
theorem putT_congr {tm tm':List (Nat × PV)} (h:∀t,look t tm=look t tm') (d:Option Nat) (x:PV) (t:Nat):look t (putT tm d x)=look t (putT tm' d x):=by
 rw [look_putT,look_putT,h]
theorem opD_ran {ρ:Type} {f:List It→St→Option ρ} {res:ρ} {E:Env} {all:List Oper} {o:Oper} {nw:Nat} {tm:List (Nat × PV)} {hp:Hp} {K:List (Nat × PV)→Hp→List Nat→List Nat→DT ρ} (e:(opD E all o nw tm hp K).ev f=some res):
  ∃x ws rs tm1,((Runs all tm o∧(opQ E tm o nw).OkT hp x ws rs)∨(Skips all tm o∧x=.undef∧ws=[]∧rs=[]))∧(∀t,look t tm1=look t (putT tm o.dst x))∧(K tm1 (ws++hp) rs.reverse (ws.map (·.1))).ev f=some res:=by
 unfold opD at e
 split at e
 ·rename_i hg
  obtain ⟨x,ws,rs,h1,h2⟩:=toD_evT _ _ _ _ _ e
  exact ⟨x,ws,rs,_,.inl ⟨.inl hg,h1⟩,fun _=>rfl,by simpa using h2⟩
 ·rename_i j want hg
  split at e
  ·simp [DT.ev] at e
  ·rename_i d hd
   split at e
   ·rename_i b hl
    cases want with
    |true=>
     simp only [DT.ev] at e
     cases b with
     |true=>
      simp only [cond_true] at e
      obtain ⟨x,ws,rs,h1,h2⟩:=toD_evT _ _ _ _ _ e
      rw [opQ_congr (tm':=tm) (fun t _=>known tm d true hl t)] at h1
      exact ⟨x,ws,rs,_,.inl ⟨.inr ⟨j,true,d,hg,hd,hl⟩,h1⟩,fun t=>putT_congr (known tm d true hl) _ _ t,by simpa using h2⟩
     |false=>
      simp only [cond_false] at e
      exact ⟨.undef,[],[],_,.inr ⟨⟨j,true,d,hg,hd,.inl hl⟩,rfl,rfl,rfl⟩,fun t=>putT_congr (known tm d false hl) _ _ t,e⟩
    |false=>
     simp only [DT.ev] at e
     cases b with
     |true=>
      simp only [cond_true] at e
      exact ⟨.undef,[],[],_,.inr ⟨⟨j,false,d,hg,hd,.inl hl⟩,rfl,rfl,rfl⟩,fun t=>putT_congr (known tm d true hl) _ _ t,e⟩
     |false=>
      simp only [cond_false] at e
      obtain ⟨x,ws,rs,h1,h2⟩:=toD_evT _ _ _ _ _ e
      rw [opQ_congr (tm':=tm) (fun t _=>known tm d false hl t)] at h1
      exact ⟨x,ws,rs,_,.inl ⟨.inr ⟨j,false,d,hg,hd,hl⟩,h1⟩,fun t=>putT_congr (known tm d false hl) _ _ t,by simpa using h2⟩
   ·rename_i hl
    exact ⟨.undef,[],[],_,.inr ⟨⟨j,want,d,hg,hd,.inr hl⟩,rfl,rfl,rfl⟩,fun t=>rfl,e⟩
   ·simp [DT.ev] at e
structure Rc where
 x:PV
 ws:Hp
 rs:List Nat
def rcAt (rc:List Rc) (k:Nat):Rc:=rc.getD k ⟨.undef,[],[]⟩
def RanAt (E:Env) (all:List Oper) (nx:Nat) (tm0:List (Nat × PV)) (h0:Hp) (rc:List Rc) (j:Nat):Prop:=
 let tm:=tmS (dstOf all) (fun k=>(rcAt rc k).x) tm0 (fun _=>true) j
 let hp:=hpS (fun k=>(rcAt rc k).ws) h0 (fun _=>true) j
 ∃o,all[j]?=some o∧((Runs all tm o∧(opQ E tm o (nx+64*j)).OkT hp (rcAt rc j).x (rcAt rc j).ws (rcAt rc j).rs)∨(Skips all tm o∧(rcAt rc j).x=.undef∧(rcAt rc j).ws=[]∧(rcAt rc j).rs=[]))
theorem rcAt_lt {rc:List Rc} {r:Rc} {k:Nat} (h:k<rc.length):rcAt (rc++[r]) k=rcAt rc k:=by
 unfold rcAt;simp [List.getD,List.getElem?_append_left h]
theorem rcAt_last {rc:List Rc} {r:Rc}:rcAt (rc++[r]) rc.length=r:=by
 unfold rcAt;simp [List.getD]
theorem runs_congr {all:List Oper} {tm tm':List (Nat × PV)} {o:Oper} (h:∀t,look t tm=look t tm') (r:Runs all tm o):Runs all tm' o:=
 r.imp id (fun ⟨i,b,d,h1,h2,h3⟩=>⟨i,b,d,h1,h2,by rw [←h];exact h3⟩)
theorem skips_congr {all:List Oper} {tm tm':List (Nat × PV)} {o:Oper} (h:∀t,look t tm=look t tm') (r:Skips all tm o):Skips all tm' o:=by
 obtain ⟨i,b,d,h1,h2,h3⟩:=r
 exact ⟨i,b,d,h1,h2,by rw [←h];exact h3⟩
theorem opsD_ran {ρ:Type} {f:List It→St→Option ρ} {res:ρ} {E:Env} {all:List Oper} {nx:Nat} {tm0:List (Nat × PV)} {h0:Hp} {K:List (Nat × PV)→Hp→List (List Nat × List Nat)→DT ρ}:
  ∀(os pre:List Oper) (rc:List Rc) (tm:List (Nat × PV)),all=pre++os→rc.length=pre.length→(∀t,look t tm=look t (tmS (dstOf all) (fun k=>(rcAt rc k).x) tm0 (fun _=>true) pre.length))→
  (∀j,j<pre.length→RanAt E all nx tm0 h0 rc j)→(opsD E all os (nx+64*pre.length) tm (hpS (fun k=>(rcAt rc k).ws) h0 (fun _=>true) pre.length) (rc.map fun r=>(r.rs.reverse,r.ws.map (·.1))) K).ev f=some res→
  ∃rc' tm',rc'.length=all.length∧(∀j,j<all.length→RanAt E all nx tm0 h0 rc' j)∧(∀t,look t tm'=look t (tmS (dstOf all) (fun k=>(rcAt rc' k).x) tm0 (fun _=>true) all.length))∧
   (K tm' (hpS (fun k=>(rcAt rc' k).ws) h0 (fun _=>true) all.length) (rc'.map fun r=>(r.rs.reverse,r.ws.map (·.1)))).ev f=some res
 |[],pre,rc,tm,ha,hl,ht,hr,e=>by
  have ha':all=pre:=by simpa using ha
  subst ha'
  exact ⟨rc,tm,hl,hr,ht,e⟩
 |o::os,pre,rc,tm,ha,hl,ht,hr,e=>by
  unfold opsD at e
  obtain ⟨x,ws,rs,tm1,h1,h2,h3⟩:=opD_ran e
  have hj:all[pre.length]?=some o:=by rw [ha];simp
  have hd:dstOf all pre.length=o.dst:=by unfold dstOf;rw [hj];rfl
  have hx:∀k,k<pre.length→rcAt (rc++[⟨x,ws,rs⟩]) k=rcAt rc k:=fun k hk=>rcAt_lt (by omega)
  have hlast:rcAt (rc++[⟨x,ws,rs⟩]) pre.length=⟨x,ws,rs⟩:=by rw [←hl];exact rcAt_last
  have htm:∀j,j≤pre.length→tmS (dstOf all) (fun k=>(rcAt (rc++[⟨x,ws,rs⟩]) k).x) tm0 (fun _=>true) j=tmS (dstOf all) (fun k=>(rcAt rc k).x) tm0 (fun _=>true) j:=fun j hj=>tmS_X j (fun k hk=>by rw [hx k (by omega)])
  have hhp:∀j,j≤pre.length→hpS (fun k=>(rcAt (rc++[⟨x,ws,rs⟩]) k).ws) h0 (fun _=>true) j=hpS (fun k=>(rcAt rc k).ws) h0 (fun _=>true) j:=fun j hj=>hpS_V j (fun k hk=>by rw [hx k (by omega)])
  refine opsD_ran os (pre++[o]) (rc++[⟨x,ws,rs⟩]) tm1 (by simpa using ha) (by simp [hl]) (fun t=>?_) (fun j hj'=>?_) ?_
  ·rw [h2,List.length_append]
   show _=look t (tmS _ _ _ _ (pre.length+1))
   unfold tmS
   rw [htm _ (Nat.le_refl _),hd,hlast]
   exact putT_congr ht _ _ t
  ·rw [List.length_append] at hj'
   have hj'':j<pre.length+1:=hj'
   by_cases hjp:j<pre.length
   ·obtain ⟨o',q1,q2⟩:=hr j hjp
    unfold RanAt
    simp only [htm j (by omega),hhp j (by omega),hx j hjp]
    exact ⟨o',q1,q2⟩
   ·obtain rfl:j=pre.length:=by omega
    unfold RanAt
    simp only [htm _ (Nat.le_refl _),hhp _ (Nat.le_refl _),hlast]
    refine ⟨o,hj,h1.imp (fun ⟨q1,q2⟩=>⟨runs_congr ht q1,?_⟩) (fun ⟨q1,q2⟩=>⟨skips_congr ht q1,q2⟩)⟩
    rw [←opQ_congr (tm:=tm) (fun t _=>ht t)];exact q2
  ·have hh:hpS (fun k=>(rcAt (rc++[⟨x,ws,rs⟩]) k).ws) h0 (fun _=>true) (pre++[o]).length=ws++hpS (fun k=>(rcAt rc k).ws) h0 (fun _=>true) pre.length:=by
    rw [List.length_append]
    show hpS _ _ _ (pre.length+1)=_
    rw [hpS_succ,hhp _ (Nat.le_refl _),hlast];rfl
   rw [hh]
   have h64:nx+64*(pre++[o]).length=nx+64*pre.length+64:=by simp [Nat.mul_add];omega
   rw [h64]
   simpa using h3
end Go.Proofs.YtkihjakbbcajbaaGreat.PM
namespace Go.Proofs.YtkihjakbbcajbaaGreat.PM
set_option linter.unusedSimpArgs false
set_option linter.unusedVariables false
open Go
def IoR (g:Gh):List PV→List Slot→Prop
 |[],[]=>True
 |x::xs,s::ss=>(∃id,(x=.ptr id []∨x=.sl id)∧g id=some s)∧IoR g xs ss
 |_,_=>False
theorem IoR.mono {g g':Gh} (h:g.le g'):∀{xs:List PV} {ss:List Slot},IoR g xs ss→IoR g' xs ss
 |[],[],_=>trivial
 |_::_,_::_,⟨⟨id,h1,h2⟩,h3⟩=>⟨⟨id,h1,h _ _ h2⟩,h3.mono h⟩
 |[],_::_,h=>h.elim
 |_::_,[],h=>h.elim
structure Bs where
 A0:Nat→Prop
 W:Nat→Prop
 w0:World
 nt:Nat
 sl:List Slot
 free:∀r,w0.heap.size≤r→W r
 gl:List (Nat × PV)
 glok:GlOk gl A0 w0
 df:List Deferred
structure RS (B:Bs) (g:Gh) (A:Nat→Prop) (a:Act) (w:World) (tm:List (Nat × PV)) (h:Hp) (io:List PV):Prop where
 size:a.tmps.size=B.nt
 defs:a.defers=B.df
 tms:∀t x,look t tm=some x→t<B.nt∧VRel g A w x (a.tmps.getD t undef)
 hr:HR g A B.W w h
 mono:∀r,B.A0 r→A r
 in':∀r,A r→B.A0 r∨B.W r
 same:∀r,B.A0 r→w.heap[r]?=B.w0.heap[r]?
 keep:Keep B.W B.w0 w
 io:IoR g io B.sl
section
variable {P:Program} {E:Env} {B:Bs} {g:Gh} {A:Nat→Prop} {a:Act} {w:World} {tm tm':List (Nat × PV)} {h h':Hp} {io:List PV}
theorem RS.congr (R:RS B g A a w tm h io) (h1:∀t,look t tm=look t tm') (h2:∀i,look i h=look i h'):RS B g A a w tm' h' io:=
 ⟨R.size,R.defs,fun t x e=>R.tms t x (by rw [h1];exact e),R.hr.congr h2,R.mono,R.in',R.same,R.keep,R.io⟩
theorem RS.glob (R:RS B g A a w tm h io):GlOk B.gl A w:=B.glok.mono R.mono R.same
theorem RS.opd (R:RS B g A a w tm h io) (o:Operand) (x:PV) (e:opd B.gl tm o=some x):VRel g A w x (a.eval o):=by
 cases o with
 |tmp t=>exact (R.tms t x e).2
 |const v=>
  simp only [PM.opd] at e
  unfold cst at e
  split at e
  ·injection e with e;subst e;exact of_int _ _
  ·injection e with e;subst e;exact of_bool _
  ·injection e with e;subst e;exact of_str _
  ·injection e with e;subst e;rfl
  ·cases e
 |func f=>
  simp only [PM.opd,Option.some.injEq] at e;subst e
  unfold VRel;simp only [aggP];unfold PV.rel
  exact ⟨#[],rfl,by unfold rels;rfl⟩
 |global n=>
  obtain ⟨t,y,c,rfl,h2,h3,h4⟩:=R.glob n x e
  unfold VRel;simp only [aggP];unfold PV.rel
  exact ⟨_,c,rfl,rfl,h2,h3,h4⟩
theorem put_size (a:Act) (d:Option Nat) (v:Value):(a.put d v).tmps.size=a.tmps.size:=by
 cases d<;>simp [Act.put]
theorem put_defs (a:Act) (d:Option Nat) (v:Value):(a.put d v).defers=a.defers:=by
 cases d<;>rfl
theorem put_get (a:Act) (d:Option Nat) (v:Value) (t:Nat) (hd:∀e,d=some e→e<a.tmps.size):(a.put d v).tmps.getD t undef=if d=some t then v else a.tmps.getD t undef:=by
 cases d with
 |none=>simp [Act.put]
 |some d=>
  have:=hd d rfl
  by_cases e:d=t
  ·subst e;simp [Act.put,Array.getD,this]
  ·have e':¬(some d=some t):=fun h=>e (by injection h)
   rw [if_neg e']
   by_cases ht:t<a.tmps.size<;>simp [Act.put,Array.getD,ht,Array.getElem_setIfInBounds,e]
theorem RS.put {g':Gh} {A':Nat→Prop} {w':World} {d:Option Nat} {x:PV} {v:Value} (R:RS B g A a w tm h io) (S:Step g A B.W w g' A' w' h') (hv:VRel g' A' w' x v) (hd:∀e,d=some e→e<B.nt):RS B g' A' (a.put d v) w' (putT tm d x) h' io:=by
 refine ⟨by rw [put_size];exact R.size,by rw [put_defs];exact R.defs,fun t y e=>?_,S.hr,fun r hr=>S.mono r (R.mono r hr),fun r hr=>(S.in' r hr).elim (R.in' r) .inr,fun r hr=>(S.same r (R.mono r hr)).trans (R.same r hr),R.keep.trans S.keep,R.io.mono S.le⟩
 rw [look_putT] at e
 rw [put_get _ _ _ _ (fun e he=>by rw [R.size];exact hd e he)]
 split at e
 ·rename_i hdt
  injection e with e;subst e
  exact ⟨hd t hdt,by rw [if_pos hdt];exact hv⟩
 ·rename_i hdt
  obtain ⟨h1,h2⟩:=R.tms t y e
  exact ⟨h1,by rw [if_neg hdt];exact h2.mono S.le S.mono S.same⟩
theorem RS.wfree (R:RS B g A a w tm h io) (r:Nat) (hr:w.heap.size≤r):B.W r:=B.free r (Nat.le_trans R.keep.size hr)
structure Ap (all:List Oper) (rc:List Rc) (i k:Nat):Prop where
 dst:∀d,dstOf all i=some d→dstOf all k≠some d
 up:∀d o,dstOf all i=some d→all[k]?=some o→d∉o.looksAt all.toArray
 dn:∀d o,dstOf all k=some d→all[i]?=some o→d∉o.looksAt all.toArray
 ww:∀x,x∈(rcAt rc i).ws.map (·.1)→x∉(rcAt rc k).ws.map (·.1)
 wr:∀x,x∈(rcAt rc i).ws.map (·.1)→x∉(rcAt rc k).rs
 rw':∀x,x∈(rcAt rc i).rs→x∉(rcAt rc k).ws.map (·.1)
theorem yielded_of {all:List Oper} (R:RS B g A a w tm h io) {i d:Nat} (hd:dstOf all i=some d):(∀b,look d tm=some (.v .bool b)→yielded all.toArray a.tmps i=some b)∧(look d tm=some .undef→yielded all.toArray a.tmps i=none):=by
 have hi:(all.toArray[i]?).bind (·.dst)=some d:=by
  unfold dstOf at hd;simpa using hd
 refine ⟨fun b hl=>?_,fun hl=>?_⟩
 ·obtain ⟨h1,h2⟩:=R.tms _ _ hl
  have h2:=v_bool h2
  have h3:a.tmps[d]?=some (.bool b):=by
   rw [Array.getElem?_eq_getElem (by rw [R.size];exact h1)]
   rw [Array.getD,dif_pos (by rw [R.size];exact h1)] at h2
   exact congrArg some h2
  unfold yielded
  rw [hi];simp [h3]
 ·obtain ⟨h1,h2⟩:=R.tms _ _ hl
  have h2:a.tmps.getD d undef=Go.undef:=by
   unfold VRel at h2;simp only [aggP] at h2;unfold PV.rel at h2;injection h2
  have h3:a.tmps[d]?=some Go.undef:=by
   rw [Array.getElem?_eq_getElem (by rw [R.size];exact h1)]
   rw [Array.getD,dif_pos (by rw [R.size];exact h1)] at h2
   exact congrArg some h2
  unfold yielded
  rw [hi];simp [h3,undef]
theorem mem_looks {all:List Oper} {o:Oper} {t:Nat} (h:Operand.tmp t∈o.op.operands.toList):t∈o.looksAt all.toArray:=by
 unfold Oper.looksAt
 rw [List.mem_append,List.mem_filterMap]
 exact .inl ⟨_,h,rfl⟩
theorem guard_looks {all:List Oper} {o:Oper} {i d:Nat} {b:Bool} (h:o.guard=some (i,b)) (hd:dstOf all i=some d):d∈o.looksAt all.toArray:=by
 unfold Oper.looksAt
 rw [List.mem_append,h]
 right
 unfold dstOf at hd
 simp [hd]
theorem reg_op (hE:EnvOk P E) (hgl:E.globs=B.gl) {all:List Oper} {rc:List Rc} {nx n:Nat} {tm0:List (Nat × PV)} {h0:Hp} {S:Nat→Bool} {j:Nat} (hj:j<n) (hS:S j=false) (hn:n=all.length) (ran:RanAt E all nx tm0 h0 rc j) (hnt:∀j d,dstOf all j=some d→d<B.nt)
  (up:∀k,k<n→j<k→S k=true→Ap all rc j k) (dn:∀k,k<j→S k=false→Ap all rc k j)
  (R:RS B g A a w (tmS (dstOf all) (fun k=>(rcAt rc k).x) tm0 S n) (hpS (fun k=>(rcAt rc k).ws) h0 S n) io) {K:Act→World→Prop} {Q:Exit→Act→World→Prop}
  (hK:∀g' A' a' w',RS B g' A' a' w' (tmS (dstOf all) (fun k=>(rcAt rc k).x) tm0 (addS S j) n) (hpS (fun k=>(rcAt rc k).ws) h0 (addS S j) n) io→K a' w'):wpOp P all.toArray Q j K a w:=by
 obtain ⟨o,ho,hran⟩:=ran
 have hd:dstOf all j=o.dst:=by unfold dstOf;rw [ho];rfl
 have hoa:all.toArray[j]?=some o:=by simpa using ho
 have htm:∀t,t∈o.looksAt all.toArray→look t (tmS (dstOf all) (fun k=>(rcAt rc k).x) tm0 S n)=look t (tmS (dstOf all) (fun k=>(rcAt rc k).x) tm0 (fun _=>true) j):=fun t ht=>by
  rw [←tmS_trunc n (Nat.le_of_lt hj)]
  refine tmS_congr n (fun k hk hdk=>?_)
  rcases Nat.lt_trichotomy k j with hlt|heq|hgt
  ·cases hs:S k with
   |true=>simp [hlt]
   |false=>exact absurd ht ((dn k hlt hs).up t o hdk ho)
  ·subst heq;simp [hS]
  ·cases hs:S k with
   |true=>exact absurd ht ((up k hk hgt hs).dn t o hdk ho)
   |false=>simp;omega
 have hhp:∀i,i∈(rcAt rc j).rs∨i∈(rcAt rc j).ws.map (·.1)→look i (hpS (fun k=>(rcAt rc k).ws) h0 S n)=look i (hpS (fun k=>(rcAt rc k).ws) h0 (fun _=>true) j):=fun i hi=>by
  rw [←hpS_trunc n (Nat.le_of_lt hj)]
  refine hpS_congr n (fun k hk hdk=>?_)
  rcases Nat.lt_trichotomy k j with hlt|heq|hgt
  ·cases hs:S k with
   |true=>simp [hlt]
   |false=>
    have ap:=dn k hlt hs
    exact (hi.elim (ap.wr i hdk) (ap.ww i hdk)).elim
  ·subst heq;simp [hS]
  ·cases hs:S k with
   |true=>
    have ap:=up k hk hgt hs
    exact (hi.elim (fun h=>ap.rw' i h hdk) (fun h=>ap.ww i h hdk)).elim
   |false=>simp;omega
 have fin:∀g' A' w' v,Step g A B.W w g' A' w' ((rcAt rc j).ws++hpS (fun k=>(rcAt rc k).ws) h0 S n)→VRel g' A' w' (rcAt rc j).x v→K (a.put o.dst v) w':=fun g' A' w' v St hv=>by
  refine hK g' A' _ w' ((R.put St hv (d:=o.dst) (fun e he=>hnt j e (by rw [hd];exact he))).congr (fun t=>?_) (fun i=>?_))
  ·rw [←hd];symm
   exact tmS_add hS n hj (fun k h1 h2 h3 h4 h5=>(up k h2 h1 h3).dst t h5 h4)
  ·symm
   exact hpS_add hS n hj (fun k h1 h2 h3 h4 h5=>(up k h2 h1 h3).ww i h5 h4)
 unfold wpOp
 rw [hoa]
 simp only []
 rcases hran with ⟨hr,hq⟩|⟨hs,hx,hw,hrs⟩
 ·have hwant:Region.wanted o (yielded all.toArray a.tmps)=true:=by
   rcases hr with hg|⟨i,b,d,hg,hdi,hl⟩
   ·unfold Region.wanted;rw [hg]
   ·rw [←htm d (guard_looks hg hdi)] at hl
    unfold Region.wanted;rw [hg]
    simp [(yielded_of R hdi).1 b hl]
  rw [if_pos hwant]
  left
  have hq1:=OkT_Ok _ _ _ _ _ (OkT_frame _ _ _ _ _ _ hq hhp)
  rw [←opQ_congr (tm:=tmS (dstOf all) (fun k=>(rcAt rc k).x) tm0 S n) (fun t ht=>htm t (mem_looks ht))] at hq1
  exact op_ok hE R.hr R.wfree (by rw [hgl];exact R.glob) (by rw [hgl];exact R.opd) hq1 fin
 ·obtain ⟨i,b,d,hg,hdi,hl⟩:=hs
  rw [←htm d (guard_looks hg hdi)] at hl
  have hwant:Region.wanted o (yielded all.toArray a.tmps)=false:=by
   unfold Region.wanted;rw [hg]
   show (yielded all.toArray a.tmps i==some b)=false
   rcases hl with hl|hl
   ·rw [(yielded_of R hdi).1 _ hl];cases b<;>rfl
   ·rw [(yielded_of R hdi).2 hl];rfl
  rw [hwant]
  refine fin g A w undef ?_ ?_
  ·rw [hw];exact .refl R.hr
  ·rw [hx];exact of_undef
end
end Go.Proofs.YtkihjakbbcajbaaGreat.PM
namespace Go.Proofs.YtkihjakbbcajbaaGreat.PM
set_option linter.unusedSimpArgs false
set_option linter.unusedVariables false
open Go
def edgesOk:List Oper→Nat→Bool
 |[],_=>true
 |o::os,j=>(o.after.toList.all fun e=>!binds e||decide (e.on<j)) && edgesOk os (j+1)
theorem edgesOk_at:∀(os:List Oper) (j p:Nat) (o:Oper),edgesOk os j=true→os[p]?=some o→∀e∈o.after.toList,binds e=true→e.on<j+p
 |[],_,_,_,_,h=>by simp at h
 |o'::os,j,0,o,h,hp=>fun e he hb=>by
  simp only [edgesOk,Bool.and_eq_true,List.all_eq_true] at h
  simp at hp;subst hp
  have:=h.1 e he
  simpa [hb] using this
 |o'::os,j,p+1,o,h,hp=>fun e he hb=>by
  simp only [edgesOk,Bool.and_eq_true] at h
  have:=edgesOk_at os (j+1) p o h.2 (by simpa using hp) e he hb
  omega
theorem binds_any (e:Edge):Region.binds .any e=binds e:=by
 unfold Region.binds binds
 cases e.ground<;>rfl
theorem maskE_spec:∀(es:List Edge) (ms:List Nat) (i:Nat),Nat.testBit (maskE es ms) i=true→∃e∈es,binds e=true∧(i=e.on∨Nat.testBit (ms.getD e.on 0) i=true)
 |[],ms,i,h=>by simp [maskE] at h
 |e::es,ms,i,h=>by
  unfold maskE at h
  have rest:Nat.testBit (maskE es ms) i=true→∃e'∈e::es,binds e'=true∧(i=e'.on∨Nat.testBit (ms.getD e'.on 0) i=true):=fun h=>by
   obtain ⟨e',h1,h2⟩:=maskE_spec es ms i h
   exact ⟨e',List.mem_cons_of_mem _ h1,h2⟩
  cases hb:binds e with
  |false=>rw [hb] at h;exact rest h
  |true=>
   rw [hb] at h
   have h:Nat.testBit (((1<<<e.on)|||(ms.getD e.on 0))|||maskE es ms) i=true:=h
   rw [Nat.testBit_or,Nat.testBit_or,Bool.or_eq_true,Bool.or_eq_true] at h
   rcases h with (h|h)|h
   ·refine ⟨e,List.mem_cons_self ..,hb,.inl ?_⟩
    rw [Nat.testBit_shiftLeft] at h
    simp only [Bool.and_eq_true,decide_eq_true_eq] at h
    have h2:=h.2
    rw [Nat.testBit_one_eq_true_iff_self_eq_zero] at h2
    omega
   ·exact ⟨e,List.mem_cons_self ..,hb,.inr h⟩
   ·exact rest h
theorem masks_app:∀(os:List Oper) (ms:List Nat),∃r,masks os ms=ms++r
 |[],ms=>⟨[],by simp [masks]⟩
 |o::os,ms=>by
  obtain ⟨r,h⟩:=masks_app os (ms++[maskE o.after.toList ms])
  exact ⟨maskE o.after.toList ms::r,by unfold masks;rw [h];simp⟩
theorem masks_at:∀(os:List Oper) (ms:List Nat) (p:Nat) (o:Oper),os[p]?=some o→(masks os ms).getD (ms.length+p) 0=maskE o.after.toList ((masks os ms).take (ms.length+p))
 |[],_,_,_,h=>by simp at h
 |o'::os,ms,0,o,h=>by
  simp at h;subst h
  unfold masks
  obtain ⟨r,hr⟩:=masks_app os (ms++[maskE o'.after.toList ms])
  rw [hr]
  simp [List.getD]
 |o'::os,ms,p+1,o,h=>by
  have:=masks_at os (ms++[maskE o'.after.toList ms]) p o (by simpa using h)
  unfold masks
  rw [List.length_append] at this
  have e:ms.length+(p+1)=ms.length+[maskE o'.after.toList ms].length+p:=by simp;omega
  rw [e];exact this
theorem take_getD {α:Type} (l:List α) (n i:Nat) (d:α) (h:i<n):(l.take n).getD i d=l.getD i d:=by
 simp [List.getD,List.getElem?_take,h]
theorem apartL_spec {xs ys:List Nat} (h:apartL xs ys=true) (x:Nat) (hx:x∈xs):x∉ys:=fun hy=>by
 unfold apartL at h
 have:(xs.any fun x=>ys.any (Nat.beq x))=true:=List.any_eq_true.2 ⟨x,hx,List.any_eq_true.2 ⟨x,hy,Nat.beq_refl x⟩⟩
 rw [this] at h;cases h
theorem drawOne_spec {all:List Oper} {m:Nat} {oj:Oper} {fj:List Nat × List Nat}:∀(os:List Oper) (fs:List (List Nat × List Nat)) (i p:Nat) (o:Oper) (f:List Nat × List Nat),drawOne all m oj fj os fs i=true→os[p]?=some o→fs[p]?=some f→
  Nat.testBit m (i+p)=true∨(o.apart all.toArray oj=true∧fpApart f fj=true)
 |[],_,_,_,_,_,_,h,_=>by simp at h
 |_::_,[],_,_,_,_,_,_,h=>by simp at h
 |o'::os,f'::fs,i,0,o,f,h,h1,h2=>by
  simp at h1 h2;subst h1 h2
  simp only [drawOne,Bool.and_eq_true,Bool.or_eq_true] at h
  exact h.1
 |o'::os,f'::fs,i,p+1,o,f,h,h1,h2=>by
  simp only [drawOne,Bool.and_eq_true] at h
  have:=drawOne_spec os fs (i+1) p o f h.2 (by simpa using h1) (by simpa using h2)
  have e:i+(p+1)=i+1+p:=by omega
  rw [e];exact this
theorem drawAll_spec {all:List Oper} {fps:List (List Nat × List Nat)} {ms:List Nat}:∀(os:List Oper) (fs:List (List Nat × List Nat)) (j p:Nat) (o:Oper) (f:List Nat × List Nat),drawAll all fps ms os fs j=true→os[p]?=some o→fs[p]?=some f→
  drawOne all (ms.getD (j+p) 0) o f (all.take (j+p)) fps 0=true
 |[],_,_,_,_,_,_,h,_=>by simp at h
 |_::_,[],_,_,_,_,_,_,h=>by simp at h
 |o'::os,f'::fs,j,0,o,f,h,h1,h2=>by
  simp at h1 h2;subst h1 h2
  simp only [drawAll,Bool.and_eq_true] at h
  exact h.1
 |o'::os,f'::fs,j,p+1,o,f,h,h1,h2=>by
  simp only [drawAll,Bool.and_eq_true] at h
  have:=drawAll_spec os fs (j+1) p o f h.2 (by simpa using h1) (by simpa using h2)
  have e:j+(p+1)=j+1+p:=by omega
  rw [e];exact this
def fpsOf (rc:List Rc):List (List Nat × List Nat):=rc.map fun r=>(r.rs.reverse,r.ws.map (·.1))
theorem fpsOf_at {rc:List Rc} {i:Nat} (h:i<rc.length):(fpsOf rc)[i]?=some ((rcAt rc i).rs.reverse,(rcAt rc i).ws.map (·.1)):=by
 unfold fpsOf rcAt
 simp [List.getD,List.getElem?_eq_getElem h]
theorem drawOk_spec {all:List Oper} {rc:List Rc} (hl:rc.length=all.length) (h:drawOk all (fpsOf rc)=true) {i k:Nat} (hik:i<k) (hk:k<all.length):Nat.testBit ((masks all []).getD k 0) i=true∨Ap all rc i k:=by
 have hok:all[k]?=some all[k]:=List.getElem?_eq_getElem hk
 have hoi:all[i]?=some (all[i]'(by omega)):=List.getElem?_eq_getElem (by omega)
 have h1:=drawAll_spec all (fpsOf rc) 0 k _ _ h hok (fpsOf_at (by omega))
 rw [Nat.zero_add] at h1
 have h2:=drawOne_spec _ _ 0 i _ _ h1 (by rw [List.getElem?_take,if_pos hik];exact hoi) (fpsOf_at (by omega))
 rw [Nat.zero_add] at h2
 refine h2.imp (fun h=>h) (fun ⟨h3,h4⟩=>?_)
 obtain ⟨s1,s2,s3⟩:=Oper.apart_spec h3
 unfold fpApart at h4
 simp only [Bool.and_eq_true] at h4
 have hdi:dstOf all i=(all[i]'(by omega)).dst:=by unfold dstOf;rw [hoi];rfl
 have hdk:dstOf all k=all[k].dst:=by unfold dstOf;rw [hok];rfl
 exact ⟨fun d hd=>by rw [hdk];rw [hdi] at hd;exact s2 d hd,fun d o hd ho=>by
   rw [hdi] at hd;rw [hok] at ho;injection ho with ho;subst ho;exact s1 d hd,fun d o hd ho=>by
   rw [hdk] at hd;rw [hoi] at ho;injection ho with ho;subst ho;exact s3 d hd,
  fun x hx=>apartL_spec h4.1.2 x hx,fun x hx hy=>apartL_spec h4.1.1 x hx (by simpa using hy),fun x hx=>apartL_spec h4.2 x (by simpa using hx)⟩
section
variable {P:Program} {E:Env} {B:Bs} {io:List PV} {all:List Oper} {rc:List Rc} {nx:Nat} {tm0:List (Nat × PV)} {h0:Hp} {Q:Exit→Act→World→Prop}
theorem reg_seq (hE:EnvOk P E) (hgl:E.globs=B.gl) (hl:rc.length=all.length) (ran:∀j,j<all.length→RanAt E all nx tm0 h0 rc j) (hnt:∀j d,dstOf all j=some d→d<B.nt)
  (fin:∀g A a w,RS B g A a w (tmS (dstOf all) (fun k=>(rcAt rc k).x) tm0 (fun _=>true) all.length) (hpS (fun k=>(rcAt rc k).ws) h0 (fun _=>true) all.length) io→Q .normal a w):
  ∀(m j:Nat),j+m=all.length→∀(g:Gh) (A:Nat→Prop) (a:Act) (w:World),RS B g A a w (tmS (dstOf all) (fun k=>(rcAt rc k).x) tm0 (fun k=>decide (k<j)) all.length) (hpS (fun k=>(rcAt rc k).ws) h0 (fun k=>decide (k<j)) all.length) io→
  wpOps P all.toArray Q (List.range' j m) a w
 |0,j,hj,g,A,a,w,R=>by
  have hj:j=all.length:=by omega
  subst hj
  rw [tmS_ext (S':=fun _=>true) _ (fun k hk=>by simp [hk]),hpS_ext (S':=fun _=>true) _ (fun k hk=>by simp [hk])] at R
  exact fin g A a w R
 |m+1,j,hj,g,A,a,w,R=>by
  rw [List.range'_succ,wpOps_cons]
  refine reg_op hE hgl (n:=all.length) (S:=fun k=>decide (k<j)) (j:=j) (by omega) (by simp) rfl (ran j (by omega)) hnt (fun k _ h1 h2=>by simp at h2;omega) (fun k h1 h2=>by simp at h2;omega) R (fun g' A' a' w' R'=>?_)
  have e:∀k,k<all.length→addS (fun k=>decide (k<j)) j k=decide (k<j+1):=fun k _=>by
   unfold addS;rw [Bool.eq_iff_iff];simp;omega
  rw [tmS_ext _ e,hpS_ext _ e] at R'
  exact reg_seq hE hgl hl ran hnt fin m (j+1) (by omega) g' A' a' w' R'
end
def cnt (S:Nat→Bool):Nat→Nat
 |0=>0
 |n+1=>cnt S n+cond (S n) 0 1
theorem cnt_ext {S S':Nat→Bool}:∀n:Nat,(∀k,k<n→S k=S' k)→cnt S n=cnt S' n
 |0,_=>rfl
 |n+1,h=>by unfold cnt;rw [h n (by omega),cnt_ext n (fun k hk=>h k (by omega))]
theorem cnt_add {S:Nat→Bool} {j:Nat} (hS:S j=false):∀n:Nat,j<n→cnt (addS S j) n+1=cnt S n
 |0,h=>by omega
 |n+1,h=>by
  by_cases e:j=n
  ·subst e
   have h1:addS S j j=true:=by simp [addS]
   have h2:cnt (addS S j) j=cnt S j:=cnt_ext j (fun k hk=>by
    have:k≠j:=by omega
    simp [addS,this])
   unfold cnt
   rw [h1,hS,h2];simp
  ·have ih:=cnt_add hS n (by omega)
   have h1:addS S j n=S n:=by
    have:n≠j:=fun e'=>e e'.symm
    simp [addS,this]
   unfold cnt
   rw [h1];omega
theorem cnt_zero {S:Nat→Bool}:∀n:Nat,cnt S n=0→∀k,k<n→S k=true
 |0,_,k,h=>by omega
 |n+1,h,k,hk=>by
  unfold cnt at h
  by_cases e:k=n
  ·subst e
   cases hs:S k with
   |true=>rfl
   |false=>rw [hs] at h;simp at h
  ·exact cnt_zero n (by omega) k (by omega)
theorem cnt_all {S:Nat→Bool}:∀n:Nat,(∀k,k<n→S k=true)→cnt S n=0
 |0,_=>rfl
 |n+1,h=>by unfold cnt;rw [h n (by omega),cnt_all n (fun k hk=>h k (by omega))];rfl
theorem first_free {S:Nat→Bool}:∀n:Nat,(∃k,k<n∧S k=false)→∃k,k<n∧S k=false∧∀i,i<k→S i=true
 |0,h=>by obtain ⟨k,hk,_⟩:=h;omega
 |n+1,h=>by
  by_cases hx:∃k,k<n∧S k=false
  ·obtain ⟨k,h1,h2,h3⟩:=first_free n hx
   exact ⟨k,by omega,h2,h3⟩
  ·obtain ⟨k,h1,h2⟩:=h
   have hk:k=n:=by
    rcases Nat.lt_or_ge k n with hlt|hge
    ·exact absurd ⟨k,hlt,h2⟩ hx
    ·omega
   subst hk
   refine ⟨k,h1,h2,fun i hi=>?_⟩
   cases hs:S i with
   |true=>rfl
   |false=>exact absurd ⟨i,hi,hs⟩ hx
theorem ready_mem {all:List Oper} {listed:Array Bool} {i:Nat}:i∈Region.ready .any all.toArray listed↔∃o,all[i]?=some o∧listed.getD i true=false∧∀e∈o.after.toList,binds e=true→listed.getD e.on false=true:=by
 unfold Region.ready
 rw [List.mem_filter,List.mem_range]
 constructor
 ·rintro ⟨h1,h2⟩
  have h1:i<all.length:=by simpa using h1
  have ho:all[i]?=some all[i]:=List.getElem?_eq_getElem h1
  refine ⟨_,ho,?_⟩
  simp only [List.getElem?_toArray,ho,Bool.and_eq_true,Option.map_some,Option.getD_some,Bool.not_eq_true',←Array.all_toList,List.all_eq_true,Bool.or_eq_true] at h2
  refine ⟨h2.1,fun e he hb=>?_⟩
  have:=h2.2 e he
  rw [binds_any,hb] at this
  simpa using this
 ·rintro ⟨o,ho,h1,h2⟩
  have hi:i<all.length:=by
   by_cases h:i<all.length
   ·exact h
   ·rw [List.getElem?_eq_none (by omega)] at ho;cases ho
  refine ⟨by simpa using hi,?_⟩
  simp only [List.getElem?_toArray,ho,Bool.and_eq_true,Option.map_some,Option.getD_some,Bool.not_eq_true',←Array.all_toList,List.all_eq_true,Bool.or_eq_true]
  refine ⟨h1,fun e he=>?_⟩
  rw [binds_any]
  cases hb:binds e with
  |false=>exact .inl rfl
  |true=>exact .inr (h2 e he hb)
section
variable {P:Program} {E:Env} {B:Bs} {io:List PV} {all:List Oper} {rc:List Rc} {nx:Nat} {tm0:List (Nat × PV)} {h0:Hp} {Q:Exit→Act→World→Prop}
theorem reg_any (hE:EnvOk P E) (hgl:E.globs=B.gl) (hl:rc.length=all.length) (hed:edgesOk all 0=true) (hdr:drawOk all (fpsOf rc)=true) (ran:∀j,j<all.length→RanAt E all nx tm0 h0 rc j) (hnt:∀j d,dstOf all j=some d→d<B.nt)
  (fin:∀g A a w,RS B g A a w (tmS (dstOf all) (fun k=>(rcAt rc k).x) tm0 (fun _=>true) all.length) (hpS (fun k=>(rcAt rc k).ws) h0 (fun _=>true) all.length) io→Q .normal a w):
  ∀(fuel:Nat) (S:Nat→Bool) (listed:Array Bool),listed.size=all.length→(∀k (h:k<listed.size),listed[k]=S k)→cnt S all.length=fuel→(∀k,k<all.length→S k=true→∀i,Nat.testBit ((masks all []).getD k 0) i=true→S i=true)→
  ∀(g:Gh) (A:Nat→Prop) (a:Act) (w:World),RS B g A a w (tmS (dstOf all) (fun k=>(rcAt rc k).x) tm0 S all.length) (hpS (fun k=>(rcAt rc k).ws) h0 S all.length) io→wpAny P .any all.toArray Q fuel listed a w
 |0,S,listed,hsz,hSl,hc,hcl,g,A,a,w,R=>by
  have hall:=cnt_zero _ hc
  refine ⟨?_,?_⟩
  ·rw [List.eq_nil_iff_forall_not_mem]
   intro i hi
   obtain ⟨o,ho,h1,_⟩:=ready_mem.1 hi
   have hi:i<all.length:=by
    by_cases h:i<all.length
    ·exact h
    ·rw [List.getElem?_eq_none (by omega)] at ho;cases ho
   rw [Array.getD,dif_pos (by omega)] at h1
   have:=hSl i (by omega)
   rw [hall i hi] at this
   rw [show listed.getInternal i (by omega)=listed[i] from rfl,this] at h1
   cases h1
  ·rw [tmS_ext (S':=fun _=>true) _ hall,hpS_ext (S':=fun _=>true) _ hall] at R
   exact fin g A a w R
 |fuel+1,S,listed,hsz,hSl,hc,hcl,g,A,a,w,R=>by
  have get:∀k d,k<all.length→listed.getD k d=S k:=fun k d hk=>by
   rw [Array.getD,dif_pos (by omega)];exact hSl k (by omega)
  refine ⟨fun hnil=>?_,fun i hi=>?_⟩
  ·exfalso
   have hex:∃k,k<all.length∧S k=false:=by
    apply Classical.byContradiction
    intro hn
    have:cnt S all.length=0:=cnt_all _ (fun k hk=>by
     cases hs:S k with
     |true=>rfl
     |false=>exact absurd ⟨k,hk,hs⟩ hn)
    omega
   obtain ⟨k,h1,h2,h3⟩:=first_free _ hex
   have ho:all[k]?=some all[k]:=List.getElem?_eq_getElem h1
   have:k∈Region.ready .any all.toArray listed:=ready_mem.2 ⟨_,ho,by rw [get k _ h1];exact h2,fun e he hb=>by
    have:=edgesOk_at all 0 k _ hed ho e he hb
    rw [get e.on _ (by omega)];exact h3 _ (by omega)⟩
   rw [hnil] at this;cases this
  ·obtain ⟨o,ho,h1,h2⟩:=ready_mem.1 hi
   have hil:i<all.length:=by
    by_cases h:i<all.length
    ·exact h
    ·rw [List.getElem?_eq_none (by omega)] at ho;cases ho
   rw [get i _ hil] at h1
   have hbef:∀k,Nat.testBit ((masks all []).getD i 0) k=true→S k=true:=fun k hk=>by
    have hm:=masks_at all [] i o ho
    simp only [List.length_nil,Nat.zero_add] at hm
    rw [hm] at hk
    obtain ⟨e,he,hb,hk⟩:=maskE_spec _ _ _ hk
    have hlt:=edgesOk_at all 0 i o hed ho e he hb
    have hSe:S e.on=true:=by rw [←get e.on false (by omega)];exact h2 e he hb
    rcases hk with rfl|hk
    ·exact hSe
    ·rw [take_getD _ _ _ _ (by omega)] at hk
     exact hcl e.on (by omega) hSe k hk
   refine reg_op hE hgl (n:=all.length) hil h1 rfl (ran i hil) hnt (fun k hk hik hSk=>?_) (fun k hki hSk=>?_) R (fun g' A' a' w' R'=>?_)
   ·rcases drawOk_spec hl hdr hik hk with hb|ap
    ·have:=hcl k hk hSk i hb
     rw [h1] at this;cases this
    ·exact ap
   ·rcases drawOk_spec hl hdr hki hil with hb|ap
    ·have:=hbef k hb
     rw [hSk] at this;cases this
    ·exact ap
   ·refine reg_any hE hgl hl hed hdr ran hnt fin fuel (addS S i) _ (by simpa using hsz) (fun k hk=>?_) (by have:=cnt_add h1 all.length hil;omega) (fun k hk hSk j hj=>?_) g' A' a' w' R'
    ·have hk':k<listed.size:=by simpa using hk
     rw [Array.getElem_setIfInBounds hk']
     unfold addS
     by_cases e:i=k
     ·subst e;simp
     ·rw [if_neg e]
      have e':k≠i:=fun h=>e h.symm
      simpa [e'] using hSl k hk'
    ·unfold addS at hSk ⊢
     by_cases e:k=i
     ·subst e;rw [hbef j hj];rfl
     ·have hSk':S k=true:=by simpa [e] using hSk
      rw [hcl k hk hSk' j hj];rfl
theorem region_ok (hE:EnvOk P E) (hgl:E.globs=B.gl) (hmix:P.follows .mixedOrders=true) {id:Nat} {ops:Array Oper} {draw:Bool} {g:Gh} {A:Nat→Prop} {a:Act} {w:World} (hops:all=ops.toList) (hl:rc.length=all.length) (hed:edgesOk all 0=true) (hdr:draw=true→drawOk all (fpsOf rc)=true) (ran:∀j,j<all.length→RanAt E all nx tm0 h0 rc j) (hnt:∀j d,dstOf all j=some d→d<B.nt)
  (R:RS B g A a w tm0 h0 io)
  (fin:∀g A a w,RS B g A a w (tmS (dstOf all) (fun k=>(rcAt rc k).x) tm0 (fun _=>true) all.length) (hpS (fun k=>(rcAt rc k).ws) h0 (fun _=>true) all.length) io→Q .normal a w):(Code.region id ops draw).wp P Q a w:=by
 have hops':ops=all.toArray:=by rw [hops]
 have hsz:ops.size=all.length:=by rw [hops'];simp
 have hz:∀{X:Nat→PV} n,tmS (dstOf all) X tm0 (fun _=>false) n=tm0:=fun {X} n=>by
  induction n with
  |zero=>rfl
  |succ n ih=>rw [tmS_succ];exact ih
 have hz2:∀{V:Nat→Hp} n,hpS V h0 (fun _=>false) n=h0:=fun {V} n=>by
  induction n with
  |zero=>rfl
  |succ n ih=>rw [hpS_succ];exact ih
 cases draw with
 |false=>
  refine wp_region ?_
  rw [hsz,hops',List.range_eq_range']
  refine reg_seq hE hgl hl ran hnt fin all.length 0 (by omega) g A a w ?_
  rw [tmS_ext (S':=fun _=>false) _ (fun k _=>by simp),hpS_ext (S':=fun _=>false) _ (fun k _=>by simp),hz,hz2]
  exact R
 |true=>
  refine wp_region_any hmix ?_
  rw [hsz,hops']
  refine reg_any hE hgl hl hed (hdr rfl) ran hnt fin all.length (fun _=>false) _ (by simp) (fun k hk=>by simp) ?_ (fun k _ h=>by cases h) g A a _ ?_
  ·have:∀n,cnt (fun _=>false) n=n:=fun n=>by
    induction n with
    |zero=>rfl
    |succ n ih=>unfold cnt;rw [ih];rfl
   exact this _
  ·rw [hz,hz2]
   have G:Grew w {w with drawn:=w.drawn+1}:=Grew.drew w
   have St:=Step.grow R.hr G
   exact ⟨R.size,R.defs,fun t x e=>⟨(R.tms t x e).1,(R.tms t x e).2.mono St.le St.mono St.same⟩,St.hr,R.mono,R.in',fun r hr=>(St.same r (R.mono r hr)).trans (R.same r hr),R.keep.trans St.keep,R.io⟩
end
end Go.Proofs.YtkihjakbbcajbaaGreat.PM
namespace Go.Proofs.YtkihjakbbcajbaaGreat.PM
set_option linter.unusedSimpArgs false
set_option linter.unusedVariables false
open Go
theorem pos_spec:∀(l:List Nat) (id n i:Nat),pos id l n=some i→n≤i∧l[i - n]?=some id
 |[],_,_,_,h=>by simp [pos] at h
 |j::l,id,n,i,h=>by
  unfold pos at h
  cases hb:Nat.beq id j with
  |true=>
   rw [hb] at h
   simp only [cond_true,Option.some.injEq] at h
   subst h
   exact ⟨Nat.le_refl _,by simp [Nat.eq_of_beq_eq_true hb]⟩
  |false=>
   rw [hb] at h
   obtain ⟨h1,h2⟩:=pos_spec l id (n+1) i h
   refine ⟨by omega,?_⟩
   have:i - n=(i - (n+1))+1:=by omega
   rw [this];simpa using h2
def gren (l:List Nat) (g:Gh):Gh:=fun i=>(l[i]?).bind g
theorem gren_pos {l:List Nat} {g:Gh} {id i:Nat} {s:Slot} (h:pos id l 0=some i) (hg:g id=some s):gren l g i=some s:=by
 obtain ⟨_,h2⟩:=pos_spec l id 0 i h
 unfold gren
 rw [Nat.sub_zero] at h2
 rw [h2];exact hg
section
variable {g:Gh} {A W:Nat→Prop} {w:World} {h:Hp} {l:List Nat}
mutual
theorem renV_rel:∀(x y:PV) (cs:List Value),renV l x=some y→x.rel g A w cs→y.rel (gren l g) A w cs
 |.sl id,y,cs,e,r=>by
  unfold renV at e
  rw [Option.map_eq_some_iff] at e
  obtain ⟨i,hi,rfl⟩:=e
  unfold PV.rel at r ⊢
  obtain ⟨s,v,h1,h2⟩:=r
  exact ⟨s,v,gren_pos hi h1,h2⟩
 |.sv id p o n s m,y,cs,e,r=>by
  unfold renV at e
  rw [Option.map_eq_some_iff] at e
  obtain ⟨i,hi,rfl⟩:=e
  unfold PV.rel at r ⊢
  obtain ⟨s,v,h1,h2⟩:=r
  exact ⟨s,v,gren_pos hi h1,h2⟩
 |.ptr id p,y,cs,e,r=>by
  unfold renV at e
  rw [Option.map_eq_some_iff] at e
  obtain ⟨i,hi,rfl⟩:=e
  unfold PV.rel at r ⊢
  obtain ⟨s,b,h1,h2⟩:=r
  exact ⟨s,b,gren_pos hi h1,h2⟩
 |.agg xs,y,cs,e,r=>by
  unfold renV at e
  rw [Option.map_eq_some_iff] at e
  obtain ⟨ys,hi,rfl⟩:=e
  unfold PV.rel at r ⊢
  exact renL_rel xs ys cs hi r
 |.tup xs,y,cs,e,r=>by
  unfold renV at e
  rw [Option.map_eq_some_iff] at e
  obtain ⟨ys,hi,rfl⟩:=e
  unfold PV.rel at r ⊢
  obtain ⟨vs,h1,h2⟩:=r
  exact ⟨vs,h1,renL_tups xs ys _ hi h2⟩
 |.fn f xs,y,cs,e,r=>by
  unfold renV at e
  rw [Option.map_eq_some_iff] at e
  obtain ⟨ys,hi,rfl⟩:=e
  unfold PV.rel at r ⊢
  obtain ⟨vs,h1,h2⟩:=r
  exact ⟨vs,h1,renL_rel xs ys _ hi h2⟩
 |.v t x,y,cs,e,r=>by
  unfold renV at e;injection e with e;subst e
  unfold PV.rel at r ⊢;exact r
 |.iptr t x,y,cs,e,r=>by
  unfold renV at e;injection e with e;subst e
  unfold PV.rel at r ⊢;exact r
 |.nils,y,cs,e,r=>by
  unfold renV at e;injection e with e;subst e
  unfold PV.rel at r ⊢;exact r
 |.undef,y,cs,e,r=>by
  unfold renV at e;injection e with e;subst e
  unfold PV.rel at r ⊢;exact r
theorem renL_rel:∀(xs ys:List PV) (cs:List Value),renL l xs=some ys→rels g A w xs cs→rels (gren l g) A w ys cs
 |[],ys,cs,e,r=>by
  unfold renL at e;injection e with e;subst e
  unfold rels at r ⊢;exact r
 |x::xs,ys,cs,e,r=>by
  unfold renL at e
  simp only [Option.bind_eq_some_iff,Option.some.injEq] at e
  obtain ⟨a,h1,b,h2,rfl⟩:=e
  unfold rels at r ⊢
  obtain ⟨c,d,h3,h4,h5⟩:=r
  exact ⟨c,d,h3,renV_rel x a c h1 h4,renL_rel xs b d h2 h5⟩
theorem renL_tups:∀(xs ys:List PV) (vs:List Value),renL l xs=some ys→tups g A w xs vs→tups (gren l g) A w ys vs
 |[],ys,vs,e,r=>by
  unfold renL at e;injection e with e;subst e
  unfold tups at r ⊢;exact r
 |x::xs,ys,vs,e,r=>by
  unfold renL at e
  simp only [Option.bind_eq_some_iff,Option.some.injEq] at e
  obtain ⟨a,h1,b,h2,rfl⟩:=e
  unfold tups at r ⊢
  obtain ⟨v,r',h3,h4,h5⟩:=r
  have hag:aggP a=aggP x:=by
   cases x<;>unfold renV at h1<;>first
    |(rw [Option.map_eq_some_iff] at h1;obtain ⟨i,_,rfl⟩:=h1;rfl)
    |(injection h1 with h1;subst h1;rfl)
  refine ⟨v,r',h3,?_,renL_tups xs b r' h2 h5⟩
  rw [hag]
  cases hx:aggP x with
  |true=>
   rw [hx] at h4
   obtain ⟨cs,q1,q2⟩:=h4
   exact ⟨cs,q1,renV_rel x a _ h1 q2⟩
  |false=>
   rw [hx] at h4
   exact renV_rel x a _ h1 h4
end
theorem renV_agg {x y:PV} (h1:renV l x=some y):aggP y=aggP x:=by
 cases x<;>unfold renV at h1<;>first
  |(rw [Option.map_eq_some_iff] at h1;obtain ⟨i,_,rfl⟩:=h1;rfl)
  |(injection h1 with h1;subst h1;rfl)
theorem renV_VRel {x y:PV} {v:Value} (h:renV l x=some y) (r:VRel g A w x v):VRel (gren l g) A w y v:=by
 unfold VRel at r ⊢
 rw [renV_agg h]
 cases hx:aggP x with
 |true=>rw [hx] at r;obtain ⟨cs,q1,q2⟩:=r;exact ⟨cs,q1,renV_rel x y _ h q2⟩
 |false=>rw [hx] at r;exact renV_rel x y _ h r
theorem renT_look:∀(tm tm':List (Nat × PV)) (t:Nat) (y:PV),renT l tm=some tm'→look t tm'=some y→∃x,look t tm=some x∧renV l x=some y
 |[],tm',t,y,e,h=>by
  unfold renT at e;injection e with e;subst e;cases h
 |(u,x)::tm,tm',t,y,e,h=>by
  unfold renT at e
  simp only [Option.bind_eq_some_iff,Option.some.injEq] at e
  obtain ⟨a,h1,b,h2,rfl⟩:=e
  rw [look_cons] at h ⊢
  split at h
  ·rename_i htu;rw [if_pos htu];injection h with h;subst h;exact ⟨x,rfl,h1⟩
  ·rename_i htu;rw [if_neg htu];exact renT_look tm b t y h2 h
theorem keepT_look {m:Nat} {tm:List (Nat × PV)}:∀(k u t:Nat) (x:PV),look t (keepT m tm k u)=some x→look t tm=some x
 |0,u,t,x,h=>by cases h
 |k+1,u,t,x,h=>by
  unfold keepT at h
  cases hm:has m u with
  |false=>rw [hm] at h;exact keepT_look k (u+1) t x h
  |true=>
   rw [hm] at h
   simp only [cond_true] at h
   split at h
   ·rename_i y hy
    rw [look_cons] at h
    split at h
    ·rename_i e;injection h with h;subst h e;exact hy
    ·exact keepT_look k (u+1) t x h
   ·exact keepT_look k (u+1) t x h
theorem renH_look {hp:Hp}:∀(r:List Nat) (n:Nat) (h':Hp),renH hp l r n=some h'→(∀i,i<n→look i h'=none)∧∀i,n≤i→(look i h'=(r[i - n]?).bind fun id=>some ((hp.at id).bind (renB l)))∧∀id b,r[i - n]?=some id→hp.at id=some b→∃b',renB l b=some b'
 |[],n,h',e=>by
  unfold renH at e;injection e with e;subst e
  exact ⟨fun _ _=>rfl,fun i _=>⟨by simp [look],fun id b h=>by simp at h⟩⟩
 |id::r,n,h',e=>by
  unfold renH at e
  have step:∀(ob:Option Blk) (hh:Hp),renH hp l r (n+1)=some hh→h'=(n,ob)::hh→((hp.at id).bind (renB l)=ob)→(∀b,hp.at id=some b→∃b',renB l b=some b')→
    (∀i,i<n→look i h'=none)∧∀i,n≤i→(look i h'=((id::r)[i - n]?).bind fun id=>some ((hp.at id).bind (renB l)))∧∀id' b,(id::r)[i - n]?=some id'→hp.at id'=some b→∃b',renB l b=some b':=fun ob hh e1 e2 e3 e4=>by
   obtain ⟨q1,q2⟩:=renH_look r (n+1) hh e1
   subst e2
   refine ⟨fun i hi=>?_,fun i hi=>?_⟩
   ·rw [look_cons,if_neg (by omega)];exact q1 i (by omega)
   ·rw [look_cons]
    by_cases ei:i=n
    ·subst ei
     rw [if_pos rfl,Nat.sub_self]
     exact ⟨by simp [e3],fun id' b h=>by simp at h;subst h;exact e4 b⟩
    ·rw [if_neg ei]
     have hs:i - n=(i - (n+1))+1:=by omega
     rw [hs]
     simpa using q2 i (by omega)
  split at e
  ·rename_i b hb
   simp only [Option.bind_eq_some_iff,Option.some.injEq] at e
   obtain ⟨b',h1,hh,h2,rfl⟩:=e
   exact step (some b') hh h2 rfl (by rw [hb];exact h1) (fun c hc=>by rw [hb] at hc;injection hc with hc;subst hc;exact ⟨b',h1⟩)
  ·rename_i hb
   simp only [Option.bind_eq_some_iff,Option.some.injEq] at e
   obtain ⟨hh,h2,rfl⟩:=e
   exact step none hh h2 rfl (by rw [hb];rfl) (fun c hc=>by rw [hb] at hc;cases hc)
theorem nodup_inj:∀(l:List Nat),nodupB l=true→∀(i j id:Nat),l[i]?=some id→l[j]?=some id→i=j
 |[],_,i,j,id,h,_=>by simp at h
 |a::l,hn,i,j,id,h1,h2=>by
  simp only [nodupB,Bool.and_eq_true,Bool.not_eq_true'] at hn
  have ha:∀k,l[k]?=some a→False:=fun k hk=>by
   have:(l.any (Nat.beq a))=true:=List.any_eq_true.2 ⟨a,List.mem_of_getElem? hk,Nat.beq_refl a⟩
   rw [hn.1] at this;cases this
  cases i with
  |zero=>
   cases j with
   |zero=>rfl
   |succ j=>
    simp at h1 h2;subst h1;exact (ha j h2).elim
  |succ i=>
   cases j with
   |zero=>simp at h1 h2;subst h2;exact (ha i h1).elim
   |succ j=>
    have:=nodup_inj l hn.2 i j id (by simpa using h1) (by simpa using h2)
    omega
theorem renH_HR (H:HR g A W w h) {h':Hp} (hn:nodupB l=true) (e:renH h l l 0=some h'):HR (gren l g) A W w h':=by
 obtain ⟨_,q⟩:=renH_look l 0 h' e
 have at':∀i b',h'.at i=some b'→∃id b,l[i]?=some id∧h.at id=some b∧renB l b=some b':=fun i b' hb=>by
  have:=(q i (Nat.zero_le _)).1
  rw [Nat.sub_zero] at this
  unfold Hp.at at hb
  rw [this] at hb
  cases hl:l[i]? with
  |none=>rw [hl] at hb;cases hb
  |some id=>
   rw [hl] at hb
   have hb:(h.at id).bind (renB l)=some b':=hb
   rw [Option.bind_eq_some_iff] at hb
   obtain ⟨b,h1,h2⟩:=hb
   exact ⟨id,b,rfl,h1,h2⟩
 have live':∀b b',renB l b=some b'→b'.live=b.live:=fun b b' hb=>by
  cases b with
  |box x=>unfold renB at hb;rw [Option.map_eq_some_iff] at hb;obtain ⟨y,_,rfl⟩:=hb;rfl
  |row t xs f=>unfold renB at hb;injection hb with hb;subst hb;rfl
 have gl:∀i id,l[i]?=some id→gren l g i=g id:=fun i id hi=>by unfold gren;rw [hi];rfl
 refine ⟨fun i b' hb=>?_,fun i b' s r hb hl hg hs=>?_,fun i j b c s s' r hb hc hbl hcl hg hg' hs hs'=>?_,fun i s hg=>?_,H.lt⟩
 ·obtain ⟨id,b,h1,h2,h3⟩:=at' i b' hb
  have hB:=H.blk id b h2
  cases b with
  |box x=>
   unfold renB at h3
   rw [Option.map_eq_some_iff] at h3
   obtain ⟨y,h3,rfl⟩:=h3
   obtain ⟨s,bb,c,et,q1,q2,q3,q4⟩:=hB
   exact ⟨s,bb,c,et,by rw [gl i id h1];exact q1,q2,q3,renV_rel x y _ h3 q4⟩
  |row t xs f=>
   unfold renB at h3;injection h3 with h3;subst h3
   obtain ⟨s,q1,q2⟩:=hB
   exact ⟨s,by rw [gl i id h1];exact q1,q2⟩
 ·obtain ⟨id,b,h1,h2,h3⟩:=at' i b' hb
  rw [gl i id h1] at hg
  exact H.own id b s r h2 (by rw [←live' b b' h3];exact hl) hg hs
 ·obtain ⟨id,b1,h1,h2,h3⟩:=at' i b hb
  obtain ⟨id',c1,k1,k2,k3⟩:=at' j c hc
  rw [gl i id h1] at hg
  rw [gl j id' k1] at hg'
  have:=H.inj id id' b1 c1 s s' r h2 k2 (by rw [←live' _ _ h3];exact hbl) (by rw [←live' _ _ k3];exact hcl) hg hg' hs hs'
  subst this
  exact nodup_inj l hn i j id h1 k1
 ·unfold gren at hg
  rw [Option.bind_eq_some_iff] at hg
  obtain ⟨id,h1,_⟩:=hg
  have:=(q i (Nat.zero_le _)).1
  rw [Nat.sub_zero,h1] at this
  exact ⟨_,this⟩
theorem renL_io:∀(xs ys:List PV) (ss:List Slot),renL l xs=some ys→IoR g xs ss→IoR (gren l g) ys ss
 |[],ys,ss,e,r=>by
  unfold renL at e;injection e with e;subst e
  cases ss with
  |nil=>trivial
  |cons _ _=>exact r.elim
 |x::xs,ys,[],e,r=>r.elim
 |x::xs,ys,s::ss,e,r=>by
  unfold renL at e
  simp only [Option.bind_eq_some_iff,Option.some.injEq] at e
  obtain ⟨a,h1,b,h2,rfl⟩:=e
  obtain ⟨⟨id,hx,hg⟩,r⟩:=r
  refine ⟨?_,renL_io xs b ss h2 r⟩
  rcases hx with rfl|rfl
  ·unfold renV at h1
   rw [Option.map_eq_some_iff] at h1
   obtain ⟨i,hi,rfl⟩:=h1
   exact ⟨i,.inl rfl,gren_pos hi hg⟩
  ·unfold renV at h1
   rw [Option.map_eq_some_iff] at h1
   obtain ⟨i,hi,rfl⟩:=h1
   exact ⟨i,.inr rfl,gren_pos hi hg⟩
end
theorem norm_ok {B:Bs} {g:Gh} {A:Nat→Prop} {a:Act} {w:World} {nt m:Nat} {st st':St} (R:RS B g A a w st.tm st.hp st.io) (e:norm nt m st=some st'):∃g',RS B g' A a w st'.tm st'.hp st'.io:=by
 unfold norm at e
 simp only at e
 generalize idsB st.hp (idsB st.hp (idsB st.hp (idsT (keepT m st.tm nt 0) (idsL st.io [])) (idsT (keepT m st.tm nt 0) (idsL st.io []))) _) _=l at e
 cases hn:nodupB l with
 |false=>rw [hn] at e;cases e
 |true=>
  rw [hn] at e
  simp only [cond_true,Option.bind_eq_some_iff,Option.some.injEq] at e
  obtain ⟨tm,h1,hp,h2,io,h3,rfl⟩:=e
  refine ⟨gren l g,R.size,R.defs,fun t y hy=>?_,renH_HR R.hr hn h2,R.mono,R.in',R.same,R.keep,renL_io _ _ _ h3 R.io⟩
  obtain ⟨x,q1,q2⟩:=renT_look _ _ t y h1 hy
  obtain ⟨q3,q4⟩:=R.tms t x (keepT_look _ _ _ _ q1)
  exact ⟨q3,renV_VRel q2 q4⟩
end Go.Proofs.YtkihjakbbcajbaaGreat.PM
namespace Go.Proofs.YtkihjakbbcajbaaGreat.PM
set_option linter.unusedSimpArgs false
set_option linter.unusedVariables false
open Go
def items (K:List Item):List It→List Item
 |[]=>K
 |.code c::k=> .code c::items K k
 |.blk id::k=> .inBlock id::items K k
 |.lp b::k=> .inLoop b::items K k
 |.join::k=>items K k
def dstOk (nt:Nat) (ops:List Oper):Bool:=ops.all fun o=>match o.dst with
 |some d=>decide (d<nt)
 |none=>true
def wfC (nt:Nat):Code→Bool
 |.region _ ops _=>dstOk nt ops.toList && edgesOk ops.toList 0
 |.seq a b=>wfC nt a && wfC nt b
 |.cond _ a b=>wfC nt a && wfC nt b
 |.block _ b=>wfC nt b
 |.loop b=>wfC nt b
 |_=>true
def wfI (nt:Nat):List It→Bool
 |[]=>true
 |.code c::k=>wfC nt c && wfI nt k
 |.lp b::k=>wfC nt b && wfI nt k
 |_::k=>wfI nt k
theorem dstOk_at {nt:Nat} {ops:List Oper} (h:dstOk nt ops=true) (j d:Nat) (e:dstOf ops j=some d):d<nt:=by
 unfold dstOf at e
 rw [Option.bind_eq_some_iff] at e
 obtain ⟨o,h1,h2⟩:=e
 have:=List.all_eq_true.1 h o (List.mem_of_getElem? h1)
 rw [h2] at this
 exact of_decide_eq_true this
theorem exit_items {K:List Item} {id:Nat} {nt:Nat}:∀(k k':List It),exitI id k=some k'→exitTo id (items K k)=some (items K k')∧(wfI nt k=true→wfI nt k'=true)
 |[],k',h=>by cases h
 |.blk j::k,k',h=>by
  unfold exitI at h
  cases hb:Nat.beq id j with
  |true=>
   rw [hb] at h
   simp only [cond_true,Option.some.injEq] at h
   subst h
   obtain rfl:=Nat.eq_of_beq_eq_true hb
   exact ⟨by simp [items,exitTo],fun h=>h⟩
  |false=>
   rw [hb] at h
   have hne:id≠j:=Nat.ne_of_beq_eq_false hb
   obtain ⟨h1,h2⟩:=exit_items (K:=K) (nt:=nt) k k' h
   have hne':j≠id:=fun e=>hne e.symm
   exact ⟨by simp [items,exitTo,hne,hne',h1],h2⟩
 |.code c::k,k',h=>by
  obtain ⟨h1,h2⟩:=exit_items (K:=K) (nt:=nt) k k' h
  exact ⟨by simp [items,exitTo,h1],fun h=>h2 (by simp only [wfI,Bool.and_eq_true] at h;exact h.2)⟩
 |.lp b::k,k',h=>by
  obtain ⟨h1,h2⟩:=exit_items (K:=K) (nt:=nt) k k' h
  exact ⟨by simp [items,exitTo,h1],fun h=>h2 (by simp only [wfI,Bool.and_eq_true] at h;exact h.2)⟩
 |.join::k,k',h=>by
  obtain ⟨h1,h2⟩:=exit_items (K:=K) (nt:=nt) k k' h
  exact ⟨by simp only [items];exact h1,h2⟩
def Ends (P:Program) (b:Frame) (K:List Item) (cs:List Frame) (m:Machine) (Post:Bool→Act→World→Prop):Prop:=
 ∃e a w,((e=Exit.normal∧Post false a w)∨(e=Exit.ret∧Post true a w))∧Arrives P m b K cs e a w
theorem Ends.of_steps {P:Program} {b:Frame} {K:List Item} {cs:List Frame} {m m':Machine} {Post:Bool→Act→World→Prop} (h:Steps P m m'):Ends P b K cs m' Post→Ends P b K cs m Post:=
 fun ⟨e,a,w,h1,h2⟩=>⟨e,a,w,h1,Arrives.of_steps h h2⟩
section
variable {P:Program} {E:Env} {B:Bs} {ρ:Type}
theorem seg_ok (hE:EnvOk P E) (hgl:E.globs=B.gl) (hmix:P.follows .mixedOrders=true) {C:Cx ρ} (hCE:C.E=E) (hCn:C.nt=B.nt) {Post:ρ→Bool→Act→World→Prop} {f:List It→St→Option ρ}
  (fin:∀st r,(C.fin st).ev f=some r→∀g A a w,RS B g A a w st.tm st.hp st.io→Post r false a w) (finR:∀st r,(C.finR st).ev f=some r→∀g A a w,RS B g A a w st.tm st.hp st.io→Post r true a w) (b:Frame) (K:List Item) (cs:List Frame)
  (hf:∀its st r,f its st=some r→∀g A a w,RS B g A a w st.tm st.hp st.io→wfI B.nt its=true→Ends P b K cs (Go.lone (b.at a (items K its)) cs w) (Post r)):
  ∀(n:Nat) (its:List It) (st:St) (r:ρ),(seg C n its st).ev f=some r→∀g A a w,RS B g A a w st.tm st.hp st.io→wfI B.nt its=true→Ends P b K cs (Go.lone (b.at a (items K its)) cs w) (Post r)
 |0,its,st,r,e,_,_,_,_,_,_=>by simp [seg,DT.ev] at e
 |n+1,[],st,r,e,g,A,a,w,R,_=>by
  unfold seg at e
  exact ⟨.normal,a,w,.inl ⟨rfl,fin st r e g A a w R⟩,.refl _ _⟩
 |n+1,.blk id::k,st,r,e,g,A,a,w,R,hw=>by
  unfold seg at e
  exact (seg_ok hE hgl hmix hCE hCn fin finR b K cs hf n k st r e g A a w R hw).of_steps (.one step_inBlock)
 |n+1,.join::k,st,r,e,g,A,a,w,R,hw=>by
  unfold seg at e
  simp only at e
  split at e
  ·rename_i st' hs
   obtain ⟨g',R'⟩:=norm_ok R hs
   exact hf k st' r e g' A a w R' hw
  ·simp [DT.ev] at e
 |n+1,.lp c::k,st,r,e,g,A,a,w,R,hw=>by
  unfold seg at e
  simp only at e
  split at e
  ·rename_i st' hs
   obtain ⟨g',R'⟩:=norm_ok R hs
   simp only [wfI,Bool.and_eq_true] at hw
   exact (hf (.code c::.lp c::k) st' r e g' A a w R' (by simp [wfI,hw.1,hw.2])).of_steps (.one step_inLoop)
  ·simp [DT.ev] at e
 |n+1,.code c::k,st,r,e,g,A,a,w,R,hw=>by
  unfold seg at e
  simp only at e
  simp only [wfI,Bool.and_eq_true] at hw
  obtain ⟨hwc,hwk⟩:=hw
  split at e
  ·exact (seg_ok hE hgl hmix hCE hCn fin finR b K cs hf n k st r e g A a w R hwk).of_steps (.one step_skip)
  ·rename_i x y
   simp only [wfC,Bool.and_eq_true] at hwc
   exact (seg_ok hE hgl hmix hCE hCn fin finR b K cs hf n (.code x::.code y::k) st r e g A a w R (by simp [wfI,hwc.1,hwc.2,hwk])).of_steps (.one step_seq)
  ·rename_i id x
   simp only [wfC] at hwc
   exact (seg_ok hE hgl hmix hCE hCn fin finR b K cs hf n (.code x::.blk id::k) st r e g A a w R (by simp [wfI,hwc,hwk])).of_steps (.one step_block)
  ·rename_i x
   simp only [wfC] at hwc
   cases n with
   |zero=>simp [seg,DT.ev] at e
   |succ n=>
    unfold seg at e
    simp only at e
    split at e
    ·rename_i st' hs
     obtain ⟨g',R'⟩:=norm_ok R hs
     exact (hf (.code x::.lp x::k) st' r e g' A a w R' (by simp [wfI,hwc,hwk])).of_steps (.one step_loop)
    ·simp [DT.ev] at e
  ·rename_i id
   split at e
   ·rename_i k' hk
    obtain ⟨h1,h2⟩:=exit_items (K:=K) (nt:=B.nt) k k' hk
    exact (seg_ok hE hgl hmix hCE hCn fin finR b K cs hf n k' st r e g A a w R (h2 hwk)).of_steps (.one (step_exit h1))
   ·simp [DT.ev] at e
  ·exact ⟨.ret,a,w,.inr ⟨rfl,finR st r e g A a w R⟩,_,.one step_ret⟩
  ·rename_i c x y
   simp only [wfC,Bool.and_eq_true] at hwc
   split at e
   ·rename_i t hc
    have hv:=v_bool (R.opd c _ (by rw [←hgl,←hCE];exact hc))
    have hlit:∀s,look s (litC st.tm c t)=look s st.tm:=fun s=>by
     cases c with
     |tmp u=>exact known st.tm u t hc s
     |_=>rfl
    simp only [DT.ev] at e
    cases t with
    |true=>
     simp only [cond_true] at e
     have:=seg_ok hE hgl hmix hCE hCn fin finR b K cs hf n (.code x::.join::k) ⟨litC st.tm c true,st.hp,st.nx,st.io⟩ r e g A a w (R.congr (fun s=>(hlit s).symm) (fun _=>rfl)) (by simp [wfI,hwc.1,hwk])
     exact this.of_steps (.one (step_cond hv))
    |false=>
     simp only [cond_false] at e
     have:=seg_ok hE hgl hmix hCE hCn fin finR b K cs hf n (.code y::.join::k) ⟨litC st.tm c false,st.hp,st.nx,st.io⟩ r e g A a w (R.congr (fun s=>(hlit s).symm) (fun _=>rfl)) (by simp [wfI,hwc.2,hwk])
     exact this.of_steps (.one (step_cond hv))
   ·simp [DT.ev] at e
  ·rename_i id ops draw
   simp only [wfC,Bool.and_eq_true] at hwc
   rw [hCE] at e
   obtain ⟨rc,tm',hl,ran,htm,e2⟩:=opsD_ran (all:=ops.toList) (nx:=st.nx) (tm0:=st.tm) (h0:=st.hp) ops.toList [] [] st.tm (by simp) rfl (fun _=>rfl) (fun j h=>by simp at h) (by simpa [hpS] using e)
   rw [show ∀(b:Bool) (x y:DT ρ),(cond b x y).ev f=cond b (x.ev f) (y.ev f) from fun b x y=>by cases b<;>rfl] at e2
   cases hd:(!draw||drawOk ops.toList (rc.map fun r=>(r.rs.reverse,r.ws.map (·.1)))) with
   |false=>rw [hd] at e2;simp [DT.ev] at e2
   |true=>
    rw [hd] at e2
    simp only [cond_true] at e2
    have W:=region_ok (P:=P) (id:=id) (ops:=ops) (draw:=draw) (Q:=fun e a w=>e=.normal∧∃g A,RS B g A a w tm' (hpS (fun k=>(rcAt rc k).ws) st.hp (fun _=>true) ops.toList.length) st.io) hE hgl hmix rfl hl hwc.2 (fun hdr=>by rw [hdr] at hd;simpa [fpsOf] using hd) ran (dstOk_at hwc.1) R
     (fun g A a w R'=>⟨rfl,g,A,R'.congr (fun t=>(htm t).symm) (fun _=>rfl)⟩)
    obtain ⟨ex,a',w',⟨rfl,g',A',R'⟩,harr⟩:=W b (items K k) cs
    exact (seg_ok hE hgl hmix hCE hCn fin finR b K cs hf n k _ r e2 g' A' a' w' R' hwk).of_steps harr
  ·simp [DT.ev] at e
theorem run_ok (hE:EnvOk P E) (hgl:E.globs=B.gl) (hmix:P.follows .mixedOrders=true) {C:Cx ρ} (hCE:C.E=E) (hCn:C.nt=B.nt) {Post:ρ→Bool→Act→World→Prop}
  (fin:∀f st r,(C.fin st).ev f=some r→∀g A a w,RS B g A a w st.tm st.hp st.io→Post r false a w) (finR:∀f st r,(C.finR st).ev f=some r→∀g A a w,RS B g A a w st.tm st.hp st.io→Post r true a w) (b:Frame) (K:List Item) (cs:List Frame):
  ∀(n:Nat) (its:List It) (st:St) (r:ρ),run C n its st=some r→∀g A a w,RS B g A a w st.tm st.hp st.io→wfI B.nt its=true→Ends P b K cs (Go.lone (b.at a (items K its)) cs w) (Post r)
 |0,its,st,r,e,_,_,_,_,_,_=>by simp [run] at e
 |n+1,its,st,r,e,g,A,a,w,R,hw=>
  seg_ok hE hgl hmix hCE hCn (fin (run C n)) (finR (run C n)) b K cs (run_ok hE hgl hmix hCE hCn fin finR b K cs n) 100000 its st r e g A a w R hw
theorem res_run {C:Cx ρ} {its:List It} {st:St} {r:ρ} (h:res C its st=some r):∃n,run C n its st=some r:=by
 unfold res lm at h
 split at h
 ·rename_i hx
  injection h with h
  subst h
  exact hx.choose_spec
 ·cases h
theorem res_ok (hE:EnvOk P E) (hgl:E.globs=B.gl) (hmix:P.follows .mixedOrders=true) {C:Cx ρ} (hCE:C.E=E) (hCn:C.nt=B.nt) {Post:ρ→Bool→Act→World→Prop}
  (fin:∀f st r,(C.fin st).ev f=some r→∀g A a w,RS B g A a w st.tm st.hp st.io→Post r false a w) (finR:∀f st r,(C.finR st).ev f=some r→∀g A a w,RS B g A a w st.tm st.hp st.io→Post r true a w) (b:Frame) (K:List Item) (cs:List Frame) {its:List It} {st:St} {r:ρ} (e:res C its st=some r) {g:Gh} {A:Nat→Prop} {a:Act} {w:World} (R:RS B g A a w st.tm st.hp st.io) (hw:wfI B.nt its=true):
  Ends P b K cs (Go.lone (b.at a (items K its)) cs w) (Post r):=by
 obtain ⟨n,e⟩:=res_run e
 exact run_ok hE hgl hmix hCE hCn fin finR b K cs n its st r e g A a w R hw
end
end Go.Proofs.YtkihjakbbcajbaaGreat.PM
