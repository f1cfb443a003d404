/- A part of what Nodes needs. -/
import Derived.Test.YtapoehkdnglahabGreatNodesGw
set_option maxHeartbeats 32000000
set_option maxRecDepth 100000
set_option linter.unusedVariables false
set_option linter.unusedSimpArgs false
set_option linter.unusedSectionVars false
namespace Go.Proofs.YtapoehkdnglahabGreat
section
def TW.more (W:TW):TW:={W with n:=W.n+1}
theorem nO (e:UInt32) (l k:List (UInt32×cP)):cz e (l++k)=cz e l++cz e k:=by unfold cz;rw[List.filter_append,List.map_append]
theorem xF (e:UInt32) (z:UInt32×cP) (l:List (UInt32×cP)):cz e (z::l)=(if z.1=e then [z.2]else [])++cz e l:=by
 unfold cz
 by_cases h:z.1=e
 ·rw[if_pos h,List.filter_cons,if_pos (by simpa using h)];rfl
 ·rw[if_neg h,List.filter_cons,if_neg (by simpa using h)];rfl
def jt (dst:UInt32) (l:List (UInt32×cP)):Option Nat:=l.findIdx? fun w=>decide (w.1=dst)
theorem oO {dst:UInt32} {l:List (UInt32×cP)} {i:Nat} (h:jt dst l=some i):∃z,l[i]? =some z∧z.1=dst∧i<l.length∧cz dst (l.take i)=[]:=by
 unfold jt at h
 rw[List.findIdx?_eq_some_iff_getElem]at h
 obtain⟨h1,h2,h3⟩:=h
 refine⟨l[i],List.getElem?_eq_getElem h1,by simpa using h2,h1,?_⟩
 unfold cz
 rw[List.filter_eq_nil_iff.2]
 ·rfl
 ·intro a ha
  rw[List.mem_take_iff_getElem]at ha
  obtain⟨j,hj,rfl⟩:=ha
  have:=h3 j (by omega)
  simpa using this
theorem B7 {dst:UInt32} {l:List (UInt32×cP)} (h:jt dst l=none):cz dst l=[]:=by
 unfold jt at h
 rw[List.findIdx?_eq_none_iff]at h
 unfold cz
 rw[List.filter_eq_nil_iff.2]
 ·rfl
 ·intro a ha;simpa using h a ha
theorem D9 {dst:UInt32} {l:List (UInt32×cP)} {i:Nat} (h:jt dst l=some i) (e:UInt32):cz e (l.take i++l.drop (i+1))=if e=dst then(cz e l).drop 1 else cz e l:=by
 obtain⟨z,hz,RG,hi,hn⟩:=oO h
 have hl:cz e l=cz e (l.take i)++((if z.1=e then [z.2]else [])++cz e (l.drop (i+1))):=by
  rw[←xF,←nO]
  congr 1
  have h1:=(List.getElem?_eq_some_iff.1 hz).2
  rw[←h1,←List.drop_eq_getElem_cons hi,List.take_append_drop]
 rw[nO,hl]
 by_cases he:e=dst
 ·subst he
  rw[if_pos rfl,if_pos RG,hn];rfl
 ·rw[if_neg he,if_neg (fun e2=>he (e2.symm.trans RG)),List.nil_append]
theorem B8 {dst:UInt32} {l:List (UInt32×cP)} {i:Nat} {z:UInt32×cP} (h:l[i]? =some z):jt dst (l.take (i+1))=match jt dst (l.take i)with
  |some k=>some k
  |none=>if z.1=dst then some i else none:=by
 have hi:=(List.getElem?_eq_some_iff.1 h).1
 unfold jt
 rw[List.take_add_one,h,List.findIdx?_append]
 cases hf:(l.take i).findIdx? fun w=>decide (w.1=dst)with
 |some k=>rfl
 |none=>
  simp only[Option.toList_some,List.length_take]
  by_cases hz:z.1=dst
  ·rw[if_pos hz];simp[List.findIdx?_cons,hz];omega
  ·rw[if_neg hz];simp[List.findIdx?_cons,hz]
section
variable {W:TW} {s:Nd} {d:RD}
theorem Twin.Ld (h:Twin W s d) {ws:List (UInt32×List cP)} {w:List (UInt32×cP)} {m:Nat} (vw:Value) (hk:KN ws) (hm:∀e,(bX ws e).getD []=cz e w) (hl:w.length≤m):Twin {W with n:=m} {s with wait:=ws} {d with vw:=vw,wait:=w}:=
 ⟨h.held,h.mY,h.kg,h.seen,h.o9,h.oz,h.o7,hm,hl,h.hP,h.search,h.jT,h.Br,h.fN,h.aP,h.oA,h.ns,h.nX,h.DB,hk,h.FP,h.oy⟩
theorem Twin.mono {W':TW} (h:Twin W s d) (he:W'.ex=W.ex) (hn:W.n≤W'.n) (hi:W.i0≤W'.i0):Twin W' s d:=⟨h.held,h.mY,h.kg,h.seen,h.o9,h.oz,h.o7,h.wait,Nat.le_trans h.mL hn,h.hP,by rw[he];exact h.search,h.jT,h.Br,h.fN,h.aP,h.oA,h.ns,h.nX,h.DB,h.Bp,by rw[he];exact h.FP,Nat.le_trans h.oy (Nat.add_le_add_right hi _)⟩
theorem Twin.overflow (h:Twin W s d) {dst:UInt32} {i:Nat} (hi:jt dst d.wait=some i) (vw:Value):Twin W {s with wait:=bY s.wait dst ((s.texts dst).drop 1)} {d with vw:=vw,wait:=d.wait.take i++d.wait.drop (i+1)}:=by
 refine h.Ld (m:=W.n) vw (h.Bp.bY _ _) (fun e=> ?_) ?_
 ·rw[fo,D9 hi]
  by_cases he:e=dst
  ·subst he;rw[if_pos rfl,if_pos rfl,Option.getD_some,h.Kp]
  ·rw[if_neg (Ne.symm he),if_neg he];exact h.wait e
 ·obtain⟨z,_,_,hl,_⟩:=oO hi
  have:=h.mL
  rw[List.length_append,List.length_take,List.length_drop]
  omega
theorem Twin.waits (h:Twin W s d) (dst:UInt32) (t:cP) (vw:Value):Twin W.more {s with wait:=bY s.wait dst (s.texts dst++[t])} {d with vw:=vw,wait:=d.wait++[(dst,t)]}:=by
 refine h.Ld (m:=W.n+1) vw (h.Bp.bY _ _) (fun e=> ?_) ?_
 ·have hn:cz e [(dst,t)]=if e=dst then [t]else []:=by
   rw[xF]
   have:cz e []=[]:=rfl
   rw[this,List.append_nil]
   by_cases he:e=dst
   ·subst he;rfl
   ·rw[if_neg he,if_neg (Ne.symm he)]
  rw[fo,nO,hn]
  by_cases he:e=dst
  ·subst he;rw[if_pos rfl,if_pos rfl,Option.getD_some,h.Kp]
  ·rw[if_neg (Ne.symm he),if_neg he,List.append_nil];exact h.wait e
 ·have:=h.mL
  rw[List.length_append,List.length_singleton]
  omega
end
end
section
def sJ (l:List Sk) (i:Nat):Sk:=l.getD i ⟨0,0,0,0,0,false⟩
def Sk.first (x y:Sk):Prop:=x.due<y.due∨(x.due=y.due∧x.set<y.set)
instance (x y:Sk):Decidable (x.first y):=by unfold Sk.first;infer_instance
def fF (l:List Sk) (now:UInt64):Nat→Option Nat
 |0=>none
 |i+1=>match fF l now i with
  |none=>if(sJ l i).due≤now then some i else none
  |some b=>if(sJ l i).due≤now∧(sJ l i).first (sJ l b)then some i else some b
theorem qw {l:List Sk} {now:UInt64}:∀{n:Nat},fF l now n=none→∀j,j<n→¬(sJ l j).due≤now
 |0,_,j,hj=>absurd hj (Nat.not_lt_zero _)
 |n+1,h,j,hj=>by
  simp only[fF]at h
  cases hb:fF l now n with
  |none=>
   rw[hb]at h
   simp only at h
   split at h
   ·cases h
   ·rename_i hn
    rcases Nat.lt_succ_iff_lt_or_eq.1 hj with hj|rfl
    ·exact qw hb j hj
    ·exact hn
  |some b=>
   rw[hb]at h
   simp only at h
   split at h<;>cases h
theorem nG {l:List Sk} {now:UInt64}:∀{n b:Nat},fF l now n=some b→b<n∧(sJ l b).due≤now∧∀j,j<n→(sJ l j).due≤now→¬(sJ l j).first (sJ l b)
 |0,b,h=>by cases h
 |n+1,b,h=>by
  have Wu:∀x:Sk,¬x.first x:=fun x h=>h.elim (fun h=>UInt64.lt_irrefl _ h) fun h=>by have:=h.2;omega
  simp only[fF]at h
  cases hb:fF l now n with
  |none=>
   rw[hb]at h
   simp only at h
   split at h
   ·cases h
    refine⟨by omega,by assumption,fun j hj hd=> ?_⟩
    rcases Nat.lt_succ_iff_lt_or_eq.1 hj with hj|rfl
    ·exact absurd hd (qw hb j hj)
    ·exact Wu _
   ·cases h
  |some c=>
   rw[hb]at h
   obtain⟨h1,h2,h3⟩:=nG hb
   simp only at h
   split at h
   ·rename_i hc
    cases h
    refine⟨by omega,hc.1,fun j hj hd hf=> ?_⟩
    rcases Nat.lt_succ_iff_lt_or_eq.1 hj with hj|rfl
    ·refine h3 j hj hd ?_
     rcases hf with hf|⟨hf,mF⟩
     ·rcases hc.2 with hg|⟨hg,_⟩
      ·exact .inl (UInt64.lt_trans hf hg)
      ·exact .inl (hg▸hf)
     ·rcases hc.2 with hg|⟨hg,VW⟩
      ·exact .inl (hf▸hg)
      ·exact .inr ⟨hf.trans hg,by omega⟩
    ·exact Wu _ hf
   ·rename_i hc
    cases h
    refine⟨by omega,h2,fun j hj hd hf=> ?_⟩
    rcases Nat.lt_succ_iff_lt_or_eq.1 hj with hj|rfl
    ·exact h3 j hj hd hf
    ·exact hc ⟨hd,hf⟩
theorem Ji {L:List Tm} {i:Nat} {t:Tm} (h:L[i]? =some t):cJ L i=t:=Jg h
theorem o8 {l:List Sk} {i:Nat} {y:Sk} (h:l[i]? =some y):sJ l i=y:=by
 unfold sJ
 rw[List.getD_eq_getElem?_getD,h];rfl
section
variable {n i0:Nat} {s:Nd} {d:RD}
theorem Twin.timer (h:Twin ⟨n,none,i0⟩ s d) {t u:Tm} (ht:t∈s.bI) (hu:u∈s.bI) (e:t.km=u.km):t=u:=by
 obtain⟨i,hi⟩:=List.getElem?_of_mem ht
 obtain⟨j,hj⟩:=List.getElem?_of_mem hu
 have h1:=List.pairwise_iff_getElem.1 (List.nodup_iff_pairwise_ne.1 h.jT)
 obtain⟨a1,a2⟩:=List.getElem?_eq_some_iff.1 hi
 obtain⟨b1,b2⟩:=List.getElem?_eq_some_iff.1 hj
 rcases Nat.lt_trichotomy i j with bW|rfl|bW
 ·have:=h1 i j (by simpa using a1) (by simpa using b1) bW
  simp[a2,b2,e]at this
 ·exact a2.symm.trans b2
 ·have:=h1 j i (by simpa using b1) (by simpa using a1) bW
  simp[a2,b2,e]at this
theorem Twin.pick (h:Twin ⟨n,none,i0⟩ s d) (so:l6 s) {now:UInt64} {i k:Nat} {x:Sr} (hb:gN s.bI now s.bI.length=some i) (hx:s.bu[k]? =some x) (hn:x.name=(cJ s.bI i).km):fF d.search now d.search.length=some k:=by
 obtain⟨c1,c2,c3,c4⟩:=iz hb
 have Ry:s.bI[i]? =some (cJ s.bI i):=hZ c1
 have tK:k<s.bu.length:=(List.getElem?_eq_some_iff.1 hx).1
 have key:∀b z,s.bu[b]? =some z→∃t∈s.bI,t.km=z.name∧(sJ d.search b).due=t.at_∧(sJ d.search b).set=t.id:=fun b z hz=>by
  obtain⟨y,hy⟩:∃y,d.search[b]? =some y:=⟨_,List.getElem?_eq_getElem (by rw[h.hP];exact(List.getElem?_eq_some_iff.1 hz).1)⟩
  obtain⟨due,set,e1,e2⟩:=h.search b z y hz hy
  rcases e2 with e2|e2
  ·cases e2
  ·exact⟨_,e2,rfl,by rw[o8 hy,e1];rfl,by rw[o8 hy,e1];rfl⟩
 obtain⟨tk,Cg,vS,FY,XN⟩:=key k x hx
 have gK:tk=cJ s.bI i:=h.timer Cg (List.mem_of_getElem? Ry) (vS.trans hn)
 subst gK
 have OJ:(sJ d.search k).due≤now:=by rw[FY];exact c2
 cases JQ:fF d.search now d.search.length with
 |none=>exact absurd OJ (qw JQ k (by rw[h.hP];exact tK))
 |some b=>
  obtain⟨b1,b2,b3⟩:=nG JQ
  rw[h.hP]at b1
  obtain⟨z,hz⟩:∃z,s.bu[b]? =some z:=⟨_,List.getElem?_eq_getElem b1⟩
  obtain⟨tb,Iz,FT,SI,TX⟩:=key b z hz
  have Wb:=b3 k (by rw[h.hP];exact tK) OJ
  obtain⟨j,hj⟩:=List.getElem?_of_mem Iz
  have Ng:=(List.getElem?_eq_some_iff.1 hj).1
  have hle:=c3 j Ng
  have TU:=Ji hj
  rw[TU]at hle
  have heq:(cJ s.bI i).at_=tb.at_:=by
   apply UInt64.toNat_inj.1
   have:¬(cJ s.bI i).at_.toNat<tb.at_.toNat:=fun bW=>Wb (.inl (by rw[FY,SI];exact bW))
   omega
  have tM:¬(cJ s.bI i).id<tb.id:=fun bW=>Wb (.inr ⟨by rw[FY,SI,heq],by rw[XN,TX];exact bW⟩)
  have pZ:j=i:=by
   rcases Nat.lt_trichotomy j i with bW|e|bW
   ·have:=c4 j bW
    rw[TU,heq]at this
    exact absurd this (Nat.lt_irrefl _)
   ·exact e
   ·exfalso
    have h1:=List.pairwise_iff_getElem.1 h.Br
    have:=h1 i j (by simpa using c1) (by simpa using Ng) bW
    obtain⟨a1,a2⟩:=List.getElem?_eq_some_iff.1 Ry
    obtain⟨e1,e2⟩:=List.getElem?_eq_some_iff.1 hj
    simp only[List.getElem_map,a2,e2]at this
    exact tM this
  subst pZ
  have Wr:z.name=x.name:=by rw[←FT,hn,TU]
  have QO:b=k:=by
   have h1:=List.pairwise_iff_getElem.1 (List.nodup_iff_pairwise_ne.1 so.names)
   obtain⟨a1,a2⟩:=List.getElem?_eq_some_iff.1 hx
   obtain⟨e1,e2⟩:=List.getElem?_eq_some_iff.1 hz
   rcases Nat.lt_trichotomy b k with bW|e|bW
   ·have:=h1 b k (by simpa using e1) (by simpa using a1) bW
    simp[a2,e2,Wr]at this
   ·exact e
   ·have:=h1 k b (by simpa using a1) (by simpa using e1) bW
    simp[a2,e2,Wr]at this
  rw[QO]
theorem Twin.idle (h:Twin ⟨n,none,i0⟩ s d) {now:UInt64} (hb:gN s.bI now s.bI.length=none):fF d.search now d.search.length=none:=by
 cases JQ:fF d.search now d.search.length with
 |none=>rfl
 |some b=>
  exfalso
  obtain⟨b1,b2,b3⟩:=nG JQ
  obtain⟨y,hy⟩:∃y,d.search[b]? =some y:=⟨_,List.getElem?_eq_getElem b1⟩
  rw[h.hP]at b1
  obtain⟨z,hz⟩:∃z,s.bu[b]? =some z:=⟨_,List.getElem?_eq_getElem b1⟩
  obtain⟨due,set,e1,e2⟩:=h.search b z y hz hy
  rcases e2 with e2|e2
  ·cases e2
  ·obtain⟨j,hj⟩:=List.getElem?_of_mem e2
   have:=nF hb j (List.getElem?_eq_some_iff.1 hj).1
   rw[Ji hj]at this
   rw[o8 hy,e1]at b2
   exact absurd b2 (UInt64.not_le.2 this)
theorem Twin.skip {s0:Nd} {now:UInt64} (hn:now.toNat≤4611686018427387904):∀(f:Nat) (t:Nd) (j:Nat),Twin ⟨n,none,i0⟩ t d→s0.DH t now j→iq now t.bI<f→∃f' c j',Twin ⟨n,none,i0⟩ {t with bI:=c} d∧s0.DH {t with bI:=c} now j'∧iq now c<f'∧iq now c≤iq now t.bI∧t.gT f now=Nd.gT f' {t with bI:=c} now∧(gN c now c.length=none∨∃i k x,gN c now c.length=some i∧nP t.bu (cJ c i).km=some k∧t.bu[k]? =some x∧x.name=(cJ c i).km)
 |0,_,_,_,_,h=>absurd h (Nat.not_lt_zero _)
 |f+1,t,j,h,hr,hf=>by
  cases hb:gN t.bI now t.bI.length with
  |none=>exact⟨f+1,t.bI,j,h,hr,hf,Nat.le_refl _,rfl,.inl hb⟩
  |some i=>
   cases hk:nP t.bu (cJ t.bI i).km with
   |some k=>
    have vS:=hk
    unfold nP at vS
    rw[List.findIdx?_eq_some_iff_getElem]at vS
    obtain⟨k1,k2,_⟩:=vS
    exact⟨f+1,t.bI,j,h,hr,hf,Nat.le_refl _,rfl,.inr ⟨i,k,t.bu[k],hb,hk,List.getElem?_eq_getElem k1,by simpa using k2⟩⟩
   |none=>
    have hs:t.step now=some {t with bI:=t.bI.eraseIdx i}:=by
     unfold Nd.step
     rw[hb]
     simp only
     rw[hk]
    have Lu:=hr.next hs hn
    have rU:=(Nd.nu hs hr.inv hr.sw hr.AX hn).due
    have zt:∀x∈t.bu,x.name≠(cJ t.bI i).km:=fun x hx e=>by
     unfold nP at hk
     rw[List.findIdx?_eq_none_iff]at hk
     have:=hk x hx
     simp[e]at this
    have h2:=(h.KJ (hZ (iz hb).1)).xN zt
    obtain⟨f',c,j',a1,a2,a3,a6,a4,a5⟩:=Twin.skip hn f {t with bI:=t.bI.eraseIdx i} (j+1) h2 Lu (by have:iq now (t.bI.eraseIdx i)+1=iq now t.bI:=rU;show iq now (t.bI.eraseIdx i)<f;omega)
    refine⟨f',c,j',a1,a2,a3,by have e1:iq now (t.bI.eraseIdx i)+1=iq now t.bI:=rU;have e2:iq now c≤iq now (t.bI.eraseIdx i):=a6;omega,?_,a5⟩
    rw[←a4]
    show(match t.step now with|some u=>u.gT f now|none=>t)=_
    rw[hs]
end
theorem Nd.KA (s:Nd):s.note.bu=s.bu:=(Nd.fz.note s).bu
theorem Nd.Jf (s:Nd) (x:Sr):(s.gE x).bu=s.bu:=by
 rw[Nd.Ah]
 obtain⟨sn,od,e⟩:=(s.wF.kE x).oZ ⟨(s.wF.kE x).self,(s.wF.kE x).ids⟩
 rw[e]
 show(Nd.note {s with seq:=bS s.seq}).bu=s.bu
 rw[Nd.KA]
theorem Nd.FH (s:Nd) (k:Nat) (x:Sr):(s.ask k x).bu.length=s.bu.length:=by
 unfold Nd.ask
 split
 ·show(s.bu.modify k _).length=_;rw[List.length_modify]
 ·split
  ·show(s.bu.modify k _).length=_;rw[List.length_modify]
  ·show((s.cH k true).gE x).bu.length=_
   rw[Nd.Jf]
   show(s.bu.modify k _).length=_;rw[List.length_modify]
theorem Nd.GS (s:Nd) (k:Nat) (x:Sr):(s.again k x).bu.length≤s.bu.length:=by
 unfold Nd.again
 split
 ·rw[Nd.w8]
  split
  ·show((s.bg _ _).bu.eraseIdx _).length≤_
   rw[(Nd.jH s _ _).1]
   exact(List.eraseIdx_sublist _ _).length_le
  ·show(s.bg _ _).bu.length≤_
   rw[(Nd.jH s _ _).1];exact Nat.le_refl _
 ·split
  ·split
   ·rw[Nd.FH]
    show(s.bu.set k _).length≤_
    rw[List.length_set];exact Nat.le_refl _
   ·show(s.bu.eraseIdx k).length≤_
    exact(List.eraseIdx_sublist _ _).length_le
  ·rw[Nd.FH];exact Nat.le_refl _
end
section
open Go.RowKit
attribute [local irreducible] WS LS cD eM cn cv Spec bA aK di cq
variable (w0:World)
theorem De (n i0 gn:Nat) (s:Nd) (now:UInt64) (dst:UInt32) (t:cP) {c:Nat} (hr:s.Rest c) (hc:c≤8500) (vT:now.toNat≤4611686018427387904) (hn:s.now.toNat≤now.toNat) (X1:n≤90000) (uY:i0≤800000) (F7:s.bu.length≤90000) (he:s.gA dst t=0):Spec Tryz.prog w0 82 [ptr gn 0,u64 now,u32 dst,aZ t] (j9 ⟨n,none,i0⟩ gn s) (fun v:Value×Value×Value=> .tuple #[fp (s.iG now dst t).out v,.int .i64 0]) (fun v=>j9 ⟨n+1,none,i0+5⟩ gn (s.iG now dst t)*ei (s.iG now dst t).out v):=by
 have ht:t.length≤16:=by unfold Nd.gA at he;split at he;cases he;omega
 have hd:dst≠s.self∧dst≠0:=by
  unfold Nd.gA at he
  rw[if_neg (by omega)]at he
  split at he
  ·cases he
  ·rename_i h;exact⟨fun e=>h (.inl e),fun e=>h (.inr e)⟩
 obtain⟨Nb,rU⟩:=hd
 have hb:=hr.inv.begin now
 obtain⟨e1,e2,e3,e4,e5,e6⟩:=s.fM now
 have hs:=Nd.Step.KW hb dst t
 have h1:=hs.aI
 have h2:=hs.ay
 have h3:=Nd.fL s now hr.inv.dp.dp
 have h4:=Nd.fK s now hr.inv.dp.dp
 have h5:=hr.aI
 have g1:=hr.names;have g2:=hr.bI;have g3:=hr.last
 have pY:(s.begin now).Fit 8:=(Nd.lz hr now).le (by omega)
 have uZ:=hb.ea dst t ht (by rw[e4];exact g1.1)
 have p1:=mv w0 ⟨n,none,i0⟩ gn s hr.inv.dp.dp (by omega) now hn
 refine Spec.enter Tryz.func82 rfl Tryz.ntmps82 rfl fun G=> ?_
 have O5:¬(16:Int)<(t.length:Int):=by omega
 have T1:¬dst=s.self:=Nb
 have T2:¬dst=0:=rU
 refine wB (W:=⟨n,none,i0⟩) (g:=gn) (s:=s) iI fun d0 o0 YO=> ?_
 simp only[aN]
 have Vb:Spec Tryz.prog w0 101 [ptr gn 0,u64 now] (aK gn 195 (bN s d0 o0)*(rows 28 3 Rec.cells d0.vr s.aI*(rows 28 3 Rec.cells d0.vh d0.held*(ct d0.tb s.self s.ls*bc d0)))) (fun _:Unit=> .tuple #[]) (fun _=>qe ⟨n,none,i0+5⟩ gn (s.begin now)):=p1.ob (by have:=aq.j9 (W:=⟨n,none,i0⟩) (g:=gn) (F:=emp) o0 YO (aq.refl _);simpa only[bl]using this) fun u=>⟨u,rfl,aq.refl _⟩
 clear p1
 simp only[bN]at Vb ⊢
 unfold Nd.iG
 generalize s.begin now=s1 at*
 have p9:=nS w0 ⟨n+1,none,i0+5⟩ gn (s1.ea dst t) uZ.dp.dp (by omega) (by omega)
 generalize Ho:((s1.ea dst t).done)=s9 at*
 simp only[fp,ei]at p9 ⊢
 have p3:=fun d=>xV w0 gn s1 d hb.dp.dp (pY.le (by omega)) dst t (by omega)
 cases hx:bR s1.ls dst s1.now with
 |some r=>
  have es:s1.ea dst t=s1.hand dst t:=by unfold Nd.ea;rw[hx];rfl
  rw[es]at p9
  have p8:=fun d (tw:Twin ⟨n,none,i0+5⟩ s1 d) vf=>Spec.nV ((tw.hand dst t vf).mono (W':=⟨n+1,none,i0+5⟩) rfl (by show n≤n+1;omega) (Nat.le_refl _)) p9
  simp only[hx,Option.isSome_some]at p3
  generalize s1.hand dst t=s2 at*
  unfold cR at p3 p8
  simp only[bN,ad]at p3 p8
  repeat' (first|(refine ab ?_;intro K hK)|(refine hK _ ?_;clear hK K)|refine ax ?_|(refine aF ?_ ?_<;>intro hc<;>(try simp only[cS]at hc)<;>(try exact aG))|refine aX ?_|refine az ?_|(refine bT ?_;intro g)|(refine bQ ?_;intro g)|(refine ai (aa iI rfl Vb iI) rfl ?_;intro x1)|(refine kA (W:=⟨n,none,i0+5⟩) (g:=gn) (s:=s1) iI fun d tw=> ?_;replace p3:=p3 d;replace p8:=p8 d tw;unfold cR;simp only[bN,ad])|(refine ai (aa iI rfl p3 iI) rfl ?_;intro vf;replace p8:=p8 vf)|(refine ai (aa iI rfl p8 iI) rfl ?_;intro x9))
  exact dF (.inl rfl) rfl (aS rfl iI iI rfl) (bh rfl) ⟨x9,rfl,ah⟩
 |none=>
  have eh:s1.hand dst t=s1:=by unfold Nd.hand;rw[hx]
  have Rw:s1.bu.length≤90000:=by rw[e6];exact F7
  simp only[hx,Option.isSome_none,eh]at p3
  have Cm:=gS hb dst
  unfold cR at p3
  simp only[bN,ad]at p3
  repeat' (first|(refine ab ?_;intro K hK)|(refine hK _ ?_;clear hK K)|refine ax ?_|(refine aF ?_ ?_<;>intro hc<;>(try simp only[cS]at hc)<;>(try exact aG))|refine aX ?_|refine az ?_|(refine bT ?_;intro g)|(refine ai (aa iI rfl Vb iI) rfl ?_;intro x1)|(refine kA (W:=⟨n,none,i0+5⟩) (g:=gn) (s:=s1) iI fun d tw=> ?_;replace p3:=p3 d;unfold cR;simp only[bN,ad])|(refine ai (aa iI rfl p3 iI) rfl ?_;intro vf))
  have Nj:=tw.Kp dst
  have Wm:d.wait.length≤n:=tw.mL
  refine aV (fun kk τ=>∃i:Nat,i+kk=d.wait.length∧τ=⟨[(13,.int .i64 (i:Int)),(12,.int .i64 (qc (jt dst (d.wait.take i)))),(11,.int .i64 (((cz dst (d.wait.take i)).length:Nat):Int)),(9,.int .i64 0),(8,ptr g 0),(3,aZ t),(2,u32 dst),(1,u64 now),(0,ptr gn 0)],[],aK g 35 [aZ [],.bool false,.slice none 0 0,.slice none 0 0,.slice none 0 0]*(cR gn s1 {d with vf:=vf}*G)⟩) ?_ ?_
  ·exact⟨d.wait.length,_,⟨0,by omega,rfl⟩,cG,rfl,by unfold cR bc cc;simp only[bN];exact ah⟩
  rintro kk τ ⟨i,qE,rfl⟩
  unfold cR bc cc cy
  simp only[bN,ad]
  rcases Nat.lt_or_ge i d.wait.length with h|h
  ·have h1:(i:Int)<(d.wait.length:Int):=by omega
   obtain⟨z,hz⟩:∃z,d.wait[i]? =some z:=⟨_,List.getElem?_eq_getElem h⟩
   have Ci:=qM (d:=dst) hz
   have JW:=B8 (dst:=dst) hz
   have Rg:(cz dst (d.wait.take i)).length≤i:=by unfold cz;rw[List.length_map];exact Nat.le_trans (List.length_filter_le _ _) (by rw[List.length_take];omega)
   by_cases h2:z.1=dst
   ·rw[if_pos h2]at Ci
    cases P0:jt dst (d.wait.take i)with
    |some q=>
     rw[P0]at JW
     simp only[qc]
     repeat' (first|(refine ab ?_;intro K hK)|(refine hK _ ?_;clear hK K)|refine ax ?_|(refine aF ?_ ?_<;>intro hc<;>(try simp only[cS]at hc)<;>(try exact aG))|refine aX ?_|refine az ?_)
     exact⟨kk - 1,_,by omega,⟨i+1,by omega,rfl⟩,⟨rfl,by rw[JW];rfl,by rw[Ci,List.length_append];rfl,rfl,rfl,rfl,rfl,rfl,rfl,trivial⟩,rfl,by simp only[bN];exact ah⟩
    |none=>
     rw[P0,if_pos h2]at JW
     simp only[qc]
     repeat' (first|(refine ab ?_;intro K hK)|(refine hK _ ?_;clear hK K)|refine ax ?_|(refine aF ?_ ?_<;>intro hc<;>(try simp only[cS]at hc)<;>(try exact aG))|refine aX ?_|refine az ?_)
     exact⟨kk - 1,_,by omega,⟨i+1,by omega,rfl⟩,⟨rfl,by rw[JW];rfl,by rw[Ci,List.length_append];rfl,rfl,rfl,rfl,rfl,rfl,rfl,trivial⟩,rfl,by simp only[bN];exact ah⟩
   ·rw[if_neg h2,List.append_nil]at Ci
    have T6:jt dst (d.wait.take (i+1))=jt dst (d.wait.take i):=by rw[JW];cases jt dst (d.wait.take i)<;>simp[h2]
    repeat' (first|(refine ab ?_;intro K hK)|(refine hK _ ?_;clear hK K)|refine ax ?_|(refine aF ?_ ?_<;>intro hc<;>(try simp only[cS]at hc)<;>(try exact aG))|refine aX ?_|refine az ?_)
    exact⟨kk - 1,_,by omega,⟨i+1,by omega,rfl⟩,⟨rfl,by rw[T6];rfl,by rw[Ci];rfl,rfl,rfl,rfl,rfl,rfl,rfl,trivial⟩,rfl,by simp only[bN];exact ah⟩
  have h1:¬(i:Int)<(d.wait.length:Int):=by omega
  rw[List.take_of_length_le h]
  rw[Nj]at Cm
  by_cases h4:(s1.texts dst).length=4
  ·have Xd:(4:Int)≤(((cz dst d.wait).length:Nat):Int):=by rw[Nj]at h4;omega
   cases P0:jt dst d.wait with
   |none=>
    exfalso
    rw[Nj,B7 P0]at h4
    cases h4
   |some q=>
    obtain⟨_,_,_,Zh,_⟩:=oO P0
    obtain⟨er,SN⟩:∃er,er=d.wait.take q++d.wait.drop (q+1):=⟨_,rfl⟩
    have XB:er.length≤d.wait.length:=by rw[SN,List.length_append,List.length_take,List.length_drop];omega
    have zq:((q:Nat):Int)+1=((q+1:Nat):Int):=by omega
    simp only[qc]
    repeat' (first|(refine ab ?_;intro K hK)|(refine hK _ ?_;clear hK K)|refine ax ?_|(refine aF ?_ ?_<;>intro hc<;>(try simp only[cS]at hc)<;>(try exact aG))|refine aX ?_|refine az ?_)
    refine nC (by assumption) (fun τ=>∃v9:Option Addr×Nat,τ=⟨[(9,.int .i64 0),(8,ptr g 0),(3,aZ t),(2,u32 dst),(1,u64 now),(0,ptr gn 0)],[],aK g 35 [aZ [],.bool false,.slice none 0 0,.slice none 0 0,.slice none 0 0]*(cR gn s1 {d with vf:=vf,vw:= .slice v9.1 er.length v9.2,wait:=er}*G)⟩) ?_ ?_
    ·refine rA (rows 243 2 dA d.vw d.wait) (aK gn 195 [u32 s1.self,u32 s1.seq,ptr d.tb 0,d.vr,u64 s1.cd,d.vs,d.vw,d.vq,.int .i64 s1.last,u32 s1.ids,u32 s1.ff,d.vt,u64 s1.now,aZ s1.out.ay,.bool s1.out.replace,vf,d.vc,d.vd,d.vh,u32 s1.own]*(rows 28 3 Rec.cells d.vr s1.aI*(rows 28 3 Rec.cells d.vh d.held*(ct d.tb s1.self s1.ls*(rows 48 2 dA vf s1.out.aJ*(rows 70 2 dA d.vc s1.out.cj*(rows 166 1 lr d.vd s1.out.dropped*(rows 312 3 jM d.vs d.seen*(rows 210 6 uM d.vq d.search*(rows 24 1 eL d.vt d.aP*(aK g 35 [aZ [],.bool false,.slice none 0 0,.slice none 0 0,.slice none 0 0]*G))))))))))) [19] (by ac_rfl) ?_
     refine ec 0 rfl (fun F'=>by exact bC rfl) ?_
     refine ec 2 rfl (fun F'=>by exact bC rfl) ?_
     refine ec 3 rfl (fun F'=>by exact db rfl) ?_
     refine ec 4 rfl (fun F'=>by first|exact bq rfl iI rfl|exact eG rfl iI iI rfl (by first|assumption|omega)) ?_
     refine yQ 5 rfl (fun F'=>by first|exact cm rfl iI iI rfl|exact kZ rfl iI iI rfl|exact lg rfl iI iI iI (by assumption) rfl|exact ja rfl iI iI iI (by assumption)) ?_
     refine ec 6 rfl (fun F'=>by exact bC rfl) ?_
     refine ec 7 rfl (fun F'=>by first|exact dv rfl rfl iI iI iI iI (by first|assumption|omega)|exact cW rfl rfl iI iI iI iI (by first|assumption|omega)) ?_
     refine ec 9 rfl (fun F'=>by exact bC rfl) ?_
     refine ec 10 rfl (fun F'=>by exact db rfl) ?_
     refine ec 11 rfl (fun F'=>by first|exact bq rfl iI rfl|exact eG rfl iI iI rfl (by first|assumption|omega)) ?_
     refine yQ 12 rfl (fun F'=>by first|exact cm rfl iI iI rfl|exact kZ rfl iI iI rfl|exact lg rfl iI iI iI (by assumption) rfl|exact ja rfl iI iI iI (by assumption)) ?_
     refine ec 13 rfl (fun F'=>by exact bC rfl) ?_
     refine ec 14 rfl (fun F'=>by first|exact wj rfl rfl (by omega)|exact bE rfl rfl iI|exact kP rfl rfl (by first|omega|simp)) ?_
     refine ec 15 rfl (fun F'=>by first|exact dv rfl rfl iI iI iI iI (by first|assumption|omega)|exact cW rfl rfl iI iI iI iI (by first|assumption|omega)) ?_
     refine ed [1] ⟨?_,trivial⟩
     refine wb 1 rfl (fq dA iI iI) fun x1=> ?_
     refine ed [8] ⟨?_,trivial⟩
     refine GC 8 rfl (ny rfl rfl iI iI rfl iI iI gU (by first|omega|(simp;omega)) rfl) fun x8=> ?_
     refine ed [16] ⟨?_,trivial⟩
     refine GC 16 rfl (uq (d.wait.take q++d.wait.drop (q+1)).length (by simp) rfl rfl iI iI rfl iI iI gU (by first|omega|(simp;omega)) rfl) fun Tn=> ?_
     refine ec 17 rfl (fun F'=>by exact db rfl) ?_
     refine ec 18 rfl (fun F'=>by first|exact bq rfl iI rfl|exact eG rfl iI iI rfl (by first|assumption|omega)) ?_
     refine ed [19] ⟨?_,trivial⟩
     refine kx ?_;refine uo 19 rfl (kV rfl rfl iI rfl iI rfl) fun YV=> ?_
     refine oE ?_
     exact⟨_,⟨Tn,rfl⟩,cG,rfl,by rw[SN];unfold cR bc cc cy;simp only[bN,List.nil_append];exact ah⟩
    ·rintro τ ⟨v9,rfl⟩
     unfold cR bc cc cy
     simp only[bN,ad]
     have lD:∀vd,Twin ⟨n,none,i0+5⟩ (Nd.drop {s1 with wait:=bY s1.wait dst ((s1.texts dst).drop 1)} 6) {d with vf:=vf,vw:= .slice v9.1 er.length v9.2,wait:=er,vd:=vd}:=fun vd=>by
      have:=((tw.overflow P0 (.slice v9.1 er.length v9.2)).drop 6 vd)
      rw[←SN]at this
      exact this.to (Nd.Alike.refl _) rfl rfl rfl rfl rfl
     have p6:=cx w0 gn s1 {d with vf:=vf,vw:= .slice v9.1 er.length v9.2,wait:=er} 6 (by have:=pY.dropped;omega)
     unfold cR bc cc cy at p6
     simp only[bN,ad,Nd.drop]at p6
     clear SN
     have yp:=fun vd vw=>(lD vd).waits dst t vw
     have O1:=(lD d.vd).dest dst
     have UF:d.search.length=s1.bu.length:=(lD d.vd).hP
     have UG:(Nd.drop {s1 with wait:=bY s1.wait dst ((s1.texts dst).drop 1)} 6).bu=s1.bu:=rfl
     have p4:=fun vd vw=>kR w0 gn [u32 s1.self,u32 s1.seq,ptr d.tb 0,d.vr,u64 s1.cd,d.vs,vw] [.int .i64 s1.last,u32 s1.ids,u32 s1.ff,d.vt,u64 s1.now,aZ s1.out.ay,.bool s1.out.replace,vf,d.vc,vd,d.vh,u32 s1.own] d.vq d.search (by omega) rfl dst
     rw[show nY d.search dst=eS s1.bu dst from O1]at p4
     simp only[List.cons_append,List.nil_append]at p4
     cases hk:eS s1.bu dst with
     |some k=>
      have Oh:s1.ea dst t={(Nd.drop {s1 with wait:=bY s1.wait dst ((s1.texts dst).drop 1)} 6)with wait:=bY (Nd.drop {s1 with wait:=bY s1.wait dst ((s1.texts dst).drop 1)} 6).wait dst ((Nd.drop {s1 with wait:=bY s1.wait dst ((s1.texts dst).drop 1)} 6).texts dst++[t])}:=by unfold Nd.ea;rw[if_neg (by rw[hx];simp),if_pos h4];simp only;rw[show eS (Nd.drop {s1 with wait:=bY s1.wait dst ((s1.texts dst).drop 1)} 6).bu dst=some k from hk];try rfl
      rw[Oh]at p9
      rw[hk]at p4
      simp only[qc]at p4
      have p8:=fun vd vw=>Spec.nV (yp vd vw) p9
      unfold cR bc cc at p8
      simp only[bN,ad,cy,Nd.drop,TW.more]at p8
      repeat' (first|(refine ab ?_;intro K hK)|(refine hK _ ?_;clear hK K)|refine ax ?_|(refine aF ?_ ?_<;>intro hc<;>(try simp only[cS]at hc)<;>(try exact aG))|refine aX ?_|refine az ?_|(refine bQ ?_;intro g)|(refine ai (aa iI rfl p6 iI) rfl ?_;intro vd;clear p6;replace p4:=p4 vd;(first|replace p8:=p8 vd|skip);(first|replace p5:=p5 vd|skip))|(refine ai (au dA [(dst,t)] iI iI iI rfl rfl rfl rfl rfl iI rfl rfl rfl) rfl ?_;intro vx)|(refine ai (cn.form (er.length+1) (by simp) (aR rfl rfl iI iI rfl iI iI gU (by simp only[List.length_singleton];omega) rfl)) rfl ?_;intro va;replace p4:=p4 (.slice va.1 (er.length+1) va.2);replace p8:=p8 (.slice va.1 (er.length+1) va.2))|(refine ai (aa iI rfl p4 iI) rfl ?_;intro u4;clear p4)|(refine ai (aa iI rfl p8 iI) rfl ?_;intro x9))
      exact dF (.inl rfl) rfl (aS rfl iI iI rfl) (bh rfl) ⟨x9,rfl,ah⟩
     |none=>
      have Oh:s1.ea dst t=Nd.ask (Nd.eC {(Nd.drop {s1 with wait:=bY s1.wait dst ((s1.texts dst).drop 1)} 6)with wait:=bY (Nd.drop {s1 with wait:=bY s1.wait dst ((s1.texts dst).drop 1)} 6).wait dst ((Nd.drop {s1 with wait:=bY s1.wait dst ((s1.texts dst).drop 1)} 6).texts dst++[t])} dst) s1.bu.length ⟨dst,1,0,false,s1.names+1⟩:=by unfold Nd.ea;rw[if_neg (by rw[hx];simp),if_pos h4];simp only;rw[show eS (Nd.drop {s1 with wait:=bY s1.wait dst ((s1.texts dst).drop 1)} 6).bu dst=none from hk];try rfl
      rw[Oh]at p9
      rw[hk]at p4
      simp only[qc]at p4
      have Hq:=hb.sr
      have ow:((d.search.length+1:Nat):Int) - 1=(s1.bu.length:Int):=by omega
      have UO:(s1.bu++[(⟨dst,1,0,false,s1.names+1⟩:Sr)])[s1.bu.length]? =some ⟨dst,1,0,false,s1.names+1⟩:=by simp
      have Vk:l6 (Nd.eC {(Nd.drop {s1 with wait:=bY s1.wait dst ((s1.texts dst).drop 1)} 6)with wait:=bY (Nd.drop {s1 with wait:=bY s1.wait dst ((s1.texts dst).drop 1)} 6).wait dst ((Nd.drop {s1 with wait:=bY s1.wait dst ((s1.texts dst).drop 1)} 6).texts dst++[t])} dst):=⟨(hb.eC dst hk (by rw[e4];exact g1.1)).sr.aO,(hb.eC dst hk (by rw[e4];exact g1.1)).sr.names,(hb.eC dst hk (by rw[e4];exact g1.1)).sr.each⟩
      have p5:=fun vd vw vq=>Spec.nV ((yp vd vw).eC dst vq) (pN w0 (n+1) (i0+5) gn (Nd.eC {(Nd.drop {s1 with wait:=bY s1.wait dst ((s1.texts dst).drop 1)} 6)with wait:=bY (Nd.drop {s1 with wait:=bY s1.wait dst ((s1.texts dst).drop 1)} 6).wait dst ((Nd.drop {s1 with wait:=bY s1.wait dst ((s1.texts dst).drop 1)} 6).texts dst++[t])} dst) s1.bu.length ⟨dst,1,0,false,s1.names+1⟩ UO ⟨by simp,by simp,by simp,by simp⟩ Vk hb.dp.dp hb.order ⟨by show 0≤s1.last;omega,by show s1.last≤_;omega⟩ (by show s1.now.toNat≤_;rw[e1];exact vT) (by omega) (by show(s1.bu++[_]).length≤_;rw[List.length_append,List.length_singleton];omega) ⟨by show s1.out.aJ.length+3≤_;have:=pY.aJ;omega,by show s1.out.cj.length+3≤_;have:=pY.cj;omega,by show(s1.out.dropped++[6]).length+3≤_;rw[List.length_append,List.length_singleton];have:=pY.dropped;omega,by show s1.aI.length+9*3≤_;have:=pY.aI;omega,by show s1.out.ay.length+120*3≤_;have:=pY.ay;omega⟩)
      unfold cR bc cc at p5
      simp only[bN,ad,cy,Nd.drop,Nd.eC,TW.more]at p5 p9
      repeat' (first|(refine ab ?_;intro K hK)|(refine hK _ ?_;clear hK K)|refine ax ?_|(refine aF ?_ ?_<;>intro hc<;>(try simp only[cS]at hc)<;>(try exact aG))|refine aX ?_|refine az ?_|(refine bQ ?_;intro g)|(refine ai (aa iI rfl p6 iI) rfl ?_;intro vd;clear p6;replace p4:=p4 vd;(first|replace p8:=p8 vd|skip);(first|replace p5:=p5 vd|skip))|(refine ai (au dA [(dst,t)] iI iI iI rfl rfl rfl rfl rfl iI rfl rfl rfl) rfl ?_;intro vx)|(refine ai (cn.form (er.length+1) (by simp) (aR rfl rfl iI iI rfl iI iI gU (by simp only[List.length_singleton];omega) rfl)) rfl ?_;intro va;replace p4:=p4 (.slice va.1 (er.length+1) va.2);replace p5:=p5 (.slice va.1 (er.length+1) va.2))|(refine ai (aa iI rfl p4 iI) rfl ?_;intro u4;clear p4)|(refine ai (au uM [(⟨dst,1,0,0,0,false⟩:Sk)] iI iI iI rfl rfl rfl rfl rfl iI rfl rfl rfl) rfl ?_;intro vz)|(refine ai (cn.form (d.search.length+1) (by simp) (aR rfl rfl iI iI rfl iI iI vY (by simp only[List.length_singleton];omega) rfl)) rfl ?_;intro vb;replace p5:=p5 (.slice vb.1 (d.search.length+1) vb.2))|(rw[ow];refine ai (aa iI rfl p5 iI) rfl ?_;intro u5;clear p5)|(refine ai (aa iI rfl p9 iI) rfl ?_;intro x9))
      exact dF (.inl rfl) rfl (aS rfl iI iI rfl) (bh rfl) ⟨x9,rfl,ah⟩
  ·have Xd:¬(4:Int)≤(((cz dst d.wait).length:Nat):Int):=by rw[Nj]at h4;omega
   have lD:Twin ⟨n,none,i0+5⟩ s1 {d with vf:=vf}:=tw.to (Nd.Alike.refl s1) rfl rfl rfl rfl rfl
   have yp:=fun vw=>lD.waits dst t vw
   have O1:=lD.dest dst
   have UF:d.search.length=s1.bu.length:=lD.hP
   have UG:s1.bu=s1.bu:=rfl
   have p4:=fun vw=>kR w0 gn [u32 s1.self,u32 s1.seq,ptr d.tb 0,d.vr,u64 s1.cd,d.vs,vw] [.int .i64 s1.last,u32 s1.ids,u32 s1.ff,d.vt,u64 s1.now,aZ s1.out.ay,.bool s1.out.replace,vf,d.vc,d.vd,d.vh,u32 s1.own] d.vq d.search (by omega) rfl dst
   rw[show nY d.search dst=eS s1.bu dst from O1]at p4
   simp only[List.cons_append,List.nil_append]at p4
   cases hk:eS s1.bu dst with
   |some k=>
    have Oh:s1.ea dst t={s1 with wait:=bY s1.wait dst (s1.texts dst++[t])}:=by unfold Nd.ea;rw[if_neg (by rw[hx];simp),if_neg h4];simp only;rw[show eS s1.bu dst=some k from hk];try rfl
    rw[Oh]at p9
    rw[hk]at p4
    simp only[qc]at p4
    have p8:=fun vw=>Spec.nV (yp vw) p9
    unfold cR bc cc at p8
    simp only[bN,ad,cy,Nd.drop,TW.more]at p8
    repeat' (first|(refine ab ?_;intro K hK)|(refine hK _ ?_;clear hK K)|refine ax ?_|(refine aF ?_ ?_<;>intro hc<;>(try simp only[cS]at hc)<;>(try exact aG))|refine aX ?_|refine az ?_|(refine bQ ?_;intro g)|(refine ai (au dA [(dst,t)] iI iI iI rfl rfl rfl rfl rfl iI rfl rfl rfl) rfl ?_;intro vx)|(refine ai (cn.form (d.wait.length+1) (by simp) (aR rfl rfl iI iI rfl iI iI gU (by simp only[List.length_singleton];omega) rfl)) rfl ?_;intro va;replace p4:=p4 (.slice va.1 (d.wait.length+1) va.2);replace p8:=p8 (.slice va.1 (d.wait.length+1) va.2))|(refine ai (aa iI rfl p4 iI) rfl ?_;intro u4;clear p4)|(refine ai (aa iI rfl p8 iI) rfl ?_;intro x9))
    exact dF (.inl rfl) rfl (aS rfl iI iI rfl) (bh rfl) ⟨x9,rfl,ah⟩
   |none=>
    have Oh:s1.ea dst t=Nd.ask (Nd.eC {s1 with wait:=bY s1.wait dst (s1.texts dst++[t])} dst) s1.bu.length ⟨dst,1,0,false,s1.names+1⟩:=by unfold Nd.ea;rw[if_neg (by rw[hx];simp),if_neg h4];simp only;rw[show eS s1.bu dst=none from hk];try rfl
    rw[Oh]at p9
    rw[hk]at p4
    simp only[qc]at p4
    have Hq:=hb.sr
    have ow:((d.search.length+1:Nat):Int) - 1=(s1.bu.length:Int):=by omega
    have UO:(s1.bu++[(⟨dst,1,0,false,s1.names+1⟩:Sr)])[s1.bu.length]? =some ⟨dst,1,0,false,s1.names+1⟩:=by simp
    have Vk:l6 (Nd.eC {s1 with wait:=bY s1.wait dst (s1.texts dst++[t])} dst):=⟨(hb.eC dst hk (by rw[e4];exact g1.1)).sr.aO,(hb.eC dst hk (by rw[e4];exact g1.1)).sr.names,(hb.eC dst hk (by rw[e4];exact g1.1)).sr.each⟩
    have p5:=fun vw vq=>Spec.nV ((yp vw).eC dst vq) (pN w0 (n+1) (i0+5) gn (Nd.eC {s1 with wait:=bY s1.wait dst (s1.texts dst++[t])} dst) s1.bu.length ⟨dst,1,0,false,s1.names+1⟩ UO ⟨by simp,by simp,by simp,by simp⟩ Vk hb.dp.dp hb.order ⟨by show 0≤s1.last;omega,by show s1.last≤_;omega⟩ (by show s1.now.toNat≤_;rw[e1];exact vT) (by omega) (by show(s1.bu++[_]).length≤_;rw[List.length_append,List.length_singleton];omega) ⟨by show s1.out.aJ.length+3≤_;have:=pY.aJ;omega,by show s1.out.cj.length+3≤_;have:=pY.cj;omega,by show s1.out.dropped.length+3≤_;have:=pY.dropped;omega,by show s1.aI.length+9*3≤_;have:=pY.aI;omega,by show s1.out.ay.length+120*3≤_;have:=pY.ay;omega⟩)
    unfold cR bc cc at p5
    simp only[bN,ad,cy,Nd.drop,Nd.eC,TW.more]at p5 p9
    repeat' (first|(refine ab ?_;intro K hK)|(refine hK _ ?_;clear hK K)|refine ax ?_|(refine aF ?_ ?_<;>intro hc<;>(try simp only[cS]at hc)<;>(try exact aG))|refine aX ?_|refine az ?_|(refine bQ ?_;intro g)|(refine ai (au dA [(dst,t)] iI iI iI rfl rfl rfl rfl rfl iI rfl rfl rfl) rfl ?_;intro vx)|(refine ai (cn.form (d.wait.length+1) (by simp) (aR rfl rfl iI iI rfl iI iI gU (by simp only[List.length_singleton];omega) rfl)) rfl ?_;intro va;replace p4:=p4 (.slice va.1 (d.wait.length+1) va.2);replace p5:=p5 (.slice va.1 (d.wait.length+1) va.2))|(refine ai (aa iI rfl p4 iI) rfl ?_;intro u4;clear p4)|(refine ai (au uM [(⟨dst,1,0,0,0,false⟩:Sk)] iI iI iI rfl rfl rfl rfl rfl iI rfl rfl rfl) rfl ?_;intro vz)|(refine ai (cn.form (d.search.length+1) (by simp) (aR rfl rfl iI iI rfl iI iI vY (by simp only[List.length_singleton];omega) rfl)) rfl ?_;intro vb;replace p5:=p5 (.slice vb.1 (d.search.length+1) vb.2))|(rw[ow];refine ai (aa iI rfl p5 iI) rfl ?_;intro u5;clear p5)|(refine ai (aa iI rfl p9 iI) rfl ?_;intro x9))
    exact dF (.inl rfl) rfl (aS rfl iI iI rfl) (bh rfl) ⟨x9,rfl,ah⟩
end
end Go.Proofs.YtapoehkdnglahabGreat
