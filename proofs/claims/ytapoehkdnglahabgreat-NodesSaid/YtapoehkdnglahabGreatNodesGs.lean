/- A part of what Nodes needs. -/
import Derived.Test.YtapoehkdnglahabGreatNodesGr
set_option maxHeartbeats 16000000
set_option maxRecDepth 100000
set_option linter.unusedVariables false
set_option linter.unusedSimpArgs false
set_option linter.unusedSectionVars false
namespace Go.Proofs.YtapoehkdnglahabGreat
section
def cz (d:UInt32) (l:List (UInt32×cP)):List cP:=(l.filter fun w=>decide (w.1=d)).map (·.2)
def kU (d:UInt32) (l:List (UInt32×cP)):List (UInt32×cP):=l.filter fun w=>decide (w.1≠d)
theorem qM {d:UInt32} {l:List (UInt32×cP)} {i:Nat} {z:UInt32×cP} (h:l[i]? =some z):cz d (l.take (i+1))=cz d (l.take i)++if z.1=d then [z.2]else []:=by
 unfold cz
 rw[List.take_add_one,h,List.filter_append,List.map_append]
 by_cases hz:z.1=d
 ·rw[if_pos hz];simp[hz]
 ·rw[if_neg hz];simp[hz]
theorem xU {d:UInt32} {l:List (UInt32×cP)} {i:Nat} {z:UInt32×cP} (h:l[i]? =some z):kU d (l.take (i+1))=kU d (l.take i)++if z.1=d then []else [z]:=by
 unfold kU
 rw[List.take_add_one,h,List.filter_append]
 by_cases hz:z.1=d
 ·rw[if_pos hz];simp[hz]
 ·rw[if_neg hz];simp[hz]
theorem ud (d:UInt32) (l:List (UInt32×cP)) (i:Nat):(kU d (l.take i)).length≤l.length:=by
 unfold kU
 refine Nat.le_trans (List.length_filter_le _ _) ?_
 rw[List.length_take];omega
theorem HB {d:UInt32} {l:List (UInt32×cP)} {i:Nat} {z:UInt32×cP} (h:l[i]? =some z) (hz:z.1=d):z.2∈cz d l:=by
 unfold cz
 exact List.mem_map_of_mem (List.mem_filter.2 ⟨List.mem_of_getElem? h,by simpa using hz⟩)
theorem zC (d:UInt32) (l:List (UInt32×cP)) (i:Nat):∃r,cz d l=cz d (l.take i)++r:=by
 refine⟨cz d (l.drop i),?_⟩
 unfold cz
 rw[←List.map_append,←List.filter_append,List.take_append_drop]
theorem EI (d e:UInt32) (l:List (UInt32×cP)):cz e (kU d l)=if e=d then []else cz e l:=by
 unfold cz kU
 rw[List.filter_filter]
 by_cases he:e=d
 ·subst he
  rw[if_pos rfl]
  have:(l.filter fun a=>decide (a.1=e)&&decide (a.1≠e))=[]:=by
   rw[List.filter_eq_nil_iff]
   intro a _ h
   simp at h
  rw[this];rfl
 ·rw[if_neg he]
  congr 1
  refine List.filter_congr fun a _=> ?_
  by_cases ha:a.1=e
  ·simp[ha,he]
  ·simp[ha]
section
variable {W:TW} {s:Nd} {d:RD}
theorem Twin.Kp (h:Twin W s d) (dst:UInt32):s.texts dst=cz dst d.wait:=h.wait dst
theorem Twin.hand (h:Twin W s d) (dst:UInt32) (t:cP) (vf:Value):Twin W (s.hand dst t) {d with vf:=vf}:=by
 unfold Nd.hand
 split
 ·exact h.to (Nd.Alike.refl s) rfl rfl rfl rfl rfl
 ·refine h.to (t:=_) ⟨rfl,rfl,oI fun x hx=> ?_,rfl,rfl,rfl,rfl,rfl,rfl,rfl,rfl,rfl,rfl⟩ rfl rfl rfl rfl rfl
  show x∈aO (iY s.ls dst s.ir)
  rw[gY];exact hx
theorem Twin.bg (h:Twin W s d) (dst:UInt32) (l:List cP) (vf:Value):Twin W (s.bg dst l) {d with vf:=vf}:=by
 induction l using eE with
 |nil=>exact h.to (Nd.Alike.refl s) rfl rfl rfl rfl rfl
 |snoc l t ih=>rw[Nd.dX];exact ih.hand dst t vf
theorem Twin.cX (h:Twin W s d) (dst:UInt32) (vw:Value):Twin W (s.cX dst) {d with vw:=vw,wait:=kU dst d.wait}:=by
 refine⟨h.held,h.mY,h.kg,h.seen,h.o9,h.oz,h.o7,fun e=> ?_,?_,h.hP,h.search,h.jT,h.Br,h.fN,h.aP,h.oA,h.ns,h.nX,h.DB,h.Bp.gq dst,h.FP,h.oy⟩
 ·show(bX (gq s.wait dst) e).getD []=cz e (kU dst d.wait)
  rw[nh h.Bp,EI]
  by_cases he:e=dst
  ·subst he;rw[if_pos rfl,if_pos rfl];rfl
  ·rw[if_neg (Ne.symm he),if_neg he];exact h.wait e
 ·have:=ud dst d.wait d.wait.length
  rw[List.take_length]at this
  have:=h.mL
  show(kU dst d.wait).length≤W.n
  omega
theorem getElem?_eraseIdx' {α:Type} (l:List α) (k i:Nat):(l.eraseIdx k)[i]? =if i<k then l[i]? else l[i+1]? :=by rw[List.getElem?_eraseIdx]
theorem Twin.stop (h:Twin W s d) (k:Nat) (hk:k<s.bu.length) (vq:Value):Twin W (s.stop k) {d with vq:=vq,search:=d.search.take k++d.search.drop (k+1)}:=by
 have e:d.search.take k++d.search.drop (k+1)=d.search.eraseIdx k:=(List.eraseIdx_eq_take_drop_succ _ _).symm
 rw[e]
 refine⟨h.held,h.mY,h.kg,h.seen,h.o9,h.oz,h.o7,h.wait,h.mL,?_,fun i x y hx hy=> ?_,h.jT,h.Br,h.fN,h.aP,h.oA,h.ns,h.nX,h.DB,h.Bp,h.FP,h.oy⟩
 ·show(d.search.eraseIdx k).length=(s.bu.eraseIdx k).length
  rw[List.length_eraseIdx,List.length_eraseIdx,h.hP]
 ·have DA:(s.bu.eraseIdx k)[i]? =some x:=hx
  have Ke:(d.search.eraseIdx k)[i]? =some y:=hy
  rw[getElem?_eraseIdx']at DA Ke
  by_cases hi:i<k
  ·rw[if_pos hi]at DA Ke;exact h.search i x y DA Ke
  ·rw[if_neg hi]at DA Ke;exact h.search (i+1) x y DA Ke
theorem Twin.dest (h:Twin W s d) (dst:UInt32):nY d.search dst=eS s.bu dst:=by
 have e:d.search.map (·.dest)=s.bu.map (·.dest):=by
  apply List.ext_getElem? 
  intro i
  rw[List.getElem?_map,List.getElem?_map]
  cases hx:s.bu[i]? with
  |none=>
   have:s.bu.length≤i:=List.getElem?_eq_none_iff.1 hx
   rw[List.getElem?_eq_none (by rw[h.hP];exact this)];rfl
  |some x=>
   obtain⟨y,hy⟩:∃y,d.search[i]? =some y:=⟨_,List.getElem?_eq_getElem (by rw[h.hP];exact(List.getElem?_eq_some_iff.1 hx).1)⟩
   obtain⟨due,set,e,_⟩:=h.search i x y hx hy
   rw[hy,e];rfl
 have g:∀{α:Type} (f:α→UInt32) (l:List α),l.findIdx? (fun x=>decide (f x=dst))=(l.map f).findIdx? fun x=>decide (x=dst):=fun f l=>by
  rw[List.findIdx?_map];rfl
 unfold nY eS
 rw[g (fun x:Sk=>x.dest),g (fun x:Sr=>x.dest),e]
end
theorem Im {ss:List Sr} {d:UInt32} {k:Nat} (h:eS ss d=some k):k<ss.length:=by
 unfold eS at h
 rw[List.findIdx?_eq_some_iff_getElem]at h
 exact h.1
theorem Nd.w8 (s:Nd) (d:UInt32):s.flush d=match eS s.bu d with
 |some k=>Nd.stop ((s.bg d (s.texts d)).cX d) k
 |none=>(s.bg d (s.texts d)).cX d:=by
 unfold Nd.flush
 simp only
 have:((s.bg d (s.texts d)).cX d).bu=s.bu:=(Nd.jH s d (s.texts d)).1
 rw[this]
 rfl
end
section
open Go.RowKit
attribute [local irreducible] WS LS cD eM cn cv Spec bA aK di cq
variable (w0:World)
theorem uI (W:TW) (gn:Nat) (s:Nd) (dst:UInt32) (ok:aW s.ls) (hW:W.n≤100000) (F7:s.bu.length≤100000) (ht:∀t∈s.texts dst,t.length≤100) (hf:s.Fit ((s.texts dst).length+1)):Spec Tryz.prog w0 153 [ptr gn 0,u32 dst] (qe W gn s) (fun _:Unit=> .tuple #[]) (fun _=>qe W gn (s.flush dst)):=by
 refine Spec.enter Tryz.func153 rfl Tryz.ntmps153 rfl fun G=> ?_
 simp only[aN]
 refine rz (W:=W) (g:=gn) (s:=s) iI fun d tw=> ?_
 have Wm:=tw.mL
 have Nj:=tw.Kp dst
 have es:=s.w8 dst
 have Xz:=tw.dest dst
 rw[Nj]at ht hf es
 unfold cR bc cc
 simp only[bN,ad]
 repeat' (first|(refine ab ?_;intro K hK)|(refine hK _ ?_;clear hK K)|refine ax ?_|refine az ?_)
 refine cV (aq.nil _ 243 2 dA none) ?_
 refine aV (fun kk τ=>∃(i:Nat) (vl vf:Value),i+kk=d.wait.length∧τ=⟨[(5,.int .i64 (i:Int)),(4,vl),(1,u32 dst),(0,ptr gn 0)],[],cR gn (s.bg dst (cz dst (d.wait.take i))) {d with vf:=vf}*(rows 243 2 dA vl (kU dst (d.wait.take i))*G)⟩) ?_ ?_
 ·exact⟨d.wait.length,_,⟨0,.slice none 0 0,d.vf,by omega,rfl⟩,cG,rfl,by unfold cR bc cc;simp only[bN,Nd.bg,List.take_zero,cz,kU,List.filter_nil,List.map_nil,List.foldl_nil];exact ah⟩
 rintro kk τ ⟨i,vl,vf,qE,rfl⟩
 have S1:=ud dst d.wait i
 obtain⟨Vh,Mp⟩:=zC dst d.wait i
 have LA:=Nd.xf s dst (cz dst (d.wait.take i)) ok
 have Q4:(s.bg dst (cz dst (d.wait.take i))).Fit (Vh.length+1):=Nd.Fit.bg dst _ (hf.le (by rw[Mp,List.length_append];omega))
 rcases Nat.lt_or_ge i d.wait.length with h|h
 ·have h1:(i:Int)<(d.wait.length:Int):=by omega
  obtain⟨z,hz⟩:∃z,d.wait[i]? =some z:=⟨_,List.getElem?_eq_getElem h⟩
  have Ci:=qM (d:=dst) hz
  have F6:=xU (d:=dst) hz
  by_cases h2:z.1=dst
  ·rw[if_pos h2]at Ci F6
   rw[List.append_nil]at F6
   have O8:=ht _ (HB hz h2)
   have ek:s.bg dst (cz dst (d.wait.take (i+1)))=(s.bg dst (cz dst (d.wait.take i))).hand dst z.2:=by rw[Ci,Nd.dX]
   generalize s.bg dst (cz dst (d.wait.take i))=sj at*
   have p1:=xV w0 gn sj {d with vf:=vf} LA (Q4.le (by omega)) dst z.2 (by omega)
   have ez:sj.hand dst z.2=sj.hand dst z.2:=rfl
   generalize hk:sj.hand dst z.2=sk at*
   unfold cR bc cc at*
   simp only[bN,ad]at p1 ⊢
   repeat' (first|(refine ab ?_;intro K hK)|(refine hK _ ?_;clear hK K)|refine ax ?_|(refine aF ?_ ?_<;>intro hc<;>(try simp only[cS]at hc)<;>(try exact aG))|refine aX ?_|refine az ?_|(refine ai (aa iI rfl p1 iI) rfl ?_;intro x1))
   exact⟨kk - 1,_,by omega,⟨i+1,vl,x1,by omega,rfl⟩,cG,rfl,by rw[ek,F6];simp only[bN];exact ah⟩
  ·rw[if_neg h2]at Ci F6
   rw[List.append_nil]at Ci
   have ek:s.bg dst (cz dst (d.wait.take (i+1)))=s.bg dst (cz dst (d.wait.take i)):=by rw[Ci]
   generalize s.bg dst (cz dst (d.wait.take i))=sj at*
   unfold cR bc cc
   simp only[bN,ad]
   repeat' (first|(refine ab ?_;intro K hK)|(refine hK _ ?_;clear hK K)|refine ax ?_|(refine aF ?_ ?_<;>intro hc<;>(try simp only[cS]at hc)<;>(try exact aG))|refine aX ?_|refine az ?_|(refine ai (au dA [z] iI iI iI rfl rfl rfl rfl rfl iI rfl rfl rfl) rfl ?_;intro vx)|(refine ai (aR rfl rfl iI iI rfl iI iI gU (by simp only[List.length_singleton];omega) rfl) rfl ?_;intro va))
   exact⟨kk - 1,_,by omega,⟨i+1,va,vf,by omega,rfl⟩,cG,rfl,by rw[ek,F6];simp only[bN];exact ah⟩
 have h1:¬(i:Int)<(d.wait.length:Int):=by omega
 rw[List.take_of_length_le h]at Mp LA Q4 S1 ⊢
 have uO:=tw.bg dst (cz dst d.wait) vf
 have Yd:=(Nd.jH s dst (cz dst d.wait)).1
 generalize s.bg dst (cz dst d.wait)=sj at*
 have Lw:=tw.hP
 have p2:=kR w0 gn [u32 sj.self,u32 sj.seq,ptr d.tb 0,d.vr,u64 sj.cd,d.vs,vl] [.int .i64 sj.last,u32 sj.ids,u32 sj.ff,d.vt,u64 sj.now,aZ sj.out.ay,.bool sj.out.replace,vf,d.vc,d.vd,d.vh,u32 sj.own] d.vq d.search (by omega) rfl dst
 rw[Xz]at p2
 simp only[List.cons_append,List.nil_append]at p2
 have lD:=fun vw=>uO.cX dst vw
 cases hk:eS s.bu dst with
 |none=>
  rw[hk]at p2 es
  simp only[qc]at p2
  unfold cR bc cc
  simp only[bN,ad]
  repeat' (first|(refine ab ?_;intro K hK)|(refine hK _ ?_;clear hK K)|refine ax ?_|(refine aF ?_ ?_<;>intro hc<;>(try simp only[cS]at hc)<;>(try exact aG))|refine aX ?_|refine az ?_|(refine bQ ?_;intro g)|(refine ai (aa iI rfl p2 iI) rfl ?_;intro x2))
  exact aj (.inr rfl) rfl ⟨(),rfl,by rw[es];exact aq.rn (lD vl) (by unfold cR bc cc;simp only[bN,cy,Nd.cX];exact ah)⟩
 |some k=>
  rw[hk]at p2 es
  simp only[qc]at p2
  have tK:=Im hk
  have yp:=fun vw vq=>(lD vw).stop k (by show k<sj.bu.length;rw[Yd];exact tK) vq
  have p3:=uH w0 gn (sj.cX dst) {d with vf:=vf,vw:=vl,wait:=kU dst d.wait} sj.out d.search (by omega) k (by omega)
  unfold cR bc cc
  simp only[bN,ad,Nd.cX]at p3 ⊢
  repeat' (first|(refine ab ?_;intro K hK)|(refine hK _ ?_;clear hK K)|refine ax ?_|(refine aF ?_ ?_<;>intro hc<;>(try simp only[cS]at hc)<;>(try exact aG))|refine aX ?_|refine az ?_|(refine bQ ?_;intro g)|(refine ai (aa iI rfl p2 iI) rfl ?_;intro x2)|(refine ai (aa iI rfl p3 iI) rfl ?_;intro x3))
  exact aj (.inr rfl) rfl ⟨(),rfl,by rw[es];exact aq.rn (yp vl x3) (by unfold cR bc cc;simp only[bN,cy,Nd.cX,Nd.stop];exact ah)⟩
end
section
section
variable {W:TW} {s:Nd} {d:RD}
theorem ll (now:UInt64) (l k:List UInt64):dJ now (l++k)=dJ now l+dJ now k:=by unfold dJ;rw[List.filter_append,List.length_append]
theorem FF {x:UInt64} (h:x.toNat≤4611686018427387904):(x+1000).toNat=x.toNat+1000:=by
 have h2:(1000:UInt64).toNat=1000:=rfl
 rw[UInt64.toNat_add,h2]
 omega
theorem BU {now:UInt64} (hn:now.toNat≤4611686018427387904) {a b:UInt64} (h:a.toNat≤b.toNat) (hb:b.toNat≤now.toNat) (ha:now<a+1000):now<b+1000:=by
 rw[UInt64.lt_iff_toNat_lt,FF (by omega)]at*
 omega
theorem qx {now:UInt64}:∀{l:List UInt64},(∀t∈l,now<t+1000)→dJ now l=l.length:=fun {l} h=>by
 unfold dJ
 rw[List.filter_eq_self.2 (fun t ht=>by simpa using h t ht)]
theorem GZ {now:UInt64} {l:List UInt64} (h:0<dJ now l):∃t∈l,now<t+1000:=by
 unfold dJ at h
 obtain⟨t,ht⟩:=List.exists_mem_of_length_pos h
 exact⟨t,(List.mem_filter.1 ht).1,by simpa using(List.mem_filter.1 ht).2⟩
theorem Twin.Gn (h:Twin W s d):s.aP.length≤5∧s.aP.length≤d.aP.length:=by rw[h.aP,List.length_drop];omega
theorem Twin.busy (h:Twin W s d) (hn:s.now.toNat≤4611686018427387904):5≤dJ s.now d.aP↔5≤dJ s.now s.aP:=by
 have e:d.aP=d.aP.take (d.aP.length - 5)++s.aP:=by rw[h.aP,List.take_append_drop]
 have Hq:=h.oA
 have oQ:=h.ns
 constructor
 ·intro h5
  rw[e,ll]at h5
  rw[e,List.pairwise_append]at Hq
  by_cases h0:0<dJ s.now (d.aP.take (d.aP.length - 5))
  ·obtain⟨t,ht,hb⟩:=GZ h0
   have hl:s.aP.length=5:=by
    have h1:0<(d.aP.take (d.aP.length - 5)).length:=List.length_pos_of_mem ht
    rw[List.length_take]at h1
    rw[h.aP,List.length_drop];omega
   rw[qx (fun b FT=>BU hn (Hq.2.2 t ht b FT) (oQ b (by rw[e];exact List.mem_append_right _ FT)) hb),hl]
   omega
  ·omega
 ·intro h5
  rw[e,ll];omega
theorem Is (l:List UInt64) (x:UInt64):ik (l.drop (l.length - 5)++[x])=(l++[x]).drop ((l++[x]).length - 5):=by
 unfold ik
 rw[List.length_append,List.length_append,List.length_drop,List.length_singleton]
 by_cases h:5≤l.length
 ·rw[if_pos (by omega)]
  have h1:l.length+1 - 5=l.length - 5+1:=by omega
  have h2:List.drop 1 (l.drop (l.length - 5)++[x])=List.drop 1 (l.drop (l.length - 5))++[x]:=List.drop_append_of_le_length (by rw[List.length_drop];omega)
  have h3:(l++[x]).drop (l.length - 5+1)=l.drop (l.length - 5+1)++[x]:=List.drop_append_of_le_length (by omega)
  rw[h1,h2,h3,List.drop_drop]
 ·rw[if_neg (by omega)]
  have h1:l.length - 5=0:=by omega
  have h2:l.length+1 - 5=0:=by omega
  rw[h1,h2];rfl
theorem G1 {now:UInt64} (hn:now.toNat≤4611686018427387904) {l:List UInt64} (hl:l.length≤5) (ho:l.Pairwise fun a b=>a.toNat≤b.toNat) (hs:∀t∈l,t.toNat≤now.toNat) (h:¬5≤dJ now l):dJ now (ik (l++[now]))=dJ now l+1:=by
 have h1:now<now+1000:=by
  have h2:=FF hn
  show now.toNat<(now+1000).toNat
  rw[h2];exact Nat.lt_add_of_pos_right (by decide)
 have h2:dJ now [now]=1:=qx (by simpa using h1)
 unfold ik
 rw[List.length_append,List.length_singleton]
 by_cases h5:5<l.length+1
 ·rw[if_pos h5]
  cases l with
  |nil=>exfalso;rw[List.length_nil]at h5;omega
  |cons a r=>
   have ha:¬now<a+1000:=fun hb=>h (by
    rw[List.pairwise_cons]at ho
    rw[qx (fun b FT=>(List.mem_cons.1 FT).elim (fun e=>e▸hb) fun FT=>BU hn (ho.1 b FT) (hs b (List.mem_cons_of_mem _ FT)) hb)]
    exact Nat.le_of_lt_succ h5)
   have e:dJ now (a::r)=dJ now r:=by
    unfold dJ;rw[List.filter_cons,if_neg (by simpa using ha)]
   show dJ now (r++[now])=_
   rw[ll,h2,e]
 ·rw[if_neg h5,ll,h2]
theorem Twin.Si (h:Twin W s d) (hn:s.now.toNat≤4611686018427387904) (hi:s.ids.toNat<4294967295) (hb:¬5≤dJ s.now s.aP) (vt:Value):Twin W {s with ids:=s.ids+1,aP:=ik (s.aP++[s.now])} {d with vt:=vt,aP:=d.aP++[s.now]}:=by
 have hid:(s.ids+1).toNat=s.ids.toNat+1:=by rw[UInt32.toNat_add];have:(1:UInt32).toNat=1:=rfl;rw[this];omega
 have Hq:=h.oA
 have iu:s.aP.Pairwise fun a b=>a.toNat≤b.toNat:=by rw[h.aP];exact Hq.sublist (List.drop_sublist _ _)
 have fP:∀t∈s.aP,t.toNat≤s.now.toNat:=fun t ht=>h.ns t (by rw[h.aP]at ht;exact List.mem_of_mem_drop ht)
 refine⟨h.held,h.mY,h.kg,h.seen,h.o9,h.oz,fun q hq hs=> ?_,h.wait,h.mL,h.hP,h.search,h.jT,h.Br,h.fN,?_,?_,?_,?_,h.DB,h.Bp,h.FP,?_⟩
 ·have:=h.o7 q hq hs
  show q.id.toNat≤(s.ids+1).toNat
  omega
 ·show ik (s.aP++[s.now])=_
  rw[h.aP];exact Is _ _
 ·show(d.aP++[s.now]).Pairwise _
  rw[List.pairwise_append]
  exact⟨Hq,by simp,fun a ha b hb=>by simp at hb;subst hb;exact h.ns a ha⟩
 ·intro t ht
  rcases List.mem_append.1 ht with ht|ht
  ·exact h.ns t ht
  ·simp at ht;subst ht;exact Nat.le_refl _
 ·show(d.aP++[s.now]).length=(s.ids+1).toNat
  rw[List.length_append,List.length_singleton,h.nX,hid]
 ·show(s.ids+1).toNat≤W.i0+dJ s.now (ik (s.aP++[s.now]))
  rw[G1 hn h.Gn.1 iu fP hb,hid]
  have:=h.oy
  omega
theorem Twin.fresh (h:Twin W s d) (i:UInt32) (hi:s.ids.toNat<i.toNat):¬s.now<seenAt s.seen ⟨s.self,i⟩:=by
 have:(⟨s.self,i⟩:Rq)∉s.order:=fun hm=>by have:=h.o7 _ hm rfl;simp only at this;omega
 unfold seenAt
 rw[h.oz _ this]
 exact UInt64.not_lt_zero
theorem Twin.QC (h:Twin W s d) (n:Int) (hn:s.last<n):(s.bI.map (·.id)++[n]).Pairwise (·<·):=by
 rw[List.pairwise_append]
 exact⟨h.Br,by simp,fun a ha b hb=>by
  simp at hb;subst hb
  obtain⟨t,ht,rfl⟩:=List.mem_map.1 ha
  have:=h.fN t ht
  omega⟩
theorem getElem?_modify' {α:Type} (l:List α) (k i:Nat) (f:α→α):(l.modify k f)[i]? =if k=i then l[i]?.map f else l[i]? :=by
 rw[List.getElem?_modify]
 split
 ·rename_i h;subst h;simp
 ·simp
theorem Twin.arm {n i0:Nat} {nm:Int} (h:Twin ⟨n,some nm,i0⟩ s d) {k:Nat} {x:Sr} (hx:s.bu[k]? =some x) (sY:x.name=nm) (Uw:(s.bu.map (·.name)).Nodup) (hle:x.name≤s.names) (En:0≤s.last) (b:Bool) (w:UInt64) (vq:Value):Twin ⟨n,none,i0⟩ ((s.cH k b).arm x.name w) {d with vq:=vq,search:=d.search.set k ⟨x.dest,x.bK,x.aU,s.now+w,s.last+1,b⟩}:=by
 subst sY
 have tK:k<s.bu.length:=(List.getElem?_eq_some_iff.1 hx).1
 have hex:∀t∈s.bI,t.km≠x.name:=fun t ht e=>h.FP t ht (by rw[e])
 refine⟨h.held,h.mY,h.kg,h.seen,h.o9,h.oz,h.o7,h.wait,h.mL,?_,fun i x' y DA hy=> ?_,?_,?_,?_,h.aP,h.oA,h.ns,h.nX,h.DB,h.Bp,fun t ht=>by simp,h.oy⟩
 ·show(d.search.set k _).length=(s.bu.modify k _).length
  rw[List.length_set,List.length_modify,h.hP]
 ·have qb:(s.bu.modify k fun x=>{x with out:=b})[i]? =some x':=DA
  have Cn:(d.search.set k ⟨x.dest,x.bK,x.aU,s.now+w,s.last+1,b⟩)[i]? =some y:=hy
  rw[getElem?_modify']at qb
  rw[List.getElem?_set]at Cn
  by_cases hi:k=i
  ·subst hi
   rw[if_pos rfl,hx]at qb
   rw[if_pos rfl,if_pos (by rw[h.hP];exact tK)]at Cn
   cases qb;cases Cn
   exact⟨_,_,rfl,.inr (List.mem_append_right _ (List.mem_singleton.2 rfl))⟩
  ·rw[if_neg hi]at qb Cn
   obtain⟨due,set,e1,e2⟩:=h.search i x' y qb Cn
   refine⟨due,set,e1,.inr ?_⟩
   rcases e2 with e2|e2
   ·exfalso
    have e3:x.name=x'.name:=by simpa using e2
    have h1:=List.pairwise_iff_getElem.1 (List.nodup_iff_pairwise_ne.1 Uw)
    obtain⟨a1,a2⟩:=List.getElem?_eq_some_iff.1 hx
    obtain⟨b1,b2⟩:=List.getElem?_eq_some_iff.1 qb
    rcases Nat.lt_or_gt_of_ne hi with bW|bW
    ·have:=h1 k i (by simpa using a1) (by simpa using b1) bW
     simp[a2,b2,e3]at this
    ·have:=h1 i k (by simpa using b1) (by simpa using a1) bW
     simp[a2,b2,e3]at this
   ·show _∈s.bI++[_]
    exact List.mem_append_left _ e2
 ·show((s.bI++[(⟨s.now+w,s.last+1,x.name⟩:Tm)]).map (·.km)).Nodup
  rw[List.map_append,List.nodup_append]
  refine⟨h.jT,by simp,fun a ha c hc=> ?_⟩
  obtain⟨t,ht,rfl⟩:=List.mem_map.1 ha
  simp at hc;subst hc
  exact hex t ht
 ·show((s.bI++[(⟨s.now+w,s.last+1,x.name⟩:Tm)]).map (·.id)).Pairwise _
  rw[List.map_append]
  exact h.QC (s.last+1) (by omega)
 ·intro t ht
  have hc:=h.fN
  rcases List.mem_append.1 ht with ht|ht
  ·have:=hc t ht
   show 1≤t.id∧t.id≤s.last+1∧t.km≤s.names
   omega
  ·simp at ht;subst ht
   show 1≤s.last+1∧s.last+1≤s.last+1∧x.name≤s.names
   omega
theorem Twin.KJ {n i0:Nat} (h:Twin ⟨n,none,i0⟩ s d) {i:Nat} {t:Tm} (ht:s.bI[i]? =some t):Twin ⟨n,some t.km,i0⟩ {s with bI:=s.bI.eraseIdx i} d:=by
 have ow:(s.bI.eraseIdx i).Sublist s.bI:=List.eraseIdx_sublist _ _
 have mi:∀u∈s.bI.eraseIdx i,u.km≠t.km:=fun u hu=>by
  obtain⟨j,hj⟩:=List.getElem?_of_mem hu
  rw[getElem?_eraseIdx']at hj
  have h1:=List.pairwise_iff_getElem.1 (List.nodup_iff_pairwise_ne.1 h.jT)
  obtain⟨a1,a2⟩:=List.getElem?_eq_some_iff.1 ht
  by_cases pZ:j<i
  ·rw[if_pos pZ]at hj
   obtain⟨b1,b2⟩:=List.getElem?_eq_some_iff.1 hj
   have:=h1 j i (by simpa using b1) (by simpa using a1) pZ
   simpa [a2,b2]using this
  ·rw[if_neg pZ]at hj
   obtain⟨b1,b2⟩:=List.getElem?_eq_some_iff.1 hj
   have:=h1 i (j+1) (by simpa using a1) (by simpa using b1) (by omega)
   simp[a2,b2]at this
   exact fun e=>this e.symm
 refine⟨h.held,h.mY,h.kg,h.seen,h.o9,h.oz,h.o7,h.wait,h.mL,h.hP,fun j x y hx hy=> ?_,?_,?_,fun u hu=>h.fN u (ow.subset hu),h.aP,h.oA,h.ns,h.nX,h.DB,h.Bp,fun u hu e=>mi u hu (by simpa using e.symm),h.oy⟩
 ·obtain⟨due,set,e1,e2⟩:=h.search j x y hx hy
  rcases e2 with e2|e2
  ·cases e2
  ·refine⟨due,set,e1,?_⟩
   by_cases Hs:t.km=x.name
   ·exact .inl (by rw[Hs])
   ·refine .inr ?_
    obtain⟨m,hm⟩:=List.getElem?_of_mem e2
    have V9:m≠i:=fun e=>by subst e;rw[ht]at hm;cases hm;exact Hs rfl
    by_cases bW:m<i
    ·refine List.mem_of_getElem? (i:=m) ?_
     rw[getElem?_eraseIdx',if_pos bW];exact hm
    ·refine List.mem_of_getElem? (i:=m - 1) ?_
     rw[getElem?_eraseIdx',if_neg (by omega)]
     have:m - 1+1=m:=by omega
     rw[this];exact hm
 ·exact h.jT.sublist (ow.map _)
 ·exact h.Br.sublist (ow.map _)
theorem Twin.xN {n i0:Nat} {nm:Int} (h:Twin ⟨n,some nm,i0⟩ s d) (hn:∀x∈s.bu,x.name≠nm):Twin ⟨n,none,i0⟩ s d:=by
 refine⟨h.held,h.mY,h.kg,h.seen,h.o9,h.oz,h.o7,h.wait,h.mL,h.hP,fun j x y hx hy=> ?_,h.jT,h.Br,h.fN,h.aP,h.oA,h.ns,h.nX,h.DB,h.Bp,fun u hu e=>(by cases e),h.oy⟩
 obtain⟨due,set,e1,e2⟩:=h.search j x y hx hy
 rcases e2 with e2|e2
 ·exact absurd (by simpa using e2.symm) (hn x (List.mem_of_getElem? hx))
 ·exact⟨due,set,e1,.inr e2⟩
theorem Twin.eC {n i0:Nat} (h:Twin ⟨n,none,i0⟩ s d) (dst:UInt32) (vq:Value):Twin ⟨n,some (s.names+1),i0⟩ (s.eC dst) {d with vq:=vq,search:=d.search++[⟨dst,1,0,0,0,false⟩]}:=by
 refine⟨h.held,h.mY,h.kg,h.seen,h.o9,h.oz,h.o7,h.wait,h.mL,?_,fun j x y hx hy=> ?_,h.jT,h.Br,fun u hu=> ?_,h.aP,h.oA,h.ns,h.nX,h.DB,h.Bp,fun u hu e=> ?_,h.oy⟩
 ·show(d.search++[_]).length=(s.bu++[_]).length
  rw[List.length_append,List.length_append,h.hP];rfl
 ·have qb:(s.bu++[(⟨dst,1,0,false,s.names+1⟩:Sr)])[j]? =some x:=hx
  have Cn:(d.search++[(⟨dst,1,0,0,0,false⟩:Sk)])[j]? =some y:=hy
  rcases Nat.lt_or_ge j s.bu.length with hj|hj
  ·rw[List.getElem?_append_left hj]at qb
   rw[List.getElem?_append_left (by rw[h.hP];exact hj)]at Cn
   obtain⟨due,set,e1,e2⟩:=h.search j x y qb Cn
   rcases e2 with e2|e2
   ·cases e2
   ·exact⟨due,set,e1,.inr e2⟩
  ·rw[List.getElem?_append_right hj]at qb
   rw[List.getElem?_append_right (by rw[h.hP];exact hj),h.hP]at Cn
   obtain⟨c1,c2⟩:=List.getElem?_eq_some_iff.1 qb
   simp at c1
   have:j - s.bu.length=0:=by omega
   rw[this]at qb Cn
   cases qb;cases Cn
   exact⟨0,0,rfl,.inl rfl⟩
 ·have:=h.fN u hu
  show 1≤u.id∧u.id≤s.last∧u.km≤s.names+1
  omega
 ·have:=h.fN u hu
  have e2:s.names+1=u.km:=by simpa using e
  omega
theorem Twin.Mc {n i0:Nat} {nm:Int} (h:Twin ⟨n,some nm,i0⟩ s d) {k:Nat} {x y:Sr} {z:Sk} (hx:s.bu[k]? =some x) (hz:d.search[k]? =some z) (sY:x.name=nm) (hy:y.name=x.name) (vq:Value):Twin ⟨n,some nm,i0⟩ {s with bu:=s.bu.set k y} {d with vq:=vq,search:=d.search.set k (Sk.of y z.due z.set)}:=by
 have tK:k<s.bu.length:=(List.getElem?_eq_some_iff.1 hx).1
 refine⟨h.held,h.mY,h.kg,h.seen,h.o9,h.oz,h.o7,h.wait,h.mL,?_,fun j x' y' DA Ke=> ?_,h.jT,h.Br,h.fN,h.aP,h.oA,h.ns,h.nX,h.DB,h.Bp,h.FP,h.oy⟩
 ·show(d.search.set k _).length=(s.bu.set k y).length
  rw[List.length_set,List.length_set,h.hP]
 ·have qb:(s.bu.set k y)[j]? =some x':=DA
  have Cn:(d.search.set k (Sk.of y z.due z.set))[j]? =some y':=Ke
  rw[List.getElem?_set]at qb Cn
  by_cases hj:k=j
  ·subst hj
   rw[if_pos rfl,if_pos tK]at qb
   rw[if_pos rfl,if_pos (by rw[h.hP];exact tK)]at Cn
   cases qb;cases Cn
   exact⟨_,_,rfl,.inl (by rw[hy,sY])⟩
  ·rw[if_neg hj]at qb Cn
   exact h.search j x' y' qb Cn
end
end
section
open Go.RowKit
theorem Nd.oZ (s:Nd) (r:Rq):∃sn od,s.aT r={s with seen:=sn,order:=od}:=by
 unfold Nd.aT
 simp only
 split
 ·exact⟨_,_,rfl⟩
 ·exact⟨_,_,rfl⟩
attribute [local irreducible] WS LS cD eM cn cv Spec bA aK di cq
variable (w0:World)
theorem uf (gn:Nat) (s:Nd) (d:RD) (o:dS) (ok:aW s.ls) (dest:UInt32):Spec Tryz.prog w0 130 [ptr gn 0,u32 dest] (aK gn 195 (bN s d o)*ct d.tb s.self s.ls) (fun _:Unit=> .tuple #[u32 (eJ s.ls dest),.bool (dG s.ls dest).isSome]) (fun _=>aK gn 195 (bN s d o)*ct d.tb s.self s.ls):=by
 refine Spec.enter Tryz.func130 rfl Tryz.ntmps130 rfl fun G=> ?_
 simp only[aN,bN,ad]
 refine mP (g:=d.tb) (self:=s.self) (ls:=s.ls) iI fun v xs hR=> ?_
 have ta:=ok.short
 have Hs:=hR.length
 have p1:=iF w0 d.tb s.self v xs (by omega) dest
 unfold eA at*
 simp only[ad]
 unfold eJ
 cases hg:fj xs dest with
 |none=>
  have hl:=hR.not hg
  rw[hl]
  rw[hg]at p1
  simp only[Option.isSome_none]at p1 ⊢
  repeat' (first|(refine ab ?_;intro K hK)|(refine hK _ ?_;clear hK K)|refine ax ?_|(refine aF ?_ ?_<;>intro hc<;>(try simp only[cS]at hc)<;>(try exact aG))|refine az ?_|(refine ai (aa iI rfl p1 iI) rfl ?_;intro u1))
  refine de (.inl rfl) rfl rfl rfl ⟨(),rfl,?_⟩
  refine aq.trans (aq.of_eq ?_) (aq.tail _ (aq.ct (v:=v) hR (aq.refl _)))
  unfold eA
  ac_rfl
 |some p=>
  have hl:=hR.Na hg
  rw[hl]
  rw[hg]at p1
  obtain⟨hp,hd⟩:=fl hg
  generalize kb dest xs=i at*
  have IB:i<xs.length:=(List.getElem?_eq_some_iff.1 hp).1
  simp only[Option.isSome_some]at p1 ⊢
  repeat' (first|(refine ab ?_;intro K hK)|(refine hK _ ?_;clear hK K)|refine ax ?_|(refine aF ?_ ?_<;>intro hc<;>(try simp only[cS]at hc)<;>(try exact aG))|refine az ?_|(refine ai (aa iI rfl p1 iI) rfl ?_;intro u1))
  refine de (.inl rfl) rfl rfl rfl ⟨(),rfl,?_⟩
  refine aq.trans (aq.of_eq ?_) (aq.tail _ (aq.ct (v:=v) hR (aq.refl _)))
  unfold eA
  ac_rfl
end
section
theorem Twin.Ki {W:TW} {s:Nd} {d:RD} (h:Twin W s d) (q:Int) (hq:∀t∈s.bI,t.id≤q):Twin W {s with last:=q} d:=⟨h.held,h.mY,h.kg,h.seen,h.o9,h.oz,h.o7,h.wait,h.mL,h.hP,h.search,h.jT,h.Br,fun t ht=>⟨(h.fN t ht).1,hq t ht,(h.fN t ht).2.2⟩,h.aP,h.oA,h.ns,h.nX,h.DB,h.Bp,h.FP,h.oy⟩
def Nd.kj (s:Nd) (a:List Sr) (b:Int):Nd:={s with bu:=a,last:=b}
theorem Nd.ER (s:Nd) (l:Ln) (a:List Sr) (b:Int):(s.kj a b).cf l=(s.cf l).kj a b:=by
 unfold Nd.cf
 show(match bX s.held l.dest with|some q=>if q<l.seq then(s.kj a b).write ⟨false,l.dest,l.seq⟩else s.kj a b|none=>(s.kj a b).write ⟨false,l.dest,l.seq⟩)=_
 cases bX s.held l.dest with
 |none=>rfl
 |some q=>dsimp only;split<;>rfl
theorem Nd.EU (s:Nd) (a:List Sr) (b:Int):(s.kj a b).dh=s.dh.kj a b:=by
 unfold Nd.dh
 show(if s.own<s.seq then(s.kj a b).write ⟨true,0,s.seq⟩else s.kj a b)=_
 split<;>rfl
theorem Nd.HJ (s:Nd) (a:List Sr) (b:Int):(s.kj a b).note=s.note.kj a b:=by
 have key:∀(l:List Ln) (s:Nd),l.foldl Nd.cf (s.kj a b)=(l.foldl Nd.cf s).kj a b:=fun l=>by
  induction l with
  |nil=>intro s;rfl
  |cons x l ih=>intro s;rw[List.foldl_cons,List.foldl_cons,Nd.ER,ih]
 unfold Nd.note
 rw[Nd.EU,key]
 rfl
theorem Nd.yI (s:Nd) (r:Rq) (a:List Sr) (b:Int):(s.kj a b).aT r=(s.aT r).kj a b:=by
 unfold Nd.aT
 simp only
 have e:(s.kj a b).now=s.now∧(s.kj a b).seen=s.seen∧(s.kj a b).order=s.order:=⟨rfl,rfl,rfl⟩
 rw[e.1,e.2.1,e.2.2]
 by_cases h:((dg s.now s.seen s.order).2++[r]).length≤16
 ·rw[if_pos h,if_pos h];rfl
 ·rw[if_neg h,if_neg h];rfl
def Nd.oJ (s:Nd):Nd:={s with ids:=s.ids+1,aP:=ik (s.aP++[s.now])}
def Nd.kE (s:Nd) (x:Sr):Nd:=s.oJ.send 0 ⟨x.bK,1,0,(dG s.ls x.dest).isNone,s.oJ.ids,x.dest,eJ s.ls x.dest,s.self,s.seq,0,[],[]⟩
def Nd.wF (s:Nd):Nd:=Nd.note {s with seq:=bS s.seq}
theorem Nd.Ah (s:Nd) (x:Sr):s.gE x=(s.wF.kE x).aT ⟨(s.wF.kE x).self,(s.wF.kE x).ids⟩:=rfl
theorem Nd.yS (s:Nd) (x:Sr) (a:List Sr) (b:Int):(s.kj a b).gE x=(s.gE x).kj a b:=by
 have e1:(s.kj a b).wF=s.wF.kj a b:=Nd.HJ {s with seq:=bS s.seq} a b
 rw[Nd.Ah,Nd.Ah,e1]
 have e2:(s.wF.kj a b).kE x=(s.wF.kE x).kj a b:=rfl
 rw[e2]
 exact Nd.yI (s.wF.kE x) _ a b
theorem Ai (t:Int) (j:Nat):(2:UInt64)*UInt64.ofInt (80*(t+2)*2 ^ j)=UInt64.ofInt (80*(t+2)*2 ^(j+1)):=by
 have h2:(2:UInt64)=UInt64.ofInt 2:=rfl
 rw[h2,←UInt64.ofInt_mul]
 congr 1
 rw[Int.pow_succ]
 generalize 80*(t+2)=u
 rw[Int.mul_comm 2,Int.mul_assoc]
theorem DN (x:Sr) (h:0≤x.bK∧x.bK≤8):∃wf:Nat→UInt64,80*UInt64.ofNat (x.bK+2).toNat=wf 0∧(∀j,2*wf j=wf (j+1))∧wf x.aU.toNat=iL x:=by
 refine⟨fun j=>UInt64.ofInt (80*(x.bK+2)*2 ^ j),?_,fun j=>Ai x.bK j,rfl⟩
 generalize x.bK=t at h
 have a:t=0∨t=1∨t=2∨t=3∨t=4∨t=5∨t=6∨t=7∨t=8:=by omega
 rcases a with rfl|rfl|rfl|rfl|rfl|rfl|rfl|rfl|rfl<;>decide
end
end Go.Proofs.YtapoehkdnglahabGreat
