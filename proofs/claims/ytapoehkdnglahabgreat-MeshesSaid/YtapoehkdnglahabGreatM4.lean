/- A part. -/
import Derived.Test.YtapoehkdnglahabGreatM3
set_option maxHeartbeats 32000000
set_option maxRecDepth 100000
set_option linter.all false
namespace Go.Proofs.YtapoehkdnglahabGreat
section
open Go.RowKit
instance Sz:eU (.int .u64 2) 2:=⟨rfl⟩
attribute [local irreducible] WS LS OpQ y6 cn cv Spec bA aK di cq
variable (w0:World)
theorem pN (n i0 gn:Nat) (s:Nd) (k:Nat) (x:Sr) (hx:s.bu[k]? =some x) (rf:0<=x.bK/\x.bK<=8/\0<=x.aU/\x.aU<=2) (so:l6 s) (ok:aW s.ls) (Lr:s.order.length<=16) (Dz:0<=s.last/\s.last<=1000000000000) (hn:s.now.toNat<=4611686018427387904) (uY:i0<=900000) (F7:s.bu.length<=100000) (hf:s.Fit 3):Spec ucC w0 140 [ptr gn 0,.int .i64 (k:Int)] (qe ⟨n,some x.name,i0⟩ gn s) (λ_:Unit=> .tuple #[]) (λ_=>qe ⟨n,none,i0⟩ gn (s.ask k x)):=by
 refine eZ Tryz.func140 Tryz.ntmps140 λG=> ?_;simp only[aN];refine rz (W:=⟨n,some x.name,i0⟩) (g:=gn) (s:=s) iI λd tw=> ?_;have tK:k<s.bu.length:=(az.1 hx).1;have Cl:=tw.hP;obtain⟨y,hy⟩:∃y,d.search[k]? =some y:=⟨_,aX (by rw[Cl];exact tK)⟩
 obtain⟨due,set,US,_⟩:=tw.search k x y hx hy;have XH:s.ids.toNat<=i0+dJ s.now s.aP:=tw.oy;have Wh:=tw.nX;have Yb:=tw.Gn.1;have yl:dJ s.now s.aP<=s.aP.length:=rK _ _;have VU:=tw.busy hn;have OJ:k<d.search.length:=by rw[Cl];exact tK
 have Mu:=so.each x (jq hx);unfold cR bc cc;simp only[bN,ad];subst US;repeat' (first|(refine hK _ ?_;clear hK K)|intro K hK|refine ax ?_|refine bT λg=> ?_|refine bQ λg=> ?_|refine zw0 λg=> ?_)
 rename_i gp g1 g2;refine aV (λkk τ=>∃j:Nat,j+kk=d.aP.length/\τ=⟨[(6,.int .i64 (j:Int)),(5,.int .i64 ((dJ s.now (d.aP.take j):Nat):Int)),(4,ptr gp 0),(1,.int .i64 (k:Int)),(0,ptr gn 0)],[],aK gp 210 [u32 x.dest,.int .i64 x.bK,.int .i64 x.aU,u64 due,.int .i64 (s.last+1),.bool x.out]*(aK gn 195 (bN {s with last:=s.last+1} d s.out)*(rows 28 3 Rec.cells d.vr s.aI*(rows 28 3 Rec.cells d.vh d.held*(ct d.tb s.self s.ls*(cy d s.out*(rows 312 3 jM d.vs d.seen*(rows 243 2 dA d.vw d.wait*(rows 210 6 skC d.vq d.search*(rows 24 1 eL d.vt d.aP*G)))))))))⟩) ?_ ?_
 ·exact⟨d.aP.length,_,⟨0,by omega,rfl⟩,cG,rfl,by simp only[bN,Sk.of];exact ah⟩
 rintro kk τ ⟨j,ym,rfl⟩;simp only[bN];have Uf:dJ s.now (d.aP.take j)<=(d.aP.take j).length:=rK _ _;rw[Aw]at Uf;rcases jP j d.aP.length with hj|hj
 ·have IC:(j:Int)<(d.aP.length:Int):=by omega
  obtain⟨z,hz⟩:∃z,d.aP[j]? =some z:=⟨_,aX hj⟩
  have Ll:=wR (now:=s.now) hz;by_cases Wq:s.now<z+1000
  ·rw[jF Wq]at Ll;exact paJ
  ·rw[eQ Wq]at Ll;exact paJ
 have IC:¬(j:Int)<(d.aP.length:Int):=by omega
 rw[Gz hj];generalize hmq:dJ s.now d.aP=many at*
 by_cases h1:s.now<s.cd
 ·have es:s.ask k x=((s.cH k false).drop 8).arm x.name 1000:=by unfold Nd.ask;rw[jF h1]
  have xc:¬s.cd<=s.now:=ucx.2 h1;have p3:=cx w0 gn {s with last:=s.last+1} d 8 (by show s.out.dropped.length<=_;have:=hf.dropped;omega);have Bn:=λvd vq=>(tw.drop 8 vd).arm (k:=k) (x:=x) hx rfl so.names Mu.2.2.2.2 Dz.1 false 1000 vq;exact pah
 have xc:s.cd<=s.now:=ucw.1 h1;by_cases h2:5<=dJ s.now s.aP
 ·have Lj:=VU.2 h2;have Xb:¬(many:Int)<5:=by omega
  have Xc:(5:Int)<=(many:Int):=by omega
  have es:s.ask k x=((s.cH k false).drop 9).arm x.name 1000:=by unfold Nd.ask;rw[eQ h1,jF h2]
  have p3:=cx w0 gn {s with last:=s.last+1} d 9 (by show s.out.dropped.length<=_;have:=hf.dropped;omega);have Bn:=λvd vq=>(tw.drop 9 vd).arm (k:=k) (x:=x) hx rfl so.names Mu.2.2.2.2 Dz.1 false 1000 vq;exact pah
 have Lj:¬5<=many:=λe=>h2 (VU.1 e);have Xb:(many:Int)<5:=by omega
 have Xc:¬(5:Int)<=(many:Int):=by omega
 have Wc:∀t∈s.bI,t.id<=s.last:=λt ht=>(tw.fN t ht).2.1;have nc:=Nd.fz.note {s with seq:=bS s.seq,last:=s.last+1};have pY:=Nd.Fit.note (k:=2) (s:={s with seq:=bS s.seq,last:=s.last+1}) ⟨hf.aJ,hf.cj,hf.dropped,hf.aI,hf.ay⟩ ok;have WG:Twin ⟨n,some x.name,i0⟩ {s with seq:=bS s.seq,last:=s.last+1} d:=(tw.NM (bS s.seq)).Ki (s.last+1) (λt ht=>by have:=Wc t ht;omega);have p4:=Spec.nV WG (qS w0 ⟨n,some x.name,i0⟩ gn {s with seq:=bS s.seq,last:=s.last+1} ok (by show s.aI.length<=_;have:=hf.aI;omega) (by show s.out.ay.length<=_;have:=hf.ay;omega));have pg:=kL w0 s.seq;have h4:(((Nd.note {s with seq:=bS s.seq,last:=s.last+1}).kE x).aT ⟨((Nd.note {s with seq:=bS s.seq,last:=s.last+1}).kE x).self,((Nd.note {s with seq:=bS s.seq,last:=s.last+1}).kE x).ids⟩)=(s.gE x).kj s.bu (s.last+1):=Nd.yS s x s.bu (s.last+1);have es:s.ask k x=Nd.arm (Nd.cH {(s.gE x).kj s.bu (s.last+1)with last:=s.last} k true) x.name (iL x):=by
  unfold Nd.ask;rw[eQ h1,eQ h2];have e1:(s.cH k true).gE x=(s.gE x).kj (s.cH k true).bu s.last:=Nd.yS s x (s.cH k true).bu s.last;rw[e1];rfl
 rw[<-h4]at es;unfold cR bc cc at p4;simp only[bN,ad]at p4;clear h4 WG;generalize Nd.note {s with seq:=bS s.seq,last:=s.last+1}=s1 at*
 have Wv:=nc.ls;have RP:=nc.self;have U0:=nc.seq;have U1:=nc.cd;have RN:=nc.order;have RO:=nc.seen;have My:=nc.bu;have RK:=nc.bI;have Kq:=nc.last;have Kr:=nc.names;have RL:=nc.ids;have Nu:=nc.aP;have Pq:=nc.now;simp only at Wv RP U0 U1 RN RO My RK Kq Kr RL Nu Pq;have Tf:aW s1.ls:=by rw[Wv];exact ok
 repeat' (first|(refine hK _ ?_;clear hK K)|refine ae (id:=9) (.range 15) 14 [3,7] ?_|refine zaN (id:=9) 4 0 (.range 15) 14 [] ?_|refine ag (id:=23) (.range 10) ?_|intro K hK|intro hc|refine xyZ ?_|refine aF ?_ ?_|refine zw1 ?_|refine bQ λg=> ?_|refine cZ pg λug=> ?_|(refine cZ p4 λu4=> ?_;clear p4)|(refine kA (W:=⟨n,some x.name,i0⟩) (g:=gn) (s:=s1) iI λd2 lD=> ?_;unfold cR bc cc;simp only[bN,ad]))
 have El:d2.aP.length=s1.ids.toNat:=lD.nX;have Rt:=lD.hP;rw[My]at Rt;have OK:k<d2.search.length:=by rw[Rt];exact tK
 have zq:s1.ids.toNat<=900005:=by rw[RL];omega
 have yp:=λvt=>lD.Si (by rw[Pq];exact hn) (by omega) (by rw[Pq,Nu];exact h2) vt;have qI:({s1 with ids:=s1.ids+1,aP:=ik (s1.aP++[s1.now])}:Nd)=s1.oJ:=rfl;rw[qI]at yp;have p5:=λvt=>uf w0 gn s1.oJ {d2 with vt:=vt,aP:=d2.aP++[s1.now]} s1.oJ.out Tf x.dest;have p6:=λvt=>o5 w0 gn s1.oJ {d2 with vt:=vt,aP:=d2.aP++[s1.now]} 0 ⟨x.bK,1,0,(dG s1.ls x.dest).isNone,s1.oJ.ids,x.dest,eJ s1.ls x.dest,s1.self,s1.seq,0,[],[]⟩ ⟨by simp only[cM];omega,by simp[cM],by simp[cM],by simp,by simp⟩ rfl ⟨by show s1.out.aJ.length+1<=_;have:=pY.aJ;omega,by show s1.out.cj.length+1<=_;have:=pY.cj;omega,by show s1.out.dropped.length+1<=_;have:=pY.dropped;omega,by show s1.aI.length+9*1<=_;have:=pY.aI;omega,by show s1.out.ay.length+120*1<=_;have:=pY.ay;omega⟩;have Nn:s1.oJ.send 0 ⟨x.bK,1,0,(dG s1.ls x.dest).isNone,s1.oJ.ids,x.dest,eJ s1.ls x.dest,s1.self,s1.seq,0,[],[]⟩=s1.kE x:=rfl;have p7:=λvt vf=>o4 w0 gn (s1.kE x) {d2 with vt:=vt,aP:=d2.aP++[s1.now],vf:=vf} ⟨s1.self,s1.ids+1⟩ (by show d2.seen.length<=1000;rw[lD.Gl,RN];omega);have XI:(s1.ids+1).toNat=s1.ids.toNat+1:=by rw[ubI];have:(1:UInt32).toNat=1:=rfl;rw[this];omega
 have Tk:=λvt vf vs=>((yp vt).send 0 ⟨x.bK,1,0,(dG s1.ls x.dest).isNone,s1.oJ.ids,x.dest,eJ s1.ls x.dest,s1.self,s1.seq,0,[],[]⟩ vf).aT ⟨s1.self,s1.ids+1⟩ (lD.fresh (s1.ids+1) (by omega)) (λ_=>uL _) vs;rw[Nn]at Tk;obtain⟨sn,od,Lv⟩:=(s1.kE x).oZ ⟨s1.self,s1.ids+1⟩;have Ub:(⟨(s1.kE x).self,(s1.kE x).ids⟩:Rq)=⟨s1.self,s1.ids+1⟩:=rfl;rw[Ub,Lv]at es;rw[Lv]at Tk;unfold cR bc cc at p6 p7;simp only[bN,ad,Pk.val,Pk.cells,Nd.send,Nd.oJ,Nd.kE,cy]at p5 p6 p7;simp only[cy,ad];obtain⟨wf,Qc,Wn,Wl⟩:=DN x ⟨rf.1,rf.2.1⟩;have Bn:=λvt vf vs vq=>((Tk vt vf vs).Ki s.last (λt ht=>by have xq:t∈s1.bI:=ht;rw[RK]at xq;exact Wc t xq)).arm (k:=k) (x:=x) (show s1.bu[k]? =some x by rw[My];exact hx) rfl (show(s1.bu.map (·.name)).Nodup by rw[My];exact so.names) (show x.name<=s1.names by rw[Kr];exact Mu.2.2.2.2) Dz.1 true (iL x) vq;rw[<-es]at Bn;have SC:=es;clear es Tk yp;cases hg:dG s1.ls x.dest with
 |none=>
  simp only[hg,eJ,sH,ua4]at p5 p6 p7;repeat' (first|(refine hK _ ?_;clear hK K)|refine ae (id:=13) (.range 14) 10 [4,8] ?_|refine cK (id:=13) 0 (.range 14) 13 [4,8] ?_|refine ae (id:=15) (.range 22) 21 [2,8,10,15,19] ?_|refine ae (id:=16) (.range 10) 9 [4,8] ?_|intro K hK|refine ax ?_|refine zw1 ?_|refine bQ λg=> ?_|(refine aD (au eL [s1.now] iI iI iI rfl rfl rfl rfl rfl iI rfl rfl rfl) rfl rfl rfl ?_;intro vx)|(refine aD (cn.form (d2.aP.length+1) (by simp) (aR rfl rfl iI iI rfl iI iI qX (by simp only[FO];omega) rfl)) rfl rfl rfl ?_;intro va;replace p5:=p5 (.slice va.1 (d2.aP.length+1) va.2);replace p6:=p6 (.slice va.1 (d2.aP.length+1) va.2);replace p7:=p7 (.slice va.1 (d2.aP.length+1) va.2);replace Bn:=Bn (.slice va.1 (d2.aP.length+1) va.2))|(refine cZ p5 λu5=> ?_;clear p5)|(refine aD (aa iI rfl p6 iI) rfl rfl rfl ?_;intro vf;clear p6;replace p7:=p7 vf;replace Bn:=Bn vf)|(refine aD (aa iI rfl p7 iI) rfl rfl rfl ?_;intro vs;clear p7;replace Bn:=Bn vs)|(refine lI (Ab rfl iI iI (by omega)) rfl ?_))
  refine aV (λkk τ=>∃j:Nat,j+kk=x.aU.toNat/\τ=⟨[(10,.int .i64 (j:Int)),(9,u64 (wf j)),(4,ptr gp 0),(1,.int .i64 (k:Int)),(0,ptr gn 0)],[],aK gp 210 [u32 x.dest,.int .i64 x.bK,.int .i64 x.aU,u64 due,.int .i64 (s.last+1),.bool true]*(cR gn (s1.kE x) {d2 with vt:= .slice va.1 (d2.aP.length+1) va.2,aP:=d2.aP++[s1.now],vf:=vf,vs:=vs,seen:=qR s1.now d2.seen ⟨s1.self,s1.ids+1⟩}*G)⟩) ?_ ?_
  ·exact⟨x.aU.toNat,_,⟨0,by omega,rfl⟩,⟨rfl,by rw[<-Qc];rfl,rfl,rfl,rfl,trivial⟩,rfl,by unfold cR bc cc;simp only[bN,cy,Nd.kE,Nd.oJ,Nd.send,hg,eJ,sH,ua4];exact ah⟩
  rintro Pd τ ⟨m,XY,rfl⟩;unfold cR bc cc;simp only[bN,cy,ad,Nd.kE,Nd.oJ,Nd.send,hg,eJ,sH,ua4];rcases jP m x.aU.toNat with hm|hm
  ·have Mk:(m:Int)<x.aU:=by omega
   repeat' (first|(refine hK _ ?_;clear hK K)|intro K hK|intro hc|refine xyZ ?_|refine aF ?_ ?_|refine zw1 ?_)
   exact⟨Pd - 1,_,by omega,⟨m+1,by omega,rfl⟩,⟨rfl,by rw[<-Wn];rfl,rfl,rfl,rfl,trivial⟩,rfl,by simp only[bN];exact ah⟩
  ·have Mk:¬(m:Int)<x.aU:=by omega
   obtain rfl:m=x.aU.toNat:=by omega
   rw[Wl];repeat' (first|(refine hK _ ?_;clear hK K)|refine ae (id:=29) (.range 8) 7 [3,5,6] ?_|intro K hK|intro hc|refine xyZ ?_|refine aF ?_ ?_|refine zw1 ?_|refine bQ λg=> ?_|(refine' dP ?zh rfl rfl ?_;(case zh=>exact gV (⟨x.dest,x.bK,x.aU,s1.now+iL x,s.last+1,true⟩:Sk) rfl rfl rfl iI iI iI rfl rfl OK);intro g5)|fail)
   --tg
   exact aj (.inr rfl) rfl ⟨(),rfl,aq.rn (Bn d2.vq) (by rw[SC];unfold cR bc cc;simp only[bN,cy,Nd.arm,Nd.cH,Nd.kE,Nd.oJ,Nd.send,hg,eJ,sH,ua4,Kq];exact ah)⟩
 |some l=>
  simp only[hg,eJ,uz,uaE]at p5 p6 p7;repeat' (first|(refine hK _ ?_;clear hK K)|refine ae (id:=13) (.range 14) 10 [4,8] ?_|refine cK (id:=13) 0 (.range 14) 13 [4,8] ?_|refine ae (id:=15) (.range 22) 21 [2,8,10,15,19] ?_|refine ae (id:=16) (.range 10) 9 [4,8] ?_|intro K hK|refine ax ?_|refine zw1 ?_|refine bQ λg=> ?_|(refine aD (au eL [s1.now] iI iI iI rfl rfl rfl rfl rfl iI rfl rfl rfl) rfl rfl rfl ?_;intro vx)|(refine aD (cn.form (d2.aP.length+1) (by simp) (aR rfl rfl iI iI rfl iI iI qX (by simp only[FO];omega) rfl)) rfl rfl rfl ?_;intro va;replace p5:=p5 (.slice va.1 (d2.aP.length+1) va.2);replace p6:=p6 (.slice va.1 (d2.aP.length+1) va.2);replace p7:=p7 (.slice va.1 (d2.aP.length+1) va.2);replace Bn:=Bn (.slice va.1 (d2.aP.length+1) va.2))|(refine cZ p5 λu5=> ?_;clear p5)|(refine aD (aa iI rfl p6 iI) rfl rfl rfl ?_;intro vf;clear p6;replace p7:=p7 vf;replace Bn:=Bn vf)|(refine aD (aa iI rfl p7 iI) rfl rfl rfl ?_;intro vs;clear p7;replace Bn:=Bn vs)|(refine lI (Ab rfl iI iI (by omega)) rfl ?_))
  refine aV (λkk τ=>∃j:Nat,j+kk=x.aU.toNat/\τ=⟨[(10,.int .i64 (j:Int)),(9,u64 (wf j)),(4,ptr gp 0),(1,.int .i64 (k:Int)),(0,ptr gn 0)],[],aK gp 210 [u32 x.dest,.int .i64 x.bK,.int .i64 x.aU,u64 due,.int .i64 (s.last+1),.bool true]*(cR gn (s1.kE x) {d2 with vt:= .slice va.1 (d2.aP.length+1) va.2,aP:=d2.aP++[s1.now],vf:=vf,vs:=vs,seen:=qR s1.now d2.seen ⟨s1.self,s1.ids+1⟩}*G)⟩) ?_ ?_
  ·exact⟨x.aU.toNat,_,⟨0,by omega,rfl⟩,⟨rfl,by rw[<-Qc];rfl,rfl,rfl,rfl,trivial⟩,rfl,by unfold cR bc cc;simp only[bN,cy,Nd.kE,Nd.oJ,Nd.send,hg,eJ,uz,uaE];exact ah⟩
  rintro Pd τ ⟨m,XY,rfl⟩;unfold cR bc cc;simp only[bN,cy,ad,Nd.kE,Nd.oJ,Nd.send,hg,eJ,uz,uaE];rcases jP m x.aU.toNat with hm|hm
  ·have Mk:(m:Int)<x.aU:=by omega
   repeat' (first|(refine hK _ ?_;clear hK K)|intro K hK|intro hc|refine xyZ ?_|refine aF ?_ ?_|refine zw1 ?_)
   exact⟨Pd - 1,_,by omega,⟨m+1,by omega,rfl⟩,⟨rfl,by rw[<-Wn];rfl,rfl,rfl,rfl,trivial⟩,rfl,by simp only[bN];exact ah⟩
  ·have Mk:¬(m:Int)<x.aU:=by omega
   obtain rfl:m=x.aU.toNat:=by omega
   rw[Wl];repeat' (first|(refine hK _ ?_;clear hK K)|refine ae (id:=29) (.range 8) 7 [3,5,6] ?_|intro K hK|intro hc|refine xyZ ?_|refine aF ?_ ?_|refine zw1 ?_|refine bQ λg=> ?_|(refine' dP ?zh rfl rfl ?_;(case zh=>exact gV (⟨x.dest,x.bK,x.aU,s1.now+iL x,s.last+1,true⟩:Sk) rfl rfl rfl iI iI iI rfl rfl OK);intro g5)|fail)
   exact aj (.inr rfl) rfl ⟨(),rfl,aq.rn (Bn d2.vq) (by rw[SC];unfold cR bc cc;simp only[bN,cy,Nd.arm,Nd.cH,Nd.kE,Nd.oJ,Nd.send,hg,eJ,uz,uaE,Kq];exact ah)⟩
end
section
open Go.RowKit
theorem aq.Q0 {α} {p:α->af} {K} (h:∀x,aq (p x) K):aq (hex p) K:=λa ⟨x,hx⟩=>h x a hx
theorem aq.Nz {φ F K} (h:φ->aq F K):aq (pure' φ*F) K:=λa ha=>h (ki.1 ha).1 a (ki.1 ha).2
theorem aq.xN {n i0 gn nm} {t:Nd} (h:∀x∈t.bu,x.name≠nm):aq (qe ⟨n,some nm,i0⟩ gn t) (qe ⟨n,none,i0⟩ gn t):=by
 unfold qe;refine aq.Q0 λd=> ?_;refine aq.Nz λtw=> ?_;have:=aq.rn (W:=⟨n,none,i0⟩) (g:=gn) (F:=emp) (tw.xN h) (aq.refl _);rw[b5,b5]at this;exact this
theorem B3 {l:List Sr} {k} {x:Sr} (hx:l[k]? =some x) (hn:(l.map (·.name)).Nodup):∀y∈l.eraseIdx k,y.name≠x.name:=by
 intro y hy;obtain⟨j,hj⟩:=JC hy;rw[getElem?_eraseIdx']at hj;have h1:=G5.1 (ZS.1 hn);obtain⟨a1,a2⟩:=az.1 hx;by_cases ym:j<k
 ·rw[jF ym]at hj;obtain⟨b1,b2⟩:=az.1 hj;have:=h1 j k (by simpa using b1) (by simpa using a1) ym;simpa [a2,b2]using this
 ·rw[eQ ym]at hj;obtain⟨b1,b2⟩:=az.1 hj;have:=h1 k (j+1) (by simpa using a1) (by simpa using b1) (by omega);simp[a2,b2]at this;exact λe=>this e.symm
theorem zR {α:Type} {l:List α} {k a} (h:l[k]? =some a):l.set k a=l:=by
 apply zD;intro j;rw[Dg];by_cases e:k=j
 ·subst e;obtain⟨h1,h2⟩:=az.1 h;rw[jF rfl,jF h1,h]
 ·rw[eQ e]
theorem l6.find {s:Nd} (h:l6 s) {k} {x:Sr} (hx:s.bu[k]? =some x):eS s.bu x.dest=some k:=by rw[pa];exact h.dest hx
theorem B9 {x y:Sr} (rf:0<=x.bK/\x.bK<=8/\0<=x.aU/\x.aU<=2) (h:x.iN=some y):y.dest=x.dest/\y.name=x.name/\y.out=x.out/\0<=y.bK/\y.bK<=8/\0<=y.aU/\y.aU<=2:=by
 exact pbK
attribute [local irreducible] WS LS OpQ y6 cn cv Spec bA aK di cq
variable (w0:World)
theorem H0 (n i0 gn:Nat) (s:Nd) (k:Nat) (x:Sr) (hx:s.bu[k]? =some x) (rf:0<=x.bK/\x.bK<=8/\0<=x.aU/\x.aU<=2) (so:l6 s) (ok:aW s.ls) (Lr:s.order.length<=16) (Dz:0<=s.last/\s.last<=1000000000000) (hn:s.now.toNat<=4611686018427387904) (uY:i0<=900000) (hW:n<=100000) (F7:s.bu.length<=100000) (ht:∀t∈s.texts x.dest,t.length<=100) (hf:s.Fit ((s.texts x.dest).length+3)):Spec ucC w0 103 [ptr gn 0,.int .i64 (k:Int)] (qe ⟨n,some x.name,i0⟩ gn s) (λ_:Unit=> .tuple #[]) (λ_=>qe ⟨n,none,i0⟩ gn (s.again k x)):=by
 refine eZ Tryz.func103 Tryz.ntmps103 λG=> ?_;simp only[aN];refine rz (W:=⟨n,some x.name,i0⟩) (g:=gn) (s:=s) iI λd tw=> ?_;have tK:k<s.bu.length:=(az.1 hx).1;have Cl:=tw.hP;obtain⟨y,hy⟩:∃y,d.search[k]? =some y:=⟨_,aX (by rw[Cl];exact tK)⟩
 obtain⟨due,set,US,_⟩:=tw.search k x y hx hy;have OJ:k<d.search.length:=by rw[Cl];exact tK
 have p1:=nU w0 d.tb s.self s.ls ok x.dest s.now;have Ce:=B3 hx so.names;subst US;cases Hi:bR s.ls x.dest s.now with
 |some r=>
  have es:s.again k x=s.flush x.dest:=by unfold Nd.again;rw[Hi]
  have WX:(s.flush x.dest).bu=s.bu.eraseIdx k:=by
   rw[Nd.w8,so.find hx];show(s.bg x.dest (s.texts x.dest)).bu.eraseIdx k=_;rw[(Nd.jH s x.dest (s.texts x.dest)).1]
  have p2:=Spec.nV tw ((uI w0 ⟨n,some x.name,i0⟩ gn s x.dest ok hW F7 ht (hf.le (by omega))).zbB (aq.refl _) λu=>⟨u,rfl,aq.xN (by rw[WX];exact Ce)⟩);simp only[Hi,eY,bM,uz]at p1;unfold cR bc cc at*
  simp only[bN,ad]at p2 ⊢;repeat' (first|(refine hK _ ?_;clear hK K)|refine zhf ?_|refine zgX ?_|intro K hK|intro hc|refine xyZ ?_|refine aF ?_ ?_|refine zw3 λg=> ?_|refine bT λg=> ?_|refine bQ λg=> ?_|refine zgu λg=> ?_|refine cZ p1 λx1=> ?_|refine cZ p2 λx2=> ?_)
  exact aj (.inl rfl) rfl ⟨(),rfl,by rw[es];exact ah⟩
 |none=>
  simp only[Hi,eY,bM,sH]at p1;cases Ht:x.out with
  |false=>
   have es:s.again k x=s.ask k x:=by unfold Nd.again;rw[Hi];simp only;rw[eQ (by rw[Ht];exact Bool.false_ne_true)]
   have p2:=Spec.nV tw (pN w0 n i0 gn s k x hx rf so ok Lr Dz hn uY F7 (hf.le (by omega)));have UP:(Sk.of x due set).out=false:=Ht;unfold cR bc cc at*
   simp only[bN,ad]at p2 ⊢;repeat' (first|(refine hK _ ?_;clear hK K)|refine zhf ?_|refine zgX ?_|intro K hK|intro hc|refine xyZ ?_|refine aF ?_ ?_|refine zw3 λg=> ?_|refine bT λg=> ?_|refine bQ λg=> ?_|refine zgu λg=> ?_|refine cZ p1 λx1=> ?_|refine cZ p2 λx2=> ?_)
   exact aj (.inr rfl) rfl ⟨(),rfl,by rw[es];exact ah⟩
  |true=>
   have UP:(Sk.of x due set).out=true:=Ht;cases qC:x.iN with
   |some y=>
    have yy:=B9 rf qC;have es:s.again k x=Nd.ask {s with bu:=s.bu.set k y} k y:=by unfold Nd.again;rw[Hi];simp only;rw[jF Ht,qC]
    have sY:(s.bu.set k y).map (·.name)=s.bu.map (·.name):=by
     rw[ubo,yy.2.1];exact zR (by rw[zA,hx];rfl)
    have QX:(s.bu.set k y).map (·.dest)=s.bu.map (·.dest):=by
     rw[ubo,yy.1];exact zR (by rw[zA,hx];rfl)
    have YM:l6 {s with bu:=s.bu.set k y}:=⟨by show((s.bu.set k y).map _).Nodup;rw[QX];exact so.aO,by show((s.bu.set k y).map _).Nodup;rw[sY];exact so.names,λz hz=>by
     rcases W7 hz with hz|rfl
     ·exact so.each z hz
     ·rw[yy.2.1]
      exact⟨yy.2.2.2.1,yy.2.2.2.2.1,yy.2.2.2.2.2.1,yy.2.2.2.2.2.2,(so.each x (jq hx)).2.2.2.2⟩⟩
    have p2:=λvq=>Spec.nV (tw.Mc hx hy rfl yy.2.1 vq) (by rw[<-yy.2.1];exact pN w0 n i0 gn {s with bu:=s.bu.set k y} k y (show(s.bu.set k y)[k]? =some y by rw[Dg];simp[tK]) yy.2.2.2 YM ok Lr Dz hn uY (by show(s.bu.set k y).length<=_;rw[TY];exact F7) ⟨by show s.out.aJ.length+3<=_;have:=hf.aJ;omega,by show s.out.cj.length+3<=_;have:=hf.cj;omega,by show s.out.dropped.length+3<=_;have:=hf.dropped;omega,by show s.aI.length+9*3<=_;have:=hf.aI;omega,by show s.out.ay.length+120*3<=_;have:=hf.ay;omega⟩);replace p2:=p2 d.vq;have JR:(x.bK<5/\y={x with bK:=x.bK+2})\/(¬x.bK<5/\x.bK<8/\y={x with bK:=8})\/(¬x.bK<5/\¬x.bK<8/\x.aU<2/\y={x with aU:=x.aU+1}):=by
     unfold Sr.iN at qC;split at qC
     ·cases qC;exact .inl ⟨by assumption,rfl⟩
     ·split at qC
      ·cases qC;exact .inr (.inl ⟨by assumption,by assumption,rfl⟩)
      ·split at qC
       ·cases qC;exact .inr (.inr ⟨by assumption,by assumption,by assumption,rfl⟩)
       ·cases qC
    have OK:k<(d.search.set k (Sk.of y due set)).length:=by rw[TY];exact OJ
    unfold cR bc cc at*
    simp only[bN,ad,cy]at p2 ⊢;have e1:(Sk.of x due set).bK=x.bK:=rfl;have e2:(Sk.of x due set).aU=x.aU:=rfl;have e3:(Sk.of x due set).dest=x.dest:=rfl;rcases JR with ⟨c1,rfl⟩|⟨c1,c2,rfl⟩|⟨c1,c2,c3,rfl⟩
    ·repeat' (first|(refine hK _ ?_;clear hK K)|refine zhf ?_|refine zgX ?_|refine ae (id:=15) (.range 11) 10 [3,6,8,9] ?_|intro K hK|intro hc|refine xyZ ?_|refine aF ?_ ?_|refine zw3 λg=> ?_|refine bT λg=> ?_|refine bQ λg=> ?_|refine zgu λg=> ?_|refine cZ p1 λx1=> ?_|refine cZ p2 λx2=> ?_|(refine' dP ?zh rfl rfl ?_;(case zh=>exact dB (z:=Sk.of x due set) (Sk.of {x with bK:=x.bK+2} (Sk.of x due set).due (Sk.of x due set).set) rfl rfl iI iI iI rfl hy rfl);intro g5)|fail)
     exact aj (.inr rfl) rfl ⟨(),rfl,by rw[es];exact ah⟩
    ·repeat' (first|(refine hK _ ?_;clear hK K)|refine zhf ?_|refine zgX ?_|intro K hK|intro hc|refine xyZ ?_|refine aF ?_ ?_|refine zw3 λg=> ?_|refine bT λg=> ?_|refine bQ λg=> ?_|refine zgu λg=> ?_|refine cZ p1 λx1=> ?_|refine cZ p2 λx2=> ?_|(refine bL (dB (z:=Sk.of x due set) (Sk.of {x with bK:=8} (Sk.of x due set).due (Sk.of x due set).set) rfl rfl iI iI iI rfl hy rfl) ?_;intro g6))
     exact aj (.inr rfl) rfl ⟨(),rfl,by rw[es];exact ah⟩
    ·repeat' (first|(refine hK _ ?_;clear hK K)|refine zhf ?_|refine zgX ?_|intro K hK|intro hc|refine xyZ ?_|refine aF ?_ ?_|refine zw3 λg=> ?_|refine bT λg=> ?_|refine bQ λg=> ?_|refine zgu λg=> ?_|refine cZ p1 λx1=> ?_|refine cZ p2 λx2=> ?_|(refine bL (dB (z:=Sk.of x due set) (Sk.of {x with aU:=x.aU+1} (Sk.of x due set).due (Sk.of x due set).set) rfl rfl iI iI iI rfl hy rfl) ?_;intro g6))
     exact aj (.inr rfl) rfl ⟨(),rfl,by rw[es];exact ah⟩
   |none=>
    have es:s.again k x=((s.dy (s.texts x.dest).length 5).cX x.dest).stop k:=by unfold Nd.again;rw[Hi];simp only;rw[jF Ht,qC]
    have zt:¬x.bK<5/\¬x.bK<8/\¬x.aU<2:=by
     unfold Sr.iN at qC;split at qC
     ·cases qC
     ·split at qC
      ·cases qC
      ·split at qC
       ·cases qC
       ·exact⟨by assumption,by assumption,by assumption⟩
    obtain⟨c1,c2,c3⟩:=zt;have Nj:=tw.Kp x.dest;have Wm:d.wait.length<=n:=tw.mL;have sX:=hf.dropped;rw[Nj]at es sX;have e1:(Sk.of x due set).bK=x.bK:=rfl;have e2:(Sk.of x due set).aU=x.aU:=rfl;have e3:(Sk.of x due set).dest=x.dest:=rfl;unfold cR bc cc at*
    simp only[bN,ad]at ⊢;repeat' (first|(refine hK _ ?_;clear hK K)|refine zhf ?_|refine zgX ?_|intro K hK|intro hc|refine xyZ ?_|refine aF ?_ ?_|refine zw3 λg=> ?_|refine bT λg=> ?_|refine bQ λg=> ?_|refine zgu λg=> ?_|refine cZ p1 λx1=> ?_)
    rename_i gp gs gr g1 g2;refine cV (aq.nil _ 243 2 dA none) ?_;refine aV (λkk τ=>∃(i:Nat) (vl vd:Value),i+kk=d.wait.length/\τ=⟨[(8,.int .i64 (i:Int)),(7,vl),(4,ptr gp 0),(1,.int .i64 (k:Int)),(0,ptr gn 0)],[],cR gn (s.dy (cz x.dest (d.wait.take i)).length 5) {d with vd:=vd}*(rows 243 2 dA vl (kU x.dest (d.wait.take i))*(aK gp 210 (skC (Sk.of x due set))*G))⟩) ?_ ?_
    ·exact⟨d.wait.length,_,⟨0,.slice none 0 0,d.vd,by omega,rfl⟩,cG,rfl,by unfold cR bc cc;simp only[bN,cy,Nd.dy,uai,cz,kU,List.filter_nil,Xp,HM,List.replicate_zero,rL,skC];exact ah⟩
    rintro kk τ ⟨i,vl,vd,qE,rfl⟩;have S1:=ud x.dest d.wait i;obtain⟨Vh,Mp⟩:=zC x.dest d.wait i;have X8:(cz x.dest d.wait).length=(cz x.dest (d.wait.take i)).length+Vh.length:=by rw[<-pU,<-Mp]
    rcases jP i d.wait.length with h|h
    ·have h1:(i:Int)<(d.wait.length:Int):=by omega
     obtain⟨z,hz⟩:∃z,d.wait[i]? =some z:=⟨_,aX h⟩
     have Ci:=qM (d:=x.dest) hz;have F6:=xU (d:=x.dest) hz;by_cases h2:z.1=x.dest
     ·rw[jF h2]at Ci F6;rw[rL]at F6;have Rg:(cz x.dest (d.wait.take (i+1))).length=(cz x.dest (d.wait.take i)).length+1:=by rw[Ci,pU,FO]
      generalize (cz x.dest (d.wait.take i)).length=q at*
      have p3:=cx w0 gn (s.dy q 5) {d with vd:=vd} 5 (by show(s.out.dropped++List.replicate q 5).length<=_;rw[pU,List.length_replicate];omega);rw[<-Nd.wY]at p3;unfold cR bc cc at*
      simp only[bN,cy,ad,Nd.dy,skC]at p3 ⊢;repeat' (first|(refine hK _ ?_;clear hK K)|refine ag (id:=9) (.range 11) ?_|intro K hK|intro hc|refine xyZ ?_|refine aF ?_ ?_|refine cZ p3 λv9=> ?_)
      exact⟨kk - 1,_,by omega,⟨i+1,vl,v9,by omega,rfl⟩,cG,rfl,by rw[Rg,F6];simp only[bN];exact ah⟩
     ·rw[eQ h2]at Ci F6;rw[rL]at Ci;unfold cR bc cc;simp only[bN,cy,ad,Nd.dy,skC];repeat' (first|(refine hK _ ?_;clear hK K)|refine ag (id:=9) (.range 11) ?_|intro K hK|intro hc|refine xyZ ?_|refine aF ?_ ?_|(refine ai (au dA [z] iI iI iI rfl rfl rfl rfl rfl iI rfl rfl rfl) rfl ?_;intro vx)|(refine ai (aR rfl rfl iI iI rfl iI iI gU (by simp only[FO];omega) rfl) rfl ?_;intro va))
      exact⟨kk - 1,_,by omega,⟨i+1,va,vd,by omega,rfl⟩,cG,rfl,by rw[Ci,F6];simp only[bN];exact ah⟩
    have h1:¬(i:Int)<(d.wait.length:Int):=by omega
    rw[Gz h];have uO:Twin ⟨n,some x.name,i0⟩ (s.dy (cz x.dest d.wait).length 5) {d with vd:=vd}:=tw.to (Nd.Alike.MC s _) rfl rfl rfl rfl rfl;have lD:=λvw vq=>(((uO.cX x.dest vw).stop k tK vq).xN (show ∀y∈s.bu.eraseIdx k,y.name≠x.name from Ce))
    have p3:=uH w0 gn (s.dy (cz x.dest d.wait).length 5) {d with vd:=vd,vw:=vl,wait:=kU x.dest d.wait} (s.dy (cz x.dest d.wait).length 5).out d.search (by omega) k (by omega);unfold cR bc cc;simp only[bN,cy,ad,Nd.dy,skC]at p3 ⊢;repeat' (first|(refine hK _ ?_;clear hK K)|intro K hK|intro hc|refine xyZ ?_|refine aF ?_ ?_|refine bQ λg=> ?_|refine cZ p3 λx3=> ?_)
    exact aj (.inl rfl) rfl ⟨(),rfl,by rw[es];exact aq.rn (lD vl x3) (by unfold cR bc cc;simp only[bN,cy,Nd.cX,Nd.stop,Nd.dy];exact ah)⟩
end
section
def TW.more (W:TW):TW:={W with n:=W.n+1}
theorem nO (e l k):cz e (l++k)=cz e l++cz e k:=by unfold cz;rw[uac,EZ]
theorem xF (e z l):cz e (z::l)=(if z.1=e then [z.2]else [])++cz e l:=by
 unfold cz;by_cases h:z.1=e
 ·rw[jF h,uaH,jF (by simpa using h)];rfl
 ·rw[eQ h,uaH,eQ (by simpa using h)];rfl
def jt (dst:UInt32) (l:List (UInt32×cP)):Option Nat:=l.findIdx? λw=>decide (w.1=dst)
theorem oO {dst} {l:List (UInt32×cP)} {i} (h:jt dst l=some i):∃z,l[i]? =some z/\z.1=dst/\i<l.length/\cz dst (l.take i)=[]:=by
 unfold jt at h;rw[uaq]at h;obtain⟨h1,h2,h3⟩:=h;refine⟨l[i],aX h1,by simpa using h2,h1,?_⟩;unfold cz;rw[ua3.2]
 ·rfl
 ·intro a ha;rw[ub5]at ha;obtain⟨j,hj,rfl⟩:=ha;have:=h3 j (by omega);simpa using this
theorem B7 {dst l} (h:jt dst l=none):cz dst l=[]:=by
 unfold jt at h;rw[ubg]at h;unfold cz;rw[ua3.2]
 ·rfl
 ·intro a ha;simpa using h a ha
theorem D9 {dst} {l:List (UInt32×cP)} {i} (h:jt dst l=some i) (e):cz e (l.take i++l.drop (i+1))=if e=dst then(cz e l).drop 1 else cz e l:=by
 obtain⟨z,hz,RG,hi,hn⟩:=oO h;have hl:cz e l=cz e (l.take i)++((if z.1=e then [z.2]else [])++cz e (l.drop (i+1))):=by
  rw[<-xF,<-nO];congr 1;have h1:=(az.1 hz).2;rw[<-h1,<-Sb hi,Jt]
 rw[nO,hl];by_cases he:e=dst
 ·subst he;rw[jF rfl,jF RG,hn];rfl
 ·rw[eQ he,eQ (λe2=>he (e2.symm.trans RG)),zF]
theorem B8 {dst:UInt32} {l:List (UInt32×cP)} {i:Nat} {z:UInt32×cP} (h:l[i]? =some z):jt dst (l.take (i+1))=match jt dst (l.take i)with
  |some k=>some k
  |none=>if z.1=dst then some i else none:=by
 have hi:=(az.1 h).1;unfold jt;rw[AP,h,List.findIdx?_append];cases hf:(l.take i).findIdx? λw=>decide (w.1=dst)with
 |some k=>rfl
 |none=>
  simp only[Qf,Aw];by_cases hz:z.1=dst
  ·rw[jF hz];simp[ubt,hz];omega
  ·rw[eQ hz];simp[ubt,hz]
section
variable {W:TW} {s:Nd} {d:RD}
theorem Twin.Ld (h:Twin W s d) {ws:List (UInt32×List cP)} {w:List (UInt32×cP)} {m:Nat} (vw:Value) (hk:KN ws) (hm:∀e,(bX ws e).getD []=cz e w) (hl:w.length<=m):Twin {W with n:=m} {s with wait:=ws} {d with vw:=vw,wait:=w}:=
 ⟨h.held,h.mY,h.kg,h.seen,h.o9,h.oz,h.o7,hm,hl,h.hP,h.search,h.jT,h.Br,h.fN,h.aP,h.oA,h.ns,h.nX,h.DB,hk,h.FP,h.oy⟩
theorem Twin.mono {W':TW} (h:Twin W s d) (he:W'.ex=W.ex) (hn:W.n<=W'.n) (hi:W.i0<=W'.i0):Twin W' s d:=⟨h.held,h.mY,h.kg,h.seen,h.o9,h.oz,h.o7,h.wait,WA h.mL hn,h.hP,by rw[he];exact h.search,h.jT,h.Br,h.fN,h.aP,h.oA,h.ns,h.nX,h.DB,h.Bp,by rw[he];exact h.FP,WA h.oy (Nat.add_le_add_right hi _)⟩
theorem Twin.overflow (h:Twin W s d) {dst i} (hi:jt dst d.wait=some i) (vw):Twin W {s with wait:=bY s.wait dst ((s.texts dst).drop 1)} {d with vw:=vw,wait:=d.wait.take i++d.wait.drop (i+1)}:=by
 refine h.Ld (m:=W.n) vw (h.Bp.bY _ _) (λe=> ?_) ?_
 ·rw[fo,D9 hi];by_cases he:e=dst
  ·subst he;rw[jF rfl,jF rfl,CV,h.Kp]
  ·rw[eQ (uaT he),eQ he];exact h.wait e
 ·obtain⟨z,_,_,hl,_⟩:=oO hi;have:=h.mL;rw[pU,Aw,uK];omega
theorem Twin.waits (h:Twin W s d) (dst t vw):Twin W.more {s with wait:=bY s.wait dst (s.texts dst++[t])} {d with vw:=vw,wait:=d.wait++[(dst,t)]}:=by
 refine h.Ld (m:=W.n+1) vw (h.Bp.bY _ _) (λe=> ?_) ?_
 ·have hn:cz e [(dst,t)]=if e=dst then [t]else []:=by
   rw[xF];have:cz e []=[]:=rfl;rw[this,rL];by_cases he:e=dst
   ·subst he;rfl
   ·rw[eQ he,eQ (uaT he)]
  rw[fo,nO,hn];by_cases he:e=dst
  ·subst he;rw[jF rfl,jF rfl,CV,h.Kp]
  ·rw[eQ (uaT he),eQ he,rL];exact h.wait e
 ·have:=h.mL;rw[pU,FO];omega
end
end
section
def sJ (l:List Sk) (i:Nat):Sk:=l.getD i ⟨0,0,0,0,0,false⟩
def Sk.first (x y:Sk):Prop:=x.due<y.due\/(x.due=y.due/\x.set<y.set)
instance (x y:Sk):Decidable (x.first y):=by unfold Sk.first;infer_instance
def fF (l:List Sk) (now:UInt64):Nat->Option Nat
 |0=>none
 |i+1=>match fF l now i with
  |none=>if(sJ l i).due<=now then some i else none
  |some b=>if(sJ l i).due<=now/\(sJ l i).first (sJ l b)then some i else some b
theorem qw {l:List Sk} {now:UInt64}:∀{n:Nat},fF l now n=none->∀j,j<n->¬(sJ l j).due<=now
 |0,_,j,hj=>absurd hj (ua8 _)
 |n+1,h,j,hj=>by
  simp only[fF]at h;cases hb:fF l now n with
  |none=>
   rw[hb]at h;simp only at h;split at h
   ·cases h
   ·rename_i hn;rcases uaV.1 hj with hj|rfl
    ·exact qw hb j hj
    ·exact hn
  |some b=>
   rw[hb]at h;simp only at h;split at h<;>cases h
theorem nG {l:List Sk} {now:UInt64}:∀{n b:Nat},fF l now n=some b->b<n/\(sJ l b).due<=now/\∀j,j<n->(sJ l j).due<=now->¬(sJ l j).first (sJ l b)
 |0,b,h=>by cases h
 |n+1,b,h=>by
  have Wu:∀x:Sk,¬x.first x:=λx h=>h.elim (λh=>UInt64.lt_irrefl _ h) λh=>by have:=h.2;omega
  simp only[fF]at h;cases hb:fF l now n with
  |none=>
   rw[hb]at h;simp only at h;split at h
   ·cases h;refine⟨by omega,by assumption,λj hj hd=> ?_⟩;rcases uaV.1 hj with hj|rfl
    ·exact absurd hd (qw hb j hj)
    ·exact Wu _
   ·cases h
  |some c=>
   rw[hb]at h;obtain⟨h1,h2,h3⟩:=nG hb;simp only at h;split at h
   ·rename_i hc;cases h;refine⟨by omega,hc.1,λj hj hd hf=> ?_⟩;rcases uaV.1 hj with hj|rfl
    ·refine h3 j hj hd ?_;rcases hf with hf|⟨hf,mF⟩
     ·rcases hc.2 with hg|⟨hg,_⟩
      ·exact .inl (UInt64.lt_trans hf hg)
      ·exact .inl (hg▸hf)
     ·rcases hc.2 with hg|⟨hg,VW⟩
      ·exact .inl (hf▸hg)
      ·exact .inr ⟨hf.trans hg,by omega⟩
    ·exact Wu _ hf
   ·rename_i hc;cases h;refine⟨by omega,h2,λj hj hd hf=> ?_⟩;rcases uaV.1 hj with hj|rfl
    ·exact h3 j hj hd hf
    ·exact hc ⟨hd,hf⟩
theorem Ji {L i t} (h:L[i]? =some t):cJ L i=t:=Jg h
theorem o8 {l i y} (h:l[i]? =some y):sJ l i=y:=by
 unfold sJ;rw[W9,h];rfl
section
variable {n i0:Nat} {s:Nd} {d:RD}
theorem Twin.timer (h:Twin ⟨n,none,i0⟩ s d) {t u:Tm} (ht:t∈s.bI) (hu:u∈s.bI) (e:t.km=u.km):t=u:=by
 obtain⟨i,hi⟩:=JC ht;obtain⟨j,hj⟩:=JC hu;have h1:=G5.1 (ZS.1 h.jT);obtain⟨a1,a2⟩:=az.1 hi;obtain⟨b1,b2⟩:=az.1 hj;rcases uam i j with bW|rfl|bW
 ·have:=h1 i j (by simpa using a1) (by simpa using b1) bW;simp[a2,b2,e]at this
 ·exact a2.symm.trans b2
 ·have:=h1 j i (by simpa using b1) (by simpa using a1) bW;simp[a2,b2,e]at this
theorem Twin.pick (h:Twin ⟨n,none,i0⟩ s d) (so:l6 s) {now:UInt64} {i k:Nat} {x:Sr} (hb:gN s.bI now s.bI.length=some i) (hx:s.bu[k]? =some x) (hn:x.name=(cJ s.bI i).km):fF d.search now d.search.length=some k:=by
 obtain⟨c1,c2,c3,c4⟩:=zaK hb;have Ry:s.bI[i]? =some (cJ s.bI i):=hZ c1;have tK:k<s.bu.length:=(az.1 hx).1;have key:∀b z,s.bu[b]? =some z->∃t∈s.bI,t.km=z.name/\(sJ d.search b).due=t.at_/\(sJ d.search b).set=t.id:=λb z hz=>by
  obtain⟨y,hy⟩:∃y,d.search[b]? =some y:=⟨_,aX (by rw[h.hP];exact(az.1 hz).1)⟩
  obtain⟨due,set,e1,e2⟩:=h.search b z y hz hy;rcases e2 with e2|e2
  ·cases e2
  ·exact⟨_,e2,rfl,by rw[o8 hy,e1];rfl,by rw[o8 hy,e1];rfl⟩
 obtain⟨tk,Cg,vS,FY,XN⟩:=key k x hx;have gK:tk=cJ s.bI i:=h.timer Cg (jq Ry) (vS.trans hn);subst gK;have OJ:(sJ d.search k).due<=now:=by rw[FY];exact c2
 cases JQ:fF d.search now d.search.length with
 |none=>exact absurd OJ (qw JQ k (by rw[h.hP];exact tK))
 |some b=>
  obtain⟨b1,b2,b3⟩:=nG JQ;rw[h.hP]at b1;obtain⟨z,hz⟩:∃z,s.bu[b]? =some z:=⟨_,aX b1⟩
  obtain⟨tb,Iz,FT,SI,TX⟩:=key b z hz;have Wb:=b3 k (by rw[h.hP];exact tK) OJ;obtain⟨j,hj⟩:=JC Iz;have Ng:=(az.1 hj).1;have hle:=c3 j Ng;have TU:=Ji hj;rw[TU]at hle;have heq:(cJ s.bI i).at_=tb.at_:=by
   apply ubj.1;have:¬(cJ s.bI i).at_.toNat<tb.at_.toNat:=λbW=>Wb (.inl (by rw[FY,SI];exact bW));omega
  have tM:¬(cJ s.bI i).id<tb.id:=λbW=>Wb (.inr ⟨by rw[FY,SI,heq],by rw[XN,TX];exact bW⟩);have pZ:j=i:=by
   rcases uam j i with bW|e|bW
   ·have:=c4 j bW;rw[TU,heq]at this;exact absurd this (uct _)
   ·exact e
   ·exfalso;have h1:=G5.1 h.Br;have:=h1 i j (by simpa using c1) (by simpa using Ng) bW;obtain⟨a1,a2⟩:=az.1 Ry;obtain⟨e1,e2⟩:=az.1 hj;simp only[List.getElem_map,a2,e2]at this;exact tM this
  subst pZ;have Wr:z.name=x.name:=by rw[<-FT,hn,TU]
  have QO:b=k:=by
   have h1:=G5.1 (ZS.1 so.names);obtain⟨a1,a2⟩:=az.1 hx;obtain⟨e1,e2⟩:=az.1 hz;rcases uam b k with bW|e|bW
   ·have:=h1 b k (by simpa using e1) (by simpa using a1) bW;simp[a2,e2,Wr]at this
   ·exact e
   ·have:=h1 k b (by simpa using a1) (by simpa using e1) bW;simp[a2,e2,Wr]at this
  rw[QO]
theorem Twin.idle (h:Twin ⟨n,none,i0⟩ s d) {now} (hb:gN s.bI now s.bI.length=none):fF d.search now d.search.length=none:=by
 cases JQ:fF d.search now d.search.length with
 |none=>rfl
 |some b=>
  exfalso;obtain⟨b1,b2,b3⟩:=nG JQ;obtain⟨y,hy⟩:∃y,d.search[b]? =some y:=⟨_,aX b1⟩
  rw[h.hP]at b1;obtain⟨z,hz⟩:∃z,s.bu[b]? =some z:=⟨_,aX b1⟩
  obtain⟨due,set,e1,e2⟩:=h.search b z y hz hy;rcases e2 with e2|e2
  ·cases e2
  ·obtain⟨j,hj⟩:=JC e2;have:=nF hb j (az.1 hj).1;rw[Ji hj]at this;rw[o8 hy,e1]at b2;exact absurd b2 (ucx.2 this)
theorem Twin.skip {s0:Nd} {now:UInt64} (hn:now.toNat<=4611686018427387904):∀(f:Nat) (t:Nd) (j:Nat),Twin ⟨n,none,i0⟩ t d->s0.DH t now j->iq now t.bI<f->∃f' c j',Twin ⟨n,none,i0⟩ {t with bI:=c} d/\s0.DH {t with bI:=c} now j'/\iq now c<f'/\iq now c<=iq now t.bI/\t.gT f now=Nd.gT f' {t with bI:=c} now/\(gN c now c.length=none\/∃i k x,gN c now c.length=some i/\nP t.bu (cJ c i).km=some k/\t.bu[k]? =some x/\x.name=(cJ c i).km)
 |0,_,_,_,_,h=>absurd h (ua8 _)
 |f+1,t,j,h,hr,hf=>by
  cases hb:gN t.bI now t.bI.length with
  |none=>exact⟨f+1,t.bI,j,h,hr,hf,uL _,rfl,.inl hb⟩
  |some i=>
   cases hk:nP t.bu (cJ t.bI i).km with
   |some k=>
    have vS:=hk;unfold nP at vS;rw[uaq]at vS;obtain⟨k1,k2,_⟩:=vS;exact⟨f+1,t.bI,j,h,hr,hf,uL _,rfl,.inr ⟨i,k,t.bu[k],hb,hk,aX k1,by simpa using k2⟩⟩
   |none=>
    have hs:t.step now=some {t with bI:=t.bI.eraseIdx i}:=by
     unfold Nd.step;rw[hb];simp only;rw[hk]
    have Lu:=hr.next hs hn;have rU:=(Nd.nu hs hr.inv hr.sw hr.AX hn).due;have zt:∀x∈t.bu,x.name≠(cJ t.bI i).km:=λx hx e=>by
     unfold nP at hk;rw[ubg]at hk;have:=hk x hx;simp[e]at this
    have h2:=(h.KJ (hZ (zaK hb).1)).xN zt;obtain⟨f',c,j',a1,a2,a3,a6,a4,a5⟩:=Twin.skip hn f {t with bI:=t.bI.eraseIdx i} (j+1) h2 Lu (by have:iq now (t.bI.eraseIdx i)+1=iq now t.bI:=rU;show iq now (t.bI.eraseIdx i)<f;omega);refine⟨f',c,j',a1,a2,a3,by have e1:iq now (t.bI.eraseIdx i)+1=iq now t.bI:=rU;have e2:iq now c<=iq now (t.bI.eraseIdx i):=a6;omega,?_,a5⟩;rw[<-a4];show(match t.step now with|some u=>u.gT f now|none=>t)=_;rw[hs]
end
theorem Nd.KA (s:Nd):s.note.bu=s.bu:=(Nd.fz.note s).bu
theorem Nd.Jf (s:Nd) (x):(s.gE x).bu=s.bu:=by
 rw[Nd.Ah];obtain⟨sn,od,e⟩:=(s.wF.kE x).oZ ⟨(s.wF.kE x).self,(s.wF.kE x).ids⟩;rw[e];show(Nd.note {s with seq:=bS s.seq}).bu=s.bu;rw[Nd.KA]
theorem Nd.FH (s:Nd) (k x):(s.ask k x).bu.length=s.bu.length:=by
 unfold Nd.ask;split
 ·show(s.bu.modify k _).length=_;rw[Zb]
 ·split
  ·show(s.bu.modify k _).length=_;rw[Zb]
  ·show((s.cH k true).gE x).bu.length=_;rw[Nd.Jf];show(s.bu.modify k _).length=_;rw[Zb]
theorem Nd.GS (s:Nd) (k x):(s.again k x).bu.length<=s.bu.length:=by
 unfold Nd.again;split
 ·rw[Nd.w8];split
  ·show((s.bg _ _).bu.eraseIdx _).length<=_;rw[(Nd.jH s _ _).1];exact(W8 _ _).length_le
  ·show(s.bg _ _).bu.length<=_;rw[(Nd.jH s _ _).1];exact uL _
 ·split
  ·split
   ·rw[Nd.FH];show(s.bu.set k _).length<=_;rw[TY];exact uL _
   ·show(s.bu.eraseIdx k).length<=_;exact(W8 _ _).length_le
  ·rw[Nd.FH];exact uL _
end
end Go.Proofs.YtapoehkdnglahabGreat
