/- A part of what Nodes needs. -/
import Derived.Test.YtapoehkdnglahabGreatNodesGv
set_option maxHeartbeats 32000000
set_option maxRecDepth 100000
set_option linter.unusedVariables false
set_option linter.unusedSimpArgs false
set_option linter.unusedSectionVars false
namespace Go.Proofs.YtapoehkdnglahabGreat
section
open Go.RowKit
instance Sz:eU (.int .u64 2) 2:=⟨rfl⟩
attribute [local irreducible] WS LS cD eM cn cv Spec bA aK di cq
variable (w0:World)
theorem pN (n i0 gn:Nat) (s:Nd) (k:Nat) (x:Sr) (hx:s.bu[k]? =some x) (rf:0≤x.bK∧x.bK≤8∧0≤x.aU∧x.aU≤2) (so:l6 s) (ok:aW s.ls) (Lr:s.order.length≤16) (Dz:0≤s.last∧s.last≤1000000000000) (hn:s.now.toNat≤4611686018427387904) (uY:i0≤900000) (F7:s.bu.length≤100000) (hf:s.Fit 3):Spec Tryz.prog w0 140 [ptr gn 0,.int .i64 (k:Int)] (qe ⟨n,some x.name,i0⟩ gn s) (fun _:Unit=> .tuple #[]) (fun _=>qe ⟨n,none,i0⟩ gn (s.ask k x)):=by
 refine Spec.enter Tryz.func140 rfl Tryz.ntmps140 rfl fun G=> ?_
 simp only[aN]
 refine rz (W:=⟨n,some x.name,i0⟩) (g:=gn) (s:=s) iI fun d tw=> ?_
 have tK:k<s.bu.length:=(List.getElem?_eq_some_iff.1 hx).1
 have Cl:=tw.hP
 obtain⟨y,hy⟩:∃y,d.search[k]? =some y:=⟨_,List.getElem?_eq_getElem (by rw[Cl];exact tK)⟩
 obtain⟨due,set,US,_⟩:=tw.search k x y hx hy
 have XH:s.ids.toNat≤i0+dJ s.now s.aP:=tw.oy
 have Wh:=tw.nX
 have Yb:=tw.Gn.1
 have yl:dJ s.now s.aP≤s.aP.length:=rK _ _
 have VU:=tw.busy hn
 have OJ:k<d.search.length:=by rw[Cl];exact tK
 have Mu:=so.each x (List.mem_of_getElem? hx)
 unfold cR bc cc
 simp only[bN,ad]
 subst US
 repeat' (first|(refine ab ?_;intro K hK)|(refine hK _ ?_;clear hK K)|refine ax ?_|refine az ?_|(refine bT ?_;intro g)|(refine bQ ?_;intro g)|((refine' bL ?zh ?_);(case zh=>exact bo rfl rfl iI iI (by first|rfl|(simp only[List.all_cons,List.all_nil, *];rfl)) rfl);intro g)|fail)
 rename_i gp g1 g2
 refine aV (fun kk τ=>∃j:Nat,j+kk=d.aP.length∧τ=⟨[(6,.int .i64 (j:Int)),(5,.int .i64 ((dJ s.now (d.aP.take j):Nat):Int)),(4,ptr gp 0),(1,.int .i64 (k:Int)),(0,ptr gn 0)],[],aK gp 210 [u32 x.dest,.int .i64 x.bK,.int .i64 x.aU,u64 due,.int .i64 (s.last+1),.bool x.out]*(aK gn 195 (bN {s with last:=s.last+1} d s.out)*(rows 28 3 Rec.cells d.vr s.aI*(rows 28 3 Rec.cells d.vh d.held*(ct d.tb s.self s.ls*(cy d s.out*(rows 312 3 jM d.vs d.seen*(rows 243 2 dA d.vw d.wait*(rows 210 6 uM d.vq d.search*(rows 24 1 eL d.vt d.aP*G)))))))))⟩) ?_ ?_
 ·exact⟨d.aP.length,_,⟨0,by omega,rfl⟩,cG,rfl,by simp only[bN,Sk.of];exact ah⟩
 rintro kk τ ⟨j,ym,rfl⟩
 simp only[bN]
 have Uf:dJ s.now (d.aP.take j)≤(d.aP.take j).length:=rK _ _
 rw[List.length_take]at Uf
 rcases Nat.lt_or_ge j d.aP.length with hj|hj
 ·have IC:(j:Int)<(d.aP.length:Int):=by omega
  obtain⟨z,hz⟩:∃z,d.aP[j]? =some z:=⟨_,List.getElem?_eq_getElem hj⟩
  have Ll:=wR (now:=s.now) hz
  by_cases Wq:s.now<z+1000
  ·rw[if_pos Wq]at Ll
   repeat' (first|refine ag (id:=7) (.range 13) ?_|(refine ab ?_;intro K hK)|(refine hK _ ?_;clear hK K)|refine ax ?_|(refine aF ?_ ?_<;>intro hc<;>(try simp only[cS]at hc)<;>(try exact aG))|refine aX ?_|refine az ?_|((refine' bk rfl rfl ?zh ?_);case zh=>intro F';exact bE rfl rfl iI)|fail)
   exact⟨kk - 1,_,by omega,⟨j+1,by omega,rfl⟩,⟨rfl,by rw[Ll];rfl,rfl,rfl,rfl,trivial⟩,rfl,by simp only[bN];exact ah⟩
  ·rw[if_neg Wq]at Ll
   repeat' (first|refine ag (id:=7) (.range 13) ?_|(refine ab ?_;intro K hK)|(refine hK _ ?_;clear hK K)|refine ax ?_|(refine aF ?_ ?_<;>intro hc<;>(try simp only[cS]at hc)<;>(try exact aG))|refine aX ?_|refine az ?_|((refine' bk rfl rfl ?zh ?_);case zh=>intro F';exact bE rfl rfl iI)|fail)
   exact⟨kk - 1,_,by omega,⟨j+1,by omega,rfl⟩,⟨rfl,by rw[Ll];rfl,rfl,rfl,rfl,trivial⟩,rfl,by simp only[bN];exact ah⟩
 have IC:¬(j:Int)<(d.aP.length:Int):=by omega
 rw[List.take_of_length_le hj]
 generalize SV:dJ s.now d.aP=many at*
 by_cases h1:s.now<s.cd
 ·have es:s.ask k x=((s.cH k false).drop 8).arm x.name 1000:=by unfold Nd.ask;rw[if_pos h1]
  have xc:¬s.cd≤s.now:=UInt64.not_le.2 h1
  have p3:=cx w0 gn {s with last:=s.last+1} d 8 (by show s.out.dropped.length≤_;have:=hf.dropped;omega)
  have Bn:=fun vd vq=>(tw.drop 8 vd).arm (k:=k) (x:=x) hx rfl so.names Mu.2.2.2.2 Dz.1 false 1000 vq
  unfold cR bc cc at p3
  simp only[bN,ad,Nd.drop]at p3
  repeat' (first|refine ae (id:=9) (.range 15) 14 [3,7] ?_|refine cL (id:=9) 4 0 (.range 15) 14 [] ?_|refine ag (id:=23) (.range 10) ?_|refine ae (id:=29) (.range 8) 7 [3,5,6] ?_|(refine ab ?_;intro K hK)|(refine hK _ ?_;clear hK K)|refine ax ?_|(refine aF ?_ ?_<;>intro hc<;>(try simp only[cS]at hc)<;>(try exact aG))|refine aX ?_|refine az ?_|((refine' LQ ?zh rfl ?_);case zh=>intro F';exact bE rfl rfl iI)|(refine bQ ?_;intro g)|(refine' dP ?zh rfl rfl ?_;(case zh=>exact gV (⟨x.dest,x.bK,x.aU,s.now+1000,s.last+1,false⟩:Sk) rfl rfl rfl iI iI iI rfl rfl OJ);intro g5)|(refine ai (aa iI rfl p3 iI) rfl ?_;intro vd))
  exact aj (.inr rfl) rfl ⟨(),rfl,by rw[es];exact aq.rn (Bn vd d.vq) (by unfold cR bc cc;simp only[bN,cy,Nd.drop,Nd.cH,Nd.arm];exact ah)⟩
 have xc:s.cd≤s.now:=UInt64.not_lt.1 h1
 by_cases h2:5≤dJ s.now s.aP
 ·have Lj:=VU.2 h2
  have Xb:¬(many:Int)<5:=by omega
  have Xc:(5:Int)≤(many:Int):=by omega
  have es:s.ask k x=((s.cH k false).drop 9).arm x.name 1000:=by unfold Nd.ask;rw[if_neg h1,if_pos h2]
  have p3:=cx w0 gn {s with last:=s.last+1} d 9 (by show s.out.dropped.length≤_;have:=hf.dropped;omega)
  have Bn:=fun vd vq=>(tw.drop 9 vd).arm (k:=k) (x:=x) hx rfl so.names Mu.2.2.2.2 Dz.1 false 1000 vq
  unfold cR bc cc at p3
  simp only[bN,ad,Nd.drop]at p3
  repeat' (first|refine ae (id:=9) (.range 15) 14 [3,7] ?_|refine cL (id:=9) 4 0 (.range 15) 14 [] ?_|refine ag (id:=23) (.range 10) ?_|refine ae (id:=29) (.range 8) 7 [3,5,6] ?_|(refine ab ?_;intro K hK)|(refine hK _ ?_;clear hK K)|refine ax ?_|(refine aF ?_ ?_<;>intro hc<;>(try simp only[cS]at hc)<;>(try exact aG))|refine aX ?_|refine az ?_|((refine' LQ ?zh rfl ?_);case zh=>intro F';exact bE rfl rfl iI)|(refine bQ ?_;intro g)|(refine' dP ?zh rfl rfl ?_;(case zh=>exact gV (⟨x.dest,x.bK,x.aU,s.now+1000,s.last+1,false⟩:Sk) rfl rfl rfl iI iI iI rfl rfl OJ);intro g5)|(refine ai (aa iI rfl p3 iI) rfl ?_;intro vd))
  exact aj (.inr rfl) rfl ⟨(),rfl,by rw[es];exact aq.rn (Bn vd d.vq) (by unfold cR bc cc;simp only[bN,cy,Nd.drop,Nd.cH,Nd.arm];exact ah)⟩
 have Lj:¬5≤many:=fun e=>h2 (VU.1 e)
 have Xb:(many:Int)<5:=by omega
 have Xc:¬(5:Int)≤(many:Int):=by omega
 have Wc:∀t∈s.bI,t.id≤s.last:=fun t ht=>(tw.fN t ht).2.1
 have nc:=Nd.fz.note {s with seq:=bS s.seq,last:=s.last+1}
 have pY:=Nd.Fit.note (k:=2) (s:={s with seq:=bS s.seq,last:=s.last+1}) ⟨hf.aJ,hf.cj,hf.dropped,hf.aI,hf.ay⟩ ok
 have WG:Twin ⟨n,some x.name,i0⟩ {s with seq:=bS s.seq,last:=s.last+1} d:=(tw.NM (bS s.seq)).Ki (s.last+1) (fun t ht=>by have:=Wc t ht;omega)
 have p4:=Spec.nV WG (qS w0 ⟨n,some x.name,i0⟩ gn {s with seq:=bS s.seq,last:=s.last+1} ok (by show s.aI.length≤_;have:=hf.aI;omega) (by show s.out.ay.length≤_;have:=hf.ay;omega))
 have pg:=kL w0 s.seq
 have h4:(((Nd.note {s with seq:=bS s.seq,last:=s.last+1}).kE x).aT ⟨((Nd.note {s with seq:=bS s.seq,last:=s.last+1}).kE x).self,((Nd.note {s with seq:=bS s.seq,last:=s.last+1}).kE x).ids⟩)=(s.gE x).kj s.bu (s.last+1):=Nd.yS s x s.bu (s.last+1)
 have es:s.ask k x=Nd.arm (Nd.cH {(s.gE x).kj s.bu (s.last+1)with last:=s.last} k true) x.name (iL x):=by
  unfold Nd.ask
  rw[if_neg h1,if_neg h2]
  have e1:(s.cH k true).gE x=(s.gE x).kj (s.cH k true).bu s.last:=Nd.yS s x (s.cH k true).bu s.last
  rw[e1]
  rfl
 rw[←h4]at es
 unfold cR bc cc at p4
 simp only[bN,ad]at p4
 clear h4 WG
 generalize Nd.note {s with seq:=bS s.seq,last:=s.last+1}=s1 at*
 have Wv:=nc.ls
 have RP:=nc.self
 have U0:=nc.seq
 have U1:=nc.cd
 have RN:=nc.order
 have RO:=nc.seen
 have My:=nc.bu
 have RK:=nc.bI
 have Kq:=nc.last
 have Kr:=nc.names
 have RL:=nc.ids
 have Nu:=nc.aP
 have Pq:=nc.now
 simp only at Wv RP U0 U1 RN RO My RK Kq Kr RL Nu Pq
 have Tf:aW s1.ls:=by rw[Wv];exact ok
 repeat' (first|refine ae (id:=9) (.range 15) 14 [3,7] ?_|refine cL (id:=9) 4 0 (.range 15) 14 [] ?_|refine ag (id:=23) (.range 10) ?_|(refine ab ?_;intro K hK)|(refine hK _ ?_;clear hK K)|refine ax ?_|(refine aF ?_ ?_<;>intro hc<;>(try simp only[cS]at hc)<;>(try exact aG))|refine aX ?_|refine az ?_|((refine' LQ ?zh rfl ?_);case zh=>intro F';exact bE rfl rfl iI)|(refine bQ ?_;intro g)|(refine ai (aa iI rfl pg ⟨aB.symm⟩) rfl ?_;intro ug)|(refine ai (aa iI rfl p4 iI) rfl ?_;intro u4;clear p4)|(refine kA (W:=⟨n,some x.name,i0⟩) (g:=gn) (s:=s1) iI fun d2 lD=> ?_;unfold cR bc cc;simp only[bN,ad]))
 have El:d2.aP.length=s1.ids.toNat:=lD.nX
 have Rt:=lD.hP
 rw[My]at Rt
 have OK:k<d2.search.length:=by rw[Rt];exact tK
 have zq:s1.ids.toNat≤900005:=by rw[RL];omega
 have yp:=fun vt=>lD.Si (by rw[Pq];exact hn) (by omega) (by rw[Pq,Nu];exact h2) vt
 have qI:({s1 with ids:=s1.ids+1,aP:=ik (s1.aP++[s1.now])}:Nd)=s1.oJ:=rfl
 rw[qI]at yp
 have p5:=fun vt=>uf w0 gn s1.oJ {d2 with vt:=vt,aP:=d2.aP++[s1.now]} s1.oJ.out Tf x.dest
 have p6:=fun vt=>o5 w0 gn s1.oJ {d2 with vt:=vt,aP:=d2.aP++[s1.now]} 0 ⟨x.bK,1,0,(dG s1.ls x.dest).isNone,s1.oJ.ids,x.dest,eJ s1.ls x.dest,s1.self,s1.seq,0,[],[]⟩ ⟨by simp only[cM];omega,by simp[cM],by simp[cM],by simp,by simp⟩ rfl ⟨by show s1.out.aJ.length+1≤_;have:=pY.aJ;omega,by show s1.out.cj.length+1≤_;have:=pY.cj;omega,by show s1.out.dropped.length+1≤_;have:=pY.dropped;omega,by show s1.aI.length+9*1≤_;have:=pY.aI;omega,by show s1.out.ay.length+120*1≤_;have:=pY.ay;omega⟩
 have Nn:s1.oJ.send 0 ⟨x.bK,1,0,(dG s1.ls x.dest).isNone,s1.oJ.ids,x.dest,eJ s1.ls x.dest,s1.self,s1.seq,0,[],[]⟩=s1.kE x:=rfl
 have p7:=fun vt vf=>o4 w0 gn (s1.kE x) {d2 with vt:=vt,aP:=d2.aP++[s1.now],vf:=vf} ⟨s1.self,s1.ids+1⟩ (by show d2.seen.length≤1000;rw[lD.Gl,RN];omega)
 have XI:(s1.ids+1).toNat=s1.ids.toNat+1:=by rw[UInt32.toNat_add];have:(1:UInt32).toNat=1:=rfl;rw[this];omega
 have Tk:=fun vt vf vs=>((yp vt).send 0 ⟨x.bK,1,0,(dG s1.ls x.dest).isNone,s1.oJ.ids,x.dest,eJ s1.ls x.dest,s1.self,s1.seq,0,[],[]⟩ vf).aT ⟨s1.self,s1.ids+1⟩ (lD.fresh (s1.ids+1) (by omega)) (fun _=>Nat.le_refl _) vs
 rw[Nn]at Tk
 obtain⟨sn,od,Lv⟩:=(s1.kE x).oZ ⟨s1.self,s1.ids+1⟩
 have Ub:(⟨(s1.kE x).self,(s1.kE x).ids⟩:Rq)=⟨s1.self,s1.ids+1⟩:=rfl
 rw[Ub,Lv]at es
 rw[Lv]at Tk
 unfold cR bc cc at p6 p7
 simp only[bN,ad,Pk.val,Pk.cells,Nd.send,Nd.oJ,Nd.kE,cy]at p5 p6 p7
 simp only[cy,ad]
 obtain⟨wf,Qc,Wn,Wl⟩:=DN x ⟨rf.1,rf.2.1⟩
 have Bn:=fun vt vf vs vq=>((Tk vt vf vs).Ki s.last (fun t ht=>by have xq:t∈s1.bI:=ht;rw[RK]at xq;exact Wc t xq)).arm (k:=k) (x:=x) (show s1.bu[k]? =some x by rw[My];exact hx) rfl (show(s1.bu.map (·.name)).Nodup by rw[My];exact so.names) (show x.name≤s1.names by rw[Kr];exact Mu.2.2.2.2) Dz.1 true (iL x) vq
 rw[←es]at Bn
 have SC:=es
 clear es Tk yp
 cases hg:dG s1.ls x.dest with
 |none=>
  simp only[hg,eJ,Option.isSome_none,Option.isNone_none]at p5 p6 p7
  repeat' (first|refine ae (id:=13) (.range 14) 10 [4,8] ?_|refine cK (id:=13) 0 (.range 14) 13 [4,8] ?_|refine ae (id:=15) (.range 22) 21 [2,8,10,15,19] ?_|refine ae (id:=16) (.range 10) 9 [4,8] ?_|(refine ab ?_;intro K hK)|(refine hK _ ?_;clear hK K)|refine ax ?_|refine az ?_|((refine' LQ ?zh rfl ?_);case zh=>intro F';exact bE rfl rfl iI)|(refine bQ ?_;intro g)|(refine aD (au eL [s1.now] iI iI iI rfl rfl rfl rfl rfl iI rfl rfl rfl) rfl rfl rfl ?_;intro vx)|(refine aD (cn.form (d2.aP.length+1) (by simp) (aR rfl rfl iI iI rfl iI iI qX (by simp only[List.length_singleton];omega) rfl)) rfl rfl rfl ?_;intro va;replace p5:=p5 (.slice va.1 (d2.aP.length+1) va.2);replace p6:=p6 (.slice va.1 (d2.aP.length+1) va.2);replace p7:=p7 (.slice va.1 (d2.aP.length+1) va.2);replace Bn:=Bn (.slice va.1 (d2.aP.length+1) va.2))|(refine ai (aa iI rfl p5 iI) rfl ?_;intro u5;clear p5)|(refine aD (aa iI rfl p6 iI) rfl rfl rfl ?_;intro vf;clear p6;replace p7:=p7 vf;replace Bn:=Bn vf)|(refine aD (aa iI rfl p7 iI) rfl rfl rfl ?_;intro vs;clear p7;replace Bn:=Bn vs)|(refine lI (Ab rfl iI iI (by omega)) rfl ?_))
  refine aV (fun kk τ=>∃j:Nat,j+kk=x.aU.toNat∧τ=⟨[(10,.int .i64 (j:Int)),(9,u64 (wf j)),(4,ptr gp 0),(1,.int .i64 (k:Int)),(0,ptr gn 0)],[],aK gp 210 [u32 x.dest,.int .i64 x.bK,.int .i64 x.aU,u64 due,.int .i64 (s.last+1),.bool true]*(cR gn (s1.kE x) {d2 with vt:= .slice va.1 (d2.aP.length+1) va.2,aP:=d2.aP++[s1.now],vf:=vf,vs:=vs,seen:=qR s1.now d2.seen ⟨s1.self,s1.ids+1⟩}*G)⟩) ?_ ?_
  ·exact⟨x.aU.toNat,_,⟨0,by omega,rfl⟩,⟨rfl,by rw[←Qc];rfl,rfl,rfl,rfl,trivial⟩,rfl,by unfold cR bc cc;simp only[bN,cy,Nd.kE,Nd.oJ,Nd.send,hg,eJ,Option.isSome_none,Option.isNone_none];exact ah⟩
  rintro Pd τ ⟨m,XY,rfl⟩
  unfold cR bc cc
  simp only[bN,cy,ad,Nd.kE,Nd.oJ,Nd.send,hg,eJ,Option.isSome_none,Option.isNone_none]
  rcases Nat.lt_or_ge m x.aU.toNat with hm|hm
  ·have Mk:(m:Int)<x.aU:=by omega
   repeat' (first|(refine ab ?_;intro K hK)|(refine hK _ ?_;clear hK K)|refine ax ?_|(refine aF ?_ ?_<;>intro hc<;>(try simp only[cS]at hc)<;>(try exact aG))|refine aX ?_|refine az ?_|((refine' LQ ?zh rfl ?_);case zh=>intro F';exact bE rfl rfl iI)|fail)
   exact⟨Pd - 1,_,by omega,⟨m+1,by omega,rfl⟩,⟨rfl,by rw[←Wn];rfl,rfl,rfl,rfl,trivial⟩,rfl,by simp only[bN];exact ah⟩
  ·have Mk:¬(m:Int)<x.aU:=by omega
   obtain rfl:m=x.aU.toNat:=by omega
   rw[Wl]
   repeat' (first|refine ae (id:=29) (.range 8) 7 [3,5,6] ?_|(refine ab ?_;intro K hK)|(refine hK _ ?_;clear hK K)|refine ax ?_|(refine aF ?_ ?_<;>intro hc<;>(try simp only[cS]at hc)<;>(try exact aG))|refine aX ?_|refine az ?_|((refine' LQ ?zh rfl ?_);case zh=>intro F';exact bE rfl rfl iI)|(refine bQ ?_;intro g)|(refine' dP ?zh rfl rfl ?_;(case zh=>exact gV (⟨x.dest,x.bK,x.aU,s1.now+iL x,s.last+1,true⟩:Sk) rfl rfl rfl iI iI iI rfl rfl OK);intro g5)|fail)
   --tg
   exact aj (.inr rfl) rfl ⟨(),rfl,aq.rn (Bn d2.vq) (by rw[SC];unfold cR bc cc;simp only[bN,cy,Nd.arm,Nd.cH,Nd.kE,Nd.oJ,Nd.send,hg,eJ,Option.isSome_none,Option.isNone_none,Kq];exact ah)⟩
 |some l=>
  simp only[hg,eJ,Option.isSome_some,Option.isNone_some]at p5 p6 p7
  repeat' (first|refine ae (id:=13) (.range 14) 10 [4,8] ?_|refine cK (id:=13) 0 (.range 14) 13 [4,8] ?_|refine ae (id:=15) (.range 22) 21 [2,8,10,15,19] ?_|refine ae (id:=16) (.range 10) 9 [4,8] ?_|(refine ab ?_;intro K hK)|(refine hK _ ?_;clear hK K)|refine ax ?_|refine az ?_|((refine' LQ ?zh rfl ?_);case zh=>intro F';exact bE rfl rfl iI)|(refine bQ ?_;intro g)|(refine aD (au eL [s1.now] iI iI iI rfl rfl rfl rfl rfl iI rfl rfl rfl) rfl rfl rfl ?_;intro vx)|(refine aD (cn.form (d2.aP.length+1) (by simp) (aR rfl rfl iI iI rfl iI iI qX (by simp only[List.length_singleton];omega) rfl)) rfl rfl rfl ?_;intro va;replace p5:=p5 (.slice va.1 (d2.aP.length+1) va.2);replace p6:=p6 (.slice va.1 (d2.aP.length+1) va.2);replace p7:=p7 (.slice va.1 (d2.aP.length+1) va.2);replace Bn:=Bn (.slice va.1 (d2.aP.length+1) va.2))|(refine ai (aa iI rfl p5 iI) rfl ?_;intro u5;clear p5)|(refine aD (aa iI rfl p6 iI) rfl rfl rfl ?_;intro vf;clear p6;replace p7:=p7 vf;replace Bn:=Bn vf)|(refine aD (aa iI rfl p7 iI) rfl rfl rfl ?_;intro vs;clear p7;replace Bn:=Bn vs)|(refine lI (Ab rfl iI iI (by omega)) rfl ?_))
  refine aV (fun kk τ=>∃j:Nat,j+kk=x.aU.toNat∧τ=⟨[(10,.int .i64 (j:Int)),(9,u64 (wf j)),(4,ptr gp 0),(1,.int .i64 (k:Int)),(0,ptr gn 0)],[],aK gp 210 [u32 x.dest,.int .i64 x.bK,.int .i64 x.aU,u64 due,.int .i64 (s.last+1),.bool true]*(cR gn (s1.kE x) {d2 with vt:= .slice va.1 (d2.aP.length+1) va.2,aP:=d2.aP++[s1.now],vf:=vf,vs:=vs,seen:=qR s1.now d2.seen ⟨s1.self,s1.ids+1⟩}*G)⟩) ?_ ?_
  ·exact⟨x.aU.toNat,_,⟨0,by omega,rfl⟩,⟨rfl,by rw[←Qc];rfl,rfl,rfl,rfl,trivial⟩,rfl,by unfold cR bc cc;simp only[bN,cy,Nd.kE,Nd.oJ,Nd.send,hg,eJ,Option.isSome_some,Option.isNone_some];exact ah⟩
  rintro Pd τ ⟨m,XY,rfl⟩
  unfold cR bc cc
  simp only[bN,cy,ad,Nd.kE,Nd.oJ,Nd.send,hg,eJ,Option.isSome_some,Option.isNone_some]
  rcases Nat.lt_or_ge m x.aU.toNat with hm|hm
  ·have Mk:(m:Int)<x.aU:=by omega
   repeat' (first|(refine ab ?_;intro K hK)|(refine hK _ ?_;clear hK K)|refine ax ?_|(refine aF ?_ ?_<;>intro hc<;>(try simp only[cS]at hc)<;>(try exact aG))|refine aX ?_|refine az ?_|((refine' LQ ?zh rfl ?_);case zh=>intro F';exact bE rfl rfl iI)|fail)
   exact⟨Pd - 1,_,by omega,⟨m+1,by omega,rfl⟩,⟨rfl,by rw[←Wn];rfl,rfl,rfl,rfl,trivial⟩,rfl,by simp only[bN];exact ah⟩
  ·have Mk:¬(m:Int)<x.aU:=by omega
   obtain rfl:m=x.aU.toNat:=by omega
   rw[Wl]
   repeat' (first|refine ae (id:=29) (.range 8) 7 [3,5,6] ?_|(refine ab ?_;intro K hK)|(refine hK _ ?_;clear hK K)|refine ax ?_|(refine aF ?_ ?_<;>intro hc<;>(try simp only[cS]at hc)<;>(try exact aG))|refine aX ?_|refine az ?_|((refine' LQ ?zh rfl ?_);case zh=>intro F';exact bE rfl rfl iI)|(refine bQ ?_;intro g)|(refine' dP ?zh rfl rfl ?_;(case zh=>exact gV (⟨x.dest,x.bK,x.aU,s1.now+iL x,s.last+1,true⟩:Sk) rfl rfl rfl iI iI iI rfl rfl OK);intro g5)|fail)
   exact aj (.inr rfl) rfl ⟨(),rfl,aq.rn (Bn d2.vq) (by rw[SC];unfold cR bc cc;simp only[bN,cy,Nd.arm,Nd.cH,Nd.kE,Nd.oJ,Nd.send,hg,eJ,Option.isSome_some,Option.isNone_some,Kq];exact ah)⟩
end
section
open Go.RowKit
theorem aq.Q0 {α:Type} {p:α→af} {K:af} (h:∀x,aq (p x) K):aq (hex p) K:=fun a ⟨x,hx⟩=>h x a hx
theorem aq.Nz {φ:Prop} {F K:af} (h:φ→aq F K):aq (pure' φ*F) K:=fun a ha=>h (ki.1 ha).1 a (ki.1 ha).2
theorem aq.xN {n i0 gn:Nat} {nm:Int} {t:Nd} (h:∀x∈t.bu,x.name≠nm):aq (qe ⟨n,some nm,i0⟩ gn t) (qe ⟨n,none,i0⟩ gn t):=by
 unfold qe
 refine aq.Q0 fun d=> ?_
 refine aq.Nz fun tw=> ?_
 have:=aq.rn (W:=⟨n,none,i0⟩) (g:=gn) (F:=emp) (tw.xN h) (aq.refl _)
 rw[bl,bl]at this
 exact this
theorem B3 {l:List Sr} {k:Nat} {x:Sr} (hx:l[k]? =some x) (hn:(l.map (·.name)).Nodup):∀y∈l.eraseIdx k,y.name≠x.name:=by
 intro y hy
 obtain⟨j,hj⟩:=List.getElem?_of_mem hy
 rw[getElem?_eraseIdx']at hj
 have h1:=List.pairwise_iff_getElem.1 (List.nodup_iff_pairwise_ne.1 hn)
 obtain⟨a1,a2⟩:=List.getElem?_eq_some_iff.1 hx
 by_cases ym:j<k
 ·rw[if_pos ym]at hj
  obtain⟨b1,b2⟩:=List.getElem?_eq_some_iff.1 hj
  have:=h1 j k (by simpa using b1) (by simpa using a1) ym
  simpa [a2,b2]using this
 ·rw[if_neg ym]at hj
  obtain⟨b1,b2⟩:=List.getElem?_eq_some_iff.1 hj
  have:=h1 k (j+1) (by simpa using a1) (by simpa using b1) (by omega)
  simp[a2,b2]at this
  exact fun e=>this e.symm
theorem zR {α:Type} {l:List α} {k:Nat} {a:α} (h:l[k]? =some a):l.set k a=l:=by
 apply List.ext_getElem?
 intro j
 rw[List.getElem?_set]
 by_cases e:k=j
 ·subst e
  obtain⟨h1,h2⟩:=List.getElem?_eq_some_iff.1 h
  rw[if_pos rfl,if_pos h1,h]
 ·rw[if_neg e]
theorem l6.find {s:Nd} (h:l6 s) {k:Nat} {x:Sr} (hx:s.bu[k]? =some x):eS s.bu x.dest=some k:=by rw[pa];exact h.dest hx
theorem B9 {x y:Sr} (rf:0≤x.bK∧x.bK≤8∧0≤x.aU∧x.aU≤2) (h:x.iN=some y):y.dest=x.dest∧y.name=x.name∧y.out=x.out∧0≤y.bK∧y.bK≤8∧0≤y.aU∧y.aU≤2:=by
 unfold Sr.iN at h
 split at h
 ·cases h;simp only;exact⟨trivial,trivial,trivial,by omega,by omega,by omega,by omega⟩
 ·split at h
  ·cases h;simp only;exact⟨trivial,trivial,trivial,by omega,by omega,by omega,by omega⟩
  ·split at h
   ·cases h;simp only;exact⟨trivial,trivial,trivial,by omega,by omega,by omega,by omega⟩
   ·cases h
attribute [local irreducible] WS LS cD eM cn cv Spec bA aK di cq
variable (w0:World)
theorem H0 (n i0 gn:Nat) (s:Nd) (k:Nat) (x:Sr) (hx:s.bu[k]? =some x) (rf:0≤x.bK∧x.bK≤8∧0≤x.aU∧x.aU≤2) (so:l6 s) (ok:aW s.ls) (Lr:s.order.length≤16) (Dz:0≤s.last∧s.last≤1000000000000) (hn:s.now.toNat≤4611686018427387904) (uY:i0≤900000) (hW:n≤100000) (F7:s.bu.length≤100000) (ht:∀t∈s.texts x.dest,t.length≤100) (hf:s.Fit ((s.texts x.dest).length+3)):Spec Tryz.prog w0 103 [ptr gn 0,.int .i64 (k:Int)] (qe ⟨n,some x.name,i0⟩ gn s) (fun _:Unit=> .tuple #[]) (fun _=>qe ⟨n,none,i0⟩ gn (s.again k x)):=by
 refine Spec.enter Tryz.func103 rfl Tryz.ntmps103 rfl fun G=> ?_
 simp only[aN]
 refine rz (W:=⟨n,some x.name,i0⟩) (g:=gn) (s:=s) iI fun d tw=> ?_
 have tK:k<s.bu.length:=(List.getElem?_eq_some_iff.1 hx).1
 have Cl:=tw.hP
 obtain⟨y,hy⟩:∃y,d.search[k]? =some y:=⟨_,List.getElem?_eq_getElem (by rw[Cl];exact tK)⟩
 obtain⟨due,set,US,_⟩:=tw.search k x y hx hy
 have OJ:k<d.search.length:=by rw[Cl];exact tK
 have p1:=nU w0 d.tb s.self s.ls ok x.dest s.now
 have Ce:=B3 hx so.names
 subst US
 cases Hi:bR s.ls x.dest s.now with
 |some r=>
  have es:s.again k x=s.flush x.dest:=by unfold Nd.again;rw[Hi]
  have WX:(s.flush x.dest).bu=s.bu.eraseIdx k:=by
   rw[Nd.w8,so.find hx]
   show(s.bg x.dest (s.texts x.dest)).bu.eraseIdx k=_
   rw[(Nd.jH s x.dest (s.texts x.dest)).1]
  have p2:=Spec.nV tw ((uI w0 ⟨n,some x.name,i0⟩ gn s x.dest ok hW F7 ht (hf.le (by omega))).ob (aq.refl _) fun u=>⟨u,rfl,aq.xN (by rw[WX];exact Ce)⟩)
  simp only[Hi,eY,bM,Option.isSome_some]at p1
  unfold cR bc cc at*
  simp only[bN,ad]at p2 ⊢
  repeat' (first|refine aE (id:=1) 0 4 (.range 17) ?_|refine ae (id:=1) (.range 17) 10 [3,5,9] ?_|(refine ab ?_;intro K hK)|(refine hK _ ?_;clear hK K)|refine ax ?_|(refine aF ?_ ?_<;>intro hc<;>(try simp only[cS]at hc)<;>(try exact aG))|(refine aL iI rfl ?_;intro g)|refine az ?_|(refine bT ?_;intro g)|(refine bQ ?_;intro g)|((first|refine' bL ?zh ?_|refine' dP ?zh rfl rfl ?_);(case zh=>exact bo rfl rfl iI iI (by first|rfl|(simp only[List.all_cons,List.all_nil, *];rfl)) rfl);intro g)|(refine aD (aa iI rfl p1 iI) rfl rfl rfl ?_;intro x1)|(refine ai (aa iI rfl p2 iI) rfl ?_;intro x2))
  exact aj (.inl rfl) rfl ⟨(),rfl,by rw[es];exact ah⟩
 |none=>
  simp only[Hi,eY,bM,Option.isSome_none]at p1
  cases Ht:x.out with
  |false=>
   have es:s.again k x=s.ask k x:=by unfold Nd.again;rw[Hi];simp only;rw[if_neg (by rw[Ht];exact Bool.false_ne_true)]
   have p2:=Spec.nV tw (pN w0 n i0 gn s k x hx rf so ok Lr Dz hn uY F7 (hf.le (by omega)))
   have UP:(Sk.of x due set).out=false:=Ht
   unfold cR bc cc at*
   simp only[bN,ad]at p2 ⊢
   repeat' (first|refine aE (id:=1) 0 4 (.range 17) ?_|refine ae (id:=1) (.range 17) 10 [3,5,9] ?_|(refine ab ?_;intro K hK)|(refine hK _ ?_;clear hK K)|refine ax ?_|(refine aF ?_ ?_<;>intro hc<;>(try simp only[cS]at hc)<;>(try exact aG))|(refine aL iI rfl ?_;intro g)|refine az ?_|(refine bT ?_;intro g)|(refine bQ ?_;intro g)|((first|refine' bL ?zh ?_|refine' dP ?zh rfl rfl ?_);(case zh=>exact bo rfl rfl iI iI (by first|rfl|(simp only[List.all_cons,List.all_nil, *];rfl)) rfl);intro g)|(refine aD (aa iI rfl p1 iI) rfl rfl rfl ?_;intro x1)|(refine ai (aa iI rfl p2 iI) rfl ?_;intro x2))
   exact aj (.inr rfl) rfl ⟨(),rfl,by rw[es];exact ah⟩
  |true=>
   have UP:(Sk.of x due set).out=true:=Ht
   cases qC:x.iN with
   |some y=>
    have yy:=B9 rf qC
    have es:s.again k x=Nd.ask {s with bu:=s.bu.set k y} k y:=by unfold Nd.again;rw[Hi];simp only;rw[if_pos Ht,qC]
    have sY:(s.bu.set k y).map (·.name)=s.bu.map (·.name):=by
     rw[List.map_set,yy.2.1]
     exact zR (by rw[List.getElem?_map,hx];rfl)
    have QX:(s.bu.set k y).map (·.dest)=s.bu.map (·.dest):=by
     rw[List.map_set,yy.1]
     exact zR (by rw[List.getElem?_map,hx];rfl)
    have YM:l6 {s with bu:=s.bu.set k y}:=⟨by show((s.bu.set k y).map _).Nodup;rw[QX];exact so.aO,by show((s.bu.set k y).map _).Nodup;rw[sY];exact so.names,fun z hz=>by
     rcases List.mem_or_eq_of_mem_set hz with hz|rfl
     ·exact so.each z hz
     ·rw[yy.2.1]
      exact⟨yy.2.2.2.1,yy.2.2.2.2.1,yy.2.2.2.2.2.1,yy.2.2.2.2.2.2,(so.each x (List.mem_of_getElem? hx)).2.2.2.2⟩⟩
    have p2:=fun vq=>Spec.nV (tw.Mc hx hy rfl yy.2.1 vq) (by rw[←yy.2.1];exact pN w0 n i0 gn {s with bu:=s.bu.set k y} k y (show(s.bu.set k y)[k]? =some y by rw[List.getElem?_set];simp[tK]) yy.2.2.2 YM ok Lr Dz hn uY (by show(s.bu.set k y).length≤_;rw[List.length_set];exact F7) ⟨by show s.out.aJ.length+3≤_;have:=hf.aJ;omega,by show s.out.cj.length+3≤_;have:=hf.cj;omega,by show s.out.dropped.length+3≤_;have:=hf.dropped;omega,by show s.aI.length+9*3≤_;have:=hf.aI;omega,by show s.out.ay.length+120*3≤_;have:=hf.ay;omega⟩)
    replace p2:=p2 d.vq
    have JR:(x.bK<5∧y={x with bK:=x.bK+2})∨(¬x.bK<5∧x.bK<8∧y={x with bK:=8})∨(¬x.bK<5∧¬x.bK<8∧x.aU<2∧y={x with aU:=x.aU+1}):=by
     unfold Sr.iN at qC
     split at qC
     ·cases qC;exact .inl ⟨by assumption,rfl⟩
     ·split at qC
      ·cases qC;exact .inr (.inl ⟨by assumption,by assumption,rfl⟩)
      ·split at qC
       ·cases qC;exact .inr (.inr ⟨by assumption,by assumption,by assumption,rfl⟩)
       ·cases qC
    have OK:k<(d.search.set k (Sk.of y due set)).length:=by rw[List.length_set];exact OJ
    unfold cR bc cc at*
    simp only[bN,ad,cy]at p2 ⊢
    have e1:(Sk.of x due set).bK=x.bK:=rfl
    have e2:(Sk.of x due set).aU=x.aU:=rfl
    have e3:(Sk.of x due set).dest=x.dest:=rfl
    rcases JR with ⟨c1,rfl⟩|⟨c1,c2,rfl⟩|⟨c1,c2,c3,rfl⟩
    ·repeat' (first|refine aE (id:=1) 0 4 (.range 17) ?_|refine ae (id:=1) (.range 17) 10 [3,5,9] ?_|refine ae (id:=15) (.range 11) 10 [3,6,8,9] ?_|(refine ab ?_;intro K hK)|(refine hK _ ?_;clear hK K)|refine ax ?_|(refine aF ?_ ?_<;>intro hc<;>(try simp only[cS]at hc)<;>(try exact aG))|(refine aL iI rfl ?_;intro g)|refine aX ?_|refine az ?_|(refine bT ?_;intro g)|(refine bQ ?_;intro g)|((first|refine' bL ?zh ?_|refine' dP ?zh rfl rfl ?_);(case zh=>exact bo rfl rfl iI iI (by first|rfl|(simp only[List.all_cons,List.all_nil, *];rfl)) rfl);intro g)|(refine aD (aa iI rfl p1 iI) rfl rfl rfl ?_;intro x1)|(refine ai (aa iI rfl p2 iI) rfl ?_;intro x2)|(refine' dP ?zh rfl rfl ?_;(case zh=>exact dB (z:=Sk.of x due set) (Sk.of {x with bK:=x.bK+2} (Sk.of x due set).due (Sk.of x due set).set) rfl rfl iI iI iI rfl hy rfl);intro g5)|fail)
     exact aj (.inr rfl) rfl ⟨(),rfl,by rw[es];exact ah⟩
    ·repeat' (first|refine aE (id:=1) 0 4 (.range 17) ?_|refine ae (id:=1) (.range 17) 10 [3,5,9] ?_|(refine ab ?_;intro K hK)|(refine hK _ ?_;clear hK K)|refine ax ?_|(refine aF ?_ ?_<;>intro hc<;>(try simp only[cS]at hc)<;>(try exact aG))|(refine aL iI rfl ?_;intro g)|refine aX ?_|refine az ?_|(refine bT ?_;intro g)|(refine bQ ?_;intro g)|((first|refine' bL ?zh ?_|refine' dP ?zh rfl rfl ?_);(case zh=>exact bo rfl rfl iI iI (by first|rfl|(simp only[List.all_cons,List.all_nil, *];rfl)) rfl);intro g)|(refine aD (aa iI rfl p1 iI) rfl rfl rfl ?_;intro x1)|(refine ai (aa iI rfl p2 iI) rfl ?_;intro x2)|(refine bL (dB (z:=Sk.of x due set) (Sk.of {x with bK:=8} (Sk.of x due set).due (Sk.of x due set).set) rfl rfl iI iI iI rfl hy rfl) ?_;intro g6))
     exact aj (.inr rfl) rfl ⟨(),rfl,by rw[es];exact ah⟩
    ·repeat' (first|refine aE (id:=1) 0 4 (.range 17) ?_|refine ae (id:=1) (.range 17) 10 [3,5,9] ?_|(refine ab ?_;intro K hK)|(refine hK _ ?_;clear hK K)|refine ax ?_|(refine aF ?_ ?_<;>intro hc<;>(try simp only[cS]at hc)<;>(try exact aG))|(refine aL iI rfl ?_;intro g)|refine aX ?_|refine az ?_|(refine bT ?_;intro g)|(refine bQ ?_;intro g)|((first|refine' bL ?zh ?_|refine' dP ?zh rfl rfl ?_);(case zh=>exact bo rfl rfl iI iI (by first|rfl|(simp only[List.all_cons,List.all_nil, *];rfl)) rfl);intro g)|(refine aD (aa iI rfl p1 iI) rfl rfl rfl ?_;intro x1)|(refine ai (aa iI rfl p2 iI) rfl ?_;intro x2)|(refine bL (dB (z:=Sk.of x due set) (Sk.of {x with aU:=x.aU+1} (Sk.of x due set).due (Sk.of x due set).set) rfl rfl iI iI iI rfl hy rfl) ?_;intro g6))
     exact aj (.inr rfl) rfl ⟨(),rfl,by rw[es];exact ah⟩
   |none=>
    have es:s.again k x=((s.dy (s.texts x.dest).length 5).cX x.dest).stop k:=by unfold Nd.again;rw[Hi];simp only;rw[if_pos Ht,qC]
    have zt:¬x.bK<5∧¬x.bK<8∧¬x.aU<2:=by
     unfold Sr.iN at qC
     split at qC
     ·cases qC
     ·split at qC
      ·cases qC
      ·split at qC
       ·cases qC
       ·exact⟨by assumption,by assumption,by assumption⟩
    obtain⟨c1,c2,c3⟩:=zt
    have Nj:=tw.Kp x.dest
    have Wm:d.wait.length≤n:=tw.mL
    have sX:=hf.dropped
    rw[Nj]at es sX
    have e1:(Sk.of x due set).bK=x.bK:=rfl
    have e2:(Sk.of x due set).aU=x.aU:=rfl
    have e3:(Sk.of x due set).dest=x.dest:=rfl
    unfold cR bc cc at*
    simp only[bN,ad]at ⊢
    repeat' (first|refine aE (id:=1) 0 4 (.range 17) ?_|refine ae (id:=1) (.range 17) 10 [3,5,9] ?_|(refine ab ?_;intro K hK)|(refine hK _ ?_;clear hK K)|refine ax ?_|(refine aF ?_ ?_<;>intro hc<;>(try simp only[cS]at hc)<;>(try exact aG))|(refine aL iI rfl ?_;intro g)|refine aX ?_|refine az ?_|(refine bT ?_;intro g)|(refine bQ ?_;intro g)|((first|refine' bL ?zh ?_|refine' dP ?zh rfl rfl ?_);(case zh=>exact bo rfl rfl iI iI (by first|rfl|(simp only[List.all_cons,List.all_nil, *];rfl)) rfl);intro g)|(refine aD (aa iI rfl p1 iI) rfl rfl rfl ?_;intro x1))
    rename_i gp gs gr g1 g2
    refine cV (aq.nil _ 243 2 dA none) ?_
    refine aV (fun kk τ=>∃(i:Nat) (vl vd:Value),i+kk=d.wait.length∧τ=⟨[(8,.int .i64 (i:Int)),(7,vl),(4,ptr gp 0),(1,.int .i64 (k:Int)),(0,ptr gn 0)],[],cR gn (s.dy (cz x.dest (d.wait.take i)).length 5) {d with vd:=vd}*(rows 243 2 dA vl (kU x.dest (d.wait.take i))*(aK gp 210 (uM (Sk.of x due set))*G))⟩) ?_ ?_
    ·exact⟨d.wait.length,_,⟨0,.slice none 0 0,d.vd,by omega,rfl⟩,cG,rfl,by unfold cR bc cc;simp only[bN,cy,Nd.dy,List.take_zero,cz,kU,List.filter_nil,List.map_nil,List.length_nil,List.replicate_zero,List.append_nil,uM];exact ah⟩
    rintro kk τ ⟨i,vl,vd,qE,rfl⟩
    have S1:=ud x.dest d.wait i
    obtain⟨Vh,Mp⟩:=zC x.dest d.wait i
    have X8:(cz x.dest d.wait).length=(cz x.dest (d.wait.take i)).length+Vh.length:=by rw[←List.length_append,←Mp]
    rcases Nat.lt_or_ge i d.wait.length with h|h
    ·have h1:(i:Int)<(d.wait.length:Int):=by omega
     obtain⟨z,hz⟩:∃z,d.wait[i]? =some z:=⟨_,List.getElem?_eq_getElem h⟩
     have Ci:=qM (d:=x.dest) hz
     have F6:=xU (d:=x.dest) hz
     by_cases h2:z.1=x.dest
     ·rw[if_pos h2]at Ci F6
      rw[List.append_nil]at F6
      have Rg:(cz x.dest (d.wait.take (i+1))).length=(cz x.dest (d.wait.take i)).length+1:=by rw[Ci,List.length_append,List.length_singleton]
      generalize (cz x.dest (d.wait.take i)).length=q at*
      have p3:=cx w0 gn (s.dy q 5) {d with vd:=vd} 5 (by show(s.out.dropped++List.replicate q 5).length≤_;rw[List.length_append,List.length_replicate];omega)
      rw[←Nd.wY]at p3
      unfold cR bc cc at*
      simp only[bN,cy,ad,Nd.dy,uM]at p3 ⊢
      repeat' (first|refine ag (id:=9) (.range 11) ?_|(refine ab ?_;intro K hK)|(refine hK _ ?_;clear hK K)|refine ax ?_|(refine aF ?_ ?_<;>intro hc<;>(try simp only[cS]at hc)<;>(try exact aG))|refine aX ?_|refine az ?_|(refine ai (aa iI rfl p3 iI) rfl ?_;intro v9))
      exact⟨kk - 1,_,by omega,⟨i+1,vl,v9,by omega,rfl⟩,cG,rfl,by rw[Rg,F6];simp only[bN];exact ah⟩
     ·rw[if_neg h2]at Ci F6
      rw[List.append_nil]at Ci
      unfold cR bc cc
      simp only[bN,cy,ad,Nd.dy,uM]
      repeat' (first|refine ag (id:=9) (.range 11) ?_|(refine ab ?_;intro K hK)|(refine hK _ ?_;clear hK K)|refine ax ?_|(refine aF ?_ ?_<;>intro hc<;>(try simp only[cS]at hc)<;>(try exact aG))|refine aX ?_|refine az ?_|(refine ai (au dA [z] iI iI iI rfl rfl rfl rfl rfl iI rfl rfl rfl) rfl ?_;intro vx)|(refine ai (aR rfl rfl iI iI rfl iI iI gU (by simp only[List.length_singleton];omega) rfl) rfl ?_;intro va))
      exact⟨kk - 1,_,by omega,⟨i+1,va,vd,by omega,rfl⟩,cG,rfl,by rw[Ci,F6];simp only[bN];exact ah⟩
    have h1:¬(i:Int)<(d.wait.length:Int):=by omega
    rw[List.take_of_length_le h]
    have uO:Twin ⟨n,some x.name,i0⟩ (s.dy (cz x.dest d.wait).length 5) {d with vd:=vd}:=tw.to (Nd.Alike.MC s _) rfl rfl rfl rfl rfl
    have lD:=fun vw vq=>(((uO.cX x.dest vw).stop k tK vq).xN (show ∀y∈s.bu.eraseIdx k,y.name≠x.name from Ce))
    have p3:=uH w0 gn (s.dy (cz x.dest d.wait).length 5) {d with vd:=vd,vw:=vl,wait:=kU x.dest d.wait} (s.dy (cz x.dest d.wait).length 5).out d.search (by omega) k (by omega)
    unfold cR bc cc
    simp only[bN,cy,ad,Nd.dy,uM]at p3 ⊢
    repeat' (first|(refine ab ?_;intro K hK)|(refine hK _ ?_;clear hK K)|refine ax ?_|(refine aF ?_ ?_<;>intro hc<;>(try simp only[cS]at hc)<;>(try exact aG))|refine aX ?_|refine az ?_|(refine bQ ?_;intro g)|(refine ai (aa iI rfl p3 iI) rfl ?_;intro x3))
    exact aj (.inl rfl) rfl ⟨(),rfl,by rw[es];exact aq.rn (lD vl x3) (by unfold cR bc cc;simp only[bN,cy,Nd.cX,Nd.stop,Nd.dy];exact ah)⟩
end
end Go.Proofs.YtapoehkdnglahabGreat
