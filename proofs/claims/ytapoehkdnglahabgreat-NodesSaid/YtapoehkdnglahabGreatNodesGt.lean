/- A part of what Nodes needs. -/
import Derived.Test.YtapoehkdnglahabGreatNodesGs
set_option maxHeartbeats 32000000
set_option maxRecDepth 100000
set_option linter.unusedVariables false
set_option linter.unusedSimpArgs false
set_option linter.unusedSectionVars false
namespace Go.Proofs.YtapoehkdnglahabGreat
section
open Go.RowKit
theorem Twin.Gl {W:TW} {s:Nd} {d:RD} (h:Twin W s d):d.seen.length=s.order.length:=by rw[h.seen];simp
theorem Twin.lines {W:TW} {s:Nd} {d:RD} (h:Twin W s d) {ls:List Ln} (hd:∀x∈aO s.ls,x∈aO ls):Twin W {s with ls:=ls} d:=h.to (Nd.Alike.Yy hd) rfl rfl rfl rfl rfl
theorem Twin.NM {W:TW} {s:Nd} {d:RD} (h:Twin W s d) (q:UInt32):Twin W {s with seq:=q} d:=h.to ⟨rfl,rfl,fun l hl=>⟨l,hl,rfl⟩,rfl,rfl,rfl,rfl,rfl,rfl,rfl,rfl,rfl,rfl⟩ rfl rfl rfl rfl rfl
attribute [local irreducible] WS LS cD eM cn cv Spec bA aK di cq
variable (w0:World)
theorem yK (W:TW) (gn:Nat) (s:Nd) (src:UInt32) (p:Pk) (hp:p.Read) (RB:p.unknown=true→p.ak=0) (v:Value) (ok:aW s.ls) (ho:s.order.length≤16) (hf:s.Fit 1):Spec Tryz.prog w0 132 [ptr gn 0,u32 src,p.val v] (qe W gn s*rows 180 2 bB v p.lost) (fun _:Unit=> .tuple #[]) (fun _=>qe W gn (s.qd src p)):=by
 refine Spec.enter Tryz.func132 rfl Tryz.ntmps132 rfl fun G=> ?_
 refine jl v iI fun A c hv=> ?_
 subst hv
 obtain⟨Mm,ma,OT,OU,OV⟩:=hp
 obtain⟨bK,kind,aH,unknown,id,dest,ak,from_,av,bD,lost,ar⟩:=p
 simp only[Pk.val,Pk.cells,aN]at*
 refine rz (W:=W) (g:=gn) (s:=s) iI fun d tw=> ?_
 have Lw:=tw.Gl
 have J0:=tw.RI from_ id
 have p0:=uh w0 gn s d from_ id (by omega)
 rw[J0]at p0
 have p1:=cx w0 gn s d 1 (by have:=hf.dropped;omega)
 unfold cR at*
 simp only[bN,ad]at p0 p1 ⊢
 by_cases h1:from_=s.self
 ·have es:s.qd src ⟨bK,kind,aH,unknown,id,dest,ak,from_,av,bD,lost,ar⟩=s.drop 1:=by unfold Nd.qd;rw[if_pos (.inl h1)]
  repeat' (first|refine ag (id:=2) (.range 10) ?_|(refine ab ?_;intro K hK)|(refine hK _ ?_;clear hK K)|refine ax ?_|(refine aF ?_ ?_<;>intro hc<;>(try simp only[cS]at hc)<;>(try exact aG))|refine aX ?_|refine az ?_|(refine bT ?_;intro g)|(refine ai (aa iI rfl p0 iI) rfl ?_;intro x0;clear p0)|(refine ai (aa iI rfl p1 iI) rfl ?_;intro x1))
  exact aj (.inl rfl) rfl ⟨(),rfl,by rw[es];exact aq.rn (tw.drop 1 x1) (by unfold cR;simp only[bN];exact ah)⟩
 by_cases h2:s.now<seenAt s.seen ⟨from_,id⟩
 ·have es:s.qd src ⟨bK,kind,aH,unknown,id,dest,ak,from_,av,bD,lost,ar⟩=s.drop 1:=by unfold Nd.qd;rw[if_pos (.inr h2)]
  rw[decide_eq_true h2]at p0
  repeat' (first|refine ag (id:=2) (.range 10) ?_|(refine ab ?_;intro K hK)|(refine hK _ ?_;clear hK K)|refine ax ?_|(refine aF ?_ ?_<;>intro hc<;>(try simp only[cS]at hc)<;>(try exact aG))|refine aX ?_|refine az ?_|(refine bT ?_;intro g)|(refine ai (aa iI rfl p0 iI) rfl ?_;intro x0;clear p0)|(refine ai (aa iI rfl p1 iI) rfl ?_;intro x1))
  exact aj (.inl rfl) rfl ⟨(),rfl,by rw[es];exact aq.rn (tw.drop 1 x1) (by unfold cR;simp only[bN];exact ah)⟩
 clear p1
 rw[decide_eq_false h2]at p0
 have uO:=fun vs=>tw.aT ⟨from_,id⟩ h2 (fun e=>absurd e h1) vs
 obtain⟨sn,od,Lv⟩:=s.oZ ⟨from_,id⟩
 have p2:=o4 w0 gn s d ⟨from_,id⟩ (by omega)
 have p3:=uJ w0 (aH+1) 255
 have p4:=NL w0 d.tb s.self s.ls ok from_ av (min (aH+1) 255) src (s.now+3000)
 have vj:=ok.La s.self (Ln.bj from_ av (min (aH+1) 255) src (s.now+3000)) (by simp only[Ln.bj];omega)
 have IA:=pT s.self s.ls (Ln.bj from_ av (min (aH+1) 255) src (s.now+3000))
 have Lm:=pz s.self s.ls (Ln.bj from_ av (min (aH+1) 255) src (s.now+3000))
 have es:s.qd src ⟨bK,kind,aH,unknown,id,dest,ak,from_,av,bD,lost,ar⟩=if(dI s.self s.ls (Ln.bj from_ av (min (aH+1) 255) src (s.now+3000))).1=4 then Nd.drop {s.aT ⟨from_,id⟩with ls:=(dI s.self s.ls (Ln.bj from_ av (min (aH+1) 255) src (s.now+3000))).2} 2 else Nd.jy {s.aT ⟨from_,id⟩with ls:=if(dI s.self s.ls (Ln.bj from_ av (min (aH+1) 255) src (s.now+3000))).1=3 then iY (dI s.self s.ls (Ln.bj from_ av (min (aH+1) 255) src (s.now+3000))).2 from_ (s.now+3000)else(dI s.self s.ls (Ln.bj from_ av (min (aH+1) 255) src (s.now+3000))).2} ⟨bK,kind,aH,unknown,id,dest,ak,from_,av,bD,lost,ar⟩:=by
  unfold Nd.qd
  simp only
  rw[if_neg (by rintro(e|e);exact h1 e;exact h2 e),Lv]
  rfl
 generalize hu:dI s.self s.ls (Ln.bj from_ av (min (aH+1) 255) src (s.now+3000))=u at p4 IA vj es Lm
 obtain⟨e,gj⟩:=u
 simp only at p4 IA vj es Lm
 have p6:=Df w0 d.tb s.self gj vj from_ (s.now+3000)
 clear hu
 unfold cR at p2
 simp only[bN]at p2
 have Rn:∀vs,bc {d with vs:=vs,seen:=qR s.now d.seen ⟨from_,id⟩}=bc {d with vs:=vs,seen:=qR s.now d.seen ⟨from_,id⟩}:=fun _=>rfl
 by_cases Hg:e=4
 ·rw[if_pos Hg]at es
  subst Hg
  have p5:=fun vs=>cx w0 gn {s with ls:=gj} {d with vs:=vs,seen:=qR s.now d.seen ⟨from_,id⟩} 2 (by have:=hf.dropped;show s.out.dropped.length≤_;omega)
  unfold cR at p5
  simp only[bN]at p5
  repeat' (first|refine ag (id:=2) (.range 10) ?_|refine ae (id:=6) (.range 17) 15 [3,5,7,13] ?_|(refine ab ?_;intro K hK)|(refine hK _ ?_;clear hK K)|refine ax ?_|(refine aF ?_ ?_<;>intro hc<;>(try simp only[cS]at hc)<;>(try exact aG))|refine aX ?_|refine az ?_|((first|refine' LQ ?zh rfl ?_|refine' bk rfl rfl ?zh ?_);case zh=>intro F';exact bE rfl rfl iI)|(refine bT ?_;intro g)|(refine ai (aa iI rfl p0 iI) rfl ?_;intro x0;clear p0)|(refine ai (aa iI rfl p2 iI) rfl ?_;intro vs;clear p2;replace p5:=p5 vs)|(refine ai (aa iI rfl p3 ⟨aB.symm⟩) rfl ?_;intro x3)|(refine aD (aa iI rfl p4 iI) rfl rfl rfl ?_;intro x4)|(refine ai (aa iI rfl p5 iI) rfl ?_;intro x5))
  refine aj (.inl rfl) rfl ⟨(),rfl,?_⟩
  rw[es,Lv]
  have lD:=((uO vs).lines (ls:=gj) (by rw[Lv];exact Lm)).drop 2 x5
  rw[Lv]at lD
  exact aq.rn lD (by unfold cR;simp only[bN,Nd.drop];exact ah)
 rw[if_neg Hg]at es
 obtain⟨Km,qG⟩:∃Km,Km=if e=3 then iY gj from_ (s.now+3000)else gj:=⟨_,rfl⟩
 have Px:aW Km:=by rw[qG];split;exact vj.use _ _;exact vj
 have rU:∀x∈aO s.ls,x∈aO Km:=fun x hx=>by
  rw[qG]
  split
  ·rw[gY];exact Lm x hx
  ·exact Lm x hx
 obtain⟨s2,fP⟩:∃s2:Nd,s2={s.aT ⟨from_,id⟩with ls:=Km}:=⟨_,rfl⟩
 have oX:aW s2.ls:=by rw[fP];exact Px
 have mF:s2.Fit 1:=by rw[fP,Lv];exact⟨hf.aJ,hf.cj,hf.dropped,hf.aI,hf.ay⟩
 rw[←qG,←fP]at es
 rw[es]
 have OZ:s2={s with seen:=sn,order:=od,ls:=Km}:=by rw[fP,Lv]
 have lD:∀vs,Twin W s2 {d with vs:=vs,seen:=qR s.now d.seen ⟨from_,id⟩}:=fun vs=>by
  rw[fP]
  exact(uO vs).lines (by rw[Lv];exact rU)
 clear es fP
 repeat' (first|(show WS _ _ _ (.seq (.seq (.region 9 _ _) _) _) _ _;refine ab ?_;intro K hK;refine nC hK (fun τ=>∃gp d2,Twin W s2 d2∧τ=⟨[(7,.int .i64 (min (aH+1) 255)),(5,ptr gp 0),(1,u32 src),(0,ptr gn 0)],[],aK gn 195 (bN s2 d2 s2.out)*(rows 28 3 Rec.cells d2.vr s2.aI*(rows 28 3 Rec.cells d2.vh d2.held*(ct d2.tb s2.self s2.ls*(cy d2 s2.out*(bc d2*(aK gp 44 [.int .i64 bK,.int .i64 kind,.int .i64 aH,.bool unknown,u32 id,u32 dest,u32 ak,u32 from_,u32 av,u32 bD,.slice A lost.length c,aZ ar]*(rows 180 2 bB (.slice A lost.length c) lost*G)))))))⟩) ?_ ?_)|refine ag (id:=2) (.range 10) ?_|refine ae (id:=6) (.range 17) 15 [3,5,7,13] ?_|refine ae (id:=10) (.range 12) 11 [3,5,9] ?_|(refine ab ?_;intro K hK)|(refine hK _ ?_;clear hK K)|refine ax ?_|(refine aF ?_ ?_<;>intro hc<;>(try simp only[cS]at hc)<;>(try exact aG))|refine aX ?_|refine az ?_|((first|refine dn rfl rfl iI rfl ?_ ?_|refine dm rfl rfl iI rfl ?_ ?_|refine dU rfl rfl iI rfl ?_ ?_)<;>intro hc)|((first|refine' LQ ?zh rfl ?_|refine' bk rfl rfl ?zh ?_);case zh=>intro F';exact bE rfl rfl iI)|(refine bT ?_;intro g)|(refine ai (aa iI rfl p0 iI) rfl ?_;intro x0;clear p0)|(refine ai (aa iI rfl p2 iI) rfl ?_;intro vs;clear p2)|(refine ai (aa iI rfl p3 ⟨aB.symm⟩) rfl ?_;intro x3)|(refine aD (aa iI rfl p4 iI) rfl rfl rfl ?_;intro x4)|(refine aD (aa iI rfl p6 iI) rfl rfl rfl ?_;intro x6))
 ·have AJ:e=3:=by first|exact of_decide_eq_true (by assumption)|assumption|omega
  rw[if_pos AJ]at qG
  exact⟨_,⟨_,{d with vs:=vs,seen:=qR s.now d.seen ⟨from_,id⟩},lD vs,rfl⟩,cG,rfl,by rw[OZ,qG];simp only[bN,cy,bc];exact ah⟩
 ·have AJ:¬e=3:=by first|exact of_decide_eq_false (by assumption)|assumption|omega
  rw[if_neg AJ]at qG
  exact⟨_,⟨_,{d with vs:=vs,seen:=qR s.now d.seen ⟨from_,id⟩},lD vs,rfl⟩,cG,rfl,by rw[OZ,qG];simp only[bN,cy,bc];exact ah⟩
 clear lD OZ qG vj p4 p6 IA Lm
 rintro τ ⟨gp,d2,lD,rfl⟩
 clear uO Rn
 have Wd:(⟨bK,kind,aH,unknown,id,dest,ak,from_,av,bD,lost,ar⟩:Pk).Ok:=⟨by simp only[cM];omega,by simpa only[cM]using ma,by simp only[cM];omega,by simp only;omega,by simp only;omega⟩
 by_cases hd:dest=s2.self
 ·subst hd
  have key:∀q:UInt32,q=(if unknown then s2.seq else max s2.seq ak)→Nd.answer {s2 with seq:=q} ⟨8,2,0,false,0,s2.self,q,from_,0,6000,[],[]⟩=s2.jy ⟨bK,kind,aH,unknown,id,s2.self,ak,from_,av,bD,lost,ar⟩:=fun q hq=>by
   unfold Nd.jy
   simp only[if_true]
   rw[←hq]
   rfl
  have a5:=fun q:UInt32=>sA w0 W gn {s2 with seq:=q} d2 (lD.NM q) ⟨bK,kind,aH,unknown,id,s2.self,ak,from_,av,bD,lost,ar⟩ ⟨8,2,0,false,0,s2.self,q,from_,0,6000,[],[]⟩ (.slice A lost.length c) Wd ⟨by simp[cM],by simp[cM],by simp[cM],by simp,by simp⟩ rfl rfl oX ⟨mF.aJ,mF.cj,mF.dropped,mF.aI,mF.ay⟩ ⟨rfl,rfl⟩ rfl
  unfold cR at a5
  simp only[bN,Pk.val,Pk.cells]at a5 ⊢
  cases unknown with
  |true=>
   replace key:=key s2.seq rfl
   replace a5:=a5 s2.seq
   repeat' (first|refine ag (id:=11) (.range 7) ?_|refine ag (id:=12) (.range 12) ?_|refine ae (id:=14) (.range 14) 13 [1,5,9,11] ?_|(refine ab ?_;intro K hK)|(refine hK _ ?_;clear hK K)|refine ax ?_|(refine aF ?_ ?_<;>intro hc<;>(try simp only[cS]at hc)<;>(try exact aG))|refine az ?_|((first|refine' bP rfl rfl rfl ?zh ?_|refine' bk rfl rfl ?zh ?_);case zh=>intro F';exact bp rfl rfl iI (by first|assumption|omega|decide|rfl))|(refine aD (aa iI rfl a5 iI) rfl rfl rfl ?_;intro x5))
   exact aj (.inl rfl) rfl ⟨(),rfl,by rw[←key];exact ah⟩
  |false=>
   by_cases hs:s2.seq<ak
   ·have Ml:ak=max s2.seq ak:=by
     show ak=if s2.seq≤ak then ak else s2.seq
     rw[if_pos (UInt32.le_of_lt hs)]
    replace key:=key ak (by simpa using Ml)
    replace a5:=a5 ak
    repeat' (first|refine ag (id:=11) (.range 7) ?_|refine ag (id:=12) (.range 12) ?_|refine ae (id:=14) (.range 14) 13 [1,5,9,11] ?_|(refine ab ?_;intro K hK)|(refine hK _ ?_;clear hK K)|refine ax ?_|(refine aF ?_ ?_<;>intro hc<;>(try simp only[cS]at hc)<;>(try exact aG))|refine az ?_|((first|refine' LQ ?zh rfl ?_|refine' bP rfl rfl rfl ?zh ?_|refine' bk rfl rfl ?zh ?_|refine' gM rfl rfl rfl ?zh ?_);case zh=>intro F';exact bp rfl rfl iI (by first|assumption|omega|decide|rfl))|(refine bQ ?_;intro g)|(refine aD (aa iI rfl a5 iI) rfl rfl rfl ?_;intro x5))
    exact aj (.inl rfl) rfl ⟨(),rfl,by rw[←key];exact ah⟩
   ·have Ml:s2.seq=max s2.seq ak:=by
     show s2.seq=if s2.seq≤ak then ak else s2.seq
     split
     ·rename_i h
      exact UInt32.le_antisymm h (UInt32.not_lt.1 hs)
     ·rfl
    replace key:=key s2.seq (by simpa using Ml)
    replace a5:=a5 s2.seq
    repeat' (first|refine ag (id:=11) (.range 7) ?_|refine ag (id:=12) (.range 12) ?_|refine ae (id:=14) (.range 14) 13 [1,5,9,11] ?_|(refine ab ?_;intro K hK)|(refine hK _ ?_;clear hK K)|refine ax ?_|(refine aF ?_ ?_<;>intro hc<;>(try simp only[cS]at hc)<;>(try exact aG))|refine az ?_|((first|refine' bP rfl rfl rfl ?zh ?_|refine' bk rfl rfl ?zh ?_|refine' gM rfl rfl rfl ?zh ?_);case zh=>intro F';first|exact bp rfl rfl iI (by first|assumption|omega|decide|rfl)|exact bH rfl rfl iI (by first|assumption|omega|decide|rfl))|(refine aD (aa iI rfl a5 iI) rfl rfl rfl ?_;intro x5))
    exact aj (.inl rfl) rfl ⟨(),rfl,by rw[←key];exact ah⟩
 by_cases hA:∃x,bR s2.ls dest s2.now=some x∧(unknown=true∨ak≤x.seq)
 ·obtain⟨x,hx,hc⟩:=hA
  obtain⟨IG,rW⟩:∃IG,IG=match bR s2.ls from_ s2.now with|some b=>gF s2.ls dest b.next|none=>s2.ls:=⟨_,rfl⟩
  have RW:aW IG:=by rw[rW];split;exact oX.FK _ _;exact oX
  have PZ:∀y∈aO s2.ls,y∈aO (gF IG from_ x.next):=fun y hy=>by
   rw[jE,rW]
   split
   ·rw[jE];exact hy
   ·exact hy
  have Ax:s2.jy ⟨bK,kind,aH,unknown,id,dest,ak,from_,av,bD,lost,ar⟩=Nd.answer {s2 with ls:=gF IG from_ x.next} ⟨8,2,x.aH,false,0,dest,x.seq,from_,0,(x.cB - s2.now).toUInt32,[],[]⟩:=by
   unfold Nd.jy
   simp only
   rw[if_neg hd,hx]
   simp only
   rw[if_pos hc]
   unfold Nd.Jd
   rw[rW]
   rfl
  have a1:=nU w0 d2.tb s2.self s2.ls oX dest s2.now
  have a2:=nU w0 d2.tb s2.self s2.ls oX from_ s2.now
  have a4:=sC w0 d2.tb s2.self IG RW from_ x.next
  have Mu:=(zy hx)
  have Ym:=oX.aH x Mu
  have a5:=sA w0 W gn {s2 with ls:=gF IG from_ x.next} d2 (lD.lines PZ) ⟨bK,kind,aH,unknown,id,dest,ak,from_,av,bD,lost,ar⟩ ⟨8,2,x.aH,false,0,dest,x.seq,from_,0,(x.cB - s2.now).toUInt32,[],[]⟩ (.slice A lost.length c) Wd ⟨by simp[cM],by simp[cM],by simp only[cM];omega,by simp,by simp⟩ rfl rfl (RW.FK _ _) (mF.ls _) ⟨rfl,rfl⟩ rfl
  unfold cR at a5
  rw[Ax]
  simp only[bN,Pk.val,Pk.cells]at a5 ⊢
  cases hy:bR s2.ls from_ s2.now with
  |none=>
   simp only[hy]at rW
   subst rW
   simp only[hx,hy,eY,bM,Option.isSome_some,Option.isSome_none]at a1 a2
   cases unknown with
   |true=>
    repeat' (first|refine ag (id:=11) (.range 7) ?_|refine aE (id:=15) 0 5 (.range 17) ?_|refine ae (id:=15) (.range 17) 10 [3,5,9] ?_|refine aE (id:=17) 0 5 (.range 17) ?_|refine ae (id:=17) (.range 17) 10 [3,5,9] ?_|refine ae (id:=20) (.range 9) 8 [3,5,7] ?_|refine ae (id:=21) (.range 20) 19 [1,3,5,7,9,11,15,17] ?_|(refine ab ?_;intro K hK)|(refine hK _ ?_;clear hK K)|refine ax ?_|(refine aF ?_ ?_<;>intro hc<;>(try simp only[cS]at hc)<;>(try exact aG))|(refine aL iI rfl ?_;intro g)|refine aX ?_|refine az ?_|((first|refine' LQ ?zh rfl ?_|refine' bP rfl rfl rfl ?zh ?_|refine' bk rfl rfl ?zh ?_);case zh=>intro F';exact kD rfl iI iI iI)|((refine' bk rfl rfl ?zh ?_);case zh=>intro F';exact bE rfl rfl iI)|(refine bQ ?_;intro g)|(refine aD (aa iI rfl a1 iI) rfl rfl rfl ?_;intro x1;clear a1)|(refine aD (aa iI rfl a2 iI) rfl rfl rfl ?_;intro x2;clear a2)|(refine aD (aa iI rfl a4 iI) rfl rfl rfl ?_;intro x4;clear a4)|(refine aD (aa iI rfl a5 iI) rfl rfl rfl ?_;intro x5))
    exact aj (.inl rfl) rfl ⟨(),rfl,ah⟩
   |false=>
    have vR:ak≤x.seq:=by simpa using hc
    repeat' (first|refine ag (id:=11) (.range 7) ?_|refine aE (id:=15) 0 5 (.range 17) ?_|refine ae (id:=15) (.range 17) 10 [3,5,9] ?_|refine aE (id:=17) 0 5 (.range 17) ?_|refine ae (id:=17) (.range 17) 10 [3,5,9] ?_|refine ae (id:=20) (.range 9) 8 [3,5,7] ?_|refine ae (id:=21) (.range 20) 19 [1,3,5,7,9,11,15,17] ?_|(refine ab ?_;intro K hK)|(refine hK _ ?_;clear hK K)|refine ax ?_|(refine aF ?_ ?_<;>intro hc<;>(try simp only[cS]at hc)<;>(try exact aG))|(refine aL iI rfl ?_;intro g)|refine aX ?_|refine az ?_|((first|refine' LQ ?zh rfl ?_|refine' bP rfl rfl rfl ?zh ?_|refine' bk rfl rfl ?zh ?_);case zh=>intro F';exact kD rfl iI iI iI)|((refine' bk rfl rfl ?zh ?_);case zh=>intro F';exact bE rfl rfl iI)|(refine bQ ?_;intro g)|(refine aD (aa iI rfl a1 iI) rfl rfl rfl ?_;intro x1;clear a1)|(refine aD (aa iI rfl a2 iI) rfl rfl rfl ?_;intro x2;clear a2)|(refine aD (aa iI rfl a4 iI) rfl rfl rfl ?_;intro x4;clear a4)|(refine aD (aa iI rfl a5 iI) rfl rfl rfl ?_;intro x5))
    exact aj (.inl rfl) rfl ⟨(),rfl,ah⟩
  |some y=>
   simp only[hy]at rW
   have a3:=sC w0 d2.tb s2.self s2.ls oX dest y.next
   rw[←rW]at a3
   simp only[hx,hy,eY,bM,Option.isSome_some,Option.isSome_none]at a1 a2
   cases unknown with
   |true=>
    repeat' (first|refine ag (id:=11) (.range 7) ?_|refine aE (id:=15) 0 5 (.range 17) ?_|refine ae (id:=15) (.range 17) 10 [3,5,9] ?_|refine aE (id:=17) 0 5 (.range 17) ?_|refine ae (id:=17) (.range 17) 10 [3,5,9] ?_|refine ae (id:=19) (.range 9) 8 [3,5,7] ?_|refine ae (id:=20) (.range 9) 8 [3,5,7] ?_|refine ae (id:=21) (.range 20) 19 [1,3,5,7,9,11,15,17] ?_|(refine ab ?_;intro K hK)|(refine hK _ ?_;clear hK K)|refine ax ?_|(refine aF ?_ ?_<;>intro hc<;>(try simp only[cS]at hc)<;>(try exact aG))|(refine aL iI rfl ?_;intro g)|refine aX ?_|refine az ?_|((first|refine' LQ ?zh rfl ?_|refine' bP rfl rfl rfl ?zh ?_|refine' bk rfl rfl ?zh ?_);case zh=>intro F';exact kD rfl iI iI iI)|((refine' bk rfl rfl ?zh ?_);case zh=>intro F';exact bE rfl rfl iI)|(refine bQ ?_;intro g)|(refine aD (aa iI rfl a1 iI) rfl rfl rfl ?_;intro x1;clear a1)|(refine aD (aa iI rfl a2 iI) rfl rfl rfl ?_;intro x2;clear a2)|(refine aD (aa iI rfl a3 iI) rfl rfl rfl ?_;intro x3;clear a3)|(refine aD (aa iI rfl a4 iI) rfl rfl rfl ?_;intro x4;clear a4)|(refine aD (aa iI rfl a5 iI) rfl rfl rfl ?_;intro x5))
    exact aj (.inl rfl) rfl ⟨(),rfl,ah⟩
   |false=>
    have vR:ak≤x.seq:=by simpa using hc
    repeat' (first|refine ag (id:=11) (.range 7) ?_|refine aE (id:=15) 0 5 (.range 17) ?_|refine ae (id:=15) (.range 17) 10 [3,5,9] ?_|refine aE (id:=17) 0 5 (.range 17) ?_|refine ae (id:=17) (.range 17) 10 [3,5,9] ?_|refine ae (id:=19) (.range 9) 8 [3,5,7] ?_|refine ae (id:=20) (.range 9) 8 [3,5,7] ?_|refine ae (id:=21) (.range 20) 19 [1,3,5,7,9,11,15,17] ?_|(refine ab ?_;intro K hK)|(refine hK _ ?_;clear hK K)|refine ax ?_|(refine aF ?_ ?_<;>intro hc<;>(try simp only[cS]at hc)<;>(try exact aG))|(refine aL iI rfl ?_;intro g)|refine aX ?_|refine az ?_|((first|refine' LQ ?zh rfl ?_|refine' bP rfl rfl rfl ?zh ?_|refine' bk rfl rfl ?zh ?_);case zh=>intro F';exact kD rfl iI iI iI)|((refine' bk rfl rfl ?zh ?_);case zh=>intro F';exact bE rfl rfl iI)|(refine bQ ?_;intro g)|(refine aD (aa iI rfl a1 iI) rfl rfl rfl ?_;intro x1;clear a1)|(refine aD (aa iI rfl a2 iI) rfl rfl rfl ?_;intro x2;clear a2)|(refine aD (aa iI rfl a3 iI) rfl rfl rfl ?_;intro x3;clear a3)|(refine aD (aa iI rfl a4 iI) rfl rfl rfl ?_;intro x4;clear a4)|(refine aD (aa iI rfl a5 iI) rfl rfl rfl ?_;intro x5))
    exact aj (.inl rfl) rfl ⟨(),rfl,ah⟩
 have Ax:s2.jy ⟨bK,kind,aH,unknown,id,dest,ak,from_,av,bD,lost,ar⟩=s2.gR ⟨bK,kind,aH,unknown,id,dest,ak,from_,av,bD,lost,ar⟩:=by
  unfold Nd.jy
  simp only
  rw[if_neg hd]
  cases hx:bR s2.ls dest s2.now with
  |none=>rfl
  |some x=>simp only;rw[if_neg (fun hc=>hA ⟨x,hx,hc⟩)]
 have a1:=nU w0 d2.tb s2.self s2.ls oX dest s2.now
 have RC:∀x,bR s2.ls dest s2.now=some x→unknown=false∧¬ak≤x.seq:=fun x hx=>⟨by cases unknown;rfl;exact absurd ⟨x,hx,.inl rfl⟩ hA,fun e=>hA ⟨x,hx,.inr e⟩⟩
 by_cases ht:bK=1
 ·have Ay:=Ax.trans (show s2.gR ⟨bK,kind,aH,unknown,id,dest,ak,from_,av,bD,lost,ar⟩=s2.drop 4 by unfold Nd.gR;simp only;rw[if_pos ht])
  have a6:=cx w0 gn s2 d2 4 (by have:=mF.dropped;omega)
  unfold cR at a6
  simp only[bN]at a6 ⊢
  rw[Ay]
  cases hx:bR s2.ls dest s2.now with
  |none=>
   simp only[hx,eY,bM,Option.isSome_none]at a1
   repeat' (first|refine ag (id:=11) (.range 7) ?_|refine aE (id:=15) 0 5 (.range 17) ?_|refine ae (id:=15) (.range 17) 10 [3,5,9] ?_|(refine ab ?_;intro K hK)|(refine hK _ ?_;clear hK K)|refine ax ?_|(refine aF ?_ ?_<;>intro hc<;>(try simp only[cS]at hc)<;>(try exact aG))|(refine aL iI rfl ?_;intro g)|refine aX ?_|refine az ?_|(refine bQ ?_;intro g)|(refine aD (aa iI rfl a1 iI) rfl rfl rfl ?_;intro x1;clear a1)|(refine ai (aa iI rfl a6 iI) rfl ?_;intro x5))
   exact aj (.inl rfl) rfl ⟨(),rfl,aq.rn (lD.drop 4 x5) (by unfold cR;simp only[bN,cy,bc];exact ah)⟩
  |some x=>
   obtain⟨rfl,vR⟩:=RC x hx
   simp only[hx,eY,bM,Option.isSome_some]at a1
   repeat' (first|refine ag (id:=11) (.range 7) ?_|refine aE (id:=15) 0 5 (.range 17) ?_|refine ae (id:=15) (.range 17) 10 [3,5,9] ?_|(refine ab ?_;intro K hK)|(refine hK _ ?_;clear hK K)|refine ax ?_|(refine aF ?_ ?_<;>intro hc<;>(try simp only[cS]at hc)<;>(try exact aG))|(refine aL iI rfl ?_;intro g)|refine aX ?_|refine az ?_|(refine bQ ?_;intro g)|(refine aD (aa iI rfl a1 iI) rfl rfl rfl ?_;intro x1;clear a1)|(refine ai (aa iI rfl a6 iI) rfl ?_;intro x5))
   exact aj (.inl rfl) rfl ⟨(),rfl,aq.rn (lD.drop 4 x5) (by unfold cR;simp only[bN,cy,bc];exact ah)⟩
 have a2:=uf w0 gn s2 d2 s2.out oX dest
 simp only[bN]at a2
 cases hg:dG s2.ls dest with
 |none=>
  have Ay:=Ax.trans (show s2.gR ⟨bK,kind,aH,unknown,id,dest,ak,from_,av,bD,lost,ar⟩=s2.send 0 ⟨bK - 1,kind,min (aH+1) 255,unknown,id,dest,ak,from_,av,bD,lost,ar⟩ by unfold Nd.gR;simp only;rw[if_neg ht,hg];rfl)
  simp only[hg,eJ,Option.isSome_none]at a2
  rw[Ay]
  have a6:=fS w0 gn s2 d2 0 ⟨bK - 1,kind,min (aH+1) 255,unknown,id,dest,ak,from_,av,bD,lost,ar⟩ ⟨by simp only[cM];omega,by simpa only[cM]using ma,by simp only[cM];omega,by simp only;omega,by simp only;omega⟩ (.slice A lost.length c) rfl (rows 180 2 bB (.slice A lost.length c) lost) (hX:=fy _ _ _ _ _) (by have:=mF.aJ;omega)
  unfold cR at a6
  simp only[bN,Pk.val,Pk.cells]at a6 ⊢
  cases hx:bR s2.ls dest s2.now with
  |none=>
   simp only[hx,eY,bM,Option.isSome_none]at a1
   repeat' (first|refine ag (id:=11) (.range 7) ?_|refine aE (id:=15) 0 5 (.range 17) ?_|refine ae (id:=15) (.range 17) 10 [3,5,9] ?_|(refine ab ?_;intro K hK)|(refine hK _ ?_;clear hK K)|refine ax ?_|(refine aF ?_ ?_<;>intro hc<;>(try simp only[cS]at hc)<;>(try exact aG))|(refine aL iI rfl ?_;intro g)|refine aX ?_|refine az ?_|(refine bQ ?_;intro g)|(refine aD (aa iI rfl a1 iI) rfl rfl rfl ?_;intro x1;clear a1)|(refine ai (aa iI rfl a2 iI) rfl ?_;intro x2;clear a2)|(refine ai (aa iI rfl a6 iI) rfl ?_;intro x5))
   exact aj (.inr rfl) rfl ⟨(),rfl,aq.rn (lD.send 0 ⟨bK - 1,kind,min (aH+1) 255,unknown,id,dest,ak,from_,av,bD,lost,ar⟩ x5) (by unfold cR;simp only[bN,cy,bc];exact ah)⟩
  |some x=>
   obtain⟨rfl,vR⟩:=RC x hx
   simp only[hx,eY,bM,Option.isSome_some]at a1
   repeat' (first|refine ag (id:=11) (.range 7) ?_|refine aE (id:=15) 0 5 (.range 17) ?_|refine ae (id:=15) (.range 17) 10 [3,5,9] ?_|(refine ab ?_;intro K hK)|(refine hK _ ?_;clear hK K)|refine ax ?_|(refine aF ?_ ?_<;>intro hc<;>(try simp only[cS]at hc)<;>(try exact aG))|(refine aL iI rfl ?_;intro g)|refine aX ?_|refine az ?_|(refine bQ ?_;intro g)|(refine aD (aa iI rfl a1 iI) rfl rfl rfl ?_;intro x1;clear a1)|(refine ai (aa iI rfl a2 iI) rfl ?_;intro x2;clear a2)|(refine ai (aa iI rfl a6 iI) rfl ?_;intro x5))
   exact aj (.inr rfl) rfl ⟨(),rfl,aq.rn (lD.send 0 ⟨bK - 1,kind,min (aH+1) 255,false,id,dest,ak,from_,av,bD,lost,ar⟩ x5) (by unfold cR;simp only[bN,cy,bc];exact ah)⟩
 |some l=>
  simp only[hg,eJ,Option.isSome_some]at a2
  by_cases hn:unknown=true∨ak<l.seq
  ·have Ml:max ak l.seq=l.seq:=by
    show(if ak≤l.seq then l.seq else ak)=l.seq
    rw[if_pos]
    rcases hn with hn|hn
    ·rw[RB hn];exact UInt32.zero_le
    ·exact UInt32.le_of_lt hn
   have Ay:=Ax.trans (show s2.gR ⟨bK,kind,aH,unknown,id,dest,ak,from_,av,bD,lost,ar⟩=s2.send 0 ⟨bK - 1,kind,min (aH+1) 255,false,id,dest,l.seq,from_,av,bD,lost,ar⟩ by unfold Nd.gR;simp only;rw[if_neg ht,hg];simp only[Ml];rfl)
   rw[Ay]
   have a6:=fS w0 gn s2 d2 0 ⟨bK - 1,kind,min (aH+1) 255,false,id,dest,l.seq,from_,av,bD,lost,ar⟩ ⟨by simp only[cM];omega,by simpa only[cM]using ma,by simp only[cM];omega,by simp only;omega,by simp only;omega⟩ (.slice A lost.length c) rfl (rows 180 2 bB (.slice A lost.length c) lost) (hX:=fy _ _ _ _ _) (by have:=mF.aJ;omega)
   unfold cR at a6
   simp only[bN,Pk.val,Pk.cells]at a6 ⊢
   cases unknown with
   |true=>
    cases hx:bR s2.ls dest s2.now with
    |none=>
     simp only[hx,eY,bM,Option.isSome_none]at a1
     repeat' (first|refine ag (id:=11) (.range 7) ?_|refine aE (id:=15) 0 5 (.range 17) ?_|refine ae (id:=15) (.range 17) 10 [3,5,9] ?_|(refine ab ?_;intro K hK)|(refine hK _ ?_;clear hK K)|refine ax ?_|(refine aF ?_ ?_<;>intro hc<;>(try simp only[cS]at hc)<;>(try exact aG))|(refine aL iI rfl ?_;intro g)|refine aX ?_|refine az ?_|(refine bQ ?_;intro g)|(refine aD (aa iI rfl a1 iI) rfl rfl rfl ?_;intro x1;clear a1)|(refine ai (aa iI rfl a2 iI) rfl ?_;intro x2;clear a2)|(refine ai (aa iI rfl a6 iI) rfl ?_;intro x5))
     exact aj (.inr rfl) rfl ⟨(),rfl,aq.rn (lD.send 0 ⟨bK - 1,kind,min (aH+1) 255,false,id,dest,l.seq,from_,av,bD,lost,ar⟩ x5) (by unfold cR;simp only[bN,cy,bc];exact ah)⟩
    |some x=>exact absurd (RC x hx).1 (by decide)
   |false=>
    have vT:ak<l.seq:=by simpa using hn
    cases hx:bR s2.ls dest s2.now with
    |none=>
     simp only[hx,eY,bM,Option.isSome_none]at a1
     repeat' (first|refine ag (id:=11) (.range 7) ?_|refine aE (id:=15) 0 5 (.range 17) ?_|refine ae (id:=15) (.range 17) 10 [3,5,9] ?_|(refine ab ?_;intro K hK)|(refine hK _ ?_;clear hK K)|refine ax ?_|(refine aF ?_ ?_<;>intro hc<;>(try simp only[cS]at hc)<;>(try exact aG))|(refine aL iI rfl ?_;intro g)|refine aX ?_|refine az ?_|(refine bQ ?_;intro g)|(refine aD (aa iI rfl a1 iI) rfl rfl rfl ?_;intro x1;clear a1)|(refine ai (aa iI rfl a2 iI) rfl ?_;intro x2;clear a2)|(refine ai (aa iI rfl a6 iI) rfl ?_;intro x5))
     exact aj (.inr rfl) rfl ⟨(),rfl,aq.rn (lD.send 0 ⟨bK - 1,kind,min (aH+1) 255,false,id,dest,l.seq,from_,av,bD,lost,ar⟩ x5) (by unfold cR;simp only[bN,cy,bc];exact ah)⟩
    |some x=>
     have vR:=(RC x hx).2
     simp only[hx,eY,bM,Option.isSome_some]at a1
     repeat' (first|refine ag (id:=11) (.range 7) ?_|refine aE (id:=15) 0 5 (.range 17) ?_|refine ae (id:=15) (.range 17) 10 [3,5,9] ?_|(refine ab ?_;intro K hK)|(refine hK _ ?_;clear hK K)|refine ax ?_|(refine aF ?_ ?_<;>intro hc<;>(try simp only[cS]at hc)<;>(try exact aG))|(refine aL iI rfl ?_;intro g)|refine aX ?_|refine az ?_|(refine bQ ?_;intro g)|(refine aD (aa iI rfl a1 iI) rfl rfl rfl ?_;intro x1;clear a1)|(refine ai (aa iI rfl a2 iI) rfl ?_;intro x2;clear a2)|(refine ai (aa iI rfl a6 iI) rfl ?_;intro x5))
     exact aj (.inr rfl) rfl ⟨(),rfl,aq.rn (lD.send 0 ⟨bK - 1,kind,min (aH+1) 255,false,id,dest,l.seq,from_,av,bD,lost,ar⟩ x5) (by unfold cR;simp only[bN,cy,bc];exact ah)⟩
  ·obtain rfl:unknown=false:=by cases unknown;rfl;exact absurd (.inl rfl) hn
   have vT:¬ak<l.seq:=fun h=>hn (.inr h)
   have Ml:max ak l.seq=ak:=by
    show(if ak≤l.seq then l.seq else ak)=ak
    split
    ·rename_i h
     exact UInt32.le_antisymm (UInt32.not_lt.1 vT) h
    ·rfl
   have Ay:=Ax.trans (show s2.gR ⟨bK,kind,aH,false,id,dest,ak,from_,av,bD,lost,ar⟩=s2.send 0 ⟨bK - 1,kind,min (aH+1) 255,false,id,dest,ak,from_,av,bD,lost,ar⟩ by unfold Nd.gR;simp only;rw[if_neg ht,hg];simp only[Ml];rfl)
   rw[Ay]
   have a6:=fS w0 gn s2 d2 0 ⟨bK - 1,kind,min (aH+1) 255,false,id,dest,ak,from_,av,bD,lost,ar⟩ ⟨by simp only[cM];omega,by simpa only[cM]using ma,by simp only[cM];omega,by simp only;omega,by simp only;omega⟩ (.slice A lost.length c) rfl (rows 180 2 bB (.slice A lost.length c) lost) (hX:=fy _ _ _ _ _) (by have:=mF.aJ;omega)
   unfold cR at a6
   simp only[bN,Pk.val,Pk.cells]at a6 ⊢
   cases hx:bR s2.ls dest s2.now with
   |none=>
    simp only[hx,eY,bM,Option.isSome_none]at a1
    repeat' (first|refine ag (id:=11) (.range 7) ?_|refine aE (id:=15) 0 5 (.range 17) ?_|refine ae (id:=15) (.range 17) 10 [3,5,9] ?_|(refine ab ?_;intro K hK)|(refine hK _ ?_;clear hK K)|refine ax ?_|(refine aF ?_ ?_<;>intro hc<;>(try simp only[cS]at hc)<;>(try exact aG))|(refine aL iI rfl ?_;intro g)|refine aX ?_|refine az ?_|(refine bQ ?_;intro g)|(refine aD (aa iI rfl a1 iI) rfl rfl rfl ?_;intro x1;clear a1)|(refine ai (aa iI rfl a2 iI) rfl ?_;intro x2;clear a2)|(refine ai (aa iI rfl a6 iI) rfl ?_;intro x5))
    exact aj (.inr rfl) rfl ⟨(),rfl,aq.rn (lD.send 0 ⟨bK - 1,kind,min (aH+1) 255,false,id,dest,ak,from_,av,bD,lost,ar⟩ x5) (by unfold cR;simp only[bN,cy,bc];exact ah)⟩
   |some x=>
    have vR:=(RC x hx).2
    simp only[hx,eY,bM,Option.isSome_some]at a1
    repeat' (first|refine ag (id:=11) (.range 7) ?_|refine aE (id:=15) 0 5 (.range 17) ?_|refine ae (id:=15) (.range 17) 10 [3,5,9] ?_|(refine ab ?_;intro K hK)|(refine hK _ ?_;clear hK K)|refine ax ?_|(refine aF ?_ ?_<;>intro hc<;>(try simp only[cS]at hc)<;>(try exact aG))|(refine aL iI rfl ?_;intro g)|refine aX ?_|refine az ?_|(refine bQ ?_;intro g)|(refine aD (aa iI rfl a1 iI) rfl rfl rfl ?_;intro x1;clear a1)|(refine ai (aa iI rfl a2 iI) rfl ?_;intro x2;clear a2)|(refine ai (aa iI rfl a6 iI) rfl ?_;intro x5))
    exact aj (.inr rfl) rfl ⟨(),rfl,aq.rn (lD.send 0 ⟨bK - 1,kind,min (aH+1) 255,false,id,dest,ak,from_,av,bD,lost,ar⟩ x5) (by unfold cR;simp only[bN,cy,bc];exact ah)⟩
end
end Go.Proofs.YtapoehkdnglahabGreat
