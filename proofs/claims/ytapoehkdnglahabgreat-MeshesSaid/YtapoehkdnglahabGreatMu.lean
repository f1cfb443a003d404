/- A part. -/
import Derived.Test.YtapoehkdnglahabGreatMq
set_option maxHeartbeats 16000000
set_option maxRecDepth 100000
set_option linter.all false
namespace Go.Proofs.YtapoehkdnglahabGreat
section
open Go.RowKit
attribute [local irreducible] WS LS OpQ y6 cn cv Spec bA aK
variable (w0:World)
theorem Be (gn:Nat) (s:Nd) (h:NH) (src:UInt32) (p:Pk) (hp:p.Read) (v:Value) (ok:aW s.ls) (ho:s.order.length<=16) (hf:s.Fit 1):Spec ucC w0 118 [ptr gn 0,u32 src,p.val v] (bG gn s h*rows 180 2 bB v p.lost) (λ_:Unit=> .tuple #[]) (λ_=>eD gn (s.qd src p)):=by
 refine eZ Tryz.func118 Tryz.ntmps118 λG=> ?_;refine jl v iI λA c hv=> ?_;subst hv;obtain⟨Mm,ma,OT,OU,OV⟩:=hp;obtain⟨bK,kind,aH,unknown,id,dest,ak,from_,av,bD,lost,ar⟩:=p;simp only[Pk.val,Pk.cells,aN]at*
 have p1:=kf w0 gn s h 1 hf;have Ye:tZ u64 (.int .u64 0) (bX s.seen (⟨from_,id⟩:Rq))=u64 (seenAt s.seen ⟨from_,id⟩):=by unfold seenAt;cases bX s.seen (⟨from_,id⟩:Rq)<;>rfl
 by_cases h1:from_=s.self
 ·have es:s.qd src ⟨bK,kind,aH,unknown,id,dest,ak,from_,av,bD,lost,ar⟩=s.drop 1:=by unfold Nd.qd;rw[jF (.inl h1)]
  simp only[bG,aY,b7,cw,ba]at p1 ⊢;repeat' (first|refine ag (id:=2) (.range 20) ?_|intro K hK|refine ax ?_|(refine aF ?_ ?_<;>intro hc<;>try exact aG)|refine bT λg=> ?_|refine bQ λg=> ?_|refine cZ p1 λx1=> ?_)
  exact aj (.inl rfl) rfl ⟨(),rfl,by rw[es];exact ah⟩
 by_cases h2:s.now<seenAt s.seen ⟨from_,id⟩
 ·have es:s.qd src ⟨bK,kind,aH,unknown,id,dest,ak,from_,av,bD,lost,ar⟩=s.drop 1:=by unfold Nd.qd;rw[jF (.inr h2)]
  simp only[bG,aY,b7,cw,ba,eu]at p1 ⊢;repeat' (first|refine ag (id:=2) (.range 20) ?_|intro K hK|refine ax ?_|(refine aF ?_ ?_<;>intro hc<;>try exact aG)|((first|refine' LQ ?zh rfl ?_|refine' bk rfl rfl ?zh ?_|refine' zab rfl rfl rfl ?zh ?_);case zh=>intro F';exact fh rfl rfl iI iI iI iI iI (by assumption))|refine bT λg=> ?_|refine bQ λg=> ?_|refine cZ p1 λx1=> ?_)
  exact aj (.inl rfl) rfl ⟨(),rfl,by rw[es];exact ah⟩
 clear p1;obtain⟨s1,iu⟩:∃s1:Nd,s1=s.aT ⟨from_,id⟩:=⟨_,rfl⟩
 have j7:s1.Fit 1:=by rw[iu];exact hf.aT _
 have Tf:aW s1.ls:=by rw[iu,(s.j2 _).1];exact ok
 have p2:=ql w0 gn s h ⟨from_,id⟩ ho;have p3:=λvo=>pQ w0 gn s1 {h with vo:=vo};have p4:=uP w0 h.tb s1.self s1.ls Tf (Ln.bj from_ av (min (aH+1) 255) src s1.ir) rfl rfl (by simp only[Ln.bj];omega);have p6:=λgj=>pe w0 h.tb s1.self gj from_ s1.ir;rw[<-iu]at p2;have IA:=pT s1.self s1.ls (Ln.bj from_ av (min (aH+1) 255) src s1.ir);have okU:=Tf.La s1.self (Ln.bj from_ av (min (aH+1) 255) src s1.ir) (by simp only[Ln.bj];omega);have es:s.qd src ⟨bK,kind,aH,unknown,id,dest,ak,from_,av,bD,lost,ar⟩=if(dI s1.self s1.ls (Ln.bj from_ av (min (aH+1) 255) src s1.ir)).1=4 then Nd.drop {s1 with ls:=(dI s1.self s1.ls (Ln.bj from_ av (min (aH+1) 255) src s1.ir)).2} 2 else Nd.jy {s1 with ls:=if(dI s1.self s1.ls (Ln.bj from_ av (min (aH+1) 255) src s1.ir)).1=3 then iY (dI s1.self s1.ls (Ln.bj from_ av (min (aH+1) 255) src s1.ir)).2 from_ s1.ir else(dI s1.self s1.ls (Ln.bj from_ av (min (aH+1) 255) src s1.ir)).2} ⟨bK,kind,aH,unknown,id,dest,ak,from_,av,bD,lost,ar⟩:=by
  unfold Nd.qd;simp only;rw[eQ (by rintro(e|e);exact h1 e;exact h2 e),<-iu];rfl
 generalize hu:dI s1.self s1.ls (Ln.bj from_ av (min (aH+1) 255) src s1.ir)=u at p4 IA okU es;obtain⟨e,gj⟩:=u;simp only at p4 IA okU es;simp only[Ln.bj,bM]at p4;have p5:=λvo=>kf w0 gn {s1 with ls:=gj} {h with vo:=vo} 2 (j7.ls gj);rw[es];clear es hu;simp only[bG,aY,b7,cw,ba,eu,Bt,sE]at p2 p3 p5 ⊢;by_cases Hg:e=4
 ·rw[jF Hg];subst Hg;repeat' (first|refine ag (id:=2) (.range 20) ?_|refine ae (id:=6) (.range 14) 13 [3,5,7] ?_|intro K hK|refine ax ?_|(refine aF ?_ ?_<;>intro hc<;>try exact aG)|refine zgY ?_|refine bT λg=> ?_|refine bQ λg=> ?_|(refine ai (aa iI rfl p2 iI) rfl ?_;intro vo;replace p3:=p3 vo;replace p5:=p5 vo)|(refine oC iI rfl p3 iI rfl ?_)|refine cZ p4 λx4=> ?_|refine cZ p5 λx5=> ?_)
  exact aj (.inl rfl) rfl ⟨(),rfl,ah⟩
 rw[eQ Hg];clear p5;obtain⟨Km,qG⟩:∃Km,Km=if e=3 then iY gj from_ s1.ir else gj:=⟨_,rfl⟩
 have Px:aW Km:=by rw[qG];split;exact okU.use _ _;exact okU
 obtain⟨s2,fP⟩:∃s2:Nd,s2={s1 with ls:=Km}:=⟨_,rfl⟩
 have oX:aW s2.ls:=by rw[fP];exact Px
 have mF:s2.Fit 1:=by rw[fP];exact j7.ls _
 rw[<-qG,<-fP];have q1:=kf w0 gn s2;repeat' (first|(show WS _ _ _ (.seq (.seq (.region 6 _ _) _) _) _ _;refine ab ?_;intro K hK;refine nC hK (λτ=>τ=⟨[(7,.int .i64 (min (aH+1) 255)),(5,ptr gp 0),(1,u32 src),(0,ptr gn 0)],[],bG gn s2 {h with vo:=vo}*(aK gp 44 [.int .i64 bK,.int .i64 kind,.int .i64 aH,.bool unknown,u32 id,u32 dest,u32 ak,u32 from_,u32 av,u32 bD,.slice A lost.length c,aZ ar]*(rows 180 2 bB (.slice A lost.length c) lost*G))⟩) ?_ ?_)|refine ag (id:=2) (.range 20) ?_|refine ae (id:=6) (.range 14) 13 [3,5,7] ?_|refine ae (id:=10) (.range 9) 8 [3,5] ?_|refine ab λK hK=> ?_|refine ax ?_|(refine aF ?_ ?_<;>intro hc<;>try exact aG)|((first|refine dn rfl rfl iI rfl ?_ ?_|refine dm rfl rfl iI rfl ?_ ?_)<;>intro hc)|refine zgY ?_|((first|refine' ai ?zh rfl ?_|refine' aD ?zh rfl rfl rfl ?_);(case zh=>exact ph iI);intro g)|refine bQ λg=> ?_|(refine ai (rj rfl) rfl ?_;intro gp)|(refine ai (aa iI rfl p2 iI) rfl ?_;intro vo;replace p3:=p3 vo)|(refine oC iI rfl p3 iI rfl ?_)|refine cZ p4 λx4=> ?_|refine cZ (p6 gj) λx5=> ?_)
 ·have AJ:e=3:=by first|exact of_decide_eq_true (by assumption)|assumption|omega
  rw[jF AJ]at qG;exact⟨_,rfl,⟨rfl,rfl,rfl,rfl,trivial⟩,rfl,by rw[fP,qG];simp only[bG,aY,b7,cw,ba,eu];exact ah⟩
 ·have AJ:¬e=3:=by first|exact of_decide_eq_false (by assumption)|assumption|omega
  rw[eQ AJ]at qG;exact⟨_,rfl,⟨rfl,rfl,rfl,rfl,trivial⟩,rfl,by rw[fP,qG];simp only[bG,aY,b7,cw,ba,eu];exact ah⟩
 rintro τ rfl;obtain⟨h1,JX⟩:∃h1:NH,h1={h with vo:=vo}:=⟨_,rfl⟩
 rw[<-JX]
 clear p2 p3 p4 p6 JX fP qG Ye
 by_cases hd:dest=s2.self
 ·obtain⟨s3,qI⟩:∃s3:Nd,s3={s2 with seq:=if unknown then s2.seq else max s2.seq ak}:=⟨_,rfl⟩
  have a1:=uu w0 gn s3 h1 ⟨0,0,0,false,0,dest,s3.seq,from_,0,6000,[],[]⟩ rfl (by simp[cM]) (by simp) (by rw[qI];exact oX) (by rw[qI];exact⟨mF.aJ,mF.cj,mF.dropped,mF.aI,mF.ay⟩)
  have Ax:s2.jy ⟨bK,kind,aH,unknown,id,dest,ak,from_,av,bD,lost,ar⟩=s3.answer ⟨0,0,0,false,0,dest,s3.seq,from_,0,6000,[],[]⟩:=by unfold Nd.jy;simp only;rw[jF hd,qI]
  cases unknown
  all_goals
   simp only[AT,VC,YZ]at qI
   rw[qI]at a1
   simp only[bG,aY,b7,cw,ba,Pk.val,Pk.cells]at a1 ⊢
   repeat' (first|refine zbk ?_|refine ae (id:=13) (.range 11) 10 [4,6,7] ?_|refine zaN (id:=13) 0 5 (.range 11) 10 [4] ?_|refine ae (id:=14) (.range 11) 10 [4,6,8] ?_|intro K hK|refine ax ?_|(refine aF ?_ ?_<;>intro hc<;>try exact aG)|refine bQ λg=> ?_|refine cZ a1 λx6=> ?_)
   exact aj (.inl rfl) rfl ⟨(),rfl,by rw[Ax,qI];exact ah⟩
 by_cases hA:∃x,bR s2.ls dest s2.now=some x/\(unknown=true\/ak<=x.seq)
 ·obtain⟨x,hx,hc⟩:=hA
  have Ax:s2.jy ⟨bK,kind,aH,unknown,id,dest,ak,from_,av,bD,lost,ar⟩=s2.Jd ⟨bK,kind,aH,unknown,id,dest,ak,from_,av,bD,lost,ar⟩ x:=by unfold Nd.jy;simp only;rw[eQ hd,hx];simp only;rw[jF hc]
  obtain⟨IG,rW⟩:∃IG,IG=match bR s2.ls from_ s2.now with|some b=>gF s2.ls dest b.next|none=>s2.ls:=⟨_,rfl⟩
  obtain⟨s3,qI⟩:∃s3:Nd,s3={s2 with ls:=gF IG from_ x.next}:=⟨_,rfl⟩
  have Qj:aW s3.ls:=by rw[qI];refine aW.FK ?_ _ _;rw[rW];split;exact oX.FK _ _;exact oX
  have a1:=find_spec w0 h1.tb s2.self s2.ls oX dest s2.now
  have a2:=find_spec w0 h1.tb s2.self s2.ls oX from_ s2.now
  have a4:=mf w0 h1.tb s2.self IG from_ x.next
  have Mu:=(zy hx)
  have Ym:=oX.aH x Mu
  have a5:=uu w0 gn s3 h1 ⟨0,0,x.aH,false,0,dest,x.seq,from_,0,(x.cB - s3.now).toUInt32,[],[]⟩ rfl (by simp only[cM];omega) (by simp) Qj (by rw[qI];exact mF.ls _)
  have Ay:s2.Jd ⟨bK,kind,aH,unknown,id,dest,ak,from_,av,bD,lost,ar⟩ x=s3.answer ⟨0,0,x.aH,false,0,dest,x.seq,from_,0,(x.cB - s3.now).toUInt32,[],[]⟩:=by unfold Nd.Jd;rw[qI,rW];rfl
  rw[qI]at a5
  have SD:=Ax.trans (Ay.trans (by rw[qI]))
  clear Ax Ay
  cases hy:bR s2.ls from_ s2.now with
  |none=>
   simp only[hy]at rW
   subst rW
   simp only[bG,aY,b7,cw,ba,Pk.val,Pk.cells]at a5 ⊢
   simp only[hx,hy,fX,fW,bM]at a1 a2
   cases unknown with
   |true=>
    repeat' (first|refine zbk ?_|refine zgv ?_|refine zgE ?_|refine zhL ?_|refine zhd ?_|refine zhG ?_|refine zho ?_|intro K hK|refine ax ?_|(refine aF ?_ ?_<;>intro hc<;>try exact aG)|refine zw3 λg=> ?_|refine zbr ?_|refine zgQ ?_|refine bQ λg=> ?_|(refine cZ a1 λx1=> ?_;clear a1)|(refine cZ a2 λx2=> ?_;clear a2)|refine cZ a4 λx4=> ?_|refine cZ a5 λx5=> ?_)
    exact aj (.inl rfl) rfl ⟨(),rfl,by rw[SD];exact ah⟩
   |false=>
    have vR:ak<=x.seq:=by simpa using hc
    repeat' (first|refine zbk ?_|refine zgv ?_|refine zgE ?_|refine zhL ?_|refine zhd ?_|refine zhG ?_|refine zho ?_|intro K hK|refine ax ?_|(refine aF ?_ ?_<;>intro hc<;>try exact aG)|refine zw3 λg=> ?_|refine zbr ?_|refine zgQ ?_|refine bQ λg=> ?_|(refine cZ a1 λx1=> ?_;clear a1)|(refine cZ a2 λx2=> ?_;clear a2)|refine cZ a4 λx4=> ?_|refine cZ a5 λx5=> ?_)
    exact aj (.inl rfl) rfl ⟨(),rfl,by rw[SD];exact ah⟩
  |some y=>
   simp only[hy]at rW
   have a3:=mf w0 h1.tb s2.self s2.ls dest y.next
   rw[<-rW]at a3
   simp only[bG,aY,b7,cw,ba,Pk.val,Pk.cells]at a5 ⊢
   simp only[hx,hy,fX,fW,bM]at a1 a2
   cases unknown with
   |true=>
    repeat' (first|refine zbk ?_|refine zgv ?_|refine zgE ?_|refine zhL ?_|refine zhd ?_|refine ae (id:=19) (.range 9) 8 [3,5,7] ?_|refine zhG ?_|refine zho ?_|intro K hK|refine ax ?_|(refine aF ?_ ?_<;>intro hc<;>try exact aG)|refine zw3 λg=> ?_|refine zbr ?_|refine zgQ ?_|refine bQ λg=> ?_|(refine cZ a1 λx1=> ?_;clear a1)|(refine cZ a2 λx2=> ?_;clear a2)|refine cZ a3 λx3=> ?_|refine cZ a4 λx4=> ?_|refine cZ a5 λx5=> ?_)
    exact aj (.inl rfl) rfl ⟨(),rfl,by rw[SD];exact ah⟩
   |false=>
    have vR:ak<=x.seq:=by simpa using hc
    repeat' (first|refine zbk ?_|refine zgv ?_|refine zgE ?_|refine zhL ?_|refine zhd ?_|refine ae (id:=19) (.range 9) 8 [3,5,7] ?_|refine zhG ?_|refine zho ?_|intro K hK|refine ax ?_|(refine aF ?_ ?_<;>intro hc<;>try exact aG)|refine zw3 λg=> ?_|refine zbr ?_|refine zgQ ?_|refine bQ λg=> ?_|(refine cZ a1 λx1=> ?_;clear a1)|(refine cZ a2 λx2=> ?_;clear a2)|refine cZ a3 λx3=> ?_|refine cZ a4 λx4=> ?_|refine cZ a5 λx5=> ?_)
    exact aj (.inl rfl) rfl ⟨(),rfl,by rw[SD];exact ah⟩
 have Ax:s2.jy ⟨bK,kind,aH,unknown,id,dest,ak,from_,av,bD,lost,ar⟩=s2.gR ⟨bK,kind,aH,unknown,id,dest,ak,from_,av,bD,lost,ar⟩:=by
  unfold Nd.jy;simp only;rw[eQ hd];cases hx:bR s2.ls dest s2.now with
  |none=>rfl
  |some x=>simp only;rw[eQ (λhc=>hA ⟨x,hx,hc⟩)]
 have a1:=find_spec w0 h1.tb s2.self s2.ls oX dest s2.now
 by_cases ht:bK=1
 ·have Ay:=Ax.trans (show s2.gR ⟨bK,kind,aH,unknown,id,dest,ak,from_,av,bD,lost,ar⟩=s2.drop 4 by unfold Nd.gR;simp only;rw[jF ht])
  have a6:=q1 h1 4 mF
  simp only[bG,aY,b7,cw,ba]at a6 ⊢
  cases hx:bR s2.ls dest s2.now with
  |none=>
   simp only[hx,fX,fW,bM]at a1;repeat' (first|refine zbk ?_|refine zgv ?_|refine zgE ?_|intro K hK|refine ax ?_|(refine aF ?_ ?_<;>intro hc<;>try exact aG)|refine zw3 λg=> ?_|refine bQ λg=> ?_|(refine cZ a1 λx1=> ?_;clear a1)|refine cZ a6 λx5=> ?_)
   exact aj (.inl rfl) rfl ⟨(),rfl,by rw[Ay];exact ah⟩
  |some x=>
   obtain rfl:unknown=false:=by cases unknown;rfl;exact absurd ⟨x,hx,.inl rfl⟩ hA
   have vR:¬ak<=x.seq:=λe=>hA ⟨x,hx,.inr e⟩;simp only[hx,fX,fW,bM]at a1;repeat' (first|refine zbk ?_|refine zgv ?_|refine zgE ?_|intro K hK|refine ax ?_|(refine aF ?_ ?_<;>intro hc<;>try exact aG)|refine zw3 λg=> ?_|refine bQ λg=> ?_|(refine cZ a1 λx1=> ?_;clear a1)|refine cZ a6 λx5=> ?_)
   exact aj (.inl rfl) rfl ⟨(),rfl,by rw[Ay];exact ah⟩
 cases hg:dG s2.ls dest with
 |none=>
  have Ay:=Ax.trans (show s2.gR ⟨bK,kind,aH,unknown,id,dest,ak,from_,av,bD,lost,ar⟩=s2.send 0 ⟨bK - 1,kind,min (aH+1) 255,unknown,id,dest,ak,from_,av,bD,lost,ar⟩ by unfold Nd.gR;simp only;rw[eQ ht,hg];rfl)
  have a5:=mo w0 h1.tb s2.self s2.ls dest
  have a6:=Bi w0 gn s2 h1 0 ⟨bK - 1,kind,min (aH+1) 255,unknown,id,dest,ak,from_,av,bD,lost,ar⟩ ⟨by simp only[cM]at*;omega,by simpa only[cM]using ma,by simp only[cM]at*;omega,by simp only;omega,by simp only;omega⟩ (.slice A lost.length c) rfl (rows 180 2 bB (.slice A lost.length c) lost) (fy _ _ _ _ _) mF
  simp only[hg,eJ,sH]at a5
  simp only[bG,aY,b7,cw,ba,Pk.val,Pk.cells]at a6 ⊢
  cases hx:bR s2.ls dest s2.now with
  |none=>
   simp only[hx,fX,fW,bM]at a1;repeat' (first|refine zbk ?_|refine zgv ?_|refine zgE ?_|refine ae (id:=26) (.range 12) 6 [3,5] ?_|intro K hK|refine ax ?_|(refine aF ?_ ?_<;>intro hc<;>try exact aG)|refine zw3 λg=> ?_|refine bQ λg=> ?_|(refine cZ a1 λx1=> ?_;clear a1)|refine cZ a5 λx4=> ?_|refine cZ a6 λx5=> ?_)
   exact aj (.inr rfl) rfl ⟨(),rfl,by rw[Ay];exact ah⟩
  |some x=>
   obtain rfl:unknown=false:=by cases unknown;rfl;exact absurd ⟨x,hx,.inl rfl⟩ hA
   have vR:¬ak<=x.seq:=λe=>hA ⟨x,hx,.inr e⟩;simp only[hx,fX,fW,bM]at a1;repeat' (first|refine zbk ?_|refine zgv ?_|refine zgE ?_|refine ae (id:=26) (.range 12) 6 [3,5] ?_|intro K hK|refine ax ?_|(refine aF ?_ ?_<;>intro hc<;>try exact aG)|refine zw3 λg=> ?_|refine bQ λg=> ?_|(refine cZ a1 λx1=> ?_;clear a1)|refine cZ a5 λx4=> ?_|refine cZ a6 λx5=> ?_)
   exact aj (.inr rfl) rfl ⟨(),rfl,by rw[Ay];exact ah⟩
 |some l=>
  have Ay:=Ax.trans (show s2.gR ⟨bK,kind,aH,unknown,id,dest,ak,from_,av,bD,lost,ar⟩=s2.send 0 ⟨bK - 1,kind,min (aH+1) 255,false,id,dest,max ak l.seq,from_,av,bD,lost,ar⟩ by unfold Nd.gR;simp only;rw[eQ ht,hg];rfl)
  have a5:=mo w0 h1.tb s2.self s2.ls dest
  have a6:=Bi w0 gn s2 h1 0 ⟨bK - 1,kind,min (aH+1) 255,false,id,dest,max ak l.seq,from_,av,bD,lost,ar⟩ ⟨by simp only[cM]at*;omega,by simpa only[cM]using ma,by simp only[cM]at*;omega,by simp only;omega,by simp only;omega⟩ (.slice A lost.length c) rfl (rows 180 2 bB (.slice A lost.length c) lost) (fy _ _ _ _ _) mF
  simp only[hg,eJ,uz]at a5
  simp only[bG,aY,b7,cw,ba,Pk.val,Pk.cells]at a6 ⊢
  cases hx:bR s2.ls dest s2.now with
  |none=>
   simp only[hx,fX,fW,bM]at a1;repeat' (first|refine zbk ?_|refine zgv ?_|refine zgE ?_|refine ae (id:=26) (.range 12) 6 [3,5] ?_|intro K hK|refine ax ?_|(refine aF ?_ ?_<;>intro hc<;>try exact aG)|refine zw3 λg=> ?_|refine bQ λg=> ?_|(refine cZ a1 λx1=> ?_;clear a1)|refine cZ a5 λx4=> ?_|refine cZ a6 λx5=> ?_)
   exact aj (.inr rfl) rfl ⟨(),rfl,by rw[Ay];exact ah⟩
  |some x=>
   obtain rfl:unknown=false:=by cases unknown;rfl;exact absurd ⟨x,hx,.inl rfl⟩ hA
   have vR:¬ak<=x.seq:=λe=>hA ⟨x,hx,.inr e⟩;simp only[hx,fX,fW,bM]at a1;repeat' (first|refine zbk ?_|refine zgv ?_|refine zgE ?_|refine ae (id:=26) (.range 12) 6 [3,5] ?_|intro K hK|refine ax ?_|(refine aF ?_ ?_<;>intro hc<;>try exact aG)|refine zw3 λg=> ?_|refine bQ λg=> ?_|(refine cZ a1 λx1=> ?_;clear a1)|refine cZ a5 λx4=> ?_|refine cZ a6 λx5=> ?_)
   exact aj (.inr rfl) rfl ⟨(),rfl,by rw[Ay];exact ah⟩
end
end Go.Proofs.YtapoehkdnglahabGreat
