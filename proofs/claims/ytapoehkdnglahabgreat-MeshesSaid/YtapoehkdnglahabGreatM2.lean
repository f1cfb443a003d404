/- A part. -/
import Derived.Test.YtapoehkdnglahabGreatMx
import Derived.Test.YtapoehkdnglahabGreatMy
set_option maxHeartbeats 32000000
set_option maxRecDepth 100000
set_option linter.all false
namespace Go.Proofs.YtapoehkdnglahabGreat
section
open Go.RowKit
theorem Twin.Gl {W} {s:Nd} {d:RD} (h:Twin W s d):d.seen.length=s.order.length:=by rw[h.seen];simp
theorem Twin.lines {W} {s:Nd} {d} (h:Twin W s d) {ls} (hd:∀x∈aO s.ls,x∈aO ls):Twin W {s with ls:=ls} d:=h.to (Nd.Alike.Yy hd) rfl rfl rfl rfl rfl
theorem Twin.NM {W s d} (h:Twin W s d) (q):Twin W {s with seq:=q} d:=h.to ⟨rfl,rfl,λl hl=>⟨l,hl,rfl⟩,rfl,rfl,rfl,rfl,rfl,rfl,rfl,rfl,rfl,rfl⟩ rfl rfl rfl rfl rfl
attribute [local irreducible] WS LS OpQ y6 cn cv Spec bA aK di cq
variable (w0:World)
theorem yK (W:TW) (gn:Nat) (s:Nd) (src:UInt32) (p:Pk) (hp:p.Read) (RB:p.unknown=true->p.ak=0) (v:Value) (ok:aW s.ls) (ho:s.order.length<=16) (hf:s.Fit 1):Spec ucC w0 132 [ptr gn 0,u32 src,p.val v] (qe W gn s*rows 180 2 bB v p.lost) (λ_:Unit=> .tuple #[]) (λ_=>qe W gn (s.qd src p)):=by
 refine eZ Tryz.func132 Tryz.ntmps132 λG=> ?_;refine jl v iI λA c hv=> ?_;subst hv;obtain⟨Mm,ma,OT,OU,OV⟩:=hp;obtain⟨bK,kind,aH,unknown,id,dest,ak,from_,av,bD,lost,ar⟩:=p;simp only[Pk.val,Pk.cells,aN]at*
 refine rz (W:=W) (g:=gn) (s:=s) iI λd tw=> ?_;have Lw:=tw.Gl;have J0:=tw.RI from_ id;have p0:=uh w0 gn s d from_ id (by omega);rw[J0]at p0;have p1:=cx w0 gn s d 1 (by have:=hf.dropped;omega);unfold cR at*
 simp only[bN,ad]at p0 p1 ⊢;by_cases h1:from_=s.self
 ·have es:s.qd src ⟨bK,kind,aH,unknown,id,dest,ak,from_,av,bD,lost,ar⟩=s.drop 1:=by unfold Nd.qd;rw[jF (.inl h1)]
  exact paA
 by_cases h2:s.now<seenAt s.seen ⟨from_,id⟩
 ·have es:s.qd src ⟨bK,kind,aH,unknown,id,dest,ak,from_,av,bD,lost,ar⟩=s.drop 1:=by unfold Nd.qd;rw[jF (.inr h2)]
  rw[Dp h2]at p0;exact paA
 clear p1;rw[EH h2]at p0;have uO:=λvs=>tw.aT ⟨from_,id⟩ h2 (λe=>absurd e h1) vs;obtain⟨sn,od,Lv⟩:=s.oZ ⟨from_,id⟩;have p2:=o4 w0 gn s d ⟨from_,id⟩ (by omega);have p3:=uJ w0 (aH+1) 255;have p4:=NL w0 d.tb s.self s.ls ok from_ av (min (aH+1) 255) src (s.now+3000);have okU:=ok.La s.self (Ln.bj from_ av (min (aH+1) 255) src (s.now+3000)) (by simp only[Ln.bj];omega);have IA:=pT s.self s.ls (Ln.bj from_ av (min (aH+1) 255) src (s.now+3000));have Lm:=pz s.self s.ls (Ln.bj from_ av (min (aH+1) 255) src (s.now+3000));have es:s.qd src ⟨bK,kind,aH,unknown,id,dest,ak,from_,av,bD,lost,ar⟩=if(dI s.self s.ls (Ln.bj from_ av (min (aH+1) 255) src (s.now+3000))).1=4 then Nd.drop {s.aT ⟨from_,id⟩with ls:=(dI s.self s.ls (Ln.bj from_ av (min (aH+1) 255) src (s.now+3000))).2} 2 else Nd.jy {s.aT ⟨from_,id⟩with ls:=if(dI s.self s.ls (Ln.bj from_ av (min (aH+1) 255) src (s.now+3000))).1=3 then iY (dI s.self s.ls (Ln.bj from_ av (min (aH+1) 255) src (s.now+3000))).2 from_ (s.now+3000)else(dI s.self s.ls (Ln.bj from_ av (min (aH+1) 255) src (s.now+3000))).2} ⟨bK,kind,aH,unknown,id,dest,ak,from_,av,bD,lost,ar⟩:=by
  unfold Nd.qd;simp only;rw[eQ (by rintro(e|e);exact h1 e;exact h2 e),Lv];rfl
 generalize hu:dI s.self s.ls (Ln.bj from_ av (min (aH+1) 255) src (s.now+3000))=u at p4 IA okU es Lm;obtain⟨e,gj⟩:=u;simp only at p4 IA okU es Lm;have p6:=Df w0 d.tb s.self gj okU from_ (s.now+3000);clear hu;unfold cR at p2;simp only[bN]at p2;have Rn:∀vs,bc {d with vs:=vs,seen:=qR s.now d.seen ⟨from_,id⟩}=bc {d with vs:=vs,seen:=qR s.now d.seen ⟨from_,id⟩}:=λ_=>rfl;by_cases Hg:e=4
 ·rw[jF Hg]at es;subst Hg;have p5:=λvs=>cx w0 gn {s with ls:=gj} {d with vs:=vs,seen:=qR s.now d.seen ⟨from_,id⟩} 2 (by have:=hf.dropped;show s.out.dropped.length<=_;omega);unfold cR at p5;simp only[bN]at p5;repeat' (first|(refine hK _ ?_;clear hK K)|refine ag (id:=2) (.range 10) ?_|refine ae (id:=6) (.range 17) 15 [3,5,7,13] ?_|intro K hK|intro hc|refine xyZ ?_|refine aF ?_ ?_|refine zw6 ?_|refine bT λg=> ?_|(refine cZ p0 λx0=> ?_;clear p0)|(refine ai (aa iI rfl p2 iI) rfl ?_;intro vs;clear p2;replace p5:=p5 vs)|refine cZ p3 λx3=> ?_|refine cZ p4 λx4=> ?_|refine cZ p5 λx5=> ?_)
  refine aj (.inl rfl) rfl ⟨(),rfl,?_⟩;rw[es,Lv];have lD:=((uO vs).lines (ls:=gj) (by rw[Lv];exact Lm)).drop 2 x5;rw[Lv]at lD;exact aq.rn lD (by unfold cR;simp only[bN,Nd.drop];exact ah)
 rw[eQ Hg]at es;obtain⟨Km,qG⟩:∃Km,Km=if e=3 then iY gj from_ (s.now+3000)else gj:=⟨_,rfl⟩
 have Px:aW Km:=by rw[qG];split;exact okU.use _ _;exact okU
 have rU:∀x∈aO s.ls,x∈aO Km:=λx hx=>by
  rw[qG];split
  ·rw[gY];exact Lm x hx
  ·exact Lm x hx
 obtain⟨s2,fP⟩:∃s2:Nd,s2={s.aT ⟨from_,id⟩with ls:=Km}:=⟨_,rfl⟩
 have oX:aW s2.ls:=by rw[fP];exact Px
 have mF:s2.Fit 1:=by rw[fP,Lv];exact⟨hf.aJ,hf.cj,hf.dropped,hf.aI,hf.ay⟩
 rw[<-qG,<-fP]at es;rw[es];have OZ:s2={s with seen:=sn,order:=od,ls:=Km}:=by rw[fP,Lv]
 have lD:∀vs,Twin W s2 {d with vs:=vs,seen:=qR s.now d.seen ⟨from_,id⟩}:=λvs=>by
  rw[fP];exact(uO vs).lines (by rw[Lv];exact rU)
 clear es fP;repeat' (first|(refine hK _ ?_;clear hK K)|(show WS _ _ _ (.seq (.seq (.region 9 _ _) _) _) _ _;refine ab ?_;intro K hK;refine nC hK (λτ=>∃gp d2,Twin W s2 d2/\τ=⟨[(7,.int .i64 (min (aH+1) 255)),(5,ptr gp 0),(1,u32 src),(0,ptr gn 0)],[],aK gn 195 (bN s2 d2 s2.out)*(rows 28 3 Rec.cells d2.vr s2.aI*(rows 28 3 Rec.cells d2.vh d2.held*(ct d2.tb s2.self s2.ls*(cy d2 s2.out*(bc d2*(aK gp 44 [.int .i64 bK,.int .i64 kind,.int .i64 aH,.bool unknown,u32 id,u32 dest,u32 ak,u32 from_,u32 av,u32 bD,.slice A lost.length c,aZ ar]*(rows 180 2 bB (.slice A lost.length c) lost*G)))))))⟩) ?_ ?_)|refine ag (id:=2) (.range 10) ?_|refine ae (id:=6) (.range 17) 15 [3,5,7,13] ?_|refine ae (id:=10) (.range 12) 11 [3,5,9] ?_|refine ab λK hK=> ?_|refine ax ?_|(refine aF ?_ ?_<;>intro hc<;>try exact aG)|((first|refine dn rfl rfl iI rfl ?_ ?_|refine dm rfl rfl iI rfl ?_ ?_|refine dU rfl rfl iI rfl ?_ ?_)<;>intro hc)|refine zw6 ?_|refine bT λg=> ?_|(refine cZ p0 λx0=> ?_;clear p0)|(refine cZ p2 λvs=> ?_;clear p2)|refine cZ p3 λx3=> ?_|refine cZ p4 λx4=> ?_|refine cZ p6 λx6=> ?_)
 ·have AJ:e=3:=by first|exact uaM (by assumption)|assumption|omega
  rw[jF AJ]at qG;exact pba
 ·have AJ:¬e=3:=by first|exact ub2 (by assumption)|assumption|omega
  rw[eQ AJ]at qG;exact pba
 clear lD OZ qG okU p4 p6 IA Lm;rintro τ ⟨gp,d2,lD,rfl⟩;clear uO Rn;have Wd:(⟨bK,kind,aH,unknown,id,dest,ak,from_,av,bD,lost,ar⟩:Pk).Ok:=⟨by simp only[cM];omega,by simpa only[cM]using ma,by simp only[cM];omega,by simp only;omega,by simp only;omega⟩
 by_cases hd:dest=s2.self
 ·subst hd;have key:∀q:UInt32,q=(if unknown then s2.seq else max s2.seq ak)->Nd.answer {s2 with seq:=q} ⟨8,2,0,false,0,s2.self,q,from_,0,6000,[],[]⟩=s2.jy ⟨bK,kind,aH,unknown,id,s2.self,ak,from_,av,bD,lost,ar⟩:=λq hq=>by
   unfold Nd.jy;simp only[YZ];rw[<-hq];rfl
  have a5:=λq:UInt32=>sA w0 W gn {s2 with seq:=q} d2 (lD.NM q) ⟨bK,kind,aH,unknown,id,s2.self,ak,from_,av,bD,lost,ar⟩ ⟨8,2,0,false,0,s2.self,q,from_,0,6000,[],[]⟩ (.slice A lost.length c) Wd ⟨by simp[cM],by simp[cM],by simp[cM],by simp,by simp⟩ rfl rfl oX ⟨mF.aJ,mF.cj,mF.dropped,mF.aI,mF.ay⟩ ⟨rfl,rfl⟩ rfl;unfold cR at a5;simp only[bN,Pk.val,Pk.cells]at a5 ⊢;cases unknown with
  |true=>
   replace key:=key s2.seq rfl;replace a5:=a5 s2.seq;repeat' (first|(refine hK _ ?_;clear hK K)|refine zbk ?_|refine zhe ?_|refine ae (id:=14) (.range 14) 13 [1,5,9,11] ?_|intro K hK|intro hc|refine xyZ ?_|refine aF ?_ ?_|((first|refine' bP rfl rfl rfl ?zh ?_|refine' bk rfl rfl ?zh ?_);case zh=>intro F';exact bp rfl rfl iI (by first|assumption|omega|decide|rfl))|refine cZ a5 λx5=> ?_)
   exact aj (.inl rfl) rfl ⟨(),rfl,by rw[<-key];exact ah⟩
  |false=>
   by_cases hs:s2.seq<ak
   ·have Ml:ak=max s2.seq ak:=by
     show ak=if s2.seq<=ak then ak else s2.seq
     rw[jF (ubu hs)]
    replace key:=key ak (by simpa using Ml);replace a5:=a5 ak;repeat' (first|(refine hK _ ?_;clear hK K)|refine zbk ?_|refine zhe ?_|refine ae (id:=14) (.range 14) 13 [1,5,9,11] ?_|intro K hK|intro hc|refine xyZ ?_|refine aF ?_ ?_|((first|refine' LQ ?zh rfl ?_|refine' bP rfl rfl rfl ?zh ?_|refine' bk rfl rfl ?zh ?_|refine' zab rfl rfl rfl ?zh ?_);case zh=>intro F';exact bp rfl rfl iI (by first|assumption|omega|decide|rfl))|refine bQ λg=> ?_|refine cZ a5 λx5=> ?_)
    exact aj (.inl rfl) rfl ⟨(),rfl,by rw[<-key];exact ah⟩
   ·have Ml:s2.seq=max s2.seq ak:=by
     show s2.seq=if s2.seq<=ak then ak else s2.seq
     split
     ·rename_i h;exact ub3 h (ubR.1 hs)
     ·rfl
    replace key:=key s2.seq (by simpa using Ml);replace a5:=a5 s2.seq;repeat' (first|(refine hK _ ?_;clear hK K)|refine zbk ?_|refine zhe ?_|refine ae (id:=14) (.range 14) 13 [1,5,9,11] ?_|intro K hK|intro hc|refine xyZ ?_|refine aF ?_ ?_|((first|refine' bP rfl rfl rfl ?zh ?_|refine' bk rfl rfl ?zh ?_|refine' zab rfl rfl rfl ?zh ?_);case zh=>intro F';first|exact bp rfl rfl iI (by first|assumption|omega|decide|rfl)|exact bH rfl rfl iI (by first|assumption|omega|decide|rfl))|refine cZ a5 λx5=> ?_)
    exact aj (.inl rfl) rfl ⟨(),rfl,by rw[<-key];exact ah⟩
 by_cases hA:∃x,bR s2.ls dest s2.now=some x/\(unknown=true\/ak<=x.seq)
 ·obtain⟨x,hx,hc⟩:=hA;obtain⟨IG,rW⟩:∃IG,IG=match bR s2.ls from_ s2.now with|some b=>gF s2.ls dest b.next|none=>s2.ls:=⟨_,rfl⟩
  have RW:aW IG:=by rw[rW];split;exact oX.FK _ _;exact oX
  have PZ:∀y∈aO s2.ls,y∈aO (gF IG from_ x.next):=λy hy=>by
   rw[jE,rW];split
   ·rw[jE];exact hy
   ·exact hy
  have Ax:s2.jy ⟨bK,kind,aH,unknown,id,dest,ak,from_,av,bD,lost,ar⟩=Nd.answer {s2 with ls:=gF IG from_ x.next} ⟨8,2,x.aH,false,0,dest,x.seq,from_,0,(x.cB - s2.now).toUInt32,[],[]⟩:=by
   unfold Nd.jy;simp only;rw[eQ hd,hx];simp only;rw[jF hc];unfold Nd.Jd;rw[rW];rfl
  have a1:=nU w0 d2.tb s2.self s2.ls oX dest s2.now;have a2:=nU w0 d2.tb s2.self s2.ls oX from_ s2.now;have a4:=sC w0 d2.tb s2.self IG RW from_ x.next;have Mu:=(zy hx)
  have Ym:=oX.aH x Mu;have a5:=sA w0 W gn {s2 with ls:=gF IG from_ x.next} d2 (lD.lines PZ) ⟨bK,kind,aH,unknown,id,dest,ak,from_,av,bD,lost,ar⟩ ⟨8,2,x.aH,false,0,dest,x.seq,from_,0,(x.cB - s2.now).toUInt32,[],[]⟩ (.slice A lost.length c) Wd ⟨by simp[cM],by simp[cM],by simp only[cM];omega,by simp,by simp⟩ rfl rfl (RW.FK _ _) (mF.ls _) ⟨rfl,rfl⟩ rfl;unfold cR at a5;rw[Ax];simp only[bN,Pk.val,Pk.cells]at a5 ⊢;cases hy:bR s2.ls from_ s2.now with
  |none=>
   simp only[hy]at rW;subst rW;simp only[hx,hy,eY,bM,uz,sH]at a1 a2;cases unknown with
   |true=>
    repeat' (first|(refine hK _ ?_;clear hK K)|refine zbk ?_|refine zgv ?_|refine zgE ?_|refine zhL ?_|refine zhd ?_|refine zhG ?_|refine zhn ?_|intro K hK|intro hc|refine xyZ ?_|refine aF ?_ ?_|refine zw3 λg=> ?_|refine zbr ?_|refine zgQ ?_|refine bQ λg=> ?_|(refine cZ a1 λx1=> ?_;clear a1)|(refine cZ a2 λx2=> ?_;clear a2)|(refine cZ a4 λx4=> ?_;clear a4)|refine cZ a5 λx5=> ?_)
    exact aj (.inl rfl) rfl ⟨(),rfl,ah⟩
   |false=>
    have vR:ak<=x.seq:=by simpa using hc
    repeat' (first|(refine hK _ ?_;clear hK K)|refine zbk ?_|refine zgv ?_|refine zgE ?_|refine zhL ?_|refine zhd ?_|refine zhG ?_|refine zhn ?_|intro K hK|intro hc|refine xyZ ?_|refine aF ?_ ?_|refine zw3 λg=> ?_|refine zbr ?_|refine zgQ ?_|refine bQ λg=> ?_|(refine cZ a1 λx1=> ?_;clear a1)|(refine cZ a2 λx2=> ?_;clear a2)|(refine cZ a4 λx4=> ?_;clear a4)|refine cZ a5 λx5=> ?_)
    exact aj (.inl rfl) rfl ⟨(),rfl,ah⟩
  |some y=>
   simp only[hy]at rW
   have a3:=sC w0 d2.tb s2.self s2.ls oX dest y.next
   rw[<-rW]at a3
   simp only[hx,hy,eY,bM,uz,sH]at a1 a2
   cases unknown with
   |true=>
    repeat' (first|(refine hK _ ?_;clear hK K)|refine zbk ?_|refine zgv ?_|refine zgE ?_|refine zhL ?_|refine zhd ?_|refine ae (id:=19) (.range 9) 8 [3,5,7] ?_|refine zhG ?_|refine zhn ?_|intro K hK|intro hc|refine xyZ ?_|refine aF ?_ ?_|refine zw3 λg=> ?_|refine zbr ?_|refine zgQ ?_|refine bQ λg=> ?_|(refine cZ a1 λx1=> ?_;clear a1)|(refine cZ a2 λx2=> ?_;clear a2)|(refine cZ a3 λx3=> ?_;clear a3)|(refine cZ a4 λx4=> ?_;clear a4)|refine cZ a5 λx5=> ?_)
    exact aj (.inl rfl) rfl ⟨(),rfl,ah⟩
   |false=>
    have vR:ak<=x.seq:=by simpa using hc
    repeat' (first|(refine hK _ ?_;clear hK K)|refine zbk ?_|refine zgv ?_|refine zgE ?_|refine zhL ?_|refine zhd ?_|refine ae (id:=19) (.range 9) 8 [3,5,7] ?_|refine zhG ?_|refine zhn ?_|intro K hK|intro hc|refine xyZ ?_|refine aF ?_ ?_|refine zw3 λg=> ?_|refine zbr ?_|refine zgQ ?_|refine bQ λg=> ?_|(refine cZ a1 λx1=> ?_;clear a1)|(refine cZ a2 λx2=> ?_;clear a2)|(refine cZ a3 λx3=> ?_;clear a3)|(refine cZ a4 λx4=> ?_;clear a4)|refine cZ a5 λx5=> ?_)
    exact aj (.inl rfl) rfl ⟨(),rfl,ah⟩
 have Ax:s2.jy ⟨bK,kind,aH,unknown,id,dest,ak,from_,av,bD,lost,ar⟩=s2.gR ⟨bK,kind,aH,unknown,id,dest,ak,from_,av,bD,lost,ar⟩:=by
  unfold Nd.jy;simp only;rw[eQ hd];cases hx:bR s2.ls dest s2.now with
  |none=>rfl
  |some x=>simp only;rw[eQ (λhc=>hA ⟨x,hx,hc⟩)]
 have a1:=nU w0 d2.tb s2.self s2.ls oX dest s2.now;have RC:∀x,bR s2.ls dest s2.now=some x->unknown=false/\¬ak<=x.seq:=λx hx=>⟨by cases unknown;rfl;exact absurd ⟨x,hx,.inl rfl⟩ hA,λe=>hA ⟨x,hx,.inr e⟩⟩
 by_cases ht:bK=1
 ·have Ay:=Ax.trans (show s2.gR ⟨bK,kind,aH,unknown,id,dest,ak,from_,av,bD,lost,ar⟩=s2.drop 4 by unfold Nd.gR;simp only;rw[jF ht]);have a6:=cx w0 gn s2 d2 4 (by have:=mF.dropped;omega);unfold cR at a6;simp only[bN]at a6 ⊢;rw[Ay];cases hx:bR s2.ls dest s2.now with
  |none=>
   simp only[hx,eY,bM,sH]at a1;repeat' (first|(refine hK _ ?_;clear hK K)|refine zbk ?_|refine zgv ?_|refine zgE ?_|intro K hK|intro hc|refine xyZ ?_|refine aF ?_ ?_|refine zw3 λg=> ?_|refine bQ λg=> ?_|(refine cZ a1 λx1=> ?_;clear a1)|refine cZ a6 λx5=> ?_)
   exact aj (.inl rfl) rfl ⟨(),rfl,aq.rn (lD.drop 4 x5) (by unfold cR;simp only[bN,cy,bc];exact ah)⟩
  |some x=>
   obtain⟨rfl,vR⟩:=RC x hx;simp only[hx,eY,bM,uz]at a1;repeat' (first|(refine hK _ ?_;clear hK K)|refine zbk ?_|refine zgv ?_|refine zgE ?_|intro K hK|intro hc|refine xyZ ?_|refine aF ?_ ?_|refine zw3 λg=> ?_|refine bQ λg=> ?_|(refine cZ a1 λx1=> ?_;clear a1)|refine cZ a6 λx5=> ?_)
   exact aj (.inl rfl) rfl ⟨(),rfl,aq.rn (lD.drop 4 x5) (by unfold cR;simp only[bN,cy,bc];exact ah)⟩
 have a2:=uf w0 gn s2 d2 s2.out oX dest;simp only[bN]at a2;cases hg:dG s2.ls dest with
 |none=>
  have Ay:=Ax.trans (show s2.gR ⟨bK,kind,aH,unknown,id,dest,ak,from_,av,bD,lost,ar⟩=s2.send 0 ⟨bK - 1,kind,min (aH+1) 255,unknown,id,dest,ak,from_,av,bD,lost,ar⟩ by unfold Nd.gR;simp only;rw[eQ ht,hg];rfl);simp only[hg,eJ,sH]at a2;rw[Ay];have a6:=fS w0 gn s2 d2 0 ⟨bK - 1,kind,min (aH+1) 255,unknown,id,dest,ak,from_,av,bD,lost,ar⟩ ⟨by simp only[cM];omega,by simpa only[cM]using ma,by simp only[cM];omega,by simp only;omega,by simp only;omega⟩ (.slice A lost.length c) rfl (rows 180 2 bB (.slice A lost.length c) lost) (hX:=fy _ _ _ _ _) (by have:=mF.aJ;omega);unfold cR at a6;simp only[bN,Pk.val,Pk.cells]at a6 ⊢;cases hx:bR s2.ls dest s2.now with
  |none=>
   simp only[hx,eY,bM,sH]at a1;repeat' (first|(refine hK _ ?_;clear hK K)|refine zbk ?_|refine zgv ?_|refine zgE ?_|intro K hK|intro hc|refine xyZ ?_|refine aF ?_ ?_|refine zw3 λg=> ?_|refine bQ λg=> ?_|(refine cZ a1 λx1=> ?_;clear a1)|(refine cZ a2 λx2=> ?_;clear a2)|refine cZ a6 λx5=> ?_)
   exact aj (.inr rfl) rfl ⟨(),rfl,aq.rn (lD.send 0 ⟨bK - 1,kind,min (aH+1) 255,unknown,id,dest,ak,from_,av,bD,lost,ar⟩ x5) (by unfold cR;simp only[bN,cy,bc];exact ah)⟩
  |some x=>
   obtain⟨rfl,vR⟩:=RC x hx;simp only[hx,eY,bM,uz]at a1;repeat' (first|(refine hK _ ?_;clear hK K)|refine zbk ?_|refine zgv ?_|refine zgE ?_|intro K hK|intro hc|refine xyZ ?_|refine aF ?_ ?_|refine zw3 λg=> ?_|refine bQ λg=> ?_|(refine cZ a1 λx1=> ?_;clear a1)|(refine cZ a2 λx2=> ?_;clear a2)|refine cZ a6 λx5=> ?_)
   exact aj (.inr rfl) rfl ⟨(),rfl,aq.rn (lD.send 0 ⟨bK - 1,kind,min (aH+1) 255,false,id,dest,ak,from_,av,bD,lost,ar⟩ x5) (by unfold cR;simp only[bN,cy,bc];exact ah)⟩
 |some l=>
  simp only[hg,eJ,uz]at a2
  by_cases hn:unknown=true\/ak<l.seq
  ·have Ml:max ak l.seq=l.seq:=by
    show(if ak<=l.seq then l.seq else ak)=l.seq;rw[jF];rcases hn with hn|hn
    ·rw[RB hn];exact UInt32.zero_le
    ·exact ubu hn
   have Ay:=Ax.trans (show s2.gR ⟨bK,kind,aH,unknown,id,dest,ak,from_,av,bD,lost,ar⟩=s2.send 0 ⟨bK - 1,kind,min (aH+1) 255,false,id,dest,l.seq,from_,av,bD,lost,ar⟩ by unfold Nd.gR;simp only;rw[eQ ht,hg];simp only[Ml];rfl)
   rw[Ay]
   have a6:=fS w0 gn s2 d2 0 ⟨bK - 1,kind,min (aH+1) 255,false,id,dest,l.seq,from_,av,bD,lost,ar⟩ ⟨by simp only[cM];omega,by simpa only[cM]using ma,by simp only[cM];omega,by simp only;omega,by simp only;omega⟩ (.slice A lost.length c) rfl (rows 180 2 bB (.slice A lost.length c) lost) (hX:=fy _ _ _ _ _) (by have:=mF.aJ;omega)
   unfold cR at a6
   simp only[bN,Pk.val,Pk.cells]at a6 ⊢
   cases unknown with
   |true=>
    cases hx:bR s2.ls dest s2.now with
    |none=>
     simp only[hx,eY,bM,sH]at a1
     repeat' (first|(refine hK _ ?_;clear hK K)|refine zbk ?_|refine zgv ?_|refine zgE ?_|intro K hK|intro hc|refine xyZ ?_|refine aF ?_ ?_|refine zw3 λg=> ?_|refine bQ λg=> ?_|(refine cZ a1 λx1=> ?_;clear a1)|(refine cZ a2 λx2=> ?_;clear a2)|refine cZ a6 λx5=> ?_)
     exact aj (.inr rfl) rfl ⟨(),rfl,aq.rn (lD.send 0 ⟨bK - 1,kind,min (aH+1) 255,false,id,dest,l.seq,from_,av,bD,lost,ar⟩ x5) (by unfold cR;simp only[bN,cy,bc];exact ah)⟩
    |some x=>exact absurd (RC x hx).1 (by decide)
   |false=>
    have vT:ak<l.seq:=by simpa using hn
    cases hx:bR s2.ls dest s2.now with
    |none=>
     simp only[hx,eY,bM,sH]at a1
     repeat' (first|(refine hK _ ?_;clear hK K)|refine zbk ?_|refine zgv ?_|refine zgE ?_|intro K hK|intro hc|refine xyZ ?_|refine aF ?_ ?_|refine zw3 λg=> ?_|refine bQ λg=> ?_|(refine cZ a1 λx1=> ?_;clear a1)|(refine cZ a2 λx2=> ?_;clear a2)|refine cZ a6 λx5=> ?_)
     exact aj (.inr rfl) rfl ⟨(),rfl,aq.rn (lD.send 0 ⟨bK - 1,kind,min (aH+1) 255,false,id,dest,l.seq,from_,av,bD,lost,ar⟩ x5) (by unfold cR;simp only[bN,cy,bc];exact ah)⟩
    |some x=>
     have vR:=(RC x hx).2
     simp only[hx,eY,bM,uz]at a1
     repeat' (first|(refine hK _ ?_;clear hK K)|refine zbk ?_|refine zgv ?_|refine zgE ?_|intro K hK|intro hc|refine xyZ ?_|refine aF ?_ ?_|refine zw3 λg=> ?_|refine bQ λg=> ?_|(refine cZ a1 λx1=> ?_;clear a1)|(refine cZ a2 λx2=> ?_;clear a2)|refine cZ a6 λx5=> ?_)
     exact aj (.inr rfl) rfl ⟨(),rfl,aq.rn (lD.send 0 ⟨bK - 1,kind,min (aH+1) 255,false,id,dest,l.seq,from_,av,bD,lost,ar⟩ x5) (by unfold cR;simp only[bN,cy,bc];exact ah)⟩
  ·obtain rfl:unknown=false:=by cases unknown;rfl;exact absurd (.inl rfl) hn
   have vT:¬ak<l.seq:=λh=>hn (.inr h)
   have Ml:max ak l.seq=ak:=by
    show(if ak<=l.seq then l.seq else ak)=ak;split
    ·rename_i h;exact ub3 (ubR.1 vT) h
    ·rfl
   have Ay:=Ax.trans (show s2.gR ⟨bK,kind,aH,false,id,dest,ak,from_,av,bD,lost,ar⟩=s2.send 0 ⟨bK - 1,kind,min (aH+1) 255,false,id,dest,ak,from_,av,bD,lost,ar⟩ by unfold Nd.gR;simp only;rw[eQ ht,hg];simp only[Ml];rfl)
   rw[Ay]
   have a6:=fS w0 gn s2 d2 0 ⟨bK - 1,kind,min (aH+1) 255,false,id,dest,ak,from_,av,bD,lost,ar⟩ ⟨by simp only[cM];omega,by simpa only[cM]using ma,by simp only[cM];omega,by simp only;omega,by simp only;omega⟩ (.slice A lost.length c) rfl (rows 180 2 bB (.slice A lost.length c) lost) (hX:=fy _ _ _ _ _) (by have:=mF.aJ;omega)
   unfold cR at a6
   simp only[bN,Pk.val,Pk.cells]at a6 ⊢
   cases hx:bR s2.ls dest s2.now with
   |none=>
    simp only[hx,eY,bM,sH]at a1
    repeat' (first|(refine hK _ ?_;clear hK K)|refine zbk ?_|refine zgv ?_|refine zgE ?_|intro K hK|intro hc|refine xyZ ?_|refine aF ?_ ?_|refine zw3 λg=> ?_|refine bQ λg=> ?_|(refine cZ a1 λx1=> ?_;clear a1)|(refine cZ a2 λx2=> ?_;clear a2)|refine cZ a6 λx5=> ?_)
    exact aj (.inr rfl) rfl ⟨(),rfl,aq.rn (lD.send 0 ⟨bK - 1,kind,min (aH+1) 255,false,id,dest,ak,from_,av,bD,lost,ar⟩ x5) (by unfold cR;simp only[bN,cy,bc];exact ah)⟩
   |some x=>
    have vR:=(RC x hx).2
    simp only[hx,eY,bM,uz]at a1
    repeat' (first|(refine hK _ ?_;clear hK K)|refine zbk ?_|refine zgv ?_|refine zgE ?_|intro K hK|intro hc|refine xyZ ?_|refine aF ?_ ?_|refine zw3 λg=> ?_|refine bQ λg=> ?_|(refine cZ a1 λx1=> ?_;clear a1)|(refine cZ a2 λx2=> ?_;clear a2)|refine cZ a6 λx5=> ?_)
    exact aj (.inr rfl) rfl ⟨(),rfl,aq.rn (lD.send 0 ⟨bK - 1,kind,min (aH+1) 255,false,id,dest,ak,from_,av,bD,lost,ar⟩ x5) (by unfold cR;simp only[bN,cy,bc];exact ah)⟩
end
end Go.Proofs.YtapoehkdnglahabGreat
