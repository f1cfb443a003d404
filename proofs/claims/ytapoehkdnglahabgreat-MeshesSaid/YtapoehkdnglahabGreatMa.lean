/- A part. -/
import Derived.Lib.Hide
import Derived.BigQuiet
import Derived.WalkLawsBesides
import Derived.WalkSpells
import Derived.ProofKit
import Derived.OpenShut
import Derived.Deep.Fields
import Derived.OrdersHeld
import Derived.OrdersIn
import Derived.Great.BuildSlice
import Derived.Test.YtapoehkdnglahabGreatProg
import Derived.RangeFuncSeq
import Derived.RecoverIn
set_option linter.all false
namespace Go.Proofs.YtapoehkdnglahabGreat
theorem paa {p:Prop} (h:p:=by
 have hc:∀q,Pk.dec l=some q->q=p:=λq hq=>by
  rw[ku]at hq;obtain rfl:=dk hk (by decide);simp only[Pk.dec,Pk.body]at hq;repeat' split at hq
  all_goals first|(cases hq;done)|(exfalso;simp_all;done)|(cases hq;rw[hp];simp_all [cI])
 have n0:=cg w0 r (by omega);have n4:=cg w0 (r.drop 4) (by(try simp only[uK]);omega);have n8:=cg w0 (r.drop 8) (by(try simp only[uK]);omega);have n12:=cg w0 (r.drop 12) (by(try simp only[uK]);omega);have n16:=cg w0 (r.drop 16) (by(try simp only[uK]);omega);have gG:p.Ok:=by rw[hp];exact w7 (K7 _) (K7 _) (tH _) (by simp) (by simp<;>omega)
 haveI qH:eX w0 emp (.slice none 0 0) (UInt32×UInt32) 2 bB p.lost:=by rw[hp];exact mw emp 2 bB
 have dY:=gJ w0 p gG (.slice none 0 0) rfl emp;have jd:p.lost=[]:=by rw[hp]
 by_cases hF:p.Fits
 ·rw[Pk.mx hF]at dY;by_cases hB:p.bytes=l
  ·have hd:=mT hF hB;simp only[gl,ey,hd,CV,uz,YZ,jd];rw[hB]at dY;simp only[Pk.val,Pk.cells]at dY ⊢;subst hp;dsimp only at dY ⊢;clear hc gG hd jd qH;refine eZ Tryz.func128 Tryz.ntmps128 λG=> ?_;simp only[aN];repeat' (first|refine zgR ?_|refine zdl ?_|intro K hK|intro hc|refine xyZ ?_|refine aF ?_ ?_|refine zw3 λg=> ?_|refine zgO ?_|refine bT λg=> ?_|refine bQ λg=> ?_|refine cZ n0 λu=> ?_|refine cZ n4 λu=> ?_|refine cZ n8 λu=> ?_|refine cZ n12 λu=> ?_|refine cZ n16 λu=> ?_|refine cZ dY λu=> ?_|rw[uD])
   exact dF (.inl rfl) rfl (aS rfl iI iI rfl) (bh rfl) ⟨.slice none 0 0,rfl,ah⟩
  ·have hd:=gW hc (λh=>hB h.2);simp only[gl,ey,hd,Ju,sH,Pk.val,Pk.cells];simp only[Pk.val,Pk.cells]at dY;subst hp;dsimp only at dY ⊢;clear hc gG hd jd qH;refine eZ Tryz.func128 Tryz.ntmps128 λG=> ?_;simp only[aN];repeat' (first|refine zgR ?_|refine zdl ?_|intro K hK|intro hc|refine xyZ ?_|refine aF ?_ ?_|refine zw3 λg=> ?_|refine zgN ?_|refine bT λg=> ?_|refine bQ λg=> ?_|refine cZ n0 λu=> ?_|refine cZ n4 λu=> ?_|refine cZ n8 λu=> ?_|refine cZ n12 λu=> ?_|refine cZ n16 λu=> ?_|refine cZ dY λu=> ?_|rw[uD])
   exact dF (.inl rfl) rfl (aS rfl iI iI rfl) (bh rfl) ⟨.slice none 0 0,rfl,ah⟩
 ·rw[Pk.my hF]at dY;have hd:=gW hc (λh=>hF h.1);simp only[gl,ey,hd,Ju,sH,Pk.val,Pk.cells];simp only[Pk.val,Pk.cells]at dY;subst hp;dsimp only at dY ⊢;clear hc gG hd jd qH;refine eZ Tryz.func128 Tryz.ntmps128 λG=> ?_;simp only[aN];repeat' (first|refine zgR ?_|refine zdl ?_|intro K hK|intro hc|refine xyZ ?_|refine aF ?_ ?_|refine zw3 λg=> ?_|refine zgP ?_|refine bT λg=> ?_|refine bQ λg=> ?_|refine cZ n0 λu=> ?_|refine cZ n4 λu=> ?_|refine cZ n8 λu=> ?_|refine cZ n12 λu=> ?_|refine cZ n16 λu=> ?_|refine cZ dY λu=> ?_|rw[uD])
  exact dF (.inl rfl) rfl (aS rfl iI iI rfl) (bh rfl) ⟨.slice none 0 0,rfl,ah⟩):p:=h
theorem pab {p:Prop} (h:p:=by
 refine Spec.jr Tryz.func35 rfl Tryz.ntmps35 rfl λG=> ?_;simp only[aN];refine jb v (iI:eX w0 (X*G) v UInt8 1 bU (t::k::f::z::n::l)) λA cap hv=> ?_;subst hv;repeat' (first|intro K hK|(intro hc;try exact aG)|refine xyZ ?_|refine aF ?_ ?_|((first|refine dn rfl rfl iI rfl ?_ ?_|refine dm rfl rfl iI rfl ?_ ?_|refine dU rfl rfl iI rfl ?_ ?_)<;>intro hc)|refine bT λg=> ?_|refine bQ λg=> ?_|refine iv rfl rfl rfl ?_|(refine kz rfl iI iI rfl ?_)|(refine vF rfl iI iI rfl ?_ ?_<;>(intro hc;try simp only[uK]at hc))|(refine kW rfl rfl ?_ ?_<;>(intro hc;first|(cases hc;done)|skip))|with_reducible refine ij ?_|with_reducible refine kH ?_)
 all_goals
  first
  |(have hd:Pk.dec (t::k::f::z::n::l)=none:=by
     rw[Cc,eQ];first|((try simp only[uK]at*);omega)|(intro AI;simp_all [cI];done)
    refine jm rfl rfl iI iI rfl rfl ?_
    simp only[j6,ey,hd]
    exact⟨.slice none 0 0,rfl,ah⟩)
  |(have hd:=Cc.trans (jF (by first|((try simp only[uK]at*);omega)|(refine⟨by(try simp only[uK]at*);omega,?_⟩;simp_all [cI];done)))
    refine xR rfl rfl iI iI rfl ?_
    simp only[j6,ey,hd,CV,uz]
    exact⟨.slice none 0 0,by simp[Pk.val,Pk.cells,cI,h2, *],ah⟩)):p:=h
theorem pac {p:Prop} (h:p:=by
 repeat' (first|intro hc|refine xyZ ?_|refine aF ?_ ?_)
 exact aC (.inl rfl) rfl rfl ⟨(),rfl,ah⟩):p:=h
theorem pae {p:Prop} (h:p:=by
 refine oD 9 rfl (cn.form _ rfl (aR rfl rfl iI iI rfl iI iI cO (by first|omega|(simp;omega)) rfl)) λx9=> ?_;refine ec 10 rfl (λF'=>by exact db rfl) ?_;refine ec 11 rfl (λF'=>by first|exact bq rfl iI rfl|exact eG rfl iI iI rfl (by first|assumption|omega)) ?_;refine ed [12] ⟨?_,trivial⟩;refine uo 12 rfl (kV rfl rfl iI rfl iI rfl) λWL=> ?_;refine oE ?_;exact⟨_,⟨.slice x9.1 (s.aI++[(⟨o,a,q⟩:Rec)]).length x9.2,rfl⟩,cG,rfl,by simp only[zF];exact ah⟩):p:=h
theorem paf {p:Prop} (h:p:=by
 refine oD 9 rfl (cn.form _ rfl (aR rfl rfl iI iI rfl iI iI zaH (by first|omega|(simp;omega)) rfl)) λx9=> ?_;refine ec 10 rfl (λF'=>by exact db rfl) ?_;refine ec 11 rfl (λF'=>by first|exact bq rfl iI rfl|exact eG rfl iI iI rfl (by first|assumption|omega)) ?_;refine ed [12] ⟨?_,trivial⟩;refine uo 12 rfl (kV rfl rfl iI rfl iI rfl) λWL=> ?_;refine oE ?_;exact⟨_,⟨x9.1,x9.2,rfl⟩,⟨rfl,trivial⟩,rfl,by simp only[zF];exact ah⟩):p:=h
theorem pag {p:Prop} (h:p:=by
 have:=G2 List.length FW;rw[hev]at this;simpa using this):p:=h
theorem pah {p:Prop} (h:p:=by
 unfold cR bc cc at p3;simp only[bN,ad,Nd.drop]at p3;repeat' (first|(refine hK _ ?_;clear hK K)|refine ae (id:=9) (.range 15) 14 [3,7] ?_|refine zaN (id:=9) 4 0 (.range 15) 14 [] ?_|refine ag (id:=23) (.range 10) ?_|refine ae (id:=29) (.range 8) 7 [3,5,6] ?_|intro K hK|intro hc|refine xyZ ?_|refine aF ?_ ?_|refine zw1 ?_|refine bQ λg=> ?_|(refine' dP ?zh rfl rfl ?_;(case zh=>exact gV (⟨x.dest,x.bK,x.aU,s.now+1000,s.last+1,false⟩:Sk) rfl rfl rfl iI iI iI rfl rfl OJ);intro g5)|refine cZ p3 λvd=> ?_)
 exact aj (.inr rfl) rfl ⟨(),rfl,by rw[es];exact aq.rn (Bn vd d.vq) (by unfold cR bc cc;simp only[bN,cy,Nd.drop,Nd.cH,Nd.arm];exact ah)⟩):p:=h
theorem pai {p:Prop} (h:p:=by
 obtain rfl:=dk h2 (by decide);obtain rfl:=dk hz (by decide);obtain rfl:=dk hf (by decide);have xq:t≠0:=λe=>by rw[e]at ht;simp at ht
 simp[Pk.dec,Pk.body,xq]):p:=h
theorem paj {p:Prop} (h:p:=by
 repeat' (first|refine zgA ?_|intro hc|refine yZ ?_|refine aF ?_ ?_|refine zw5 ?_|refine zw1 ?_|refine cZ p3 λve2=> ?_|refine cZ p1 λu1=> ?_|refine cZ p2 λu2=> ?_)
 all_goals
  refine aj (.inl rfl) rfl ⟨[k8 0 5],rfl,?_⟩
  rw[ad (rmA _ _ _ _)]
  refine re (m:=m.refuse 0 5) va ve2 (by rw[EZ,FW];rfl) ?_
  refine zae (m:=m.refuse 0 5) gn e1 ?_
  unfold rmS y9
  simp only[r6,zak,ht,jo,zat,Ms.refuse,Ms.event,e9,evO,r5,k8,svV,cT,dS.zero,b5]
  exact ah):p:=h
theorem pak {p:Prop} (h:p:=by
 repeat' (first|intro K hK|(intro hc;try exact aG)|refine xyZ ?_|refine aF ?_ ?_|refine zw2 ?_|((first|refine dn rfl rfl iI rfl ?_ ?_|refine dm rfl rfl iI rfl ?_ ?_|refine dU rfl rfl iI rfl ?_ ?_)<;>intro hc)|refine bT λg=> ?_|refine bQ λg=> ?_)
 all_goals
  refine aC (.inl rfl) rfl rfl ⟨(.slice none 0 0,[]),rfl,?_⟩
  rw[qQ (by rw[hdo];rfl),hdo]
  simp only[zaj,b6,e9,aB,ad]
  refine aq.mX (va,.slice none 0 0) ?_
  simp only[b6,ad]
  exact ah):p:=h
theorem pal {p:Prop} (h:p:=by
 cases h;simp only;exact⟨trivial,trivial,trivial,by omega,by omega,by omega,by omega⟩):p:=h
theorem pam {p:Prop} (h:p:=by
 cases T9:bX M (⟨xs,xi⟩:Rq)<;>cases Ua:bX M (⟨ys,yi⟩:Rq);all_goals simp only[seenAt,T9,Ua,Ju,CV]at vR
 all_goals first|(exact absurd vR (by decide);done)|skip
 all_goals
  repeat' (first|refine ag (id:=16) (.range 19) ?_|intro hc|refine xyZ ?_|refine aF ?_ ?_|refine zhK ?_|refine bT λg=> ?_|refine zw0 λg=> ?_)
 all_goals
  exact⟨k - 1,_,by omega,⟨j+1,by omega,rfl⟩,⟨rfl,rfl,rfl,by rw[JV];rfl,rfl,trivial⟩,rfl,ah⟩):p:=h
theorem pan {p:Prop} (h:p:=by
 have h2:=qW _ _ _ _ h1;have OQ:∀(j:Nat) (o:Oper),l.toArray[j]? =some o->∀c,o.op≠Op.defer c:=λj o hj c hc=>by
  have:=uaG.1 xm o (jq (by simpa using hj));rw[hc]at this;cases this
 have mZ:¬LetsOut (j1 (lift n w0 Q)):=fun⟨_,_,h⟩=>h;have h3:=wpIn_region_any (id:=id) (F:=uW n.round) (n:=0) hm (by rw[ZX];exact qV OQ mZ _ _ _ _ h2);exact Code.wpIn_mono (λe a w h=>by cases e<;>first|exact h|exact(h:False).elim) h3):p:=h
theorem pao {p:Prop} (h:p:=by
 cases hu:P.underlying t with
 |none=>rw[hu]at hd;cases hd
 |some dd=>exact⟨dd,rfl⟩):p:=h
theorem paq {p:Prop} (h:p:=by
 repeat' (first|refine ax ?_|(refine aF ?_ ?_<;>intro hc<;>try exact aG))
 have bW:=(az.1 ho).1;exact⟨k - 1,_,by omega,⟨pre++[z],left.eraseIdx i,some (z,u),by rw[NV,jF bW,hk],lC hp ho,rfl⟩,cG,rfl,ah⟩):p:=h
theorem pas {p:Prop} (h:p:=by
 refine ec 17 rfl (λF'=>by exact db rfl) ?_;refine ec 18 rfl (λF'=>by first|exact bq rfl iI rfl|exact eG rfl iI iI rfl (by first|assumption|omega)) ?_;refine ed [19] ⟨?_,trivial⟩;refine kx ?_;refine uo 19 rfl (kV rfl rfl iI rfl iI rfl) λYV=> ?_;refine oE ?_;exact aj (.inr rfl) rfl ⟨.slice Tn.1 (l.take i++l.drop (i+1)).length Tn.2,rfl,by simp only[zF];exact ah⟩):p:=h
theorem pau {p:Prop} (h:p:=by
 clear p2 p4 p5;simp only[bG,aY,b7]at p3 ⊢;simp only[aN];repeat' (first|refine zgH ?_|refine ag (id:=4) (.range 7) ?_|refine ag (id:=5) (.range 12) ?_|intro hc|refine yZ ?_|refine aF ?_ ?_|refine cZ p1 λvl=> ?_|refine cZ p3 λv2=> ?_)
 exact aj (.inr rfl) rfl ⟨(),rfl,by rw[es,ad (eD _ _)];exact aq.nod {h with vd:=v2} (by simp only[bG,aY,b7];exact ah)⟩):p:=h
theorem pav {p:Prop} (h:p:=by
 obtain rfl:left=[]:=ho;refine aj (.inr rfl) rfl ⟨(pre,true),rfl,?_⟩;rw[Xp,rL]at hp;show aq _ ((pure' _*(_*_))*G);refine aq.trans aq.qN ?_;rw[ad];refine aq.ji hp ?_;exact ah):p:=h
theorem paw {p:Prop} (h:p:=by
 induction ds with
 |nil=>exact ubb _
 |cons d ds ih=>
  rw[uaY];cases hg:dG ls d with
  |none=>exact ih.cons _
  |some l=>
   have hd:l.dest=d:=by
    unfold dG at hg;cases hf:cN ls d with
    |none=>rw[hf]at hg;cases hg
    |some i=>
     obtain⟨l',h1,h2⟩:=dw hf;rw[hf,G6,h1]at hg;cases hg;exact h2
   simp only[Hh,hd];exact ih.cons_cons d):p:=h
theorem pax {p:Prop} (h:p:=by
 repeat' (first|refine ag (id:=4) (.range 37) ?_|intro hc|refine xyZ ?_|refine aF ?_ ?_)
 exact⟨kk - 1,_,by omega,⟨i+1,by omega,FY,rfl⟩,cG,rfl,by simp only[bN];exact ah⟩):p:=h
theorem pay {p:Prop} (h:p:=by
 have O4:l8 now (xs.take (i+1))++xs.drop (i+1)=Y:=by
  rw[jf,hf];apply zD;intro j;rw[Dg];split
  ·rename_i e;subst e;first|exact ma.symm|(rw[jF xc,ma])
  ·rfl
 repeat' (first|(refine hK _ ?_;clear hK K)|intro K hK|intro hc|refine xyZ ?_|refine aF ?_ ?_)
 exact⟨kk - 1,_,by omega,⟨i+1,by omega,rfl⟩,cG,rfl,by rw[O4];exact ah⟩):p:=h
theorem paz {p:Prop} (h:p:=by
 repeat' (first|intro hc|refine yZ ?_|refine aF ?_ ?_)
 exact dF (.inl rfl) rfl (aS rfl iI iI rfl) (bh rfl) ⟨(),rfl,by refine aq.j9 o tw ?_;simp only[bN];exact ah⟩):p:=h
theorem paA {p:Prop} (h:p:=by
 repeat' (first|(refine hK _ ?_;clear hK K)|refine ag (id:=2) (.range 10) ?_|intro K hK|intro hc|refine xyZ ?_|refine aF ?_ ?_|refine bT λg=> ?_|(refine cZ p0 λx0=> ?_;clear p0)|refine cZ p1 λx1=> ?_)
 exact aj (.inl rfl) rfl ⟨(),rfl,by rw[es];exact aq.rn (tw.drop 1 x1) (by unfold cR;simp only[bN];exact ah)⟩):p:=h
theorem paB {p:Prop} (h:p:=by
 unfold r5 at h;have e (a b c d:af):a*(b*c)*d=a*(b*(c*d)):=by rw[ad,ad]
 rw[e]at h;obtain⟨A1,c1,e1⟩:=gz h;have h2:=h;rw[aM]at h2;obtain⟨A2,c2,e2⟩:=gz h2;have h3:=h;rw[aM (rows _ _ _ v.2.1 _),aM]at h3;obtain⟨A3,c3,e3⟩:=gz h3;obtain⟨v1,v2,v3⟩:=v;simp only at e1 e2 e3;subst e1 e2 e3;rfl):p:=h
theorem paC {p:Prop} (h:p:=by
 repeat' (first|refine ag (id:=4) (.range 22) ?_|intro hc|refine xyZ ?_|refine aF ?_ ?_)
 exact de (.inl rfl) rfl rfl rfl ⟨(),by rw[he,hg];rfl,ah⟩):p:=h
theorem paD {p:Prop} (h:p:=by
 obtain⟨d,bK,ret,o,nm⟩:=x;simp only at h;unfold iL;simp only;obtain⟨h1,h2,h3,h4⟩:=h;have a:bK=0\/bK=1\/bK=2\/bK=3\/bK=4\/bK=5\/bK=6\/bK=7\/bK=8:=by omega
 have b:ret=0\/ret=1\/ret=2:=by omega
 rcases a with rfl|rfl|rfl|rfl|rfl|rfl|rfl|rfl|rfl<;>rcases b with rfl|rfl|rfl<;>decide):p:=h
theorem paE {p:Prop} (h:p:=by
 refine⟨R,by rw[zbe hl,e1],λf=> ?_⟩;have hm:Zs.modify i f=Zs.set i (f s):=xG hs f;have Ll:bs.set i b=bs:=by
  apply zD;intro j;rw[Dg];split
  ·rename_i e;subst e;obtain⟨h1,h2⟩:=az.1 hb;simp[h1,h2]
  ·rfl
 have:=e2 b (f s);rw[Ll]at this;rw[hm,zbe (by simpa using hl),this]):p:=h
theorem paF {p:Prop} (h:p:=by
 repeat' (first|refine ax ?_|refine bQ λg=> ?_|(refine ai (au evC [k8 i e] iI iI iI rfl rfl rfl rfl rfl iI rfl rfl rfl) rfl ?_;intro vx)|(refine ai (aR rfl rfl iI iI rfl iI iI zbt (by first|omega|(simp[al]<;>omega)) rfl) rfl ?_;intro va))
 exact aj (.inr rfl) rfl ⟨va,rfl,ah⟩):p:=h
theorem paG {p:Prop} (h:p:=by
 repeat' (first|refine ax ?_|refine bQ λg=> ?_|(refine ai (au lr [k] iI iI iI rfl rfl rfl rfl rfl iI rfl rfl rfl) rfl ?_;intro vx)|(refine ai (aR rfl rfl iI iI rfl iI iI Co (by first|omega|(simp[al]<;>omega)) rfl) rfl ?_;intro va))
 exact aj (.inr rfl) rfl ⟨va,rfl,ah⟩):p:=h
theorem paH {p:Prop} (h:p:=by
 simp only[isAgg,Sem.run_bind,run_underlying sX,Result.andThen_ok];cases dd<;>simp_all [sG]):p:=h
theorem paI {p:Prop} (h:p:=by
 simp only[isAgg,Sem.run_bind,run_underlying sX,Result.andThen_ok];cases dd<;>simp_all [L3]):p:=h
theorem paJ {p:Prop} (h:p:=by
 repeat' (first|(refine hK _ ?_;clear hK K)|refine ag (id:=7) (.range 13) ?_|intro K hK|intro hc|refine xyZ ?_|refine aF ?_ ?_|refine zgQ ?_)
 exact⟨kk - 1,_,by omega,⟨j+1,by omega,rfl⟩,⟨rfl,by rw[Ll];rfl,rfl,rfl,rfl,trivial⟩,rfl,by simp only[bN];exact ah⟩):p:=h
theorem paK {p:Prop} (h:p:=by
 have h:=fI hf args.toArray w;simp[execOp,resolve,Act.eval,Deferred.ofValue,invoke,e,h]):p:=h
theorem paL {p:Prop} (h:p:=by
 rw[rL,ad (y8 _ _ _ _)];refine aq.msh va ve FW ?_;simp only[zaA,b6,e9,aB];exact ah):p:=h
theorem paM {p:Prop} (h:p:=by
 simp only[aN];repeat' (first|intro K hK|refine ax ?_|refine bT λg=> ?_)
 exact aC (.inl rfl) rfl rfl ⟨g,rfl,ah⟩):p:=h
theorem paN {p:Prop} (h:p:=by
 repeat' (first|intro hc|refine xyZ ?_|refine aF ?_ ?_|refine zw4 ?_)
 exact aC (.inl rfl) rfl rfl ⟨(),rfl,ah⟩):p:=h
theorem paO {p:Prop} (h:p:=by
 repeat' (first|intro K hK|intro hc|refine xyZ ?_|refine aF ?_ ?_)
 exact aC (.inl rfl) rfl rfl ⟨(),rfl,ah⟩):p:=h
theorem paP {p:Prop} (h:p:=by
 repeat' (first|refine ag (id:=12) (.range 11) ?_|intro hc|refine xyZ ?_|refine aF ?_ ?_)
 exact⟨xx - 1,_,by omega,⟨j+1,by omega,rfl⟩,⟨rfl,by rw[JV];rfl,rfl,rfl,trivial⟩,rfl,by simp only[bN];exact ah⟩):p:=h
theorem paQ {p:Prop} (h:p:=by
 simp only[dT];by_cases h:k=k'
 ·simp[h]
 ·simp only[h,VC];cases dT m k' with
  |none=>rfl
  |some i=>simp):p:=h
theorem paR {p:Prop} (h:p:=by
 repeat' (first|intro K hK|intro hc|refine xyZ ?_|refine aF ?_ ?_|refine zw1 ?_)
 exact⟨k - 1,_,by omega,⟨j+1,by omega,rfl⟩,⟨rfl,rfl,rfl,by rw[hb];rfl,rfl,trivial⟩,rfl,by simp only[b7,hv];exact ah⟩):p:=h
theorem paS {p:Prop} (h:p:=by
 simp only[aN];repeat' (first|intro K hK|refine ax ?_|refine bT λg=> ?_|refine bQ λg=> ?_|(refine ai (aa iI rfl (p1 _ _) iI) rfl ?_;intro x))
 exact gD (.inl rfl) rfl (aS rfl iI iI rfl) ⟨x.1,rfl,ah⟩):p:=h
theorem paT {p:Prop} (h:p:=by
 repeat' (first|intro hc|refine yZ ?_|refine aF ?_ ?_)
 exact aC (.inl rfl) rfl rfl ⟨(),rfl,ah⟩):p:=h
theorem paU {p:Prop} (h:p:=by
 repeat' (first|refine ag (id:=3) (.range 11) ?_|intro hc|refine yZ ?_|refine aF ?_ ?_)
 exact dF (.inl rfl) rfl (aS rfl iI iI rfl) (bh rfl) ⟨(),rfl,by refine jc h o ?_;simp only[b7];exact ah⟩):p:=h
theorem paV {p:Prop} (h:p:=by
 have Rs:¬13*j+13<=l.length:=by omega
 have Eu:=C5 l js j hj Rs;repeat' (first|intro K hK|intro hc|refine xyZ ?_|refine aF ?_ ?_)
 subst P4;rw[Eu];exact de (.inl rfl) rfl rfl rfl ⟨u,rfl,ah⟩):p:=h
theorem paW {p:Prop} (h:p:=by
 exact(Nd.Step.drop _ _).le (by omega) (by omega)):p:=h
theorem paX {p:Prop} (h:p:=by
 unfold Oper.wp;rw[hr];refine(spec G w hs).mono ?_;rintro e w' ⟨x,rfl,eI⟩;exact hK x w' eI):p:=h
theorem paY {p:Prop} (h:p:=by
 have a:i=0\/i=1\/i=2\/i=3\/i=4\/i=5:=by omega
 have b:j=0\/j=1\/j=2\/j=3\/j=4\/j=5:=by omega
 rcases a with rfl|rfl|rfl|rfl|rfl|rfl<;>rcases b with rfl|rfl|rfl|rfl|rfl|rfl<;>rfl):p:=h
theorem paZ {p:Prop} (h:p:=by
 simp only[bG,aY,b7,cw,ba]at p1 ⊢;repeat' (first|refine zeh ?_|intro hc|refine yZ ?_|refine aF ?_ ?_|refine cZ p1 λx1=> ?_)
 exact aj (.inl rfl) rfl ⟨(),rfl,by rw[es];exact ah⟩):p:=h
theorem pa0 {p:Prop} (h:p:=by
 exact(Nd.Step.zero rfl rfl rfl rfl).le (by omega) (by omega)):p:=h
theorem pa1 {p:Prop} (h:p:=by
 rw[hf,Dj ma]at jf;rw[OR,rL]at mZ;repeat' (first|intro hc|refine xyZ ?_|refine aF ?_ ?_)
 exact⟨kk - 1,_,by omega,⟨i+1,vo,by omega,rfl⟩,cG,rfl,by rw[jf,mZ];exact ah⟩):p:=h
theorem pa2 {p:Prop} (h:p:=by
 exact⟨l.length,_,⟨0,by omega,rfl⟩,cG,rfl,ah⟩):p:=h
theorem pa3 {p:Prop} (h:p:=by
 have hd:Pk.dec (t::k::f::z::n::l)=none:=by rw[Cc,eQ];omega
 refine jm rfl rfl iI iI rfl rfl ?_;simp only[j6,ey,hd];exact⟨.slice none 0 0,rfl,ah⟩):p:=h
theorem pa4 {p:Prop} (h:p:=by
 rw[uaN];by_cases h:j<i
 ·simp[h]
 ·rw[eQ h,eQ (by omega)];congr 1;omega):p:=h
theorem pa5 {p:Prop} (h:p:=by
 obtain⟨pre,A8,G',hT,hH,qZ⟩:=iZ;refine⟨pre,A8,R*G',hT,?_,λx=> ?_⟩
 ·simp only[hp,Zo];rw[hH];ac_rfl
 ·simp only[hp,Zo];rw[qZ];ac_rfl):p:=h
theorem pa6 {p:Prop} (h:p:=by
 rw[hn]at ta;repeat' (first|intro hc|refine xyZ ?_|refine aF ?_ ?_)
 exact⟨kk - 1,_,by omega,⟨i+1,xs,v',by omega,Ly,ta,rfl⟩,cG,rfl,ah⟩):p:=h
theorem pa7 {p:Prop} (h:p:=by
 simp only[EH hc,Pk.A7 hc,ad];refine de (.inl rfl) rfl rfl rfl ⟨_,rfl,?_⟩;exact(aq.nil _ _ _ _ _).trans (aq.tail _ (aq.take aq.last))):p:=h
theorem pa8 {p:Prop} (h:p:=by
 obtain rfl:j=l.length:=by omega
 rw[PE];repeat' (first|intro hc|refine xyZ ?_|refine aF ?_ ?_)
 exact aC (.inl rfl) rfl rfl ⟨u,rfl,ah⟩):p:=h
theorem pa9 {p:Prop} (h:p:=by
 have e0:(aQ ([]:List UInt32)).length=0:=by rw[cF];rfl
 show [_,_,_,_,_,_,Value.slice none (aQ ([]:List UInt32)).length 0]=_;rw[e0];rfl):p:=h
theorem pba {p:Prop} (h:p:=by
 exact⟨_,⟨_,{d with vs:=vs,seen:=qR s.now d.seen ⟨from_,id⟩},lD vs,rfl⟩,cG,rfl,by rw[OZ,qG];simp only[bN,cy,bc];exact ah⟩):p:=h
theorem pbb {p:Prop} (h:p:=by
 simp only[execOp,s.ev hx,s.ev hy,EL,uag,run_sliceAt_string w t _ _ _ _ ht.eq,Sem.run_bind,hr,Result.andThen_ok,Sem.run_pure,D3,e1]):p:=h
theorem pbc {p:Prop} (h:p:=by
 induction ws with
 |nil=>rfl
 |cons x r ih=>simp only[dT,dK];rw[ih]):p:=h
theorem pbd {p:Prop} (h:p:=by
 exact⟨m.length,_,⟨[],m,none,rfl,.refl _,rfl⟩,cG,rfl,ah⟩):p:=h
theorem pbe {p:Prop} (h:p:=by
 unfold Nd.gA at he;rw[eQ (by omega)]at he;split at he
 ·cases he
 ·rename_i h;exact⟨λe=>h (.inl e),λe=>h (.inr e)⟩):p:=h
theorem pbf {p:Prop} (h:p:=by
 have hj:j<size:=by rw[<-hlen];exact(az.1 hu).1
 rw[add_lit,Sat.cell (hs.cast hl.eq)];rw[Mt,G3,jF hj,Lf]at hu;simpa using hu):p:=h
theorem pbg {p:Prop} (h:p:=by
 repeat' (first|intro hc|refine xyZ ?_|refine aF ?_ ?_)
 exact aC (.inl rfl) rfl rfl ⟨(g,v'),rfl,by rw[ta];exact ah⟩):p:=h
theorem pbh {p:Prop} (h:p:=by
 have:=bE (n:=n) (w0:=w0) (H:=H) (d:=d) (ty:=ty) (pos:=pos) (after:=after) (gu:=gu) (t2:=t2) hx hy h;rwa[Dp hq]at this):p:=h
theorem pbi {p:Prop} (h:p:=by
 have:=bE (n:=n) (w0:=w0) (H:=H) (d:=d) (ty:=ty) (pos:=pos) (after:=after) (gu:=gu) (t2:=t2) hx hy h;rwa[EH hq]at this):p:=h
theorem pbj {p:Prop} (h:p:=by
 rw[es];refine aq.nod {h with vd:=vd} ?_;simp only[bG,aY,b7,cw,ba,eu,Nd.cH,Nd.drop,Nd.arm,P7,e1,e2,J5,JY,oB];exact ah):p:=h
theorem pbk {p:Prop} (h:p:=by
 obtain⟨n,h1,h2,h3,h4,h5⟩:=Hq.node;have h6:=zdh h2;have h7:=Hq.Yt;have h8:=G2 List.length h4;rw[pU]at h8;omega):p:=h
theorem pbl {p:Prop} (h:p:=by
 have:=wo (n:=n) (w0:=w0) (d:=d) (ty:=ty) (pos:=pos) (after:=after) (gu:=gu) hx hy hl hkk hm hz hk;rwa[he]at this):p:=h
theorem pbm {p:Prop} (h:p:=by
 have:=wm (n:=n) (w0:=w0) (d:=d) (ty:=ty) (pos:=pos) (after:=after) (gu:=gu) hx hy hl hkk hm hz hk;rwa[he]at this):p:=h
theorem pbn {p:Prop} (h:p:=by
 exact⟨h.same rfl rfl,((k0 _).trans ((Nd.Step.drop _ _).trans (Nd.Step.arm _ _ _))).le (by omega) (by omega)⟩):p:=h
theorem pbo {p:Prop} (h:p:=by
 obtain⟨j,rfl⟩:∃j:Nat,ob=(j:Int):=⟨ob.toNat,by omega⟩
 rw[m.zaw,aX (show j<m.Zs.length by omega)];simp):p:=h
theorem pbp {p:Prop} (h:p:=by
 simp[execOp,s.ev hx,s.ev hy,bF,binOp,Op.intArith,this]):p:=h
theorem pbq {p:Prop} (h:p:=by
 have:=h.each f hf;show f.src<(m.Zs.modify i _).length/\f.dst<(m.Zs.modify i _).length/\_;rw[Zb];exact this):p:=h
theorem pbr {p:Prop} (h:p:=by
 refine aC (.inl rfl) rfl rfl ⟨(),?_,aq.take aq.last⟩;rw[EH];rintro rfl;rw[hz]at pF;cases pF;simp at hc):p:=h
theorem pbs {p:Prop} (h:p:=by
 refine⟨by rw[Mk];exact za1.QG,λf hf=> ?_⟩;rw[Cg.length];exact za1.each f (by rw[Mk]at hf;exact hf)):p:=h
theorem pbt {p:Prop} (h:p:=by
 obtain⟨hh,e⟩:=az.1 h;rw[List.getElem_range]at e;subst e;constructor
 ·omega
 ·split at ht<;>omega):p:=h
theorem pbu {p:Prop} (h:p:=by
 exact⟨m' - 1,_,by omega,⟨i+1,by omega,rfl⟩,⟨rfl,rfl,rfl,by rw[e];rfl,trivial⟩,rfl,ah⟩):p:=h
theorem pbv {p:Prop} (h:p:=by
 repeat' (first|intro hc|refine xyZ ?_|refine aF ?_ ?_)
 exact aC (.inl rfl) rfl rfl ⟨v,rfl,ah⟩):p:=h
theorem pbw {p:Prop} (h:p:=by
 exact⟨m - 1,_,by omega,⟨j+1,by omega,rfl⟩,⟨rfl,by rw[e];rfl,trivial⟩,rfl,aq.refl _⟩):p:=h
theorem pbx {p:Prop} (h:p:=by
 unfold aO;rw[ubo,hd,<-he];apply zD;intro k;rw[Dg];split
 ·rename_i hk;subst hk;simp[bW]
 ·rfl):p:=h
theorem pby {p:Prop} (h:p:=by
 rw[<-hq,rL,ad (rmA _ _ _ _)];refine re v2 ve FW ?_;unfold rmP;simp only[r6,e9,aB,zF];exact ah):p:=h
theorem pbz {p:Prop} (h:p:=by
 exact((h0 _).trans ((Nd.Step.drop _ _).trans (Nd.Step.arm _ _ _))).le (by omega) (by omega)):p:=h
theorem pbA {p:Prop} (h:p:=by
 rw[EH (λh=>e (.inl h)),EH (λh=>e (.inr (.inl h))),EH (λh=>e (.inr (.inr h)))];rfl):p:=h
theorem pbB {p:Prop} (h:p:=by
 have c2:=FL empty 9998;rw[show(10000:Nat)=9999+1 from rfl];unfold Instr.checkKey;go_simp):p:=h
theorem pbC {p:Prop} (h:p:=by
 refine aC (.inl rfl) rfl rfl ⟨(),?_,aq.take aq.last⟩;rw[EH];rintro rfl;exact hc rfl):p:=h
theorem pbD {p:Prop} (h:p:=by
 rw[rL,ad (rmA _ _ _ _)];refine re va ve FW ?_;unfold rmP;simp only[r6,e9,aB];exact ah):p:=h
theorem pbE {p:Prop} (h:p:=by
 simp[execOp,resolve,invoke,builtin,s.ev hx,Builtin.len_,run_underlying ht.eq,goInt]):p:=h
theorem pbF {p:Prop} (h:p:=by
 show(match ((Ms.ZF q m1).Zs[q]?).bind (·.node)with|some s=>_|none=>_)=_;rw[Yd];rfl):p:=h
theorem pbG {p:Prop} (h:p:=by
 split
 ·rfl
 ·cases A with
  |none=>rfl
  |some a=>simp;unfold Addr.add;cases a;simp):p:=h
theorem pbH {p:Prop} (h:p:=by
 induction l using eE with
 |nil=>exact h
 |snoc l t ih=>rw[Nd.dX];exact ih.hand _ _):p:=h
theorem pbI {p:Prop} (h:p:=by
 refine ed [6] ⟨?_,trivial⟩;refine kx ?_;refine oD 6 rfl (dH (rows 28 3 Rec.cells d.vr s.aI) rfl rfl iI iI iI rfl iI iI cO (by first|omega|(simp;omega)) rfl) λx6=> ?_;refine ed [9] ⟨?_,trivial⟩;exact pae):p:=h
theorem pbJ {p:Prop} (h:p:=by
 refine ed [6] ⟨?_,trivial⟩;refine kx ?_;refine oD 6 rfl (dH (rows 114 3 flC va m.Zx) rfl rfl iI iI iI rfl iI iI zaH (by first|omega|(simp;omega)) rfl) λx6=> ?_;refine ed [9] ⟨?_,trivial⟩;exact paf):p:=h
theorem pbK {p:Prop} (h:p:=by
 unfold Sr.iN at h;split at h
 ·exact pal
 ·split at h
  ·exact pal
  ·split at h
   ·exact pal
   ·cases h):p:=h
abbrev az:=@List.getElem?_eq_some_iff
abbrev aX:=@List.getElem?_eq_getElem
abbrev eQ:=@if_neg
abbrev jq:=@List.mem_of_getElem?
abbrev jF:=@if_pos
abbrev jP:=@Nat.lt_or_ge
abbrev pU:=@List.length_append
abbrev rL:=@List.append_nil
abbrev sH:=@Option.isSome_none
abbrev uz:=@Option.isSome_some
abbrev uK:=@List.length_drop
abbrev uL:=@Nat.le_refl
abbrev zA:=@List.getElem?_map
abbrev zD:=@List.ext_getElem?
abbrev zF:=@List.nil_append
abbrev Aw:=@List.length_take
abbrev AP:=@List.take_add_one
abbrev AT:=@Bool.false_eq_true
abbrev AU:=@Option.map_eq_some_iff
abbrev CV:=@Option.getD_some
abbrev Dg:=@List.getElem?_set
abbrev Dp:=@decide_eq_true
abbrev D3:=@Int.toNat_natCast
abbrev EH:=@decide_eq_false
abbrev EJ:=@List.getElem?_eq_none
abbrev EK:=@List.append_assoc
abbrev EL:=@Option.map_some
abbrev EZ:=@List.map_append
abbrev FO:=@List.length_singleton
abbrev Gz:=@List.take_of_length_le
abbrev GM:=@UInt32.lt_iff_toNat_lt
abbrev G2:=@congrArg
abbrev G3:=@List.getElem?_take
abbrev G4:=@List.mem_cons_of_mem
abbrev G5:=@List.pairwise_iff_getElem
abbrev G6:=@Option.bind_some
abbrev Hh:=@List.map_cons
abbrev Hu:=@List.length_map
abbrev HC:=@List.mem_map
abbrev HD:=@List.eq_nil_of_length_eq_zero
abbrev HL:=@UInt32.toNat_inj
abbrev HM:=@List.length_nil
abbrev Jt:=@List.take_append_drop
abbrev Ju:=@Option.getD_none
abbrev JA:=@List.mem_cons
abbrev JC:=@List.getElem?_of_mem
abbrev Lf:=@List.getElem?_drop
abbrev Lz:=@List.mem_append
abbrev NV:=@List.length_eraseIdx
abbrev Pr:=@List.length_cons
abbrev Ps:=@Bool.and_eq_true
abbrev PE:=@List.take_length
abbrev PL:=@Option.some.inj
abbrev Qf:=@Option.toList_some
abbrev RM:=@List.flatMap_cons
abbrev Sb:=@List.drop_eq_getElem_cons
abbrev TY:=@List.length_set
abbrev Uq:=@List.foldl_cons
abbrev VB:=@Nat.mul_le_mul_right
abbrev VC:=@if_false
abbrev WA:=@Nat.le_trans
abbrev WB:=@Array.getElem?_eq_none
abbrev WC:=@UInt64.lt_iff_toNat_lt
abbrev WY:=@List.mem_cons_self
abbrev W7:=@List.mem_or_eq_of_mem_set
abbrev W8:=@List.eraseIdx_sublist
abbrev W9:=@List.getD_eq_getElem?_getD
abbrev Xn:=@Nat.le_succ
abbrev Xp:=@List.map_nil
abbrev Yu:=@Nat.le_of_ble_eq_true
abbrev Yv:=@cond_false
abbrev Yw:=@List.nodup_append
abbrev YI:=@UInt64.le_iff_toNat_le
abbrev YJ:=@Nat.mod_eq_of_lt
abbrev YW:=@List.cons_append
abbrev YX:=@Bool.eq_iff_iff
abbrev YY:=@List.mem_map_of_mem
abbrev YZ:=@if_true
abbrev Y5:=@List.pairwise_cons
abbrev Zb:=@List.length_modify
abbrev Zo:=@cond_true
abbrev Zp:=@List.getElem?_zipWith
abbrev Zq:=@List.getElem?_append_right
abbrev ZS:=@List.nodup_iff_pairwise_ne
abbrev ZV:=@List.any_eq_true
abbrev ZW:=@UInt8.toNat_inj
abbrev ZX:=@List.size_toArray
abbrev ZY:=@List.pairwise_map
abbrev Z0:=@List.pairwise_append
abbrev Z1:=@List.mem_singleton
abbrev Z6:=@List.mergeSort_perm
abbrev Z8:=@List.map_congr_left
abbrev Z9:=@Option.some.injEq
abbrev uaa:=@List.getElem?_append
abbrev uab:=@List.getElem?_modify
abbrev uac:=@List.filter_append
abbrev uad:=@UInt32.le_iff_toNat_le
abbrev uae:=@List.getElem_cons_drop
abbrev uaf:=@List.mem_filter
abbrev uag:=@Option.map_none
abbrev uah:=@List.foldl_nil
abbrev uai:=@List.take_zero
abbrev uaj:=@List.drop_append_of_le_length
abbrev uak:=@Array.length_toList
abbrev ual:=@decide_eq_true_eq
abbrev uam:=@Nat.lt_trichotomy
abbrev uan:=@Bool.false_and
abbrev uao:=@List.all_cons
abbrev uap:=@Nat.eq_zero_or_pos
abbrev uaq:=@List.findIdx?_eq_some_iff_getElem
abbrev uar:=@Nat.succ_mul
abbrev uas:=@List.flatMap_nil
abbrev uat:=@Nat.add_mul
abbrev uau:=@Nat.zero_le
abbrev uav:=@UInt64.toNat_ofNat'
abbrev uaw:=@List.eraseIdx_eq_take_drop_succ
abbrev uax:=@List.drop_drop
abbrev uay:=@Nat.add_zero
abbrev uaz:=@Nat.eq_of_beq_eq_true
abbrev uaA:=@List.nodup_cons
abbrev uaB:=@UInt8.toNat_ofNat'
abbrev uaC:=@List.set_cons_succ
abbrev uaD:=@List.length_filterMap_le
abbrev uaE:=@Option.isNone_some
abbrev uaF:=@List.take_append_of_le_length
abbrev uaG:=@List.all_eq_true
abbrev uaH:=@List.filter_cons
abbrev uaI:=@Bool.false_or
abbrev uaJ:=@List.eraseIdx_cons_succ
abbrev uaK:=@List.all_nil
abbrev uaL:=@List.foldl_append
abbrev uaM:=@of_decide_eq_true
abbrev uaN:=@List.getElem?_eraseIdx
abbrev uaO:=@UInt64.toNat_add
abbrev uaP:=@Array.getElem?_modify
abbrev uaQ:=@List.length_filter_le
abbrev uaR:=@Bool.and_false
abbrev uaS:=@Classical.byContradiction
abbrev uaT:=@Ne.symm
abbrev uaU:=@Decidable.not_not
abbrev uaV:=@Nat.lt_succ_iff_lt_or_eq
abbrev uaW:=@List.flatMap_append
abbrev uaX:=@List.length_pos_iff
abbrev uaY:=@List.filterMap_cons
abbrev uaZ:=@List.length_eq_zero_iff
abbrev ua0:=@List.drop_zero
abbrev ua1:=@List.nodup_nil
abbrev ua2:=@List.Perm.refl
abbrev ua3:=@List.filter_eq_nil_iff
abbrev ua4:=@Option.isNone_none
abbrev ua5:=@List.take_length_add_append
abbrev ua6:=@List.drop_length_add_append
abbrev ua7:=@Nat.two_pow_add_eq_or_of_lt
abbrev ua8:=@Nat.not_lt_zero
abbrev ua9:=@Prod.mk.injEq
abbrev uba:=@Nat.add_assoc
abbrev ubb:=@List.Sublist.refl
abbrev ubc:=@Array.getElem?_eq_getElem
abbrev ubd:=@List.take_take
abbrev ube:=@List.getElem?_append_left
abbrev ubf:=@Nat.shiftRight_eq_div_pow
abbrev ubg:=@List.findIdx?_eq_none_iff
abbrev ubh:=@List.map_toArray
abbrev ubi:=@Bool.not_eq_true
abbrev ubj:=@UInt64.toNat_inj
abbrev ubk:=@UInt32.toNat_ofNat'
abbrev ubl:=@List.toList_toArray
abbrev ubm:=@Array.setIfInBounds_comm
abbrev ubn:=@Option.isSome_iff_exists
abbrev ubo:=@List.map_set
abbrev ubp:=@List.cons.injEq
abbrev ubq:=@List.set_eq_take_append_cons_drop
abbrev ubr:=@UInt32.toNat_shiftRight
abbrev ubs:=@Nat.min_eq_left
abbrev ubt:=@List.findIdx?_cons
abbrev ubu:=@UInt32.le_of_lt
abbrev ubv:=@List.drop_eq_nil_of_le
abbrev ubw:=@Array.ext'
abbrev ubx:=@Array.getElem?_setIfInBounds_ne
abbrev uby:=@Function.comp_def
abbrev ubz:=@Nat.zero_add
abbrev ubA:=@Array.getElem?_toList
abbrev ubB:=@List.Perm.append_left
abbrev ubC:=@Nat.mul_zero
abbrev ubD:=@Nat.sub_self
abbrev ubE:=@List.zipWith_nil_left
abbrev ubF:=@List.Nodup.length_le_of_subset
abbrev ubG:=@List.mem_append_right
abbrev ubH:=@Nat.lt_succ_self
abbrev ubI:=@UInt32.toNat_add
abbrev ubJ:=@Option.bind_none
abbrev ubK:=@Nat.le_add_right
abbrev ubL:=@List.isEmpty_iff
abbrev ubM:=@List.mem_append_left
abbrev ubN:=@List.mem_of_mem_drop
abbrev ubO:=@Bool.not_true
abbrev ubP:=@ByteArray.ext
abbrev ubQ:=@Bool.or_false
abbrev ubR:=@UInt32.not_lt
abbrev ubS:=@beq_iff_eq
abbrev ubT:=@Nat.mod_lt
abbrev ubU:=@List.range_succ
abbrev ubV:=@List.getElem?_range
abbrev ubW:=@Array.toList_setIfInBounds
abbrev ubX:=@List.perm_append_singleton
abbrev ubY:=@Array.getElem?_append_left
abbrev ubZ:=@Nat.lt_of_le_of_lt
abbrev ub0:=@List.map_map
abbrev ub1:=@List.filterMap_nil
abbrev ub2:=@of_decide_eq_false
abbrev ub3:=@UInt32.le_antisymm
abbrev ub4:=@List.drop_take
abbrev ub5:=@List.mem_take_iff_getElem
abbrev ub6:=@Nat.blt_eq
abbrev ub7:=@List.Perm.eq_of_pairwise
abbrev ub8:=@Nat.mod_le
abbrev ub9:=@List.getElem?_cons_zero
abbrev uca:=@Nat.add_sub_cancel_left
abbrev ucb:=@Bool.true_and
abbrev ucc:=@List.mem_flatMap
abbrev ucd:=@Nat.shiftLeft_eq
abbrev uce:=@UInt32.toNat_shiftLeft
abbrev ucf:=@List.sublist_cons_self
abbrev ucg:=@Option.map_eq_none_iff
abbrev uch:=@List.append_eq_nil_iff
abbrev uci:=@List.length_pos_of_mem
abbrev ucj:=@Bool.or_eq_true
abbrev uck:=@Nat.sub_zero
abbrev ucl:=@Array.getElem?_append
abbrev ucm:=@Nat.zero_mul
abbrev ucn:=@List.set_getElem_self
abbrev uco:=@List.getElem?_toArray
abbrev ucp:=@List.filterMap_append
abbrev ucq:=@List.Pairwise.and_mem
abbrev ucr:=@List.set_append_right
abbrev ucs:=@Nat.mul_le_mul
abbrev uct:=@Nat.lt_irrefl
abbrev ucu:=@List.take_add
abbrev ucv:=@Bool.and_true
abbrev ucw:=@UInt64.not_lt
abbrev ucx:=@UInt64.not_le
abbrev ucy:=@getElem!_pos
abbrev ucz:=@Bool.or_true
abbrev ucA:=@and_true
abbrev ucB:=@Iff.rfl
noncomputable abbrev ucC:=Tryz.prog
theorem aG {p:Prop} (h:False:=by first|contradiction|omega):p:=h.elim
theorem cG {p:Prop} (h:p:=by repeat (first|exact trivial|refine⟨rfl,?_⟩)):p:=h
theorem cS:(∀(p:Prop) [Decidable p],(decide p=true)=p)/\(∀(p:Prop) [Decidable p],(decide p=false)=¬p)/\(∀a b:Bool,((!a)=b)=(a= !b))/\((!true)=false)/\((!false)=true)/\(∀a b:Bool,((a&&b)=true)=(a=true/\b=true))/\(∀a b:Bool,((a||b)=true)=(a=true\/b=true))/\(∀(α:Type) [BEq α] [LawfulBEq α] (a b:α),((a !=b)=true)=(a≠b))/\(∀(α:Type) [BEq α] [LawfulBEq α] (a b:α),((a==b)=true)=(a=b))/\(∀(α:Type) (a b:α),(a≠b)=¬(a=b))/\(∀p:Prop,(¬¬p)=p):=⟨λp _=>by simp,λp _=>by simp,λa b=>by cases a<;>cases b<;>simp,rfl,rfl,λa b=>by cases a<;>cases b<;>simp,λa b=>by cases a<;>cases b<;>simp,λα _ _ a b=>by simp,λα _ _ a b=>by simp,λα a b=>rfl,λp=>by simp⟩
theorem ah {p:Prop} (h:p:=by((try simp only[ad,aB,b5]);(repeat' (first|exact aq.last|refine aq.take ?_|refine aq.Pu ?_|refine aq.Dr (by first|rfl|assumption|(simp;done)) ?_|exact aq.refl _)))):p:=h
theorem ax {p q:Prop} (hq:q) (h:q->p:=by(first|(show _->LS _ _ _ _ _ _ _;first|(refine' LQ ?zh rfl;case zh=>intro F';first|(show OpQ _ _ _ ⟨_,.move _,_,_,_,_⟩ _ _ _;exact bC rfl)|(show OpQ _ _ _ ⟨_,.load _ _,_,_,_,_⟩ _ _ _;first|exact ca rfl iI iI rfl|exact kZ rfl iI iI rfl|exact lg rfl iI iI iI (by assumption) rfl|exact ja rfl iI iI iI (by assumption))|(show OpQ _ _ _ ⟨_,.nilCheck _,_,_,_,_⟩ _ _ _;exact db rfl)|(show OpQ _ _ _ ⟨_,.fieldAddr _ _ _,_,_,_,_⟩ _ _ _;first|exact bq rfl iI rfl|exact eG rfl iI iI rfl (by first|assumption|omega|(simp[al]<;>omega)))|(show OpQ _ _ _ ⟨_,.binOp _ _ _ _ _,_,_,_,_⟩ _ _ _;first|exact wj rfl rfl (by omega)|exact I3 rfl rfl (by omega)|exact I2 rfl rfl (by omega)|exact bp rfl rfl iI (by first|assumption|omega|decide)|exact bH rfl rfl iI (by first|assumption|omega|decide)|exact fC rfl rfl iI (by first|assumption|omega|decide)|exact du rfl rfl iI (by first|assumption|omega|decide))|(show OpQ _ _ _ ⟨_,.assign _,_,_,_,_⟩ _ _ _;exact kC rfl)|(show OpQ _ _ _ ⟨_,.call _,_,_,_,_⟩ _ _ _;first|exact M4 rfl iI|exact NX rfl iI|exact I1 rfl iI iI|exact NW rfl iI iI|exact NY rfl rfl|exact LU rfl rfl iI iI)|(show OpQ _ _ _ ⟨_,.extract _ _,_,_,_,_⟩ _ _ _;exact GI rfl rfl)|(show OpQ _ _ _ ⟨_,.pick _ _ _,_,_,_,_⟩ _ _ _;first|exact BE rfl iI rfl|exact BD rfl iI rfl)|(show OpQ _ _ _ ⟨_,.indexAddr _ _ _,_,_,_,_⟩ _ _ _;exact vH rfl rfl iI iI iI iI (by first|assumption|omega|(simp[al]<;>omega)))|(show OpQ _ _ _ ⟨_,.unOp _ _ _,_,_,_,_⟩ _ _ _;exact Tq rfl iI)|(show OpQ _ _ _ ⟨_,.build _ _,_,_,_,_⟩ _ _ _;exact LP iI iI rfl rfl)|(show OpQ _ _ _ ⟨_,.makeFunc _ _ _,_,_,_,_⟩ _ _ _;exact DE rfl rfl))|exact z7|(show _->LS _ _ _ _ _ (⟨_,_,_,_,_,some _⟩::_) _;first|exact IW rfl rfl iI rfl|exact IT rfl rfl iI rfl|exact IX rfl rfl rfl))|(show _->DL _ _ _ _ _ _ _ _ _ _ _ _ _ _ _;first|((first|refine' bP rfl rfl rfl ?zh|refine' bk rfl rfl ?zh|refine' II rfl rfl rfl rfl ?zh|refine' zab rfl rfl rfl ?zh);case zh=>intro F';first|(show OpQ _ _ _ ⟨_,.move _,_,_,_,_⟩ _ _ _;exact bC rfl)|(show OpQ _ _ _ ⟨_,.load _ _,_,_,_,_⟩ _ _ _;first|exact ca rfl iI iI rfl|exact kZ rfl iI iI rfl|exact lg rfl iI iI iI (by assumption) rfl|exact ja rfl iI iI iI (by assumption))|(show OpQ _ _ _ ⟨_,.nilCheck _,_,_,_,_⟩ _ _ _;exact db rfl)|(show OpQ _ _ _ ⟨_,.fieldAddr _ _ _,_,_,_,_⟩ _ _ _;first|exact bq rfl iI rfl|exact eG rfl iI iI rfl (by first|assumption|omega|(simp[al]<;>omega)))|(show OpQ _ _ _ ⟨_,.binOp _ _ _ _ _,_,_,_,_⟩ _ _ _;first|exact wj rfl rfl (by omega)|exact I3 rfl rfl (by omega)|exact I2 rfl rfl (by omega)|exact bp rfl rfl iI (by first|assumption|omega|decide)|exact bH rfl rfl iI (by first|assumption|omega|decide)|exact fC rfl rfl iI (by first|assumption|omega|decide)|exact du rfl rfl iI (by first|assumption|omega|decide))|(show OpQ _ _ _ ⟨_,.assign _,_,_,_,_⟩ _ _ _;exact kC rfl)|(show OpQ _ _ _ ⟨_,.call _,_,_,_,_⟩ _ _ _;first|exact M4 rfl iI|exact NX rfl iI|exact I1 rfl iI iI|exact NW rfl iI iI|exact NY rfl rfl|exact LU rfl rfl iI iI)|(show OpQ _ _ _ ⟨_,.extract _ _,_,_,_,_⟩ _ _ _;exact GI rfl rfl)|(show OpQ _ _ _ ⟨_,.pick _ _ _,_,_,_,_⟩ _ _ _;first|exact BE rfl iI rfl|exact BD rfl iI rfl)|(show OpQ _ _ _ ⟨_,.indexAddr _ _ _,_,_,_,_⟩ _ _ _;exact vH rfl rfl iI iI iI iI (by first|assumption|omega|(simp[al]<;>omega)))|(show OpQ _ _ _ ⟨_,.unOp _ _ _,_,_,_,_⟩ _ _ _;exact Tq rfl iI)|(show OpQ _ _ _ ⟨_,.build _ _,_,_,_,_⟩ _ _ _;exact LP iI iI rfl rfl)|(show OpQ _ _ _ ⟨_,.makeFunc _ _ _,_,_,_,_⟩ _ _ _;exact DE rfl rfl))|exact LD|exact LI|exact LG|exact LF|exact LH|exact LJ rfl rfl rfl rfl|exact GB rfl|exact By rfl rfl)|(show _->WS _ _ _ _ _ _;first|exact ab|exact pt|exact oG|exact FD|exact DI|exact FC|exact I9|(show _->WS _ _ _ (.cond _ _ _) _ _;first|exact wy rfl iI|exact BH rfl iI|exact wx rfl (by assumption)|exact wu rfl (by assumption)))|(with_reducible (first|exact vZ|exact Gv|exact rH|exact BS|exact rI rfl|exact Bl|exact wO))|(with_reducible exact Gy (by assumption)))):p:=h hq
theorem aF {p q r a b c d:Prop} (hq:c->q) (hr:d->r) (h:(a->q)->(b->r)->p:=by(first|(show _->_->LS _ _ _ _ _ (⟨_,_,_,_,_,some _⟩::_) _;first|exact IV rfl rfl rfl|exact Qr rfl)|(show _->_->WS _ _ _ (.cond _ _ _) _ _;exact pr rfl))) (ha:a->c:=by intro hc;first|(simp only[cS]at hc;exact hc)|exact hc) (hb:b->d:=by intro hc;first|(simp only[cS]at hc;exact hc)|exact hc):p:=h (λx=>hq (ha x)) (λx=>hr (hb x))
theorem s2A {p q r a b c d:Prop} (hq:c->q) (h:(a->q)->(b->r)->p:=by(first|(show _->_->LS _ _ _ _ _ (⟨_,_,_,_,_,some _⟩::_) _;first|exact IV rfl rfl rfl|exact Qr rfl)|(show _->_->WS _ _ _ (.cond _ _ _) _ _;exact pr rfl))) (ha:a->c:=by intro hc;first|(simp only[cS]at hc;exact hc)|exact hc) (hb:b->d:=by intro hc;first|(simp only[cS]at hc;exact hc)|exact hc) (hr:d->r:=by intro hc;exact aG):p:=h (λx=>hq (ha x)) (λx=>hr (hb x))
theorem s2B {p q r a b c d:Prop} (hr:d->r) (h:(a->q)->(b->r)->p:=by(first|(show _->_->LS _ _ _ _ _ (⟨_,_,_,_,_,some _⟩::_) _;first|exact IV rfl rfl rfl|exact Qr rfl)|(show _->_->WS _ _ _ (.cond _ _ _) _ _;exact pr rfl))) (ha:a->c:=by intro hc;first|(simp only[cS]at hc;exact hc)|exact hc) (hb:b->d:=by intro hc;first|(simp only[cS]at hc;exact hc)|exact hc) (hq:c->q:=by intro hc;exact aG):p:=h (λx=>hq (ha x)) (λx=>hr (hb x))
theorem bT {α:Type} {p:Prop} {q:α->Prop} (hq:∀g,q g) (h:(∀g,q g)->p:=by((first|refine' ai ?zh rfl|refine' aD ?zh rfl rfl rfl);(case zh=>first|exact ph iI|exact rj rfl|exact NS rfl iI))):p:=h hq
theorem bQ {α:Type} {p:Prop} {q:α->Prop} (hq:∀g,q g) (h:(∀g,q g)->p:=by((first|refine' bL ?zh|refine' dP ?zh rfl rfl);(case zh=>first|exact IN rfl rfl iI iI iI rfl|exact GG rfl rfl iI iI iI rfl))):p:=h hq
theorem xyZ {p q:Prop} (hq:q) (h:q->p:=by first|exact λx=>ax x|exact λx=>s2A x|exact λx=>s2B x):p:=h hq
theorem yZ {p q:Prop} (hq:q) (h:q->p:=by first|exact λx=>xyZ x|exact λx=>bT x|exact λx=>bQ x):p:=h hq
theorem zw0 {α:Type} {p:Prop} {q:α->Prop} (hq:∀g,q g) (h:(∀g,q g)->p:=by((refine' bL ?zh);(case zh=>exact bo rfl rfl iI iI (by first|rfl|(simp only[uao,uaK, *];rfl)) rfl))):p:=h hq
theorem zw1 {p q:Prop} (hq:q) (h:q->p:=by((refine' LQ ?zh rfl);case zh=>intro F';exact bE rfl rfl iI)):p:=h hq
theorem zw2 {p q:Prop} (hq:q) (h:q->p:=by((refine' LQ ?zh rfl);case zh=>intro F';first|exact bp rfl rfl iI (by first|assumption|omega|decide|rfl)|exact bH rfl rfl iI (by first|assumption|omega|decide|rfl))):p:=h hq
theorem zw3 {α:Type} {p:Prop} {q:α->Prop} (hq:∀g,q g) (h:(∀g,q g)->p:=by exact λx=>aL iI rfl x):p:=h hq
theorem zw4 {p q:Prop} (hq:q) (h:q->p:=by((refine' LQ ?zh rfl);case zh=>intro F';exact bH rfl rfl iI (by first|assumption|omega|decide|rfl))):p:=h hq
theorem zw5 {p q:Prop} (hq:q) (h:q->p:=by((first|refine' LQ ?zh rfl|refine' bk rfl rfl ?zh);case zh=>intro F';first|exact bp rfl rfl iI (by first|assumption|omega|decide|rfl)|exact bH rfl rfl iI (by first|assumption|omega|decide|rfl)|exact fC rfl rfl iI (by first|assumption|omega|decide|rfl))):p:=h hq
theorem zw6 {p q:Prop} (hq:q) (h:q->p:=by((first|refine' LQ ?zh rfl|refine' bk rfl rfl ?zh);case zh=>intro F';exact bE rfl rfl iI)):p:=h hq
theorem zw7 {p q:Prop} (hq:q) (h:q->p:=by((first|refine' LQ ?zh rfl|refine' bk rfl rfl ?zh|refine' zab rfl rfl rfl ?zh);case zh=>intro F';first|exact bp rfl rfl iI (by first|assumption|omega|decide|rfl)|exact bH rfl rfl iI (by first|assumption|omega|decide|rfl)|exact fC rfl rfl iI (by first|assumption|omega|decide|rfl)|exact du rfl rfl iI (by first|assumption|omega|decide|rfl))):p:=h hq
theorem zw8 {p q:Prop} (hq:q) (h:q->p:=by((refine' LQ ?zh rfl);case zh=>intro F';exact bp rfl rfl iI (by first|assumption|omega|decide|rfl))):p:=h hq
theorem zw9 {p q:Prop} (hq:q) (h:q->p:=by((first|refine' LQ ?zh rfl|refine' bP rfl rfl rfl ?zh|refine' bk rfl rfl ?zh);case zh=>intro F';exact eV rfl iI iI iI)):p:=h hq
theorem zgN {p q:Prop} (hq:q) (h:q->p:=by((first|refine' LQ ?zh rfl|refine' bP rfl rfl rfl ?zh|refine' bk rfl rfl ?zh);case zh=>intro F';first|exact bp rfl rfl iI (by first|assumption|omega|decide|rfl)|exact bH rfl rfl iI (by first|assumption|omega|decide|rfl)|exact fC rfl rfl iI (by first|assumption|omega|decide|rfl)|exact du rfl rfl iI (by first|assumption|omega|decide|rfl)|exact fu rfl iI iI|exact eH rfl rfl iI iI (by assumption)|exact dC rfl rfl iI iI (by first|assumption|omega))):p:=h hq
theorem zgO {p q:Prop} (hq:q) (h:q->p:=by((first|refine' LQ ?zh rfl|refine' bP rfl rfl rfl ?zh|refine' bk rfl rfl ?zh);case zh=>intro F';first|exact bp rfl rfl iI (by first|assumption|omega|decide|rfl)|exact bH rfl rfl iI (by first|assumption|omega|decide|rfl)|exact du rfl rfl iI (by first|assumption|omega|decide|rfl)|exact fu rfl iI iI|exact eH rfl rfl iI iI (by assumption)|exact dC rfl rfl iI iI (by first|assumption|omega))):p:=h hq
theorem zgP {p q:Prop} (hq:q) (h:q->p:=by((first|refine' LQ ?zh rfl|refine' bP rfl rfl rfl ?zh|refine' bk rfl rfl ?zh);case zh=>intro F';first|exact bp rfl rfl iI (by first|assumption|omega|decide|rfl)|exact bH rfl rfl iI (by first|assumption|omega|decide|rfl)|exact fC rfl rfl iI (by first|assumption|omega|decide|rfl)|exact fu rfl iI iI|exact eH rfl rfl iI iI (by assumption)|exact dC rfl rfl iI iI (by first|assumption|omega))):p:=h hq
theorem zfr {p q:Prop} (hq:q) (h:q->p:=by(show _->WS _ _ _ (.region 1 _ true) _ _;exact λx=>nw 3 [0,1,2,4,5,6,3,7,8,9] 6 [] (by decide+kernel) rfl rfl iI x)):p:=h hq
theorem zgu {α:Type} {p:Prop} {q:α->Prop} (hq:∀g,q g) (h:(∀g,q g)->p:=by((first|refine' bL ?zh|refine' dP ?zh rfl rfl);(case zh=>exact bo rfl rfl iI iI (by first|rfl|(simp only[uao,uaK, *];rfl)) rfl))):p:=h hq
theorem zbq {p q:Prop} (hq:q) (h:q->p:=by((first|refine' LQ ?zh rfl|refine' bk rfl rfl ?zh);case zh=>intro F';first|exact bp rfl rfl iI (by first|assumption|omega|decide|rfl)|exact du rfl rfl iI (by first|assumption|omega|decide|rfl))):p:=h hq
theorem zgE {p q:Prop} (hq:q) (h:q->p:=by exact λx=>ae (id:=15) (.range 17) 10 [3,5,9] x):p:=h hq
theorem zfl {p q:Prop} (hq:q) (h:q->p:=by((first|refine' LQ ?zh rfl|refine' bP rfl rfl rfl ?zh|refine' bk rfl rfl ?zh);case zh=>intro F';first|exact bp rfl rfl iI (by first|assumption|omega|decide|rfl)|exact bH rfl rfl iI (by first|assumption|omega|decide|rfl))):p:=h hq
theorem zfG {p q:Prop} (hq:q) (h:q->p:=by((first|refine' bk rfl rfl ?zh|refine' zab rfl rfl rfl ?zh);case zh=>intro F';exact zaZ rfl rfl iI)):p:=h hq
theorem zbr {p q:Prop} (hq:q) (h:q->p:=by((first|refine' LQ ?zh rfl|refine' bP rfl rfl rfl ?zh|refine' bk rfl rfl ?zh);case zh=>intro F';exact kD rfl iI iI iI)):p:=h hq
theorem zgv {p q:Prop} (hq:q) (h:q->p:=by exact λx=>aE (id:=15) 0 5 (.range 17) x):p:=h hq
theorem zbj {p q:Prop} (hq:q) (h:q->p:=by((first|refine' LQ ?zh rfl|refine' bP rfl rfl rfl ?zh|refine' bk rfl rfl ?zh);case zh=>intro F';exact bp rfl rfl iI (by first|assumption|omega|decide|rfl))):p:=h hq
theorem zbk {p q:Prop} (hq:q) (h:q->p:=by exact λx=>ag (id:=11) (.range 7) x):p:=h hq
theorem zeh {p q:Prop} (hq:q) (h:q->p:=by exact λx=>ag (id:=1) (.range 7) x):p:=h hq
theorem zgQ {p q:Prop} (hq:q) (h:q->p:=by((refine' bk rfl rfl ?zh);case zh=>intro F';exact bE rfl rfl iI)):p:=h hq
theorem zht {α:Type} {p:Prop} {q:α->Prop} (hq:∀g,q g) (h:(∀g,q g)->p:=by((first|refine' bL ?zh|refine' dP ?zh rfl rfl);(case zh=>first|exact dt rfl rfl rfl iI iI iI iI iI|exact bo rfl rfl iI iI (by first|rfl|(simp only[uao,uaK, *];rfl)) rfl))):p:=h hq
theorem zhu {p q:Prop} (hq:q) (h:q->p:=by((first|refine' LQ ?zh rfl|refine' bk rfl rfl ?zh|refine' zab rfl rfl rfl ?zh);case zh=>intro F';first|exact bp rfl rfl iI (by first|assumption|omega|decide|rfl)|exact bH rfl rfl iI (by first|assumption|omega|decide|rfl)|exact dv rfl rfl iI iI iI iI (by first|assumption|omega|(simp[al]<;>omega))|exact cW rfl rfl iI iI iI iI (by first|assumption|omega|(simp[al]<;>omega)))):p:=h hq
theorem zg9 {p q:Prop} (hq:q) (h:q->p:=by((first|refine' LQ ?zh rfl|refine' bP rfl rfl rfl ?zh|refine' bk rfl rfl ?zh|refine' zab rfl rfl rfl ?zh);case zh=>intro F';first|exact bp rfl rfl iI (by first|assumption|omega|decide|rfl)|exact bH rfl rfl iI (by first|assumption|omega|decide|rfl)|exact fC rfl rfl iI (by first|assumption|omega|decide|rfl)|exact du rfl rfl iI (by first|assumption|omega|decide|rfl))):p:=h hq
theorem zgy {p q:Prop} (hq:q) (h:q->p:=by((first|refine' LQ ?zh rfl|refine' bk rfl rfl ?zh|refine' zab rfl rfl rfl ?zh);case zh=>intro F';first|exact bp rfl rfl iI (by first|assumption|omega|decide|rfl)|exact bH rfl rfl iI (by first|assumption|omega|decide|rfl))):p:=h hq
theorem zgF {α:Type} {p:Prop} {q:α->Prop} (hq:∀g,q g) (h:(∀g,q g)->p:=by((first|refine' bL ?zh|refine' dP ?zh rfl rfl);(case zh=>exact dt rfl rfl rfl iI iI iI iI iI))):p:=h hq
theorem zhv {p q:Prop} (hq:q) (h:q->p:=by((first|refine' LQ ?zh rfl|refine' bk rfl rfl ?zh);case zh=>intro F';exact kP rfl rfl (by first|omega|(simp[al]<;>omega)))):p:=h hq
theorem zd4 {p q:Prop} (hq:q) (h:q->p:=by((first|refine' LQ ?zh rfl|refine' bk rfl rfl ?zh);case zh=>intro F';first|exact bp rfl rfl iI (by first|assumption|omega|decide|rfl)|exact bH rfl rfl iI (by first|assumption|omega|decide|rfl)|exact fC rfl rfl iI (by first|assumption|omega|decide|rfl)|exact du rfl rfl iI (by first|assumption|omega|decide|rfl))):p:=h hq
theorem zgR {p q:Prop} (hq:q) (h:q->p:=by exact λx=>ae (id:=3) (.range 9) 8 [1,2,4,5] x):p:=h hq
theorem zcm {p q:Prop} (hq:q) (h:q->p:=by((first|refine' LQ ?zh rfl|refine' bk rfl rfl ?zh|refine' zab rfl rfl rfl ?zh);case zh=>intro F';exact bp rfl rfl iI (by first|assumption|omega|decide|rfl))):p:=h hq
theorem zgA {p q:Prop} (hq:q) (h:q->p:=by exact λx=>ag (id:=5) (.range 9) x):p:=h hq
theorem zha {p q:Prop} (hq:q) (h:q->p:=by((refine' LQ ?zh rfl);case zh=>intro F';exact du rfl rfl iI (by first|assumption|omega|decide|rfl))):p:=h hq
theorem zgS {p q:Prop} (hq:q) (h:q->p:=by((first|refine' LQ ?zh rfl|refine' bk rfl rfl ?zh);case zh=>intro F';first|exact bp rfl rfl iI (by first|assumption|omega|decide|rfl)|exact bH rfl rfl iI (by first|assumption|omega|decide|rfl))):p:=h hq
theorem zgT {p q:Prop} (hq:q) (h:q->p:=by((first|refine' LQ ?zh rfl|refine' bP rfl rfl rfl ?zh|refine' bk rfl rfl ?zh);case zh=>intro F';exact iw rfl rfl iI iI iI iI iI (by assumption))):p:=h hq
theorem zhw {p q:Prop} (hq:q) (h:q->p:=by((first|refine' LQ ?zh rfl|refine' bP rfl rfl rfl ?zh|refine' bk rfl rfl ?zh);case zh=>intro F';exact fw rfl rfl iI iI iI iI iI (by assumption))):p:=h hq
theorem zhb {p q:Prop} (hq:q) (h:q->p:=by((first|refine' LQ ?zh rfl|refine' bP rfl rfl rfl ?zh|refine' bk rfl rfl ?zh);case zh=>intro F';first|exact bC rfl|exact kC rfl|exact db rfl|exact bq rfl iI rfl|exact ca rfl iI iI rfl|exact cW rfl rfl iI iI iI iI (by first|assumption|omega|(simp[al]<;>omega)))):p:=h hq
theorem zhx {α:Type} {p:Prop} {q:α->Prop} (hq:∀g,q g) (h:(∀g,q g)->p:=by((first|refine' bL ?zh|refine' dP ?zh rfl rfl);(case zh=>first|exact ky rfl rfl iI iI iI iI|exact bo rfl rfl iI iI (by first|rfl|(simp only[uao,uaK, *];rfl)) rfl))):p:=h hq
theorem zhy {p q:Prop} (hq:q) (h:q->p:=by((first|refine' LQ ?zh rfl|refine' bP rfl rfl rfl ?zh|refine' bk rfl rfl ?zh);case zh=>intro F';first|exact bp rfl rfl iI (by first|assumption|omega|decide|rfl)|exact bH rfl rfl iI (by first|assumption|omega|decide|rfl)|exact fC rfl rfl iI (by first|assumption|omega|decide|rfl))):p:=h hq
theorem zd6 {p q:Prop} (hq:q) (h:q->p:=by((refine' LQ ?zh rfl);case zh=>intro F';first|exact bH rfl rfl iI (by first|assumption|omega|decide|rfl)|exact dv rfl rfl iI iI iI iI (by first|assumption|omega|(simp[al]<;>omega))|exact cW rfl rfl iI iI iI iI (by first|assumption|omega|(simp[al]<;>omega)))):p:=h hq
theorem zdl {p q:Prop} (hq:q) (h:q->p:=by exact λx=>cK (id:=3) 4 (.range 9) 8 [] x):p:=h hq
theorem zd9 {p q:Prop} (hq:q) (h:q->p:=by exact λx=>ag (id:=3) (.range 25) x):p:=h hq
theorem zhz {p q:Prop} (hq:q) (h:q->p:=by(show _->WS _ _ _ (.region 1 _ true) _ _;exact λx=>nB 4 2 1 [1,2,4,5,6,0,3,7] [1006] (by decide+kernel) rfl rfl rfl rfl iI iI iI x)):p:=h hq
theorem zhA {p q:Prop} (hq:q) (h:q->p:=by exact λx=>ag (id:=7) (.range 7) x):p:=h hq
theorem zfH {p q:Prop} (hq:q) (h:q->p:=by((refine' LQ ?zh rfl);case zh=>intro F';first|exact bp rfl rfl iI (by first|assumption|omega|decide|rfl)|exact bH rfl rfl iI (by first|assumption|omega|decide|rfl)|exact fC rfl rfl iI (by first|assumption|omega|decide|rfl))):p:=h hq
theorem zfJ {p q:Prop} (hq:q) (h:q->p:=by((refine' LQ ?zh rfl);case zh=>intro F';first|exact bp rfl rfl iI (by first|assumption|omega|decide|rfl)|exact bH rfl rfl iI (by first|assumption|omega|decide|rfl)|exact zba rfl rfl iI iI (by first|assumption|omega))):p:=h hq
theorem zhB {p q:Prop} (hq:q) (h:q->p:=by exact λx=>ae (id:=4) (.range 21) 19 [3,5,7,13,15,16] x):p:=h hq
theorem zhc {p q:Prop} (hq:q) (h:q->p:=by exact λx=>ae (id:=4) (.range 20) 18 [3,5,7,13,15,16] x):p:=h hq
theorem zgV {p q:Prop} (hq:q) (h:q->p:=by((refine' LQ ?zh rfl);case zh=>intro F';first|exact dv rfl rfl iI iI iI iI (by first|assumption|omega|(simp[al]<;>omega))|exact cW rfl rfl iI iI iI iI (by first|assumption|omega|(simp[al]<;>omega)))):p:=h hq
theorem zhC {p q:Prop} (hq:q) (h:q->p:=by((first|refine' bk rfl rfl ?zh|refine' zab rfl rfl rfl ?zh);case zh=>intro F';first|exact zdo rfl rfl iI|exact zaZ rfl rfl iI)):p:=h hq
theorem zfP {α:Type} {p:Prop} {q:α->Prop} (hq:∀g,q g) (h:(∀g,q g)->p:=by exact λx=>ai (au evC [k8 (i:Int) 0] iI iI iI rfl rfl rfl rfl rfl iI rfl rfl rfl) rfl x):p:=h hq
theorem zhD {p q:Prop} (hq:q) (h:q->p:=by(show _->WS _ _ _ (.region 5 _ _) _ _;exact λx=>lJ (g:=d.tb) (self:=s.self) (v:=v) (ys:=xs) (xs:=xs) Ix (λZ=>aq.refl _) iI iI iI x)):p:=h hq
theorem zhE {p q:Prop} (hq:q) (h:q->p:=by((first|refine' LQ ?zh rfl|refine' bP rfl rfl rfl ?zh|refine' bk rfl rfl ?zh);case zh=>intro F';exact cW rfl rfl iI iI iI iI (by first|assumption|omega|(simp[al]<;>omega)))):p:=h hq
theorem zhd {p q:Prop} (hq:q) (h:q->p:=by exact λx=>ae (id:=17) (.range 17) 10 [3,5,9] x):p:=h hq
theorem zhF {α:Type} {p:Prop} {q:α->Prop} (hq:∀g,q g) (h:(∀g,q g)->p:=by exact λx=>aD (au evC [((⟨(i:Int),0,⟨J,Rp,fr,cm,dr⟩⟩,(A1,fr.length,c1),(A2,cm.length,c2),(A3,dr.length,c3)):ES)] iI iI iI rfl rfl rfl rfl rfl iI rfl rfl rfl) rfl rfl rfl x):p:=h hq
theorem zfT {α:Type} {p:Prop} {q:α->Prop} (hq:∀g,q g) (h:(∀g,q g)->p:=by((refine' ai ?zh rfl);(case zh=>first|exact lF iI iI iI rfl rfl rfl rfl rfl iI rfl rfl|exact te rfl rfl iI iI rfl iI iI mS (by first|omega|(simp[al]<;>omega)) rfl))):p:=h hq
theorem zfV {α:Type} {p:Prop} {q:α->Prop} (hq:∀g,q g) (h:(∀g,q g)->p:=by((refine' bL ?zh);(case zh=>exact oF rfl rfl iI iI rfl iI (by first|assumption|omega|(simp[al]<;>omega))))):p:=h hq
theorem zfX {p q:Prop} (hq:q) (h:q->p:=by((first|refine' LQ ?zh rfl|refine' bk rfl rfl ?zh|refine' zab rfl rfl rfl ?zh);case zh=>intro F';first|exact fD rfl rfl iI iI iI iI iI (by assumption)|exact DF rfl (by omega))):p:=h hq
theorem zgW {p q:Prop} (hq:q) (h:q->p:=by exact λx=>ae (id:=8) (.range 17) 10 [3,5,9] x):p:=h hq
theorem zgX {p q:Prop} (hq:q) (h:q->p:=by exact λx=>ae (id:=1) (.range 17) 10 [3,5,9] x):p:=h hq
theorem zhG {p q:Prop} (hq:q) (h:q->p:=by exact λx=>ae (id:=20) (.range 9) 8 [3,5,7] x):p:=h hq
theorem zhH {α:Type} {p:Prop} {q:α->Prop} (hq:∀g,q g) (h:(∀g,q g)->p:=by exact λx=>ai (au dA [(dst,t)] iI iI iI rfl rfl rfl rfl rfl iI rfl rfl rfl) rfl x):p:=h hq
theorem zhI {α:Type} {p:Prop} {q:α->Prop} (hq:∀g,q g) (h:(∀g,q g)->p:=by((refine' ai ?zh rfl);(case zh=>exact lF iI iI iI rfl rfl rfl rfl rfl iI rfl rfl))):p:=h hq
theorem zhJ {p q:Prop} (hq:q) (h:q->p:=by(show _->WS _ _ _ (.region 4 _ true) _ _;exact λx=>yR gn bn bd bt (mp u32 cT h2.rw (jA h2.wv s1.wait)) [0,1,2,3,4,5,6,7,8,9,10,11,12,13,14] 14 [10] (by decide+kernel) rfl iI iI iI iI iI x)):p:=h hq
theorem zgY {p q:Prop} (hq:q) (h:q->p:=by((first|refine' LQ ?zh rfl|refine' bP rfl rfl rfl ?zh|refine' bk rfl rfl ?zh|refine' zab rfl rfl rfl ?zh);case zh=>intro F';exact fh rfl rfl iI iI iI iI iI (by assumption))):p:=h hq
theorem zhK {p q:Prop} (hq:q) (h:q->p:=by((first|refine' LQ ?zh rfl|refine' bk rfl rfl ?zh);case zh=>intro F';first|exact fw rfl rfl iI iI iI iI iI (by assumption)|exact iw rfl rfl iI iI iI iI iI (by assumption))):p:=h hq
theorem zfy {p q:Prop} (hq:q) (h:q->p:=by((refine' LQ ?zh rfl);case zh=>intro F';first|exact bH rfl rfl iI (by first|assumption|omega|decide|rfl)|exact du rfl rfl iI (by first|assumption|omega|decide|rfl))):p:=h hq
theorem zf0 {p q:Prop} (hq:q) (h:q->p:=by((refine' LQ ?zh rfl);case zh=>intro F';first|exact bH rfl rfl iI (by first|assumption|omega|decide|rfl)|exact fC rfl rfl iI (by first|assumption|omega|decide|rfl))):p:=h hq
theorem zfz {α:Type} {p:Prop} {q:α->Prop} (hq:∀g,q g) (h:(∀g,q g)->p:=by((refine' dP ?zh rfl rfl);(case zh=>exact dt rfl rfl rfl iI iI iI iI iI))):p:=h hq
theorem zf1 {p q:Prop} (hq:q) (h:q->p:=by(show _->WS _ _ _ (.region 15 _ true) _ _;exact λx=>zbM 3 0 6 (rows 128 1 Z4 k.vs (k.hs.map (·.1))) emp (List.range 28) (by decide+kernel) rfl rfl rfl rfl iI iI iI iI ⟨by rw[aB]⟩ x)):p:=h hq
theorem zf4 {p q:Prop} (hq:q) (h:q->p:=by((first|refine' LQ ?zh rfl|refine' bP rfl rfl rfl ?zh|refine' bk rfl rfl ?zh);case zh=>intro F';exact kP rfl rfl (by first|omega|(simp[al]<;>omega)))):p:=h hq
theorem zhe {p q:Prop} (hq:q) (h:q->p:=by exact λx=>ag (id:=12) (.range 12) x):p:=h hq
theorem zhL {p q:Prop} (hq:q) (h:q->p:=by exact λx=>aE (id:=17) 0 5 (.range 17) x):p:=h hq
theorem zhM {p q:Prop} (hq:q) (h:q->p:=by(show _->WS _ _ _ (.region 15 _ true) _ _;exact λx=>zbM 3 0 6 (rows 128 1 Z4 k.vs (k.hs.map (·.1))) (zaJ x2 s2) (List.range 28) (by decide+kernel) rfl rfl rfl rfl iI iI iI iI iI x)):p:=h hq
theorem zf5 {p q:Prop} (hq:q) (h:q->p:=by exact λx=>ag (id:=5) (.range 18) x):p:=h hq
theorem zf7 {p q:Prop} (hq:q) (h:q->p:=by exact λx=>aE (id:=8) 0 5 (.range 17) x):p:=h hq
theorem zhf {p q:Prop} (hq:q) (h:q->p:=by exact λx=>aE (id:=1) 0 4 (.range 17) x):p:=h hq
theorem zhg {α:Type} {p:Prop} {q:α->Prop} (hq:∀g,q g) (h:(∀g,q g)->p:=by exact λx=>ai (au Rec.cells [⟨true,0,seq⟩] iI iI iI rfl rfl rfl rfl rfl iI rfl rfl rfl) rfl x):p:=h hq
theorem zhN {p q:Prop} (hq:q) (h:q->p:=by((first|refine' LQ ?zh rfl|refine' bk rfl rfl ?zh|refine' zab rfl rfl rfl ?zh);case zh=>intro F';exact fD rfl rfl iI iI iI iI iI (by assumption))):p:=h hq
theorem zhh {p q:Prop} (hq:q) (h:q->p:=by((first|refine' LQ ?zh rfl|refine' bk rfl rfl ?zh|refine' zab rfl rfl rfl ?zh);case zh=>intro F';exact iJ rfl rfl iI iI iI iI iI (by assumption))):p:=h hq
theorem zgH {p q:Prop} (hq:q) (h:q->p:=by exact λx=>ag (id:=2) (.range 15) x):p:=h hq
theorem zgZ {p q:Prop} (hq:q) (h:q->p:=by exact λx=>ag (id:=7) (.range 12) x):p:=h hq
theorem zgg {p q:Prop} (hq:q) (h:q->p:=by((refine' LQ ?zh rfl);case zh=>intro F';exact iJ rfl rfl iI iI iI iI iI (by assumption))):p:=h hq
theorem zgh {p q:Prop} (hq:q) (h:q->p:=by((refine' LQ ?zh rfl);case zh=>intro F';exact fD rfl rfl iI iI iI iI iI (by assumption))):p:=h hq
theorem zgI {p q:Prop} (hq:q) (h:q->p:=by((first|refine' LQ ?zh rfl|refine' bk rfl rfl ?zh);case zh=>intro F';exact bp rfl rfl iI (by first|assumption|omega|decide|rfl))):p:=h hq
theorem zg0 {p q:Prop} (hq:q) (h:q->p:=by((refine' LQ ?zh rfl);case zh=>intro F';exact fw rfl rfl iI iI iI iI iI (by assumption))):p:=h hq
theorem zg7 {p q:Prop} (hq:q) (h:q->p:=by exact λx=>ae (id:=6) (.range 16) 10 [3,5,7,8,9] x):p:=h hq
theorem zh3 {p q:Prop} (hq:q) (h:q->p:=by(show _->WS _ _ _ (.region 5 _ _) _ _;exact λx=>lJ (g:=d.tb) (self:=s.self) (v:=v) (ys:=xs) (xs:=xs.set i (lp lq p)) Ix SJ iI iI iI x)):p:=h hq
theorem zhn {p q:Prop} (hq:q) (h:q->p:=by exact λx=>ae (id:=21) (.range 20) 19 [1,3,5,7,9,11,15,17] x):p:=h hq
theorem zg1 {p q:Prop} (hq:q) (h:q->p:=by exact λx=>ag (id:=1) (.range 12) x):p:=h hq
theorem zg2 {p q:Prop} (hq:q) (h:q->p:=by exact λx=>ag (id:=7) (.range 47) x):p:=h hq
theorem zg8 {p q:Prop} (hq:q) (h:q->p:=by exact λx=>ae (id:=8) (.range 12) 10 [3,6,8,9] x):p:=h hq
theorem zho {p q:Prop} (hq:q) (h:q->p:=by exact λx=>ae (id:=21) (.range 19) 18 [2,4,6,8,10,14,16] x):p:=h hq
section
open Go.RowKit
@[go_sem] theorem World.M7 (w:World) (n:Nat) (o:Obj):(w.drewN n).alloc o=(w.alloc o).drewN n:=rfl
@[go_sem] theorem World.LB (w:World) (n:Nat) (a:Addr) (v:Value):(w.drewN n).setCell a v=(w.setCell a v).drewN n:=rfl
abbrev Part:=Nat->Option Obj
def Part.tB (a b:Part):Prop:=∀k,a k=none\/b k=none
def Part.join (a b:Part):Part:=λk=>match a k with|some o=>some o|none=>b k
structure af where
 on:Part->Prop
theorem af.ext' {p q:af} (h:∀x,p.on x↔q.on x):p=q:=by
 cases p;cases q;congr 1;funext x;exact propext (h x)
def star (p q:af):af:=⟨λh=>∃a b,Part.tB a b/\h=a.join b/\p.on a/\q.on b⟩
instance:Mul af:=⟨star⟩
def emp:af:=⟨λh=>∀k,h k=none⟩
def pM (b:Nat) (o:Obj):af:=⟨λh=>h=λk=>if k=b then some o else none⟩
def pure' (φ:Prop):af:=⟨λh=>φ/\∀k,h k=none⟩
def hex {α:Type} (P:α->af):af:=⟨λh=>∃x,(P x).on h⟩
def yn (w0:World):af:=⟨λh=>h=λk=>w0.heap[k]?⟩
theorem Part.join_comm {a b:Part} (h:Part.tB a b):a.join b=b.join a:=by
 funext k;rcases h k with h|h<;>simp only[Part.join,h]
 ·cases b k<;>rfl
 ·cases a k<;>rfl
theorem Part.tB.symm {a b} (h:Part.tB a b):Part.tB b a:=λk=>(h k).symm
theorem Part.join_assoc (a b c:Part):(a.join b).join c=a.join (b.join c):=by
 funext k;simp only[Part.join];cases a k<;>rfl
theorem Part.pA {a b c:Part}:Part.tB (a.join b) c↔Part.tB a c/\Part.tB b c:=by
 constructor
 ·intro h;constructor<;>intro k<;>have:=h k<;>simp only[Part.join]at this<;>cases ha:a k<;>simp_all
 ·rintro⟨h1,h2⟩ k;have h1:=h1 k;have h2:=h2 k;simp only[Part.join];cases ha:a k<;>simp_all
theorem Part.wW {a b c:Part}:Part.tB a (b.join c)↔Part.tB a b/\Part.tB a c:=by
 constructor
 ·intro h;have:=Part.pA.1 h.symm;exact⟨this.1.symm,this.2.symm⟩
 ·rintro⟨h1,h2⟩;exact(Part.pA.2 ⟨h1.symm,h2.symm⟩).symm
theorem nt (p q:af):p*q=q*p:=af.ext' λh=>by
 constructor;all_goals
  rintro⟨a,b,hd,rfl,hp,hq⟩
  exact⟨b,a,hd.symm,Part.join_comm hd,hq,hp⟩
theorem ad (p q r:af):p*q*r=p*(q*r):=af.ext' λh=>by
 constructor
 ·rintro⟨x,c,hd,rfl,⟨a,b,rU,rfl,hp,hq⟩,hr⟩;obtain⟨h1,h2⟩:=Part.pA.1 hd;exact⟨a,b.join c,Part.wW.2 ⟨rU,h1⟩,Part.join_assoc a b c,hp,b,c,h2,rfl,hq,hr⟩
 ·rintro⟨a,x,hd,rfl,hp,b,c,rU,rfl,hq,hr⟩;obtain⟨h1,h2⟩:=Part.wW.1 hd;exact⟨a.join b,c,Part.pA.2 ⟨h2,rU⟩,(Part.join_assoc a b c).symm,⟨a,b,h1,rfl,hp,hq⟩,hr⟩
instance:Std.Commutative (α:=af) (·*·):=⟨nt⟩
instance:Std.Associative (α:=af) (·*·):=⟨ad⟩
theorem aM (p q r:af):p*(q*r)=q*(p*r):=by ac_rfl
structure Sat (w0 w:World) (p:af):Prop where
 os:w.os=w0.os
 tape:w.tape=w0.tape
 output:w.output=w0.output
 heap:∃h:Part,p.on h/\∀k o,h k=some o->w.heap[k]? =some o
variable {w0 w w':World} {p q r F:af}
theorem Sat.mono (h:Sat w0 w p) (UD:∀x,p.on x->q.on x):Sat w0 w q:=
 ⟨h.os,h.tape,h.output,let ⟨x,hx,hk⟩:=h.heap;⟨x,UD x hx,hk⟩⟩
theorem Sat.cast (h:Sat w0 w p) (e:p=q):Sat w0 w q:=e▸h
theorem Sat.drop (h:Sat w0 w (p*q)):Sat w0 w q:=by
 obtain⟨x,⟨a,b,hd,rfl,hp,hq⟩,hk⟩:=h.heap;refine⟨h.os,h.tape,h.output,b,hq,λk o ho=>hk k o ?_⟩;rcases hd k with e|e
 ·simp only[Part.join,e,ho]
 ·rw[e]at ho;cases ho
theorem Sat.Cq (h:Sat w0 w (p*q)):Sat w0 w p:=by
 rw[nt]at h;exact h.drop
theorem Sat.p2 {a b} (h:Sat w0 w (a*(b*F))):Sat w0 w (b*(a*F)):=h.cast (aM a b F)
theorem Sat.drew (h:Sat w0 w p):Sat w0 w.drew p:=⟨h.os,h.tape,h.output,h.heap⟩
theorem Sat.ex {α:Type} {P:α->af} (h:Sat w0 w (hex P*F)):∃x,Sat w0 w (P x*F):=by
 obtain⟨x,⟨a,b,hd,rfl,⟨y,hp⟩,hq⟩,hk⟩:=h.heap;exact⟨y,h.os,h.tape,h.output,_,⟨a,b,hd,rfl,hp,hq⟩,hk⟩
theorem Sat.M9 {α:Type} {P:α->af} (x:α) (h:Sat w0 w (P x*F)):Sat w0 w (hex P*F):=
 h.mono λ_ ⟨a,b,hd,e,hp,hq⟩=>⟨a,b,hd,e,⟨x,hp⟩,hq⟩
theorem Part.join_none {a b:Part} (h:∀k,a k=none):a.join b=b:=by funext k;simp only[Part.join,h k]
theorem ki {φ h}:(pure' φ*F).on h↔φ/\F.on h:=by
 constructor
 ·rintro⟨a,b,_,rfl,⟨hf,hn⟩,hb⟩;rw[Part.join_none hn];exact⟨hf,hb⟩
 ·rintro⟨hf,hb⟩;exact⟨λ_=>none,h,λ_=> .inl rfl,(Part.join_none λ_=>rfl).symm,⟨hf,λ_=>rfl⟩,hb⟩
theorem aB:emp*F=F:=af.ext' λh=>by
 constructor
 ·rintro⟨a,b,_,rfl,hn,hb⟩;rw[Part.join_none hn];exact hb
 ·intro hb;exact⟨λ_=>none,h,λ_=> .inl rfl,(Part.join_none λ_=>rfl).symm,λ_=>rfl,hb⟩
theorem Sat.pure {φ} (h:Sat w0 w (pure' φ*F)):φ/\Sat w0 w F:=by
 obtain⟨x,hx,hk⟩:=h.heap;obtain⟨h1,h2⟩:=ki.1 hx;exact⟨h1,h.os,h.tape,h.output,x,h2,hk⟩
theorem Sat.MG {φ:Prop} (hf:φ) (h:Sat w0 w F):Sat w0 w (pure' φ*F):=h.mono λ_ hx=>ki.2 ⟨hf,hx⟩
theorem Sat.at_ {b o} (h:Sat w0 w (pM b o*F)):w.heap[b]? =some o:=by
 obtain⟨x,⟨a,c,hd,rfl,hp,hq⟩,hk⟩:=h.heap;have qZ:a=_:=hp;exact hk b o (by simp[Part.join,qZ])
theorem Sat.lt {b o} (h:Sat w0 w (pM b o*F)):b<w.heap.size:=by
 have:=h.at_;rcases jP b w.heap.size with bW|kQ
 ·exact bW
 ·rw[WB kQ]at this;cases this
theorem Sat.other {b o} (h:Sat w0 w (pM b o*F)):∃x:Part,F.on x/\x b=none/\∀k u,x k=some u->w.heap[k]? =some u:=by
 obtain⟨x,⟨a,c,hd,rfl,hp,hq⟩,hk⟩:=h.heap;have qZ:a=_:=hp;refine⟨c,hq,?_,λk u hu=>hk k u ?_⟩
 ·rcases hd b with e|e
  ·simp[qZ]at e
  ·exact e
 ·rcases hd k with e|e
  ·simp only[Part.join,e,hu]
  ·rw[e]at hu;cases hu
theorem Sat.put {b o o'} (h:Sat w0 w (pM b o*F)) (hs:w'.os=w.os) (ht:w'.tape=w.tape) (ho:w'.output=w.output) (hb:w'.heap[b]? =some o') (hk:∀k,k<w.heap.size->k≠b->w'.heap[k]? =w.heap[k]?):Sat w0 w' (pM b o'*F):=by
 obtain⟨x,hx,S9,Yn⟩:=h.other;refine⟨hs.trans h.os,ht.trans h.tape,ho.trans h.output,_,⟨λk=>if k=b then some o' else none,x,λk=> ?_,rfl,rfl,hx⟩,λk u hu=> ?_⟩
 ·by_cases e:k=b
  ·subst e;exact .inr S9
  ·simp[e]
 ·simp only[Part.join]at hu;by_cases e:k=b
  ·subst e;simp at hu;subst hu;exact hb
  ·simp only[e,VC]at hu;have:=Yn k u hu;have bW:k<w.heap.size:=by
    rcases jP k w.heap.size with bW|kQ
    ·exact bW
    ·rw[WB kQ]at this;cases this
   exact(hk k bW e).trans this
theorem Sat.alloc (h:Sat w0 w F) (o):Sat w0 (w.alloc o) (pM w.heap.size o*F):=by
 obtain⟨x,hx,hk⟩:=h.heap;have bW:∀k u,x k=some u->k<w.heap.size:=λk u hu=>by
  have:=hk k u hu;rcases jP k w.heap.size with bW|kQ
  ·exact bW
  ·rw[WB kQ]at this;cases this
 refine⟨h.os,h.tape,h.output,_,⟨λk=>if k=w.heap.size then some o else none,x,λk=> ?_,rfl,rfl,hx⟩,λk u hu=> ?_⟩
 ·by_cases e:k=w.heap.size
  ·subst e;refine .inr ?_;cases RF:x w.heap.size with
   |none=>rfl
   |some u=>exact absurd (bW _ _ RF) (uct _)
  ·simp[e]
 ·simp only[Part.join]at hu;by_cases e:k=w.heap.size
  ·subst e;simp at hu;subst hu;exact heap_alloc_new w o
  ·simp only[e,VC]at hu;rw[Below.heap_alloc w o k (bW k u hu)];exact hk k u hu
def Oc (b:Nat) (t:TypeId) (cs:Array Value):af:=pM b (.cells cs t (0,0))
theorem Sat.new (h:Sat w0 w F) (t cs):Sat w0 (w.alloc (.cells cs t)) (Oc w.heap.size t cs*F):=h.alloc _
theorem Sat.cell {b t cs} (h:Sat w0 w (Oc b t cs*F)) (i):w.cell? ⟨b,i,none⟩=cs[i]? :=by
 have:=Sat.at_ h;simp[World.cell?,this]
theorem Sat.frozen {b t cs} (h:Sat w0 w (Oc b t cs*F)) (i):w.frozen? ⟨b,i,none⟩=false:=by
 have:=Sat.at_ h;simp[World.frozen?,this]
theorem Sat.set {b t} {cs:Array Value} (h:Sat w0 w (Oc b t cs*F)) (i v):Sat w0 (w.setCell ⟨b,i,none⟩ v) (Oc b t (cs.setIfInBounds i v)*F):=by
 refine Sat.put (o:= .cells cs t (0,0)) h rfl rfl rfl ?_ λk hk mi=>Below.heap_setCell w ⟨b,i,none⟩ v k mi;have:=Sat.at_ h;simp[World.setCell,uaP,this]
theorem Sat.start (w):Sat w w (yn w):=⟨rfl,rfl,rfl,λk=>w.heap[k]?,rfl,λ_ _ h=>h⟩
theorem Sat.ends (h:Sat w0 w (yn w0*F)):Below w0.heap.size w0 w:=by
 obtain⟨x,hx,hk⟩:=h.Cq.heap;have DA:x=_:=hx;subst DA;have l9:∀k,k<w0.heap.size->w.heap[k]? =w0.heap[k]? :=λk bW=>by
  have h1:w0.heap[k]? =some w0.heap[k]:=ubc bW;exact(hk k _ h1).trans h1.symm
 refine⟨h.os,h.tape,h.output,?_,l9⟩;rcases jP w.heap.size w0.heap.size with OC|hle
 ·have h1:=l9 w.heap.size OC;rw[WB (uL _),ubc OC]at h1;cases h1
 ·exact hle
theorem Sat.KE (h:Sat w0 w (yn w0*F)) {a v} (hc:w0.cell? a=some v):w.cell? a=some v:=by
 have hb:=h.ends;have bW:a.block<w0.heap.size:=by
  rcases jP a.block w0.heap.size with bW|kQ
  ·exact bW
  ·simp[World.cell?,WB kQ]at hc
 rw[hb.cell bW];exact hc
end
section
open Go.RowKit
variable {w0 w w':World} {F:af} {P:Program}
def sP (fr:Nat×Nat) (lo hi:Nat):Prop:=∀i,lo<=i->i<hi->(decide (fr.1<=i)&&decide (i<fr.2))=false
def Gs (e:TypeId) (size:Nat) (v:Value) (n:Nat) (xs:List Value):af:=
 ⟨λh=>xs.length=n*size/\((∃A,v= .slice A 0 0/\n=0/\∀k,h k=none)\/
  ∃g off cap cur fr,v= .slice (some ⟨g,off,none⟩) n cap/\n<=cap/\cap<=maxLen/\off+cap*size<=cur.size/\(cur.toList.drop off).take (n*size)=xs/\
   sP fr off (off+cap*size)/\h=λk=>if k=g then some (.cells cur e fr)else none)⟩
theorem Sat.MQ (h:Sat w0 w F) (e size A):Sat w0 w (Gs e size (.slice A 0 0) 0 []*F):=by
 rw[<-aB (F:=F)]at h;exact h.mono λx ⟨a,b,hd,he,hp,hq⟩=>⟨a,b,hd,he,⟨by simp,.inl ⟨A,rfl,rfl,hp⟩⟩,hq⟩
theorem Sat.yc (e:TypeId) (size n g off cap:Nat) (cur:Array Value) (fr:Nat×Nat) (xs:List Value) (h:Sat w0 w (pM g (.cells cur e fr)*F))
 (hl:xs.length=n*size) (hn:n<=cap) (hm:cap<=maxLen) (hc:off+cap*size<=cur.size) (ht:(cur.toList.drop off).take (n*size)=xs) (hf:sP fr off (off+cap*size)):
 Sat w0 w (Gs e size (.slice (some ⟨g,off,none⟩) n cap) n xs*F):=
 h.mono λ_ ⟨a,b,hd,he,hp,hq⟩=>⟨a,b,hd,he,⟨hl,.inr ⟨g,off,cap,cur,fr,rfl,hn,hm,hc,ht,hf,hp⟩⟩,hq⟩
theorem Sat.jN {e size v n} {xs:List Value} (h:Sat w0 w (Gs e size v n xs*F)):
 xs.length=n*size/\((∃A,v= .slice A 0 0/\n=0/\Sat w0 w F)\/
  ∃g off cap cur fr,v= .slice (some ⟨g,off,none⟩) n cap/\n<=cap/\cap<=maxLen/\off+cap*size<=cur.size/\(cur.toList.drop off).take (n*size)=xs/\
   sP fr off (off+cap*size)/\Sat w0 w (pM g (.cells cur e fr)*F)):=by
 obtain⟨x,⟨a,b,hd,he,⟨hl,hp⟩,hq⟩,hk⟩:=h.heap
 refine⟨hl,?_⟩
 rcases hp with ⟨A,rfl,rfl,hn⟩|⟨g,off,cap,cur,fr,rfl,hn,hm,hc,ht,hf,hp⟩
 ·exact .inl ⟨A,rfl,rfl,h.drop⟩
 ·exact .inr ⟨g,off,cap,cur,fr,rfl,hn,hm,hc,ht,hf,h.os,h.tape,h.output,x,⟨a,b,hd,he,hp,hq⟩,hk⟩
theorem Sat.K1 {e size v n xs} (h:Sat w0 w (Gs e size v n xs*F)):∃A c,v= .slice A n c:=by
 obtain⟨_,⟨A,rfl,rfl,_⟩|⟨g,off,cap,_,_,rfl,_⟩⟩:=h.jN
 ·exact⟨_,_,rfl⟩
 ·exact⟨_,_,rfl⟩
theorem add_lit (g off j):(⟨g,off,none⟩:Addr).add j=⟨g,off+j,none⟩:=by unfold Addr.add;split<;>simp_all
theorem K0 {cur:Array Value} {off k j xs u} (ht:(cur.toList.drop off).take k=xs) (hu:xs[j]? =some u):cur[off+j]? =some u:=by
 rw[<-ht,G3]at hu;split at hu
 ·rw[Lf]at hu;simpa using hu
 ·cases hu
theorem Sat.Dl {e size v n xs} (h:Sat w0 w (Gs e size v n xs*F)) (hn:xs≠[]):
 ∃g off cap,v= .slice (some ⟨g,off,none⟩) n cap/\n<=cap/\cap<=maxLen/\(∀j u,xs[j]? =some u->w.cell? ⟨g,off+j,none⟩=some u/\w.frozen? ⟨g,off+j,none⟩=false):=by
 obtain⟨hl,⟨A,rfl,rfl,_⟩|⟨g,off,cap,cur,fr,rfl,hn,hm,hc,ht,hf,hs⟩⟩:=h.jN
 ·exact absurd (HD (by simpa using hl)) hn
 ·refine⟨g,off,cap,rfl,hn,hm,λj u hu=> ?_⟩
  have hg:=hs.at_
  have hj:j<n*size:=by rw[<-hl];exact(az.1 hu).1
  have hle:n*size<=cap*size:=VB _ hn
  exact⟨by simp[World.cell?,hg,K0 ht hu],by have:=hf (off+j) (by omega) (by omega);simpa [World.frozen?,hg]using this⟩
structure Src (P:Program) (w:World) (size m:Nat) (x:Value) (news:List Value):Prop where
 len:Builtin.lenOf x=pure m
 length:news.length=m*size
 cells:∀w':World,w'.heap=w.heap->(Builtin.firstCells size m x).run P w'= .ok news.toArray w'
theorem Src.slice (size m c) (a:Addr) (news:List Value) (hl:news.length=m*size) (h:∀j u,news[j]? =some u->w.cell? (a.add j)=some u):
 Src P w size m (.slice (some a) m c) news:=
 ⟨rfl,hl,λw' hw=>run_firstCells_some w' size m a m c news hl λj u hu=>(World.cell?_of_block (by rw[hw])).trans (h j u hu)⟩
theorem Src.nil (size c):Src P w size 0 (.slice none 0 c) []:=⟨rfl,by simp,λw' _=>run_firstCells_none w' size 0 0 c⟩
theorem Src.string (s:ByteArray):Src P w 1 s.size (.string s) (s.data.toList.map λb=> .int .u8 b.toNat):=
 ⟨rfl,by simp,λw' _=>by
  have hx:(s.extract 0 s.size)=s:=by simp
  simp only[Builtin.firstCells,hx,Sem.run_pure]
  congr 1
  apply ubw
  simp⟩
theorem Src.nothing (size c A):Src P w size 0 (.slice A 0 c) []:=by
 cases A with
 |none=>exact Src.nil size c
 |some a=>exact Src.slice size 0 c a [] (by simp) (by simp)
theorem Src.own {e size v n xs} (h:Sat w0 w (Gs e size v n xs*F)):Src P w size n v xs:=by
 obtain⟨hl,⟨A,rfl,rfl,_⟩|⟨g,off,cap,cur,fr,rfl,hn,hm,hc,ht,hf,hs⟩⟩:=h.jN
 ·obtain rfl:xs=[]:=HD (by simpa using hl);exact Src.nothing size 0 A
 ·refine Src.slice size n cap _ xs hl λj u hu=> ?_;rw[add_lit];have hg:=hs.at_;simp[World.cell?,hg,K0 ht hu]
theorem ig (g o:Nat) (t:TypeId) (fr:Nat×Nat):∀(vs:List Value) (i:Nat) (cur:Array Value) (w:World),w.heap[g]? =some (.cells cur t fr)->o+i+vs.length<=cur.size->(∀v∈vs,v.oneCell'=true)->
 sP fr (o+i) (o+i+vs.length)->
 (storeCells ⟨g,o,none⟩ vs i).run P w= .ok () (w.setRow g (cur.toList.take (o+i)++vs++cur.toList.drop (o+i+vs.length)).toArray)
 |[],i,cur,w,hg,_,_,_=>by
  simp only[storeCells,rL,HM,uay,Jt,Array.toArray_toList];rw[setRow_self w g cur t fr hg];rfl
 |v::rest,i,cur,w,hg,hl,h1,hf=>by
  have hi:o+i<cur.size:=by simp at hl;omega
  have Ef:(⟨g,o,none⟩:Addr).add i=⟨g,o+i,none⟩:=add_lit g o i;have FV:w.cell? ⟨g,o+i,none⟩=some cur[o+i]:=by simp[World.cell?,hg,hi]
  have T5:w.frozen? ⟨g,o+i,none⟩=false:=by
   have:=hf (o+i) (by omega) (by simp);simpa [World.frozen?,hg]using this
  have jf:(store ((⟨g,o,none⟩:Addr).add i) v).run P w= .ok () (w.setRow g (cur.setIfInBounds (o+i) v)):=by
   rw[Ef,run_store P w _ v _ (h1 v (by simp)),FV];simp[T5,setCell_eq_setRow w g (o+i) cur t fr v hg]
  have ih:=ig g o t fr rest (i+1) (cur.setIfInBounds (o+i) v) (w.setRow g (cur.setIfInBounds (o+i) v)) (setRow_heap w g cur _ t _ hg) (by simp at hl ⊢;omega) (λx hx=>h1 x (by simp[hx]))
   (λk Cg vS=>hf k (by omega) (by simp;omega))
  simp only[storeCells,Sem.run_bind,jf,Result.andThen];rw[ih];congr 1;rw[setRow_setRow];congr 1;apply ubw;apply zD;intro j;simp only[ubW,Pr];rw[uaa,uaa,uaa,uaa];simp only[pU,Aw,TY,uak,G3,Lf,Pr,Dg];have e1:min (o+(i+1)) cur.size=o+i+1:=by omega
  have e2:min (o+i) cur.size=o+i:=by omega
  rw[e1,e2];by_cases c1:j<o+i
  ·simp[c1,show j<o+i+1 by omega,show j<o+i+1+rest.length by omega,show j<o+i+(rest.length+1) by omega,show ¬(o+i=j) by omega,show j<o+(i+1) by omega]
  ·by_cases c2:j=o+i
   ·subst c2;simp[show o+i<o+(i+1) by omega,show o+i<o+i+1+rest.length by omega,hi]
   ·by_cases c3:j<o+i+1+rest.length
    ·have:j - (o+i)=(j - (o+i+1))+1:=by omega
     simp[show ¬j<o+i+1 by omega,c1,show j<o+i+(rest.length+1) by omega,c3,this]
    ·simp[show ¬j<o+i+(rest.length+1) by omega,c3,show ¬(o+i=o+(i+1)+rest.length+(j - (o+i+1+rest.length))) by omega];congr 1;omega
section append
variable (P) (t t2 ty e:TypeId) (i:TypeInfo) (z:Value) (size bytes:Nat)
theorem yN {xs ys:List Value} {cur:List Value} {off k m} (ht:(cur.drop off).take k=xs) (hk:off+k+ys.length<=cur.length) (hx:xs.length=k) (hm:m=k+ys.length):
 ((cur.take (off+k)++ys++cur.drop (off+k+ys.length)).drop off).take m=xs++ys:=by
 subst hm
 have h1:(cur.take (off+k)).drop off=xs:=by rw[ub4,<-ht];congr 1;omega
 rw[EK,uaj (by simp;omega),h1,<-EK,uaF (by simp;omega)]
 exact Gz (by simp;omega)
theorem yL (ht:P.underlying t=some (.slice e)) (h2:P.underlying t2=some (.slice e)\/P.underlying t2=some .string) (hi:P.info? e=some i) (hz:i.zero=some z)
 (Ka:i.size=size) (uX:i.bytes=bytes) (Kg:z.cells.size=size) (rZ:0<size)
 (v:Value) (n:Nat) (xs:List Value) (h:Sat w0 w (Gs e size v n xs*F)) (m:Nat) (x:Value) (news:List Value) (src:Src P w size m x news) (h1:∀u∈news,u.oneCell'=true)
 (SE:n+m<=maxLen) (Ek:(n+m)*bytes<=140737488355328):
 ∃v' w',(Builtin.append_ #[t,t2] ty #[v,x]).run P w= .ok v' w'/\Sat w0 w' (Gs e size v' (n+m) (xs++news)*F):=by
 subst Ka
 subst uX
 obtain⟨hl,hc⟩:=h.jN
 have hlen:(xs++news).length=(n+m)*i.size:=by rw[pU,hl,src.length,uat]
 have RF:=src.len
 have grow:∀(yn:Nat) (A:Option Addr),yn<n+m->v= .slice A n yn->(∀w':World,w'.heap=w.heap->(Builtin.firstCells i.size n v).run P w'= .ok xs.toArray w')->Sat w0 w F->
  ∃v' w',(Builtin.append_ #[t,t2] ty #[v,x]).run P w= .ok v' w'/\Sat w0 w' (Gs e i.size v' (n+m) (xs++news)*F):=by
  intro yn A ho hv hold hF
  subst hv
  have kQ:=grownCap_ge w (n+m) yn e
  have Xv:grownCap w (n+m) yn e<=maxLen:=grownCap_le_maxLen w (n+m) yn e SE
  have hn:¬(n+m<=yn):=by omega
  have TL:¬(9223372036854775807<((n:Int)+(m:Int))):=by simp only[maxLen]at SE;omega
  have qB:=growslice_fits ho Ek
  have TK:¬(281474976710656<Builtin.nextslicecap (n+m) yn*i.bytes):=by omega
  have hf:=src.cells w.drew rfl
  have XC:=hold w.drew rfl
  have FV:(w.drew.alloc (.cells (xs.toArray++news.toArray++Builtin.zeroCells z.cells (grownCap w (n+m) yn e - (n+m))) e))=w.drew.alloc (.cells (xs.toArray++news.toArray++Builtin.zeroCells z.cells (grownCap w (n+m) yn e - (n+m))) e):=rfl
  refine⟨.slice (some ⟨w.heap.size,0,none⟩) (n+m) (grownCap w (n+m) yn e),w.drew.alloc (.cells (xs.toArray++news.toArray++Builtin.zeroCells z.cells (grownCap w (n+m) yn e - (n+m))) e),?_,?_⟩
  ·unfold Builtin.append_
   rcases h2 with hu|hu<;>simp[run_underlying ht,run_underlying hu,sizeOf,typeInfo,zeroValue,hi,hz,RF,hn,TL,TK,Question.forced,hf,XC,newRow,grownCap]<;>(congr 2;apply ubw;simp[EK])
  ·refine Sat.yc e i.size (n+m) w.heap.size 0 _ _ (0,0) _ (hF.drew.alloc _) hlen kQ Xv ?_ ?_ ?_
   ·simp only[Array.size_append,ZX,size_zeroCells,Kg,hl,src.length,ubz]
    rw[<-uat,<-uat]
    exact VB _ (by omega)
   ·simp only[Array.toList_append,EK,ua0]
    rw[<-EK,<-hlen]
    exact List.take_left
   ·intro k _ _
    simp
 rcases hc with ⟨A,rfl,rfl,hF⟩|⟨g,off,cap,cur,fr,rfl,Zd,hm,zm,Rx,OA,hs⟩
 ·have hx:xs=[]:=HD (by simpa using hl)
  subst hx
  by_cases hm:m=0
  ·subst hm
   have hn:news=[]:=HD (by simpa using src.length)
   subst hn
   refine⟨.slice A 0 0,w,?_,by simpa using hF.MQ e i.size A⟩
   have hf:=src.cells w rfl
   unfold Builtin.append_
   rcases h2 with hu|hu<;>cases A<;>simp[run_underlying ht,run_underlying hu,sizeOf,typeInfo,hi,RF,hf,storeCells]
  ·exact grow 0 A (by omega) rfl (λw' O6=>by cases A<;>simp[Builtin.firstCells,loadCells,loadCellsFrom]) hF
 ·by_cases J7:n+m<=cap
  ·have hle:(n+m)*i.size<=cap*i.size:=VB _ J7
   have qB:off+n*i.size+news.length<=cur.size:=by rw[src.length];rw[uat]at hle;omega
   have jf:=ig (P:=P) g (off+n*i.size) e fr news 0 cur w hs.at_ (by omega) h1 (λk Cg vS=>OA k (by omega) (by rw[src.length]at vS;rw[uat]at hle;omega))
   simp only[uay]at jf
   refine⟨.slice (some ⟨g,off,none⟩) (n+m) cap,w.setRow g (cur.toList.take (off+n*i.size)++news++cur.toList.drop (off+n*i.size+news.length)).toArray,?_,?_⟩
   ·have hf:=src.cells w rfl
    unfold Builtin.append_
    rcases h2 with hu|hu<;>simp[run_underlying ht,run_underlying hu,sizeOf,typeInfo,hi,RF,J7,hf,add_lit,jf]
   ·refine Sat.yc e i.size (n+m) g off cap (cur.toList.take (off+n*i.size)++news++cur.toList.drop (off+n*i.size+news.length)).toArray fr _ ?_ hlen J7 hm ?_ ?_ OA
    ·exact Sat.put hs rfl rfl rfl (setRow_heap w g cur _ e fr hs.at_) λk _ hk=>setRow_other w g k _ hk
    ·simp only[ZX,pU,Aw,uK,uak]
     omega
    ·exact yN Rx (by simpa using qB) hl (by rw[src.length,uat])
  ·exact grow cap (some ⟨g,off,none⟩) (by omega) rfl (λw' O6=>(Src.own (P:=P) h).cells w' O6) hs.drop
end append
structure yt (P:Program) (t e:TypeId) (size bytes:Nat):Prop where
 ht:P.underlying t=some (.slice e)
 info:∃i z,P.info? e=some i/\i.zero=some z/\i.size=size/\i.bytes=bytes/\z.cells.size=size
 pos:0<size
theorem yt.of {t e size bytes} {z:Value} (ht:P.underlying t=some (.slice e)) (h:(P.info? e).map (λi=>(i.zero,i.size,i.bytes))=some (some z,size,bytes)) (hz:z.cells.size=size) (hp:0<size):yt P t e size bytes:=by
 obtain⟨i,hi,h1,h2,h3⟩:=info_parts h;exact⟨ht,⟨i,z,hi,h1,h2,h3,hz⟩,hp⟩
section
variable {t e size bytes:Nat} {ops:Array Oper} {rest:List Oper} {o:Oper} {a:Act} {K:Act->World->Prop} {Q:Exit->Act->World->Prop} {v xv:Value} {n m:Nat} {xs news:List Value}
theorem sV (T:yt P t e size bytes) {t2:TypeId} (h2:P.underlying t2=some (.slice e)\/P.underlying t2=some .string) (s x:Operand)
 (ho:o.op= .call {callee:= .builtin .append,args:= #[s,x],argTypes:= #[t,t2]})
 (hS:Sat w0 w (Gs e size v n xs*F)) (hs:a.eval s=v) (hx:a.eval x=xv) (src:Src P w size m xv news) (h1:∀u∈news,u.oneCell'=true)
 (SE:n+m<=maxLen) (Ek:(n+m)*bytes<=140737488355328)
 (h:∀v' w',Sat w0 w' (Gs e size v' (n+m) (xs++news)*F)->K (a.put o.dst v') w'):o.wp P a w K Q:=by
 obtain⟨i,z,hi,hz,Ka,uX,Kg⟩:=T.info
 obtain⟨v',w',hr,SG⟩:=yL P t t2 o.type e i z size bytes T.ht h2 hi hz Ka uX Kg T.pos v n xs hS m xv news src h1 SE Ek
 unfold Oper.wp execOp
 simp only[ho,resolve,invoke,builtin,Sem.run_bind,Sem.run_pure,Result.andThen_ok,ubh,Hh,Xp,hs,hx,hr]
 exact h v' w' SG
end
end
section
open Go.RowKit
abbrev Env:=List (Nat×Value)
def Env.get:Env->Nat->Option Value
 |[],_=>none
 |(k,v)::r,t=>bif Nat.beq k t then some v else Env.get r t
def Env.ev (E:Env):Operand->Option Value
 | .tmp t=>E.get t
 | .const v=>some v
 | .global g=>some (.pointer (some ⟨g,0,none⟩))
 | .func f=>some (.func (.func f) #[] #[])
def Env.mU (E:Env):List Operand->Option (List Value)
 |[]=>some []
 |x::r=>match E.ev x,Env.mU E r with
  |some v,some vs=>some (v::vs)
  |_,_=>none
def Env.sub:Env->Env->Prop
 |[],_=>True
 |(k,v)::r,E=>E.get k=some v/\Env.sub r E
structure fT where
 tmps:Nat
 round:Option Nat
def uW (ro:Option Nat):Fence:={Fence.wide with round:=ro}
structure fV (n:fT) (E:Env) (a:Act):Prop where
 size:a.tmps.size=n.tmps
 get:∀t v,E.get t=some v->a.tmps.getD t undef=v
theorem Env.jV (k v r t):Env.get ((k,v)::r) t=if k=t then some v else Env.get r t:=by
 show(bif Nat.beq k t then some v else Env.get r t)=_;by_cases h:k=t
 ·subst h;simp
 ·have:Nat.beq k t=false:=by
   cases hb:Nat.beq k t with
   |false=>rfl
   |true=>exact absurd (uaz hb) h
  simp[this,h]
theorem Env.Gu:∀{E E':Env},E.sub E'->∀t v,E.get t=some v->E'.get t=some v
 |[],_,_,t,v,h=>by simp[Env.get]at h
 |(k,u)::r,E',hs,t,v,h=>by
  rw[Env.jV]at h;split at h
  ·rename_i e;subst e;cases h;exact hs.1
  ·exact Env.Gu hs.2 t v h
abbrev iI.{u}:= @inferInstance.{u}
variable {P:Program} {n:fT} {w0:World} {E E':Env} {D:List Deferred} {H F R:af}
theorem fV.sub {a:Act} (h:fV n E a) (hs:E'.sub E):fV n E' a:=⟨h.size,λt v ht=>h.get t v (Env.Gu hs t v ht)⟩
theorem fV.ev {a:Act} (h:fV n E a) {x v} (e:E.ev x=some v):a.eval x=v:=by
 cases x with
 |tmp t=>exact h.get t v e
 |const u=>cases e;rfl
 |global g=>cases e;rfl
 |func f=>cases e;rfl
theorem fV.mU {a:Act} (h:fV n E a):∀{xs:List Operand} {vs:List Value},E.mU xs=some vs->xs.map a.eval=vs
 |[],vs,e=>by cases e;rfl
 |x::r,vs,e=>by
  simp only[Env.mU]at e;split at e
  ·rename_i v us e1 e2;cases e;simp[h.ev e1,fV.mU h e2]
  ·cases e
theorem fV.put {a:Act} (h:fV n E a) {d} (v) (hd:Nat.blt d n.tmps=true):fV n ((d,v)::E) (a.put (some d) v):=by
 have Ov:d<n.tmps:=by simpa using hd
 refine⟨by simp[Act.put,h.size],λt u ht=> ?_⟩;rw[Env.jV]at ht;split at ht
 ·rename_i e;subst e;cases ht;simp[Act.put,h.size,Ov]
 ·rename_i e;have:=h.get t u ht;simpa [Act.put,ubx e]using this
def Env.zaI (E:Env):Option Tmp->Value->Env
 |some d,v=>(d,v)::E
 |none,_=>E
def gC (n:fT):Option Tmp->Bool
 |some d=>Nat.blt d n.tmps
 |none=>true
theorem fV.zaI {a:Act} (h:fV n E a) (d v) (hd:gC n d=true):fV n (E.zaI d v) (a.put d v):=by
 cases d with
 |none=>exact h
 |some d=>exact h.put v hd
class Lit (c:Bool) (b:Bool):Prop where eq:c=b
instance:Lit true true:=⟨rfl⟩
instance:Lit false false:=⟨rfl⟩
instance:Lit true (!false):=⟨rfl⟩
instance:Lit false (!true):=⟨rfl⟩
instance:Lit (!false) true:=⟨rfl⟩
instance:Lit (!true) false:=⟨rfl⟩
structure St where
 E:Env
 D:List Deferred
 H:af
structure Good (n:fT) (w0:World) (σ:St) (a:Act) (w:World):Prop where
 dQ:fV n σ.E a
 defers:a.defers=σ.D
 sat:Sat w0 w σ.H
def aq (H H':af):Prop:=∀h:Part,H.on h->∃h':Part,H'.on h'/\∀k o,h' k=some o->h k=some o
theorem aq.sat {w:World} (e:aq H F) (h:Sat w0 w H):Sat w0 w F:=by
 obtain⟨x,hx,hk⟩:=h.heap;obtain⟨y,hy,Yq⟩:=e x hx;exact⟨h.os,h.tape,h.output,y,hy,λk o ho=>hk k o (Yq k o ho)⟩
theorem aq.refl (H):aq H H:=λh hh=>⟨h,hh,λ_ _ e=>e⟩
theorem aq.of_eq (e:H=F):aq H F:=e▸aq.refl H
theorem aq.trans {G:af} (a:aq H F) (b:aq F G):aq H G:=λh hh=>by
 obtain⟨x,hx,h1⟩:=a h hh;obtain⟨y,hy,h2⟩:=b x hx;exact⟨y,hy,λk o e=>h1 k o (h2 k o e)⟩
theorem aq.drop (p q):aq (p*q) q:=λh ⟨a,b,hd,he,hp,hq⟩=>⟨b,hq,λk o e=>by
 subst he;rcases hd k with e'|e'
 ·simp only[Part.join,e',e]
 ·rw[e']at e;cases e⟩
theorem aq.star {a b c d:af} (h1:aq a b) (h2:aq c d):aq (a*c) (b*d):=λh ⟨x,y,hd,he,hp,hq⟩=>by
 obtain⟨x',DA,e1⟩:=h1 x hp;obtain⟨y',Ke,e2⟩:=h2 y hq;have Ov:Part.tB x' y':=λk=>by
  rcases hd k with e|e
  ·left;cases hk:x' k with
   |none=>rfl
   |some o=>rw[e1 k o hk]at e;cases e
  ·right;cases hk:y' k with
   |none=>rfl
   |some o=>rw[e2 k o hk]at e;cases e
 refine⟨x'.join y',⟨x',y',Ov,rfl,DA,Ke⟩,λk o e=> ?_⟩;subst he;simp only[Part.join]at e ⊢;cases hx:x' k with
 |some u=>rw[hx]at e;rw[e1 k u hx];exact e
 |none=>
  rw[hx]at e;have hy:=e2 k o e;rcases hd k with e'|e'
  ·simp only[e',hy]
  ·rw[e']at hy;cases hy
theorem aq.tail {c d} (p) (h:aq c d):aq (p*c) (p*d):=aq.star (aq.refl p) h
def lift (n:fT) (w0:World) (Q:Exit->St->Prop):Exit->Act->World->Prop:=λe a w=>∃σ,Q e σ/\Good n w0 σ a w
def WS (P:Program) (n:fT) (w0:World) (c:Code) (Q:Exit->St->Prop) (σ:St):Prop:=∀a w,Good n w0 σ a w->c.wpIn (uW n.round) 0 P (lift n w0 Q) a w
def thenS (K:St->Prop) (Q:Exit->St->Prop):Exit->St->Prop
 | .normal,σ=>K σ
 |e,σ=>Q e σ
def oK (id:Nat) (Q:Exit->St->Prop):Exit->St->Prop
 | .exit j,σ=>bif Nat.beq j id then Q .normal σ else Q (.exit j) σ
 |e,σ=>Q e σ
variable {Q:Exit->St->Prop} {σ:St} {c x y:Code}
theorem WS.mono {Q'} (h:WS P n w0 c Q σ) (hq:∀e σ,Q e σ->Q' e σ):WS P n w0 c Q' σ:=
 λa w g=>wpIn_mono (h a w g) λe a w ⟨σ,h1,h2⟩=>⟨σ,hq e σ h1,h2⟩
theorem Jb (h:WS P n w0 x (thenS (WS P n w0 y Q) Q) σ):WS P n w0 (.seq x y) Q σ:=λa w g=>
 wpIn_seq (wpIn_mono (h a w g) λe a w ⟨σ',h1,h2⟩=>by
  cases e with
  |normal=>exact h1 a w h2
  |_=>exact⟨σ',h1,h2⟩)
theorem ab (h:∀K:St->Prop,(∀τ,WS P n w0 y Q τ->K τ)->WS P n w0 x (thenS K Q) σ):WS P n w0 (.seq x y) Q σ:=Jb (h _ λ_ h=>h)
theorem vZ {K} (h:K σ):thenS K Q .normal σ:=h
theorem Bl {K} (h:Q .ret σ):thenS K Q .ret σ:=h
theorem Gv {K j} (h:Q (.exit j) σ):thenS K Q (.exit j) σ:=h
theorem rH {id} (h:Q .normal σ):oK id Q .normal σ:=h
theorem wO {id} (h:Q .ret σ):oK id Q .ret σ:=h
theorem BS {id} (h:Q .normal σ):oK id Q (.exit id) σ:=by
 show(bif Nat.beq id id then Q .normal σ else Q (.exit id) σ);rw[Nat.beq_refl];exact h
theorem rI {id j} (hj:Nat.beq j id=false) (h:Q (.exit j) σ):oK id Q (.exit j) σ:=by
 show(bif Nat.beq j id then Q .normal σ else Q (.exit j) σ);rw[hj];exact h
theorem Gy {K:St->Prop} {c:Code} (h:∀τ,WS P n w0 c Q τ->K τ) (g:WS P n w0 c Q σ):K σ:=h σ g
theorem FD (h:Q .normal σ):WS P n w0 .skip Q σ:=λa w g=>wpIn_skip ⟨σ,h,g⟩
theorem DI (h:Q .ret σ):WS P n w0 .ret Q σ:=λa w g=>wpIn_ret ⟨σ,h,g⟩
theorem FC {id} (h:Q (.exit id) σ):WS P n w0 (.exit id) Q σ:=λa w g=>wpIn_exit ⟨σ,h,g⟩
theorem oG {id} (h:WS P n w0 c (oK id Q) σ):WS P n w0 (.block id c) Q σ:=λa w g=>
 wpIn_block (wpIn_mono (h a w g) λe a w ⟨σ',h1,h2⟩=>by
  cases e with
  |exit j=>
   simp only[Exit.inBlock]
   by_cases hj:j=id
   ·subst hj
    rw[jF rfl]
    exact⟨σ',by simpa [oK]using h1,h2⟩
   ·rw[eQ hj]
    have:Nat.beq j id=false:=by
     cases hb:Nat.beq j id with
     |false=>rfl
     |true=>exact absurd (uaz hb) hj
    exact⟨σ',by simpa [oK,this]using h1,h2⟩
  |_=>exact⟨σ',h1,h2⟩)
theorem pr {o b} (hc:σ.E.ev o=some (.bool b)) (ht:b=true->WS P n w0 x Q σ) (hf:b=false->WS P n w0 y Q σ):WS P n w0 (.cond o x y) Q σ:=λa w g=>
 wpIn_cond_split (g.dQ.ev hc) (λe=>ht e a w g) (λe=>hf e a w g)
theorem wy {o:Operand} {b:Bool} (hc:σ.E.ev o=some (.bool b)) (hl:Lit b true) (h:WS P n w0 x Q σ):WS P n w0 (.cond o x y) Q σ:=pr hc (λ_=>h) (λe=>by cases hl.eq;cases e)
theorem BH {o:Operand} {b:Bool} (hc:σ.E.ev o=some (.bool b)) (hl:Lit b false) (h:WS P n w0 y Q σ):WS P n w0 (.cond o x y) Q σ:=pr hc (λe=>by cases hl.eq;cases e) (λ_=>h)
theorem exists_least {p:Nat->Prop} (h:∃m,p m):∃m,p m/\∀k,p k->m<=k:=by
 obtain⟨m,hm⟩:=h;induction m using Nat.strongRecOn with
 |_ m ih=>
  by_cases hk:∃k,k<m/\p k
  ·obtain⟨k,bW,hp⟩:=hk;exact ih k bW hp
  ·exact⟨m,hm,λk hp=>by
    rcases jP k m with bW|kQ
    ·exact absurd ⟨k,bW,hp⟩ hk
    ·exact kQ⟩
theorem BL (I:Nat->St->Prop) (h0:∃m τ,I m τ/\∀a w,Good n w0 σ a w->Good n w0 τ a w)
 (round:∀m τ,I m τ->WS P n w0 c (thenS (λσ'=>∃m' τ',m'<m/\I m' τ'/\∀a w,Good n w0 σ' a w->Good n w0 τ' a w) Q) τ):WS P n w0 (.loop c) Q σ:=by
 intro a w g
 let p:Act->World->Nat->Prop:=λa w m=>∃τ,I m τ/\Good n w0 τ a w
 let μ:Act->World->Nat:=λa w=>by
  classical exact if h:∃m,p a w m then Classical.choose (exists_least h)else 0
 have hμ:∀a w,(∃m,p a w m)->p a w (μ a w)/\∀k,p a w k->μ a w<=k:=λa w h=>by
  have e:μ a w=Classical.choose (exists_least h):=by simp only[μ];exact dif_pos h
  rw[e];exact Classical.choose_spec (exists_least h)
 refine wpIn_loop (λa w=>∃m,p a w m) μ ?_ ?_
 ·obtain⟨m,τ,hI,h1⟩:=h0
  exact⟨m,τ,hI,h1 a w g⟩
 ·intro a w hp
  obtain⟨⟨τ,hI,gτ⟩,xl⟩:=hμ a w hp
  refine wpIn_mono (round _ τ hI a w gτ) λe a' w' ⟨σ',h1,h2⟩=> ?_
  cases e with
  |normal=>
   obtain⟨m',τ',bW,TN,e1⟩:=h1
   have qZ:p a' w' m':=⟨τ',TN,e1 a' w' h2⟩
   exact⟨⟨m',qZ⟩,ubZ ((hμ a' w' ⟨m',qZ⟩).2 m' qZ) bW⟩
  |_=>exact⟨σ',h1,h2⟩
theorem Good.low {τ σ:St} {a:Act} {w:World} (g:Good n w0 σ a w) (h1:τ.E.sub σ.E) (h2:τ.D=σ.D) (h3:aq σ.H τ.H):Good n w0 τ a w:=⟨g.dQ.sub h1,g.defers.trans h2.symm,h3.sat g.sat⟩
theorem aV (I:Nat->St->Prop) (h0:∃m τ,I m τ/\τ.E.sub σ.E/\τ.D=σ.D/\aq σ.H τ.H)
 (round:∀m τ,I m τ->WS P n w0 c (thenS (λσ'=>∃m' τ',m'<m/\I m' τ'/\τ'.E.sub σ'.E/\τ'.D=σ'.D/\aq σ'.H τ'.H) Q) τ):WS P n w0 (.loop c) Q σ:=by
 refine BL I ?_ λm τ hI=> ?_
 ·obtain⟨m,τ,hI,h1,h2,h3⟩:=h0
  exact⟨m,τ,hI,λa w g=>g.low h1 h2 h3⟩
 ·refine(round m τ hI).mono λe σ' h=> ?_
  cases e with
  |normal=>
   obtain⟨m',τ',bW,TN,e1,e2,e3⟩:=h
   exact⟨m',τ',bW,TN,λa w g=>g.low e1 e2 e3⟩
  |_=>exact h
def Un (P:Program) (n:fT) (w0:World) (c:Code) (Q:Exit->St->Prop):Nat->St->Prop
 |0,_=>False
 |m+1,σ=>WS P n w0 c (thenS (Un P n w0 c Q m) Q) σ
theorem LZ {m} (h:WS P n w0 c (thenS (Un P n w0 c Q m) Q) σ):Un P n w0 c Q (m+1) σ:=h
theorem th (m) (h:Un P n w0 c Q m σ):WS P n w0 (.loop c) Q σ:=by
 refine BL (Un P n w0 c Q) ⟨m,σ,h,λ_ _ g=>g⟩ λm τ hI=> ?_;cases m with
 |zero=>exact hI.elim
 |succ m=>
  refine WS.mono hI λe σ' h=> ?_;cases e with
  |normal=>exact⟨m,σ',ubH m,h,λ_ _ g=>g⟩
  |_=>exact h
def OpQ (P:Program) (n:fT) (w0:World) (o:Oper) (E:Env) (H:af) (v:Value):Prop:=
 ∀a w,fV n E a->Sat w0 w H->(execOp a.eval o).run P w= .ok (.value v) w
def y6 (P:Program) (n:fT) (w0:World) (o:Oper) (E:Env) (pre:af) {α:Type} (v:α->Value) (post:α->af):Prop:=
 ∀(G:af) a w (K:Act->World->Prop) (Q:Exit->Act->World->Prop),fV n E a->Sat w0 w (pre*G)->(∀x w',Sat w0 w' (post x*G)->K (a.put o.dst (v x)) w')->o.wp P a w K Q
def LS (P:Program) (n:fT) (w0:World) (ops:Array Oper) (Q:Exit->St->Prop) (l:List Oper) (σ:St):Prop:=∀a w,Good n w0 σ a w->wpListIn (uW n.round) 0 P ops (lift n w0 Q) l a w
theorem yV {ro m f args w R} (h:Calls P f args w R):CallsIn (uW ro) m P f args w R:=callsIn_wide.2 h
theorem KU {ro m row args w R} (h:Rows P row args w R):RowsIn (uW ro) m P row args w R:=λc cs _=>
 let ⟨v,w',r,s⟩:=h c cs;⟨v,w',r,stepsIn_wide.2 s⟩
theorem jB {ro} {o:Oper} {a w K Q} (xm:ro=none\/∀c,o.op≠ .defer c) (h:o.wp P a w K Q):o.wpIn (uW ro) 0 P a w K Q:=by
 refine⟨λ_ _=>trivial,?_⟩;have e:o.semAt (uW ro).round a.eval=execOp a.eval o:=by
  show o.semAt ro a.eval=_;rcases xm with rfl|xm
  ·rfl
  ·exact Oper.semAt_eq _ _ _ xm
 rw[e];unfold Oper.wp at h;generalize (execOp a.eval o).run P w=r at*
 have hd:(uW ro).depth.isSome=true->1<=0:=λh=>by cases h
 cases r with
 |ok x w'=>
  cases x<;>simp only[Oper.upon]at h<;>simp only[Oper.uponIn]<;>first
   |exact h
   |exact⟨hd,yV h⟩
   |exact⟨hd,KU h⟩
 |halt x w'=>cases x<;>simp only[Oper.upon]at h<;>simp only[Oper.uponIn]<;>exact h
theorem HI {ρ} {o:Oper} {w w' v} (h:(execOp ρ o).run P w= .ok (.value v) w'):∀c,o.op≠ .defer c:=by
 intro c hc;simp only[execOp,hc,Sem.run_bind]at h;cases hr:(resolve ρ c o.type).run P w<;>rw[hr]at h<;>simp at h
theorem Bq {o:Oper} {a:Act} {w} (h:o.wp P a w (λa' _=>a'.defers=a.defers) (λ_ _ _=>False)):∀c,o.op≠ .defer c:=by
 intro c hc;unfold Oper.wp at h;simp only[execOp,hc,Sem.run_bind]at h;cases hr:(resolve a.eval c o.type).run P w with
 |ok d w'=>
  rw[hr]at h;simp only[Result.andThen_ok,Sem.run_pure,Oper.upon_defer]at h;have:(d::a.defers).length=a.defers.length:=by
   have e:=G2 List.length h;cases hd:o.dst<;>rw[hd]at e<;>exact e
  simp at this
 |halt x w'=>
  rw[hr]at h;cases x<;>exact h
theorem put_defers (a:Act) (d v):(a.put d v).defers=a.defers:=by cases d<;>rfl
theorem OpQ.K5 {o:Oper} {v:Value} (iZ:OpQ P n w0 o E H v) {a:Act} {w:World} (s:fV n E a) (hs:Sat w0 w H) {K:Act->World->Prop} {Q:Exit->Act->World->Prop} (h:K (a.put o.dst v) w):o.wpIn (uW n.round) 0 P a w K Q:=by
 have e:=iZ a w s hs;refine jB (.inr (HI e)) ?_;unfold Oper.wp;rw[e];exact h
theorem y6.K5 {o:Oper} {α:Type} {pre:af} {v:α->Value} {post:α->af} (iZ:y6 P n w0 o E pre v post) (G:af) {a:Act} {w:World} {K:Act->World->Prop} {Q:Exit->Act->World->Prop} (s:fV n E a) (hs:Sat w0 w (pre*G)) (h:∀x w',Sat w0 w' (post x*G)->K (a.put o.dst (v x)) w'):o.wpIn (uW n.round) 0 P a w K Q:=
 jB (.inr (Bq (iZ G a w _ _ s hs λx w' _=>put_defers _ _ _))) (iZ G a w K Q s hs h)
variable {ops:Array Oper} {l:List Oper} {o:Oper}
theorem pt {id} (h:LS P n w0 l.toArray Q l σ):WS P n w0 (.region id l.toArray false) Q σ:=λa w g=>wpIn_region_lit (h a w g)
theorem z7 (h:Q .normal σ):LS P n w0 ops Q [] σ:=λa w g=>⟨σ,h,g⟩
def fO (ops:Array Oper) (E:Env) (o:Oper):Option (Bool×Bool):=
 match o.guard with
 |none=>some (true,true)
 |some (j,want)=>match (ops[j]?).bind (·.dst)with
  |some d=>match E.get d with
   |some (.bool c)=>some (c,want)
   |some (.tuple _)=>some (!want,want)
   |_=>none
  |none=>none
theorem kl {a:Act} (h:fV n E a) {c want} (hg:fO ops E o=some (c,want)):Region.wanted o (yielded ops a.tmps)=(c==want):=by
 unfold fO at hg;unfold Region.wanted;cases VX:o.guard with
 |none=>rw[VX]at hg;cases hg;rfl
 |some jw=>
  obtain⟨j,WJ⟩:=jw;rw[VX]at hg;simp only at hg ⊢;cases hd:(ops[j]?).bind (·.dst)with
  |none=>rw[hd]at hg;cases hg
  |some d=>
   rw[hd]at hg;simp only at hg;cases hc:E.get d with
   |none=>rw[hc]at hg;cases hg
   |some v=>
    rw[hc]at hg;cases v with
    |bool c'=>
     cases hg;have hy:yielded ops a.tmps j=some c:=by
      have:=h.get d _ hc;unfold yielded;rw[hd];simp only[G6];have bW:d<a.tmps.size:=by
       rcases jP d a.tmps.size with bW|kQ
       ·exact bW
       ·simp[WB kQ,undef]at this
      simp[bW]at this ⊢;rw[this]
     rw[hy];cases c<;>cases want<;>rfl
    |tuple xs=>
     cases hg;have hy:yielded ops a.tmps j=none:=by
      have:=h.get d _ hc;unfold yielded;rw[hd];simp only[G6];rcases jP d a.tmps.size with bW|kQ
      ·simp[bW]at this ⊢;rw[this]
      ·simp[WB kQ]
     rw[hy];cases want<;>rfl
    |_=>cases hg
theorem Qq {v:Value} (iZ:OpQ P n w0 o E H v) (hd:gC n o.dst=true) (hg:o.guard=none) (h:LS P n w0 ops Q l ⟨E.zaI o.dst v,D,H⟩):LS P n w0 ops Q (o::l) ⟨E,D,H⟩:=λa w g=>
 wpListIn_plain hg λK hK=>iZ.K5 g.dQ g.sat (hK _ _ (h _ _ ⟨g.dQ.zaI _ _ hd,by have:=g.defers;cases o.dst<;>exact this,g.sat⟩))
theorem lI {d:Nat} {op:Op} {ty:TypeId} {pos:String} {after:Array Edge} {v:Value} (iZ:OpQ P n w0 ⟨some d,op,ty,pos,after,none⟩ E H v) (hd:Nat.blt d n.tmps=true) (h:LS P n w0 ops Q l ⟨(d,v)::E,D,H⟩):LS P n w0 ops Q (⟨some d,op,ty,pos,after,none⟩::l) ⟨E,D,H⟩:=Qq iZ hd rfl h
theorem LQ {d op ty pos after v} (iZ:∀_:Unit,OpQ P n w0 ⟨some d,op,ty,pos,after,none⟩ E H v) (hd:Nat.blt d n.tmps=true) (h:LS P n w0 ops Q l ⟨(d,v)::E,D,H⟩):LS P n w0 ops Q (⟨some d,op,ty,pos,after,none⟩::l) ⟨E,D,H⟩:=lI (iZ ()) hd h
theorem To {α:Type} {pre:af} {v:α->Value} {post:α->af} (iZ:y6 P n w0 o E pre v post) (hH:H=pre*F) (hd:gC n o.dst=true) (hg:o.guard=none)
 (h:∀x,LS P n w0 ops Q l ⟨E.zaI o.dst (v x),D,post x*F⟩):LS P n w0 ops Q (o::l) ⟨E,D,H⟩:=λa w g=>
 wpListIn_plain hg λK hK=>iZ.K5 F g.dQ (g.sat.cast hH) λx w' hs=>hK _ _ (h x _ _ ⟨g.dQ.zaI _ _ hd,by have:=g.defers;cases o.dst<;>exact this,hs⟩)
theorem IU {d op ty pos after gu c want} (hg:fO ops E ⟨d,op,ty,pos,after,gu⟩=some (c,want)) (hd:gC n d=true) (h1:c=want->LS P n w0 ops Q (⟨d,op,ty,pos,after,none⟩::l) ⟨E,D,H⟩) (h2:c= !want->LS P n w0 ops Q l ⟨E.zaI d undef,D,H⟩):LS P n w0 ops Q (⟨d,op,ty,pos,after,gu⟩::l) ⟨E,D,H⟩:=λa w g=>by
 have hw:=kl g.dQ hg;unfold wpListIn;by_cases e:c=want
 ·have Hr:Region.wanted (⟨d,op,ty,pos,after,gu⟩:Oper) (yielded ops a.tmps)=true:=by rw[hw,e];simp
  rw[jF Hr];have:=h1 e a w g;unfold wpListIn at this;rw[jF (by rfl)]at this;exact this
 ·have Hr:¬Region.wanted (⟨d,op,ty,pos,after,gu⟩:Oper) (yielded ops a.tmps)=true:=by rw[hw];simpa using e
  rw[eQ Hr];exact⟨λ_ _=>trivial,h2 (by cases c<;>cases want<;>simp_all) _ _ ⟨g.dQ.zaI _ _ hd,by have:=g.defers;cases d<;>exact this,g.sat⟩⟩
theorem vG {d j op ty pos after b c want} (hg:fO ops E ⟨some d,op,ty,pos,after,some (j,b)⟩=some (c,want)) (hd:Nat.blt d n.tmps=true) (h1:c=want->LS P n w0 ops Q (⟨some d,op,ty,pos,after,none⟩::l) ⟨E,D,H⟩) (h2:c= !want->LS P n w0 ops Q l ⟨(d,undef)::E,D,H⟩):LS P n w0 ops Q (⟨some d,op,ty,pos,after,some (j,b)⟩::l) ⟨E,D,H⟩:=IU hg hd h1 h2
theorem IW {d j dj op ty pos after c want} (hj:(ops[j]?).bind (·.dst)=some dj) (hc:E.get dj=some (.bool c)) (hl:Lit c want) (hd:Nat.blt d n.tmps=true) (h:LS P n w0 ops Q (⟨some d,op,ty,pos,after,none⟩::l) ⟨E,D,H⟩):
 LS P n w0 ops Q (⟨some d,op,ty,pos,after,some (j,want)⟩::l) ⟨E,D,H⟩:=vG (c:=want) (want:=want) (by simp only[fO,hj,hc,hl.eq]) hd (λ_=>h) (λe=>by cases want<;>cases e)
theorem IT {d j dj:Nat} {op:Op} {ty:TypeId} {pos:String} {after:Array Edge} {c want:Bool} (hj:(ops[j]?).bind (·.dst)=some dj) (hc:E.get dj=some (.bool c)) (hl:Lit c (!want)) (hd:Nat.blt d n.tmps=true) (h:LS P n w0 ops Q l ⟨(d,undef)::E,D,H⟩):
 LS P n w0 ops Q (⟨some d,op,ty,pos,after,some (j,want)⟩::l) ⟨E,D,H⟩:=vG (c:= !want) (want:=want) (by simp only[fO,hj,hc,hl.eq]) hd (λe=>by cases want<;>cases e) (λ_=>h)
theorem IX {d j dj op ty pos after want xs} (hj:(ops[j]?).bind (·.dst)=some dj) (hc:E.get dj=some (.tuple xs)) (hd:Nat.blt d n.tmps=true) (h:LS P n w0 ops Q l ⟨(d,undef)::E,D,H⟩):
 LS P n w0 ops Q (⟨some d,op,ty,pos,after,some (j,want)⟩::l) ⟨E,D,H⟩:=vG (c:= !want) (want:=want) (by simp only[fO,hj,hc]) hd (λe=>by cases want<;>cases e) (λ_=>h)
theorem IV {d j dj op ty pos after c want} (hj:(ops[j]?).bind (·.dst)=some dj) (hc:E.get dj=some (.bool c)) (hd:Nat.blt d n.tmps=true) (h1:c=want->LS P n w0 ops Q (⟨some d,op,ty,pos,after,none⟩::l) ⟨(dj,.bool want)::E,D,H⟩) (h2:c= !want->LS P n w0 ops Q l ⟨(d,undef)::(dj,.bool (!want))::E,D,H⟩):LS P n w0 ops Q (⟨some d,op,ty,pos,after,some (j,want)⟩::l) ⟨E,D,H⟩:=by
 have zbB:∀(b:Bool),c=b->∀a w,Good n w0 ⟨E,D,H⟩ a w->Good n w0 ⟨(dj,.bool b)::E,D,H⟩ a w:=λb hb a w g=>⟨⟨g.dQ.size,λt v ht=>by
  rw[Env.jV]at ht
  split at ht
  ·rename_i e;subst e;cases ht;exact g.dQ.get dj _ (by rw[hc,hb])
  ·exact g.dQ.get t v ht⟩,g.defers,g.sat⟩
 refine vG (c:=c) (want:=want) (by simp only[fO,hj,hc]) hd (λe a w g=>h1 e a w (zbB _ e a w g)) (λe a w g=>h2 e a w ?_);refine⟨⟨g.dQ.size,λt v ht=> ?_⟩,g.defers,g.sat⟩;rw[Env.jV]at ht;split at ht
 ·rename_i e1;subst e1;cases ht;exact g.dQ.get d _ (by rw[Env.jV,jF rfl])
 ·rename_i e1;rw[Env.jV]at ht;split at ht
  ·rename_i e2;subst e2;cases ht;exact g.dQ.get dj _ (by rw[Env.jV,eQ e1,hc,e])
  ·exact g.dQ.get t v (by rw[Env.jV,eQ e1];exact ht)
end
section
open Go.RowKit
def AH:List Value->Nat->Option Value
 |[],_=>none
 |v::_,0=>some v
 |_::r,i+1=>AH r i
def Vi:List Value->Nat->Value->Option (List Value)
 |[],_,_=>none
 |_::r,0,v=>some (v::r)
 |a::r,i+1,v=>match Vi r i v with
  |some r'=>some (a::r')
  |none=>none
def zn:List Value->Nat->Option (List Value)
 |_,0=>some []
 |[],_+1=>none
 |v::r,k+1=>match zn r k with
  |some r'=>some (v::r')
  |none=>none
def Dq:List Value->Nat->Nat->Option (List Value)
 |cs,0,k=>zn cs k
 |[],_+1,_=>none
 |_::r,i+1,k=>Dq r i k
def zJ:List Value->List Value->Option (List Value)
 |cs,[]=>some cs
 |[],_::_=>none
 |_::r,v::vs=>match zJ r vs with
  |some r'=>some (v::r')
  |none=>none
def iW:List Value->Nat->List Value->Option (List Value)
 |cs,0,vs=>zJ cs vs
 |[],_+1,_=>none
 |a::r,i+1,vs=>match iW r i vs with
  |some r'=>some (a::r')
  |none=>none
theorem rT:∀(cs:List Value) (i:Nat),AH cs i=cs[i]?
 |[],i=>by simp[AH]
 |v::r,0=>rfl
 |v::r,i+1=>by simp[AH,rT r i]
theorem Cd:∀{cs:List Value} {k:Nat} {r:List Value},zn cs k=some r->k<=cs.length/\r=cs.take k
 |cs,0,_,h=>by cases cs<;>cases h<;>simp
 |[],_+1,_,h=>by cases h
 |v::cs,k+1,r,h=>by
  simp only[zn]at h;cases hr:zn cs k with
  |none=>rw[hr]at h;cases h
  |some r'=>rw[hr]at h;cases h;obtain⟨h1,h2⟩:=Cd hr;simp[h2];exact h1
theorem yh:∀{cs:List Value} {i k:Nat} {r:List Value},Dq cs i k=some r->i+k<=cs.length/\r=(cs.drop i).take k
 |cs,0,k,r,h=>by
  have h':zn cs k=some r:=by cases cs<;>exact h
  simpa using Cd h'
 |[],_+1,_,_,h=>by cases h
 |_::cs,i+1,k,r,h=>by
  have:=yh (cs:=cs) h;exact⟨by simp;omega,by simpa using this.2⟩
theorem CW:∀{cs vs r:List Value},zJ cs vs=some r->vs.length<=cs.length/\r=vs++cs.drop vs.length
 |cs,[],_,h=>by cases cs<;>cases h<;>simp
 |[],_::_,_,h=>by cases h
 |_::cs,v::vs,r,h=>by
  simp only[zJ]at h;cases hr:zJ cs vs with
  |none=>rw[hr]at h;cases h
  |some r'=>rw[hr]at h;cases h;obtain⟨h1,h2⟩:=CW hr;simp[h2];exact h1
theorem np:∀{cs:List Value} {i:Nat} {vs r:List Value},iW cs i vs=some r->i+vs.length<=cs.length/\r=cs.take i++vs++cs.drop (i+vs.length)
 |cs,0,vs,r,h=>by
  have h':zJ cs vs=some r:=by cases cs<;>exact h
  simpa using CW h'
 |[],_+1,_,_,h=>by cases h
 |a::cs,i+1,vs,r,h=>by
  simp only[iW]at h;cases hr:iW cs i vs with
  |none=>rw[hr]at h;cases h
  |some r'=>
   rw[hr]at h;cases h;obtain⟨h1,h2⟩:=np hr;refine⟨by simp;omega,?_⟩;rw[h2,show i+1+vs.length=(i+vs.length)+1 by omega];simp
def aK (g:Nat) (t:TypeId) (cs:List Value):af:=Oc g t cs.toArray
class v7 (H:af) (g:Nat) (t:outParam TypeId) (cs:outParam (List Value)) (F:outParam af):Prop where
 eq:H=aK g t cs*F
instance Pf (g:Nat) (t:TypeId) (cs:List Value) (F:af):v7 (aK g t cs*F) g t cs F:=⟨rfl⟩
instance (priority:=low) Ph (X H F:af) (g:Nat) (t:TypeId) (cs:List Value) [h:v7 H g t cs F]:v7 (X*H) g t cs (X*F):=⟨by rw[h.eq,aM]⟩
instance (priority:=low) Pg (X H F:af) (g:Nat) (t:TypeId) (cs:List Value) [h:v7 X g t cs F]:v7 (X*H) g t cs (F*H):=⟨by rw[h.eq,ad]⟩
class Tp {α:Type} (H:af) (p:α->af) (x:outParam α) (F:outParam af):Prop where
 eq:H=p x*F
instance Qg {α:Type} (p:α->af) (x:α) (F:af):Tp (p x*F) p x F:=⟨rfl⟩
class eN (P:Program) (t:TypeId) (d:outParam TypeDesc):Prop where
 eq:P.underlying t=some d
def sG:Option TypeDesc->Bool
 |some (.struct _)|some (.array _ _)|none=>false
 |_=>true
class fi (P:Program) (t:TypeId):Prop where
 ok:sG (P.underlying t)=true
 size:(P.info? t).map (·.size)=some 1
def L3:Option TypeDesc->Bool
 |some (.struct _)|some (.array _ _)=>true
 |_=>false
class mN (P:Program) (t:TypeId) (size:outParam Nat):Prop where
 ok:L3 (P.underlying t)=true
 size:(P.info? t).map (·.size)=some size
def jn:Value->List Value
 | .agg cs=>cs.toList
 |v=>[v]
theorem gX (v:Value):v.cells=(jn v).toArray:=by cases v<;>simp[Value.cells,jn]
class Zero (P:Program) (t:TypeId) (z:outParam Value) (zs:outParam (List Value)):Prop where
 eq:(P.info? t).map (·.zero)=some (some z)
 cells:jn z=zs
def AA (P:Program) (s k:Nat):Option (Nat×TypeId×Nat):=
 match P.underlying s with
 |some (.struct fs)=>match fs[k]? with
  |some f=>match P.info? f.type with
   |some i=>some (f.offset,f.type,i.size)
   |none=>none
  |none=>none
 |_=>none
class eo (P:Program) (s k:Nat) (off:outParam Nat) (t:outParam TypeId):Prop where
 eq:∃size,AA P s k=some (off,t,size+1)
variable {P:Program} {n:fT} {w0:World} {E:Env} {D:List Deferred} {H F:af} {ops:Array Oper} {l:List Oper} {Q:Exit->St->Prop} {w:World}
@[reducible] def ptr (g off:Nat):Value:= .pointer (some ⟨g,off,none⟩)
section quiet
variable {d:Option Tmp} {ty:TypeId} {pos:String} {after:Array Edge} {gu:Option (Nat×Bool)} {x y:Operand} {v u:Value}
theorem bC (h:E.ev x=some v):OpQ P n w0 ⟨d,.move x,ty,pos,after,gu⟩ E H v:=λa w s hs=>by
 simp only[execOp,s.ev h];rfl
theorem kC (h:E.ev x=some v):OpQ P n w0 ⟨d,.assign x,ty,pos,after,gu⟩ E H v:=λa w s hs=>by
 simp only[execOp,s.ev h];rfl
theorem BE {c b} (hc:E.ev c=some (.bool b)) (hl:Lit b true) (h1:E.ev x=some v):OpQ P n w0 ⟨d,.pick c x y,ty,pos,after,gu⟩ E H v:=λa w s hs=>by
 cases hl.eq;simp only[execOp,s.ev hc,s.ev h1,asBool];simp
theorem BD {c b} (hc:E.ev c=some (.bool b)) (hl:Lit b false) (h1:E.ev y=some v):OpQ P n w0 ⟨d,.pick c x y,ty,pos,after,gu⟩ E H v:=λa w s hs=>by
 cases hl.eq;simp only[execOp,s.ev hc,s.ev h1,asBool];simp
theorem db {a0} (h:E.ev x=some (.pointer (some a0))):OpQ P n w0 ⟨d,.nilCheck x,ty,pos,after,gu⟩ E H (.pointer (some a0)):=λa w s hs=>by
 simp only[execOp,s.ev h];rfl
theorem GI {vs:List Value} {k} (h:E.ev x=some (.tuple vs.toArray)) (hv:AH vs k=some v):OpQ P n w0 ⟨d,.extract x k,ty,pos,after,gu⟩ E H v:=λa w s hs=>by
 rw[rT]at hv;simp[execOp,s.ev h,Instr.extract,hv]
theorem DE {fn} {xs ys:List Operand} {vs us:List Value} (h1:E.mU xs=some vs) (h2:E.mU ys=some us):OpQ P n w0 ⟨d,.makeFunc fn xs.toArray ys.toArray,ty,pos,after,gu⟩ E H (.func fn vs.toArray us.toArray):=λa w s hs=>by
 have e1:=s.mU h1;have e2:=s.mU h2;simp[execOp,Instr.makeFunc,e1,e2]
class dL (P:Program) (op:BinOp) (t:TypeId) (x y:Value) (r:outParam Value):Prop where
 run:∀w,(binOp op t x y).run P w= .ok r w
 guard:∀w (a b:Operand),(eqGuard op t a b x y).run P w= .ok () w
theorem bE {op t t2} (hx:E.ev x=some v) (hy:E.ev y=some u) {r} (h:dL P op t v u r):OpQ P n w0 ⟨d,.binOp op t x y t2,ty,pos,after,gu⟩ E H r:=λa w s hs=>by
 simp[execOp,s.ev hx,s.ev hy,h.guard,h.run]
theorem bp {op:BinOp} {t t2:TypeId} (hx:E.ev x=some v) (hy:E.ev y=some u) {q:Prop} {inst:Decidable q} (h:dL P op t v u (.bool (decide q))) (hq:q):OpQ P n w0 ⟨d,.binOp op t x y t2,ty,pos,after,gu⟩ E H (.bool true):=by
 exact pbh
theorem bH {op:BinOp} {t t2:TypeId} (hx:E.ev x=some v) (hy:E.ev y=some u) {q:Prop} {inst:Decidable q} (h:dL P op t v u (.bool (decide q))) (hq:¬q):OpQ P n w0 ⟨d,.binOp op t x y t2,ty,pos,after,gu⟩ E H (.bool false):=by
 exact pbi
theorem fC {op:BinOp} {t t2:TypeId} (hx:E.ev x=some v) (hy:E.ev y=some u) {q:Prop} {inst:Decidable q} (h:dL P op t v u (.bool (!decide q))) (hq:¬q):OpQ P n w0 ⟨d,.binOp op t x y t2,ty,pos,after,gu⟩ E H (.bool true):=by
 exact pbi
theorem du {op:BinOp} {t t2:TypeId} (hx:E.ev x=some v) (hy:E.ev y=some u) {q:Prop} {inst:Decidable q} (h:dL P op t v u (.bool (!decide q))) (hq:q):OpQ P n w0 ⟨d,.binOp op t x y t2,ty,pos,after,gu⟩ E H (.bool false):=by
 exact pbh
class Qv (P:Program) (op:UnOp) (x:Value) (r:outParam Value):Prop where
 run:∀w,(Op.unary op x).run P w= .ok r w
theorem Tq {op t} (hx:E.ev x=some v) {r} (h:Qv P op v r):OpQ P n w0 ⟨d,.unOp op t x,ty,pos,after,gu⟩ E H r:=λa w s hs=>by
 simp[execOp,s.ev hx,h.run]
theorem vu (w) {s k g off o t} (h:eo P s k o t):(Instr.fieldAt s (ptr g off) k).run P w= .ok (ptr g (off+o)) w:=by
 obtain⟨size,h⟩:=h.eq;unfold AA at h;split at h
 ·rename_i fs hu;split at h
  ·rename_i f hf;split at h
   ·rename_i i hi;simp only[Z9,ua9]at h;obtain⟨h1,h2,rZ⟩:=h;subst h1;have Ef:(⟨g,off,none⟩:Addr).add f.offset=⟨g,off+f.offset,none⟩:=add_lit g off f.offset;simp[Instr.fieldAt,run_underlying hu,hf,Instr.sureAddr,fieldPlace,sizeOf,typeInfo,hi,rZ,Ef]
   ·cases h
  ·cases h
 ·cases h
theorem bq {s k g off o r t} (hx:E.ev x=some (ptr g off)) (h:eo P s k o t) (hr:off+o=r):OpQ P n w0 ⟨d,.fieldAddr s x k,ty,pos,after,gu⟩ E H (ptr g r):=λa w se hs=>by
 subst hr;simp[execOp,se.ev hx,vu w h]
theorem ca {t bt:TypeId} {g off:Nat} {cs:List Value} (hx:E.ev x=some (ptr g off)) (hl:v7 H g bt cs F) (ht:fi P t) (hv:AH cs off=some v):OpQ P n w0 ⟨d,.load t x,ty,pos,after,gu⟩ E H v:=λa w s hs=>by
 have hc:=Sat.cell (hs.cast hl.eq) off;rw[rT]at hv;have hd:=ht.ok;obtain⟨dd,sX⟩:∃dd,P.underlying t=some dd:=by
  exact pao
 rw[sX]at hd;have tJ:(isAgg t).run P w= .ok false w:=by
  exact paH
 simp[execOp,s.ev hx,Instr.loadAt,Instr.sureAddr,loadVar,tJ,hc,hv]
theorem kZ {t bt:TypeId} {g off size:Nat} {cs vs:List Value} (hx:E.ev x=some (ptr g off)) (hl:v7 H g bt cs F) (ht:mN P t size) (hv:Dq cs off size=some vs):OpQ P n w0 ⟨d,.load t x,ty,pos,after,gu⟩ E H (.agg vs.toArray):=λa w s hs=>by
 obtain⟨hle,Mt⟩:=yh hv;have hlen:vs.length=size:=by rw[Mt];simp;omega
 have hc:∀j u,vs[j]? =some u->w.cell? ((⟨g,off,none⟩:Addr).add j)=some u:=λj u hu=>by
  exact pbf
 have hd:=ht.ok;obtain⟨dd,sX⟩:∃dd,P.underlying t=some dd:=by
  exact pao
 rw[sX]at hd;have tJ:(isAgg t).run P w= .ok true w:=by
  exact paI
 obtain⟨i,hi,uZ⟩:=AU.1 ht.size;have hz:(sizeOf t).run P w= .ok size w:=by simp[sizeOf,typeInfo,hi,uZ]
 have hr:=run_loadCells_list (P:=P) (w:=w) ⟨g,off,none⟩ vs hc;rw[hlen]at hr;simp[execOp,s.ev hx,Instr.loadAt,Instr.sureAddr,loadVar,tJ,hz,hr]
theorem LR {t ft:TypeId} {k off:Nat} {cs:List Value} (hx:E.ev x=some (.agg cs.toArray)) (h:eo P t k off ft) (hs:fi P ft) (hv:AH cs off=some v):OpQ P n w0 ⟨d,.field t x k,ty,pos,after,gu⟩ E H v:=λa w se eI=>by
 obtain⟨size,h⟩:=h.eq;rw[rT]at hv;have hd:=hs.ok;obtain⟨dd,sX⟩:∃dd,P.underlying ft=some dd:=by
  cases hu:P.underlying ft with
  |none=>rw[hu]at hd;cases hd
  |some dd=>exact⟨dd,rfl⟩
 rw[sX]at hd;have tJ:(isAgg ft).run P w= .ok false w:=by
  exact paH
 unfold AA at h;split at h
 ·rename_i fs hu;split at h
  ·rename_i f hf;split at h
   ·rename_i i hi;simp only[Z9,ua9]at h;obtain⟨h1,h2,h3⟩:=h;subst h1;subst h2;simp[execOp,se.ev hx,Instr.field,run_underlying hu,hf,asAgg,part,tJ,hv]
   ·cases h
  ·cases h
 ·cases h
theorem kX {src t:TypeId} {q k:IntKind} {m r:Int} {ds:TypeDesc} (hx:E.ev x=some (.int q m)) (hs:eN P src ds) (hd:eN P t (.int k)) (hr:k.wrap m=r):OpQ P n w0 ⟨d,.convert src t x,ty,pos,after,gu⟩ E H (.int k r):=λa w s eI=>by
 subst hr;simp[execOp,s.ev hx,convert,run_underlying hs.eq,run_underlying hd.eq,Conv.intToInt]
theorem M4 {t e A m c} (hx:E.ev x=some (.slice A m c)) (ht:eN P t (.slice e)):OpQ P n w0 ⟨d,.call ⟨.builtin .len,#[x],#[t]⟩,ty,pos,after,gu⟩ E H (.int .i64 (m:Int)):=λa w s hs=>by
 exact pbE
theorem GJ {t} {b:ByteArray} (hx:E.ev x=some (.string b)) (ht:eN P t .string):OpQ P n w0 ⟨d,.call ⟨.builtin .len,#[x],#[t]⟩,ty,pos,after,gu⟩ E H (.int .i64 (b.size:Int)):=λa w s hs=>by
 exact pbE
theorem M5 {k k2 p q ts} (hx:E.ev x=some (.int k p)) (hy:E.ev y=some (.int k2 q)):OpQ P n w0 ⟨d,.call ⟨.builtin .max,#[x,y],ts⟩,ty,pos,after,gu⟩ E H (.int k (if q>p then q else p)):=λa w s hs=>by
 simp[execOp,resolve,invoke,builtin,s.ev hx,s.ev hy,Builtin.max_,Builtin.max2]
theorem Qt {k k2 p q ts} (hx:E.ev x=some (.int k p)) (hy:E.ev y=some (.int k2 q)):OpQ P n w0 ⟨d,.call ⟨.builtin .min,#[x,y],ts⟩,ty,pos,after,gu⟩ E H (.int k (if q<p then q else p)):=λa w s hs=>by
 simp[execOp,resolve,invoke,builtin,s.ev hx,s.ev hy,Builtin.min_,Builtin.min2]
end quiet
end
section
open Go.RowKit
variable {P:Program} {n:fT} {w0:World} {E:Env} {D:List Deferred} {H F R:af} {ops:Array Oper} {l:List Oper} {Q:Exit->St->Prop} {w:World}
def mD:Op->Bool
 | .convert s t _=>Nat.beq t 9||Nat.beq s 9
 | .move _| .assign _| .pick .. | .nilCheck _| .binOp .. | .unOp .. | .fieldAddr .. | .field .. | .indexAddr .. | .index .. | .extract .. | .slice .. | .build .. | .load .. | .lookup .. | .makeFunc .. =>false
 | .call {callee:= .builtin .len,..}| .call {callee:= .builtin .cap,..}| .call {callee:= .builtin .min,..}| .call {callee:= .builtin .max,..}=>false
 |_=>true
def fG:Op->Bool
 | .alloc _=>true
 |_=>false
def cv (P:Program) (n:fT) (w0:World) (o:Oper) (E:Env) (H:af) (v:Value):Prop:=
 ∀a w (K:Act->World->Prop) (Q:Exit->Act->World->Prop),fV n E a->Sat w0 w H->(∀w',Sat w0 w' H->K (a.put o.dst v) w')->o.wp P a w K Q
@[reducible] def hp (c:Bool) (R L F:af):af:=bif c then R*F else R*(L*F)
inductive DL (P:Program) (n:fT) (w0:World) (ops:Array Oper) (Q:Exit->St->Prop) (D:List Deferred) (R L:af) (B:Nat->Bool) (cp:Nat):Nat->Bool->List Oper->Env->af->Prop
 |nil {k:Nat} {c:Bool} {E:Env} {F H:af}:H=hp c R L F->Q .normal ⟨E,D,H⟩->DL P n w0 ops Q D R L B cp k c [] E F
 |q {k:Nat} {c:Bool} {o:Oper} {l:List Oper} {E:Env} {F:af} {v:Value}:mD o.op=false->gC n o.dst=true->(∃b,fO ops E o=some (b,b))->(∀F',OpQ P n w0 o E (R*F') v)->DL P n w0 ops Q D R L B cp (k+1) c l (E.zaI o.dst v) F->DL P n w0 ops Q D R L B cp k c (o::l) E F
 |qp {k:Nat} {o:Oper} {l:List Oper} {E:Env} {F:af} {v:Value}:mD o.op=false->gC n o.dst=true->B k=true->(∃b,fO ops E o=some (b,b))->(∀F',OpQ P n w0 o E (R*(L*F')) v)->DL P n w0 ops Q D R L B cp (k+1) false l (E.zaI o.dst v) F->DL P n w0 ops Q D R L B cp k false (o::l) E F
 |qs {k:Nat} {c:Bool} {o:Oper} {l:List Oper} {E:Env} {F:af} {v:Value}:mD o.op=false->gC n o.dst=true->B (k+1000)=true->(∃b,fO ops E o=some (b,b))->OpQ P n w0 o E (hp c R L F) v->DL P n w0 ops Q D R L B cp (k+1) c l (E.zaI o.dst v) F->DL P n w0 ops Q D R L B cp k c (o::l) E F
 |skip {k:Nat} {c:Bool} {o:Oper} {l:List Oper} {E:Env} {F:af} {b:Bool}:fG o.op=false->gC n o.dst=true->fO ops E o=some (b,!b)->DL P n w0 ops Q D R L B cp (k+1) c l (E.zaI o.dst undef) F->DL P n w0 ops Q D R L B cp k c (o::l) E F
 |t {k:Nat} {c:Bool} {o:Oper} {l:List Oper} {E:Env} {F F':af} {α:Type} {pre:af} {v:α->Value} {post:α->af}:mD o.op=true->fG o.op=false->gC n o.dst=true->(∃b,fO ops E o=some (b,b))->y6 P n w0 o E pre v post->F=pre*F'->
  (∀x,DL P n w0 ops Q D R L B cp (k+1) c l (E.zaI o.dst (v x)) (post x*F'))->DL P n w0 ops Q D R L B cp k c (o::l) E F
 |tq {k:Nat} {c:Bool} {o:Oper} {l:List Oper} {E:Env} {F:af} {v:Value}:mD o.op=true->fG o.op=false->gC n o.dst=true->(∃b,fO ops E o=some (b,b))->(∀F',cv P n w0 o E (hp c R L F') v)->
  DL P n w0 ops Q D R L B cp (k+1) c l (E.zaI o.dst v) F->DL P n w0 ops Q D R L B cp k c (o::l) E F
 |a {k:Nat} {c:Bool} {d:Nat} {t ty:TypeId} {pos:String} {after:Array Edge} {l:List Oper} {E:Env} {F:af} {z:Value} {zs:List Value}:gC n (some d)=true->Zero P t z zs->
  (∀g,DL P n w0 ops Q D R L B cp (k+1) c l ((d,ptr g 0)::E) (aK g t zs*F))->DL P n w0 ops Q D R L B cp k c (⟨some d,.alloc t,ty,pos,after,none⟩::l) E F
 |yW {l:List Oper} {E:Env} {F:af}:DL P n w0 ops Q D R L B cp cp true l E (L*F)->DL P n w0 ops Q D R L B cp cp false l E F
def kp (ops:Array Oper) (j:Nat):Option Oper:=
 match ops[j]? with
 |some o=>bif fG o.op&&o.guard.isNone&&o.dst.isSome then some o else none
 |none=>none
def BX (ops:Array Oper) (i:Nat):Nat->List Nat
 |0=>[]
 |k+1=>let r:=BX ops i k
  bif k==i||(match ops[k]? with
   |some o=>o.after.any λe=>Region.binds .any e&&Nat.blt e.on k&&r.contains e.on
   |none=>false)then k::r else r
def B0 (ops:Array Oper) (j:Nat):Bool:=match ops[j]? with
 |some o=>mD o.op
 |none=>false
def ux (ops:Array Oper) (B:Nat->Bool) (post:List Nat):Nat->Nat->Nat->List Nat->Array Bool->Option Nat->Bool
 |0,_,_,_,_,_=>false
 |m+1,f,k,[],ao,e=>e.isNone&&(Region.ready .any ops ao).isEmpty
 |m+1,f,k,i::r,ao,e=>
  bif e==some i then ux ops B post m f (k+1) r ao none
  else match f,ops[i]? with
   |f'+1,some o=>
    (match e with
     |none=>true
     |some j=>match kp ops j with
      |some oj=>oj.apart ops o
      |none=>false)&&
    (bif mD o.op then
     (Region.ready .any ops ao).contains i&&ux ops B post m f' (k+1) r (ao.setIfInBounds i true) e&&
     (Region.ready .any ops ao).all λj=>j==i||(e.isNone&&(kp ops j).isSome&&ux ops B post m f' k (i::r) (ao.setIfInBounds j true) (some j))
    else Region.free .any ops ao i&&(Region.ready .any ops ao).contains i&&(!B k||post.all λj=>(BX ops i ops.size).contains j)&&(!B (k+1000)||(e.isNone&&(Region.ready .any ops ao).all λj=>j==i))&&ux ops B post m f' (k+1) r (ao.setIfInBounds i true) e)
   |_,_=>false
def Down (ops:Array Oper) (ao:Array Bool):Prop:=∀j o,ops[j]? =some o->ao.getD j false=true->∀e∈o.after,Region.binds .any e=true->ao.getD e.on false=true
theorem Down.set {ao:Array Bool} (h:Down ops ao) {i} (hi:i∈Region.ready .any ops ao):Down ops (ao.setIfInBounds i true):=by
 intro j o hj hl e he hb;by_cases pZ:j=i
 ·subst pZ;obtain⟨_,o',Hm,l9⟩:=mem_ready.1 hi;rw[hj]at Hm;cases Hm;exact getD_set_true (l9 e he hb)
 ·rw[getD_set_ne false (uaT pZ)]at hl;exact getD_set_true (h j o hj hl e he hb)
theorem tz (i:Nat):∀(k j:Nat),j∈BX ops i k->j=i\/∃o,ops[j]? =some o/\∃e∈o.after,Region.binds .any e=true/\e.on<j/\e.on∈BX ops i k
 |0,j,h=>by cases h
 |k+1,j,h=>by
  unfold BX at h ⊢;simp only at h ⊢;cases hb:(k==i||(match ops[k]? with
   |some o=>o.after.any λe=>Region.binds .any e&&Nat.blt e.on k&&(BX ops i k).contains e.on
   |none=>false))with
  |false=>
   rw[hb]at h;simp only[Yv]at h ⊢;exact tz i k j h
  |true=>
   rw[hb]at h;simp only[Zo]at h ⊢;rcases JA.1 h with rfl|h
   ·by_cases pZ:j=i
    ·exact .inl pZ
    ·right;simp only[ucj,ubS,pZ,false_or]at hb;cases ho:ops[j]? with
     |none=>rw[ho]at hb;cases hb
     |some o=>
      rw[ho]at hb;obtain⟨e,he,hh⟩:=Array.any_eq_true'.1 hb;simp only[Ps]at hh;obtain⟨⟨h1,h2⟩,h3⟩:=hh;exact⟨o,rfl,e,he,h1,by simpa using h2,G4 _ (by simpa using h3)⟩
   ·rcases tz i k j h with h|⟨o,ho,e,he,h1,h2,h3⟩
    ·exact .inl h
    ·exact .inr ⟨o,ho,e,he,h1,h2,G4 _ h3⟩
theorem rO {ao:Array Bool} (hd:Down ops ao) {i m} (hi:ao.getD i true=false):∀j,j∈BX ops i m->ao.getD j false=false:=by
 have OD:ao.getD i false=false:=by
  rcases jP i ao.size with h'|h'
  ·simp[h']at hi ⊢;exact hi
  ·simp[WB h']at hi
 intro j;induction j using Nat.strongRecOn with
 |_ j ih=>
  intro hj;rcases tz i m j hj with rfl|⟨o,ho,e,he,h1,h2,h3⟩
  ·exact OD
  ·cases hl:ao.getD j false with
   |false=>rfl
   |true=>
    have:=hd j o ho hl e he h1;rw[ih e.on h2 h3]at this;cases this
def kS (P:Program) (ops:Array Oper) (Q:Exit->Act->World->Prop) (S:Array Bool->World->Prop):Nat->Array Bool->Act->World->Prop
 |0,ao,a,w=>Region.ready .any ops ao=[]/\Q .normal a w
 |f+1,ao,a,w=>(Region.ready .any ops ao=[]->Q .normal a w)/\
  ∀i∈Region.ready .any ops ao,wpOp P ops Q i (λa' w'=>S (ao.setIfInBounds i true) w'/\kS P ops Q S f (ao.setIfInBounds i true) a' w') a w
theorem qW {Q:Exit->Act->World->Prop} {S:Array Bool->World->Prop}:∀(f:Nat) (ao:Array Bool) (a:Act) (w:World),kS P ops Q S f ao a w->wpAny P .any ops Q f ao a w
 |0,_,_,_,h=>h
 |f+1,_,_,_,h=>⟨h.1,λi hi=>wpOp_mono (λa' w' h'=>qW f _ a' w' h'.2) (h.2 i hi)⟩
theorem sU {Q S i} {oi:Oper} {v} (hi:ops[i]? =some oi) (rY:Region.noSelect ops=true) (hQ:∀(c:List PanicEntry) (a:Act) (w:World),¬Q (.panic c) a w) (T) (hT:∀ao w,Down ops ao->ao.getD i true=false->S ao w->T w) (zq:∀ao w,S ao w->S (ao.setIfInBounds i true) w) (S4:∀ao j w,Down ops ao->ao.getD i true=false->j≠i->j∈Region.ready .any ops ao->S ((ao.setIfInBounds i true).setIfInBounds j true) w->S (ao.setIfInBounds j true) w):
 ∀(f:Nat) (ao:Array Bool) (a:Act) (w:World),Down ops ao->
  (∀j oj,ops[j]? =some oj->j≠i->ao.getD j true=false->(∀e∈oj.after,Region.binds .any e=true->e.on≠i)->oi.apart ops oj=true)->
  i∈Region.ready .any ops ao->YieldsIf P ops T oi v a->S ao w->kS P ops Q S f (ao.setIfInBounds i true) (a.put oi.dst v) w->kS P ops Q S (f+1) ao a w:=by
 intro f
 induction f with
 |zero=>
  intro ao a w hd rV hr hy hS h
  refine⟨λh0=>(by rw[h0]at hr;cases hr),λj hj=> ?_⟩
  by_cases pZ:j=i
  ·subst pZ
   exact hy.wpOp hi (hT ao w hd (mem_ready.1 hr).1 hS) ⟨zq _ _ hS,h⟩
  ·have:=ready_mono hj pZ
   rw[h.1]at this
   cases this
 |succ f ih=>
  intro ao a w hd rV hr hy hS h
  refine⟨λh0=>(by rw[h0]at hr;cases hr),λj hj=> ?_⟩
  by_cases pZ:j=i
  ·subst pZ
   exact hy.wpOp hi (hT ao w hd (mem_ready.1 hr).1 hS) ⟨zq _ _ hS,h⟩
  ·have OH:=(mem_ready.1 hr).1
   have h1:=h.2 j (ready_mono hj pZ)
   obtain⟨Q8,oj,OS,l9⟩:=mem_ready.1 hj
   have Es:∀e∈oj.after,Region.binds .any e=true->e.on≠i:=λe he hb heq=>by
    have h2:=l9 e he hb;rw[heq]at h2;rcases jP i ao.size with h'|h'
    ·simp[h']at OH h2;rw[OH]at h2;cases h2
    ·simp[WB h']at h2
   have h2:=wpOp_putIf OS (rV j oj OS pZ Q8 Es) (λcs b=>Region.noSelect_spec rY i oi cs b hi) (λcs b=>Region.noSelect_spec rY j oj cs b OS) (λc a w hq=>absurd hq (hQ _ _ _)) hy h1
   refine wpOp_mono (λa' w' h3=> ?_) h2
   have SG:=S4 ao j w' hd OH pZ hj h3.2.1
   refine⟨SG,ih (ao.setIfInBounds j true) a' w' (hd.set hj) (λk ok hk AK Qb zt=>rV k ok hk AK ?_ zt) (ready_mono hr (uaT pZ)) h3.1 SG ?_⟩
   ·by_cases ym:j=k
    ·subst ym;exact Q8
    ·rw[getD_set_ne true ym]at Qb;exact Qb
   ·rw[ubm _ _ pZ]
    exact h3.2.2
theorem uR {Q:Exit->Act->World->Prop} {S:Array Bool->World->Prop} {ao:Array Bool} {a:Act} {w:World} (hr:Region.ready .any ops ao=[]) (h:Q .normal a w):∀f,kS P ops Q S f ao a w
 |0=>⟨hr,h⟩
 |_+1=>⟨λ_=>h,by rw[hr];simp⟩
def j5 (w0:World) (ops:Array Oper) (R L:af) (post:List Nat) (ao:Array Bool) (w:World):Prop:=
 ∃F',Sat w0 w (bif post.any (λj=>ao.getD j false)then R*F' else R*(L*F'))
theorem j5.read {R L post ao w} (h:j5 w0 ops R L post ao w):∃F',Sat w0 w (R*F'):=by
 obtain⟨F',h⟩:=h;cases hb:post.any (λj=>ao.getD j false)with
 |true=>rw[hb]at h;exact⟨_,h⟩
 |false=>rw[hb]at h;exact⟨_,h⟩
theorem j5.whole {R L post ao w F'} (h:Sat w0 w (R*(L*F'))):j5 w0 ops R L post ao w:=by
 cases hb:post.any (λj=>ao.getD j false)with
 |true=>exact⟨L*F',by rw[hb];exact h⟩
 |false=>exact⟨F',by rw[hb];exact h⟩
theorem j5.Py {R L} {post:List Nat} {ao:Array Bool} {w F'} (hb:post.any (λj=>ao.getD j false)=true) (h:Sat w0 w (R*F')):j5 w0 ops R L post ao w:=
 ⟨F',by rw[hb];exact h⟩
theorem FG {post:List Nat} {ao:Array Bool} {i} (hi:i∉post):post.any (λj=>(ao.setIfInBounds i true).getD j false)=post.any (λj=>ao.getD j false):=by
 rw[YX,ZV,ZV];constructor
 ·rintro⟨j,hj,h⟩;exact⟨j,hj,by rw[getD_set_ne false (λe=>hi (by rw[e];exact hj))]at h;exact h⟩
 ·rintro⟨j,hj,h⟩;exact⟨j,hj,getD_set_true h⟩
theorem j5.set {R L post} {ao:Array Bool} {w} (h:j5 w0 ops R L post ao w) (i):j5 w0 ops R L post (ao.setIfInBounds i true) w:=by
 cases hb:post.any (λj=>ao.getD j false)with
 |true=>
  obtain⟨F',h⟩:=h;rw[hb]at h;refine .Py ?_ h;obtain⟨j,hj,h⟩:=ZV.1 hb;exact ZV.2 ⟨j,hj,getD_set_true h⟩
 |false=>obtain⟨F',h⟩:=h;rw[hb]at h;exact .whole h
theorem Lg {o oj:Oper} {v} (Lk:oj.apart ops o=true) (hs:∀cs b,o.op≠ .select cs b) {Q} (hQ:∀c a w,¬Q (.panic c) a w) {K} {a:Act} {w} (h:o.wp P a w (λx w=>K (x.put oj.dst v) w) Q):o.wp P (a.put oj.dst v) w K Q:=by
 obtain⟨h1,h2,h3⟩:=Oper.apart_spec Lk;unfold Oper.wp at*
 rw[execOp_put o hs a oj.dst v h1];generalize (execOp a.eval o).run P w=r at*
 cases r with
 |ok nx w'=>
  cases nx<;>simp only[Oper.upon]at h ⊢;case value u=>rw[Act.put_comm a v u h2];exact h
  case skip=>rw[Act.put_comm a v undef h2];exact h
  case defer d=>rw[Act.put_defers,Act.put_comm _ v undef h2];exact h
  case enter f args=>
   refine Calls.mono h λe Vq he=> ?_
   cases e with
   |returned u=>show K ((a.put oj.dst v).put o.dst u) Vq;rw[Act.put_comm a v u h2];exact he
   |panicked c=>exact absurd he (hQ _ _ _)
   |outgrown=>exact he
  case row row args=>exact Rows.mono h λu Vq he=>by show K ((a.put oj.dst v).put o.dst u) Vq;rw[Act.put_comm a v u h2];exact he
 |halt x w'=>
  cases x<;>simp only[Oper.upon]at h ⊢;case panic u=>exact absurd h (hQ _ _ _)
def j1 (Q:Exit->Act->World->Prop):Exit->Act->World->Prop
 | .panic _,_,_=>False
 | .outgrown,_,_=>False
 |e,a,w=>Q e a w
theorem Ig (w:World) {t z} {zs:List Value} (hz:Zero P t z zs):(Instr.alloc t true (.tuple #[])).run P w= .ok (ptr w.heap.size 0) (w.alloc (.cells zs.toArray t)):=by
 obtain⟨i,hi,uZ⟩:=AU.1 hz.eq;have hc:z.cells=zs.toArray:=by rw[gX,hz.cells]
 simp[Instr.alloc,zeroValue,typeInfo,hi,uZ,newVar,newRow,hc]
theorem nK (ρ) {d t ty pos after gu} (w:World) {z} {zs:List Value} (hz:Zero P t z zs):
 (execOp ρ ⟨d,.alloc t,ty,pos,after,gu⟩).run P w= .ok (.value (ptr w.heap.size 0)) (w.alloc (.cells zs.toArray t)):=by
 simp[execOp,Ig w hz]
inductive Fv (P:Program) (n:fT) (ops:Array Oper) (a0:Act) (H:af):Option Nat->Act->af->Prop
 |none:Fv P n ops a0 H none a0 H
 |some {j d:Nat} {t ty:TypeId} {g:Nat} {pos:String} {after:Array Edge} {z:Value} {zs:List Value}:ops[j]? =some ⟨some d,.alloc t,ty,pos,after,none⟩->Zero P t z zs->
  Fv P n ops a0 H (some j) (a0.put (some d) (ptr g 0)) (aK g t zs*H)
def Lh (P:Program) (ops:Array Oper):Prop:=∀(j d t ty:Nat) (pos:String) (after:Array Edge) (gu:Option (Nat×Bool)),ops[j]? =some (⟨some d,.alloc t,ty,pos,after,gu⟩:Oper)->∃z zs,Zero P t z zs
def Fq (P:Program) (o:Oper):Bool:=match o.op with
 | .alloc t=>match P.info? t with
  |some i=>i.zero.isSome
  |none=>false
 |_=>true
theorem zZ {l:List Oper} (h:l.all (Fq P)=true):Lh P l.toArray:=by
 intro j d t ty pos after gu hj;have hm:=uaG.1 h _ (jq (by simpa using hj));simp only[Fq]at hm;cases hi:P.info? t with
 |none=>rw[hi]at hm;cases hm
 |some i=>
  rw[hi]at hm;simp only at hm;obtain⟨z,hz⟩:=ubn.1 hm;exact⟨z,_,by rw[hi];simp[hz],rfl⟩
theorem Ag {j o} (h:kp ops j=some o):∃(d t ty:Nat) (pos:String) (after:Array Edge),o=(⟨some d,.alloc t,ty,pos,after,none⟩:Oper)/\ops[j]? =some o:=by
 unfold kp at h;cases ho:ops[j]? with
 |none=>rw[ho]at h;cases h
 |some o'=>
  rw[ho]at h;simp only at h;cases hb:(fG o'.op&&o'.guard.isNone&&o'.dst.isSome)with
  |false=>rw[hb]at h;cases h
  |true=>
   rw[hb]at h;cases h;obtain⟨dst,op,ty,pos,after,guard⟩:=o;simp only[Ps]at hb;obtain⟨⟨h1,h2⟩,h3⟩:=hb;cases op<;>try(cases h1;done)
   cases guard<;>try(cases h2;done)
   cases dst<;>try(cases h3;done)
   exact⟨_,_,_,_,_,rfl,rfl⟩
section sound
variable {R L:af} {B:Nat->Bool} {cp:Nat} {post Ew:List Nat}
def FB (P:Program) (n:fT) (w0:World) (ops:Array Oper) (Q:Exit->St->Prop) (D:List Deferred) (R L:af) (B:Nat->Bool) (cp:Nat) (post Ew:List Nat) (c:Bool) (m:Nat):Prop:=
 ∀(f k:Nat) (idx:List Nat) (ao:Array Bool) (e:Option Nat) (l:List Oper) (E:Env) (F:af) (a0 a:Act) (H:af) (w:World),
  ux ops B post m f k idx ao e=true->Ew.drop k=idx->idx.map (ops[·]?)=l.map some->DL P n w0 ops Q D R L B cp k c l E F->(c=true->cp<=k)->fV n E a0->a0.defers=D->Fv P n ops a0 (hp c R L F) e a H->Sat w0 w H->Down ops ao->j5 w0 ops R L post ao w->
  kS P ops (j1 (lift n w0 Q)) (j5 w0 ops R L post) f ao a w
theorem Bz (hz:Lh P ops) (rY:Region.noSelect ops=true) (Nl:post=(Ew.drop cp).filter (B0 ops)) (c) (Ot:c=false->∀m,FB P n w0 ops Q D R L B cp post Ew true m):∀m,FB P n w0 ops Q D R L B cp post Ew c m:=by
 have TQ:∀(c:List PanicEntry) (a:Act) (w:World),¬j1 (lift n w0 Q) (.panic c) a w:=λ_ _ _ h=>h;have SX:∀j,j∈post->B0 ops j=true:=λj hj=>by rw[Nl]at hj;exact(uaf.1 hj).2
 intro m;induction m with
 |zero=>intro f k idx ao e l E F a0 a H w hc;cases hc
 |succ m ih=>
  intro f k idx ao e l E F a0 a H w hc hk qD hd PY hs hD he je uC hS; -- a y
  by_cases Dy:∃F',c=false/\k=cp/\F'=L*F/\DL P n w0 ops Q D R L B cp cp true l E F'
  ·obtain⟨F',rfl,rfl,rfl,Ov⟩:=Dy;exact Ot rfl (m+1) f k idx ao e l E (L*F) a0 a H w hc hk qD Ov (λ_=>uL _) hs hD he je uC hS
  cases idx with
  |nil=>
   have hl:l=[]:=by simpa using qD.symm
   subst hl;simp only[ux,Ps]at hc;obtain⟨XA,hr⟩:=hc;cases he with
   |some _ _=>cases XA
   |none=>
    cases hd with
    |nil hH h=>exact uR (by simpa using hr) ⟨_,h,hs,hD,je.cast hH.symm⟩ f
    |yW h=>exact absurd ⟨_,rfl,rfl,rfl,h⟩ Dy
  |cons i r=>
   obtain⟨o,l,rfl,Lq,Q5⟩:∃o l',l=o::l'/\ops[i]? =some o/\r.map (ops[·]?)=l'.map some:=by
    cases l with
    |nil=>simp at qD
    |cons o l'=>simp only[Hh,ubp]at qD;exact⟨o,l',rfl,qD.1,qD.2⟩
   have VY:=qD
   clear qD
   have qD:=Q5
   have Cg:Ew.drop (k+1)=r:=by rw[<-uax,hk];rfl
   have AK:Ew[k]? =some i:=by
    have:=G2 (·[0]?) hk;simpa using this
   have JS:c=true->cp<=k+1:=λh=>Nat.le_succ_of_le (PY h)
   have Pc:mD o.op=true->c=true->i∈post:=λh1 h2=>by
    rw[Nl];refine uaf.2 ⟨?_,by simp[B0,Lq,h1]⟩;refine jq (i:=k - cp) ?_;rw[Lf,show cp+(k - cp)=k by have:=PY h2;omega];exact AK
   have Hq:∀cs b,o.op≠ .select cs b:=λcs b=>Region.noSelect_spec rY i o cs b Lq
   simp only[ux]at hc
   by_cases VV:e=some i
   · -- it has WV up earl
    subst VV
    simp only[beq_self_eq_true,Zo]at hc
    cases he with
    | @some _ d t ty g pos after z zs hj pF=>
     rw[Lq]at hj;cases hj;cases hd with
     |q h1=>cases h1
     |qp h1=>cases h1
     |qs h1=>cases h1
     |skip h1=>cases h1
     |t _ h1=>cases h1
     |tq _ h1=>cases h1
     |yW h=>exact absurd ⟨_,rfl,rfl,rfl,h⟩ Dy
     |a gG Kf hn=>
      obtain rfl:_=zs:=Kf.cells.symm.trans ((G2 jn (by
       obtain⟨i1,e1,e2⟩:=AU.1 Kf.eq
       obtain⟨i2,e3,e4⟩:=AU.1 pF.eq
       rw[e1]at e3;cases e3;rw[e2]at e4;exact PL e4)).trans pF.cells)
      exact ih f (k+1) r ao none l _ _ _ _ _ w hc Cg qD (hn g) JS (hs.put _ gG) hD .none (je.cast (by cases c<;>simp only[hp,Zo,Yv]<;>ac_rfl)) uC hS
   ·have hb:(e==some i)=false:=by simpa using VV
    rw[hb]at hc
    simp only[Yv]at hc
    cases f with
    |zero=>simp at hc
    |succ f=>
     rw[Lq]at hc
     simp only[Ps]at hc
     obtain⟨Lk,hc⟩:=hc
     cases Lo:mD o.op with
     |false=>
      rw[Lo]at hc;simp only[Yv,Ps]at hc;obtain⟨⟨⟨⟨h1,h2⟩,h3⟩,TI⟩,h4⟩:=hc;have Lj:i∈Region.ready .any ops ao:=by simpa using h2
      have OF:i∉post:=λh=>by have:=SX i h;simp[B0,Lq,Lo]at this
      have take:∀(T:World->Prop) v,(∀ao w,Down ops ao->ao.getD i true=false->j5 w0 ops R L post ao w->T w)->YieldsIf P ops T o v a->
       (∀x:Act,x=a.put o.dst v->kS P ops (j1 (lift n w0 Q)) (j5 w0 ops R L post) f (ao.setIfInBounds i true) x w)->kS P ops (j1 (lift n w0 Q)) (j5 w0 ops R L post) (f+1) ao a w:=λT v hT hy hn=>
       sU Lq rY TQ T hT (λao w h=>h.set i) (λao j w QY Q7 pZ hj h=>by
        obtain⟨F',h⟩:=h
        refine⟨F',?_⟩
        rw[ubm _ _ (uaT pZ),FG OF]at h
        exact h) f ao a w uC (λj oj OS pZ Qb zt=>Region.free_spec Lq h1 j oj OS pZ Qb zt) Lj hy hS (hn _ rfl)
      have main:∀(T:World->Prop) v,(∀ao w,Down ops ao->ao.getD i true=false->j5 w0 ops R L post ao w->T w)->gC n o.dst=true->YieldsIf P ops T o v a0->DL P n w0 ops Q D R L B cp (k+1) c l (E.zaI o.dst v) F->kS P ops (j1 (lift n w0 Q)) (j5 w0 ops R L post) (f+1) ao a w:=by
       intro T v hT gG hy hd;cases he with
       |none=>exact take T v hT hy λx hx=>by rw[hx];exact ih f (k+1) r _ none l _ _ _ _ _ w h4 Cg qD hd JS (hs.zaI _ _ gG) (by cases o.dst<;>exact hD) .none je (uC.set Lj) (hS.set i)
       | @some j d t ty g pos after z zs hj pF=>
        have xg:(⟨some d,.alloc t,ty,pos,after,none⟩:Oper).apart ops o=true:=by
         simpa [kp,hj,fG]using Lk
        obtain⟨p1,p2,p3⟩:=Oper.apart_spec xg;have Ke:YieldsIf P ops T o v (a0.put (some d) (ptr g 0)):=hy.of_same (execOp_put o Hq a0 (some d) _ p1) (wanted_put o a0 (some d) _ p1);refine take T v hT Ke λx hx=> ?_;rw[hx,Act.put_comm a0 _ _ p2];exact ih f (k+1) r _ (some j) l _ _ _ _ _ w h4 Cg qD hd JS (hs.zaI _ _ gG) (by cases o.dst<;>exact hD) (.some hj pF) je (uC.set Lj) (hS.set i)
      cases hd with
      |q _ gG hg iZ hd=>
       obtain⟨b,hg⟩:=hg;exact main (λw=>∃F',Sat w0 w (R*F')) _ (λ_ _ _ _ h=>h.read) gG (.inl ⟨by rw[kl hs hg];simp,λw hw=>by obtain⟨F',hw⟩:=hw;exact iZ F' a0 w hs hw⟩) hd
      |qp _ gG hB hg iZ hd=>
       obtain⟨b,hg⟩:=hg;rw[hB]at h3;simp only[ubO,uaI]at h3;refine main (λw=>∃F',Sat w0 w (R*(L*F'))) _ (λao w QY Q7 h=> ?_) gG (.inl ⟨by rw[kl hs hg];simp,λw hw=>by obtain⟨F',hw⟩:=hw;exact iZ F' a0 w hs hw⟩) hd;obtain⟨F',h⟩:=h;have:post.any (λj=>ao.getD j false)=false:=by
        rw[<-ubi,ZV];rintro⟨j,hj,hl⟩;have Ug:=uaG.1 h3 j hj;rw[rO QY Q7 j (by simpa using Ug)]at hl;cases hl
       rw[this]at h;exact⟨F',h⟩
      |qs _ gG hB hg iZ hd=>
       obtain⟨b,hg⟩:=hg;rw[hB]at TI;simp only[ubO,uaI,Ps,Option.isNone_iff_eq_none]at TI;obtain⟨rfl,l9⟩:=TI;cases he with
       |none=>
        refine⟨λh0=>(by rw[h0]at Lj;cases Lj),λj hj=> ?_⟩;obtain rfl:j=i:=by simpa using uaG.1 l9 j hj
        have hy:YieldsIf P ops (λw=>Sat w0 w (hp c R L F)) o _ a0:= .inl ⟨by rw[kl hs hg];simp,λw hw=>iZ a0 w hs hw⟩;exact hy.wpOp Lq je ⟨hS.set j,ih f (k+1) r _ none l _ _ _ _ _ w h4 Cg qD hd JS (hs.zaI _ _ gG) (by cases o.dst<;>exact hD) .none je (uC.set Lj) (hS.set j)⟩
      |skip _ gG hg hd=>exact main (λ_=>True) _ (λ_ _ _ _ _=>trivial) gG (.inr ⟨by rw[kl hs hg];simp,rfl⟩) hd
      |t h1=>rw[Lo]at h1;cases h1
      |tq h1=>rw[Lo]at h1;cases h1
      |a=>cases Lo
      |yW h=>exact absurd ⟨_,rfl,rfl,rfl,h⟩ Dy
     |true=>
      rw[Lo]at hc
      simp only[Zo,Ps]at hc
      obtain⟨⟨h1,h2⟩,h3⟩:=hc
      have VZ:i∈Region.ready .any ops ao:=by simpa using h1
      have mi:Region.ready .any ops ao≠[]:=by intro h0;rw[h0]at h1;cases h1
      refine⟨λh0=>absurd h0 mi,λj hj=> ?_⟩
      have VI:=uaG.1 h3 j hj
      by_cases pZ:j=i
      ·subst pZ
       -- behind it
       have step:∀(v:Value) (F':af),gC n o.dst=true->DL P n w0 ops Q D R L B cp (k+1) c l (E.zaI o.dst v) F'->∀(x:Act) (w':World) (X:af),Fv P n ops (a0.put o.dst v) (hp c R L F') e x X->Sat w0 w' X->
        j5 w0 ops R L post (ao.setIfInBounds j true) w'/\kS P ops (j1 (lift n w0 Q)) (j5 w0 ops R L post) f (ao.setIfInBounds j true) x w':=by
        intro v F' gG hd x w' X Mi J9
        have Cf:j5 w0 ops R L post (ao.setIfInBounds j true) w':=by
         have hX:∃F2,Sat w0 w' (hp c R L F2):=by
          cases Mi with
          |none=>exact⟨_,J9⟩
          | @some _ _ t' _ g' _ _ _ Vs _ _=>exact⟨aK g' t' Vs*F',J9.cast (by cases c<;>simp only[hp,Zo,Yv]<;>ac_rfl)⟩
         obtain⟨F2,hX⟩:=hX;cases vR:c with
         |false=>rw[vR]at hX;exact .whole hX
         |true=>
          rw[vR]at hX;refine .Py (ZV.2 ⟨j,Pc Lo vR,?_⟩) hX;have bW:j<ao.size:=by
           have:=(mem_ready.1 VZ).1;rcases jP j ao.size with h|h
           ·exact h
           ·simp[WB h]at this
          simp[bW]
        exact⟨Cf,ih f (k+1) r _ e l _ _ _ _ _ w' h2 Cg qD hd JS (hs.zaI _ _ gG) (by cases o.dst<;>exact hD) Mi J9 (uC.set VZ) Cf⟩
       unfold wpOp
       rw[Lq]
       have Le:∀c b,fO ops E o=some (c,b)->Region.wanted o (yielded ops a.tmps)=(c==b):=by
        intro c b hg;cases he with
        |none=>exact kl hs hg
        | @some j' d t ty g pos after z zs qF pF=>
         have xg:(⟨some d,.alloc t,ty,pos,after,none⟩:Oper).apart ops o=true:=by
          simpa [kp,qF,fG]using Lk
         obtain⟨p1,p2,p3⟩:=Oper.apart_spec xg;rw[wanted_put o a0 (some d) _ p1];exact kl hs hg
       cases hd with
       |q h1=>rw[Lo]at h1;cases h1
       |qp h1=>rw[Lo]at h1;cases h1
       |qs h1=>rw[Lo]at h1;cases h1
       |yW h=>exact absurd ⟨_,rfl,rfl,rfl,h⟩ Dy
       | @skip _ _ _ _ _ _ b _ gG hg hd=>
        have hw:=Le _ _ hg
        simp only[hw]
        rw[eQ (by simp)]
        cases he with
        |none=>exact step _ _ gG hd _ _ _ .none je
        | @some j' d t ty g pos after z zs qF pF=>
         have xg:(⟨some d,.alloc t,ty,pos,after,none⟩:Oper).apart ops o=true:=by
          simpa [kp,qF,fG]using Lk
         obtain⟨p1,p2,p3⟩:=Oper.apart_spec xg;rw[Act.put_comm a0 _ _ p2];exact step _ _ gG hd _ _ _ (.some qF pF) je
       | @t _ _ _ _ _ _ F' α pre v mr _ _ gG hg iZ hF hd=>
        obtain⟨b,hg⟩:=hg
        have hw:=Le _ _ hg
        simp only[hw]
        rw[jF (by simp)]
        refine .inl ?_
        cases he with
        |none=>
         refine iZ (hp c R L F') a0 w _ _ hs (je.cast (by rw[hF];cases c<;>simp only[hp,Zo,Yv]<;>ac_rfl)) λx w' eI=> ?_;exact step _ _ gG (hd x) _ _ _ .none (eI.cast (by cases c<;>simp only[hp,Zo,Yv]<;>ac_rfl))
        | @some j' d t ty g pos after z zs qF pF=>
         have xg:(⟨some d,.alloc t,ty,pos,after,none⟩:Oper).apart ops o=true:=by
          simpa [kp,qF,fG]using Lk
         refine Lg xg Hq TQ ?_;refine iZ (aK g t zs*hp c R L F') a0 w _ _ hs (je.cast (by rw[hF];cases c<;>simp only[hp,Zo,Yv]<;>ac_rfl)) λx w' eI=> ?_;exact step _ _ gG (hd x) _ _ _ (.some qF pF) (eI.cast (by cases c<;>simp only[hp,Zo,Yv]<;>ac_rfl))
       | @tq _ _ _ _ _ _ v _ _ gG hg iZ hd=>
        obtain⟨b,hg⟩:=hg
        have hw:=Le _ _ hg
        simp only[hw]
        rw[jF (by simp)]
        refine .inl ?_
        cases he with
        |none=>exact iZ F a0 w _ _ hs je λw' eI=>step _ _ gG hd _ _ _ .none eI
        | @some j' d t ty g pos after z zs qF pF=>
         have xg:(⟨some d,.alloc t,ty,pos,after,none⟩:Oper).apart ops o=true:=by
          simpa [kp,qF,fG]using Lk
         refine Lg xg Hq TQ ?_;refine iZ (aK g t zs*F) a0 w _ _ hs (je.cast (by cases c<;>simp only[hp,Zo,Yv]<;>ac_rfl)) λw' eI=> ?_;exact step _ _ gG hd _ _ _ (.some qF pF) (eI.cast (by cases c<;>simp only[hp,Zo,Yv]<;>ac_rfl))
       | @a _ _ d t ty pos after _ _ _ z zs gG Kf hn=>
        simp only
        rw[jF (by rfl)]
        refine .inl ?_
        unfold Oper.wp
        rw[nK a.eval w Kf,Oper.upon_value]
        cases he with
        |none=>
         exact step _ _ gG (hn _) _ _ _ .none ((je.new t zs.toArray).cast (by show aK _ _ _*_=_;cases c<;>simp only[hp,Zo,Yv]<;>ac_rfl))
        | @some j' d' t' YP g' pos' N1 z' Vs qF pF=>
         have xg:(⟨some d',.alloc t',YP,pos',N1,none⟩:Oper).apart ops (⟨some d,.alloc t,ty,pos,after,none⟩:Oper)=true:=by
          simpa [kp,qF,fG]using Lk
         obtain⟨p1,p2,p3⟩:=Oper.apart_spec xg;have:=step (ptr w.heap.size 0) _ gG (hn w.heap.size) _ _ _ (.some (g:=g') qF pF) ((je.new t zs.toArray).cast (by show aK _ _ _*_=aK g' t' Vs*_;cases c<;>simp only[hp,Zo,Yv]<;>ac_rfl));rw[Act.put_comm a0 _ _ p2];exact this
      · -- an N4 comes up earl
       simp only[ucj,ubS,pZ,false_or,Ps]at VI
       obtain⟨⟨e1,e2⟩,e3⟩:=VI
       obtain⟨oj,e2⟩:=ubn.1 e2
       obtain⟨d,t,ty,pos,after,rfl,qF⟩:=Ag e2
       obtain⟨z,zs,pF⟩:=hz j d t ty pos after none qF
       cases he with
       |some _ _=>cases e1
       |none=>
        unfold wpOp
        rw[qF]
        simp only
        rw[jF (by rfl)]
        refine .inl ?_
        unfold Oper.wp
        rw[nK _ w pF,Oper.upon_value]
        have hn:=je.new t zs.toArray
        have hh:j5 w0 ops R L post (ao.setIfInBounds j true) (w.alloc (.cells zs.toArray t)):=by
         refine j5.set ?_ j;obtain⟨F',h⟩:=hS;refine⟨Oc w.heap.size t zs.toArray*F',?_⟩;have:=h.new t zs.toArray;cases hb:post.any (λj=>ao.getD j false)with
         |true=>rw[hb]at this;exact this.cast (by simp only[Zo];ac_rfl)
         |false=>rw[hb]at this;exact this.cast (by simp only[Yv];ac_rfl)
        exact⟨hh,ih f k (i::r) _ (some j) (o::l) E F a0 _ _ _ e3 hk (by simp[Lq,qD]) hd PY hs hD (.some qF pF) hn (uC.set hj) hh⟩
end sound
theorem wX (m):Down ops (Array.replicate m false):=by
 intro j o hj hl;exfalso;by_cases h:j<m<;>simp[h]at hl
theorem Iv {ro Q i K K' a w} (xm:∀(j:Nat) (o:Oper),ops[j]? =some o->∀c,o.op≠Op.defer c) (hQ:¬LetsOut Q) (hK:∀a w,K a w->K' a w) (h:wpOp P ops Q i K a w):wpOpIn (uW ro) 0 P ops Q i K' a w:=by
 unfold wpOp at h;unfold Go.wpOpIn;cases ho:ops[i]? with
 |none=>rw[ho]at h;exact hK _ _ h
 |some o=>
  rw[ho]at h;simp only at h ⊢;by_cases hw:Region.wanted o (yielded ops a.tmps)=true
  ·rw[jF hw]at h ⊢;rcases h with h|h
   ·exact jB (.inr (xm i o ho)) (Oper.wp_mono hK h)
   ·exact absurd h.2 hQ
  ·rw[eQ hw]at h ⊢;exact⟨λ_ _=>trivial,hK _ _ h⟩
theorem qV {ro:Option Nat} {md:Region.Mode} {Q:Exit->Act->World->Prop} (xm:∀(j:Nat) (o:Oper),ops[j]? =some o->∀c,o.op≠Op.defer c) (hQ:¬LetsOut Q):∀(f:Nat) (ao:Array Bool) (a:Act) (w:World),wpAny P md ops Q f ao a w->wpAnyIn (uW ro) 0 P md ops Q f ao a w
 |0,_,_,_,h=>h
 |f+1,_,_,_,h=>⟨h.1,λi hi=>Iv xm hQ (λa w h=>qV xm hQ f _ a w h) (h.2 i hi)⟩
def F8:Op->Bool
 | .defer _=>true
 |_=>false
def iT (P:Program) (l:List Oper) (idx:List Nat) (B:Nat->Bool) (cp:Nat):Bool:=
 (l.all λo=> !F8 o.op)&&P.follows .mixedOrders&&l.all (Fq P)&&Region.noSelect l.toArray&&ux l.toArray B ((idx.drop cp).filter (B0 l.toArray)) (4*l.length+4) l.length 0 idx (Array.replicate l.length false) none
theorem iK {id} (idx:List Nat) (l':List Oper) (R L F B cp) (hs:iT P l idx B cp=true) (hH:H=R*(L*F)) (hl:idx.map (l[·]?)=l'.map some) (h:DL P n w0 l.toArray Q D R L B cp 0 false l' E F):WS P n w0 (.region id l.toArray true) Q ⟨E,D,H⟩:=λa w g=>by
 simp only[iT,Ps]at hs;obtain⟨⟨⟨⟨xm,hm⟩,hz⟩,rY⟩,hc⟩:=hs;have hd:Sat w0 w.drew (R*(L*F)):=(g.sat.cast hH).drew;have h1:=Bz (n:=n) (w0:=w0) (Q:=Q) (D:=D) (R:=R) (L:=L) (B:=B) (cp:=cp) (zZ hz) rY rfl false (λ_=>Bz (zZ hz) rY rfl true (λh=>by cases h)) _ _ 0 idx _ none l' E F a a _ w.drew hc (by simp) (by rw[<-hl];simp) h (λh=>by cases h) g.dQ g.defers .none hd (wX _) (.whole hd);exact pan
theorem HR (l:List Oper):(List.range l.length).map (l[·]?)=l.map some:=by
 apply zD;intro i;simp only[zA];by_cases hi:i<l.length
 ·simp[hi]
 ·simp[EJ (by simpa using hi:(List.range l.length).length<=i),EJ (by simpa using hi:l.length<=i)]
theorem I8 {id} (R L F B cp) (hs:iT P l (List.range l.length) B cp=true) (hH:H=R*(L*F)) (h:DL P n w0 l.toArray Q D R L B cp 0 false l E F):WS P n w0 (.region id l.toArray true) Q ⟨E,D,H⟩:=
 iK _ l R L F B cp hs hH (HR l) h
def Jy:List Oper->Nat
 |[]=>0
 |o::r=>bif mD o.op then 0 else Jy r+1
theorem b5:F*emp=F:=by rw[nt,aB]
theorem mO {id} (hs:iT P l (List.range l.length) (λk=>Nat.blt k (Jy l)) (Jy l)=true) (h:DL P n w0 l.toArray Q D emp H (λk=>Nat.blt k (Jy l)) (Jy l) 0 false l E emp):WS P n w0 (.region id l.toArray true) Q ⟨E,D,H⟩:=
 I8 emp H emp _ _ hs (by rw[b5,aB]) h
theorem By {L R B k cp F'} (hk:k=cp) (hF:F'=L*F) (h:DL P n w0 ops Q D R L B cp k true l E F'):DL P n w0 ops Q D R L B cp k false l E F:=by
 subst hk;subst hF;exact .yW h
theorem GB {R L B k cp} (hk:Nat.beq k cp=true) (h:DL P n w0 ops Q D R L B cp k true l E L):DL P n w0 ops Q D R L B cp k false l E emp:=By (uaz hk) b5.symm h
theorem LI {B k cp L} (h:Q .normal ⟨E,D,F⟩):DL P n w0 ops Q D emp L B cp k true [] E F:= .nil (by simp only[hp,Zo];rw[aB]) h
theorem LG {B k cp L} (h:Q .normal ⟨E,D,L⟩):DL P n w0 ops Q D emp L B cp k false [] E emp:= .nil (by simp only[hp,Yv];rw[aB,b5]) h
end
end Go.Proofs.YtapoehkdnglahabGreat
