/- A part. -/
import Derived.Test.YtapoehkdnglahabGreatMz
import Derived.Test.YtapoehkdnglahabGreatM2
set_option maxHeartbeats 16000000
set_option maxRecDepth 100000
set_option linter.all false
namespace Go.Proofs.YtapoehkdnglahabGreat
section
open Go.RowKit
theorem Spec.nV {P:Program} {w0:World} {f:FuncId} {args:List Value} {W:TW} {g:Nat} {s:Nd} {d:RD} {α:Type} {res:α->Value} {post:α->af} (tw:Twin W s d) (h:Spec P w0 f args (qe W g s) res post):Spec P w0 f args (cR g s d) res post:=
 h.zbB (by have:=aq.rn (W:=W) (g:=g) (F:=emp) tw (aq.refl _);simpa only[b5]using this) λx=>⟨x,rfl,aq.refl _⟩
attribute [local irreducible] WS LS OpQ y6 cn cv Spec bA aK di cq
variable (w0:World)
theorem Dd (W:TW) (gn:Nat) (s:Nd) (src:UInt32) (p:Pk) (hp:p.Read) (v:Value) (ok:aW s.ls) (hW:W.n<=100000) (F7:s.bu.length<=100000) (ht:∀t∈s.texts p.dest,t.length<=100) (hf:s.Fit ((s.texts p.dest).length+1)):Spec ucC w0 133 [ptr gn 0,u32 src,p.val v] (qe W gn s*rows 180 2 bB v p.lost) (λ_:Unit=> .tuple #[]) (λ_=>qe W gn (s.rep src p)):=by
 have j7:s.Fit 1:=hf.le (by omega);refine eZ Tryz.func133 Tryz.ntmps133 λG=> ?_;refine jl v iI λA c hv=> ?_;subst hv;obtain⟨Mm,ma,OT,OU,OV⟩:=hp;obtain⟨bK,kind,aH,unknown,id,dest,ak,from_,av,bD,lost,ar⟩:=p;simp only[Pk.val,Pk.cells,aN]at*
 refine rz (W:=W) (g:=gn) (s:=s) iI λd tw=> ?_;unfold cR;simp only[bN,ad];by_cases h1:dest=s.self
 ·have es:s.rep src ⟨bK,kind,aH,unknown,id,dest,ak,from_,av,bD,lost,ar⟩=s.drop 1:=by unfold Nd.rep;rw[jF h1]
  have p1:=cx w0 gn s d 1 (by have:=j7.dropped;omega);unfold cR at p1;simp only[bN,ad]at p1;repeat' (first|refine zeh ?_|intro hc|refine yZ ?_|refine aF ?_ ?_|refine cZ p1 λx1=> ?_)
  exact aj (.inl rfl) rfl ⟨(),rfl,by rw[es];exact aq.rn (tw.drop 1 x1) (by unfold cR;simp only[bN];exact ah)⟩
 have p3:=uJ w0 (aH+1) 255;have p4:=NL w0 d.tb s.self s.ls ok dest ak (min (aH+1) 255) src (s.now+bD.toUInt64);have IA:=pT s.self s.ls (Ln.bj dest ak (min (aH+1) 255) src (s.now+bD.toUInt64));have Lm:=pz s.self s.ls (Ln.bj dest ak (min (aH+1) 255) src (s.now+bD.toUInt64));have okU:=ok.La s.self (Ln.bj dest ak (min (aH+1) 255) src (s.now+bD.toUInt64)) (by simp only[Ln.bj];omega);have es:s.rep src ⟨bK,kind,aH,unknown,id,dest,ak,from_,av,bD,lost,ar⟩=if(dI s.self s.ls (Ln.bj dest ak (min (aH+1) 255) src (s.now+bD.toUInt64))).1=4 then Nd.drop {s with ls:=(dI s.self s.ls (Ln.bj dest ak (min (aH+1) 255) src (s.now+bD.toUInt64))).2} 2 else if from_=s.self then(if(dI s.self s.ls (Ln.bj dest ak (min (aH+1) 255) src (s.now+bD.toUInt64))).1=3 then Nd.drop (if(bR (dI s.self s.ls (Ln.bj dest ak (min (aH+1) 255) src (s.now+bD.toUInt64))).2 dest s.now).isSome then Nd.flush {s with ls:=(dI s.self s.ls (Ln.bj dest ak (min (aH+1) 255) src (s.now+bD.toUInt64))).2} dest else {s with ls:=(dI s.self s.ls (Ln.bj dest ak (min (aH+1) 255) src (s.now+bD.toUInt64))).2}) 7 else(if(bR (dI s.self s.ls (Ln.bj dest ak (min (aH+1) 255) src (s.now+bD.toUInt64))).2 dest s.now).isSome then Nd.flush {s with ls:=(dI s.self s.ls (Ln.bj dest ak (min (aH+1) 255) src (s.now+bD.toUInt64))).2} dest else {s with ls:=(dI s.self s.ls (Ln.bj dest ak (min (aH+1) 255) src (s.now+bD.toUInt64))).2}))else match bR (dI s.self s.ls (Ln.bj dest ak (min (aH+1) 255) src (s.now+bD.toUInt64))).2 from_ s.now with
  |none=>if bK=1 then Nd.drop {s with ls:=(dI s.self s.ls (Ln.bj dest ak (min (aH+1) 255) src (s.now+bD.toUInt64))).2} 4 else Nd.drop {s with ls:=(dI s.self s.ls (Ln.bj dest ak (min (aH+1) 255) src (s.now+bD.toUInt64))).2} 3
  |some b=>if bK=1 then Nd.drop {s with ls:=(dI s.self s.ls (Ln.bj dest ak (min (aH+1) 255) src (s.now+bD.toUInt64))).2} 4 else {Nd.send {s with ls:=(dI s.self s.ls (Ln.bj dest ak (min (aH+1) 255) src (s.now+bD.toUInt64))).2} b.next ⟨bK - 1,kind,min (aH+1) 255,unknown,id,dest,ak,from_,av,bD,lost,ar⟩with ls:=iY (gF (gF (dI s.self s.ls (Ln.bj dest ak (min (aH+1) 255) src (s.now+bD.toUInt64))).2 dest b.next) from_ src) from_ (s.now+3000)}:=by
  unfold Nd.rep
  simp only
  rw[eQ h1]
  rfl
 generalize hu:dI s.self s.ls (Ln.bj dest ak (min (aH+1) 255) src (s.now+bD.toUInt64))=u at p4 IA okU es Lm;obtain⟨e,gj⟩:=u;simp only at p4 IA okU es Lm;clear hu;have mF:Nd.Fit {s with ls:=gj} 1:=j7.ls gj;have uO:Twin W {s with ls:=gj} d:=tw.lines Lm;by_cases Hg:e=4
 ·subst Hg;rw[jF rfl]at es;have p5:=cx w0 gn {s with ls:=gj} d 2 (by have:=mF.dropped;omega);unfold cR at p5;simp only[bN,ad]at p5;repeat' (first|refine zeh ?_|refine zhc ?_|intro hc|refine yZ ?_|refine aF ?_ ?_|refine zw9 ?_|refine zw6 ?_|refine cZ p3 λx3=> ?_|refine cZ p4 λx4=> ?_|refine cZ p5 λx1=> ?_)
  exact aj (.inl rfl) rfl ⟨(),rfl,by rw[es];exact aq.rn (uO.drop 2 x1) (by unfold cR;simp only[bN,Nd.drop];exact ah)⟩
 rw[eQ Hg]at es;by_cases h2:from_=s.self
 ·rw[jF h2]at es;have p6:=nU w0 d.tb s.self gj okU dest s.now;cases hx:bR gj dest s.now with
  |none=>
   simp only[hx,eY,bM,sH]at p6;simp only[hx,sH,AT,VC]at es;by_cases AJ:e=3
   ·subst AJ;rw[jF rfl]at es;have p5:=cx w0 gn {s with ls:=gj} d 7 (by have:=mF.dropped;omega);unfold cR at p5;simp only[bN,ad]at p5;repeat' (first|refine zeh ?_|refine zhc ?_|refine zhA ?_|refine zf7 ?_|refine zgW ?_|intro hc|refine yZ ?_|refine aF ?_ ?_|refine zw3 λg=> ?_|refine zw9 ?_|refine zw6 ?_|refine cZ p3 λx3=> ?_|refine cZ p4 λx4=> ?_|refine cZ p6 λx6=> ?_|refine cZ p5 λx1=> ?_)
    exact aj (.inl rfl) rfl ⟨(),rfl,by rw[es];exact aq.rn (uO.drop 7 x1) (by unfold cR;simp only[bN,Nd.drop];exact ah)⟩
   ·rw[eQ AJ]at es;repeat' (first|refine zeh ?_|refine zhc ?_|refine zhA ?_|refine zf7 ?_|refine zgW ?_|intro hc|refine yZ ?_|refine aF ?_ ?_|refine zw3 λg=> ?_|refine zw9 ?_|refine zw6 ?_|refine cZ p3 λx3=> ?_|refine cZ p4 λx4=> ?_|refine cZ p6 λx6=> ?_)
    exact aj (.inl rfl) rfl ⟨(),rfl,by rw[es];exact aq.rn uO (by unfold cR;simp only[bN];exact ah)⟩
  |some x=>
   simp only[hx,eY,bM,uz]at p6;simp only[hx,uz,YZ]at es;have p7:=Spec.nV uO (uI w0 W gn {s with ls:=gj} dest okU hW F7 ht (hf.ls gj));have Oy:(Nd.flush {s with ls:=gj} dest).Fit 1:=Nd.Fit.flush (s:={s with ls:=gj}) dest (hf.ls gj);generalize Nd.flush {s with ls:=gj} dest=s2 at p7 Oy es;by_cases AJ:e=3
   ·subst AJ;rw[jF rfl]at es;have p5:=λd2=>cx w0 gn s2 d2 7 (by have:=Oy.dropped;omega);unfold cR at p5 p7;simp only[bN,ad]at p5 p7;repeat' (first|refine zeh ?_|refine zhc ?_|refine zhA ?_|refine zf7 ?_|refine zgW ?_|intro hc|refine yZ ?_|refine aF ?_ ?_|refine zw3 λg=> ?_|refine zw9 ?_|refine zw6 ?_|refine cZ p3 λx3=> ?_|refine cZ p4 λx4=> ?_|refine cZ p6 λx6=> ?_|(refine cZ p7 λx7=> ?_;clear p7)|refine cZ p5 λx1=> ?_|(refine kA (W:=W) (g:=gn) (s:=s2) iI λd2 lD=> ?_;replace p5:=p5 d2;unfold cR;simp only[bN,ad]))
    exact aj (.inl rfl) rfl ⟨(),rfl,by rw[es];exact aq.rn (lD.drop 7 x1) (by unfold cR;simp only[bN,Nd.drop];exact ah)⟩
   ·rw[eQ AJ]at es;unfold cR at p7;simp only[bN,ad]at p7;repeat' (first|refine zeh ?_|refine zhc ?_|refine zhA ?_|refine zf7 ?_|refine zgW ?_|intro hc|refine yZ ?_|refine aF ?_ ?_|refine zw3 λg=> ?_|refine zw9 ?_|refine zw6 ?_|refine cZ p3 λx3=> ?_|refine cZ p4 λx4=> ?_|refine cZ p6 λx6=> ?_|refine cZ p7 λx7=> ?_)
    exact aj (.inl rfl) rfl ⟨(),rfl,by rw[es];exact ah⟩
 rw[eQ h2]at es;have p6:=nU w0 d.tb s.self gj okU from_ s.now;by_cases zu:bK=1
 ·have Ax:s.rep src ⟨bK,kind,aH,unknown,id,dest,ak,from_,av,bD,lost,ar⟩=Nd.drop {s with ls:=gj} 4:=by rw[es];cases bR gj from_ s.now<;>simp only[jF zu]
  have p5:=cx w0 gn {s with ls:=gj} d 4 (by have:=mF.dropped;omega);unfold cR at p5;simp only[bN,ad]at p5;repeat' (first|refine zeh ?_|refine zhc ?_|refine zhA ?_|intro hc|refine yZ ?_|refine aF ?_ ?_|refine zw9 ?_|refine zw6 ?_|refine cZ p3 λx3=> ?_|refine cZ p4 λx4=> ?_|refine cZ p5 λx1=> ?_)
  exact aj (.inl rfl) rfl ⟨(),rfl,by rw[Ax];exact aq.rn (uO.drop 4 x1) (by unfold cR;simp only[bN,Nd.drop];exact ah)⟩
 cases hx:bR gj from_ s.now with
 |none=>
  have p5:=cx w0 gn {s with ls:=gj} d 3 (by have:=mF.dropped;omega);unfold cR at p5;simp only[bN,ad]at p5;simp only[hx,eY,bM,sH]at p6;simp only[hx,eQ zu]at es;repeat' (first|refine zeh ?_|refine zhc ?_|refine zhA ?_|refine zgv ?_|refine zgE ?_|intro hc|refine yZ ?_|refine aF ?_ ?_|refine zw3 λg=> ?_|refine zw9 ?_|refine zw6 ?_|refine cZ p3 λx3=> ?_|refine cZ p4 λx4=> ?_|refine cZ p6 λx6=> ?_|refine cZ p5 λx1=> ?_)
  exact aj (.inl rfl) rfl ⟨(),rfl,by rw[es];exact aq.rn (uO.drop 3 x1) (by unfold cR;simp only[bN,Nd.drop];exact ah)⟩
 |some b=>
  simp only[hx,eY,bM,uz]at p6;simp only[hx,eQ zu]at es;have p7:=fS w0 gn {s with ls:=gj} d b.next ⟨bK - 1,kind,min (aH+1) 255,unknown,id,dest,ak,from_,av,bD,lost,ar⟩ ⟨by simp only[cM]at*;omega,by simpa only[cM]using ma,by simp only[cM]at*;omega,by simp only;omega,by simp only;omega⟩ (.slice A lost.length c) rfl (rows 180 2 bB (.slice A lost.length c) lost) (hX:=fy _ _ _ _ _) (by have:=mF.aJ;omega);have Qj:=okU.FK dest b.next;have YH:=Qj.FK from_ src;have p8:=sC w0 d.tb s.self gj okU dest b.next;have p9:=sC w0 d.tb s.self (gF gj dest b.next) Qj from_ src;have Vc:=Df w0 d.tb s.self (gF (gF gj dest b.next) from_ src) YH from_ (s.now+3000);have yp:=λvf=>(uO.send b.next ⟨bK - 1,kind,min (aH+1) 255,unknown,id,dest,ak,from_,av,bD,lost,ar⟩ vf).lines (ls:=iY (gF (gF gj dest b.next) from_ src) from_ (s.now+3000)) (λx hx=>by rw[gY,jE,jE];exact hx);unfold cR at p7;simp only[bN,ad,Pk.val,Pk.cells,Nd.send]at p7;repeat' (first|refine zeh ?_|refine zhc ?_|refine zhA ?_|refine zgv ?_|refine zgE ?_|refine ae (id:=21) (.range 9) 8 [3,5,7] ?_|refine ae (id:=22) (.range 8) 7 [3,5] ?_|refine ae (id:=23) (.range 12) 11 [3,5,9] ?_|intro hc|refine yZ ?_|refine aF ?_ ?_|refine zw3 λg=> ?_|refine zw9 ?_|refine zw6 ?_|refine cZ p3 λx3=> ?_|refine cZ p4 λx4=> ?_|refine cZ p6 λx6=> ?_|refine cZ p7 λvf=> ?_|refine cZ p8 λx8=> ?_|refine cZ p9 λx9=> ?_|refine cZ Vc λYU=> ?_)
  exact aj (.inr rfl) rfl ⟨(),rfl,by rw[es];exact aq.rn (yp vf) (by unfold cR;simp only[bN,Nd.send];exact ah)⟩
end
end Go.Proofs.YtapoehkdnglahabGreat
