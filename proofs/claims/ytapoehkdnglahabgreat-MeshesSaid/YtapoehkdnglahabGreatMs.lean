/- A part. -/
import Derived.Test.YtapoehkdnglahabGreatMr
set_option maxHeartbeats 16000000
set_option maxRecDepth 100000
set_option linter.all false
namespace Go.Proofs.YtapoehkdnglahabGreat
section
open Go.RowKit
theorem Nd.wY (s:Nd) (n k):s.dy (n+1) k=(s.dy n k).drop k:=by
 unfold Nd.dy Nd.drop;simp only[List.replicate_succ',EK]
theorem Nd.D6 (s:Nd) (k):s.dy 0 k=s:=by
 unfold Nd.dy;simp
attribute [local irreducible] WS LS OpQ y6 cn cv Spec bA aK
variable (w0:World)
theorem DK (gn:Nat) (s:Nd) (h:NH) {k b:Nat} {x:Sr} (hx:s.bu[k]? =some x) (hb:h.sb[k]? =some b) (so:l6 s) (ok:aW s.ls) (Lr:s.order.length<=16) (oQ:s.aP.length<=100) (Mh:s.bI.length<=900000) (Dz:0<=s.last/\s.last<=1000000000000) (hl:(s.texts x.dest).length<=100) (ht:∀t∈s.texts x.dest,t.length<=100) (hf:s.Fit ((s.texts x.dest).length+3)):Spec ucC w0 197 [ptr b 0] (bG gn s h) (λ_:Unit=> .tuple #[]) (λ_=>eD gn (s.again k x)):=by
 have rf:=so.each x (jq hx);refine eZ Tryz.func197 Tryz.ntmps197 λG=> ?_;refine mc λtL u7=> ?_;refine BM x.dest u7 λA cap R1 hm _ _=> ?_;obtain⟨F1,e1,e2⟩:=ye gn tL hb hx;have p1:=find_spec w0 h.tb s.self s.ls ok x.dest s.now;have tK:k<s.bu.length:=(az.1 hx).1;cases Hi:bR s.ls x.dest s.now with
 |some y=>
  have es:s.again k x=s.flush x.dest:=by unfold Nd.again;rw[Hi]
  have p2:=w9 w0 gn s h x.dest ok so hl ht (hf.le (by omega));simp only[Hi,fX,fW,bM]at p1;simp only[bG,aY,b7,cw,ba,eu,e1,oB]at p2 ⊢;simp only[aN];repeat' (first|refine aE (id:=1) 0 2 (.range 19) ?_|refine ae (id:=1) (.range 19) 12 [3,7,11] ?_|intro hc|refine yZ ?_|refine aF ?_ ?_|refine zw3 λg=> ?_|refine cZ p1 λx1=> ?_|refine cZ p2 λx2=> ?_)
  exact aj (.inl rfl) rfl ⟨(),rfl,by rw[es];exact ah⟩
 |none=>
  simp only[Hi,fX,fW,bM]at p1;cases Ht:x.out with
  |false=>
   have es:s.again k x=s.ask k x:=by unfold Nd.again;rw[Hi];simp only;rw[eQ (by rw[Ht];exact Bool.false_ne_true)]
   have p2:=wH w0 gn s h hx hb ⟨rf.1,rf.2.1,rf.2.2.1,rf.2.2.2.1⟩ ok Lr oQ Mh Dz (hf.le (by omega));simp only[bG,aY,b7,cw,ba,eu,e1,oB,Ht]at p2 ⊢;simp only[aN];repeat' (first|refine aE (id:=1) 0 2 (.range 19) ?_|refine ae (id:=1) (.range 19) 12 [3,7,11] ?_|intro hc|refine yZ ?_|refine aF ?_ ?_|refine zw3 λg=> ?_|refine cZ p1 λx1=> ?_|refine cZ p2 λx2=> ?_)
   exact aj (.inr rfl) rfl ⟨(),rfl,by rw[es];exact ah⟩
  |true=>
   have Ql:=AG w0 gn b x ⟨rf.1,rf.2.1,rf.2.2.1,rf.2.2.2.1⟩;cases qC:x.iN with
   |some y=>
    have Qd:y.dest=x.dest/\y.name=x.name/\y.out=x.out/\0<=y.bK/\y.bK<=8/\0<=y.aU/\y.aU<=2:=by
     unfold Sr.iN at qC;split at qC
     ·cases qC;simp only;exact⟨trivial,trivial,trivial,by omega,by omega,by omega,by omega⟩
     ·split at qC
      ·cases qC;simp only;exact⟨trivial,trivial,trivial,by omega,by omega,by omega,by omega⟩
      ·split at qC
       ·cases qC;simp only;exact⟨trivial,trivial,trivial,by omega,by omega,by omega,by omega⟩
       ·cases qC
    have es:s.again k x=Nd.ask {s with bu:=s.bu.set k y} k y:=by unfold Nd.again;rw[Hi];simp only;rw[jF Ht,qC]
    have p2:=wH w0 gn {s with bu:=s.bu.set k y} h (show(s.bu.set k y)[k]? =some y by rw[Dg];simp[tK]) hb ⟨Qd.2.2.2.1,Qd.2.2.2.2.1,Qd.2.2.2.2.2.1,Qd.2.2.2.2.2.2⟩ ok Lr oQ Mh Dz ⟨by have:=hf.aJ;show s.out.aJ.length+3<=_;omega,by have:=hf.cj;show s.out.cj.length+3<=_;omega,by have:=hf.dropped;show s.out.dropped.length+3<=_;omega,by have:=hf.aI;show s.aI.length+9*3<=_;omega,by have:=hf.ay;show s.out.ay.length+120*3<=_;omega⟩;have SZ:nR h.sb (s.bu.set k y)=nR h.sb s.bu:=sW (key:=λx:Sr=>x.dest) hx Qd.1;have P2:oR h.sb (s.bu.set k y)=oR h.sb s.bu:=sW (key:=λx:Sr=>x.name) hx Qd.2.1;simp only[qC,uz,CV]at Ql;simp only[bG,aY,b7,cw,ba,eu,e1,e2,SZ,P2,oB,Ht]at p2 Ql ⊢;simp only[aN];repeat' (first|refine aE (id:=1) 0 2 (.range 19) ?_|refine ae (id:=1) (.range 19) 12 [3,7,11] ?_|intro hc|refine yZ ?_|refine aF ?_ ?_|refine zw3 λg=> ?_|refine cZ p1 λx1=> ?_|refine cZ Ql λx3=> ?_|refine cZ p2 λx2=> ?_)
    exact aj (.inr rfl) rfl ⟨(),rfl,by rw[es];exact ah⟩
   |none=>
    obtain⟨N,hN⟩:∃N,N=(s.texts x.dest).length:=⟨_,rfl⟩
    have es:s.again k x=((s.dy N 5).cX x.dest).stop k:=by unfold Nd.again;rw[Hi];simp only;rw[jF Ht,qC,hN]
    rw[<-hN]at hm hl hf;obtain⟨Qo,S6⟩:=Dv h.rw u7 x.dest;simp only[qC,sH,Ju]at Ql;simp only[bG,aY,b7,cw,ba,eu,e1,oB,Ht,eW u7]at Ql ⊢;simp only[aN];repeat' (first|refine aE (id:=1) 0 2 (.range 19) ?_|refine ae (id:=1) (.range 19) 12 [3,7,11] ?_|refine ag (id:=5) (.range 11) ?_|intro hc|refine yZ ?_|refine aF ?_ ?_|refine zw3 λg=> ?_|((first|refine' LQ ?zh rfl ?_|refine' bk rfl rfl ?zh ?_);case zh=>intro F';exact fh rfl rfl iI iI iI iI iI (by assumption))|refine cZ p1 λx1=> ?_|refine cZ Ql λx3=> ?_)
    refine aV (λm τ=>∃(j:Nat) (vd:Value),j+m=N/\τ=⟨[(51,.int .i64 (j:Int)),(50,.int .i64 (N:Int)),(2,ptr gn 0),(0,ptr b 0)],[],yE gn (s.dy j 5) {h with vd:=vd} b x F1*G⟩) ?_ ?_
    ·exact⟨N,_,⟨0,h.vd,by omega,rfl⟩,cG,rfl,by simp only[yE,Nd.D6,b7,cw,oB,Ht,eW u7];exact ah⟩
    ·rintro m τ ⟨j,vd,SQ,rfl⟩;have Zj:(s.dy j 5).out.dropped.length=s.out.dropped.length+j:=by unfold Nd.dy;simp
     have Wi:=Nd.wY s j 5;have Y0:(s.dy j 5).bu=s.bu/\(s.dy j 5).wait=s.wait/\(s.dy j 5).names=s.names:=⟨rfl,rfl,rfl⟩
     have El:=hf.dropped;rcases jP j N with bW|kQ
     ·have p3:=iE w0 gn (s.dy j 5) {h with vd:=vd} 5 (by omega);rw[<-Wi]at p3;have VM:nZ gn h.sb (s.dy (j+1) 5).bu=aK b 247 (oB gn b x)*F1:=e1;have TS:nZ gn h.sb (s.dy j 5).bu=aK b 247 (oB gn b x)*F1:=e1;have IC:(j:Int)<(N:Int):=by omega
      obtain⟨sk,S3⟩:∃sk:Nd,sk=s.dy (j+1) 5:=⟨_,rfl⟩
      rw[<-S3]at p3 VM;clear Wi;generalize s.dy j 5=sj at*
      simp only[bG,aY,b7,cw,ba,eu,TS,VM]at p3;simp only[yE,b7,cw];repeat' (first|intro hc|refine xyZ ?_|refine aF ?_ ?_|refine cZ p3 λYQ=> ?_)
      exact⟨m - 1,_,by omega,⟨j+1,YQ,by omega,rfl⟩,cG,rfl,by rw[<-S3];simp only[yE,b7,cw];exact ah⟩
     ·obtain rfl:j=N:=by omega
      have IC:¬(j:Int)<(j:Int):=by omega
      have Sn:l6 ((s.dy j 5).cX x.dest):=⟨so.aO,so.names,so.each⟩
      have p4:=zT w0 gn ((s.dy j 5).cX x.dest) {h with vd:=vd,wv:=Qo} Sn hx hb;have TS:nZ gn h.sb (s.dy j 5).bu=aK b 247 (oB gn b x)*F1:=e1;have Qc:(s.dy j 5).wait=s.wait:=rfl;generalize s.dy j 5=sj at*
      simp only[bG,aY,b7,cw,ba,eu,Nd.cX,TS,Qc,oB]at p4;simp only[yE,b7,cw,Qc,eW u7,oB];repeat' (first|refine ae (id:=9) (.range 9) 8 [3,7] ?_|intro hc|refine xyZ ?_|refine aF ?_ ?_|((refine' dP ?zh rfl rfl ?_);(case zh=>exact ky rfl rfl iI iI iI iI);intro g)|(refine fJ (aq.two iI iI S6 (aq.refl _)) ?_;refine ai (aa iI rfl p4 iI) rfl ?_;intro x4))
      refine aj (.inl rfl) rfl ⟨(),rfl,?_⟩;rw[es];refine aq.nod {h with vd:=vd,wv:=Qo,sb:=h.sb.eraseIdx k} ?_;simp only[bG,aY,b7,cw,ba,eu,Nd.cX,Qc];exact ah
theorem DS (gn:Nat) (s:Nd) (h:NH) (d:UInt32) (hd:eS s.bu d=none) (so:l6 s) (ok:aW s.ls) (sY:0<=s.names/\s.names<=1000000000000) (Lr:s.order.length<=16) (oQ:s.aP.length<=100) (Mh:s.bI.length<=900000) (Dz:0<=s.last/\s.last<=1000000000000) (hf:s.Fit 3):Spec ucC w0 146 [ptr gn 0,u32 d] (bG gn s h) (λ_:Unit=> .tuple #[]) (λ_=>eD gn ((s.eC d).ask s.bu.length ⟨d,1,0,false,s.names+1⟩)):=by
 refine eZ Tryz.func146 Tryz.ntmps146 λG=> ?_;refine mc λtL u7=> ?_;rw[pa]at hd;have hn:dK (·.name) s.bu (s.names+1)=none:=qJ.2 λx hx=>by have:=(so.each x hx).2.2.2.2;omega
 have hq:=λgb:Nat=>lV (key:=λx:Sr=>x.dest) gb ⟨d,1,0,false,s.names+1⟩ rfl tL hd;have hi:=λgb:Nat=>lV (key:=λx:Sr=>x.name) gb ⟨d,1,0,false,s.names+1⟩ rfl tL hn;have hS:∀gb:Nat,nZ gn (h.sb++[gb]) (s.bu++[⟨d,1,0,false,s.names+1⟩])=aK gb 247 (oB gn gb ⟨d,1,0,false,s.names+1⟩)*Dn gn h.sb s.bu:=λgb=>by
  rw[pR (by simp[tL]),uk,uk,um gb _ tL];rfl
 have p1:=λgb:Nat=>wH w0 gn (s.eC d) {h with sb:=h.sb++[gb]} (k:=s.bu.length) (b:=gb) (x:=⟨d,1,0,false,s.names+1⟩) (by show(s.bu++[_])[s.bu.length]? =_;simp) (by show(h.sb++[gb])[s.bu.length]? =_;rw[<-tL];simp) (by simp) ok Lr oQ Mh Dz ⟨hf.aJ,hf.cj,hf.dropped,hf.aI,hf.ay⟩;simp only[bG,aY,b7,cw,ba,eu,Nd.eC,hS,Pz,Pb,oB]at p1 ⊢;simp only[<-hq,<-hi]at p1;rw[pR tL];simp only[aN];repeat' (first|refine ae (id:=4) (.range 10) 9 [3,7] ?_|intro K hK|refine ax ?_|refine bQ λg=> ?_|refine zgF λg=> ?_|(refine ai (rj rfl) rfl ?_;intro gb;replace p1:=p1 gb)|refine cZ p1 λx2=> ?_)
 exact aj (.inr rfl) rfl ⟨(),rfl,ah⟩
end
section
open Go.RowKit
section
variable {P:Program} {n:fT} {w0:World} {E:Env} {D:List Deferred} {H F:af} {d:Option Tmp} {ty:TypeId} {pos:String} {after:Array Edge} {gu:Option (Tmp×Bool)}
theorem LX {t:Tmp} {f:FuncId} {bound args:List Value} {α:Type} {X:af} {res:α->Value} {post:α->af} {xs:List Operand} {ts:Array TypeId} (hf:aA P f) (ht:E.get t=some (.func (.func f) bound.toArray #[])) (eB:E.mU xs=some args) (spec:Spec P w0 f (bound++args) X res post):y6 P n w0 ⟨d,.call ⟨.value (.tmp t),xs.toArray,ts⟩,ty,pos,after,gu⟩ E X res post:=λG a w K Q s hs hK=>by
 have e:=s.mU eB;have e2:a.eval (.tmp t)= .func (.func f) bound.toArray #[]:=s.ev (x:= .tmp t) ht;have hr:(execOp a.eval ⟨d,.call ⟨.value (.tmp t),xs.toArray,ts⟩,ty,pos,after,gu⟩).run P w= .ok (.enter f (bound++args).toArray) w:=by
  have h:=fI hf (bound++args).toArray w;simp[execOp,resolve,e2,Deferred.ofValue,invoke,e]at h ⊢;exact h
 exact paX
theorem rm {t:Tmp} {f:FuncId} {bound args:List Value} {α:Type} {X:af} {res:α->Value} {post:α->af} {xs:List Operand} {ts:Array TypeId} (hf:aA P f) (ht:E.get t=some (.func (.func f) bound.toArray #[])) (eB:E.mU xs=some args) (spec:Spec P w0 f (bound++args) X res post) (hl:Own H X F):
 cn P n w0 ⟨d,.call ⟨.value (.tmp t),xs.toArray,ts⟩,ty,pos,after,gu⟩ E H res (λx=>post x*F):=cn.mk' (LX hf ht eB spec) hl.eq
end
structure Nd.DH (s t:Nd) (now:UInt64) (j:Nat):Prop where
 inv:t.Inv
 sw:t.dE
 AX:t.now=now
 step:s.Step t (5*j) j
 due:iq now t.bI+j=iq now s.bI
 bI:t.bI.length<=s.bI.length
 last:s.last<=t.last/\t.last<=s.last+j
 names:t.names=s.names
theorem Nd.DH.next {s t u:Nd} {now:UInt64} {j} (h:s.DH t now j) (hs:t.step now=some u) (hb:now.toNat<=4611686018427387904):s.DH u now (j+1):=by
 have k:=Nd.nu hs h.inv h.sw h.AX hb;exact⟨k.inv,k.sw,k.step.now.trans h.AX,(h.step.trans k.step).le (by omega) (by omega),by have:=k.due;have:=h.due;omega,by have:=k.bI;have:=h.bI;omega,by have:=k.last;have:=h.last;omega,k.names.trans h.names⟩
theorem Nd.zW {s:Nd} {now:UInt64} (hb:now.toNat<=4611686018427387904):∀(f:Nat) (t:Nd) (j:Nat),s.DH t now j->iq now t.bI<f->∃i,s.DH (t.gT f now) now i/\(t.gT f now).step now=none
 |0,t,j,_,h=>absurd h (ua8 _)
 |f+1,t,j,hr,hf=>by
  unfold Nd.gT;cases hs:t.step now with
  |none=>exact⟨j,hr,hs⟩
  |some u=>
   have k:=Nd.nu hs hr.inv hr.sw hr.AX hb;exact Nd.zW hb f u (j+1) (hr.next hs hb) (by have:=k.due;omega)
def Nd.tick (s:Nd) (now:UInt64):Nd:=s.gT (iq now s.bI+1) now
structure Nd.FA (s:Nd) (now:UInt64):Prop where
 inv:s.Inv
 sw:s.dE
 AX:s.now=now
 small:now.toNat<=4611686018427387904
 bI:s.bI.length<=8500
 last:0<=s.last/\s.last<=900000000000
 aJ:s.out.aJ.length<=1000
 cj:s.out.cj.length<=1000
 dropped:s.out.dropped.length<=1000
 aI:s.aI.length<=1000
 ay:s.out.ay.length<=10000
theorem Nd.DH.zero {s:Nd} {now} (h:s.FA now):s.DH s now 0:=⟨h.inv,h.sw,h.AX,Nd.Step.zero rfl rfl rfl rfl,rfl,uL _,⟨Int.le_refl _,by omega⟩,rfl⟩
theorem Nd.sO {s:Nd} {now} (h:s.FA now):∃i,i<=s.bI.length/\s.DH (s.tick now) now i:=by
 obtain⟨i,h1,_⟩:=Nd.zW h.small (iq now s.bI+1) s 0 (Nd.DH.zero h) (by omega);refine⟨i,?_,h1⟩;have:=h1.due;have:=Av now s.bI;omega
attribute [local irreducible] WS LS OpQ y6 cn cv Spec bA aK
variable (w0:World)
theorem ZK (gn) (s:Nd) (now) (hr:s.FA now) (bn bw tn tw):Spec ucC w0 142 [ptr bn 0,ptr bw 0] (eD gn s*(aK bn tn [ptr gn 0]*aK bw tw [u64 now])) (λ_:Unit=> .tuple #[]) (λ_=>eD gn (s.tick now)*emp):=by
 refine eZ Tryz.func142 Tryz.ntmps142 λG=> ?_;rw[ad (eD gn s),ad (aK bn tn _)];simp only[aN];refine oG ?_;refine aV (λm τ=>∃(sj:Nd) (j:Nat),s.DH sj now j/\iq now sj.bI=m/\sj.gT (m+1) now=s.tick now/\τ=⟨[(0,ptr bn 0),(0+1,ptr bw 0)],[],eD gn sj*(aK bn tn [ptr gn 0]*(aK bw tw [u64 now]*G))⟩) ?_ ?_
 ·exact⟨_,_,⟨s,0,Nd.DH.zero hr,rfl,rfl,rfl⟩,cG,rfl,aq.refl _⟩
 ·rintro m τ ⟨sj,j,hR,hm,hT,rfl⟩;refine wA λh=> ?_;have Ng:j<=s.bI.length:=by have:=hR.due;have:=Av now s.bI;omega
  have Dy:=hr.bI;have Xu:=hR.bI;cases jf:sj.step now with
  |none=>
   have e:sj=s.tick now:=by rw[<-hT,Nd.gT,jf]
   have p1:=DY w0 h.cb h.cr sj.last sj.bI now (Nd.Io jf);simp only[bG,aY,b7,cw,ba,eu];repeat' (first|refine ae (id:=0) (.range 11) 5 [0,3,4] ?_|intro hc|refine xyZ ?_|refine aF ?_ ?_|refine cZ p1 λx1=> ?_)
   refine aj (.inl rfl) rfl ⟨(),rfl,?_⟩;rw[<-e,ad (eD _ _)];refine aq.nod h ?_;simp only[bG,aY,b7,cw,ba,eu];exact ah
  |some t=>
   have Ca:=hR.next jf hr.small;have Ox:=(Nd.nu jf hR.inv hR.sw hR.AX hr.small).due;have VQ:t.gT m now=s.tick now:=by rw[<-hT,Nd.gT,jf]
   obtain⟨m',rfl⟩:∃m',m=m'+1:=⟨m - 1,by omega⟩
   unfold Nd.step at jf;cases Mg:gN sj.bI now sj.bI.length with
   |none=>rw[Mg]at jf;cases jf
   |some i=>
    rw[Mg]at jf;simp only at jf;have p1:=DZ w0 h.cb h.cr sj.last sj.bI now Mg (by omega);generalize (cJ sj.bI i).km=wh at*
    have hle:(sj.bI.eraseIdx i).length<=sj.bI.length:=by rw[NV];split<;>omega
    refine mc λtL u7=> ?_;cases sY:nP sj.bu wh with
    |none=>
     rw[sY]at jf;cases jf;rw[CO]at sY;have V9:bX (oR h.sb sj.bu) wh=none:=iC (key:=λx:Sr=>x.name) tL sY;simp only[bG,aY,b7,cw,ba,eu];repeat' (first|refine ae (id:=0) (.range 11) 5 [0,3,4] ?_|intro hc|refine xyZ ?_|refine aF ?_ ?_|refine zgT ?_|refine zw1 ?_|refine cZ p1 λx1=> ?_)
     refine⟨m',_,by omega,⟨_,_,Ca,by omega,VQ,rfl⟩,cG,rfl,?_⟩;refine aq.nod h ?_;simp only[bG,aY,b7,cw,ba,eu];exact ah
    |some k=>
     rw[sY]at jf;rw[CO]at sY;simp only at jf;obtain⟨x,hx,Hs⟩:=fQ sY;obtain⟨b,hb⟩:∃b,h.sb[k]? =some b:=⟨_,aX (by rw[tL];exact(az.1 hx).1)⟩
     rw[hx]at jf;simp only[Z9]at jf;have V9:bX (oR h.sb sj.bu) wh=some b:=iD (key:=λx:Sr=>x.name) tL sY hb;obtain⟨F1,e1,_⟩:=ye gn tL hb hx;have Cm:=gS hR.inv x.dest;have V4:=hR.last;have yz:=hr.last;have pY:Nd.Fit {sj with bI:=sj.bI.eraseIdx i} (Nd.texts {sj with bI:=sj.bI.eraseIdx i} x.dest).length.succ.succ.succ:=by
      have ks:sj.Step {sj with bI:=sj.bI.eraseIdx i} 0 0:=Nd.Step.zero rfl rfl rfl rfl;have h1:=hr.aJ;have h2:=hr.cj;have h3:=hr.dropped;have h4:=hr.aI;have h5:=hr.ay;have h6:(Nd.texts {sj with bI:=sj.bI.eraseIdx i} x.dest).length<=4:=Cm.1;exact Nd.Step.fit (hR.step.trans ks) (by omega) (by omega) (by omega) (by omega) (by omega)
     have p2:=DK w0 gn {sj with bI:=sj.bI.eraseIdx i} h hx hb (hR.inv.bI _).sr hR.inv.dp.dp hR.inv.order (by have:=hR.inv.aP;show sj.aP.length<=100;omega) (by show(sj.bI.eraseIdx i).length<=_;omega) (by show 0<=sj.last/\sj.last<=_;omega) (by have h6:(Nd.texts {sj with bI:=sj.bI.eraseIdx i} x.dest).length<=4:=Cm.1;omega) (λt ht=>by have:=Cm.2 t ht;omega) pY;rw[jf]at p2;simp only[bG,aY,b7,cw,ba,eu,e1,oB]at p2 ⊢;repeat' (first|refine ae (id:=0) (.range 11) 5 [0,3,4] ?_|intro hc|refine xyZ ?_|refine aF ?_ ?_|refine zhw ?_|refine zw1 ?_|refine cZ p1 λx1=> ?_|(refine ai (rm iI rfl rfl p2 iI) rfl ?_;intro x2))
     exact⟨m',_,by omega,⟨_,_,Ca,by omega,VQ,rfl⟩,cG,rfl,ah⟩
end
section
theorem Fg {l k q} (h:zbA l k=some q):∃r∈l,r.norm.key=k:=by
 induction l using eE generalizing q with
 |nil=>cases h
 |snoc l r ih=>
  rw[lY]at h;by_cases e:r.norm.key=k
  ·exact⟨r,by simp,e⟩
  ·rw[eQ e]at h;obtain⟨x,hx,hk⟩:=ih h;exact⟨x,by simp[hx],hk⟩
theorem tu {l} {x:Rec} (h:x∈cC l):x.norm=x/\∃r∈l,r.own=x.own/\(x.own=false->r.addr=x.addr):=by
 have ho:=jD l;obtain⟨h1,h2⟩:=(lB ho).1 h;rw[lQ]at h2;obtain⟨r,hr,hk⟩:=Fg h2;refine⟨h1,r,hr,?_⟩;obtain⟨k1,k2⟩:=(Rec.oT (Rec.pK r) h1).1 hk;have e1:r.norm.own=r.own:=rfl;rw[e1]at k1;refine⟨k1,λhx=> ?_⟩;have:r.norm.addr=r.addr:=by show(if r.own then 0 else r.addr)=r.addr;rw[k1,hx];rfl
 rw[<-this];exact k2
theorem BV {l} {D:List UInt32} (h:∀r∈l,r.own=true\/r.addr∈D):(cC l).length<=D.length+1:=by
 have ho:=jD l;let f:Rec->Option UInt32:=λr=>if r.own then none else some r.addr
 have hn:((cC l).map f).Nodup:=by
  rw[ZS]at*
  rw[ZY];refine(ucq.1 ho.fH).imp ?_;rintro a b ⟨ha,hb,bW⟩ e;have na:=ho.norm a ha;have nb:=ho.norm b hb;have key:a.own=b.own/\a.addr=b.addr:=by
   simp only[f]at e;cases VS:a.own<;>cases VT:b.own<;>simp[VS,VT]at e
   ·exact⟨rfl,e⟩
   ·refine⟨rfl,?_⟩;have e1:a.norm.addr=0:=by show(if a.own then 0 else a.addr)=0;rw[VS];rfl
    have e2:b.norm.addr=0:=by show(if b.own then 0 else b.addr)=0;rw[VT];rfl
    rw[na]at e1;rw[nb]at e2;rw[e1,e2]
  exact tP na nb bW ((Rec.oT na nb).2 key)
 have hs:∀x∈(cC l).map f,x∈none::D.map some:=by
  intro x hx;obtain⟨r,hr,rfl⟩:=HC.1 hx;obtain⟨_,r',Hn,k1,k2⟩:=tu hr;simp only[f];cases S2:r.own with
  |true=>simp
  |false=>
   rcases h r' Hn with h'|h'
   ·rw[k1,S2]at h';cases h'
   ·rw[k2 S2]at h';simp[h']
 have:=ubF hn hs;simpa using this
def Nd.iH (s:Nd) (now:UInt64):Nd:=((s.begin now).tick now).done
def Nd.iX (s:Nd) (now:UInt64) (src:UInt32) (f:cP):Nd:=((s.begin now).mb now src f).done
def Nd.l7 (s:Nd) (now:UInt64) (nb:UInt32):Nd:=((s.begin now).brk nb).done
def Nd.iG (s:Nd) (now:UInt64) (d:UInt32) (t:cP):Nd:=((s.begin now).ea d t).done
structure Nd.Rest (s:Nd) (c:Nat):Prop where
 inv:s.Inv
 aI:s.aI.length<=24
 names:0<=s.names/\s.names<=c
 bI:s.bI.length<=c
 last:0<=s.last/\s.last<=c*10000
theorem Nd.Inv.begin {s:Nd} (h:s.Inv) (now):(s.begin now).Inv:=by
 unfold Nd.begin;refine Nd.Inv.note ?_;exact h.to (h.dp.exp now) rfl rfl h.order rfl h.aP rfl (λd hd=>by rw[zc];exact hd)
theorem Nd.BR {s:Nd} (h:s.Inv) (now):(s.begin now).dE:=Nd.EV _ (h.dp.exp now).dp
theorem Nd.zaa (s:Nd) (now):(s.begin now).now=now/\(s.begin now).bI=s.bI/\(s.begin now).last=s.last/\(s.begin now).names=s.names/\(s.begin now).wait=s.wait/\(s.begin now).bu=s.bu:=by
 have h:=Nd.fz.note {s with now:=now,out:=dS.zero,ls:=mE now s.ls};exact⟨h.now,h.bI,h.last,h.names,h.wait,h.bu⟩
theorem Hw {s:Nd} (h:s.Inv):(cE s.ls).length<=8:=WA (iO _) h.dp.dp.short
theorem Nd.Rest.ready {s:Nd} {c} (h:s.Rest c) (hc:c<=8500) {now:UInt64} (hn:now.toNat<=4611686018427387904):(s.begin now).FA now:=by
 obtain⟨e1,e2,e3,e4,e5,e6⟩:=s.zaa now;have h1:=Nd.fL s now h.inv.dp.dp;have h2:=Nd.fK s now h.inv.dp.dp;have h3:=h.aI;have h4:=h.bI;have h5:=h.last;exact⟨h.inv.begin now,Nd.BR h.inv now,e1,hn,by rw[e2];omega,by rw[e3];omega,by rw[Nd.lk];simp,by rw[Nd.wM];simp,by rw[Nd.mC];simp,by omega,by omega⟩
theorem Nd.tC {s:Nd} (h:s.Inv):s.done.Inv/\s.done.aI.length<=24/\s.done.bI=s.bI/\s.done.last=s.last/\s.done.names=s.names:=by
 have hn:=h.note;have hm:=Nd.fz.note s;unfold Nd.done;split
 ·refine⟨?_,?_,hm.bI,hm.last,hm.names⟩
  ·refine⟨hn.dp,⟨hn.sr.aO,hn.sr.names,hn.sr.each⟩,hn.order,hn.wait,hn.aP,λr hr=> ?_⟩;obtain⟨_,r',Hn,k1,k2⟩:=tu hr;rcases hn.aI r' Hn with h'|h'
   ·exact .inl (k1▸h')
   ·cases S2:r.own with
    |true=>exact .inl rfl
    |false=>exact .inr (k2 S2▸h')
  ·have:=BV hn.aI;have h8:=hn.dp.dp.short;simp only[aO,Hu]at this;show(cC s.note.aI).length<=24;omega
 ·exact⟨hn,by omega,hm.bI,hm.last,hm.names⟩
structure Nd.Still (s t:Nd):Prop where
 bI:t.bI=s.bI
 last:t.last=s.last
 names:t.names=s.names
theorem Nd.Rest.still {s t:Nd} {c:Nat} {now:UInt64} (h:s.Rest c) (hi:t.Inv) (hs:(s.begin now).Still t):t.done.Rest c:=by
 obtain⟨k1,k2,k3,k4,k5⟩:=Nd.tC hi;obtain⟨e1,e2,e3,e4,e5,e6⟩:=s.zaa now;exact⟨k1,k2,by rw[k5,hs.names,e4];exact h.names,by rw[k3,hs.bI,e2];exact h.bI,by rw[k4,hs.last,e3];exact h.last⟩
theorem Nd.Still.trans {s t u:Nd} (h:s.Still t) (k:t.Still u):s.Still u:=⟨k.bI.trans h.bI,k.last.trans h.last,k.names.trans h.names⟩
theorem Nd.Still.aT (s:Nd) (r):s.Still (s.aT r):=by
 unfold Nd.aT;dsimp only;split<;>exact⟨rfl,rfl,rfl⟩
theorem Nd.Still.answer (s:Nd) (p):s.Still (s.answer p):=by
 unfold Nd.answer;split<;>exact⟨rfl,rfl,rfl⟩
theorem Nd.Still.gR (s:Nd) (p):s.Still (s.gR p):=by
 unfold Nd.gR;repeat' split
 all_goals exact⟨rfl,rfl,rfl⟩
theorem Nd.Still.jy (s:Nd) (p):s.Still (s.jy p):=by
 unfold Nd.jy;split
 ·have:=λq=>Nd.Still.answer {s with seq:=q};exact⟨(this _ _).bI,(this _ _).last,(this _ _).names⟩
 ·split
  ·split
   ·have:=λl=>Nd.Still.answer {s with ls:=l};exact⟨(this _ _).bI,(this _ _).last,(this _ _).names⟩
   ·exact Nd.Still.gR _ _
  ·exact Nd.Still.gR _ _
theorem Nd.Still.drop (s:Nd) (k):s.Still (s.drop k):=⟨rfl,rfl,rfl⟩
theorem Nd.Still.send (s:Nd) (to p):s.Still (s.send to p):=⟨rfl,rfl,rfl⟩
theorem Nd.Still.ls (s:Nd) (l):s.Still {s with ls:=l}:=⟨rfl,rfl,rfl⟩
theorem Nd.Still.qd (s:Nd) (src p):s.Still (s.qd src p):=by
 unfold Nd.qd;split
 ·exact⟨rfl,rfl,rfl⟩
 ·simp only;have h1:=Nd.Still.aT s ⟨p.from_,p.id⟩;generalize s.aT ⟨p.from_,p.id⟩=s1 at*
  split
  ·exact h1.trans ⟨rfl,rfl,rfl⟩
  ·exact h1.trans ((Nd.Still.ls s1 _).trans (Nd.Still.jy _ _))
theorem Nd.Still.flush (s:Nd) (d):s.Still (s.flush d):=by
 obtain⟨h1,h2,h3⟩:=Nd.zj s d;exact⟨h1,h2,h3⟩
theorem Nd.Still.lost (s:Nd) (l):s.Still (s.lost l):=by
 unfold Nd.lost;split<;>exact⟨rfl,rfl,rfl⟩
theorem Nd.Still.xC (s:Nd) (src p):s.Still (s.xC src p):=by
 have h:=(Nd.Still.ls s (bV src s.ls p.lost).1).trans (Nd.Still.lost _ (bV src s.ls p.lost).2.1);unfold Nd.xC;simp only;split
 ·exact h
 ·exact h.trans ⟨rfl,rfl,rfl⟩
theorem Nd.Still.ov (s:Nd) (src p):s.Still (s.ov src p):=by
 unfold Nd.ov;repeat' split
 all_goals exact⟨rfl,rfl,rfl⟩
theorem Nd.Still.rep (s:Nd) (src p):s.Still (s.rep src p):=by
 unfold Nd.rep;split
 ·exact Nd.Still.drop _ _
 ·simp only;split
  ·exact(Nd.Still.ls s _).trans (Nd.Still.drop _ _)
  ·split
   ·have h2:∀l:List Ln,s.Still (if(bR l p.dest s.now).isSome then Nd.flush {s with ls:=l} p.dest else {s with ls:=l}):=λl=>by
     split
     ·exact(Nd.Still.ls s l).trans (Nd.Still.flush _ _)
     ·exact Nd.Still.ls s l
    split
    ·exact(h2 _).trans (Nd.Still.drop _ _)
    ·exact h2 _
   ·split
    ·split<;>exact(Nd.Still.ls s _).trans (Nd.Still.drop _ _)
    ·split
     ·exact(Nd.Still.ls s _).trans (Nd.Still.drop _ _)
     ·exact((Nd.Still.ls s _).trans (Nd.Still.send _ _ _)).trans (Nd.Still.ls _ _)
theorem Nd.Still.handle (s:Nd) (src p):s.Still (s.handle src p):=by
 unfold Nd.handle;repeat' split
 ·exact Nd.Still.qd _ _ _
 ·exact Nd.Still.rep _ _ _
 ·exact Nd.Still.xC _ _ _
 ·exact Nd.Still.ov _ _ _
theorem Nd.Still.mb (s:Nd) (now src f):s.Still (s.mb now src f):=by
 have hq:s.Still (s.gQ now src f):=by
  unfold Nd.gQ;split
  ·exact Nd.Still.drop _ _
  ·split
   ·exact Nd.Still.drop _ _
   ·split
    ·constructor<;>simp only[Nd.drop,Nd.tell,Nd.send]
    ·exact Nd.Still.drop _ _
 unfold Nd.mb;split
 ·exact hq
 ·split
  ·exact hq
  ·exact Nd.Still.handle _ _ _
theorem Nd.Rest.tick {s:Nd} {c} (h:s.Rest c) (hc:c<=8500) {now:UInt64} (hn:now.toNat<=4611686018427387904):(s.iH now).Rest (c+1):=by
 have hr:=h.ready hc hn;obtain⟨i,hi,hR⟩:=Nd.sO hr;obtain⟨k1,k2,k3,k4,k5⟩:=Nd.tC hR.inv;obtain⟨e1,e2,e3,e4,e5,e6⟩:=s.zaa now;have h1:=hR.bI;have h2:=hR.last;have h3:=hR.names;have h4:=h.names;have h5:=h.bI;have h6:=h.last;rw[e2]at h1 hi;rw[e3]at h2;rw[e4]at h3;unfold Nd.iH;exact⟨k1,k2,by rw[k5,h3];omega,by rw[k3];omega,by rw[k4];omega⟩
theorem Nd.Rest.brk {s:Nd} {c} (h:s.Rest c) (now nb):(s.l7 now nb).Rest c:=by
 refine h.still (now:=now) ((h.inv.begin now).brk nb) ?_;exact(Nd.Still.ls _ _).trans (Nd.Still.lost _ _)
theorem Pk.rN {f} {p:Pk} (h:Pk.dec f=some p):p.Read:=by
 obtain⟨⟨⟨h1,h2,h3,h4,h5,h6⟩,hk⟩,_⟩:=Pk.oM h;exact⟨⟨h1,h2⟩,by unfold cM;rcases hk with hk|hk|hk|hk<;>(rw[hk.1];decide),⟨h3,h4⟩,by omega,by omega⟩
theorem Nd.Rest.mb {s:Nd} {c} (h:s.Rest c) (now src f):(s.iX now src f).Rest c:=by
 refine h.still (now:=now) ?_ (Nd.Still.mb _ _ _ _);have hb:=h.inv.begin now;unfold Nd.mb;split
 ·exact hb.gQ _ _ _
 ·rename_i p hp;split
  ·exact hb.gQ _ _ _
  ·exact hb.handle _ _ (Pk.rN hp).aH
theorem HE {κ ν} [DecidableEq κ] {m:List (κ×ν)} {k v p} (h:p∈bY m k v):p∈m\/p=(k,v):=by
 unfold bY at h;split at h
 ·exact W7 h
 ·rcases Lz.1 h with h|h
  ·exact .inl h
  ·simp at h;exact .inr h
theorem Nd.Inv.put {s:Nd} (h:s.Inv) (d) (l:List cP) (hl:l.length<=4) (ht:∀t∈l,t.length<=16):Nd.Inv {s with wait:=bY s.wait d l}:=⟨h.dp,⟨h.sr.aO,h.sr.names,h.sr.each⟩,h.order,λw hw=>by
 rcases HE hw with hw|rfl
 ·exact h.wait w hw
 ·exact⟨hl,ht⟩,h.aP,h.aI⟩
def Nd.roomFor (s:Nd) (d:UInt32):Nd:=if(s.texts d).length=4 then Nd.drop {s with wait:=bY s.wait d ((s.texts d).drop 1)} 6 else s
def Nd.put (s:Nd) (d:UInt32) (t:cP):Nd:={s with wait:=bY s.wait d (s.texts d++[t])}
def Nd.nE (s:Nd) (d:UInt32):Nd:=Nd.ask (s.eC d) s.bu.length ⟨d,1,0,false,s.names+1⟩
theorem Nd.o6 (s:Nd) (d:UInt32) (t:cP):s.ea d t=if(bR s.ls d s.now).isSome then s.hand d t else match eS ((s.roomFor d).put d t).bu d with
 |some _=>(s.roomFor d).put d t
 |none=>((s.roomFor d).put d t).nE d:=rfl
theorem Nd.qn (s:Nd) (d) (h:(s.texts d).length<=4):((s.roomFor d).texts d).length<=3/\∀t∈(s.roomFor d).texts d,t∈s.texts d:=by
 unfold Nd.roomFor;split
 ·rename_i h4;have e:Nd.texts (Nd.drop {s with wait:=bY s.wait d ((s.texts d).drop 1)} 6) d=(s.texts d).drop 1:=by
   show(bX (bY s.wait d ((s.texts d).drop 1)) d).getD []=_;rw[fo,jF rfl];rfl
  rw[e];exact⟨by simp;omega,λt ht=>ubN ht⟩
 ·exact⟨by omega,λt ht=>ht⟩
theorem Nd.Inv.roomFor {s:Nd} (h:s.Inv) (d):(s.roomFor d).Inv:=by
 obtain⟨h1,h2⟩:=gS h d;unfold Nd.roomFor;split
 ·exact(h.put d _ (by simp;omega) (λt ht=>h2 t (ubN ht))).drop _
 ·exact h
theorem Nd.Inv.Vd {s:Nd} (h:s.Inv) (d) (t:cP) (hl:(s.texts d).length<=3) (ht:t.length<=16):(s.put d t).Inv:=by
 obtain⟨h1,h2⟩:=gS h d;refine Nd.Inv.put h d _ (by simp;omega) λx hx=> ?_;rcases Lz.1 hx with hx|hx
 ·exact h2 x hx
 ·simp at hx;subst hx;exact ht
theorem Nd.HF (s:Nd) (d):(s.eC d).bu[s.bu.length]? =some ⟨d,1,0,false,s.names+1⟩:=by simp[Nd.eC]
theorem Nd.Inv.nE {s:Nd} (h:s.Inv) (d) (hd:eS s.bu d=none) (h0:0<=s.names):(s.nE d).Inv:=by
 unfold Nd.nE;exact(h.eC d hd h0).ask (s.HF d)
theorem Nd.kM (s:Nd) (d):(s.roomFor d).names=s.names/\(s.roomFor d).bI=s.bI/\(s.roomFor d).last=s.last/\(s.roomFor d).bu=s.bu/\(s.roomFor d).now=s.now/\(s.roomFor d).ls=s.ls/\(s.roomFor d).self=s.self/\(s.roomFor d).held=s.held/\(s.roomFor d).cd=s.cd/\(s.roomFor d).aP=s.aP/\(s.roomFor d).seq=s.seq/\(s.roomFor d).out.aJ=s.out.aJ/\(s.roomFor d).aI=s.aI:=by
 unfold Nd.roomFor;split<;>exact⟨rfl,rfl,rfl,rfl,rfl,rfl,rfl,rfl,rfl,rfl,rfl,rfl,rfl⟩
theorem Nd.Inv.ea {s:Nd} (h:s.Inv) (d) (t:cP) (ht:t.length<=16) (h0:0<=s.names):(s.ea d t).Inv:=by
 rw[Nd.o6];split
 ·exact h.hand _ _
 ·have h1:=(h.roomFor d).Vd d t (Nd.qn s d (gS h d).1).1 ht;split
  ·exact h1
  ·rename_i hs;exact h1.nE d hs (by show 0<=(s.roomFor d).names;rw[(s.kM d).1];exact h0)
theorem Nd.Step.roomFor (s:Nd) (d):s.Step (s.roomFor d) 1 0:=by
 unfold Nd.roomFor;split
 ·exact((Nd.Step.zero (s:=s) (t:={s with wait:=bY s.wait d ((s.texts d).drop 1)}) rfl rfl rfl rfl).trans (Nd.Step.drop _ _)).le (by omega) (by omega)
 ·exact pa0
theorem Nd.Step.put (s:Nd) (d t):s.Step (s.put d t) 0 0:=Nd.Step.zero rfl rfl rfl rfl
theorem Nd.Step.nE (s:Nd) (d):s.Step (s.nE d) 1 (1+(cE s.ls).length):=
 ((Nd.Step.zero (s:=s) (t:=s.eC d) rfl rfl rfl rfl).trans (Nd.Step.ask (s.eC d) s.bu.length ⟨d,1,0,false,s.names+1⟩)).le (by omega) (by show 0+(1+(cE s.ls).length)<=_;omega)
theorem Nd.Step.ea (s:Nd) (d t):s.Step (s.ea d t) 2 (1+(cE s.ls).length):=by
 rw[Nd.o6];split
 ·exact(Nd.Step.hand _ _ _).le (by omega) (by omega)
 ·have h1:=(Nd.Step.roomFor s d).trans (Nd.Step.put _ d t);split
  ·exact h1.le (by omega) (by omega)
  ·have h2:=h1.trans (Nd.Step.nE ((s.roomFor d).put d t) d);have e:((s.roomFor d).put d t).ls=s.ls:=(s.kM d).2.2.2.2.2.1;rw[e]at h2;exact h2.le (by omega) (by omega)
theorem Nd.Il (s:Nd) (d t) {now:UInt64} (hn:s.now=now) (hb:now.toNat<=4611686018427387904):(s.ea d t).bI.length<=s.bI.length+1/\s.last<=(s.ea d t).last/\(s.ea d t).last<=s.last+1/\s.names<=(s.ea d t).names/\(s.ea d t).names<=s.names+1:=by
 rw[Nd.o6];split
 ·have h:=Nd.uB s d [t];simp only[Nd.bg,Uq,uah]at h;rw[h.1,h.2.1,h.2.2];omega
 ·obtain⟨e1,e2,e3,e4,e5,_⟩:=s.kM d;split
  ·show(s.roomFor d).bI.length<=_/\_<=(s.roomFor d).last/\(s.roomFor d).last<=_/\_<=(s.roomFor d).names/\(s.roomFor d).names<=_;rw[e1,e2,e3];omega
  ·have hM:=Nd.wG (((s.roomFor d).put d t).eC d) ((s.roomFor d).put d t).bu.length ⟨d,1,0,false,((s.roomFor d).put d t).names+1⟩ (by simp) (now:=now) (by show(s.roomFor d).now=now;rw[e5,hn]) hb;obtain⟨⟨E,m1,m2,m3,m4⟩,m5⟩:=hM;have c1:(((s.roomFor d).put d t).eC d).bI=s.bI:=e2;have c2:(((s.roomFor d).put d t).eC d).last=s.last:=e3;have c3:(((s.roomFor d).put d t).eC d).names=s.names+1:=by show(s.roomFor d).names+1=_;rw[e1]
   rw[c1]at m1;rw[c2]at m4;rw[c3]at m5;unfold Nd.nE;rw[m1,m4,m5,pU];omega
theorem Nd.Rest.send {s:Nd} {c} (h:s.Rest c) {now:UInt64} (hn:now.toNat<=4611686018427387904) (d) (t:cP) (ht:t.length<=16):(s.iG now d t).Rest (c+1):=by
 obtain⟨e1,e2,e3,e4,e5,e6⟩:=s.zaa now;have hi:=(h.inv.begin now).ea d t ht (by rw[e4];exact h.names.1);obtain⟨k1,k2,k3,k4,k5⟩:=Nd.tC hi;obtain⟨h1,h2,h3,h4,h5⟩:=Nd.Il (s.begin now) d t e1 hn;have g1:=h.names;have g2:=h.bI;have g3:=h.last;rw[e2]at h1;rw[e3]at h2 h3;rw[e4]at h4 h5;unfold Nd.iG;exact⟨k1,k2,by rw[k5];omega,by rw[k3];omega,by rw[k4];omega⟩
theorem Nd.Step.KW {s:Nd} (h:s.Inv) (d t):s.Step (s.ea d t) 2 9:=(Nd.Step.ea s d t).le (uL _) (by have:=Hw h;omega)
theorem Nd.tD (s:Nd):s.done.self=s.self/\s.done.ls=s.ls/\s.done.cd=s.cd/\s.done.bu=s.bu/\s.done.aP=s.aP/\s.done.seq=s.seq/\s.done.last=s.last/\s.done.out.aJ=s.out.aJ/\s.done.wait=s.wait/\s.done.now=s.now/\s.done.seen=s.seen/\s.done.order=s.order/\s.done.bI=s.bI/\s.done.names=s.names/\s.done.ids=s.ids/\s.done.ff=s.ff/\s.done.out.cj=s.out.cj/\s.done.out.dropped=s.out.dropped:=by
 have m:=Nd.fz.note s;unfold Nd.done;split<;>exact⟨m.self,m.ls,m.cd,m.bu,m.aP,m.seq,m.last,m.aJ,m.wait,m.now,m.seen,m.order,m.bI,m.names,m.ids,m.ff,m.cj,m.dropped⟩
theorem Nd.Rest.mono {s:Nd} {c d} (h:s.Rest c) (hd:c<=d):s.Rest d:=⟨h.inv,h.aI,⟨h.names.1,by have:=h.names.2;omega⟩,by have:=h.bI;omega,⟨h.last.1,by have:=h.last.2;omega⟩⟩
theorem Nd.zbx {s:Nd} {c} {now:UInt64} (h:s.Rest c) (hc:c<=8500) (hn:now.toNat<=4611686018427387904):(s.iH now).out.aJ.length<=42500:=by
 have hR:=h.ready hc hn;obtain⟨i,hi,hT⟩:=Nd.sO hR;have h1:=hT.step.aJ;have h2:=hR.bI;rw[Nd.lk]at h1;obtain⟨_,_,_,_,_,_,_,e8,_⟩:=((s.begin now).tick now).tD;unfold Nd.iH;rw[e8];simp at h1;omega
theorem Nd.za7 (s:Nd) (now d t):(s.iG now d t).out.aJ.length<=2:=by
 have h1:=(Nd.Step.ea (s.begin now) d t).aJ;rw[Nd.lk]at h1;obtain⟨_,_,_,_,_,_,_,e8,_⟩:=((s.begin now).ea d t).tD;unfold Nd.iG;rw[e8];simpa using h1
theorem Nd.DU (self b now):(Nd.bO self b now).Inv:=by
 unfold Nd.bO;split
 ·exact⟨dx.new _ _,⟨ua1,ua1,λx hx=>(by cases hx)⟩,(by simp[Nd.blank]),λw hw=>(by cases hw),(by simp[Nd.blank]),λr hr=>(by cases hr)⟩
 ·exact⟨dx.nil,⟨ua1,ua1,λx hx=>(by cases hx)⟩,(by simp[Nd.blank]),λw hw=>(by cases hw),(by simp[Nd.blank]),λr hr=>(by cases hr)⟩
theorem Nd.xM (self b now):(Nd.bO self b now).fz (Nd.new self b now):=(Nd.fz.write _ _).trans (Nd.fz.note _)
theorem Nd.xL (self b now):(Nd.new self b now).Rest 0:=by
 have h0:=Nd.DU self b now;have h1:=h0.write ⟨true,0,(Nd.bO self b now).seq⟩ (.inl rfl);have m:=Nd.xM self b now;have hr:=Nd.nj ((Nd.bO self b now).write ⟨true,0,(Nd.bO self b now).seq⟩) h1.dp.dp;have hb:(Nd.bO self b now).aI=[]/\(Nd.bO self b now).names=0/\(Nd.bO self b now).bI=[]/\(Nd.bO self b now).last=0:=by
  unfold Nd.bO;split<;>exact⟨rfl,rfl,rfl,rfl⟩
 obtain⟨b1,b2,b3,b4⟩:=hb;have e:((Nd.bO self b now).write ⟨true,0,(Nd.bO self b now).seq⟩).aI.length=1:=by
  show((Nd.bO self b now).aI++[_]).length=1;rw[b1];rfl
 rw[e]at hr;refine⟨?_,?_,?_,?_,?_⟩
 ·exact h1.note
 ·show(Nd.note _).aI.length<=24;omega
 ·rw[m.names,b2];simp
 ·rw[m.bI,b3];simp
 ·rw[m.last,b4];simp
structure Zr where
 addr:UInt32
 node:Option Nd
 ay:cP
 Zw:Int
 ZL:Bool
structure Fl where
 src:Nat
 dst:Nat
 bytes:cP
structure Ev where
 node:Int
 err:Int
 out:dS
structure Ms where
 Zs:List Zr
 Zu:Nat->Bool
 Zx:List Fl
 now:UInt64
 mU:List Ev
structure Z3 where
 kind:Int
 a:Int
 b:Int
 n:Int
 on:Bool
 text:cP
def dS.none (o:dS):Bool:=o.ay.isEmpty&&o.aJ.isEmpty&&o.cj.isEmpty&&o.dropped.isEmpty
def Zr.stop (s:Zr):Zr:={s with node:=Option.none,ZL:=false}
def Zr.Z2 (s:Zr) (o:dS):Bool:=s.ZL&& !o.ay.isEmpty
def Zr.part (s:Zr) (o:dS):cP:=o.ay.take (min s.Zw o.ay.length).toNat
def Zr.ZH (s:Zr) (o:dS):Zr:=Zr.stop (if o.replace then s else {s with ay:=s.ay++s.part o})
def Zr.write (s:Zr) (o:dS):Zr:={s with ay:=(if o.replace then []else s.ay)++o.ay}
def Zr.run (s:Zr) (n:Nd):Zr:={s with node:=some n}
def Ms.ZZ (m:Ms) (i j:Nat):Bool:=m.Zu (i*6+j)
def Zv:List Zr->UInt32->Option Nat
 |[],_=>Option.none
 |s::r,a=>if s.addr=a then some 0 else(Zv r a).map (·+1)
def Ms.mod (m:Ms) (i:Nat) (f:Zr->Zr):Ms:={m with Zs:=m.Zs.modify i f}
def Ms.event (m:Ms) (e:Ev):Ms:={m with mU:=m.mU++[e]}
def Ms.ZM (m:Ms) (f:Fl):Ms:={m with Zx:=if 48<(m.Zx++[f]).length then(m.Zx++[f]).eraseIdx 0 else m.Zx++[f]}
def Ms.Zt (i:Nat) (b:cP):Nat->Ms->Ms
 |0,m=>m
 |k+1,m=>if(Ms.Zt i b k m).ZZ i k then(Ms.Zt i b k m).ZM ⟨i,k,b⟩else Ms.Zt i b k m
def Ms.ZB (sub:Ms->dS->Ms) (i:Nat) (m:Ms) (f:UInt32×cP):Ms:=
 if f.1=0 then Ms.Zt i f.2 m.Zs.length m else
 if((Zv m.Zs f.1).map λj=>m.ZZ i j)=some true then m.ZM ⟨i,(Zv m.Zs f.1).getD 0,f.2⟩else
 match (m.Zs[i]?).bind (·.node)with
 |some s=>sub (m.mod i (·.run (s.l7 m.now f.1))) (s.l7 m.now f.1).out
 |Option.none=>m
def Ms.ZA (sub:Ms->dS->Ms) (i:Nat) (m:Ms) (o:dS):Ms:=
 if o.none then m else
 match m.Zs[i]? with
 |Option.none=>m
 |some s=>
  if s.Z2 o then(m.mod i (·.ZH o)).event ⟨i,0,dS.zero⟩
  else o.aJ.foldl (Ms.ZB sub i) ((m.mod i (·.write o)).event ⟨i,0,o⟩)
def Ms.ZD (i:Nat) (m:Ms) (o:dS):Ms:=Ms.ZA (λm _=>m) i m o
def Ms.emit (i:Nat) (m:Ms) (o:dS):Ms:=Ms.ZA (Ms.ZD i) i m o
def Ms.refuse (m:Ms) (i e:Int):Ms:=m.event ⟨i,e,dS.zero⟩
def Ms.ZF:Nat->Ms->Ms
 |0,m=>m
 |k+1,m=>match ((Ms.ZF k m).Zs[k]?).bind (·.node)with
  |some s=>Ms.emit k ((Ms.ZF k m).mod k (·.run (s.iH (Ms.ZF k m).now))) (s.iH (Ms.ZF k m).now).out
  |Option.none=>Ms.ZF k m
def Ms.tick (m:Ms) (n:UInt64):Ms:=Ms.ZF m.Zs.length {m with now:=m.now+n}
def Ms.frame (m:Ms) (o:Z3) (k:Nat):Ms:=match m.Zx[k]? with
 |Option.none=>m
 |some f=>
  if o.kind=4 then
   match (m.Zs[f.dst]?).bind (·.node)with
   |some s=>Ms.emit f.dst ({m with Zx:=m.Zx.eraseIdx k}.mod f.dst (·.run (s.iX m.now (((m.Zs[f.src]?).map λx:Zr=>x.addr).getD 0) f.bytes))) (s.iX m.now (((m.Zs[f.src]?).map λx:Zr=>x.addr).getD 0) f.bytes).out
   |Option.none=>{m with Zx:=m.Zx.eraseIdx k}
  else if o.kind=5 then {m with Zx:=m.Zx.eraseIdx k}
  else if o.kind=6 then m.ZM f
  else if o.kind=7/\0<=o.n then {m with Zx:=m.Zx.set k {f with bytes:=f.bytes.take (f.bytes.length - min o.n.toNat f.bytes.length)}}
  else m
def Ms.at_ (m:Ms) (i:Int):Option Zr:=if i<0 then Option.none else m.Zs[i.toNat]?
def Ms.link (m:Ms) (i j:Nat) (b:Bool):Ms:={m with Zu:=λk=>if k=i*6+j\/k=j*6+i then b else m.Zu k}
def Ms.bars (m:Ms) (o:Z3):Bool:=
 (m.at_ o.a).isNone||((decide (o.kind=1)||decide (o.kind=2)||decide (o.kind=8))&&(m.at_ o.b).isNone)||(!decide (o.kind=1)&&(((m.at_ o.a).bind (·.node)).isNone !=decide (o.kind=11)))
def Ms.ZU (m:Ms) (o:Z3):Ms:=
 if m.bars o then m.refuse 0 5 else
 if o.kind=1 then(if o.a≠o.b then m.link o.a.toNat o.b.toNat o.on else m)else
 if o.kind=2 then
  match (m.at_ o.a).bind (·.node),m.at_ o.b with
  |some s,some b=>
   if 16<o.text.length then m.refuse o.a 6 else
   if b.addr=s.self\/b.addr=0 then m.refuse o.a 2 else
   Ms.emit o.a.toNat (m.mod o.a.toNat (·.run (s.iG m.now b.addr o.text))) (s.iG m.now b.addr o.text).out
  |_,_=>m
 else if o.kind=8 then
  match (m.at_ o.a).bind (·.node),m.at_ o.b with
  |some s,some b=>Ms.emit o.a.toNat (m.mod o.a.toNat (·.run (s.iX m.now b.addr o.text))) (s.iX m.now b.addr o.text).out
  |_,_=>m
 else if o.kind=9 then m.mod o.a.toNat Zr.stop
 else if o.kind=10 then m.mod o.a.toNat λs=>{s with ZL:=true,Zw:=max 0 o.n}
 else match m.at_ o.a with
  |some s=>Ms.emit o.a.toNat (m.mod o.a.toNat λs=>{s with node:=some (Nd.new s.addr s.ay m.now),ZL:=false}) (Nd.gZ s.addr s.ay m.now)
  |Option.none=>m
def Ms.do_ (m:Ms) (o:Z3):Ms:=
 if o.kind=4\/o.kind=5\/o.kind=6\/o.kind=7 then
  (if 0<=o.a/\0<m.Zx.length then Ms.frame {m with mU:=[]} o (o.a.toNat % m.Zx.length)else {m with mU:=[]})
 else if o.kind=3 then(if 1<=o.n/\o.n<=60000 then Ms.tick {m with mU:=[]} (UInt64.ofNat o.n.toNat)else {m with mU:=[]})
 else if o.kind=1\/o.kind=2\/o.kind=8\/o.kind=9\/o.kind=10\/o.kind=11 then Ms.ZU {m with mU:=[]} o
 else {m with mU:=[]}
def ZT (a:UInt32):Zr:=⟨a,some (Nd.new a [] 0),(Nd.gZ a [] 0).ay,0,false⟩
def Ms.new (l:List UInt32):Ms:=⟨l.map ZT,λ_=>false,[],0,[]⟩
end
section
open Go.RowKit
theorem Ks (ws:List (UInt32×List cP)) (d l):bY ws d l=match dK (·.1) ws d with|some k=>ws.set k (d,l)|none=>ws++[(d,l)]:=by
 have:∀ws:List (UInt32×List cP),dT ws d=dK (·.1) ws d:=λws=>by
  exact pbc
 unfold bY;rw[this];cases dK (·.1) ws d<;>rfl
theorem Iu (r) {vs:List (Option Addr×Nat×Nat)} {ws:List (UInt32×List cP)} (hl:vs.length=ws.length) (d):∃R,(∀Z,aq (mA r vs ws*Z) (mp u32 cT r (jA vs ws)*(rows 9 1 jk (tZ cT (.slice none 0 0) (bX (jA vs ws) d)) ((bX ws d).getD [])*(R*Z))))/\
 (∀Z,aq (mp u32 cT r (jA vs ws)*(rows 9 1 jk (tZ cT (.slice none 0 0) (bX (jA vs ws) d)) ((bX ws d).getD [])*(R*Z))) (mA r vs ws*Z))/\
 ∀v l,∃Bv,∀Z,aq (mp u32 cT r (bY (jA vs ws) d v)*(rows 9 1 jk (cT v) l*(R*Z))) (mA r Bv (bY ws d l)*Z):=by
 cases hk:dK (·.1) ws d with
 |none=>
  have h1:bX (jA vs ws) d=none:=iC (key:=λx:UInt32×List cP=>x.1) hl hk
  have h2:bX ws d=none:=by rw[AQ,hk];rfl
  rw[h1,h2]
  refine⟨n5 vs ws,λZ=> ?_,λZ=> ?_,λv l=>⟨vs++[v],λZ=> ?_⟩⟩
  ·rw[eW hl,ad]
   exact aq.tail _ (aq.nil _ _ _ _ _)
  ·rw[eW hl,ad]
   exact aq.tail _ (aq.drop _ _)
  ·have h3:bY (jA vs ws) d v=jA (vs++[v]) (ws++[(d,l)]):=lV (key:=λx:UInt32×List cP=>x.1) v (d,l) rfl hl hk
   rw[h3,Ks,hk,eW (by simp[hl]),j3,j3,um v (d,l) hl,ad,ad]
   exact aq.refl _
 |some k=>
  obtain⟨x,hx,Lx⟩:=fQ hk
  obtain⟨v0,hv⟩:∃v,vs[k]? =some v:=⟨_,aX (by rw[hl];exact(az.1 hx).1)⟩
  have h1:bX (jA vs ws) d=some v0:=iD (key:=λx:UInt32×List cP=>x.1) hl hk hv
  have h2:bX ws d=some x.2:=by rw[AQ,hk];simp[hx]
  obtain⟨F1,e1,e2,_⟩:=lE Sq hv hx
  rw[h1,h2]
  refine⟨F1,λZ=> ?_,λZ=> ?_,λv l=>⟨vs.set k v,λZ=> ?_⟩⟩
  ·rw[eW hl,j3,e1,ad,ad]
   exact aq.refl _
  ·rw[eW hl,j3,e1,ad,ad]
   exact aq.refl _
  ·have h3:bY (jA vs ws) d v=jA (vs.set k v) (ws.set k (d,l)):=xI (key:=λx:UInt32×List cP=>x.1) v (d,l) rfl hl hk
   rw[h3,Ks,hk,eW (by simp[hl]),j3,e2,ad,ad]
   exact aq.refl _
section
variable {P:Program} {n:fT} {w0:World} {E:Env} {D:List Deferred} {H F F1 F2 F3 F4:af} {Q:Exit->St->Prop} {l l':List Oper}
theorem yR {id:Nat} (g1 g2 g3 g4:Nat) (L:af) (idx:List Nat) (cp:Nat) (bs:List Nat) {bt rJ DV Tu:TypeId} {cs pV D2 Tw:List Value} (hs:iT P l idx (yA bs) cp=true) (hl:jK l idx=some l') (hR:v7 H g1 bt cs F1) (Ca:v7 F1 g2 rJ pV F2) (QL:v7 F2 g3 DV D2 F3) (Xm:v7 F3 g4 Tu Tw F4) (hL:Own F4 L F) (h:DL P n w0 l.toArray Q D (aK g1 bt cs*(aK g2 rJ pV*(aK g3 DV D2*aK g4 Tu Tw))) L (yA bs) cp 0 false l' E F):WS P n w0 (.region id l.toArray true) Q ⟨E,D,H⟩:=
 iK idx l' (aK g1 bt cs*(aK g2 rJ pV*(aK g3 DV D2*aK g4 Tu Tw))) L F _ cp hs (by rw[hR.eq,Ca.eq,QL.eq,Xm.eq,hL.eq];simp only[ad]) (gO hl) h
end
instance Qy (A:Option Addr) (m c:Nat):zaF cT (.slice A m c) (A,m,c):=⟨rfl⟩
section
variable {P:Program} {n:fT} {w0:World} {E:Env} {D:List Deferred} {H F F2:af} {Q:Exit->St->Prop} {x y:Code} {σ:St}
theorem N0 (I:St->Prop) (h:WS P n w0 x (thenS (λσ'=>∃τ',I τ'/\τ'.E.sub σ'.E/\τ'.D=σ'.D/\aq σ'.H τ'.H) Q) σ) (hm:∀τ,I τ->WS P n w0 y Q τ):WS P n w0 (.seq x y) Q σ:=Jb (h.mono λe σ' h=>by
 cases e with
 |normal=>
  obtain⟨τ',hI,e1,e2,e3⟩:=h;exact λa w g=>hm τ' hI a w (g.low e1 e2 e3)
 |_=>exact h)
variable {α:Type} {e:TypeId} {size bytes:Nat} {f:α->List Value} {v u:Value} {l:List α} {d:Option Tmp} {ty t:TypeId} {pos:String} {after:Array Edge} {gu:Option (Nat×Bool)} {x' y':Operand}
theorem wc {ys:List α} (hx:E.ev x'=some v) (hy:E.ev y'=some u) (hl:dD H v α e size f l F) {f':α->List Value} (yz:dD F u α e size f' ys F2) (Hj:f'=f) (hT:lj P t e size bytes) (hf:cY f size) (h1:∀z,∀c∈f z,c.oneCell'=true) (hn:l.length+ys.length<=1000000) (uX:Nat.ble bytes 1000=true):
 cn P n w0 ⟨d,.call ⟨.builtin .append,#[x',y'],#[t,t]⟩,ty,pos,after,gu⟩ E H (λp:Option Addr×Nat×Nat=>cT p) (λp=>rows e size f (cT p) (l++ys)*(rows e size f u ys*F2)):=by
 subst Hj
 refine⟨rows e size f' v l*rows e size f' u ys,λp=>rows e size f' (cT p) (l++ys)*rows e size f' u ys,F2,?_,by rw[hl.eq,yz.eq,ad],λ_=>by rw[ad]⟩
 have h:=rr (n:=n) (w0:=w0) (E:=E) (d:=d) (ty:=ty) (pos:=pos) (after:=after) (gu:=gu) ys (rows e size f' u ys) hx hy hT.out (.inl hT.out.ht) hf h1 (λw G hs=>Src.own hs.p2) hn (Yu uX)
 exact λG a w K Q s hs hK=>h G a w K Q s hs λv' w' eI=>by
  obtain⟨A,c,rfl⟩:=gz (eI.cast (ad _ _ _));exact hK (A,(l++ys).length,c) w' eI
end
def Vn (A:Option Addr) (m c:Nat):Option Addr×Nat×Nat:=match cq 1 (.slice A m c) 1 with
 | .slice a b c=>(a,b,c)
 |_=>(none,0,0)
instance QA (A:Option Addr) (m c:Nat):zaF cT (cq 1 (.slice A m c) 1) (Vn A m c):=⟨rfl⟩
theorem PI (A m c):cT (Vn A m c)=cq 1 (.slice A m c) 1:=rfl
instance Qz (p:Option Addr×Nat×Nat):zaF cT (cT p) p:=⟨rfl⟩
def su (g:Nat) (s:Nd) (h:NH) (m:List (UInt32×(Option Addr×Nat×Nat))) (v:Value) (l:List cP) (R:af):af:=
 aK g 159 (b7 1 s h s.out)*(rows 28 3 Rec.cells h.vr s.aI*(mp u32 u32 h.rh s.held*(dR h.tb s.self s.ls*(cw h s.out*(mp Bt u64 h.rs s.seen*(rows 269 2 sE h.vo s.order*(mp u32 cT h.rw m*(rows 9 1 jk v l*(R*(mp u32 gw h.rq (nR h.sb s.bu)*(mp i64 gw h.ri (oR h.sb s.bu)*(nZ g h.sb s.bu*(iA h.cb h.cr s.last s.bI*rows 24 1 eL h.vs s.aP)))))))))))))
def Gj (g:Nat) (s:Nd) (h:NH) (Z:af):af:=aK g 159 (b7 1 s h s.out)*(rows 28 3 Rec.cells h.vr s.aI*(mp u32 u32 h.rh s.held*(dR h.tb s.self s.ls*(cw h s.out*(mp Bt u64 h.rs s.seen*(rows 269 2 sE h.vo s.order*(mp u32 gw h.rq (nR h.sb s.bu)*(mp i64 gw h.ri (oR h.sb s.bu)*(nZ g h.sb s.bu*(iA h.cb h.cr s.last s.bI*(rows 24 1 eL h.vs s.aP*Z)))))))))))
theorem EN (g) (s:Nd) (h:NH) (Z):bG g s h*Z=mA h.rw h.wv s.wait*Gj g s h Z:=by
 unfold bG aY ba eu Gj;ac_rfl
theorem EM (g s) (h:NH) (m v l R Z):su g s h m v l R*Z=mp u32 cT h.rw m*(rows 9 1 jk v l*(R*Gj g s h Z)):=by
 unfold su Gj;ac_rfl
theorem Ky {g s} {h:NH} {m v l R Bv WK} (e:∀Z,aq (mp u32 cT h.rw m*(rows 9 1 jk v l*(R*Z))) (mA h.rw Bv WK*Z)) (Z):aq (su g s h m v l R*Z) (bG g {s with wait:=WK} {h with wv:=Bv}*Z):=by
 rw[EN,EM];exact e _
theorem BN {P n w0 E D F c Q g} {s:Nd} {h:NH} (d) (u7:h.wv.length=s.wait.length) (hw:∀A cap R,tZ cT (.slice none 0 0) (bX (jA h.wv s.wait) d)= .slice A (s.texts d).length cap->
 (∀Z,aq (su g s h (jA h.wv s.wait) (.slice A (s.texts d).length cap) (s.texts d) R*Z) (bG g s h*Z))->
 (∀v l,∃Bv,∀Z,aq (su g s h (bY (jA h.wv s.wait) d v) (cT v) l R*Z) (bG g {s with wait:=bY s.wait d l} {h with wv:=Bv}*Z))->
 WS P n w0 c Q ⟨E,D,su g s h (jA h.wv s.wait) (.slice A (s.texts d).length cap) (s.texts d) R*F⟩):WS P n w0 c Q ⟨E,D,bG g s h*F⟩:=by
 obtain⟨R,e1,e3,e2⟩:=Iu h.rw u7 d
 intro a w gd
 have hs:Sat w0 w (bG g s h*F):=gd.sat
 rw[EN]at hs
 have fP:=(e1 _).sat hs
 obtain⟨A,cap,hA⟩:=gz (fP.cast (aM _ _ _))
 have Xe:tZ cT (.slice none 0 0) (bX (jA h.wv s.wait) d)= .slice A (s.texts d).length cap:=hA
 rw[hA]at fP e3
 refine hw A cap R Xe (λZ=> ?_) (λv l=> ?_) a w ⟨gd.dQ,gd.defers,fP.cast (by rw[EM];rfl)⟩
 ·rw[EN,EM];exact e3 _
 obtain⟨Bv,h1⟩:=e2 v l
 exact⟨Bv,λZ=>Ky h1 Z⟩
end
section
open Go.RowKit
instance QF {P:Program} {t e:TypeId} {b:Nat} [h:eN P t (.pointer e)]:dL P .eql t (gw b) (.pointer none) (.bool false):=Mb (a:=⟨b,0,none⟩)
instance RR {P:Program} {t e:TypeId} {b:Nat} [h:eN P t (.pointer e)]:dL P .neq t (gw b) (.pointer none) (.bool true):=MA (a:=⟨b,0,none⟩)
attribute [local irreducible] WS LS OpQ y6 cn cv Spec bA aK
variable (w0:World)
theorem Ff (gn:Nat) (s:Nd) (d:UInt32) (t:cP) (ht:t.length<=16) (hi:s.Inv) (sY:0<=s.names/\s.names<=1000000) (Mh:s.bI.length<=100000) (Dz:0<=s.last/\s.last<=900000000000) (hf:s.Fit 6) (bn bd bt:Nat) (tn td tt:TypeId):Spec ucC w0 144 [ptr bn 0,ptr bd 0,ptr bt 0] (eD gn s*(aK bn tn [ptr gn 0]*(aK bd td [u32 d]*aK bt tt [aZ t]))) (λ_:Unit=> .tuple #[]) (λ_=>eD gn (s.ea d t)*emp):=by
 refine eZ Tryz.func144 Tryz.ntmps144 λG=> ?_;rw[ad (eD gn s),ad (aK bn tn _),ad (aK bd td _)];refine wA λh=> ?_;simp only[aN];have ok:=hi.dp.dp;have p1:=zl w0 gn s h d t (by omega) ok (hf.le (by omega));by_cases hr:(bR s.ls d s.now).isSome=true
 ·have es:s.ea d t=s.hand d t:=by unfold Nd.ea;rw[jF hr]
  rw[hr]at p1;repeat' (first|intro K hK|intro hc|refine xyZ ?_|refine aF ?_ ?_|refine cZ p1 λvf=> ?_)
  exact aj (.inl rfl) rfl ⟨(),rfl,by rw[es,ad (eD _ _)];exact aq.nod {h with vf:=vf} (ah)⟩
 have Hn:(bR s.ls d s.now).isSome=false:=by simpa using hr
 have eh:s.hand d t=s:=by
  unfold Nd.hand;cases hl:bR s.ls d s.now with
  |none=>rfl
  |some x=>rw[hl]at hr;exact absurd rfl hr
 have es:=Nd.o6 s d t;rw[eQ hr]at es;rw[eh,Hn]at p1;obtain⟨s1,iu⟩:∃s1,s1=s.roomFor d:=⟨_,rfl⟩
 have zq:s1.Inv:=by rw[iu];exact hi.roomFor d
 have j7:s1.Fit 5:=by rw[iu];exact Nd.Step.fit (Nd.Step.roomFor s d) (by have:=hf.aJ;omega) (by have:=hf.cj;omega) (by have:=hf.dropped;omega) (by have:=hf.aI;omega) (by have:=hf.ay;omega)
 obtain⟨e1,e2,e3,e4,e5,e6,e7,_⟩:=s.kM d;have Cm:=gS hi d;repeat' (first|(show WS _ _ _ (.seq (.seq (.region 1 _ _) _) _) _ _;refine N0 (λτ=>∃h2:NH,τ=⟨[(0,ptr bn 0),(0+1,ptr bd 0),(0+1+1,ptr bt 0)],[],bG gn s1 h2*(aK bn tn [ptr gn 0]*(aK bd td [u32 d]*(aK bt tt [aZ t]*G)))⟩) ?_ ?_)|refine ab λK hK=> ?_|refine ax ?_|(refine aF ?_ ?_<;>intro hc<;>try exact aG)|refine cZ p1 λvf=> ?_)
 ·obtain⟨h1,JX⟩:∃h1:NH,h1={h with vf:=vf}:=⟨_,rfl⟩
  rw[<-JX];clear p1 JX;refine mc λtL u7=> ?_;refine BN d u7 λA cap R hm FU mZ=> ?_;obtain⟨tx,ZI⟩:∃tx,tx=s.texts d:=⟨_,rfl⟩
  have We:s.roomFor d=if tx.length=4 then Nd.drop {s with wait:=bY s.wait d (tx.drop 1)} 6 else s:=by rw[ZI];rfl
  rw[<-ZI]at hm FU Cm ⊢;rw[We]at iu;clear ZI We;by_cases h4:tx.length=4
  ·rw[jF h4]at iu;obtain⟨Bv,tN⟩:=mZ (Vn A tx.length cap) (tx.drop 1);have p2:=kf w0 gn {s with wait:=bY s.wait d (tx.drop 1)} {h1 with wv:=Bv} 6 ⟨by have:=hf.aJ;show s.out.aJ.length+1<=_;omega,by have:=hf.cj;show s.out.cj.length+1<=_;omega,by have:=hf.dropped;show s.out.dropped.length+1<=_;omega,by have:=hf.aI;show s.aI.length+9*1<=_;omega,by have:=hf.ay;show s.out.ay.length+120*1<=_;omega⟩;rw[<-iu]at p2;rw[PI]at tN;simp only[su,b7];repeat' (first|refine ag (id:=1) (.range 8) ?_|refine ae (id:=2) (.range 13) 12 [0,3,4,5,8,9,10,11] ?_|intro K hK|intro hc|refine xyZ ?_|refine aF ?_ ?_|((first|refine' LQ ?zh rfl ?_|refine' bP rfl rfl rfl ?zh ?_|refine' bk rfl rfl ?zh ?_);case zh=>intro F';first|exact fh rfl rfl iI iI iI iI iI (by assumption)|exact cW rfl rfl iI iI iI iI (by first|assumption|omega|(simp[al]<;>omega)))|refine zfz λg=> ?_|(refine fJ (aq.trans (aq.trans (aq.NP (v:= .slice A tx.length cap) 1 (by omega)) (aq.trans (by simp only[su,b7];exact ah) (tN _))) (aq.refl _)) ?_;refine ai (aa iI rfl p2 iI) rfl ?_;intro x5;refine z8 λh5=> ?_))
   exact⟨_,⟨h5,rfl⟩,cG,rfl,ah⟩
  ·rw[eQ h4]at iu;simp only[su,b7];repeat' (first|refine ag (id:=1) (.range 8) ?_|refine ax ?_|(refine aF ?_ ?_<;>intro hc<;>try exact aG)|((refine' bk rfl rfl ?zh ?_);case zh=>intro F';exact fh rfl rfl iI iI iI iI iI (by assumption))|fail)
   refine⟨_,⟨h1,rfl⟩,cG,rfl,?_⟩;rw[iu];refine aq.trans ?_ (FU _);simp only[su,b7];exact ah
 ·rintro τ ⟨h2,rfl⟩;have F6:=Nd.qn s d Cm.1;have Uv:s1.names=s.names:=by rw[iu,e1]
  have T0:s1.bI=s.bI:=by rw[iu,e2]
  have Uj:s1.last=s.last:=by rw[iu,e3]
  rw[<-iu]at F6 es;have RA:=gS zq d;clear p1;refine mc λtL u7=> ?_;refine BN d u7 λA cap R hm FU mZ=> ?_;obtain⟨tx,ZI⟩:∃tx,tx=s1.texts d:=⟨_,rfl⟩
  have qa:s1.put d t={s1 with wait:=bY s1.wait d (tx++[t])}:=by rw[ZI];rfl
  rw[<-ZI]at hm FU F6 RA ⊢;clear ZI;have uZ:(s1.put d t).Inv:=by
   rw[qa];refine zq.put d _ (by simp;omega) λx hx=> ?_;rcases Lz.1 hx with hx|hx
   ·exact RA.2 x hx
   ·simp at hx;subst hx;exact ht
  have hq:eS (s1.put d t).bu d=dK (·.dest) s1.bu d:=pa _ _;rw[hq]at es;cases hk:dK (·.dest) s1.bu d with
  |some k=>
   obtain⟨x,hx,Lx⟩:=fQ hk;obtain⟨b,hb⟩:∃b,h2.sb[k]? =some b:=⟨_,aX (by rw[tL];exact(az.1 hx).1)⟩
   have hmq:bX (nR h2.sb s1.bu) d=some b:=iD (key:=λx:Sr=>x.dest) tL hk hb;rw[hk]at es;simp only at es;simp only[su,b7];repeat' (first|refine ag (id:=5) (.range 7) ?_|intro K hK|intro hc|refine xyZ ?_|refine aF ?_ ?_|((first|refine' bP rfl rfl rfl ?zh ?_|refine' bk rfl rfl ?zh ?_);case zh=>intro F';first|exact bE rfl rfl iI|exact fh rfl rfl iI iI iI iI iI (by assumption)|exact fw rfl rfl iI iI iI iI iI (by assumption))|refine zfz λg=> ?_|(refine aD (au jk [t] iI iI iI rfl rfl rfl rfl rfl iI rfl rfl rfl) rfl rfl rfl ?_;intro vx)|(refine aD (wc rfl rfl iI iI rfl iI iI zU (by first|omega|(simp[al]<;>omega)) rfl) rfl rfl rfl ?_;intro pv)|refine zhJ ?_)
   obtain⟨Bv,tN⟩:=mZ pv (tx++[t]);refine aj (.inr rfl) rfl ⟨(),rfl,?_⟩;rw[es,qa,ad (eD _ _)];refine aq.trans ?_ ((tN _).trans (aq.nod {h2 with wv:=Bv} (aq.refl _)));simp only[su,b7];exact ah
  |none=>
   have hmq:bX (nR h2.sb s1.bu) d=none:=iC (key:=λx:Sr=>x.dest) tL hk;rw[hk]at es;simp only at es;have p5:=λBv=>DS w0 gn (s1.put d t) {h2 with wv:=Bv} d (hq.trans hk) uZ.sr uZ.dp.dp (by show 0<=s1.names/\s1.names<=_;rw[Uv];omega) uZ.order (by have:=uZ.aP;omega) (by show s1.bI.length<=_;rw[T0];omega) (by show 0<=s1.last/\s1.last<=_;rw[Uj];omega) (by exact⟨by have:=j7.aJ;show s1.out.aJ.length+3<=_;omega,by have:=j7.cj;show s1.out.cj.length+3<=_;omega,by have:=j7.dropped;show s1.out.dropped.length+3<=_;omega,by have:=j7.aI;show s1.aI.length+9*3<=_;omega,by have:=j7.ay;show s1.out.ay.length+120*3<=_;omega⟩);have WW:Nd.ask ((s1.put d t).eC d) (s1.put d t).bu.length ⟨d,1,0,false,(s1.put d t).names+1⟩=s.ea d t:=by rw[es];rfl
   rw[WW,qa]at p5;simp only[su,b7];repeat' (first|refine ag (id:=5) (.range 7) ?_|intro K hK|intro hc|refine xyZ ?_|refine aF ?_ ?_|((first|refine' LQ ?zh rfl ?_|refine' bP rfl rfl rfl ?zh ?_|refine' bk rfl rfl ?zh ?_);case zh=>intro F';first|exact bE rfl rfl iI|exact fh rfl rfl iI iI iI iI iI (by assumption)|exact iw rfl rfl iI iI iI iI iI (by assumption))|refine zfz λg=> ?_|(refine aD (au jk [t] iI iI iI rfl rfl rfl rfl rfl iI rfl rfl rfl) rfl rfl rfl ?_;intro vx)|(refine aD (wc rfl rfl iI iI rfl iI iI zU (by first|omega|(simp[al]<;>omega)) rfl) rfl rfl rfl ?_;intro pv)|refine zhJ ?_|(obtain⟨Bv,tN⟩:=mZ pv (tx++[t]);refine fJ (aq.trans (by simp only[su,b7];exact ah) (tN (aK bn tn [ptr gn 0]*(aK bd td [u32 d]*(aK bt tt [aZ t]*G))))) ?_;refine ai (aa iI rfl (p5 Bv) iI) rfl ?_;intro x5))
   exact aj (.inr rfl) rfl ⟨(),rfl,by rw[ad (eD _ _)];exact ah⟩
end
section
open Go.RowKit
theorem Nd.lz {s:Nd} {c} (h:s.Rest c) (now):(s.begin now).Fit 10:=by
 have h1:=Nd.fL s now h.inv.dp.dp;have h2:=Nd.fK s now h.inv.dp.dp;have h3:=h.aI;exact⟨by rw[Nd.lk];simp,by rw[Nd.wM];simp,by rw[Nd.mC];simp,by omega,by omega⟩
attribute [local irreducible] WS LS OpQ y6 cn cv Spec bA aK
variable (w0:World)
theorem EW (gn) (s:Nd) (now:UInt64) {c} (hr:s.Rest c) (hc:c<=8500) (hn:now.toNat<=4611686018427387904):Spec ucC w0 87 [ptr gn 0,u64 now] (jg gn s) (λx:Value×Value×Value=>fp (s.iH now).out x) (λx=>jg gn (s.iH now)*r5 (s.iH now).out x):=by
 have hR:=hr.ready hc hn;obtain⟨i,hi,hT⟩:=Nd.sO hR;have h1:=hT.step.aI;have h2:=hT.step.ay;have h3:=Nd.fL s now hr.inv.dp.dp;have h4:=Nd.fK s now hr.inv.dp.dp;have h5:=hr.aI;have h6:=hR.bI;have p1:=λbn bw=>pB w0 gn s ((s.begin now).tick now) now (by omega) hr.inv.dp.dp (by omega) (by omega) hT.inv.dp.dp 142 [ptr bn 0,ptr bw 0] _ _ (ZK w0 gn (s.begin now) now hR bn bw 90 24);unfold Nd.iH;generalize ((s.begin now).tick now).done=s2 at p1 ⊢;simp only[fp,r5]at p1 ⊢;refine eZ Tryz.func87 Tryz.ntmps87 λG=> ?_;exact paS
theorem AV (gn) (s:Nd) (now nb) {c} (hr:s.Rest c):Spec ucC w0 136 [ptr gn 0,u64 now,u32 nb] (jg gn s) (λx:Value×Value×Value=>fp (s.l7 now nb).out x) (λx=>jg gn (s.l7 now nb)*r5 (s.l7 now nb).out x):=by
 have hb:=hr.inv.begin now;have hs:=Nd.Step.brk (s.begin now) nb;have h1:=hs.aI;have h2:=hs.ay;have h3:=Nd.fL s now hr.inv.dp.dp;have h4:=Nd.fK s now hr.inv.dp.dp;have h5:=hr.aI;have p1:=λbn bx=>pB w0 gn s ((s.begin now).brk nb) now (by omega) hr.inv.dp.dp (by omega) (by omega) (hb.brk nb).dp.dp 193 [ptr bn 0,ptr bx 0] _ _ (GV w0 gn (s.begin now) nb hb.dp.dp ((Nd.lz hr now).le (by omega)) bn bx 90 26);unfold Nd.l7;generalize ((s.begin now).brk nb).done=s2 at p1 ⊢;simp only[fp,r5]at p1 ⊢;refine eZ Tryz.func136 Tryz.ntmps136 λG=> ?_;exact paS
end
section
open Go.RowKit
def Nd.gA (s:Nd) (d:UInt32) (t:cP):Int:=if 16<t.length then 6 else if d=s.self\/d=0 then 2 else 0
def xQ:Value:= .agg #[aZ [],.bool false,.slice none 0 0,.slice none 0 0,.slice none 0 0]
attribute [local irreducible] WS LS OpQ y6 cn cv Spec bA aK
variable (w0:World)
theorem CU (gn) (s:Nd) (now:UInt64) (d t) {c} (hr:s.Rest c) (hc:c<=8500) (hn:now.toNat<=4611686018427387904) (he:s.gA d t=0):Spec ucC w0 89 [ptr gn 0,u64 now,u32 d,aZ t] (jg gn s) (λx:Value×Value×Value=> .tuple #[fp (s.iG now d t).out x,.int .i64 0]) (λx=>jg gn (s.iG now d t)*r5 (s.iG now d t).out x):=by
 have ht:t.length<=16:=by unfold Nd.gA at he;split at he;cases he;omega
 have hd:d≠s.self/\d≠0:=by
  exact pbe
 obtain⟨Nb,rU⟩:=hd;have hb:=hr.inv.begin now;obtain⟨e1,e2,e3,e4,e5,e6⟩:=s.zaa now;have hs:=Nd.Step.KW hb d t;have h1:=hs.aI;have h2:=hs.ay;have h3:=Nd.fL s now hr.inv.dp.dp;have h4:=Nd.fK s now hr.inv.dp.dp;have h5:=hr.aI;have g1:=hr.names;have g2:=hr.bI;have g3:=hr.last;have uZ:=hb.ea d t ht (by rw[e4];exact g1.1);have p1:=λbn bd bt=>pB w0 gn s ((s.begin now).ea d t) now (by omega) hr.inv.dp.dp (by omega) (by omega) uZ.dp.dp 144 [ptr bn 0,ptr bd 0,ptr bt 0] _ _ (Ff w0 gn (s.begin now) d t ht hb (by rw[e4];omega) (by rw[e2];omega) (by rw[e3];omega) ((Nd.lz hr now).le (by omega)) bn bd bt 90 26 9);unfold Nd.iG;generalize ((s.begin now).ea d t).done=s2 at p1 ⊢;simp only[fp,r5]at p1 ⊢;refine eZ Tryz.func89 Tryz.ntmps89 λG=> ?_;refine rv λh o=> ?_;have p2:=λbn bd bt=>(p1 bn bd bt).conv (X':=(aK gn 159 (b7 0 s h o)*(rows 28 3 Rec.cells h.vr s.aI*(mp u32 u32 h.rh s.held*(dR h.tb s.self s.ls*ba gn s h))))*(aK bn 90 [ptr gn 0]*(aK bd 26 [u32 d]*aK bt 9 [aZ t]))) (λZ=>by rw[ad,ad (jg _ _)];exact jc h o (aq.refl _)) (λ_ _=>aq.refl _);simp only[aN,b7]at p2 ⊢;clear p1;have T1:¬d=s.self:=Nb;have T2:¬d=0:=rU;have O5:¬(16:Int)<(t.length:Int):=by omega
 repeat' (first|(refine hK _ ?_;clear hK K)|refine ag (id:=3) (.range 11) ?_|intro K hK|intro hc|refine xyZ ?_|refine aF ?_ ?_|refine bT λg=> ?_|refine bQ λg=> ?_|(refine ai (aa iI rfl (p2 _ _ _) iI) rfl ?_;intro x))
 exact dF (.inl rfl) rfl (aS rfl iI iI rfl) (bh rfl) ⟨x.1,rfl,ah⟩
theorem AZ (gn) (s:Nd) (now d t) (he:s.gA d t≠0):Spec ucC w0 89 [ptr gn 0,u64 now,u32 d,aZ t] (jg gn s) (λ_:Unit=> .tuple #[xQ,.int .i64 (s.gA d t)]) (λ_=>jg gn s):=by
 refine eZ Tryz.func89 Tryz.ntmps89 λG=> ?_;refine rv λh o=> ?_;simp only[aN,b7];unfold Nd.gA at he ⊢;by_cases ht:16<t.length
 ·rw[jF ht];have O5:(16:Int)<(t.length:Int):=by omega
  repeat' (first|intro hc|refine yZ ?_|refine aF ?_ ?_)
  exact dF (.inl rfl) rfl (aS rfl iI iI rfl) (bh rfl) ⟨(),rfl,by refine jc h o ?_;simp only[b7];exact ah⟩
 ·rw[eQ ht]at he ⊢;have O5:¬(16:Int)<(t.length:Int):=by omega
  have hd:d=s.self\/d=0:=by
   apply uaS;intro hd;rw[eQ hd]at he;exact he rfl
  rw[jF hd];by_cases Nb:d=s.self
  ·exact paU
  ·have rU:d=0:=hd.resolve_left Nb;exact paU
end
end Go.Proofs.YtapoehkdnglahabGreat
