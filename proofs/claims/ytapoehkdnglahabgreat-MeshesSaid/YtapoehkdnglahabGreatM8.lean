/- A part. -/
import Derived.Test.YtapoehkdnglahabGreatM4
set_option maxHeartbeats 32000000
set_option maxRecDepth 100000
set_option linter.all false
namespace Go.Proofs.YtapoehkdnglahabGreat
section
open Go.RowKit
attribute [local irreducible] WS LS OpQ y6 cn cv Spec bA aK di cq
variable (w0:World)
theorem Fe (n i0 gn) (s:Nd) (now:UInt64) {c} (hr:s.Rest c) (hc:c<=8500) (vT:now.toNat<=4611686018427387904) (hn:s.now.toNat<=now.toNat) (X1:n<=90000) (uY:i0<=800000) (F7:s.bu.length<=90000):Spec ucC w0 49 [ptr gn 0,u64 now] (j9 ⟨n,none,i0⟩ gn s) (λv:Value×Value×Value=>fp (s.iH now).out v) (λv=>j9 ⟨n,none,i0+5⟩ gn (s.iH now)*r5 (s.iH now).out v):=by
 have hR:=hr.ready hc vT;have p1:=mv w0 ⟨n,none,i0⟩ gn s hr.inv.dp.dp (by have:=hr.aI;omega) now hn;have W3:=(s.zaa now).2.2.2.2.2;have g3:=Nd.fL s now hr.inv.dp.dp;have g4:=Nd.fK s now hr.inv.dp.dp;have g5:=hr.aI;refine eZ Tryz.func49 Tryz.ntmps49 λG=> ?_;simp only[aN];unfold Nd.iH Nd.tick;generalize s.begin now=s1 at*
 repeat' (first|intro K hK|refine ax ?_|refine bT λg=> ?_|refine cZ p1 λx1=> ?_)
 refine aV (λkk τ=>∃(t:Nd) (f j:Nat),iq now t.bI=kk/\iq now t.bI<f/\s1.DH t now j/\t.bu.length<=90000/\t.gT f now=s1.gT (iq now s1.bI+1) now/\τ=⟨[(4,ptr g 0),(1,u64 now),(0,ptr gn 0)],[],qe ⟨n,none,i0+5⟩ gn t*(aK g 35 [aZ [],.bool false,.slice none 0 0,.slice none 0 0,.slice none 0 0]*G)⟩) ?_ ?_
 ·exact⟨iq now s1.bI,_,⟨s1,_,0,rfl,ubH _,Nd.DH.zero hR,by rw[W3];exact F7,rfl,rfl⟩,cG,rfl,ah⟩
 rintro kk τ ⟨t,f,j,hkk,hf,J8,O5,gK,rfl⟩;refine rz (W:=⟨n,none,i0+5⟩) (g:=gn) (s:=t) iI λd tw=> ?_;have Lw:=tw.hP;unfold cR bc cc;simp only[bN,ad];repeat' (first|intro K hK|refine ax ?_)
 refine aV (λxx τ=>∃i:Nat,i+xx=d.search.length/\τ=⟨[(6,.int .i64 (i:Int)),(5,.int .i64 (qc (fF d.search now i))),(4,ptr g 0),(1,u64 now),(0,ptr gn 0)],[],cR gn t d*(aK g 35 [aZ [],.bool false,.slice none 0 0,.slice none 0 0,.slice none 0 0]*G)⟩) ?_ ?_
 ·exact⟨d.search.length,_,⟨0,by omega,rfl⟩,cG,rfl,by unfold cR bc cc;simp only[bN];exact ah⟩
 rintro xx τ ⟨i,qE,rfl⟩;unfold cR bc cc;simp only[bN,ad];rcases jP i d.search.length with h|h
 ·have h1:(i:Int)<(d.search.length:Int):=by omega
  obtain⟨z,hz⟩:∃z,d.search[i]? =some z:=⟨_,aX h⟩
  have Kg:=o8 hz;cases hb:fF d.search now i with
  |none=>
   simp only[qc];by_cases hd:z.due<=now
   ·have hx:fF d.search now (i+1)=some i:=by simp only[fF,hb,Kg,jF hd]
    repeat' (first|refine zg2 ?_|intro K hK|intro hc|refine xyZ ?_|refine aF ?_ ?_|refine bT λg=> ?_|refine zw0 λg=> ?_)
    exact⟨xx - 1,_,by omega,⟨i+1,by omega,rfl⟩,⟨rfl,by rw[hx];rfl,rfl,rfl,rfl,trivial⟩,rfl,by simp only[bN];exact ah⟩
   ·have hx:fF d.search now (i+1)=none:=by simp only[fF,hb,Kg,eQ hd]
    repeat' (first|refine zg2 ?_|intro K hK|intro hc|refine xyZ ?_|refine aF ?_ ?_|refine bT λg=> ?_|refine zw0 λg=> ?_)
    exact⟨xx - 1,_,by omega,⟨i+1,by omega,rfl⟩,⟨rfl,by rw[hx];rfl,rfl,rfl,rfl,trivial⟩,rfl,by simp only[bN];exact ah⟩
  |some b=>
   simp only[qc];have yl:=(nG hb).1;obtain⟨y,hy⟩:∃y,d.search[b]? =some y:=⟨_,aX (by omega)⟩
   have Nt:=o8 hy;by_cases hd:z.due<=now
   ·by_cases bW:z.due<y.due
    ·have hx:fF d.search now (i+1)=some i:=by simp only[fF,hb,Kg,Nt];rw[jF ⟨hd,.inl bW⟩]
     repeat' (first|refine zg2 ?_|intro K hK|intro hc|refine xyZ ?_|refine aF ?_ ?_|refine bT λg=> ?_|refine zw0 λg=> ?_)
     exact⟨xx - 1,_,by omega,⟨i+1,by omega,rfl⟩,⟨rfl,by rw[hx];rfl,rfl,rfl,rfl,trivial⟩,rfl,by simp only[bN];exact ah⟩
    ·by_cases heq:z.due=y.due
     ·by_cases jf:z.set<y.set
      ·have hx:fF d.search now (i+1)=some i:=by simp only[fF,hb,Kg,Nt];rw[jF ⟨hd,.inr ⟨heq,jf⟩⟩]
       repeat' (first|refine zg2 ?_|intro K hK|intro hc|refine xyZ ?_|refine aF ?_ ?_|refine bT λg=> ?_|refine zw0 λg=> ?_)
       exact⟨xx - 1,_,by omega,⟨i+1,by omega,rfl⟩,⟨rfl,by rw[hx];rfl,rfl,rfl,rfl,trivial⟩,rfl,by simp only[bN];exact ah⟩
      ·have hx:fF d.search now (i+1)=some b:=by simp only[fF,hb,Kg,Nt];rw[eQ (λe=>e.2.elim bW λe=>jf e.2)]
       repeat' (first|refine zg2 ?_|intro K hK|intro hc|refine xyZ ?_|refine aF ?_ ?_|refine bT λg=> ?_|refine zw0 λg=> ?_)
       exact⟨xx - 1,_,by omega,⟨i+1,by omega,rfl⟩,⟨rfl,by rw[hx];rfl,rfl,rfl,rfl,trivial⟩,rfl,by simp only[bN];exact ah⟩
     ·have hx:fF d.search now (i+1)=some b:=by simp only[fF,hb,Kg,Nt];rw[eQ (λe=>e.2.elim bW λe=>heq e.1)]
      repeat' (first|refine zg2 ?_|intro K hK|intro hc|refine xyZ ?_|refine aF ?_ ?_|refine bT λg=> ?_|refine zw0 λg=> ?_)
      exact⟨xx - 1,_,by omega,⟨i+1,by omega,rfl⟩,⟨rfl,by rw[hx];rfl,rfl,rfl,rfl,trivial⟩,rfl,by simp only[bN];exact ah⟩
   ·have hx:fF d.search now (i+1)=some b:=by simp only[fF,hb,Kg,Nt];rw[eQ (λe=>hd e.1)]
    repeat' (first|refine zg2 ?_|intro K hK|intro hc|refine xyZ ?_|refine aF ?_ ?_|refine bT λg=> ?_|refine zw0 λg=> ?_)
    exact⟨xx - 1,_,by omega,⟨i+1,by omega,rfl⟩,⟨rfl,by rw[hx];rfl,rfl,rfl,rfl,trivial⟩,rfl,by simp only[bN];exact ah⟩
 have h1:¬(i:Int)<(d.search.length:Int):=by omega
 obtain rfl:i=d.search.length:=by omega
 clear qE;obtain⟨f',c2,j',LC,run',Y6,hle,Rz,JR⟩:=Twin.skip vT f t j tw J8 hf;have P3:iq now c2+j'=iq now s1.bI:=run'.due;have Y9:=Av now s1.bI;have Dy:=hR.bI;have q1:=run'.step.aI;have q2:=run'.step.ay;have q3:=run'.step.aJ;have q4:=run'.step.cj;have q5:=run'.step.dropped;have q6:=hR.aI;have q7:=hR.ay;have q8:=hR.aJ;have q9:=hR.cj;have Ve:=hR.dropped;have r1:=run'.last;have r2:=hR.last;simp only at q1 q2 q3 q4 q5 r1;rcases JR with hN|⟨i2,k,x,hb,hk,hx,Hs⟩
 ·have JQ:fF d.search now d.search.length=none:=LC.idle hN;rw[JQ];simp only[qc];have ef:Nd.gT f' {t with bI:=c2} now={t with bI:=c2}:=by
   cases f' with
   |zero=>rfl
   |succ q=>
    have e0:Nd.step {t with bI:=c2} now=none:=by unfold Nd.step;rw[show gN ({t with bI:=c2}:Nd).bI now ({t with bI:=c2}:Nd).bI.length=none from hN]
    unfold Nd.gT;rw[e0]
  have eF:s1.gT (iq now s1.bI+1) now={t with bI:=c2}:=gK.symm.trans (Rz.trans ef);have p9:=Spec.nV LC (nS w0 ⟨n,none,i0+5⟩ gn {t with bI:=c2} run'.inv.dp.dp (by show t.aI.length<=_;omega) (by show t.out.ay.length<=_;omega));generalize Ho:({t with bI:=c2}:Nd).done=s9 at p9;unfold cR bc cc at p9;simp only[bN,ad,fp,r5]at p9;repeat' (first|intro K hK|intro hc|refine xyZ ?_|refine aF ?_ ?_|refine bQ λg=> ?_|refine cZ p9 λx9=> ?_)
  exact gD (.inl rfl) rfl (aS rfl iI iI rfl) ⟨x9,by rw[eF,Ho];rfl,by rw[eF,Ho];simp only[r5];exact ah⟩
 ·have zu:c2[i2]? =some (cJ c2 i2):=hZ (zaK hb).1;have Rk:fF d.search now d.search.length=some k:=LC.pick run'.inv.sr hb hx Hs;rw[Rk];simp only[qc];have WH:=LC.KJ zu;rw[<-Hs]at WH;have Tz:Nd.step {t with bI:=c2} now=some (Nd.again {t with bI:=c2.eraseIdx i2} k x):=by
   unfold Nd.step;rw[show gN ({t with bI:=c2}:Nd).bI now ({t with bI:=c2}:Nd).bI.length=some i2 from hb];simp only;rw[hk];simp only;rw[hx]
  have rf:=run'.inv.sr.each x (jq hx);have Cm:=gS run'.inv x.dest;have Yh:(Nd.texts {t with bI:=c2.eraseIdx i2} x.dest).length<=4:=Cm.1;have J4:t.now=now:=run'.AX;have p5:=Spec.nV WH (H0 w0 n (i0+5) gn {t with bI:=c2.eraseIdx i2} k x hx ⟨rf.1,rf.2.1,rf.2.2.1,rf.2.2.2.1⟩ ⟨run'.inv.sr.aO,run'.inv.sr.names,run'.inv.sr.each⟩ run'.inv.dp.dp run'.inv.order ⟨by show 0<=t.last;omega,by show t.last<=_;omega⟩ (by show t.now.toNat<=_;rw[J4];exact vT) (by omega) (by omega) (by show t.bu.length<=_;omega) (λu hu=>by have:=Cm.2 u hu;omega) ⟨by show t.out.aJ.length+_<=_;omega,by show t.out.cj.length+_<=_;omega,by show t.out.dropped.length+_<=_;omega,by show t.aI.length+_<=_;omega,by show t.out.ay.length+_<=_;omega⟩);have jf:=Nd.nu Tz run'.inv run'.sw run'.AX vT;have sX:iq now (Nd.again {t with bI:=c2.eraseIdx i2} k x).bI+1=iq now c2:=jf.due;have Xq:=Nd.GS {t with bI:=c2.eraseIdx i2} k x;simp only at Xq;have Wg:=run'.next Tz vT;obtain⟨f9,rfl⟩:∃f9,f'=f9+1:=⟨f' - 1,by omega⟩
  have UJ:Nd.gT f9 (Nd.again {t with bI:=c2.eraseIdx i2} k x) now=s1.gT (iq now s1.bI+1) now:=by
   rw[<-gK,Rz];show _=(match Nd.step {t with bI:=c2} now with|some u=>u.gT f9 now|none=>_)
   rw[Tz]
  generalize Nd.again {t with bI:=c2.eraseIdx i2} k x=u at*
  unfold cR bc cc at p5;simp only[bN,ad]at p5;repeat' (first|intro K hK|intro hc|refine xyZ ?_|refine aF ?_ ?_|refine cZ p5 λu5=> ?_)
  exact⟨_,_,by omega,⟨u,f9,j'+1,rfl,by omega,Wg,by omega,UJ,rfl⟩,cG,rfl,ah⟩
end
end Go.Proofs.YtapoehkdnglahabGreat
