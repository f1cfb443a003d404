/- A part. -/
import Derived.Test.YtapoehkdnglahabGreatMxb
set_option maxHeartbeats 0
set_option maxRecDepth 100000
set_option linter.all false
namespace Go.Proofs.YtapoehkdnglahabGreat
open Go.RowKit
variable (w0:World)
attribute [local irreducible] WS LS OpQ y6 cn cv Spec bA aK di cq
theorem zdj (gm:Nat) (k:RH) (i c:Nat) (x:RX) (hb:k.hs[i]? =some x) (m:Ms) (el:List ES) (o:dS) (v:Value×Value×Value) (s:Zr) (hs:m.Zs[i]? =some s) (Hq:s.ZC o c) (SY:∀f∈o.aJ,f.2.length<=100000) (zp:o.aJ.length<=100) (h0:∀f∈o.aJ,f.1=0) (za1:m.Zy) (zb3:m.mU.length<=890000) (h6:m.Zs.length<=6) (Ze:o.aJ≠[]->∀t,s.node=some t->t.now=m.now):
 Spec ucC w0 48 [ptr gm 0,.int .i64 (i:Int),fp o v] (rmA gm k m el*r5 o v) (λ_:List ES=> .tuple #[]) (λnew=>rmA gm k (Ms.ZD i m o) (el++new)*e9 new):=
 zcd w0 gm k (λm _=>m) i c 899000 x (by omega) hb m el o v s hs Hq SY (by omega) za1 (by omega) h6 Ze (λf hf hz=>absurd (h0 f hf) hz) (λf hf hz=>absurd (h0 f hf) hz) (λf hf hz=>absurd (h0 f hf) hz)
theorem zdN (gm:Nat) (k:RH) (i c:Nat) (x:RX) (hb:k.hs[i]? =some x) (m:Ms) (el:List ES) (o:dS) (v:Value×Value×Value) (s:Zr) (hs:m.Zs[i]? =some s) (Hq:s.ZC o c) (SY:∀f∈o.aJ,f.2.length<=100000) (zp:o.aJ.length<=100000) (za1:m.Zy) (zb3:m.mU.length+o.aJ.length+2<=890000) (h6:m.Zs.length<=6) (Ze:o.aJ≠[]->∀t,s.node=some t->t.now=m.now):
 Spec ucC w0 48 [ptr gm 0,.int .i64 (i:Int),fp o v] (rmA gm k m el*r5 o v) (λ_:List ES=> .tuple #[]) (λnew=>rmA gm k (Ms.emit i m o) (el++new)*e9 new):=by
 refine zcd w0 gm k (Ms.ZD i) i c 890000 x (by omega) hb m el o v s hs Hq SY zp za1 zb3 h6 Ze (λf hf hz m' s' t _ h1 h2 ht=> ?_) (λf hf hz m' s' t s2 u hk h1 ht h3 hu=> ?_) (λf hf hz m' el' s' t v' hk h1 h2 ht ha he=> ?_)
 ·have hw:=(h2.node t ht).1.GA m'.now f.1
  exact Ms.ZG.run (Ms.ZG.ZD (Ms.ZJ h1) (h2.Z5 ht hw) hw.R9.le (Nd.ZP _ _ _))
 ·have e:=Ms.zdp (Ms.ZJ (f:=λy:Zr=>y.run (t.l7 m'.now f.1)) h1) (Nd.ZP _ _ _) (Nd.Jo t m'.now f.1).le h3 hu
  have e2:some (t.l7 m'.now f.1)=some u:=e
  cases e2
  rw[Nd.Jn,hk.now]
 ·have hw:=(h2.node t ht).1.GA m'.now f.1
  have vS:m'.Kept (m'.mod i (·.run (t.l7 m'.now f.1))) i:=Ms.Kept.mod (f:=λx=>x.run (t.l7 m'.now f.1)) λs=>rfl
  refine zdj w0 gm k i c x hb _ el' _ v' _ (Ms.ZJ h1) (h2.Z5 ht hw) hw.R9.le (by have:=zc0 t m'.now f.1;omega) (Nd.ZP _ _ _) ⟨ha.QG,λx hx=> ?_⟩ he (by rw[vS.length,hk.length];exact h6) (λ_ u hu=> ?_)
  ·rw[vS.length]
   exact ha.each x hx
  ·have e2:some (t.l7 m'.now f.1)=some u:=hu
   cases e2
   exact Nd.Jn t m'.now f.1
theorem zaO (gm:Nat) (k:RH) (i c:Nat) (x y:RX) (hb:k.hs[i]? =some x) (Ta:y.1=x.1) (m:Ms) (el:List ES) (o:dS) (v:Value×Value×Value) (s:Zr) (f:Zr->Zr) (t':Nd) (hfa:∀s,(f s).addr=s.addr) (hn:(f s).node=some t') (hs:m.Zs[i]? =some s) (Hq:(f s).ZC o c) (SY:∀f∈o.aJ,f.2.length<=100000) (zp:o.aJ.length<=100000) (za1:m.Zy) (zb3:m.mU.length+o.aJ.length+2<=890000) (h6:m.Zs.length<=6) (Ze:o.aJ≠[]->t'.now=m.now)
 (FW:el.map (·.1)=m.mU) (R:af) (e2:zam (k.hs.set i y) (m.Zs.modify i f)=zaJ y (f s)*R) (va ve:Value) (gn:Nat):
 Spec ucC w0 48 [ptr gm 0,.int .i64 (i:Int),fp o v] (aK gm 124 [k.vs,k.vh,va,u64 m.now,ve]*(rows 128 1 Z4 k.vs (k.hs.map (·.1))*(rows 131 1 soC k.vh k.hv*(r7 k.hv m.Zs.length m.Zu*(aK x.1 130 [u32 s.addr,ptr gn 0,aZ (f s).ay,.int .i64 (f s).Zw,.bool (f s).ZL]*(j9 ⟨y.2.1,none,y.2.2⟩ gn t'*(R*(rows 114 3 flC va m.Zx*(rows 68 7 evC ve el*r5 o v)))))))))
  (λ_:List ES=> .tuple #[]) (λnew=>rmA gm {k with hs:=k.hs.set i y} (Ms.emit i (m.mod i f) o) (el++new)*e9 new):=by
 have hk:m.Kept (m.mod i f) i:=Ms.Kept.mod hfa
 have hi:=(az.1 hb).1
 refine(zdN w0 gm {k with hs:=k.hs.set i y} i c y (by simp[hi]) (m.mod i f) el o v (f s) (Ms.ZJ hs) Hq SY zp ⟨za1.QG,λx hx=>by rw[hk.length];exact za1.each x hx⟩ zb3 (by rw[hk.length];exact h6) (λh t ht=>by rw[hn]at ht;cases ht;exact Ze h)).conv (λZ=> ?_) (λ_ _=>aq.refl _)
 rw[ad (rmA _ _ _ _)]
 refine re va ve FW ?_
 refine zae (m:=m.mod i f) gn e2 ?_
 unfold rmS y9
 rw[show(m.mod i f).Zs.length=m.Zs.length from hk.length]
 simp only[r6,Ms.mod,zak,hn,jo,zat,hfa,Ta,zcS hb Ta]
 exact ah
theorem zdS (gm:Nat) (k:RH) (m:Ms) (el:List ES) (o:Z3) (c:Nat) (hf:m.zaQ c) (X5:m.zcY) (hc:c<=8500) (hN:∀x∈k.hs,x.2.1<=80000/\x.2.2<=800000) (Ze:m.now.toNat<=4611686018427387904) (Cm:o.text.length<=100000) (hev:m.mU=[]) (zai:m.bars o=false) (hk:o.kind=8):Spec ucC w0 50 [ptr gm 0,opA o] (rmA gm k m el) (λ_:{y:List ES×List RX // Ups k.hs y.2}=> .tuple #[]) (λy=>rmA gm {k with hs:=y.1.2} (m.ZU o) (el++y.1.1)*e9 y.1.1):=by
 obtain⟨i,s,ei,hs,hw,Uf⟩:=Ms.zap zai;obtain⟨kind,oa,ob,on_,oo,ot⟩:=o;simp only at hk ei hw Uf Cm;subst hk;subst ei;have h6:=hf.short;refine eZ Tryz.func50 Tryz.ntmps50 λG=> ?_;refine zaW λva ve FW=> ?_;refine zaG λyl S5=> ?_;have zbV:el.length=0:=by
  exact pag
 have Rg:=zzG yl
 have hi:=(az.1 hs).1;obtain⟨x,JQ⟩:∃x,k.hs[i]? =some x:=⟨_,aX (by omega)⟩
 have hxp:=zzX JQ
 have l5:=(m.zaw i).trans hs;have Hq:=hf.sound i s hs;have p1:=r8 w0 gm m k va ve (i:Int) m.Zs.length yl;have p2:=r8 w0 gm m k va ve ob m.Zs.length yl;rw[Dp ⟨by omega,by omega⟩]at p1;simp only[opA,opC,aN];obtain⟨j,s2,ej,fP⟩:=Uf (by decide);subst ej;have hj:=(az.1 fP).1;rw[Dp ⟨by omega,by omega⟩]at p2;have zcQ:=(m.zaw j).trans fP;obtain⟨x2,zc6⟩:∃x,k.hs[j]? =some x:=⟨_,aX (by omega)⟩
 have zf2:=zzX zc6
 obtain⟨OP,vT⟩:=hN x (jq JQ);cases ht:s.node with
 |none=>rw[ht]at hw;exact zzA (hw (by decide))
 |some t=>
  have F6:=(Hq.node t ht).1;rw[Ms.zcy zai rfl l5 ht zcQ];simp only[D3];have Wk:=F6.wa m.now s2.addr ot;have zbO:=Hq.Z5 ht Wk;have OA:=zbd F6 m.now s2.addr ot;have Kc:=Nd.C4 F6 m.now s2.addr ot;have p4:=λgn=>NK w0 x.2.1 x.2.2 gn t m.now s2.addr ot F6 hc (X5 _ _ _ hs ht) Cm OP;have p5:=fun(v:Value×Value×Value)=>zaO w0 gm k i c x (x.1,x.2.1+1,x.2.2+5) JQ rfl m el (t.iX m.now s2.addr ot).out v s (·.run (t.iX m.now s2.addr ot)) (t.iX m.now s2.addr ot) (λ_=>rfl) rfl hs zbO Wk.R9.le (by omega) hf.Zx (by rw[hev];simp only[HM];omega) h6 (λ_=>Kc) FW;by_cases OE:i=j
  ·subst OE;obtain rfl:x=x2:=by rw[zc6]at JQ;exact(PL JQ).symm
   obtain rfl:s=s2:=by rw[fP]at hs;exact(PL hs).symm
   obtain⟨R,e1,e2⟩:=zay yl JQ hs;refine zaE e1 λgn=> ?_;have p4:=p4 gn;have p5:=fun(va2:Value) v=>p5 v R (e2 _ _) va2 ve gn;unfold rmS y9;simp only[r6,zak,ht,jo,zat];generalize t.iX m.now s.addr ot=t2 at*
   simp only[fp,r6,Zr.zaz,Zr.zao,Zr.v8,ad]at p1 p2 p4 p5 ⊢;repeat' (first|refine zgA ?_|intro K hK|intro hc|refine xyZ ?_|refine aF ?_ ?_|refine zhy ?_|refine zw1 ?_|refine bT λg=> ?_|(show WS _ _ _ (.region 20 _ true) _ _;refine nw 3 (List.range 26) 24 [6,10,14,17,18,21] (by decide+kernel) rfl rfl iI ?_)|refine cZ p4 λx7=> ?_|refine cZ (p5 va x7) λzar=> ?_|refine cZ p1 λu1=> ?_)
   all_goals try(cases hc;done)
   exact aj (.inr rfl) rfl ⟨⟨(zar,_),Ups.set JQ⟩,rfl,ah⟩
  ·obtain⟨R,e1,e2⟩:=zb5 yl JQ hs zc6 fP OE;refine zaE e1 λgn=> ?_;have p4:=p4 gn;have p5:=fun(va2:Value) v=>p5 v (zaJ x2 s2*R) (e2 _ _) va2 ve gn;unfold rmS y9;simp only[r6,zak,ht,jo,zat];generalize t.iX m.now s2.addr ot=t2 at*
   simp only[fp,r6,Zr.zaz,Zr.zao,Zr.v8,ad]at p1 p2 p4 p5 ⊢;repeat' (first|refine zgA ?_|intro K hK|intro hc|refine xyZ ?_|refine aF ?_ ?_|refine zhy ?_|((first|refine' LQ ?zh rfl ?_|refine' bP rfl rfl rfl ?zh ?_);case zh=>intro F';exact bE rfl rfl iI)|refine bT λg=> ?_|(show WS _ _ _ (.region 20 _ true) _ _;refine nw 3 (List.range 26) 24 [6,10,14,17,18,21] (by decide+kernel) rfl rfl iI ?_)|(refine' bP rfl rfl rfl ?zh ?_;(case zh=>intro F';exact zbY (s:=s2) (b:=x2) rfl iI iI))|refine cZ p4 λx7=> ?_|refine cZ (p5 va x7) λzar=> ?_|refine cZ p1 λu1=> ?_|refine cZ p2 λu2=> ?_)
   all_goals try(cases hc;done)
   exact aj (.inr rfl) rfl ⟨⟨(zar,_),Ups.set JQ⟩,rfl,ah⟩
theorem zcV (gm:Nat) (k:RH) (m:Ms) (el:List ES) (o:Z3) (kk c:Nat) (hf:m.zaQ c) (X5:m.zcY) (hc:c<=8500) (hN:∀x∈k.hs,x.2.1<=80000) (hkk:0<=o.a/\0<m.Zx.length/\kk=o.a.toNat % m.Zx.length) (hb: -9223372036854775808<=o.n/\o.n<=9223372036854775807) (hev:m.mU=[]) (k4:o.kind=4):Spec ucC w0 47 [ptr gm 0,opA o] (rmA gm k m el) (λ_:{y:List ES×List RX // Ups k.hs y.2}=> .tuple #[]) (λy=>rmA gm {k with hs:=y.1.2} (m.frame o kk) (el++y.1.1)*e9 y.1.1):=by
 have tK:kk<m.Zx.length:=by rw[hkk.2.2];exact ubT _ hkk.2.1
 obtain⟨f,zp⟩:∃f,m.Zx[kk]? =some f:=⟨_,aX tK⟩
 obtain⟨a1,a2,a3⟩:=hf.Zx.each _ (jq zp);have h6:=hf.short;have zda:=hf.Zx.QG;obtain⟨s,hs⟩:∃s,m.Zs[f.dst]? =some s:=⟨_,aX a2⟩
 obtain⟨s1,iu⟩:∃s,m.Zs[f.src]? =some s:=⟨_,aX a1⟩
 have SN:m.Zx.take kk++m.Zx.drop (kk+1)=m.Zx.eraseIdx kk:=(uaw _ _).symm;refine eZ Tryz.func47 Tryz.ntmps47 λG=> ?_;refine zaW λva ve FW=> ?_;refine zaG λyl S5=> ?_;have Rg:=zzG yl
 have p0:=zce w0 gm m k va ve o.a kk hkk;have p1:=zcz w0 gm m k va ve m.Zx (by omega) kk tK;rw[SN]at p1;obtain⟨kind,oa,ob,on_,oo,ot⟩:=o;simp only at hb hkk p0 k4;obtain⟨x,JQ⟩:∃x,k.hs[f.dst]? =some x:=⟨_,aX (by omega)⟩
 obtain⟨x1,zds⟩:∃x,k.hs[f.src]? =some x:=⟨_,aX (by omega)⟩
 have hxp:(k.hs.map (·.1))[f.dst]? =some x.1:=by rw[zA,JQ];rfl
 have ze1:(k.hs.map (·.1))[f.src]? =some x1.1:=by rw[zA,zds];rfl
 unfold Ms.frame;rw[zp];obtain⟨src,dst,fb⟩:=f;simp only at a1 a2 a3 hs iu JQ zds hxp ze1;simp only[opA,opC,aN,r6]at p0 p1 ⊢;subst k4;rw[jF rfl,hs];simp only[G6];have Hq:=hf.sound dst s hs;rw[iu];by_cases OE:dst=src
 ·obtain rfl:x=x1:=by rw[OE,zds]at JQ;exact(PL JQ).symm
  obtain rfl:s=s1:=by rw[OE,iu]at hs;exact(PL hs).symm
  obtain⟨R,e1,e2⟩:=zay yl JQ hs;refine zaE e1 λgn=> ?_;unfold rmS y9;simp only[r6,zak];cases ht:s.node with
  |none=>
   simp only[jo,zat];repeat' (first|refine zgZ ?_|intro K hK|(intro hc;try exact aG)|refine xyZ ?_|refine aF ?_ ?_|refine zgS ?_|((first|refine dn rfl rfl iI rfl ?_ ?_|refine dm rfl rfl iI rfl ?_ ?_|refine dU rfl rfl iI rfl ?_ ?_)<;>intro hc)|refine bT λg=> ?_|refine zw0 λg=> ?_|refine cZ p0 λu0=> ?_|refine cZ p1 λva2=> ?_)
   all_goals try(cases hc;done)
   refine zzJ ?_;rw[rL,ad (rmA _ _ _ _)];refine re va2 ve FW ?_;refine zae (m:={m with Zx:=m.Zx.eraseIdx kk}) gn e1 ?_;unfold rmS y9;simp only[r6,zak,ht,jo,zat,e9,aB];exact ah
  |some t=>
   have F6:=(Hq.node t ht).1;have hw:=F6.wa m.now s.addr fb;have zbO:=Hq.Z5 ht hw;have OA:=zbd F6 m.now s.addr fb;have Kc:=Nd.C4 F6 m.now s.addr fb;have p2:=NK w0 x.2.1 x.2.2 gn t m.now s.addr fb F6 hc (X5 _ _ _ hs ht) a3 (hN x (jq JQ));have p3:=λva2 v=>zaO w0 gm k dst c x (x.1,x.2.1+1,x.2.2+5) JQ rfl {m with Zx:=m.Zx.eraseIdx kk} el (t.iX m.now s.addr fb).out v s (·.run (t.iX m.now s.addr fb)) (t.iX m.now s.addr fb) (λ_=>rfl) rfl hs zbO hw.R9.le (by omega) (hf.Zx.erase kk) (by rw[hev];simp only[HM];omega) h6 (λ_=>Kc) FW R (e2 _ _) va2 ve gn;simp only[jo,zat,EL,CV];generalize t.iX m.now s.addr fb=t2 at*
   simp only[fp,Zr.zaz,Zr.zao,Zr.v8,ad]at p2 p3 ⊢;repeat' (first|refine zgZ ?_|intro K hK|(intro hc;try exact aG)|refine xyZ ?_|refine aF ?_ ?_|refine zfl ?_|((first|refine dn rfl rfl iI rfl ?_ ?_|refine dm rfl rfl iI rfl ?_ ?_|refine dU rfl rfl iI rfl ?_ ?_)<;>intro hc)|refine bT λg=> ?_|refine zw0 λg=> ?_|refine cZ p0 λu0=> ?_|refine cZ p1 λva2=> ?_|(show WS _ _ _ (.region 8 _ true) _ _;refine nw 5 (List.range 33) 31 [6,9,10,13,17,21,24,25,28] (by decide+kernel) rfl rfl iI ?_)|refine cZ p2 λx7=> ?_|refine cZ (p3 va2 x7) λzar=> ?_)
   all_goals try(cases hc;done)
   exact aj (.inr rfl) rfl ⟨⟨(zar,_),Ups.set JQ⟩,rfl,ah⟩
 ·obtain⟨R,e1,e2⟩:=zb5 yl JQ hs zds iu OE;refine zaE e1 λgn=> ?_;unfold rmS y9;simp only[r6,zak];cases ht:s.node with
  |none=>
   simp only[jo,zat];repeat' (first|refine zgZ ?_|intro K hK|(intro hc;try exact aG)|refine xyZ ?_|refine aF ?_ ?_|refine zgS ?_|((first|refine dn rfl rfl iI rfl ?_ ?_|refine dm rfl rfl iI rfl ?_ ?_|refine dU rfl rfl iI rfl ?_ ?_)<;>intro hc)|refine bT λg=> ?_|refine zw0 λg=> ?_|refine cZ p0 λu0=> ?_|refine cZ p1 λva2=> ?_)
   all_goals try(cases hc;done)
   refine zzJ ?_;rw[rL,ad (rmA _ _ _ _)];refine re va2 ve FW ?_;refine zae (m:={m with Zx:=m.Zx.eraseIdx kk}) gn e1 ?_;unfold rmS y9;simp only[r6,zak,ht,jo,zat,e9,aB];exact ah
  |some t=>
   have F6:=(Hq.node t ht).1;have hw:=F6.wa m.now s1.addr fb;have zbO:=Hq.Z5 ht hw;have OA:=zbd F6 m.now s1.addr fb;have Kc:=Nd.C4 F6 m.now s1.addr fb;have p2:=NK w0 x.2.1 x.2.2 gn t m.now s1.addr fb F6 hc (X5 _ _ _ hs ht) a3 (hN x (jq JQ));have p3:=λva2 v=>zaO w0 gm k dst c x (x.1,x.2.1+1,x.2.2+5) JQ rfl {m with Zx:=m.Zx.eraseIdx kk} el (t.iX m.now s1.addr fb).out v s (·.run (t.iX m.now s1.addr fb)) (t.iX m.now s1.addr fb) (λ_=>rfl) rfl hs zbO hw.R9.le (by omega) (hf.Zx.erase kk) (by rw[hev];simp only[HM];omega) h6 (λ_=>Kc) FW (zaJ x1 s1*R) (e2 _ _) va2 ve gn;simp only[jo,zat,EL,CV];generalize t.iX m.now s1.addr fb=t2 at*
   simp only[fp,Zr.zaz,Zr.zao,Zr.v8,ad]at p2 p3 ⊢;repeat' (first|refine zgZ ?_|intro K hK|(intro hc;try exact aG)|refine xyZ ?_|refine aF ?_ ?_|refine zfl ?_|((first|refine dn rfl rfl iI rfl ?_ ?_|refine dm rfl rfl iI rfl ?_ ?_|refine dU rfl rfl iI rfl ?_ ?_)<;>intro hc)|refine bT λg=> ?_|refine zw0 λg=> ?_|refine cZ p0 λu0=> ?_|refine cZ p1 λva2=> ?_|(show WS _ _ _ (.region 8 _ true) _ _;refine nw 5 (List.range 33) 31 [6,9,10,13,17,21,24,25,28] (by decide+kernel) rfl rfl iI ?_)|(refine' bP rfl rfl rfl ?zh ?_;(case zh=>intro F';exact zbY (s:=s1) (b:=x1) rfl iI iI))|refine cZ p2 λx7=> ?_|refine cZ (p3 va2 x7) λzar=> ?_)
   all_goals try(cases hc;done)
   exact aj (.inr rfl) rfl ⟨⟨(zar,_),Ups.set JQ⟩,rfl,ah⟩
theorem zdk (gm:Nat) (k:RH) (m:Ms) (el:List ES) (o:Z3) (kk c:Nat) (hf:m.zaQ c) (X5:m.zcY) (hc:c<=8500) (hN:∀x∈k.hs,x.2.1<=80000) (hkk:0<=o.a/\0<m.Zx.length/\kk=o.a.toNat % m.Zx.length) (hb: -9223372036854775808<=o.n/\o.n<=9223372036854775807) (hev:m.mU=[]):Spec ucC w0 47 [ptr gm 0,opA o] (rmA gm k m el) (λ_:{y:List ES×List RX // Ups k.hs y.2}=> .tuple #[]) (λy=>rmA gm {k with hs:=y.1.2} (m.frame o kk) (el++y.1.1)*e9 y.1.1):=by
 by_cases k4:o.kind=4
 ·exact zcV w0 gm k m el o kk c hf X5 hc hN hkk hb hev k4
 have tK:kk<m.Zx.length:=by rw[hkk.2.2];exact ubT _ hkk.2.1
 obtain⟨f,zp⟩:∃f,m.Zx[kk]? =some f:=⟨_,aX tK⟩
 obtain⟨a1,a2,a3⟩:=hf.Zx.each _ (jq zp);have h6:=hf.short;have zda:=hf.Zx.QG;obtain⟨s,hs⟩:∃s,m.Zs[f.dst]? =some s:=⟨_,aX a2⟩
 obtain⟨s1,iu⟩:∃s,m.Zs[f.src]? =some s:=⟨_,aX a1⟩
 have SN:m.Zx.take kk++m.Zx.drop (kk+1)=m.Zx.eraseIdx kk:=(uaw _ _).symm;refine eZ Tryz.func47 Tryz.ntmps47 λG=> ?_;refine zaW λva ve FW=> ?_;refine zaG λyl S5=> ?_;have Rg:=zzG yl
 have p0:=zce w0 gm m k va ve o.a kk hkk;have p1:=zcz w0 gm m k va ve m.Zx (by omega) kk tK;rw[SN]at p1;obtain⟨kind,oa,ob,on_,oo,ot⟩:=o;simp only at hb hkk p0 k4;obtain⟨x,JQ⟩:∃x,k.hs[f.dst]? =some x:=⟨_,aX (by omega)⟩
 obtain⟨x1,zds⟩:∃x,k.hs[f.src]? =some x:=⟨_,aX (by omega)⟩
 have hxp:(k.hs.map (·.1))[f.dst]? =some x.1:=by rw[zA,JQ];rfl
 have ze1:(k.hs.map (·.1))[f.src]? =some x1.1:=by rw[zA,zds];rfl
 unfold Ms.frame;rw[zp];obtain⟨src,dst,fb⟩:=f;simp only at a1 a2 a3 hs iu JQ zds hxp ze1;simp only[opA,opC,aN,r6]at p0 p1 ⊢;rw[eQ k4];by_cases k5:kind=5
 ·subst k5;rw[jF rfl];unfold rmP;simp only[r6];repeat' (first|intro K hK|intro hc|refine xyZ ?_|refine aF ?_ ?_|refine zw2 ?_|refine bT λg=> ?_|refine zw0 λg=> ?_|refine cZ p0 λu0=> ?_|refine cZ p1 λva2=> ?_)
  refine zzJ ?_;rw[rL,ad (rmA _ _ _ _)];refine re va2 ve FW ?_;unfold rmP;simp only[r6,e9,aB];exact ah
 rw[eQ k5];by_cases k6:kind=6
 ·subst k6;rw[jF rfl];have p2:=zb4 w0 gm m k va ve ⟨src,dst,fb⟩ zda;have Nj:(m.ZM ⟨src,dst,fb⟩).now=m.now:=rfl;simp only[flC,r6,Nj]at p2;unfold rmP;simp only[r6];repeat' (first|intro K hK|intro hc|refine xyZ ?_|refine aF ?_ ?_|refine zw2 ?_|refine bT λg=> ?_|refine zw0 λg=> ?_|refine cZ p0 λu0=> ?_|refine cZ p2 λva2=> ?_)
  refine zzJ ?_;rw[rL,ad (rmA _ _ _ _)];refine re va2 ve FW ?_;unfold rmP;rw[show(m.ZM ⟨src,dst,fb⟩).Zs=m.Zs from rfl,show(m.ZM ⟨src,dst,fb⟩).Zu=m.Zu from rfl];simp only[r6,e9,aB,Nj];exact ah
 rw[eQ k6];by_cases k7:kind=7
 ·subst k7;by_cases Wa:0<=on_
  ·rw[jF ⟨rfl,Wa⟩];obtain⟨q,hq⟩:∃q,q=fb.length - min on_.toNat fb.length:=⟨_,rfl⟩
   unfold rmP;simp only[r6];have zgq:([]++m.Zx)[kk]? =some (⟨src,dst,fb⟩:Fl):=zp;have a4:(⟨src,dst,fb⟩:Fl).bytes.length=fb.length:=rfl;have Wc:q<=fb.length:=by omega
   by_cases bW:(fb.length:Int) - on_<0
   ·have hq0:q=0:=by omega
    subst hq0;repeat' (first|intro K hK|intro hc|refine xyZ ?_|refine aF ?_ ?_|refine zfJ ?_|refine bT λg=> ?_|refine bQ λg=> ?_|refine zw0 λg=> ?_|refine cZ p0 λu0=> ?_|(refine ai (fq flC iI iI) rfl ?_;intro v0)|(refine ai (aR rfl rfl iI iI rfl iI iI zaH (by first|omega|(simp[al]<;>omega)) rfl) rfl ?_;intro v2)|(refine bL (dB (z:=(⟨src,dst,fb⟩:Fl)) (⟨src,dst,fb.take 0⟩:Fl) rfl rfl iI iI iI rfl (by assumption) rfl) ?_;intro gx))
    refine zzJ ?_;exact pby
   ·haveI:fB ((fb.length:Int) - on_) q:=⟨by omega⟩
    repeat' (first|intro K hK|intro hc|refine xyZ ?_|refine aF ?_ ?_|refine zfJ ?_|refine bT λg=> ?_|refine bQ λg=> ?_|refine zw0 λg=> ?_|refine cZ p0 λu0=> ?_|(refine ai (fq flC iI iI) rfl ?_;intro v0)|(refine ai (aR rfl rfl iI iI rfl iI iI zaH (by first|omega|(simp[al]<;>omega)) rfl) rfl ?_;intro v2)|(refine bL (dB (z:=(⟨src,dst,fb⟩:Fl)) (⟨src,dst,fb.take q⟩:Fl) rfl rfl iI iI iI rfl (by assumption) rfl) ?_;intro gx))
    refine zzJ ?_;exact pby
  ·rw[eQ (λe=>Wa e.2)];unfold rmP;simp only[r6];repeat' (first|intro K hK|intro hc|refine xyZ ?_|refine aF ?_ ?_|refine zw2 ?_|refine bT λg=> ?_|refine zw0 λg=> ?_|refine cZ p0 λu0=> ?_)
   refine zzJ ?_;exact pbD
 rw[eQ (λe=>k7 e.1)];unfold rmP;simp only[r6];repeat' (first|intro K hK|intro hc|refine xyZ ?_|refine aF ?_ ?_|refine zw4 ?_|refine bT λg=> ?_|refine zw0 λg=> ?_|refine cZ p0 λu0=> ?_)
 refine zzJ ?_;exact pbD
end Go.Proofs.YtapoehkdnglahabGreat
