/- A part. -/
import Derived.Test.YtapoehkdnglahabGreatMxa
import Derived.Test.YtapoehkdnglahabGreatMxj
import Derived.Test.YtapoehkdnglahabGreatMxc
set_option maxHeartbeats 0
set_option maxRecDepth 100000
set_option linter.all false
namespace Go.Proofs.YtapoehkdnglahabGreat
open Go.RowKit
variable (w0:World)
section
section
variable {P:Program} {n:fT} {w0:World} {E:Env} {D:List Deferred} {H F F1 F2 F3 F4:af} {Q:Exit->St->Prop} {l l':List Oper}
theorem zbM {id:Nat} (t t2 t3:Nat) (X Y:af) (idx:List Nat) {g off g2 A5 g3 U8:Nat} {bt rJ DV:TypeId} {cs pV D2:List Value} (hs:iT P l idx (λ_=>false) 1000=true) (hl:jK l idx=some l') (hx:E.get t=some (ptr g off)) (qb:E.get t2=some (ptr g2 A5)) (Wo:E.get t3=some (ptr g3 U8)) (hR:v7 H g bt cs F1) (Ca:v7 F1 g2 rJ pV F2) (QL:v7 F2 g3 DV D2 F3) (Xm:Own F3 X F4) (hR5:Own F4 Y F) (h:DL P n w0 l.toArray Q D (aK g bt cs*(aK g2 rJ pV*(aK g3 DV D2*(X*Y)))) emp (λ_=>false) 1000 0 false l' E F):WS P n w0 (.region id l.toArray true) Q ⟨E,D,H⟩:=
 iK idx l' (aK g bt cs*(aK g2 rJ pV*(aK g3 DV D2*(X*Y)))) emp F _ 1000 hs (by rw[aB,hR.eq,Ca.eq,QL.eq,Xm.eq,hR5.eq,ad,ad,ad,ad]) (gO hl) h
end
attribute [local irreducible] WS LS OpQ y6 cn cv Spec bA aK di cq
theorem zcX (gm:Nat) (k:RH) (m:Ms) (el:List ES) (o:Z3) (c:Nat) (hf:m.zaQ c) (X5:m.zcY) (hc:c<=8500) (hN:∀x∈k.hs,x.2.1<=80000/\x.2.2<=800000) (Ze:m.now.toNat<=4611686018427387904) (Cm:o.text.length<=100000) (hev:m.mU=[]) (zai:m.bars o=false) (hk:o.kind=2):Spec ucC w0 50 [ptr gm 0,opA o] (rmA gm k m el) (λ_:{y:List ES×List RX // Ups k.hs y.2}=> .tuple #[]) (λy=>rmA gm {k with hs:=y.1.2} (m.ZU o) (el++y.1.1)*e9 y.1.1):=by
 obtain⟨i,s,ei,hs,hw,Uf⟩:=Ms.zap zai;obtain⟨kind,oa,ob,on_,oo,ot⟩:=o;simp only at hk ei hw Uf Cm;subst hk;subst ei;have h6:=hf.short;refine eZ Tryz.func50 Tryz.ntmps50 λG=> ?_;refine zaW λva ve FW=> ?_;refine zaG λyl S5=> ?_;have zbV:el.length=0:=by
  exact pag
 have Rg:=zzG yl
 have hi:=(az.1 hs).1;obtain⟨x,JQ⟩:∃x,k.hs[i]? =some x:=⟨_,aX (by omega)⟩
 have hxp:=zzX JQ
 have l5:=(m.zaw i).trans hs;have Hq:=hf.sound i s hs;have p1:=r8 w0 gm m k va ve (i:Int) m.Zs.length yl;have p2:=r8 w0 gm m k va ve ob m.Zs.length yl;rw[Dp ⟨by omega,by omega⟩]at p1;simp only[opA,opC,aN];obtain⟨j,s2,ej,fP⟩:=Uf (by decide);subst ej;have hj:=(az.1 fP).1;rw[Dp ⟨by omega,by omega⟩]at p2;have zcQ:=(m.zaw j).trans fP;obtain⟨x2,zc6⟩:∃x,k.hs[j]? =some x:=⟨_,aX (by omega)⟩
 have zf2:=zzX zc6
 obtain⟨OP,vT⟩:=hN x (jq JQ);cases ht:s.node with
 |none=>rw[ht]at hw;exact zzA (hw (by decide))
 |some t=>
  have F6:=(Hq.node t ht).1;rw[Ms.zca zai rfl l5 ht zcQ];simp only[D3];by_cases OE:i=j
  ·skip;subst OE;obtain rfl:x=x2:=by rw[zc6]at JQ;exact(PL JQ).symm
   obtain rfl:s=s2:=by rw[fP]at hs;exact(PL hs).symm
   obtain⟨R,e1,e2⟩:=zay yl JQ hs;refine zaE e1 λgn=> ?_;unfold rmS y9;simp only[r6]at p1 p2;by_cases he:t.gA s.addr ot=0
   ·rw[jF he];have Wk:=F6.Dw Ze s.addr ot (by unfold Nd.gA at he;split at he;cases he;omega);have OA:=Nd.za7 t m.now s.addr ot;have Kc:=Nd.Ij t m.now s.addr ot;have p4:=(PF w0 x.2.1 x.2.2 gn t m.now s.addr ot F6 hc Ze (X5 _ _ _ hs ht) OP vT he).zdi yo lZ (λx w F hx=>by rw[ad,aM]at hx;exact eR hx);have p5:=fun(v:SO×SO×SO)=>zaO w0 gm k i (c+1) x (x.1,x.2.1+1,x.2.2+5) JQ rfl m el (t.iG m.now s.addr ot).out (yo v) s (·.run (t.iG m.now s.addr ot)) (t.iG m.now s.addr ot) (λ_=>rfl) rfl hs ((Hq.mono (Xn c)).Z5 ht Wk) Wk.R9.le (by omega) hf.Zx (by rw[hev];simp only[HM];omega) h6 (λ_=>Kc) FW R (e2 _ _) va ve gn;generalize t.iG m.now s.addr ot=t2 at*
    simp only[r6,zak,ht,jo,zat];simp only[fp,yo,cT,r6,Zr.zaz,Zr.zao,Zr.v8,ad]at p4 p5 ⊢;repeat' (first|refine zgA ?_|intro K hK|intro hc|refine xyZ ?_|refine aF ?_ ?_|refine zw3 λg=> ?_|refine zd4 ?_|refine zw1 ?_|refine bT λg=> ?_|refine bQ λg=> ?_|refine zf1 ?_|refine cZ p4 λx7=> ?_|refine cZ (p5 x7) λzar=> ?_|refine cZ p1 λu1=> ?_)
    --tg
    all_goals try(cases hc;done)
    exact aj (.inr rfl) rfl ⟨⟨(zar,_),Ups.set JQ⟩,rfl,ah⟩
   ·rw[eQ he];have p4:=Bh w0 ⟨x.2.1,none,x.2.2⟩ gn t m.now s.addr ot he;have p3:=zbw w0 gm m k va ve el (i:Int) (t.gA s.addr ot) (by omega);generalize t.gA s.addr ot=e at*
    simp only[r6,zak,ht,jo,zat,ad];simp only[xQ,r6]at p3 p4;repeat' (first|refine zgA ?_|intro K hK|intro hc|refine xyZ ?_|refine aF ?_ ?_|refine zw3 λg=> ?_|refine zw5 ?_|refine zw1 ?_|refine bT λg=> ?_|refine bQ λg=> ?_|refine zf1 ?_|refine cZ p4 λx7=> ?_|refine cZ p3 λve2=> ?_|refine cZ p1 λu1=> ?_)
    all_goals try(cases hc;done)
    refine aj (.inl rfl) rfl ⟨⟨([k8 (i:Int) e],k.hs),Ups.PA _⟩,rfl,?_⟩;(try rw[ad (rmA _ _ _ _)]);refine re (m:=m.refuse (i:Int) e) va ve2 (by rw[EZ,FW];rfl) ?_;refine zae (m:=m.refuse (i:Int) e) gn e1 ?_;unfold rmS y9;simp only[r6,zak,ht,jo,zat,Ms.refuse,Ms.event,e9,evO,r5,k8,svV,cT,dS.zero,b5];exact ah
  ·skip;obtain⟨R,e1,e2⟩:=zb5 yl JQ hs zc6 fP OE;refine zaE e1 λgn=> ?_;unfold rmS y9;simp only[r6]at p1 p2;by_cases he:t.gA s2.addr ot=0
   ·rw[jF he];have Wk:=F6.Dw Ze s2.addr ot (by unfold Nd.gA at he;split at he;cases he;omega);have OA:=Nd.za7 t m.now s2.addr ot;have Kc:=Nd.Ij t m.now s2.addr ot;have p4:=(PF w0 x.2.1 x.2.2 gn t m.now s2.addr ot F6 hc Ze (X5 _ _ _ hs ht) OP vT he).zdi yo lZ (λx w F hx=>by rw[ad,aM]at hx;exact eR hx);have p5:=fun(v:SO×SO×SO)=>zaO w0 gm k i (c+1) x (x.1,x.2.1+1,x.2.2+5) JQ rfl m el (t.iG m.now s2.addr ot).out (yo v) s (·.run (t.iG m.now s2.addr ot)) (t.iG m.now s2.addr ot) (λ_=>rfl) rfl hs ((Hq.mono (Xn c)).Z5 ht Wk) Wk.R9.le (by omega) hf.Zx (by rw[hev];simp only[HM];omega) h6 (λ_=>Kc) FW (zaJ x2 s2*R) (e2 _ _) va ve gn;generalize t.iG m.now s2.addr ot=t2 at*
    simp only[r6,zak,ht,jo,zat];simp only[fp,yo,cT,r6,Zr.zaz,Zr.zao,Zr.v8,ad]at p4 p5 ⊢;repeat' (first|refine zgA ?_|intro K hK|intro hc|refine xyZ ?_|refine aF ?_ ?_|refine zw3 λg=> ?_|refine zd4 ?_|refine zw6 ?_|refine bT λg=> ?_|refine bQ λg=> ?_|refine zhM ?_|(refine' bk rfl rfl ?zh ?_;(case zh=>intro F';exact zbY (s:=s2) (b:=x2) rfl iI iI))|refine cZ p4 λx7=> ?_|refine cZ (p5 x7) λzar=> ?_|refine cZ p1 λu1=> ?_|refine cZ p2 λu2=> ?_)
    --tg
    all_goals try(cases hc;done)
    exact aj (.inr rfl) rfl ⟨⟨(zar,_),Ups.set JQ⟩,rfl,ah⟩
   ·rw[eQ he];have p4:=Bh w0 ⟨x.2.1,none,x.2.2⟩ gn t m.now s2.addr ot he;have p3:=zbw w0 gm m k va ve el (i:Int) (t.gA s2.addr ot) (by omega);generalize t.gA s2.addr ot=e at*
    simp only[r6,zak,ht,jo,zat,ad];simp only[xQ,r6]at p3 p4;repeat' (first|refine zgA ?_|intro K hK|intro hc|refine xyZ ?_|refine aF ?_ ?_|refine zw3 λg=> ?_|refine zw5 ?_|refine zw6 ?_|refine bT λg=> ?_|refine bQ λg=> ?_|refine zhM ?_|(refine' bk rfl rfl ?zh ?_;(case zh=>intro F';exact zbY (s:=s2) (b:=x2) rfl iI iI))|refine cZ p4 λx7=> ?_|refine cZ p3 λve2=> ?_|refine cZ p1 λu1=> ?_|refine cZ p2 λu2=> ?_)
    all_goals try(cases hc;done)
    refine aj (.inl rfl) rfl ⟨⟨([k8 (i:Int) e],k.hs),Ups.PA _⟩,rfl,?_⟩;(try rw[ad (rmA _ _ _ _)]);refine re (m:=m.refuse (i:Int) e) va ve2 (by rw[EZ,FW];rfl) ?_;refine zae (m:=m.refuse (i:Int) e) gn e1 ?_;unfold rmS y9;simp only[r6,zak,ht,jo,zat,Ms.refuse,Ms.event,e9,evO,r5,k8,svV,cT,dS.zero,b5];exact ah
theorem zdM (gm) (k:RH) (m:Ms) (el) (o:Z3) (c) (hf:m.zaQ c) (ha0:∀s∈m.Zs,s.addr≠0) (hev:m.mU=[]) (zai:m.bars o=false) (hk:o.kind=11):Spec ucC w0 50 [ptr gm 0,opA o] (rmA gm k m el) (λ_:{y:List ES×List RX // Ups k.hs y.2}=> .tuple #[]) (λy=>rmA gm {k with hs:=y.1.2} (m.ZU o) (el++y.1.1)*e9 y.1.1):=by
 obtain⟨i,s,ei,hs,hw,Uf⟩:=Ms.zap zai;obtain⟨kind,oa,ob,on_,oo,ot⟩:=o;simp only at hk ei hw Uf;subst hk;subst ei;have h6:=hf.short;refine eZ Tryz.func50 Tryz.ntmps50 λG=> ?_;refine zaW λva ve FW=> ?_;refine zaG λyl S5=> ?_;have Rg:=zzG yl
 have hi:=(az.1 hs).1;obtain⟨x,JQ⟩:∃x,k.hs[i]? =some x:=⟨_,aX (by omega)⟩
 have hxp:=zzX JQ
 have l5:=(m.zaw i).trans hs;have Hq:=hf.sound i s hs;have p1:=r8 w0 gm m k va ve (i:Int) m.Zs.length yl;have p2:=r8 w0 gm m k va ve ob m.Zs.length yl;rw[Dp ⟨by omega,by omega⟩]at p1;simp only[opA,opC,aN];cases ht:s.node with
 |some t=>exact absurd ((hw (by decide)).trans (show decide ((11:Int)=11)=true by decide)) (by rw[ht];exact λh:false=true=>by cases h)
 |none=>
  rw[Ms.zb8 zai rfl l5];simp only[D3];obtain⟨R,e1,e2⟩:=zay yl JQ hs;refine zaE e1 λgn=> ?_;unfold rmS y9;have Wb:=Nd.zcw s.addr s.ay m.now;have Ng:=Hq.Yt;have p4:=(Ic w0 (x.2.1+1) (x.2.2+5) s.addr (ha0 s (jq hs)) s.ay (by omega) m.now).zdi (λy:Nat×SO×SO×SO=>(y.1,yo y.2)) (λx=>(x.1,lZ x.2)) (λx w F hx=>by rw[ad,aM]at hx;show(x.1,yo (lZ x.2))=x;rw[eR hx]);have p5:=fun(gn':Nat) (v:SO×SO×SO)=>zaO w0 gm k i c x (x.1,x.2.1+1,x.2.2+5) JQ rfl m el (Nd.gZ s.addr s.ay m.now) (yo v) s (Zr.zcq m.now) (Nd.new s.addr s.ay m.now) (λ_=>rfl) rfl hs (Hq.zcq m.now) (by rw[Wb.1];simp) (by rw[Wb.1];simp) hf.Zx (by rw[hev,Wb.1];simp) h6 (λh=>absurd Wb.1 h) FW R (e2 _ _) va ve gn';have eb1:(s.zcq m.now).Zw=s.Zw:=rfl;have eb2:(s.zcq m.now).ZL=false:=rfl;have eb3:(s.zcq m.now).ay=s.ay:=rfl;rw[eb1,eb2,eb3]at p5;generalize Nd.new s.addr s.ay m.now=t2 at*
  generalize Nd.gZ s.addr s.ay m.now=o2 at*
  simp only[r6]at p1 p2;simp only[r6,zak,ht,jo,zat,ad,aB];simp only[fp,yo,cT,r6,ad]at p4 p5 ⊢;generalize decide (0<=ob/\ob<(m.Zs.length:Int))=bb at p2;cases bb;all_goals
   repeat' (first|refine zgA ?_|intro hc|refine yZ ?_|refine aF ?_ ?_|refine zw3 λg=> ?_|refine zw5 ?_|refine zw1 ?_|(show WS _ _ _ (.region 30 _ true) _ _;refine GO 0 6 (List.range 21) (by decide+kernel) rfl rfl rfl iI iI ?_)|refine cZ p4 λx4=> ?_|refine cZ (p5 x4.1 x4.2) λzar=> ?_|refine cZ p1 λu1=> ?_|refine cZ p2 λu2=> ?_)
   exact aj (.inr rfl) rfl ⟨⟨(zar,_),Ups.set JQ⟩,rfl,ah⟩
structure zev (hs eI:List RX) (q:Nat):Prop where
 ups:Ups hs eI
 RJ:∀i,q<=i->eI[i]? =hs[i]?
theorem zev.zero (hs):zev hs hs 0:=⟨Ups.PA hs,λ_ _=>rfl⟩
theorem zev.skip {hs eI q} (h:zev hs eI q):zev hs eI (q+1):=⟨h.ups,λi hi=>h.RJ i (by omega)⟩
theorem zev.set {hs eI:List RX} {q x} (h:zev hs eI q) (hx:hs[q]? =some x):zev hs (eI.set q (x.1,x.2.1+1,x.2.2+5)) (q+1):=by
 refine⟨⟨(zcS (y:=(x.1,x.2.1+1,x.2.2+5)) ((h.RJ q (uL _)).trans hx) rfl).trans h.ups.ptr,λN I hN y hy=> ?_⟩,λi hi=> ?_⟩
 ·rcases W7 hy with hy|hy
  ·exact h.ups.le N I hN y hy
  ·subst hy;have:=hN x (jq hx);exact⟨by show x.2.1+1<=N+1;omega,by show x.2.2+5<=I+5;omega⟩
 ·rw[Dg,eQ (by omega)];exact h.RJ i (by omega)
theorem zdR (gm:Nat) (k:RH) (m:Ms) (el:List ES) (o:Z3) (c:Nat) (hf:m.zaQ c) (X5:m.zcY) (SH:m.Adr) (hc:c<=8500) (hN:∀x∈k.hs,x.2.1<=80000/\x.2.2<=800000) (Ze:m.now.toNat<=4611686018427387904) (Cm:o.text.length<=100000) (hk:o.kind=1\/o.kind=2\/o.kind=8\/o.kind=9\/o.kind=10\/o.kind=11) (hev:m.mU=[]):Spec ucC w0 50 [ptr gm 0,opA o] (rmA gm k m el) (λ_:{y:List ES×List RX // Ups k.hs y.2}=> .tuple #[]) (λy=>rmA gm {k with hs:=y.1.2} (m.ZU o) (el++y.1.1)*e9 y.1.1):=by
 cases hb:m.bars o with
 |true=>
  rw[Ms.zbv hb];exact(zcI w0 gm k m el o c hf hk hev hb).zbB (aq.refl _) λnew=>⟨⟨(new,k.hs),Ups.PA _⟩,rfl,aq.refl _⟩
 |false=>
  rcases hk with h|h|h|h|h|h
  ·exact zdO w0 gm k m el o c hf hev hb h
  ·exact zcX w0 gm k m el o c hf X5 hc hN Ze Cm hev hb h
  ·exact zdS w0 gm k m el o c hf X5 hc hN Ze Cm hev hb h
  ·exact zdU w0 gm k m el o c hf hev hb h
  ·exact zee w0 gm k m el o c hf hev hb h
  ·exact zdM w0 gm k m el o c hf SH hev hb h
theorem zcG (gm k) (m:Ms) (el) (o:Z3) (hk:¬(0<=o.a/\0<m.Zx.length)):Spec ucC w0 47 [ptr gm 0,opA o] (rmA gm k m el) (λ_:Unit=> .tuple #[]) (λ_=>rmA gm k m el):=by
 refine eZ Tryz.func47 Tryz.ntmps47 λG=> ?_;refine zaW λva ve FW=> ?_;have p0:=zcJ w0 gm m k va ve o.a hk;obtain⟨kind,oa,ob,on_,oo,ot⟩:=o;unfold rmP;simp only[opA,opC,aN,r6]at p0 ⊢;repeat' (first|intro hc|refine yZ ?_|refine aF ?_ ?_|refine zw8 ?_|refine cZ p0 λu0=> ?_)
 refine aj (.inl rfl) rfl ⟨(),rfl,?_⟩;refine re va ve FW ?_;unfold rmP;simp only[r6];exact ah
theorem zer (gm:Nat) (k:RH) (m:Ms) (o:Z3) (c:Nat) (hf:m.zaQ c) (X5:m.zcY) (SH:m.Adr) (hc:c<=8500) (hN:∀x∈k.hs,x.2.1<=80000/\x.2.2<=800000) (hn:m.now.toNat+60000<=4611686018427387904) (ho:o.Ok) (Cm:o.text.length<=100000):Spec ucC w0 29 [ptr gm 0,opA o] (rmI gm k m) (λx:{x:Value×List ES×List RX // Ups k.hs x.2.2/\x.2.1.map (·.1)=(m.do_ o).mU}=>x.1.1) (λx=>rmI gm {k with hs:=x.1.2.2} (m.do_ o)*(rows 68 7 evC x.1.1 x.1.2.1*e9 x.1.2.1)):=by
 obtain⟨kind,oa,ob,on_,oo,ot⟩:=o;obtain⟨kvs,khs,kvh,khv⟩:=k;have hon:=ho.n;simp only at hon Cm hN;have zda:=hf.Zx.QG;have j7:Ms.zaQ {m with mU:=[]} c:=hf.clear;have zfn:Ms.zcY {m with mU:=[]}:=X5.of rfl (uL _);have zfK:Ms.Adr {m with mU:=[]}:=SH;refine eZ Tryz.func29 Tryz.ntmps29 λG=> ?_;unfold rmI;refine iU λy=> ?_;obtain⟨va,ve⟩:=y;have SY:∀Z,aq ((aK gm 124 (r6 m ⟨kvs,khs,kvh,khv⟩ va (.slice none 0 0))*(rows 128 1 Z4 kvs (khs.map (·.1))*(rows 131 1 soC kvh khv*(r7 khv m.Zs.length m.Zu*(zam khs m.Zs*rows 114 3 flC va m.Zx)))))*Z) (rmA gm ⟨kvs,khs,kvh,khv⟩ {m with mU:=[]} []*Z):=λZ=>by
  refine re va (.slice none 0 0) rfl ?_;simp only[rmP,r6];exact ah
 simp only[r6]at SY;rw[ad,ad,ad,ad,ad];simp only[r6,opA,opC,aN];by_cases hF:kind=4\/kind=5\/kind=6\/kind=7
 ·have hdo:=Ms.zc3 (m:=m) (o:=⟨kind,oa,ob,on_,oo,ot⟩) hF;simp only at hdo;by_cases h1:0<=oa/\0<m.Zx.length
  ·rw[jF h1]at hdo;rw[hdo];have p1:=(zdk w0 gm ⟨kvs,khs,kvh,khv⟩ {m with mU:=[]} [] ⟨kind,oa,ob,on_,oo,ot⟩ (oa.toNat % m.Zx.length) c j7 zfn hc (λx hx=>(hN x hx).1) ⟨h1.1,h1.2,rfl⟩ ho.n rfl).conv (SY) (λ_ _=>aq.refl _);simp only[opA,opC]at p1;generalize Ms.frame {m with mU:=[]} ⟨kind,oa,ob,on_,oo,ot⟩ (oa.toNat % m.Zx.length)=m2 at*
   repeat' (first|(refine hK _ ?_;clear hK K)|intro K hK|(intro hc;try exact aG)|refine xyZ ?_|refine aF ?_ ?_|refine zw8 ?_|((first|refine dn rfl rfl iI rfl ?_ ?_|refine dm rfl rfl iI rfl ?_ ?_|refine dU rfl rfl iI rfl ?_ ?_)<;>intro hc)|refine bT λg=> ?_|refine bQ λg=> ?_|refine cZ p1 λnew=> ?_)
   all_goals
    simp only[ad,aB,b5]
    unfold rmA
    refine DD λy=> ?_
    rw[ad]
    refine lH iI λFW=> ?_
    rw[zF]at FW
    simp only[zF,rmP,r6,ad]
    repeat' (first|(refine hK _ ?_;clear hK K)|refine ax ?_)
    refine aC (.inl rfl) rfl rfl ⟨⟨(y.2,new.1.1,new.1.2),new.2,FW⟩,rfl,?_⟩
    simp only[rmI,r6,aB,ad]
    refine aq.mX (y.1,y.2) ?_
    simp only[r6,ad]
    exact ah
  ·rw[eQ h1]at hdo;rw[hdo];have p1:=(zcG w0 gm ⟨kvs,khs,kvh,khv⟩ {m with mU:=[]} [] ⟨kind,oa,ob,on_,oo,ot⟩ h1).conv (SY) (λ_ _=>aq.refl _);simp only[opA,opC]at p1;repeat' (first|(refine hK _ ?_;clear hK K)|intro K hK|(intro hc;try exact aG)|refine xyZ ?_|refine aF ?_ ?_|refine zw8 ?_|((first|refine dn rfl rfl iI rfl ?_ ?_|refine dm rfl rfl iI rfl ?_ ?_|refine dU rfl rfl iI rfl ?_ ?_)<;>intro hc)|refine bT λg=> ?_|refine bQ λg=> ?_|refine cZ p1 λu1=> ?_)
   all_goals
    simp only[ad,aB,b5]
    unfold rmA
    refine DD λy=> ?_
    rw[ad]
    refine lH iI λFW=> ?_
    simp only[rmP,r6,ad]
    repeat' (first|(refine hK _ ?_;clear hK K)|refine ax ?_)
    refine aC (.inl rfl) rfl rfl ⟨⟨(y.2,[],khs),Ups.PA _,rfl⟩,rfl,?_⟩
    simp only[rmI,r6,e9,aB,b5,ad]
    refine aq.mX (y.1,y.2) ?_
    simp only[r6,ad]
    exact ah
 ·by_cases h3:kind=3
  ·have hdo:=Ms.zd0 (m:=m) (o:=⟨kind,oa,ob,on_,oo,ot⟩) h3;simp only at hdo;by_cases h1:1<=on_/\on_<=60000
   ·rw[jF h1]at hdo;have hna:=Ms.zeD (m:=m) on_ h1 hn;obtain⟨h1,h2⟩:=h1;obtain⟨nn,X1⟩:∃nn,nn=m.now+UInt64.ofNat on_.toNat:=⟨_,rfl⟩
    obtain⟨m1,Mk⟩:∃m1:Ms,m1={m with now:=nn,mU:=[]}:=⟨_,rfl⟩
    have zdd:Ms.tick {m with mU:=[]} (UInt64.ofNat on_.toNat)=Ms.ZF m1.Zs.length m1:=by rw[Mk,X1];rfl
    rw[zdd]at hdo;rw[hdo];rw[<-X1]at hna;have hfm:m1.zaQ c:=by rw[Mk];exact⟨hf.short,hf.sound,⟨hf.Zx.QG,hf.Zx.each⟩⟩
    have sY:m1.now=nn:=by rw[Mk]
    have zcj:m1.mU=[]:=by rw[Mk]
    have h6:=hfm.short;have Rl:∀(i:Nat) s t,m1.Zs[i]? =some s->s.node=some t->t.now.toNat<=nn.toNat:=λi s t h5 h6=>WA (X5 i s t (by rw[Mk]at h5;exact h5) h6) hna.1;repeat' (first|(refine hK _ ?_;clear hK K)|refine ae (id:=10) (.range 12) 11 [4,6,7] ?_|refine zaN (id:=10) 0 3 (.range 12) 11 [4] ?_|intro K hK|intro hc|refine xyZ ?_|refine aF ?_ ?_|refine zfl ?_|((first|refine' LQ ?zh rfl ?_|refine' bP rfl rfl rfl ?zh ?_|refine' bk rfl rfl ?zh ?_);case zh=>intro F';exact bE rfl rfl iI)|refine bT λg=> ?_|refine bQ λg=> ?_|(refine' bk rfl rfl ?zh ?_;(case zh=>intro F';exact zd5 rfl (by omega) iI iI))|fail)
    refine aV (λkk τ=>∃(q:Nat) (new:List ES) (eI:List RX),q+kk=m1.Zs.length/\zev khs eI q/\τ=⟨[(5,.int .i64 (q:Int)),(0,ptr gm 0)],[],rmA gm ⟨kvs,eI,kvh,khv⟩ (Ms.ZF q m1) new*(e9 new*G)⟩) ?_ ?_
    ·refine⟨m1.Zs.length,_,⟨0,[],khs,by omega,zev.zero _,rfl⟩,cG,rfl,?_⟩;refine re va (.slice none 0 0) (by show _=m1.mU;rw[zcj];rfl) ?_;rw[Mk,X1];simp only[Ms.ZF,rmP,r6,e9,aB];exact ah
    ·clear SY zdd;rintro kk τ ⟨q,new,eI,hqk,hU,rfl⟩;have hT:=Ms.zbQ hfm hc (by rw[sY];exact hna.2) q (by omega);rcases jP q m1.Zs.length with bW|kQ
     ·obtain⟨s,hs⟩:∃s,m1.Zs[q]? =some s:=⟨_,aX bW⟩
      have Hq:=hfm.sound q s hs;have Yd:=(hT.RJ q (uL _)).trans hs;have zax:Ms.ZF (q+1) m1=match s.node with|some t=>Ms.emit q ((Ms.ZF q m1).mod q (·.run (t.iH (Ms.ZF q m1).now))) (t.iH (Ms.ZF q m1).now).out|none=>Ms.ZF q m1:=by
       exact pbF
      rw[hT.now,sY]at zax;have hlq:=hT.length;have zcv:=hT.Zx;have zeY:=hT.mU;rw[zcj,HM,ubz,zdr]at zeY;have X2:=hT.now.trans sY;clear hT;generalize Ms.ZF q m1=mq at*
      refine zaW λva1 ve1 FW=> ?_;refine zaG λyl S5=> ?_;simp only at yl S5;have Rg:(eI.map (·.1)).length=m1.Zs.length:=by rw[Hu,yl,hlq]
      obtain⟨x,JQ⟩:∃x,eI[q]? =some x:=⟨_,aX (by omega)⟩
      have hkx:=(hU.RJ q (uL _)).symm.trans JQ;obtain⟨OP,vT⟩:=hN x (jq hkx);have hxp:(eI.map (·.1))[q]? =some x.1:=by rw[zA,JQ];rfl
      obtain⟨R,e1,e2⟩:=zay yl JQ Yd;refine zaE e1 λgn=> ?_;unfold rmS y9;have Wc:(q:Int)<((eI.map (·.1)).length:Int):=by omega
      simp only[r6,zak,X2];cases ht:s.node with
      |none=>
       rw[ht]at zax;simp only at zax;simp only[jo,zat];repeat' (first|(refine hK _ ?_;clear hK K)|intro K hK|intro hc|refine xyZ ?_|refine aF ?_ ?_|refine zw8 ?_|refine zw1 ?_)
       refine⟨kk - 1,_,by omega,⟨q+1,new,eI,by omega,hU.skip,rfl⟩,cG,rfl,?_⟩;rw[zax];refine re va1 ve1 FW ?_;refine zae gn e1 ?_;unfold rmS y9;simp only[r6,zak,ht,jo,zat,X2];exact ah
      |some t=>
       rw[ht]at zax;simp only at zax;have F6:=(Hq.node t ht).1;have hw:=F6.Dx hc hna.2;have zbO:=(Hq.mono (Xn c)).Z5 ht hw;have OA:=Nd.zbx F6 hc hna.2;have Kc:=Nd.Iq F6 hc hna.2;have p1:=(PH w0 x.2.1 x.2.2 gn t nn F6 hc hna.2 (Rl q s t hs ht) OP vT).zdi yo lZ (λx w F hx=>by rw[ad,aM]at hx;exact eR hx);have p2:=fun(v:SO×SO×SO)=>zaO w0 gm ⟨kvs,eI,kvh,khv⟩ q (c+1) x (x.1,x.2.1+1,x.2.2+5) JQ rfl mq new (t.iH nn).out (yo v) s (·.run (t.iH nn)) (t.iH nn) (λ_=>rfl) rfl Yd zbO hw.R9.le (by omega) zcv (by omega) (by omega) (λ_=>Kc.trans X2.symm) FW R (e2 _ _) va1 ve1 gn;simp only[jo,zat];generalize t.iH nn=t2 at*
       simp only[fp,yo,cT,r6,Zr.zaz,Zr.zao,Zr.v8,X2,ad]at p1 p2;repeat' (first|(refine hK _ ?_;clear hK K)|intro K hK|intro hc|refine xyZ ?_|refine aF ?_ ?_|refine zbj ?_|refine zw1 ?_|refine ae (id:=15) (.range 18) 16 [5,7,8,11,15] ?_|refine cZ p1 λx7=> ?_|refine cZ (p2 x7) λzar=> ?_)
       --tg
       refine⟨kk - 1,_,by omega,⟨q+1,new++zar,eI.set q (x.1,x.2.1+1,x.2.2+5),by omega,hU.set hkx,rfl⟩,cG,rfl,?_⟩;rw[zax,zaU];exact ah
     ·obtain rfl:q=m1.Zs.length:=by omega
      have hlq:=hT.length;clear hT;generalize Ms.ZF m1.Zs.length m1=mq at*
      refine zaW λva1 ve1 FW=> ?_;refine zaG λyl S5=> ?_;simp only at yl S5;have Wc:¬(m1.Zs.length:Int)<((eI.map (·.1)).length:Int):=by rw[Hu,yl,hlq];omega
      unfold rmP;simp only[r6];repeat' (first|(refine hK _ ?_;clear hK K)|intro K hK|intro hc|refine xyZ ?_|refine aF ?_ ?_|refine zw4 ?_)
      refine aC (.inl rfl) rfl rfl ⟨⟨(ve1,new,eI),hU.ups,FW⟩,rfl,?_⟩;simp only[rmI,r6,aB,ad];refine aq.mX (va1,ve1) ?_;simp only[r6,ad];exact ah
   ·rw[eQ h1]at hdo;rw[hdo];repeat' (first|(refine hK _ ?_;clear hK K)|intro K hK|(intro hc;try exact aG)|refine xyZ ?_|refine aF ?_ ?_|refine zw2 ?_|((first|refine dn rfl rfl iI rfl ?_ ?_|refine dm rfl rfl iI rfl ?_ ?_|refine dU rfl rfl iI rfl ?_ ?_)<;>intro hc)|refine bT λg=> ?_|refine bQ λg=> ?_)
    all_goals
     refine aC (.inl rfl) rfl rfl ⟨⟨(.slice none 0 0,[],khs),Ups.PA _,rfl⟩,rfl,?_⟩
     simp only[rmI,r6,e9,aB,b5,ad]
     refine aq.mX (va,.slice none 0 0) ?_
     simp only[r6,ad]
     exact ah
  ·by_cases hK:kind=1\/kind=2\/kind=8\/kind=9\/kind=10\/kind=11
   ·have hdo:=Ms.zdY (m:=m) (o:=⟨kind,oa,ob,on_,oo,ot⟩) hK;rw[hdo];have p1:=(zdR w0 gm ⟨kvs,khs,kvh,khv⟩ {m with mU:=[]} [] ⟨kind,oa,ob,on_,oo,ot⟩ c j7 zfn zfK hc hN (by show m.now.toNat<=_;omega) Cm hK rfl).conv (SY) (λ_ _=>aq.refl _);simp only[opA,opC]at p1;generalize Ms.ZU {m with mU:=[]} ⟨kind,oa,ob,on_,oo,ot⟩=m2 at*
    repeat' (first|(refine hK _ ?_;clear hK K)|intro K hK|(intro hc;try exact aG)|refine xyZ ?_|refine aF ?_ ?_|refine zw2 ?_|((first|refine dn rfl rfl iI rfl ?_ ?_|refine dm rfl rfl iI rfl ?_ ?_|refine dU rfl rfl iI rfl ?_ ?_)<;>intro hc)|refine bT λg=> ?_|refine bQ λg=> ?_|refine cZ p1 λnew=> ?_)
    all_goals
     simp only[ad,aB,b5]
     unfold rmA
     refine DD λy=> ?_
     rw[ad]
     refine lH iI λFW=> ?_
     rw[zF]at FW
     simp only[zF,rmP,r6,ad]
     repeat' (first|(refine hK _ ?_;clear hK K)|refine ax ?_)
     refine aC (.inl rfl) rfl rfl ⟨⟨(y.2,new.1.1,new.1.2),new.2,FW⟩,rfl,?_⟩
     simp only[rmI,r6,aB,ad]
     refine aq.mX (y.1,y.2) ?_
     simp only[r6,ad]
     exact ah
   ·have hdo:=Ms.zdZ (m:=m) (o:=⟨kind,oa,ob,on_,oo,ot⟩) hF h3 hK;rw[hdo];repeat' (first|(refine hK _ ?_;clear hK K)|intro K hK|intro hc|refine xyZ ?_|refine aF ?_ ?_|refine zw4 ?_|refine bT λg=> ?_|refine bQ λg=> ?_)
    refine aC (.inl rfl) rfl rfl ⟨⟨(.slice none 0 0,[],khs),Ups.PA _,rfl⟩,rfl,?_⟩;simp only[rmI,r6,e9,aB,b5,ad];refine aq.mX (va,.slice none 0 0) ?_;simp only[r6,ad];exact ah
end
section
instance:cY opC 6:=⟨λ_=>rfl⟩
theorem Spec.zfu {P:Program} {w0:World} {f:FuncId} {args:List Value} {X:af} {α:Type} {res:α->Value} {B:α->af} {φ:α->Prop} (h:Spec P w0 f args X res (λx=>pure' (φ x)*B x)):Spec P w0 f args X (λx:{x // φ x}=>res x.1) (λx=>B x.1):=λG w hs=>(h G w hs).mono λe w' ⟨x,he,hx⟩=>by
 have qb:Sat w0 w' (pure' (φ x)*(B x*G)):=hx.cast (by ac_rfl);obtain⟨hp,Wo⟩:=qb.pure;exact⟨⟨x,hp⟩,he,Wo⟩
theorem zd8 (l:List UInt32):∃j,j<=l.length/\(∀a∈l.take j,a≠0)/\(l.take j).Nodup/\∀a,l[j]? =some a->a=0\/a∈l.take j:=by
 have key:∀n,n<=l.length->(∃j,j<=l.length/\(∀a∈l.take j,a≠0)/\(l.take j).Nodup/\∀a,l[j]? =some a->a=0\/a∈l.take j)\/((∀a∈l.take n,a≠0)/\(l.take n).Nodup):=by
  intro n;induction n with
  |zero=>intro _;exact .inr ⟨by simp,by simp⟩
  |succ n ih=>
   intro hn;rcases ih (by omega)with h|⟨h1,h2⟩
   ·exact .inl h
   ·obtain⟨a,ha⟩:∃a,l[n]? =some a:=⟨_,aX (by omega)⟩
    by_cases hb:a=0\/a∈l.take n
    ·exact .inl ⟨n,by omega,h1,h2,λx hx=>by rw[ha]at hx;cases hx;exact hb⟩
    ·have e:l.take (n+1)=l.take n++[a]:=by rw[AP,ha];rfl
     refine .inr ⟨λx hx=> ?_,?_⟩
     ·rw[e]at hx;rcases Lz.1 hx with hx|hx
      ·exact h1 x hx
      ·simp only[Z1]at hx;subst hx;exact λh=>hb (.inl h)
     ·rw[e];refine Yw.2 ⟨h2,by simp,λx hx y hy=> ?_⟩;simp only[Z1]at hy;subst hy;exact λh=>hb (.inr (h▸hx))
 rcases key l.length (uL _)with h|⟨h1,h2⟩
 ·exact h
 ·exact⟨l.length,uL _,h1,h2,λa ha=>by rw[EJ (uL _)]at ha;cases ha⟩
structure zfd (i:Nat) (m:Ms) (hs:List RX):Prop where
 zeW:m.zaQ i
 Py:m.zcY
 adr:m.Adr
 now:m.now.toNat<=60000*i
 hs:∀x∈hs,x.2.1<=i/\x.2.2<=5*i
theorem zfd.new {l:List UInt32} {hs} (h6:l.length<=6) (h0:∀a∈l,a≠0) (h:∀x∈hs,x.2.1=0/\x.2.2=0):zfd 0 (Ms.new l) hs:=⟨Ms.zeP h6,Ms.zeZ l,Ms.zfh h0,uau _,λx hx=>by have:=h x hx;omega⟩
theorem zfd.skip {i m hs} (h:zfd i m hs):zfd (i+1) m hs:=⟨h.zeW.mono (Xn i),h.Py,h.adr,by have:=h.now;omega,λx hx=>by have:=h.hs x hx;omega⟩
theorem zfd.step {i:Nat} {m:Ms} {hs eI:List RX} (h:zfd i m hs) (hi:i<=5000) {o:Z3} (ho:o.Ok) (hu:Ups hs eI):zfd (i+1) (m.do_ o) eI:=by
 have hn:=h.now;obtain⟨s1,s2⟩:=h.zeW.ze0 (by omega) (by omega) o;exact⟨h.zeW.do_ (by omega) (by omega) ho,Ms.zcY.do_ h.zeW h.Py (by omega) (by omega) o,h.adr.of s2,by omega,λx hx=>by have:=hu.le i (5*i) h.hs x hx;omega⟩
attribute [local irreducible] WS LS OpQ y6 cn cv Spec bA aK di cq
theorem zdC (v l v2 sc) (gG:∀o∈sc, -9223372036854775808<=o.n/\o.n<=9223372036854775807) (X) [hX:eX w0 X v UInt32 1 cA l] [hX2:eX w0 X v2 Z3 6 opC sc]:
 Spec ucC w0 9 [v,v2] X (λ_:Unit=> .bool true) (λ_=>X):=by
 refine eZ Tryz.func9 Tryz.ntmps9 λG=> ?_
 simp only[aN]
 by_cases b1:(4096:Int)<(l.length:Int)
 ·repeat' (first|intro hc|refine xyZ ?_|refine aF ?_ ?_|refine zw8 ?_)
  exact aC (.inl rfl) rfl rfl ⟨(),rfl,ah⟩
 by_cases b2:(4096:Int)<(sc.length:Int)
 ·repeat' (first|intro hc|refine xyZ ?_|refine aF ?_ ?_|refine zw2 ?_)
  exact aC (.inl rfl) rfl rfl ⟨(),rfl,ah⟩
 by_cases b3:l.length=0\/6<l.length
 ·have p1:=λva=>zdG w0 l b3 va (rows 26 1 cA va l)
  have p2:=zdQ w0 l b3 v X
  repeat' (first|intro hc|refine xyZ ?_|refine aF ?_ ?_|refine zfH ?_|refine zw1 ?_|(refine ai (fq cA iI iI) rfl ?_;intro vz)|(refine ai (dH X rfl rfl iI hX iI rfl iI iI ko (by first|omega|(simp[al]<;>omega)) rfl) rfl ?_;intro va;rw[zF])|(refine ai (aa iI rfl (p1 _) iI) rfl ?_;intro x1)|refine cZ p2 λx2=> ?_)
  exact aC (.inl rfl) rfl rfl ⟨(),rfl,ah⟩
 obtain⟨j,hj,g1,g2,g3⟩:=zd8 l
 have p1:=λva=>zdF w0 l (by omega) j hj g1 g2 g3 va (rows 26 1 cA va l)
 have p2:=zdP w0 l (by omega) j hj g1 g2 g3 v X
 by_cases Ng:j=l.length
 ·simp only[jF Ng]at p1 p2
  rw[Ng,PE]at g1
  clear g2 g3 hj
  repeat' (first|intro hc|refine xyZ ?_|refine aF ?_ ?_|refine zfy ?_|refine zw1 ?_|(refine ai (fq cA iI iI) rfl ?_;intro vz)|(refine ai (dH X rfl rfl iI hX iI rfl iI iI ko (by first|omega|(simp[al]<;>omega)) rfl) rfl ?_;intro va;rw[zF])|(refine ai (aa iI rfl (p1 _) iI) rfl ?_;intro x1)|refine cZ p2 λx2=> ?_)
  refine aV (λkk τ=>∃(i:Nat) (m:Ms) (hs:List RX),i+kk=sc.length/\zfd i m hs/\τ=⟨[(9,.int .i64 (i:Int)),(7,ptr x2.1.1 0),(5,ptr x1.1 0),(1,v2)],[],zaj x1.1 x1.2 m*(rmI x2.1.1 ⟨x2.1.2.vs,hs,x2.1.2.vh,x2.1.2.hv⟩ m*(X*G))⟩) ?_ ?_
  ·exact⟨sc.length,_,⟨0,Ms.new l,x2.1.2.hs,by omega,zfd.new (by omega) g1 x2.2,rfl⟩,cG,rfl,ah⟩
  clear p1 p2
  rintro kk τ ⟨i,m,hs,qE,hI,rfl⟩
  rcases jP i sc.length with h|h
  ·have h1:(i:Int)<(sc.length:Int):=by omega
   obtain⟨o,ho⟩:∃o,sc[i]? =some o:=⟨_,aX h⟩
   have hon:=gG o (jq ho)
   by_cases zgn:(65536:Int)<(o.text.length:Int)
   ·repeat' (first|intro hc|refine xyZ ?_|refine aF ?_ ?_|refine zw8 ?_)
    exact⟨kk - 1,_,by omega,⟨i+1,m,hs,by omega,hI.skip,rfl⟩,cG,rfl,ah⟩
   have Hm:o.Ok:=⟨hon,λ_=>by omega⟩
   have J4:=hI.now
   have p3:=(zeo w0 x1.1 x1.2 m o i hI.zeW (by omega) (by omega) Hm).zfu
   have p4:=zer w0 x2.1.1 ⟨x2.1.2.vs,hs,x2.1.2.vh,x2.1.2.hv⟩ m o i hI.zeW hI.Py hI.adr (by omega) (λx hx=>by have:=hI.hs x hx;omega) (by omega) Hm (by omega)
   have hI2:=λeI (hu:Ups hs eI)=>hI.step (by omega) Hm hu
   generalize m.do_ o=m2 at*
   have p5:=fun(x:{x:Value×List ES // x.2.map (·.1)=m2.mU}) (y:{x:Value×List ES×List RX // Ups hs x.2.2/\x.2.1.map (·.1)=m2.mU})=>zc4 w0 x.1.2 y.1.2.1 (x.2.trans y.2.2.symm) x.1.1 y.1.1
   have p6:=λeI (hu:Ups hs eI)=>zdA w0 x1.1 x2.1.1 x1.2 ⟨x2.1.2.vs,eI,x2.1.2.vh,x2.1.2.hv⟩ m2 (i+1) (hI2 eI hu).zeW
   simp only[opA]at p3 p4
   repeat' (first|intro hc|refine xyZ ?_|refine aF ?_ ?_|refine zgS ?_|(show WS _ _ _ (.region 13 _ true) _ _;refine ze7 X [0,1,2,3,4,6,7,8,9,10,5,11,12,13] (by decide+kernel) iI iI ?_)|refine cZ p3 λx3=> ?_|refine cZ p4 λx4=> ?_|refine cZ (p5 x3 x4) λu5=> ?_|refine cZ (p6 x4.1.2.2 x4.2.1) λu6=> ?_)
   --tg
   exact⟨kk - 1,_,by omega,⟨i+1,m2,x4.1.2.2,by omega,hI2 _ x4.2.1,rfl⟩,cG,rfl,ah⟩
  have h1:¬(i:Int)<(sc.length:Int):=by omega
  repeat' (first|intro hc|refine xyZ ?_|refine aF ?_ ?_|refine zw4 ?_)
  exact aC (.inl rfl) rfl rfl ⟨(),rfl,ah⟩
 ·simp only[eQ Ng]at p1 p2
  repeat' (first|intro hc|refine xyZ ?_|refine aF ?_ ?_|refine zfH ?_|refine zw1 ?_|(refine ai (fq cA iI iI) rfl ?_;intro vz)|(refine ai (dH X rfl rfl iI hX iI rfl iI iI ko (by first|omega|(simp[al]<;>omega)) rfl) rfl ?_;intro va;rw[zF])|(refine ai (aa iI rfl (p1 _) iI) rfl ?_;intro x1)|refine cZ p2 λx2=> ?_)
  exact aC (.inl rfl) rfl rfl ⟨(),rfl,ah⟩
end
end Go.Proofs.YtapoehkdnglahabGreat
