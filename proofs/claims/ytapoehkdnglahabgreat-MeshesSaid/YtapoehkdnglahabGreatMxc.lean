/- A part. -/
import Derived.Test.YtapoehkdnglahabGreatM6
set_option maxHeartbeats 32000000
set_option maxRecDepth 100000
set_option linter.all false
namespace Go.Proofs.YtapoehkdnglahabGreat
section
open Go.ChangeShapes Go.WideShapes Go.ChangeAt Go.RowKit Go.Deep
theorem GU {α:Type} {f:α->List Value} {ok:World->α->Prop} {size:Nat} {t e:TypeId} (hf:∀x,(f x).length=size) (hp:0<size) (ht:Tryz.prog.underlying t=some (.slice e)) (hC:Tryz.prog.cellsOf e=size) (hd:Iw e f ok) {H:Type} {enc:TypeId×Value->H} {w:World} {base:Nat} {spare:Nat->Bool} {held:Bool} {A:Option Addr} {n c:Nat} {d:DataW H} {ps:List MemPlace} (h:DataW.Trod enc ucC w base spare held t (.slice A n c) d ps):∃l:List α,ix w size f (.slice A n c) l/\∀a∈l,ok w a:=by
 obtain⟨⟨x,l⟩,hc,hR,hl⟩:=vL (zb hf hp ht hC hd) h;obtain rfl:x= .slice A n c:=by simpa [Value.cells,Vj]using hc.symm
 exact⟨l,hR,hl⟩
end
section
open Go.RowKit
attribute [local irreducible] WS LS OpQ y6 cn cv Spec bA aK di cq
variable (w0:World)
theorem zcI (gm k) (m:Ms) (el) (o:Z3) (c) (hf:m.zaQ c) (hk:o.kind=1\/o.kind=2\/o.kind=8\/o.kind=9\/o.kind=10\/o.kind=11) (hev:m.mU=[]) (zcR:m.bars o=true):Spec ucC w0 50 [ptr gm 0,opA o] (rmA gm k m el) (λ_:List ES=> .tuple #[]) (λnew=>rmA gm k (m.refuse 0 5) (el++new)*e9 new):=by
 obtain⟨kind,oa,ob,on_,oo,ot⟩:=o;simp only at hk;refine eZ Tryz.func50 Tryz.ntmps50 λG=> ?_;refine zaW λva ve FW=> ?_;refine zaG λyl S5=> ?_;have zbV:el.length=0:=by
  exact pag
 have Rg:=zzG yl
 have p1:=r8 w0 gm m k va ve oa m.Zs.length yl;have p2:=r8 w0 gm m k va ve ob m.Zs.length yl;have p3:=zbw w0 gm m k va ve el 0 5 (by omega);simp only[opA,opC,aN];by_cases ha:0<=oa/\oa<(m.Zs.length:Int)
 ·rw[Dp ha]at p1;obtain⟨i,rfl⟩:∃i:Nat,oa=(i:Int):=⟨oa.toNat,by omega⟩
  have hi:i<m.Zs.length:=by omega
  obtain⟨s,hs⟩:∃s,m.Zs[i]? =some s:=⟨_,aX hi⟩
  obtain⟨x,JQ⟩:∃x,k.hs[i]? =some x:=⟨_,aX (by omega)⟩
  have hxp:=zzX JQ
  have l5:=(m.zaw i).trans hs;by_cases VT:(kind=1\/kind=2\/kind=8)/\¬(0<=ob/\ob<(m.Zs.length:Int))
  ·rw[EH VT.2]at p2;have FY:=VT.1;unfold rmP;simp only[r6]at p1 p2 p3 ⊢;repeat' (first|(intro hc;try exact aG)|refine yZ ?_|refine aF ?_ ?_|refine zw8 ?_|((first|refine dn rfl rfl iI rfl ?_ ?_|refine dm rfl rfl iI rfl ?_ ?_|refine dU rfl rfl iI rfl ?_ ?_)<;>intro hc)|refine cZ p3 λve2=> ?_|refine cZ p1 λu1=> ?_|refine cZ p2 λu2=> ?_)
   all_goals
    refine aj (.inl rfl) rfl ⟨[k8 0 5],rfl,?_⟩
    rw[ad (rmA _ _ _ _)]
    refine re (m:=m.refuse 0 5) va ve2 (by rw[EZ,FW];rfl) ?_
    unfold rmP
    simp only[r6,Ms.refuse,Ms.event,e9,evO,r5,k8,svV,cT,dS.zero,b5]
    exact ah
  ·have Cg:kind≠1/\(s.node.isNone !=decide (kind=11))=true:=by
    unfold Ms.bars at zcR;simp only at zcR;rw[l5]at zcR;have h1:((decide (kind=1)||decide (kind=2)||decide (kind=8))&&(m.at_ ob).isNone)=false:=by
     by_cases e:kind=1\/kind=2\/kind=8
     ·have hr:0<=ob/\ob<(m.Zs.length:Int):=uaS λh=>VT ⟨e,h⟩;exact pbo
     ·exact pbA
    rw[h1]at zcR;simp only[uaE,uaI,G6,Ps,Bool.not_eq_true',decide_eq_false_iff_not]at zcR;exact zcR
   obtain⟨Hr,Wk⟩:=Cg;obtain⟨R,e1,e2⟩:=zay yl JQ hs;refine zaE e1 λgn=> ?_;unfold rmS y9;simp only[r6]at p1 p2 p3;simp only[r6,zak];have VH:s.node=none/\kind≠11\/(∃t,s.node=some t)/\kind=11:=by
    cases ht:s.node with
    |none=>rw[ht]at Wk;exact .inl ⟨rfl,λe=>by rw[Dp e]at Wk;cases Wk⟩
    |some t=>rw[ht]at Wk;exact .inr ⟨⟨t,rfl⟩,uaS λe=>by rw[EH e]at Wk;cases Wk⟩
   have SI:(kind=1\/kind=2\/kind=8)->0<=ob/\ob<(m.Zs.length:Int):=λe=>uaS λh=>VT ⟨e,h⟩;obtain⟨bb,Xs⟩:∃bb,decide (0<=ob/\ob<(m.Zs.length:Int))=bb:=⟨_,rfl⟩
   rw[Xs]at p2;have TX:bb=false->kind≠1/\kind≠2/\kind≠8:=λe=>by
    rw[e]at Xs;have:=ub2 Xs;exact⟨λh=>this (SI (.inl h)),λh=>this (SI (.inr (.inl h))),λh=>this (SI (.inr (.inr h)))⟩
   rcases VH with ⟨ht,VH⟩|⟨⟨t,ht⟩,VH⟩
   ·simp only[ht,jo,zat];cases bb
    ·obtain⟨n1,n2,n8⟩:=TX rfl;exact paj
    ·exact paj
   ·subst VH;simp only[ht,jo,zat];cases bb;all_goals
     repeat' (first|refine zgA ?_|intro hc|refine yZ ?_|refine aF ?_ ?_|refine zw5 ?_|refine zw1 ?_|refine cZ p3 λve2=> ?_|refine cZ p1 λu1=> ?_|refine cZ p2 λu2=> ?_)
     all_goals
      refine aj (.inl rfl) rfl ⟨[k8 0 5],rfl,?_⟩
      rw[ad (rmA _ _ _ _)]
      refine re (m:=m.refuse 0 5) va ve2 (by rw[EZ,FW];rfl) ?_
      refine zae (m:=m.refuse 0 5) gn e1 ?_
      unfold rmS y9
      simp only[r6,zak,ht,jo,zat,Ms.refuse,Ms.event,e9,evO,r5,k8,svV,cT,dS.zero,b5]
      exact ah
 ·rw[EH ha]at p1;unfold rmP;simp only[r6]at p1 p2 p3 ⊢;repeat' (first|intro hc|refine yZ ?_|refine aF ?_ ?_|refine cZ p3 λve2=> ?_|refine cZ p1 λu1=> ?_|refine cZ p2 λu2=> ?_)
  all_goals
   refine aj (.inl rfl) rfl ⟨[k8 0 5],rfl,?_⟩
   rw[ad (rmA _ _ _ _)]
   refine re (m:=m.refuse 0 5) va ve2 (by rw[EZ,FW];rfl) ?_
   unfold rmP
   simp only[r6,Ms.refuse,Ms.event,e9,evO,r5,k8,svV,cT,dS.zero,b5]
   exact ah
theorem zdU (gm) (k:RH) (m:Ms) (el) (o:Z3) (c) (hf:m.zaQ c) (hev:m.mU=[]) (zai:m.bars o=false) (hk:o.kind=9):Spec ucC w0 50 [ptr gm 0,opA o] (rmA gm k m el) (λ_:{y:List ES×List RX // Ups k.hs y.2}=> .tuple #[]) (λy=>rmA gm {k with hs:=y.1.2} (m.ZU o) (el++y.1.1)*e9 y.1.1):=by
 obtain⟨i,s,ei,hs,hw,Uf⟩:=Ms.zap zai;obtain⟨kind,oa,ob,on_,oo,ot⟩:=o;simp only at hk ei hw Uf;subst hk;subst ei;have h6:=hf.short;refine eZ Tryz.func50 Tryz.ntmps50 λG=> ?_;refine zaW λva ve FW=> ?_;refine zaG λyl S5=> ?_;have zbV:el.length=0:=by
  exact pag
 have Rg:=zzG yl
 have hi:=(az.1 hs).1;obtain⟨x,JQ⟩:∃x,k.hs[i]? =some x:=⟨_,aX (by omega)⟩
 have hxp:=zzX JQ
 have l5:=(m.zaw i).trans hs;have Hq:=hf.sound i s hs;have p1:=r8 w0 gm m k va ve (i:Int) m.Zs.length yl;have p2:=r8 w0 gm m k va ve ob m.Zs.length yl;rw[Dp ⟨by omega,by omega⟩]at p1;simp only[opA,opC,aN];cases ht:s.node with
 |none=>rw[ht]at hw;exact zzA (hw (by decide))
 |some t=>
  rw[Ms.zcb zai rfl];simp only[D3];obtain⟨R,e1,e2⟩:=zay yl JQ hs;have e3:=e2 x Zr.stop;rw[zbK JQ]at e3;refine zaE e1 λgn=> ?_;unfold rmS y9;simp only[r6]at p1 p2;simp only[r6,zak,ht,jo,zat];generalize decide (0<=ob/\ob<(m.Zs.length:Int))=bb at p2;cases bb;all_goals
   repeat' (first|refine zgA ?_|intro hc|refine yZ ?_|refine aF ?_ ?_|refine zw5 ?_|refine zw1 ?_|refine cZ p1 λu1=> ?_|refine cZ p2 λu2=> ?_)
   refine zzJ ?_
   rw[rL,ad (rmA _ _ _ _)]
   refine re (m:=m.mod i Zr.stop) va ve FW ?_
   refine zae (m:=m.mod i Zr.stop) gn e3 ?_
   unfold rmS y9
   rw[show(m.mod i Zr.stop).Zs.length=m.Zs.length from by simp[Ms.mod]]
   simp only[r6,Ms.mod,zak,Zr.stop,jo,zat,e9,aB]
   exact ah
theorem zee (gm) (k:RH) (m:Ms) (el) (o:Z3) (c) (hf:m.zaQ c) (hev:m.mU=[]) (zai:m.bars o=false) (hk:o.kind=10):Spec ucC w0 50 [ptr gm 0,opA o] (rmA gm k m el) (λ_:{y:List ES×List RX // Ups k.hs y.2}=> .tuple #[]) (λy=>rmA gm {k with hs:=y.1.2} (m.ZU o) (el++y.1.1)*e9 y.1.1):=by
 obtain⟨i,s,ei,hs,hw,Uf⟩:=Ms.zap zai;obtain⟨kind,oa,ob,on_,oo,ot⟩:=o;simp only at hk ei hw Uf;subst hk;subst ei;have h6:=hf.short;refine eZ Tryz.func50 Tryz.ntmps50 λG=> ?_;refine zaW λva ve FW=> ?_;refine zaG λyl S5=> ?_;have zbV:el.length=0:=by
  exact pag
 have Rg:=zzG yl
 have hi:=(az.1 hs).1;obtain⟨x,JQ⟩:∃x,k.hs[i]? =some x:=⟨_,aX (by omega)⟩
 have hxp:=zzX JQ
 have l5:=(m.zaw i).trans hs;have Hq:=hf.sound i s hs;have p1:=r8 w0 gm m k va ve (i:Int) m.Zs.length yl;have p2:=r8 w0 gm m k va ve ob m.Zs.length yl;rw[Dp ⟨by omega,by omega⟩]at p1;simp only[opA,opC,aN];cases ht:s.node with
 |none=>rw[ht]at hw;exact zzA (hw (by decide))
 |some t=>
  rw[Ms.zcx zai rfl];simp only[D3];obtain⟨R,e1,e2⟩:=zay yl JQ hs;have e3:=e2 x (Zr.arm on_);rw[zbK JQ]at e3;refine zaE e1 λgn=> ?_;unfold rmS y9;simp only[r6]at p1 p2;simp only[r6,zak,ht,jo,zat];generalize decide (0<=ob/\ob<(m.Zs.length:Int))=bb at p2;by_cases Wa:on_<0
  ·have Ml:max 0 on_=0:=by omega
   cases bb;all_goals
    repeat' (first|refine zgA ?_|intro hc|refine yZ ?_|refine aF ?_ ?_|refine zw5 ?_|refine zw1 ?_|refine cZ p1 λu1=> ?_|refine cZ p2 λu2=> ?_)
    refine zzJ ?_
    rw[rL,ad (rmA _ _ _ _)]
    refine re (m:=m.mod i (Zr.arm on_)) va ve FW ?_
    refine zae (m:=m.mod i (Zr.arm on_)) gn e3 ?_
    unfold rmS y9
    rw[show(m.mod i (Zr.arm on_)).Zs.length=m.Zs.length from by simp[Ms.mod]]
    simp only[r6,Ms.mod,zak,Zr.arm,Ml,ht,jo,zat,e9,aB]
    exact ah
  ·have Ml:max 0 on_=on_:=by omega
   cases bb;all_goals
    repeat' (first|refine zgA ?_|intro hc|refine yZ ?_|refine aF ?_ ?_|refine zw5 ?_|refine zw1 ?_|refine cZ p1 λu1=> ?_|refine cZ p2 λu2=> ?_)
    refine zzJ ?_
    rw[rL,ad (rmA _ _ _ _)]
    refine re (m:=m.mod i (Zr.arm on_)) va ve FW ?_
    refine zae (m:=m.mod i (Zr.arm on_)) gn e3 ?_
    unfold rmS y9
    rw[show(m.mod i (Zr.arm on_)).Zs.length=m.Zs.length from by simp[Ms.mod]]
    simp only[r6,Ms.mod,zak,Zr.arm,Ml,ht,jo,zat,e9,aB]
    exact ah
theorem zdO (gm) (k:RH) (m:Ms) (el) (o:Z3) (c) (hf:m.zaQ c) (hev:m.mU=[]) (zai:m.bars o=false) (hk:o.kind=1):Spec ucC w0 50 [ptr gm 0,opA o] (rmA gm k m el) (λ_:{y:List ES×List RX // Ups k.hs y.2}=> .tuple #[]) (λy=>rmA gm {k with hs:=y.1.2} (m.ZU o) (el++y.1.1)*e9 y.1.1):=by
 obtain⟨i,s,ei,hs,hw,Uf⟩:=Ms.zap zai;obtain⟨kind,oa,ob,on_,oo,ot⟩:=o;simp only at hk ei hw Uf;subst hk;subst ei;have h6:=hf.short;refine eZ Tryz.func50 Tryz.ntmps50 λG=> ?_;refine zaW λva ve FW=> ?_;refine zaG λyl S5=> ?_;have zbV:el.length=0:=by
  exact pag
 have Rg:=zzG yl
 have hi:=(az.1 hs).1;obtain⟨x,JQ⟩:∃x,k.hs[i]? =some x:=⟨_,aX (by omega)⟩
 have hxp:=zzX JQ
 have l5:=(m.zaw i).trans hs;have Hq:=hf.sound i s hs;have p1:=r8 w0 gm m k va ve (i:Int) m.Zs.length yl;have p2:=r8 w0 gm m k va ve ob m.Zs.length yl;rw[Dp ⟨by omega,by omega⟩]at p1;simp only[opA,opC,aN];obtain⟨j,s2,ej,fP⟩:=Uf (by decide);subst ej;have hj:=(az.1 fP).1;rw[Dp ⟨by omega,by omega⟩]at p2;have zcQ:=(m.zaw j).trans fP;obtain⟨x2,zc6⟩:∃x,k.hs[j]? =some x:=⟨_,aX (by omega)⟩
 rw[Ms.zb9 zai rfl];simp only[D3];obtain⟨R,e1,e2⟩:=zay yl JQ hs;refine zaE e1 λgn=> ?_;unfold rmS y9;simp only[r6]at p1 p2;obtain⟨vn,hvn,hv2⟩:∃vn,jo gn s.node=vn/\(vn= .pointer none\/∃g,vn=ptr g 0):=by
  cases s.node with
  |none=>exact⟨_,rfl,.inl rfl⟩
  |some t=>exact⟨_,rfl,.inr ⟨gn,rfl⟩⟩
 simp only[r6,zak,hvn];by_cases OE:(i:Int)=(j:Int)
 ·rw[eQ (λh=>h OE)];rcases hv2 with rfl|⟨g2,rfl⟩
  all_goals
   repeat' (first|refine zgA ?_|intro hc|refine xyZ ?_|refine aF ?_ ?_|refine zbq ?_|refine zw1 ?_|refine bT λg=> ?_|refine cZ p1 λu1=> ?_|refine cZ p2 λu2=> ?_)
   refine zzJ ?_
   rw[rL,ad (rmA _ _ _ _)]
   refine re va ve FW ?_
   refine zae gn e1 ?_
   unfold rmS y9
   simp only[r6,zak,hvn,e9,aB]
   exact ah
 ·rw[jF OE];have zfS:i≠j:=λe=>OE (by rw[e]);obtain⟨w1,Hr⟩:∃w,k.hv[i]? =some w:=⟨_,aX (by omega)⟩
  obtain⟨w2,Wk⟩:∃w,k.hv[j]? =some w:=⟨_,aX (by omega)⟩
  obtain⟨R2,d1,d2⟩:=zdt m.Zu oo S5 Hr Wk zfS h6;have g1:=zaX (q:=m.Zs.length) (f:=m.Zu) (i:=i) hj;have g2:=zaX (q:=m.Zs.length) (f:=m.Zu) (i:=j) hi;have l1:j<(za4 m.Zs.length m.Zu i).length:=by rw[zas];exact hj
  have l2:i<(za4 m.Zs.length m.Zu j).length:=by rw[zas];exact hi
  have d3:r7 k.hv (m.link i j oo).Zs.length (m.link i j oo).Zu=_:=d2;rw[d1];rcases hv2 with rfl|⟨g3,rfl⟩
  all_goals
   repeat' (first|refine zgA ?_|refine ae (id:=12) (.range 14) 13 [3,5,6,7,9,11,12] ?_|refine ae (id:=13) (.range 14) 13 [3,5,6,7,9,11,12] ?_|intro hc|refine xyZ ?_|refine aF ?_ ?_|((first|refine' LQ ?zh rfl ?_|refine' bP rfl rfl rfl ?zh ?_|refine' bk rfl rfl ?zh ?_);case zh=>intro F';first|exact bp rfl rfl iI (by first|assumption|omega|decide|rfl)|exact fC rfl rfl iI (by first|assumption|omega|decide|rfl)|exact du rfl rfl iI (by first|assumption|omega|decide|rfl))|refine zw1 ?_|refine bT λg=> ?_|((first|refine bL (dB (z:=m.Zu (i*6+j)) oo rfl rfl iI iI iI rfl g1 rfl) ?_|refine bL (dB (z:=m.Zu (j*6+i)) oo rfl rfl iI iI iI rfl g2 rfl) ?_|refine dP (dB (z:=m.Zu (i*6+j)) oo rfl rfl iI iI iI rfl g1 rfl) rfl rfl ?_|refine dP (dB (z:=m.Zu (j*6+i)) oo rfl rfl iI iI iI rfl g2 rfl) rfl rfl ?_);intro gx)|refine cZ p1 λu1=> ?_|refine cZ p2 λu2=> ?_)
   refine zzJ ?_
   rw[rL,ad (rmA _ _ _ _)]
   refine re va ve FW ?_
   refine zae (m:=m.link i j oo) gn e1 ?_
   unfold rmS y9
   rw[d3]
   simp only[r6,Ms.link,zak,hvn,e9,aB]
   exact ah
end
end Go.Proofs.YtapoehkdnglahabGreat
