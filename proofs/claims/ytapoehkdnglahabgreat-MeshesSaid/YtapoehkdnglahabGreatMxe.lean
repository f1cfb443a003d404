/- A part. -/
import Derived.Test.YtapoehkdnglahabGreatM0
set_option maxHeartbeats 32000000
set_option maxRecDepth 100000
set_option linter.all false
namespace Go.Proofs.YtapoehkdnglahabGreat
section
open Go.RowKit
def Ms.tM (m:Ms) (q:Nat) (b:Bool):Ms:={m with Zu:=λk=>if k=q then b else m.Zu k}
theorem Ms.zeC (m:Ms) (i j b):m.link i j b=(m.tM (i*6+j) b).tM (j*6+i) b:=by
 unfold Ms.link Ms.tM;simp only;congr 1;funext k;by_cases h1:k=i*6+j
 ·rw[jF (.inl h1)];split
  ·rfl
  ·rfl
 ·by_cases h2:k=j*6+i
  ·rw[jF (.inr h2),jF h2]
  ·rw[eQ (λh=>h.elim h1 h2),eQ h2,eQ h1]
theorem zc8 (m:Ms) (h) {i j} (hi:i<6) (hj:j<6) (b):iW (b6 m h) (0+2+i*6+j*1) [.bool b]=some (b6 (m.tM (i*6+j) b) h):=by
 exact paY
section
variable {P:Program} {n:fT} {w0:World} {E:Env} {H:af} {d:Option Tmp} {ty:TypeId} {pos:String} {after:Array Edge} {gu:Option (Nat×Bool)} {x y:Operand}
theorem zbL {D:List Deferred} {Q:Exit->St->Prop} {l l':List Oper} {F F1 F2 F3:af} {id:Nat} (t t2 t3:Nat) (b2:Nat) (s2:Zr) (idx:List Nat) {g off g2 A5 g3 U8:Nat} {bt rJ DV:TypeId} {cs pV D2:List Value} (hs:iT P l idx (λ_=>false) 1000=true) (hl:jK l idx=some l') (hx:E.get t=some (ptr g off)) (qb:E.get t2=some (ptr g2 A5)) (Wo:E.get t3=some (ptr g3 U8)) (hR:v7 H g bt cs F1) (Ca:v7 F1 g2 rJ pV F2) (QL:v7 F2 g3 DV D2 F3) (Xm:Own F3 (zaT b2 s2) F) (h:DL P n w0 l.toArray Q D (aK g bt cs*(aK g2 rJ pV*(aK g3 DV D2*zaT b2 s2))) emp (λ_=>false) 1000 0 false l' E F):WS P n w0 (.region id l.toArray true) Q ⟨E,D,H⟩:=
 iK idx l' (aK g bt cs*(aK g2 rJ pV*(aK g3 DV D2*zaT b2 s2))) emp F _ 1000 hs (by rw[aB,hR.eq,Ca.eq,QL.eq,Xm.eq,ad,ad,ad]) (gO hl) h
theorem zdo {t e t2} (hx:E.ev x=some (.pointer none)) (hy:E.ev y=some (.pointer none)) (h:eN P t (.pointer e)):OpQ P n w0 ⟨d,.binOp .eql t x y t2,ty,pos,after,gu⟩ E H (.bool true):=bE hx hy SA
theorem zaZ {t e t2 g off} (hx:E.ev x=some (ptr g off)) (hy:E.ev y=some (.pointer none)) (h:eN P t (.pointer e)):OpQ P n w0 ⟨d,.binOp .eql t x y t2,ty,pos,after,gu⟩ E H (.bool false):=bE hx hy Mb
end
theorem Ms.zaw (m:Ms) (i:Nat):m.at_ (i:Int)=m.Zs[i]? :=by
 unfold Ms.at_;rw[eQ (by omega)];simp
theorem Ms.zeU {m:Ms} {i} (h:i<0\/(m.Zs.length:Int)<=i):m.at_ i=none:=by
 unfold Ms.at_;split
 ·rfl
 ·exact EJ (by omega)
theorem Ms.zbv {m:Ms} {o} (h:m.bars o=true):m.ZU o=m.refuse 0 5:=by
 unfold Ms.ZU;rw[jF h]
def Zr.zcq (now:UInt64) (s:Zr):Zr:={s with node:=some (Nd.new s.addr s.ay now),ZL:=false}
theorem Zr.Sound.zcq {s:Zr} {c} (h:s.Sound c) (now):(s.zcq now).ZC (Nd.gZ s.addr s.ay now) c:=
 ⟨⟨_,rfl,(Nd.xL _ _ _).mono (uau _),Nd.CM _ _ _,Nd.zed _ _ _,Nd.Kx _ _ _⟩,h.Yt,h.Zw⟩
def Zr.arm (n:Int) (s:Zr):Zr:={s with ZL:=true,Zw:=max 0 n}
theorem Ms.zb9 {m:Ms} {o:Z3} (hb:m.bars o=false) (hk:o.kind=1):m.ZU o=if o.a≠o.b then m.link o.a.toNat o.b.toNat o.on else m:=by
 unfold Ms.ZU;rw[hb,eQ (by decide),jF hk]
theorem Ms.zca {m:Ms} {o:Z3} {s s2:Zr} {t:Nd} (hb:m.bars o=false) (hk:o.kind=2) (h1:m.at_ o.a=some s) (ht:s.node=some t) (h2:m.at_ o.b=some s2):m.ZU o=if t.gA s2.addr o.text=0 then Ms.emit o.a.toNat (m.mod o.a.toNat (·.run (t.iG m.now s2.addr o.text))) (t.iG m.now s2.addr o.text).out else m.refuse o.a (t.gA s2.addr o.text):=by
 unfold Ms.ZU;rw[hb,eQ (by decide),eQ (by rw[hk];decide),jF hk,h1,h2];simp only[G6,ht];unfold Nd.gA;by_cases Om:16<o.text.length
 ·rw[jF Om,jF Om,eQ (by decide)]
 ·rw[eQ Om,eQ Om];by_cases h0:s2.addr=t.self\/s2.addr=0
  ·rw[jF h0,jF h0,eQ (by decide)]
  ·rw[eQ h0,eQ h0,jF rfl]
theorem Ms.zcy {m:Ms} {o:Z3} {s s2:Zr} {t:Nd} (hb:m.bars o=false) (hk:o.kind=8) (h1:m.at_ o.a=some s) (ht:s.node=some t) (h2:m.at_ o.b=some s2):m.ZU o=Ms.emit o.a.toNat (m.mod o.a.toNat (·.run (t.iX m.now s2.addr o.text))) (t.iX m.now s2.addr o.text).out:=by
 unfold Ms.ZU;rw[hb,eQ (by decide),eQ (by rw[hk];decide),eQ (by rw[hk];decide),jF hk,h1,h2];simp only[G6,ht]
theorem Ms.zcb {m:Ms} {o:Z3} (hb:m.bars o=false) (hk:o.kind=9):m.ZU o=m.mod o.a.toNat Zr.stop:=by
 unfold Ms.ZU;rw[hb,eQ (by decide),eQ (by rw[hk];decide),eQ (by rw[hk];decide),eQ (by rw[hk];decide),jF hk]
theorem Ms.zcx {m:Ms} {o:Z3} (hb:m.bars o=false) (hk:o.kind=10):m.ZU o=m.mod o.a.toNat (Zr.arm o.n):=by
 unfold Ms.ZU;rw[hb,eQ (by decide),eQ (by rw[hk];decide),eQ (by rw[hk];decide),eQ (by rw[hk];decide),eQ (by rw[hk];decide),jF hk];rfl
theorem Ms.zb8 {m:Ms} {o:Z3} {s:Zr} (hb:m.bars o=false) (hk:o.kind=11) (h1:m.at_ o.a=some s):m.ZU o=Ms.emit o.a.toNat (m.mod o.a.toNat (Zr.zcq m.now)) (Nd.gZ s.addr s.ay m.now):=by
 unfold Ms.ZU;rw[hb,eQ (by decide),eQ (by rw[hk];decide),eQ (by rw[hk];decide),eQ (by rw[hk];decide),eQ (by rw[hk];decide),eQ (by rw[hk];decide),h1];rfl
theorem Ms.zap {m:Ms} {o:Z3} (h:m.bars o=false):∃i s,o.a=((i:Nat):Int)/\m.Zs[i]? =some s/\(o.kind≠1->s.node.isNone=decide (o.kind=11))/\(o.kind=1\/o.kind=2\/o.kind=8->∃j s2,o.b=((j:Nat):Int)/\m.Zs[j]? =some s2):=by
 unfold Ms.bars at h;rw[Bool.or_eq_false_iff,Bool.or_eq_false_iff]at h;obtain⟨⟨h1,h2⟩,h3⟩:=h;have XK:∀x:Int,(m.at_ x).isNone=false->∃i s,x=((i:Nat):Int)/\m.Zs[i]? =some s:=λx hx=>by
  unfold Ms.at_ at hx;split at hx
  ·cases hx
  ·obtain⟨s,hs⟩:=ubn.1 (by simpa using hx:(m.Zs[x.toNat]?).isSome=true);exact⟨x.toNat,s,by omega,hs⟩
 obtain⟨i,s,e1,e2⟩:=XK _ h1;refine⟨i,s,e1,e2,λhk=> ?_,λhk=> ?_⟩
 ·rw[e1,m.zaw,e2,EH hk]at h3;simpa using h3
 ·apply XK;rcases hk with hk|hk|hk
  ·rw[hk]at h2;simpa using h2
  ·rw[hk]at h2;simpa using h2
  ·rw[hk]at h2;simpa using h2
attribute [local irreducible] WS LS OpQ y6 cn cv Spec bA aK
variable (w0:World)
theorem za3 (g m) (h:MH) (i) (hl:h.bs.length<=6):∃vb,(vb= .pointer none\/∃b2,vb=ptr b2 0)/\Spec ucC w0 43 [ptr g 0,.int .i64 i] (aK g 108 (b6 m h)*rows 115 1 Z4 h.vs h.bs) (λ_:Unit=>vb) (λ_=>aK g 108 (b6 m h)*rows 115 1 Z4 h.vs h.bs):=by
 by_cases hi:i<0\/(h.bs.length:Int)<=i
 ·exact⟨_,.inl rfl,zaD w0 g m h i hi hl⟩
 ·obtain⟨j,rfl⟩:∃j:Nat,i=(j:Int):=⟨i.toNat,by omega⟩
  obtain⟨b,hb⟩:∃b,h.bs[j]? =some b:=⟨_,aX (by omega)⟩
  exact⟨_,.inr ⟨b,rfl⟩,r9 w0 g m h j b hb hl⟩
theorem zcE (gm k) (m:Ms) (el) (o:Z3) (c) (hf:m.zaQ c) (hk:o.kind=1\/o.kind=2\/o.kind=8\/o.kind=9\/o.kind=10\/o.kind=11) (hev:m.mU=[]) (zcR:m.bars o=true):Spec ucC w0 41 [ptr gm 0,opA o] (y8 gm k m el) (λ_:List ES=> .tuple #[]) (λnew=>y8 gm k (m.refuse 0 5) (el++new)*e9 new):=by
 obtain⟨kind,oa,ob,on_,oo,ot⟩:=o;simp only at hk;have h6:=hf.short;refine eZ Tryz.func41 Tryz.ntmps41 λG=> ?_;refine za5 λva ve FW=> ?_;refine zaS λyl=> ?_;have zbV:el.length=0:=by
  exact pag
 have p3:=zbI w0 gm m ⟨k.vs,k.bs,k.r,va,ve⟩ el 0 5 (by omega);obtain⟨vb,UM,p2⟩:=za3 w0 gm m ⟨k.vs,k.bs,k.r,va,ve⟩ ob (by show k.bs.length<=6;omega);simp only[opA,opC,aN];by_cases ha:oa<0\/(k.bs.length:Int)<=oa
 ·have zt:m.ZU ⟨kind,oa,ob,on_,oo,ot⟩=m.refuse 0 5:=Ms.zbv (by unfold Ms.bars;simp only;rw[Ms.zeU (by omega)];rfl);have p1:=zaD w0 gm m ⟨k.vs,k.bs,k.r,va,ve⟩ oa ha (by show k.bs.length<=6;omega);simp only[zaA,b6]at p1 p2 p3 ⊢;repeat' (first|((refine' bk rfl rfl ?zh ?_);case zh=>intro F';exact zdo rfl rfl iI)|refine zd9 ?_|(intro hc;try exact aG)|refine yZ ?_|refine aF ?_ ?_|((first|refine dn rfl rfl iI rfl ?_ ?_|refine dm rfl rfl iI rfl ?_ ?_|refine dU rfl rfl iI rfl ?_ ?_)<;>intro hc)|refine zfr ?_|refine cZ p1 λu1=> ?_|refine cZ p2 λu2=> ?_|refine cZ p3 λve2=> ?_)
  all_goals
   refine aj (.inl rfl) rfl ⟨[k8 0 5],rfl,?_⟩
   rw[ad (y8 _ _ _ _)]
   refine aq.msh (m:=m.refuse 0 5) va ve2 (by rw[EZ,FW];rfl) ?_
   simp only[zaA,b6,y7,zan,Ms.refuse,Ms.event,e9,evO,r5,k8,svV,cT,dS.zero,b5]
   exact ah
 obtain⟨i,rfl⟩:∃i:Nat,oa=(i:Int):=⟨oa.toNat,by omega⟩
 have hi:i<k.bs.length:=by omega
 obtain⟨b,hb⟩:∃b,k.bs[i]? =some b:=⟨_,aX hi⟩
 obtain⟨s,hs⟩:∃s,m.Zs[i]? =some s:=⟨_,aX (by omega)⟩
 have l5:m.at_ (i:Int)=some s:=(m.zaw i).trans hs;have Hq:=hf.sound i s hs;have p1:=r9 w0 gm m ⟨k.vs,k.bs,k.r,va,ve⟩ i b hb (by show k.bs.length<=6;omega);clear ha; -- a node zgC is wanted and is not there,or is there and is not wante
 by_cases hw:kind≠1/\(s.node.isNone !=decide (kind=11))=true
 ·have zt:m.ZU ⟨kind,(i:Int),ob,on_,oo,ot⟩=m.refuse 0 5:=Ms.zbv (by
   unfold Ms.bars
   simp only
   rw[l5]
   simp only[G6,hw.2,ucv,EH hw.1,Bool.not_false,ucz])
  obtain⟨R,e1,e2⟩:=zau yl hb hs;refine za0 e1 λgn vj=> ?_;unfold zaC;obtain⟨Hr,Wk⟩:=hw;simp only[b6]at p1 p2 p3;simp only[b6,y7,zan];cases ht:s.node with
  |none=>
   rw[ht]at Wk;have zfi:¬kind=11:=λe=>by rw[Dp e]at Wk;cases Wk
   simp only[jo,zaB];rcases UM with rfl|⟨b2,rfl⟩
   all_goals
    repeat' (first|refine zhC ?_|refine zd9 ?_|(intro hc;try exact aG)|refine yZ ?_|refine aF ?_ ?_|((first|refine' LQ ?zh rfl ?_|refine' bk rfl rfl ?zh ?_|refine' zab rfl rfl rfl ?zh ?_);case zh=>intro F';first|exact bH rfl rfl iI (by first|assumption|omega|decide|rfl)|exact fC rfl rfl iI (by first|assumption|omega|decide|rfl))|((first|refine dn rfl rfl iI rfl ?_ ?_|refine dm rfl rfl iI rfl ?_ ?_|refine dU rfl rfl iI rfl ?_ ?_)<;>intro hc)|refine zfr ?_|refine cZ p1 λu1=> ?_|refine cZ p2 λu2=> ?_|refine cZ p3 λve2=> ?_)
    all_goals
     refine aj (.inl rfl) rfl ⟨[k8 0 5],rfl,?_⟩
     rw[ad (y8 _ _ _ _)]
     refine aq.msh (m:=m.refuse 0 5) va ve2 (by rw[EZ,FW];rfl) ?_
     refine aq.sta (m:=m.refuse 0 5) gn vj e1 ?_
     unfold zaC
     simp only[zaA,b6,y7,zan,ht,jo,zaB,Ms.refuse,Ms.event,e9,evO,r5,k8,svV,cT,dS.zero,b5]
     exact ah
  |some t=>
   rw[ht]at Wk;have zfi:kind=11:=by
    by_cases e:kind=11
    ·exact e
    ·rw[EH e]at Wk;cases Wk
   subst zfi;simp only[jo,zaB];rcases UM with rfl|⟨b2,rfl⟩
   all_goals
    repeat' (first|refine zfG ?_|refine zd9 ?_|intro hc|refine yZ ?_|refine aF ?_ ?_|((first|refine' LQ ?zh rfl ?_|refine' bk rfl rfl ?zh ?_|refine' zab rfl rfl rfl ?zh ?_);case zh=>intro F';first|exact bp rfl rfl iI (by first|assumption|omega|decide|rfl)|exact bH rfl rfl iI (by first|assumption|omega|decide|rfl)|exact fC rfl rfl iI (by first|assumption|omega|decide|rfl))|refine zfr ?_|refine cZ p1 λu1=> ?_|refine cZ p2 λu2=> ?_|refine cZ p3 λve2=> ?_)
    all_goals
     refine aj (.inl rfl) rfl ⟨[k8 0 5],rfl,?_⟩
     rw[ad (y8 _ _ _ _)]
     refine aq.msh (m:=m.refuse 0 5) va ve2 (by rw[EZ,FW];rfl) ?_
     refine aq.sta (m:=m.refuse 0 5) gn vj e1 ?_
     unfold zaC
     simp only[zaA,b6,y7,zan,ht,jo,zaB,Ms.refuse,Ms.event,e9,evO,r5,k8,svV,cT,dS.zero,b5]
     exact ah
 -- the other node is wanted and is not there
 by_cases VT:(kind=1\/kind=2\/kind=8)/\(ob<0\/(k.bs.length:Int)<=ob)
 ·obtain⟨vS,VT⟩:=VT;clear p2;have p2:=zaD w0 gm m ⟨k.vs,k.bs,k.r,va,ve⟩ ob VT (by show k.bs.length<=6;omega);simp only[zaA,b6]at p1 p2 p3 ⊢;repeat' (first|refine zhC ?_|refine zd9 ?_|(intro hc;try exact aG)|refine yZ ?_|refine aF ?_ ?_|refine zcm ?_|((first|refine dn rfl rfl iI rfl ?_ ?_|refine dm rfl rfl iI rfl ?_ ?_|refine dU rfl rfl iI rfl ?_ ?_)<;>intro hc)|refine zfr ?_|refine cZ p1 λu1=> ?_|refine cZ p2 λu2=> ?_|refine cZ p3 λve2=> ?_)
  all_goals
   refine aj (.inl rfl) rfl ⟨[k8 0 5],rfl,?_⟩
   rw[ad (y8 _ _ _ _)]
   refine aq.msh (m:=m.refuse 0 5) va ve2 (by rw[EZ,FW];rfl) ?_
   simp only[zaA,b6,y7,zan,Ms.refuse,Ms.event,e9,evO,r5,k8,svV,cT,dS.zero,b5]
   exact ah
 -- km is not zfE
 have zai:m.bars ⟨kind,(i:Int),ob,on_,oo,ot⟩=false:=by
  unfold Ms.bars;simp only;rw[l5];simp only[uaE,uaI,G6];have h1:((decide (kind=1)||decide (kind=2)||decide (kind=8))&&(m.at_ ob).isNone)=false:=by
   by_cases e:kind=1\/kind=2\/kind=8
   ·have hr:¬(ob<0\/(k.bs.length:Int)<=ob):=λh=>VT ⟨e,h⟩;exact pbo
   ·exact pbA
  rw[h1,uaI];by_cases e:kind=1
  ·rw[Dp e];rfl
  ·cases hv:(s.node.isNone !=decide (kind=11))with
   |false=>rw[uaR]
   |true=>exact absurd ⟨e,hv⟩ hw
 rw[zai]at zcR;cases zcR
theorem zdE (gm k) (m:Ms) (el) (o:Z3) (c) (hf:m.zaQ c) (hev:m.mU=[]) (zai:m.bars o=false) (hk:o.kind=1):Spec ucC w0 41 [ptr gm 0,opA o] (y8 gm k m el) (λ_:List ES=> .tuple #[]) (λnew=>y8 gm k (m.ZU o) (el++new)*e9 new):=by
 obtain⟨i,s,ei,hs,hw,Uf⟩:=Ms.zap zai;obtain⟨kind,oa,ob,on_,oo,ot⟩:=o;simp only at hk ei hw Uf;subst hk;subst ei;have h6:=hf.short;refine eZ Tryz.func41 Tryz.ntmps41 λG=> ?_;refine za5 λva ve FW=> ?_;refine zaS λyl=> ?_;have zbV:el.length=0:=by
  exact pag
 have hi:=(az.1 hs).1;obtain⟨b,hb⟩:∃b,k.bs[i]? =some b:=⟨_,aX (by omega)⟩
 have l5:m.at_ (i:Int)=some s:=(m.zaw i).trans hs;have Hq:=hf.sound i s hs;have p1:=r9 w0 gm m ⟨k.vs,k.bs,k.r,va,ve⟩ i b hb (by show k.bs.length<=6;omega);simp only[opA,opC,aN];obtain⟨j,s2,ej,fP⟩:=Uf (.inl rfl);subst ej;have hj:=(az.1 fP).1;obtain⟨b2,FT⟩:∃b,k.bs[j]? =some b:=⟨_,aX (by omega)⟩
 have zcQ:m.at_ (j:Int)=some s2:=(m.zaw j).trans fP;have p2:=r9 w0 gm m ⟨k.vs,k.bs,k.r,va,ve⟩ j b2 FT (by show k.bs.length<=6;omega);rw[Ms.zb9 zai rfl];simp only[D3];by_cases OE:(i:Int)=(j:Int)
 ·rw[eQ (λh=>h OE)];simp only[zaA,b6]at p1 p2 ⊢;repeat' (first|refine zfG ?_|refine zd9 ?_|intro hc|refine yZ ?_|refine aF ?_ ?_|((first|refine' LQ ?zh rfl ?_|refine' bk rfl rfl ?zh ?_|refine' zab rfl rfl rfl ?zh ?_);case zh=>intro F';first|exact bp rfl rfl iI (by first|assumption|omega|decide|rfl)|exact du rfl rfl iI (by first|assumption|omega|decide|rfl))|refine zfr ?_|refine cZ p1 λu1=> ?_|refine cZ p2 λu2=> ?_)
  refine aj (.inr rfl) rfl ⟨[],rfl,?_⟩;exact paL
 ·rw[jF OE,Ms.zeC];have hi6:i<6:=by omega
  have hj6:j<6:=by omega
  have q1:=zc8 m ⟨k.vs,k.bs,k.r,va,ve⟩ hi6 hj6 oo;have q2:=zc8 (m.tM (i*6+j) oo) ⟨k.vs,k.bs,k.r,va,ve⟩ hj6 hi6 oo;simp only[zaA];simp only at p1 p2;repeat' (first|refine zfG ?_|refine zd9 ?_|intro hc|refine xyZ ?_|refine aF ?_ ?_|((first|refine' LQ ?zh rfl ?_|refine' bk rfl rfl ?zh ?_|refine' zab rfl rfl rfl ?zh ?_);case zh=>intro F';first|exact bp rfl rfl iI (by first|assumption|omega|decide|rfl)|exact fC rfl rfl iI (by first|assumption|omega|decide|rfl)|exact du rfl rfl iI (by first|assumption|omega|decide|rfl))|refine bT λg=> ?_|refine zfr ?_|refine cZ p1 λu1=> ?_|refine cZ p2 λu2=> ?_|(show WS _ _ _ (.region 8 _ true) _ _;refine nw 3 [0,1,2,3,4,5,6,7,8,9,10,11,12,13,14,15,16,17,19,20,21,18,22,23] 21 [] (by decide+kernel) rfl rfl iI ?_)|(refine' bk rfl rfl ?zh ?_;(case zh=>intro F';exact za9 rfl rfl iI iI iI (by assumption)))|(refine' dP ?zh rfl rfl ?_;(case zh=>first|exact kV rfl rfl iI rfl iI q1|exact kV rfl rfl iI rfl iI q2);intro g)|fail)
  refine aj (.inr rfl) rfl ⟨[],rfl,?_⟩;rw[rL,ad (y8 _ _ _ _)];refine aq.msh va ve FW ?_;rw[show zaA gm ((m.tM (i*6+j) oo).tM (j*6+i) oo) ⟨k.vs,k.bs,k.r,va,ve⟩ el=aK gm 108 (b6 ((m.tM (i*6+j) oo).tM (j*6+i) oo) ⟨k.vs,k.bs,k.r,va,ve⟩)*(rows 115 1 Z4 k.vs k.bs*(mp u32 i64 k.r (zah 0 m.Zs)*(zav k.bs m.Zs*(rows 114 3 flC va m.Zx*rows 68 7 evC ve el))))from rfl];simp only[e9,aB];exact ah
theorem zdJ (gm k) (m:Ms) (el) (o:Z3) (c) (hf:m.zaQ c) (hev:m.mU=[]) (zai:m.bars o=false) (hk:o.kind=9):Spec ucC w0 41 [ptr gm 0,opA o] (y8 gm k m el) (λ_:List ES=> .tuple #[]) (λnew=>y8 gm k (m.ZU o) (el++new)*e9 new):=by
 obtain⟨i,s,ei,hs,hw,Uf⟩:=Ms.zap zai;obtain⟨kind,oa,ob,on_,oo,ot⟩:=o;simp only at hk ei hw Uf;subst hk;subst ei;have h6:=hf.short;refine eZ Tryz.func41 Tryz.ntmps41 λG=> ?_;refine za5 λva ve FW=> ?_;refine zaS λyl=> ?_;have zbV:el.length=0:=by
  exact pag
 have hi:=(az.1 hs).1;obtain⟨b,hb⟩:∃b,k.bs[i]? =some b:=⟨_,aX (by omega)⟩
 have l5:m.at_ (i:Int)=some s:=(m.zaw i).trans hs;have Hq:=hf.sound i s hs;have p1:=r9 w0 gm m ⟨k.vs,k.bs,k.r,va,ve⟩ i b hb (by show k.bs.length<=6;omega);simp only[opA,opC,aN];obtain⟨vb,UM,p2⟩:=za3 w0 gm m ⟨k.vs,k.bs,k.r,va,ve⟩ ob (by show k.bs.length<=6;omega);cases ht:s.node with
 |none=>rw[ht]at hw;exact absurd (hw (by decide)) (λh:true=false=>by cases h)
 |some t=>
  rw[Ms.zcb zai rfl];simp only[D3];obtain⟨R,e1,e2⟩:=zau yl hb hs;refine za0 e1 λgn vj=> ?_;unfold zaC;have p4:=zch w0 b gn vj s;simp only[b6,y7,zan,Zr.stop,ht,jo,zaB]at p1 p2 p4 ⊢;repeat' (first|refine zfG ?_|refine zd9 ?_|intro hc|refine yZ ?_|refine aF ?_ ?_|refine zw7 ?_|refine zfr ?_|refine cZ p1 λu1=> ?_|refine cZ p2 λu2=> ?_|refine cZ p4 λu4=> ?_)
  refine aj (.inr rfl) rfl ⟨[],rfl,?_⟩;rw[rL,ad (y8 _ _ _ _)];refine aq.msh (m:=m.mod i Zr.stop) va ve FW ?_;refine aq.sta (m:=m.mod i Zr.stop) gn vj (e2 Zr.stop) ?_;unfold zaC;rw[show zah 0 (m.mod i Zr.stop).Zs=zah 0 m.Zs from zbl m i λ_=>rfl];simp only[b6,Ms.mod,y7,zan,Zr.stop,jo,zaB,e9,aB];exact ah
theorem zec (gm k) (m:Ms) (el) (o:Z3) (c) (hf:m.zaQ c) (hon:o.n<=9223372036854775807) (hev:m.mU=[]) (zai:m.bars o=false) (hk:o.kind=10):Spec ucC w0 41 [ptr gm 0,opA o] (y8 gm k m el) (λ_:List ES=> .tuple #[]) (λnew=>y8 gm k (m.ZU o) (el++new)*e9 new):=by
 obtain⟨i,s,ei,hs,hw,Uf⟩:=Ms.zap zai;obtain⟨kind,oa,ob,on_,oo,ot⟩:=o;simp only at hk ei hw Uf hon;subst hk;subst ei;have h6:=hf.short;refine eZ Tryz.func41 Tryz.ntmps41 λG=> ?_;refine za5 λva ve FW=> ?_;refine zaS λyl=> ?_;have zbV:el.length=0:=by
  exact pag
 have hi:=(az.1 hs).1;obtain⟨b,hb⟩:∃b,k.bs[i]? =some b:=⟨_,aX (by omega)⟩
 have l5:m.at_ (i:Int)=some s:=(m.zaw i).trans hs;have Hq:=hf.sound i s hs;have p1:=r9 w0 gm m ⟨k.vs,k.bs,k.r,va,ve⟩ i b hb (by show k.bs.length<=6;omega);simp only[opA,opC,aN];obtain⟨vb,UM,p2⟩:=za3 w0 gm m ⟨k.vs,k.bs,k.r,va,ve⟩ ob (by show k.bs.length<=6;omega);cases ht:s.node with
 |none=>rw[ht]at hw;exact absurd (hw (by decide)) (λh:true=false=>by cases h)
 |some t=>
  rw[Ms.zcx zai rfl];simp only[D3];obtain⟨R,e1,e2⟩:=zau yl hb hs;refine za0 e1 λgn vj=> ?_;unfold zaC;simp only[b6]at p1 p2;simp only[b6,y7,zan,ht,jo,zaB];repeat' (first|refine zfG ?_|refine zd9 ?_|intro hc|refine yZ ?_|refine aF ?_ ?_|((first|refine' LQ ?zh rfl ?_|refine' bk rfl rfl ?zh ?_|refine' zab rfl rfl rfl ?zh ?_);case zh=>intro F';first|exact bp rfl rfl iI (by first|assumption|omega|decide|rfl)|exact bH rfl rfl iI (by first|assumption|omega|decide|rfl)|exact fC rfl rfl iI (by first|assumption|omega|decide|rfl)|exact du rfl rfl iI (by first|assumption|omega|decide|rfl)|exact zfD rfl rfl)|refine zfr ?_|refine cZ p1 λu1=> ?_|refine cZ p2 λu2=> ?_|(show WS _ _ _ (.region 19 _ true) _ _;refine nw 3 (.range 11) 7 [] (by decide+kernel) rfl rfl iI ?_))
  refine aj (.inr rfl) rfl ⟨[],rfl,?_⟩;rw[rL,ad (y8 _ _ _ _)];refine aq.msh (m:=m.mod i (Zr.arm on_)) va ve FW ?_;refine aq.sta (m:=m.mod i (Zr.arm on_)) gn vj (e2 (Zr.arm on_)) ?_;unfold zaC;rw[show zah 0 (m.mod i (Zr.arm on_)).Zs=zah 0 m.Zs from zbl m i λ_=>rfl];simp only[b6,Ms.mod,y7,zan,Zr.arm,ht,jo,zaB,e9,aB];exact ah
end
section
open Go.RowKit
def ze6:Value->SV
 | .slice A n c=>(A,n,c)
 |_=>(none,0,0)
def zcA (v:Value×Value×Value):SV×SV×SV:=(ze6 v.1,ze6 v.2.1,ze6 v.2.2)
theorem zbJ {w0 w o v F} (h:Sat w0 w (r5 o v*F)):svV (zcA v)=v:=by
 exact paB
theorem Spec.ze4 {P:Program} {w0:World} {f:FuncId} {args:List Value} {X:af} {α β:Type} {res:α->Value} {post:α->af} (h:Spec P w0 f args X res post) (φ:β->α) (ψ:α->β) (hi:∀x w F,Sat w0 w (post x*F)->φ (ψ x)=x):Spec P w0 f args X (λy=>res (φ y)) (λy=>post (φ y)):=λG w hs=>(h G w hs).mono λe w' ⟨x,he,hx⟩=>⟨ψ x,by show e= .returned (res (φ (ψ x)));rw[hi x w' G hx];exact he,by show Sat w0 w' (post (φ (ψ x))*G);rw[hi x w' G hx];exact hx⟩
attribute [local irreducible] WS LS OpQ y6 cn cv Spec bA aK
variable (w0:World)
theorem zdK (gm k) (m:Ms) (el) (o:Z3) (c) (hf:m.zaQ c) (hc:c<=8500) (hn:m.now.toNat<=4611686018427387904) (hev:m.mU=[]) (zai:m.bars o=false) (hk:o.kind=2):Spec ucC w0 41 [ptr gm 0,opA o] (y8 gm k m el) (λ_:List ES=> .tuple #[]) (λnew=>y8 gm k (m.ZU o) (el++new)*e9 new):=by
 obtain⟨i,s,ei,hs,hw,Uf⟩:=Ms.zap zai;obtain⟨kind,oa,ob,on_,oo,ot⟩:=o;simp only at hk ei hw Uf;subst hk;subst ei;have h6:=hf.short;refine eZ Tryz.func41 Tryz.ntmps41 λG=> ?_;refine za5 λva ve FW=> ?_;refine zaS λyl=> ?_;have zbV:el.length=0:=by
  exact pag
 have hi:=(az.1 hs).1;obtain⟨b,hb⟩:∃b,k.bs[i]? =some b:=⟨_,aX (by omega)⟩
 have l5:m.at_ (i:Int)=some s:=(m.zaw i).trans hs;have Hq:=hf.sound i s hs;have p1:=r9 w0 gm m ⟨k.vs,k.bs,k.r,va,ve⟩ i b hb (by show k.bs.length<=6;omega);simp only[opA,opC,aN];cases ht:s.node with
 |none=>rw[ht]at hw;exact absurd (hw (by decide)) (λh:true=false=>by cases h)
 |some t=>
  have F6:=(Hq.node t ht).1;obtain⟨j,s2,ej,fP⟩:=Uf (.inr (.inl rfl));subst ej;have hj:=(az.1 fP).1;obtain⟨b2,FT⟩:∃b,k.bs[j]? =some b:=⟨_,aX (by omega)⟩
  have zcQ:m.at_ (j:Int)=some s2:=(m.zaw j).trans fP;have p2:=r9 w0 gm m ⟨k.vs,k.bs,k.r,va,ve⟩ j b2 FT (by show k.bs.length<=6;omega);rw[Ms.zca zai rfl l5 ht zcQ];simp only[D3];by_cases OE:i=j
  ·obtain rfl:b=b2:=by rw[OE,FT]at hb;exact(PL hb).symm
   obtain rfl:s=s2:=by rw[OE,fP]at hs;exact(PL hs).symm
   obtain⟨R,e1,e2⟩:=zau yl hb hs;refine za0 e1 λgn vj=> ?_;unfold zaC;simp only[b6]at p1 p2;by_cases he:t.gA s.addr ot=0
   ·rw[jF he];have hw:=F6.Dw hn s.addr ot (by unfold Nd.gA at he;split at he;cases he;omega);have OA:=Nd.za7 t m.now s.addr ot;have p4:=(CU w0 gn t m.now s.addr ot F6 hc hn he).ze4 svV zcA (λx w F hx=>by rw[ad,aM]at hx;exact zbJ hx);have p5:=fun(v:SV×SV×SV)=>zaL w0 gm k i b (c+1) hb m el (t.iG m.now s.addr ot).out (svV v) s (·.run (t.iG m.now s.addr ot)) (t.iG m.now s.addr ot) (λ_=>rfl) rfl hs ((Hq.mono (Xn c)).Z5 ht hw) hw.R9.le (by omega) hf.Zx (by rw[hev];simp only[HM];omega) h6 FW R (e2 _) va ve gn vj;generalize t.iG m.now s.addr ot=t2 at*
    simp only[b6,y7,zan,ht,jo,zaB];simp only[fp,svV,cT,b6,Zr.zaz,Zr.zao,Zr.v8,ad]at p4 p5 ⊢;repeat' (first|refine zfG ?_|refine zd9 ?_|intro K hK|intro hc|refine xyZ ?_|refine aF ?_ ?_|refine zw3 λg=> ?_|refine zw7 ?_|refine bT λg=> ?_|refine bQ λg=> ?_|refine zfr ?_|refine cZ p1 λu1=> ?_|refine cZ p2 λu2=> ?_|(show WS _ _ _ (.region 10 _ true) _ _;first|refine zbL 3 0 4 b2 s2 (List.range 21) (by decide+kernel) rfl rfl rfl rfl iI iI iI iI ?_|refine zb0 3 0 4 (List.range 21) (by decide+kernel) rfl rfl rfl rfl iI iI iI ?_)|refine cZ p4 λx4=> ?_|refine cZ (p5 x4) λzar=> ?_)
    exact aj (.inr rfl) rfl ⟨zar,rfl,ah⟩
   ·rw[eQ he];have p4:=AZ w0 gn t m.now s.addr ot he;have p3:=zbI w0 gm m ⟨k.vs,k.bs,k.r,va,ve⟩ el (i:Int) (t.gA s.addr ot) (by omega);generalize t.gA s.addr ot=e at*
    simp only[b6,y7,zan,ht,jo,zaB,ad];simp only[xQ,b6]at p3 p4;repeat' (first|refine zfG ?_|refine zd9 ?_|intro K hK|intro hc|refine xyZ ?_|refine aF ?_ ?_|refine zw3 λg=> ?_|refine zw7 ?_|refine bT λg=> ?_|refine bQ λg=> ?_|refine zfr ?_|refine cZ p1 λu1=> ?_|refine cZ p2 λu2=> ?_|(show WS _ _ _ (.region 10 _ true) _ _;first|refine zbL 3 0 4 b2 s2 (List.range 21) (by decide+kernel) rfl rfl rfl rfl iI iI iI iI ?_|refine zb0 3 0 4 (List.range 21) (by decide+kernel) rfl rfl rfl rfl iI iI iI ?_)|refine cZ p4 λx4=> ?_|refine cZ p3 λve2=> ?_)
    refine aj (.inl rfl) rfl ⟨[k8 (i:Int) e],rfl,?_⟩;(try rw[ad (y8 _ _ _ _)]);refine aq.msh (m:=m.refuse (i:Int) e) va ve2 (by rw[EZ,FW];rfl) ?_;refine aq.sta (m:=m.refuse (i:Int) e) gn vj e1 ?_;unfold zaC;simp only[zaA,b6,y7,zan,ht,jo,zaB,Ms.refuse,Ms.event,e9,evO,r5,k8,svV,cT,dS.zero,b5];exact ah
  ·obtain⟨R,e1,e2⟩:=zbP yl hb hs FT fP OE;refine za0 e1 λgn vj=> ?_;unfold zaC;simp only[b6]at p1 p2;by_cases he:t.gA s2.addr ot=0
   ·rw[jF he];have hw:=F6.Dw hn s2.addr ot (by unfold Nd.gA at he;split at he;cases he;omega);have OA:=Nd.za7 t m.now s2.addr ot;have p4:=(CU w0 gn t m.now s2.addr ot F6 hc hn he).ze4 svV zcA (λx w F hx=>by rw[ad,aM]at hx;exact zbJ hx);have p5:=fun(v:SV×SV×SV)=>zaL w0 gm k i b (c+1) hb m el (t.iG m.now s2.addr ot).out (svV v) s (·.run (t.iG m.now s2.addr ot)) (t.iG m.now s2.addr ot) (λ_=>rfl) rfl hs ((Hq.mono (Xn c)).Z5 ht hw) hw.R9.le (by omega) hf.Zx (by rw[hev];simp only[HM];omega) h6 FW (zaT b2 s2*R) (e2 _) va ve gn vj;generalize t.iG m.now s2.addr ot=t2 at*
    simp only[b6,y7,zan,ht,jo,zaB];simp only[fp,svV,cT,b6,Zr.zaz,Zr.zao,Zr.v8,ad]at p4 p5 ⊢;repeat' (first|refine zfG ?_|refine zd9 ?_|intro K hK|intro hc|refine xyZ ?_|refine aF ?_ ?_|refine zw3 λg=> ?_|refine zw7 ?_|refine bT λg=> ?_|refine bQ λg=> ?_|refine zfr ?_|refine cZ p1 λu1=> ?_|refine cZ p2 λu2=> ?_|(show WS _ _ _ (.region 10 _ true) _ _;first|refine zbL 3 0 4 b2 s2 (List.range 21) (by decide+kernel) rfl rfl rfl rfl iI iI iI iI ?_|refine zb0 3 0 4 (List.range 21) (by decide+kernel) rfl rfl rfl rfl iI iI iI ?_)|((first|refine' bP rfl rfl rfl ?zh ?_|refine' bk rfl rfl ?zh ?_);(case zh=>intro F';exact zbZ (s:=s2) (b:=b2) rfl iI iI))|refine cZ p4 λx4=> ?_|refine cZ (p5 x4) λzar=> ?_)
    exact aj (.inr rfl) rfl ⟨zar,rfl,ah⟩
   ·rw[eQ he];have p4:=AZ w0 gn t m.now s2.addr ot he;have p3:=zbI w0 gm m ⟨k.vs,k.bs,k.r,va,ve⟩ el (i:Int) (t.gA s2.addr ot) (by omega);generalize t.gA s2.addr ot=e at*
    simp only[b6,y7,zan,ht,jo,zaB,ad];simp only[xQ,b6]at p3 p4;repeat' (first|refine zfG ?_|refine zd9 ?_|intro K hK|intro hc|refine xyZ ?_|refine aF ?_ ?_|refine zw3 λg=> ?_|refine zw7 ?_|refine bT λg=> ?_|refine bQ λg=> ?_|refine zfr ?_|refine cZ p1 λu1=> ?_|refine cZ p2 λu2=> ?_|(show WS _ _ _ (.region 10 _ true) _ _;first|refine zbL 3 0 4 b2 s2 (List.range 21) (by decide+kernel) rfl rfl rfl rfl iI iI iI iI ?_|refine zb0 3 0 4 (List.range 21) (by decide+kernel) rfl rfl rfl rfl iI iI iI ?_)|((first|refine' bP rfl rfl rfl ?zh ?_|refine' bk rfl rfl ?zh ?_);(case zh=>intro F';exact zbZ (s:=s2) (b:=b2) rfl iI iI))|refine cZ p4 λx4=> ?_|refine cZ p3 λve2=> ?_)
    refine aj (.inl rfl) rfl ⟨[k8 (i:Int) e],rfl,?_⟩;(try rw[ad (y8 _ _ _ _)]);refine aq.msh (m:=m.refuse (i:Int) e) va ve2 (by rw[EZ,FW];rfl) ?_;refine aq.sta (m:=m.refuse (i:Int) e) gn vj e1 ?_;unfold zaC;simp only[zaA,b6,y7,zan,ht,jo,zaB,Ms.refuse,Ms.event,e9,evO,r5,k8,svV,cT,dS.zero,b5];exact ah
theorem zdD (gm k) (m:Ms) (el) (o:Z3) (c) (hf:m.zaQ c) (hx:o.text.length<=100000) (hev:m.mU=[]) (zai:m.bars o=false) (hk:o.kind=8):Spec ucC w0 41 [ptr gm 0,opA o] (y8 gm k m el) (λ_:List ES=> .tuple #[]) (λnew=>y8 gm k (m.ZU o) (el++new)*e9 new):=by
 obtain⟨i,s,ei,hs,hw,Uf⟩:=Ms.zap zai;obtain⟨kind,oa,ob,on_,oo,ot⟩:=o;simp only at hk ei hw Uf hx;subst hk;subst ei;have h6:=hf.short;refine eZ Tryz.func41 Tryz.ntmps41 λG=> ?_;refine za5 λva ve FW=> ?_;refine zaS λyl=> ?_;have zbV:el.length=0:=by
  exact pag
 have hi:=(az.1 hs).1;obtain⟨b,hb⟩:∃b,k.bs[i]? =some b:=⟨_,aX (by omega)⟩
 have l5:m.at_ (i:Int)=some s:=(m.zaw i).trans hs;have Hq:=hf.sound i s hs;have p1:=r9 w0 gm m ⟨k.vs,k.bs,k.r,va,ve⟩ i b hb (by show k.bs.length<=6;omega);simp only[opA,opC,aN];cases ht:s.node with
 |none=>rw[ht]at hw;exact absurd (hw (by decide)) (λh:true=false=>by cases h)
 |some t=>
  have F6:=(Hq.node t ht).1;obtain⟨j,s2,ej,fP⟩:=Uf (.inr (.inr rfl));subst ej;have hj:=(az.1 fP).1;obtain⟨b2,FT⟩:∃b,k.bs[j]? =some b:=⟨_,aX (by omega)⟩
  have zcQ:m.at_ (j:Int)=some s2:=(m.zaw j).trans fP;have p2:=r9 w0 gm m ⟨k.vs,k.bs,k.r,va,ve⟩ j b2 FT (by show k.bs.length<=6;omega);rw[Ms.zcy zai rfl l5 ht zcQ];simp only[D3];by_cases OE:i=j
  ·obtain rfl:b=b2:=by rw[OE,FT]at hb;exact(PL hb).symm
   obtain rfl:s=s2:=by rw[OE,fP]at hs;exact(PL hs).symm
   obtain⟨R,e1,e2⟩:=zau yl hb hs;refine za0 e1 λgn vj=> ?_;unfold zaC;simp only[b6]at p1 p2;have hw:=F6.wa m.now s.addr ot;have OA:=zbd F6 m.now s.addr ot;have p4:=λv=>HK w0 gn t m.now s.addr ot F6 hx v (rows 5 1 bU v ot);have p5:=λv=>zaL w0 gm k i b c hb m el (t.iX m.now s.addr ot).out v s (·.run (t.iX m.now s.addr ot)) (t.iX m.now s.addr ot) (λ_=>rfl) rfl hs (Hq.Z5 ht hw) hw.R9.le (by omega) hf.Zx (by rw[hev];simp only[HM];omega) h6 FW R (e2 _) va ve gn vj;generalize t.iX m.now s.addr ot=t2 at*
   simp only[b6,y7,zan,ht,jo,zaB];simp only[fp,b6,Zr.zaz,Zr.zao,Zr.v8,ad]at p4 p5 ⊢;repeat' (first|refine zfG ?_|refine zd9 ?_|intro hc|refine yZ ?_|refine aF ?_ ?_|refine zg9 ?_|refine zfr ?_|refine cZ p1 λu1=> ?_|refine cZ p2 λu2=> ?_|(show WS _ _ _ (.region 15 _ true) _ _;refine nw 3 (.range 20) 18 [6,10,14] (by decide+kernel) rfl rfl iI ?_)|(refine aD (vB rfl iI iI iI (by omega)) rfl rfl rfl ?_;intro vb2)|(refine aD (aa iI rfl (p4 _) iI) rfl rfl rfl ?_;intro x4)|refine cZ (p5 x4) λzar=> ?_)
   exact aj (.inr rfl) rfl ⟨zar,rfl,ah⟩
  ·obtain⟨R,e1,e2⟩:=zbP yl hb hs FT fP OE;refine za0 e1 λgn vj=> ?_;unfold zaC;simp only[b6]at p1 p2;have hw:=F6.wa m.now s2.addr ot;have OA:=zbd F6 m.now s2.addr ot;have p4:=λv=>HK w0 gn t m.now s2.addr ot F6 hx v (rows 5 1 bU v ot);have p5:=λv=>zaL w0 gm k i b c hb m el (t.iX m.now s2.addr ot).out v s (·.run (t.iX m.now s2.addr ot)) (t.iX m.now s2.addr ot) (λ_=>rfl) rfl hs (Hq.Z5 ht hw) hw.R9.le (by omega) hf.Zx (by rw[hev];simp only[HM];omega) h6 FW (zaT b2 s2*R) (e2 _) va ve gn vj;generalize t.iX m.now s2.addr ot=t2 at*
   simp only[b6,y7,zan,ht,jo,zaB];simp only[fp,b6,Zr.zaz,Zr.zao,Zr.v8,ad]at p4 p5 ⊢;repeat' (first|refine zfG ?_|refine zd9 ?_|intro hc|refine yZ ?_|refine aF ?_ ?_|refine zg9 ?_|refine zfr ?_|refine cZ p1 λu1=> ?_|refine cZ p2 λu2=> ?_|(show WS _ _ _ (.region 15 _ true) _ _;refine nw 3 (.range 20) 18 [6,10,14] (by decide+kernel) rfl rfl iI ?_)|((first|refine' bP rfl rfl rfl ?zh ?_|refine' bk rfl rfl ?zh ?_);(case zh=>intro F';exact zbZ (s:=s2) (b:=b2) rfl iI iI))|(refine aD (vB rfl iI iI iI (by omega)) rfl rfl rfl ?_;intro vb2)|(refine aD (aa iI rfl (p4 _) iI) rfl rfl rfl ?_;intro x4)|refine cZ (p5 x4) λzar=> ?_)
   exact aj (.inr rfl) rfl ⟨zar,rfl,ah⟩
theorem zdB (gm k) (m:Ms) (el) (o:Z3) (c) (hf:m.zaQ c) (hev:m.mU=[]) (zai:m.bars o=false) (hk:o.kind=11):Spec ucC w0 41 [ptr gm 0,opA o] (y8 gm k m el) (λ_:List ES=> .tuple #[]) (λnew=>y8 gm k (m.ZU o) (el++new)*e9 new):=by
 obtain⟨i,s,ei,hs,hw,Uf⟩:=Ms.zap zai;obtain⟨kind,oa,ob,on_,oo,ot⟩:=o;simp only at hk ei hw Uf;subst hk;subst ei;have h6:=hf.short;refine eZ Tryz.func41 Tryz.ntmps41 λG=> ?_;refine za5 λva ve FW=> ?_;refine zaS λyl=> ?_;have zbV:el.length=0:=by
  exact pag
 have hi:=(az.1 hs).1;obtain⟨b,hb⟩:∃b,k.bs[i]? =some b:=⟨_,aX (by omega)⟩
 have l5:m.at_ (i:Int)=some s:=(m.zaw i).trans hs;have Hq:=hf.sound i s hs;have p1:=r9 w0 gm m ⟨k.vs,k.bs,k.r,va,ve⟩ i b hb (by show k.bs.length<=6;omega);simp only[opA,opC,aN];obtain⟨vb,UM,p2⟩:=za3 w0 gm m ⟨k.vs,k.bs,k.r,va,ve⟩ ob (by show k.bs.length<=6;omega);cases ht:s.node with
 |some t=>exact absurd ((hw (by decide)).trans (show decide ((11:Int)=11)=true by decide)) (by rw[ht];exact λh:false=true=>by cases h)
 |none=>
  rw[Ms.zb8 zai rfl l5];simp only[D3];obtain⟨R,e1,e2⟩:=zau yl hb hs;refine za0 e1 λgn vj=> ?_;unfold zaC;have Wb:=Nd.zcw s.addr s.ay m.now;have Ng:=Hq.Yt;have p4:=(HH w0 s.addr s.ay (by omega) m.now vj (rows 5 1 bU vj s.ay)).ze4 (λy:Nat×SV×SV×SV=>(y.1,svV y.2)) (λx=>(x.1,zcA x.2)) (λx w F hx=>by rw[ad,ad,aM]at hx;show(x.1,svV (zcA x.2))=x;rw[zbJ hx]);have p5:=fun(gn':Nat) (v:SV×SV×SV)=>zaL w0 gm k i b c hb m el (Nd.gZ s.addr s.ay m.now) (svV v) s (Zr.zcq m.now) (Nd.new s.addr s.ay m.now) (λ_=>rfl) rfl hs (Hq.zcq m.now) (by rw[Wb.1];simp) (by rw[Wb.1];simp) hf.Zx (by rw[hev,Wb.1];simp) h6 FW R (e2 _) va ve gn' vj;have eb1:(s.zcq m.now).Zw=s.Zw:=rfl;have eb2:(s.zcq m.now).ZL=false:=rfl;have eb3:(s.zcq m.now).ay=s.ay:=rfl;rw[eb1,eb2,eb3]at p5;generalize Nd.new s.addr s.ay m.now=t2 at*
  generalize Nd.gZ s.addr s.ay m.now=o2 at*
  simp only[b6,y7,zan,ht,jo,zaB,ad,aB];simp only[fp,svV,cT,b6,ad]at p1 p2 p4 p5 ⊢;repeat' (first|refine zhC ?_|refine zd9 ?_|intro hc|refine yZ ?_|refine aF ?_ ?_|refine zw3 λg=> ?_|refine zw7 ?_|refine zfr ?_|refine cZ p1 λu1=> ?_|refine cZ p2 λu2=> ?_|(show WS _ _ _ (.region 21 _ true) _ _;refine GO 0 4 (List.range 19) (by decide+kernel) rfl rfl rfl iI iI ?_)|refine cZ p4 λx4=> ?_|refine cZ (p5 x4.1 x4.2) λzar=> ?_)
  exact aj (.inr rfl) rfl ⟨zar,rfl,ah⟩
end
end Go.Proofs.YtapoehkdnglahabGreat
