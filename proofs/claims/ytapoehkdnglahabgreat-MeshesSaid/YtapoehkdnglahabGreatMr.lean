/- A part. -/
import Derived.Test.YtapoehkdnglahabGreatMo
import Derived.Test.YtapoehkdnglahabGreatMp
import Derived.Test.YtapoehkdnglahabGreatMq
set_option maxHeartbeats 16000000
set_option maxRecDepth 100000
set_option linter.all false
namespace Go.Proofs.YtapoehkdnglahabGreat
section
open Go.RowKit
variable (w0:World)
theorem tm (b r last) (L:List Tm) (t x) (hl:L.length<=900000) (h0:0<=last/\last<=1000000000000000):Spec ucC w0 227 [ptr b 0,u64 t,.int .i64 x] (iA b r last L) (λ_:Unit=> .int .i64 (last+1)) (λ_=>iA b r (last+1) (L++[⟨t,last+1,x⟩])):=λG w hs=>by
 unfold iA at hs;obtain⟨l,iu⟩:=hs.ex;obtain⟨tr,fP⟩:=(iu.cast (ad _ _ _)).pure;have hp:=tr.perm.length_eq;refine(He w0 b r last l t x (λu hu=>by have:=tr.bound u (tr.perm.mem_iff.1 hu);omega) tr.Wt (by omega) h0 G w fP).mono ?_;rintro e w' ⟨y,he,hx⟩;exact⟨y,he,(aq.mX (p:=λl=>pure' (TR l (L++[⟨t,last+1,x⟩]) (last+1))*fZ b r (last+1) l) _ ((aq.ji (tr.add h0.1 ⟨t,last+1,x⟩ rfl) (aq.refl _)).trans (aq.of_eq (ad _ _ _).symm))).sat hx⟩
theorem DY (b r last) (L:List Tm) (now) (hb:gN L now L.length=none):Spec ucC w0 143 [ptr b 0,u64 now] (iA b r last L) (λ_:Unit=> .tuple #[.int .i64 0,.bool false]) (λ_=>iA b r last L):=λG w hs=>by
 unfold iA at hs;obtain⟨l,iu⟩:=hs.ex;obtain⟨tr,fP⟩:=(iu.cast (ad _ _ _)).pure;have h1:0<l.length->now<(cJ l 0).at_:=λh=>by
  by_cases hc:now<(cJ l 0).at_
  ·exact hc
  ·obtain⟨k,hk,_⟩:=tr.due h hc;rw[hb]at hk;cases hk
 refine(Ep w0 b r last l now h1 G w fP).mono ?_;rintro e w' ⟨y,he,hx⟩;exact⟨y,he,(aq.mX (p:=λl=>pure' (TR l L last)*fZ b r last l) l ((aq.ji tr (aq.refl _)).trans (aq.of_eq (ad _ _ _).symm))).sat hx⟩
theorem DZ (b r last) (L:List Tm) (now) {i} (hb:gN L now L.length=some i) (hl:L.length<=900000):Spec ucC w0 143 [ptr b 0,u64 now] (iA b r last L) (λ_:Unit=> .tuple #[.int .i64 (cJ L i).km,.bool true]) (λ_=>iA b r last (L.eraseIdx i)):=λG w hs=>by
 unfold iA at hs;obtain⟨l,iu⟩:=hs.ex;obtain⟨tr,fP⟩:=(iu.cast (ad _ _ _)).pure;have hp:=tr.perm.length_eq;have h0:0<l.length:=by have:=(zaK hb).1;omega
 have h1:¬now<(cJ l 0).at_:=λhc=>by rw[tr.idle (λ_=>hc)]at hb;cases hb
 obtain⟨k,hk,Cg,vS,YN⟩:=tr.due h0 h1;rw[hb]at hk;cases hk;refine(Er w0 b r last l now h0 h1 tr.Wt (by omega) G w fP).mono ?_;rintro e w' ⟨y,he,hx⟩;rw[vS]at he;exact⟨y,he,(aq.mX (p:=λl=>pure' (TR l (L.eraseIdx i) last)*fZ b r last l) _ ((aq.ji YN (aq.refl _)).trans (aq.of_eq (ad _ _ _).symm))).sat hx⟩
theorem Sj {P t x} {r:Int} (h:0<=r/\r<64):dL P .shl t (u64 x) (.int .i64 r) (u64 (x<<<UInt64.ofNat r.toNat)):=by
 obtain⟨k,rfl⟩:∃k:Nat,r=(k:Int):=⟨r.toNat,by omega⟩
 refine⟨λw=> ?_,λw _ _=>bF _ _ _ _ _ _ _ _ _⟩;show(Op.shift .shl .u64 (x.toNat:Int) .i64 (k:Int)).run P w=_;have hk:k<64:=by omega
 unfold Op.shift;rw[eQ (by omega)];simp only[D3,IntKind.bits];rw[show min k 64=k by omega];have e:u64 (x<<<UInt64.ofNat k)= .int .u64 (IntKind.u64.wrap ((x.toNat:Int)*2 ^ k)):=by
  refine(zbo ?_).symm;rw[wrap_u64,UInt64.toNat_shiftLeft,uav];rw[YJ (show k<2 ^ 64 by omega),YJ hk,ucd];simp
 rw[e];rfl
theorem Ab {P:Program} {n:fT} {w0:World} {E:Env} {H:af} {d:Option Tmp} {ty:TypeId} {pos:String} {after:Array Edge} {gu:Option (Tmp×Bool)} {x:Operand} {src t:TypeId} {q:IntKind} {m:Int} {ds:TypeDesc} (hx:E.ev x=some (.int q m)) (hs:eN P src ds) (hd:eN P t (.int .u64)) (hm:0<=m/\m<1000000):OpQ P n w0 ⟨d,.convert src t x,ty,pos,after,gu⟩ E H (u64 (UInt64.ofNat m.toNat)):=
 kX hx hs hd (by rw[wrap_u64,uav];omega)
theorem DM (x:Sr) (h:0<=x.bK/\x.bK<=8/\0<=x.aU/\x.aU<=2):iL x=(80*UInt64.ofNat (x.bK+2).toNat)<<<UInt64.ofNat x.aU.toNat:=by
 exact paD
theorem xG {α:Type} {l:List α} {k x} (h:l[k]? =some x) (f):l.modify k f=l.set k (f x):=by
 apply zD;intro j;rw[uab,Dg];by_cases e:k=j
 ·subst e;obtain⟨h1,h2⟩:=az.1 h;simp[h1,h2]
 ·simp[e]
theorem ye (g) {bs:List Nat} {ss:List Sr} {k b x} (hl:bs.length=ss.length) (hb:bs[k]? =some b) (hx:ss[k]? =some x):∃F,nZ g bs ss=aK b 247 (oB g b x)*F/\∀y,nZ g bs (ss.set k y)=aK b 247 (oB g b y)*F:=by
 obtain⟨F,e1,e2,_⟩:=lE (Tj g) hb hx;refine⟨F,by rw[pR hl,uk,e1];rfl,λy=> ?_⟩;have:=e2 b y;rw[show bs.set k b=bs from by
  apply zD
  intro j
  rw[Dg]
  split
  ·rename_i e;subst e;obtain⟨h1,h2⟩:=az.1 hb;simp[h1,h2]
  ·rfl]at this
 rw[pR (by simpa using hl),uk,this];rfl
def yE (g:Nat) (s:Nd) (h:NH) (b:Nat) (x:Sr) (F1:af):af:=
 aK g 159 (b7 1 s h s.out)*(rows 28 3 Rec.cells h.vr s.aI*(mp u32 u32 h.rh s.held*(dR h.tb s.self s.ls*(cw h s.out*(mp Bt u64 h.rs s.seen*(rows 269 2 sE h.vo s.order*(mA h.rw h.wv s.wait*(mp u32 gw h.rq (nR h.sb s.bu)*(mp i64 gw h.ri (oR h.sb s.bu)*(aK b 247 (oB g b x)*(F1*(iA h.cb h.cr s.last s.bI*rows 24 1 eL h.vs s.aP))))))))))))
theorem Nd.Fit.note {s:Nd} {k:Nat} (h:s.Fit (k+1)) (ok:aW s.ls):s.note.Fit k:=by
 obtain⟨a,b,c,d,e⟩:=h;have h1:=Nd.fz.note s;have h2:=Nd.nj s ok;have h3:=Nd.zI s ok;exact⟨by rw[h1.aJ];omega,by rw[h1.cj];omega,by rw[h1.dropped];omega,by omega,by omega⟩
attribute [local irreducible] WS LS OpQ y6 cn cv Spec bA aK
theorem wH (gn:Nat) (s:Nd) (h:NH) {k b:Nat} {x:Sr} (hx:s.bu[k]? =some x) (hb:h.sb[k]? =some b) (rf:0<=x.bK/\x.bK<=8/\0<=x.aU/\x.aU<=2) (ok:aW s.ls) (Lr:s.order.length<=16) (oQ:s.aP.length<=100) (Mh:s.bI.length<=900000) (Dz:0<=s.last/\s.last<=1000000000000) (hf:s.Fit 3):Spec ucC w0 198 [ptr b 0] (bG gn s h) (λ_:Unit=> .tuple #[]) (λ_=>eD gn (s.ask k x)):=by
 refine eZ Tryz.func198 Tryz.ntmps198 λG=> ?_;refine mc λtL u7=> ?_;obtain⟨F1,e1,e2⟩:=ye gn tL hb hx;have P7:=λf=>xG hx f;have SZ:∀y:Sr,y.dest=x.dest->nR h.sb (s.bu.set k y)=nR h.sb s.bu:=λy hy=>sW (key:=λx:Sr=>x.dest) hx hy;have P2:∀y:Sr,y.name=x.name->oR h.sb (s.bu.set k y)=oR h.sb s.bu:=λy hy=>sW (key:=λx:Sr=>x.name) hx hy;obtain⟨xd,xt,xr,xo,xn⟩:=x;simp only at rf SZ P2;have J5:=λo=>SZ ⟨xd,xt,xr,o,xn⟩ rfl;have JY:=λo=>P2 ⟨xd,xt,xr,o,xn⟩ rfl;simp only[aN];by_cases hc:s.now<s.cd
 ·have es:s.ask k ⟨xd,xt,xr,xo,xn⟩=((s.cH k false).drop 8).arm xn 1000:=by unfold Nd.ask;rw[jF hc]
  have p1:=iE w0 gn (s.cH k false) h 8 (by have:=hf.dropped;exact(by omega:s.out.dropped.length<=900000));have p2:=tm w0 h.cb h.cr s.last s.bI (s.now+1000) xn Mh (by omega);simp only[bG,aY,b7,cw,ba,eu,Nd.cH,Nd.drop,P7,e1,e2,J5,JY,oB]at p1 ⊢;repeat' (first|refine ag (id:=14) (.range 10) ?_|refine ae (id:=18) (.range 15) 14 [3,7,13] ?_|intro K hK|intro hc|refine xyZ ?_|refine aF ?_ ?_|refine zw6 ?_|refine bQ λg=> ?_|refine cZ p1 λvd=> ?_|refine cZ p2 λx2=> ?_)
  refine aj (.inr rfl) rfl ⟨(),rfl,?_⟩;exact pbj
 have pb:=G0 w0 gn (s.cH k false) h (by show s.aP.length<=1000;omega);have Ll:∀o,dJ (s.cH k o).now (s.cH k o).aP=dJ s.now s.aP:=λ_=>rfl;rw[Ll]at pb;by_cases SM:5<=dJ s.now s.aP
 ·have es:s.ask k ⟨xd,xt,xr,xo,xn⟩=((s.cH k false).drop 9).arm xn 1000:=by unfold Nd.ask;rw[eQ hc,jF SM]
  have p1:=iE w0 gn (s.cH k false) h 9 (by have:=hf.dropped;exact(by omega:s.out.dropped.length<=900000));have p2:=tm w0 h.cb h.cr s.last s.bI (s.now+1000) xn Mh (by omega);rw[Dp SM]at pb;simp only[bG,aY,b7,cw,ba,eu,Nd.cH,Nd.drop,P7,e1,e2,J5,JY,oB]at p1 pb ⊢;repeat' (first|refine ag (id:=14) (.range 10) ?_|refine ae (id:=18) (.range 15) 14 [3,7,13] ?_|intro K hK|intro hc|refine xyZ ?_|refine aF ?_ ?_|refine zw6 ?_|refine bQ λg=> ?_|refine cZ pb λx0=> ?_|refine cZ p1 λvd=> ?_|refine cZ p2 λx2=> ?_)
  refine aj (.inr rfl) rfl ⟨(),rfl,?_⟩;exact pbj
 rw[EH SM]at pb;obtain⟨s0,sZ⟩:∃s0:Nd,s0={s.cH k true with seq:=bS s.seq}:=⟨_,rfl⟩
 obtain⟨sB,Mq⟩:∃sB:Nd,sB=s0.note:=⟨_,rfl⟩
 have Q1:sB.Fit 2:=by rw[Mq];exact Nd.Fit.note (s:=s0) (by rw[sZ];exact⟨hf.aJ,hf.cj,hf.dropped,hf.aI,hf.ay⟩) (by rw[sZ];exact ok)
 have PW:=Nd.fz.note s0;have okB:aW sB.ls:=by rw[Mq,PW.ls,sZ];exact ok
 have Xh:sB.bu=s.bu.set k ⟨xd,xt,xr,true,xn⟩:=by rw[Mq,PW.bu,sZ];exact P7 _
 have JO:sB.aP=s.aP:=by rw[Mq,PW.aP,sZ];rfl
 have QK:sB.order=s.order:=by rw[Mq,PW.order,sZ];rfl
 have QJ:sB.bI=s.bI:=by rw[Mq,PW.bI,sZ];rfl
 have On:sB.last=s.last:=by rw[Mq,PW.last,sZ];rfl
 have VP:nZ gn h.sb sB.bu=aK b 247 (oB gn b ⟨xd,xt,xr,true,xn⟩)*F1:=by rw[Xh];exact e2 _
 obtain⟨s2,fP⟩:∃s2:Nd,s2={sB with ids:=sB.ids+1,aP:=ik (sB.aP++[sB.now])}:=⟨_,rfl⟩
 have es:s.ask k ⟨xd,xt,xr,xo,xn⟩=((s2.send 0 ⟨xt,1,0,(dG s2.ls xd).isNone,s2.ids,xd,eJ s2.ls xd,s2.self,s2.seq,0,[],[]⟩).aT ⟨s2.self,s2.ids⟩).arm xn (iL ⟨xd,xt,xr,xo,xn⟩):=by
  unfold Nd.ask;rw[eQ hc,eQ SM];unfold Nd.gE;rw[fP,Mq,sZ];rfl
 have TT:nZ gn h.sb s2.bu=aK b 247 (oB gn b ⟨xd,xt,xr,true,xn⟩)*F1:=by rw[fP];exact VP
 have mF:s2.Fit 2:=by rw[fP];exact⟨Q1.aJ,Q1.cj,Q1.dropped,Q1.aI,Q1.ay⟩
 have Px:aW s2.ls:=by rw[fP];exact okB
 have Ux:s2.order.length<=16:=by rw[fP];show sB.order.length<=16;rw[QK];exact Lr
 have TZ:s2.bI=s.bI:=by rw[fP];exact QJ
 have Ui:s2.last=s.last:=by rw[fP];exact On
 have pg:=mW w0 s.seq;have pn:=nk w0 1 gn s0 h ⟨by rw[sZ];have:=hf.aI;exact(by omega:s.aI.length+10<=500000),by rw[sZ];have:=hf.ay;exact(by omega:s.out.ay.length+13*10<=900000)⟩ (by rw[sZ];exact ok);rw[<-Mq]at pn;rw[sZ]at pn;have Lw:(sB.aP++[sB.now]).length=s.aP.length+1:=by rw[JO];simp
 have Ya:sB.aP.length<=100:=by rw[JO];exact oQ
 simp only[bG,aY,b7,cw,ba,eu,Nd.cH,P7,e1,e2,J5,JY,oB,VP,bS]at pb pn ⊢;have Lu:∀(vr vs:Value),∃h2:NH,h2={h with vr:=vr,vs:=vs}:=λ_ _=>⟨_,rfl⟩
 by_cases hlen:5<(sB.aP++[sB.now]).length;all_goals
  first
  |(have Yg:s2.aP=(sB.aP++[sB.now]).drop 1:=by rw[fP];unfold ik;rw[jF hlen])
  |(have Yg:s2.aP=sB.aP++[sB.now]:=by rw[fP];unfold ik;rw[eQ hlen])
  have V6:(5:Int)<((sB.aP++[sB.now]).length:Int)\/¬(5:Int)<((sB.aP++[sB.now]).length:Int):=by omega
  repeat' (first|refine ag (id:=14) (.range 10) ?_|refine ae (id:=7) (.range 14) 10 [4,8] ?_|refine cK (id:=7) 2 (.range 14) 13 [4,8] ?_|intro K hK|intro hc|refine xyZ ?_|refine aF ?_ ?_|refine zhE ?_|refine zw1 ?_|refine bQ λg=> ?_|refine cZ pb λx0=> ?_|(refine ai (vv iI rfl pg) rfl ?_;intro ug)|refine cZ pn λvr=> ?_|(refine aD (au eL [sB.now] iI iI iI rfl rfl rfl rfl rfl iI rfl rfl rfl) rfl rfl rfl ?_;intro vx)|(refine aD (aR rfl rfl iI iI rfl iI iI qX (by first|omega|(simp[al]<;>omega)) rfl) rfl rfl rfl ?_;intro va))
  first
  |(have rX:5<(sB.aP++[sB.now]).length:=hlen
    refine cV (H':=yE gn s2 {h with vr:=vr,vs:=cq 1 va 1} b ⟨xd,xt,xr,true,xn⟩ F1*G) (by
     rw[fP]
     simp only[yE,b7,cw,ik,jF hlen,oB]
     refine(aq.NP (v:=va) 1 (by omega)).trans ?_
     exact ah) ?_
    obtain⟨h2,hh⟩:∃h2:NH,h2={h with vr:=vr,vs:=cq 1 va 1}:=⟨_,rfl⟩
    rw[<-hh]
    have SP:h2.tb=h.tb/\h2.sb=h.sb/\h2.cb=h.cb/\h2.cr=h.cr:=by rw[hh];exact⟨rfl,rfl,rfl,rfl⟩
    clear hh)
  |(refine cV (H':=yE gn s2 {h with vr:=vr,vs:=va} b ⟨xd,xt,xr,true,xn⟩ F1*G) (by
     rw[fP]
     simp only[yE,b7,cw,ik,eQ hlen,oB]
     exact ah) ?_
    obtain⟨h2,hh⟩:∃h2:NH,h2={h with vr:=vr,vs:=va}:=⟨_,rfl⟩
    rw[<-hh]
    have SP:h2.tb=h.tb/\h2.sb=h.sb/\h2.cb=h.cb/\h2.cr=h.cr:=by rw[hh];exact⟨rfl,rfl,rfl,rfl⟩
    clear hh)
  obtain⟨i1,i2,i3,i4⟩:=SP
  clear pb pn
  rw[<-i2]at TT
  have p4:=mo w0 h2.tb s2.self s2.ls xd
  obtain⟨pk,SY⟩:∃pk:Pk,pk=⟨xt,1,0,(dG s2.ls xd).isNone,s2.ids,xd,eJ s2.ls xd,s2.self,s2.seq,0,[],[]⟩:=⟨_,rfl⟩
  have p5:=Gm w0 gn s2 h2 0 pk (by rw[SY];exact⟨by simp only[cM];omega,by simp[cM],by simp[cM],by simp,by simp⟩) (by rw[SY]) (mF.le (by omega))
  obtain⟨s3,qI⟩:∃s3:Nd,s3=s2.send 0 pk:=⟨_,rfl⟩
  have e3:s3.self=s2.self/\s3.ids=s2.ids/\s3.bu=s2.bu/\s3.order=s2.order/\s3.now=s2.now/\s3.bI=s2.bI/\s3.last=s2.last:=by rw[qI];exact⟨rfl,rfl,rfl,rfl,rfl,rfl,rfl⟩
  rw[<-qI]at p5
  have p6:=λvf=>ql w0 gn s3 {h2 with vf:=vf} ⟨s3.self,s3.ids⟩ (by rw[e3.2.2.2.1];exact Ux)
  obtain⟨s4,Nn⟩:∃s4:Nd,s4=s3.aT ⟨s3.self,s3.ids⟩:=⟨_,rfl⟩
  have e4:s4.bu=s3.bu/\s4.now=s3.now/\s4.bI=s3.bI/\s4.last=s3.last:=by rw[Nn];unfold Nd.aT;dsimp only;split<;>exact⟨rfl,rfl,rfl,rfl⟩
  rw[<-Nn]at p6
  have VN:nZ gn h2.sb s3.bu=aK b 247 (oB gn b ⟨xd,xt,xr,true,xn⟩)*F1:=by rw[e3.2.2.1];exact TT
  have VO:nZ gn h2.sb s4.bu=aK b 247 (oB gn b ⟨xd,xt,xr,true,xn⟩)*F1:=by rw[e4.1];exact VN
  have p7:=tm w0 h2.cb h2.cr s4.last s4.bI (s4.now+((80*UInt64.ofNat (xt+2).toNat)<<<UInt64.ofNat xr.toNat)) xn (by rw[e4.2.2.1,e3.2.2.2.2.2.1,TZ];exact Mh) (by rw[e4.2.2.2,e3.2.2.2.2.2.2,Ui];omega)
  have Ax:s.ask k ⟨xd,xt,xr,xo,xn⟩=s4.arm xn ((80*UInt64.ofNat (xt+2).toNat)<<<UInt64.ofNat xr.toNat):=by
   rw[es,DM _ rf,<-SY,<-qI,Nn,e3.1,e3.2.1]
  rw[SY]at p5
  have Rs:0<=xr/\xr<64:=by omega
  simp only[bG,aY,b7,cw,ba,eu,TT,VN,VO,Pk.val,Pk.cells,Bt,sE,oB]at p5 p6
  simp only[yE,b7,cw,oB]
  cases hg:dG s2.ls xd
  all_goals
   simp only[eJ,hg,sH,uz,ua4,uaE]at p4 p5
   repeat' (first|refine ae (id:=10) (.range 14) 8 [3,7] ?_|refine ae (id:=11) (.range 26) 25 [4,10,14,19,23] ?_|refine ae (id:=12) (.range 11) 10 [4,8] ?_|refine ag (id:=13) (.range 13) ?_|refine ae (id:=18) (.range 15) 14 [3,7,13] ?_|intro K hK|refine ax ?_|refine zgQ ?_|refine cZ p4 λx4=> ?_|(refine aD (aa iI rfl p5 iI) rfl rfl rfl ?_;intro vf;replace p6:=p6 vf)|refine cZ p6 λvo=> ?_|((first|refine' bP rfl rfl rfl ?zh ?_|refine' bk rfl rfl ?zh ?_);(case zh=>intro F';exact Ab rfl iI iI (by omega)))|((first|refine' bP rfl rfl rfl ?zh ?_|refine' bk rfl rfl ?zh ?_);(case zh=>intro F';exact bE rfl rfl (Sj Rs)))|refine cZ p7 λx7=> ?_)
   refine aj (.inr rfl) rfl ⟨(),rfl,?_⟩
   rw[Ax]
   refine aq.nod {h2 with vf:=vf,vo:=vo} ?_
   simp only[bG,aY,b7,cw,ba,eu,Nd.arm,VO,oB]
   exact ah
end
section
structure Nd.Step (s t:Nd) (a b:Nat):Prop where
 self:t.self=s.self
 now:t.now=s.now
 MK:t.out.replace=s.out.replace
 aJ:t.out.aJ.length<=s.out.aJ.length+a
 cj:t.out.cj.length<=s.out.cj.length+a
 dropped:t.out.dropped.length<=s.out.dropped.length+a
 wr:∃W:List Rec,W.length<=b/\t.aI=s.aI++W/\t.out.ay=s.out.ay++b9 W
theorem Nd.Step.zero {s t:Nd} (h1:t.self=s.self) (h2:t.now=s.now) (h3:t.out=s.out) (h4:t.aI=s.aI):s.Step t 0 0:=⟨h1,h2,by rw[h3],by rw[h3];omega,by rw[h3];omega,by rw[h3];omega,[],by simp,by simp[h4],by simp[h3,b9]⟩
theorem Nd.Step.trans {s t u:Nd} {a b c d:Nat} (h:s.Step t a b) (g:t.Step u c d):s.Step u (a+c) (b+d):=by
 obtain⟨W,w1,w2,w3⟩:=h.wr;obtain⟨V,v1,v2,v3⟩:=g.wr;refine⟨g.self.trans h.self,g.now.trans h.now,g.MK.trans h.MK,?_,?_,?_,W++V,by simp;omega,by rw[v2,w2,EK],by rw[v3,w3];simp[b9]⟩
 ·have:=h.aJ;have:=g.aJ;omega
 ·have:=h.cj;have:=g.cj;omega
 ·have:=h.dropped;have:=g.dropped;omega
theorem Nd.Step.le {s t:Nd} {a b c d} (h:s.Step t a b) (h1:a<=c) (h2:b<=d):s.Step t c d:=by
 obtain⟨W,w1,w2,w3⟩:=h.wr;exact⟨h.self,h.now,h.MK,by have:=h.aJ;omega,by have:=h.cj;omega,by have:=h.dropped;omega,W,by omega,w2,w3⟩
theorem nT (l:List Rec):(b9 l).length=13*l.length:=by
 unfold b9;exact zcn l
theorem Nd.Step.aI {s t:Nd} {a b} (h:s.Step t a b):t.aI.length<=s.aI.length+b:=by
 obtain⟨W,w1,w2,w3⟩:=h.wr;rw[w2];simp;omega
theorem Nd.Step.ay {s t:Nd} {a b} (h:s.Step t a b):t.out.ay.length<=s.out.ay.length+13*b:=by
 obtain⟨W,w1,w2,w3⟩:=h.wr;rw[w3,pU,nT];omega
theorem Nd.Step.fit {s t:Nd} {a b k} (h:s.Step t a b) (h1:s.out.aJ.length+a+k<=800000) (h2:s.out.cj.length+a+k<=800000) (h3:s.out.dropped.length+a+k<=800000) (h4:s.aI.length+b+9*k<=400000) (h5:s.out.ay.length+13*b+120*k<=800000):t.Fit k:=by
 have:=h.aJ;have:=h.cj;have:=h.dropped;have:=h.aI;have:=h.ay;constructor<;>omega
theorem Nd.Step.write (s:Nd) (r):s.Step (s.write r) 0 1:=⟨rfl,rfl,rfl,uL _,uL _,uL _,[r],by simp,rfl,by simp[Nd.write,b9]⟩
theorem Nd.Step.cf (s:Nd) (l):s.Step (s.cf l) 0 1:=by
 unfold Nd.cf;repeat' split
 all_goals first|exact Nd.Step.write _ _|exact(Nd.Step.zero rfl rfl rfl rfl).le (by omega) (by omega)
theorem Nd.Step.dh (s:Nd):s.Step s.dh 0 1:=by
 unfold Nd.dh;split
 ·exact Nd.Step.write _ _
 ·exact pa0
theorem Nd.Step.oW (L:List Ln):∀s:Nd,s.Step (L.foldl Nd.cf s) 0 L.length:=by
 induction L with
 |nil=>intro s;exact Nd.Step.zero rfl rfl rfl rfl
 |cons l L ih=>intro s;exact((Nd.Step.cf s l).trans (ih _)).le (by omega) (by simp only[Pr];omega)
theorem Nd.Step.note (s:Nd):s.Step s.note 0 (1+(cE s.ls).length):=((Nd.Step.dh s).trans (Nd.Step.oW _ _)).le (by omega) (uL _)
theorem Nd.Step.send (s:Nd) (to p):s.Step (s.send to p) 1 0:=⟨rfl,rfl,rfl,by simp[Nd.send],by simp[Nd.send],by simp[Nd.send],[],by simp,by simp[Nd.send],by simp[Nd.send,b9]⟩
theorem Nd.Step.drop (s:Nd) (r):s.Step (s.drop r) 1 0:=⟨rfl,rfl,rfl,by simp[Nd.drop],by simp[Nd.drop],by simp[Nd.drop],[],by simp,by simp[Nd.drop],by simp[Nd.drop,b9]⟩
theorem Nd.Step.QB (s:Nd) (x):s.Step (s.cj x) 1 0:=⟨rfl,rfl,rfl,by simp[Nd.cj],by simp[Nd.cj],by simp[Nd.cj],[],by simp,by simp[Nd.cj],by simp[Nd.cj,b9]⟩
theorem Nd.Step.ls (s:Nd) (l):s.Step {s with ls:=l} 0 0:=Nd.Step.zero rfl rfl rfl rfl
theorem Nd.Step.aT (s:Nd) (r):s.Step (s.aT r) 0 0:=by
 obtain⟨_,h1,h2,h3,h4⟩:=s.j2 r;exact Nd.Step.zero h1 h2 h3 h4
theorem Nd.Step.hand (s:Nd) (d t):s.Step (s.hand d t) 1 0:=by
 unfold Nd.hand;split
 ·exact pa0
 ·have h0:s.Step {s with ff:=s.ff+1} 0 0:=Nd.Step.zero rfl rfl rfl rfl;have h1:=λto p=>h0.trans (Nd.Step.send {s with ff:=s.ff+1} to p);exact((h1 _ _).trans (Nd.Step.ls _ _)).le (uL _) (uL _)
theorem Nd.Step.bg (s:Nd) (d) (l:List cP):s.Step (s.bg d l) l.length 0:=by
 induction l using eE with
 |nil=>exact Nd.Step.zero rfl rfl rfl rfl
 |snoc l t ih=>rw[Nd.dX];exact(ih.trans (Nd.Step.hand _ _ _)).le (by simp) (by omega)
theorem Nd.Step.flush (s:Nd) (d):s.Step (s.flush d) (s.texts d).length 0:=by
 unfold Nd.flush;simp only;have h1:=Nd.Step.bg s d (s.texts d);split
 ·exact(h1.trans (Nd.Step.zero (t:=Nd.stop ((s.bg d (s.texts d)).cX d) _) rfl rfl rfl rfl)).le (by omega) (by omega)
 ·exact(h1.trans (Nd.Step.zero (t:=(s.bg d (s.texts d)).cX d) rfl rfl rfl rfl)).le (by omega) (by omega)
theorem Nd.Step.dy (s:Nd) (n k):s.Step (s.dy n k) n 0:=⟨rfl,rfl,rfl,by simp[Nd.dy],by simp[Nd.dy],by simp[Nd.dy],[],by simp,by simp[Nd.dy],by simp[Nd.dy,b9]⟩
theorem Nd.Step.arm (s:Nd) (k w):s.Step (s.arm k w) 0 0:=Nd.Step.zero rfl rfl rfl rfl
theorem Nd.Step.gE (s:Nd) (x):s.Step (s.gE x) 1 (1+(cE s.ls).length):=by
 unfold Nd.gE;simp only;have h0:s.Step {s with seq:=bS s.seq} 0 0:=Nd.Step.zero rfl rfl rfl rfl;have h1:=h0.trans (Nd.Step.note _);generalize Nd.note {s with seq:=bS s.seq}=t at*
 have h2:t.Step {t with ids:=t.ids+1,aP:=ik (t.aP++[t.now])} 0 0:=Nd.Step.zero rfl rfl rfl rfl;have h3:=h1.trans h2;generalize ({t with ids:=t.ids+1,aP:=ik (t.aP++[t.now])}:Nd)=u at*
 exact((h3.trans (Nd.Step.send u _ _)).trans (Nd.Step.aT _ _)).le (by omega) (by simp only;omega)
theorem Nd.Step.ask (s:Nd) (k x):s.Step (s.ask k x) 1 (1+(cE s.ls).length):=by
 unfold Nd.ask;have h0:∀b,s.Step (s.cH k b) 0 0:=λ_=>Nd.Step.zero rfl rfl rfl rfl;split
 ·exact pbz
 ·split
  ·exact pbz
  ·exact((h0 _).trans ((Nd.Step.gE _ _).trans (Nd.Step.arm _ _ _))).le (by omega) (by simp only[Nd.cH];omega)
theorem Nd.Step.answer (s:Nd) (p):s.Step (s.answer p) 1 0:=by
 unfold Nd.answer;split
 ·exact Nd.Step.send _ _ _
 ·exact Nd.Step.drop _ _
theorem Nd.Step.gR (s:Nd) (p):s.Step (s.gR p) 1 0:=by
 unfold Nd.gR;split
 ·exact Nd.Step.drop _ _
 ·split<;>exact Nd.Step.send _ _ _
theorem Nd.Step.jy (s:Nd) (p):s.Step (s.jy p) 1 0:=by
 unfold Nd.jy;split
 ·have h0:∀q,s.Step {s with seq:=q} 0 0:=λ_=>Nd.Step.zero rfl rfl rfl rfl;exact((h0 _).trans (Nd.Step.answer _ _)).le (by omega) (by omega)
 ·split
  ·split
   ·exact((Nd.Step.ls _ _).trans (Nd.Step.answer _ _)).le (by omega) (by omega)
   ·exact Nd.Step.gR _ _
  ·exact Nd.Step.gR _ _
theorem Nd.Step.qd (s:Nd) (src p):s.Step (s.qd src p) 1 0:=by
 unfold Nd.qd;split
 ·exact Nd.Step.drop _ _
 ·simp only;split
  ·exact((Nd.Step.aT s _).trans ((Nd.Step.ls _ _).trans (Nd.Step.drop _ _))).le (by omega) (by omega)
  ·exact((Nd.Step.aT s _).trans ((Nd.Step.ls _ _).trans (Nd.Step.jy _ _))).le (by omega) (by omega)
theorem Nd.Step.lost (s:Nd) (l):s.Step (s.lost l) 1 0:=by
 unfold Nd.lost;split
 ·exact Nd.Step.send _ _ _
 ·exact pa0
theorem Nd.Step.xC (s:Nd) (src p):s.Step (s.xC src p) 2 0:=by
 unfold Nd.xC;simp only;split
 ·exact((Nd.Step.ls _ _).trans (Nd.Step.lost _ _)).le (by omega) (by omega)
 ·exact((Nd.Step.ls _ _).trans ((Nd.Step.lost _ _).trans (Nd.Step.drop _ _))).le (by omega) (by omega)
theorem Nd.Step.tell (s:Nd) (a b c):s.Step (s.tell a b c) 1 0:=Nd.Step.send _ _ _
theorem Nd.Step.ov (s:Nd) (src p):s.Step (s.ov src p) 2 0:=by
 unfold Nd.ov;split
 ·exact(Nd.Step.QB _ _).le (by omega) (by omega)
 ·split
  ·exact paW
  ·split
   ·exact((Nd.Step.drop _ _).trans ((Nd.Step.ls _ _).trans (Nd.Step.tell _ _ _ _))).le (by omega) (by omega)
   ·exact((Nd.Step.send _ _ _).trans (Nd.Step.ls _ _)).le (by omega) (by omega)
theorem Nd.Step.brk (s:Nd) (nb):s.Step (s.brk nb) 1 0:=((Nd.Step.ls _ _).trans (Nd.Step.lost _ _)).le (by omega) (by omega)
theorem Nd.K4 (s:Nd) (l d):Nd.texts {s with ls:=l} d=s.texts d:=rfl
theorem Nd.Step.rep (s:Nd) (src) (p:Pk):s.Step (s.rep src p) ((s.texts p.dest).length+1) 0:=by
 unfold Nd.rep;split
 ·exact paW
 ·simp only;split
  ·exact((Nd.Step.ls _ _).trans (Nd.Step.drop _ _)).le (by omega) (by omega)
  ·split
   ·have h1:∀l:List Ln,s.Step (if(bR l p.dest s.now).isSome then Nd.flush {s with ls:=l} p.dest else {s with ls:=l}) (s.texts p.dest).length 0:=λl=>by
     split
     ·exact((Nd.Step.ls s l).trans (Nd.Step.flush _ _)).le (by rw[Nd.K4];omega) (by omega)
     ·exact(Nd.Step.ls s l).le (by omega) (by omega)
    split
    ·exact((h1 _).trans (Nd.Step.drop _ _)).le (by omega) (by omega)
    ·exact(h1 _).le (by omega) (by omega)
   ·split
    ·split<;>exact((Nd.Step.ls _ _).trans (Nd.Step.drop _ _)).le (by omega) (by omega)
    ·split
     ·exact((Nd.Step.ls _ _).trans (Nd.Step.drop _ _)).le (by omega) (by omega)
     ·exact((Nd.Step.ls _ _).trans ((Nd.Step.send _ _ _).trans (Nd.Step.ls _ _))).le (by omega) (by omega)
theorem Nd.Step.handle (s:Nd) (src) (p:Pk):s.Step (s.handle src p) ((s.texts p.dest).length+2) 0:=by
 unfold Nd.handle;repeat' split
 ·exact(Nd.Step.qd _ _ _).le (by omega) (by omega)
 ·exact(Nd.Step.rep _ _ _).le (by omega) (by omega)
 ·exact(Nd.Step.xC _ _ _).le (by omega) (by omega)
 ·exact(Nd.Step.ov _ _ _).le (by omega) (by omega)
end
section
structure dx (me:UInt32) (ls:List Ln):Prop where
 dp:aW ls
 line:∀l∈ls,l.dest≠me/\(l.valid=false->l.before=[])
theorem CG {ls d f x} (h:x∈lP ls d f):x∈ls\/∃l∈ls,x=f l:=by
 cases hf:cN ls d with
 |none=>rw[lP,hf]at h;exact .inl h
 |some i=>
  obtain⟨l,hl,_⟩:=dw hf;rw[fm hf hl]at h;rcases W7 h with h|rfl
  ·exact .inl h
  ·exact .inr ⟨l,jq hl,rfl⟩
theorem ze {ls:List Ln} {i} {l x:Ln} (hl:ls[i]? =some l) (hd:x.dest=l.dest):aO (ls.set i x)=aO ls:=by
 obtain⟨bW,he⟩:=az.1 hl;exact pbx
theorem nI {ls d f} (hd:∀l∈ls,(f l).dest=l.dest):aO (lP ls d f)=aO ls:=by
 cases hf:cN ls d with
 |none=>rw[lP,hf]
 |some i=>
  obtain⟨l,hl,_⟩:=dw hf;rw[fm hf hl];exact ze hl (hd l (jq hl))
theorem gY (ls d e):aO (iY ls d e)=aO ls:=nI λl _=>by split<;>rfl
theorem jE (ls d nb):aO (gF ls d nb)=aO ls:=nI λl _=>by split<;>rfl
theorem wU (ls d):aO (ia ls d)=aO ls:=nI λl _=>rfl
theorem wV (ls a d s):aO (iS ls a d s)=aO ls:=nI λl _=>by split<;>rfl
theorem zd {ls:List Ln} {f} (hd:∀l∈ls,(f l).dest=l.dest):aO (ls.map f)=aO ls:=by
 unfold aO;rw[ub0];exact Z8 hd
theorem zc (now ls):aO (mE now ls)=aO ls:=zd λl _=>by unfold Ln.exp;split<;>rfl
theorem tA (nb ls):aO (nH nb ls)=aO ls:=zd λl _=>by unfold Ln.brk;split<;>rfl
theorem Ha (ls x):∀d∈aO ls,d∈aO (j8 ls x):=by
 intro d hd;unfold j8;cases hf:cN ls x.dest with
 |some i=>
  obtain⟨l,hl,he⟩:=dw hf;rw[ze hl he.symm];exact hd
 |none=>simp only[aO,EZ]at hd ⊢;exact ubM _ hd
theorem pz (self ls x):∀d∈aO ls,d∈aO (dI self ls x).2:=by
 intro d hd;unfold dI;repeat' split
 all_goals first|exact hd|exact Ha _ _ d hd
section
variable {self:UInt32} {ls:List Ln}
theorem dx.mod (h:dx self ls) {d:UInt32} {f:Ln->Ln} (ht:aW (lP ls d f)) (hd:∀l∈ls,(f l).dest=l.dest) (hv:∀l∈ls,(l.valid=false->l.before=[])->(f l).valid=false->(f l).before=[]):dx self (lP ls d f):=⟨ht,λx hx=>by
 rcases CG hx with hx|⟨l,hl,rfl⟩
 ·exact h.line x hx
 ·exact⟨by rw[hd l hl];exact(h.line l hl).1,hv l hl (h.line l hl).2⟩⟩
theorem dx.use (h:dx self ls) (d e):dx self (iY ls d e):=h.mod (h.dp.use d e) (λl _=>by split<;>rfl) (λl _ k=>by split<;>simp_all)
theorem dx.FK (h:dx self ls) (d nb):dx self (gF ls d nb):=h.mod (h.dp.FK d nb) (λl _=>by split<;>rfl) (λl _ k=>by split<;>simp_all)
theorem dx.bump (h:dx self ls) (d):dx self (ia ls d):=h.mod (h.dp.bump d) (λl _=>rfl) (λl _ k=>k)
theorem dx.gI (h:dx self ls) (a d s):dx self (iS ls a d s):=h.mod (h.dp.gI a d s) (λl _=>by split<;>rfl) (λl _ k=>by split<;>simp_all [Ln.ended])
theorem dx.map {f:Ln->Ln} (h:dx self ls) (ht:aW (ls.map f)) (hd:∀l∈ls,(f l).dest=l.dest) (hv:∀l∈ls,(l.valid=false->l.before=[])->(f l).valid=false->(f l).before=[]):dx self (ls.map f):=⟨ht,λx hx=>by
 obtain⟨l,hl,rfl⟩:=HC.1 hx;exact⟨by rw[hd l hl];exact(h.line l hl).1,hv l hl (h.line l hl).2⟩⟩
theorem dx.exp (h:dx self ls) (now):dx self (mE now ls):=h.map (h.dp.exp now) (λl _=>by unfold Ln.exp;split<;>rfl) (λl _ k=>by unfold Ln.exp;split<;>simp_all [Ln.ended])
theorem dx.brk (h:dx self ls) (nb):dx self (nH nb ls):=h.map (h.dp.brk nb) (λl _=>by unfold Ln.brk;split<;>rfl) (λl _ k=>by unfold Ln.brk;split<;>simp_all [Ln.ended])
theorem dx.put (h:dx self ls) {x:Ln} (ht:aW (j8 ls x)) (hx:x.dest≠self) (hb:x.valid=false->x.before=[]):dx self (j8 ls x):=⟨ht,λy hy=>by
 unfold j8 at hy;split at hy
 ·rcases W7 hy with hy|rfl
  ·exact h.line y hy
  ·exact⟨hx,hb⟩
 ·rcases Lz.1 hy with hy|hy
  ·exact h.line y hy
  ·simp at hy;subst hy;exact⟨hx,hb⟩⟩
theorem dx.La (h:dx self ls) (x:Ln) (h1:0<=x.aH/\x.aH<=1000):dx self (dI self ls x).2:=by
 have ht:=h.dp.La self x h1;unfold dI at ht ⊢;split
 ·exact h
 ·rename_i hc;rw[eQ hc]at ht;cases hg:dG ls x.dest with
  |some l=>
   simp only[hg]at ht ⊢;split
   ·exact h
   ·rename_i h2;rw[eQ h2]at ht;exact h.put ht (λe=>hc (.inl e)) (λe=>by cases e)
  |none=>
   simp only[hg]at ht ⊢;split
   ·exact h
   ·rename_i h2;rw[eQ h2]at ht;exact h.put ht (λe=>hc (.inl e)) (λe=>by cases e)
theorem dx.bV (h:dx self ls) (src l):dx self (bV src ls l).1/\aO (Go.Proofs.YtapoehkdnglahabGreat.bV src ls l).1=aO ls:=by
 induction l using eE with
 |nil=>exact⟨h,rfl⟩
 |snoc l x ih=>
  rw[jX];exact⟨ih.1.gI _ _ _,by show aO (iS _ _ _ _)=_;rw[wV,ih.2]⟩
theorem dx.nil:dx self []:=⟨aW.nil,λl h=>by cases h⟩
theorem dx.new (self c):dx self (iV self c):=by
 induction c using eE with
 |nil=>exact dx.nil
 |snoc c r ih=>
  have ht:=aW.new self (c++[r]);rw[pJ]at ht ⊢;unfold fe at ht ⊢;split
  ·rename_i hc;rw[jF hc]at ht;exact ih.put ht (by simp only[Rec.ln];exact hc.2.1) (λ_=>rfl)
  ·exact ih
end
structure Nd.Inv (s:Nd):Prop where
 dp:dx s.self s.ls
 sr:l6 s
 order:s.order.length<=16
 wait:∀w∈s.wait,w.2.length<=4/\∀t∈w.2,t.length<=16
 aP:s.aP.length<=5
 aI:∀r∈s.aI,r.own=true\/r.addr∈aO s.ls
theorem Nd.Inv.to {s t:Nd} (h:s.Inv) (h1:dx t.self t.ls) (h2:t.bu=s.bu) (h3:t.names=s.names) (h4:t.order.length<=16) (h5:t.wait=s.wait) (h6:t.aP.length<=5) (h7:t.aI=s.aI) (h8:∀d∈aO s.ls,d∈aO t.ls):t.Inv:=
 ⟨h1,⟨by rw[h2];exact h.sr.aO,by rw[h2];exact h.sr.names,by rw[h2,h3];exact h.sr.each⟩,h4,by rw[h5];exact h.wait,h6,λr hr=>by rw[h7]at hr;rcases h.aI r hr with h|h;exact .inl h;exact .inr (h8 _ h)⟩
theorem Nd.Inv.out {s:Nd} (h:s.Inv) (o):Nd.Inv {s with out:=o}:=h.to h.dp rfl rfl h.order rfl h.aP rfl (λ_ h=>h)
theorem Nd.Inv.ls {s:Nd} (h:s.Inv) {l:List Ln} (h1:dx s.self l) (h2:∀d∈aO s.ls,d∈aO l):Nd.Inv {s with ls:=l}:=h.to h1 rfl rfl h.order rfl h.aP rfl h2
theorem Nd.Inv.send {s:Nd} (h:s.Inv) (to p):(s.send to p).Inv:=h.out _
theorem Nd.Inv.drop {s:Nd} (h:s.Inv) (r):(s.drop r).Inv:=h.out _
theorem Nd.Inv.write {s:Nd} (h:s.Inv) (r:Rec) (hr:r.own=true\/r.addr∈aO s.ls):(s.write r).Inv:=⟨h.dp,⟨h.sr.aO,h.sr.names,h.sr.each⟩,h.order,h.wait,h.aP,λx hx=>by
 rcases Lz.1 hx with hx|hx
 ·exact h.aI x hx
 ·simp at hx;subst hx;exact hr⟩
theorem Nd.Inv.cf {s:Nd} (h:s.Inv) (l:Ln) (hl:l.dest∈aO s.ls):(s.cf l).Inv:=by
 unfold Nd.cf;repeat' split
 all_goals first|exact h.write _ (.inr hl)|exact h
theorem Nd.Inv.oW (L:List Ln):∀{s:Nd},s.Inv->(∀l∈L,l.dest∈aO s.ls)->(L.foldl Nd.cf s).Inv:=by
 induction L with
 |nil=>intro s h _;exact h
 |cons l L ih=>intro s h hl;exact ih (h.cf l (hl l (by simp))) (λx hx=>by rw[Nd.Kz];exact hl x (by simp[hx]))
theorem Nd.Inv.dh {s:Nd} (h:s.Inv):s.dh.Inv:=by
 unfold Nd.dh;split
 ·exact h.write _ (.inl rfl)
 ·exact h
theorem lO {ls l} (h:l∈cE ls):l∈ls:=by
 unfold cE at h;obtain⟨d,_,hd⟩:=List.mem_filterMap.1 h;unfold dG at hd;cases hf:cN ls d with
 |none=>rw[hf]at hd;cases hd
 |some i=>rw[hf]at hd;exact jq hd
theorem Nd.Inv.note {s:Nd} (h:s.Inv):s.note.Inv:=Nd.Inv.oW _ h.dh λl hl=>by
 rw[Nd.xO];exact YY (lO hl)
theorem Nd.Inv.aT {s:Nd} (h:s.Inv) (r):(s.aT r).Inv:=by
 have hl:=mJ s.now s.seen s.order;have ho:=h.order;unfold Nd.aT;dsimp only;split
 ·rename_i h1;exact h.to h.dp rfl rfl h1 rfl h.aP rfl (λ_ h=>h)
 ·refine h.to h.dp rfl rfl ?_ rfl h.aP rfl (λ_ h=>h);rename_i h1;generalize hq:ib _ _ _=i;have hi:i<((dg s.now s.seen s.order).2++[r]).length:=by rw[<-hq];exact nL _ _ _ (uL _) (by simp)
  simp only[pU,Pr,HM,Aw,uK]at*
  omega
theorem Nd.Inv.hand {s:Nd} (h:s.Inv) (d t):(s.hand d t).Inv:=by
 unfold Nd.hand;split
 ·exact h
 ·exact h.to (h.dp.use _ _) rfl rfl h.order rfl h.aP rfl (λx hx=>by rw[gY];exact hx)
theorem Nd.Inv.bg {s:Nd} (h:s.Inv) (d l):(s.bg d l).Inv:=by
 exact pbH
theorem Nd.Inv.cX {s:Nd} (h:s.Inv) (d):(s.cX d).Inv:=⟨h.dp,⟨h.sr.aO,h.sr.names,h.sr.each⟩,h.order,λw hw=>h.wait w ((sg s.wait d).subset hw),h.aP,h.aI⟩
theorem Nd.Inv.stop {s:Nd} (h:s.Inv) (k):(s.stop k).Inv:=⟨h.dp,⟨h.sr.aO.sublist ((W8 _ _).map _),h.sr.names.sublist ((W8 _ _).map _),λx hx=>h.sr.each x ((W8 _ _).subset hx)⟩,h.order,h.wait,h.aP,h.aI⟩
theorem Nd.Inv.flush {s:Nd} (h:s.Inv) (d):(s.flush d).Inv:=by
 unfold Nd.flush;simp only;split
 ·exact((h.bg _ _).cX _).stop _
 ·exact(h.bg _ _).cX _
theorem Nd.Inv.NN {s:Nd} (h:s.Inv) {k} {x y:Sr} (hx:s.bu[k]? =some x) (h1:y.dest=x.dest) (h2:y.name=x.name) (h3:0<=y.bK/\y.bK<=8/\0<=y.aU/\y.aU<=2):Nd.Inv {s with bu:=s.bu.set k y}:=by
 obtain⟨bW,he⟩:=az.1 hx;have e1:(s.bu.set k y).map (·.dest)=s.bu.map (·.dest):=by
  rw[ubo,h1,<-he];apply zD;intro j;rw[Dg];split
  ·rename_i e;subst e;simp[bW]
  ·rfl
 have e2:(s.bu.set k y).map (·.name)=s.bu.map (·.name):=by
  rw[ubo,h2,<-he];apply zD;intro j;rw[Dg];split
  ·rename_i e;subst e;simp[bW]
  ·rfl
 refine⟨h.dp,⟨by show((s.bu.set k y).map _).Nodup;rw[e1];exact h.sr.aO,by show((s.bu.set k y).map _).Nodup;rw[e2];exact h.sr.names,λz hz=> ?_⟩,h.order,h.wait,h.aP,h.aI⟩;rcases W7 hz with hz|rfl
 ·exact h.sr.each z hz
 ·have:=(h.sr.each x (jq hx)).2.2.2.2;exact⟨h3.1,h3.2.1,h3.2.2.1,h3.2.2.2,by rw[h2];exact this⟩
theorem Nd.Inv.cH {s:Nd} (h:s.Inv) {k x} (hx:s.bu[k]? =some x) (b):(s.cH k b).Inv:=by
 unfold Nd.cH;rw[xG hx];have:=h.sr.each x (jq hx);exact h.NN hx rfl rfl ⟨this.1,this.2.1,this.2.2.1,this.2.2.2.1⟩
theorem Nd.Inv.arm {s:Nd} (h:s.Inv) (k w):(s.arm k w).Inv:=h.to h.dp rfl rfl h.order rfl h.aP rfl (λ_ h=>h)
theorem Bm (l:List UInt64) (h:l.length<=6):(ik l).length<=5:=by
 unfold ik;split
 ·simp;omega
 ·omega
theorem Nd.Inv.gE {s:Nd} (h:s.Inv) (x):(s.gE x).Inv:=by
 unfold Nd.gE;simp only;have h0:Nd.Inv {s with seq:=bS s.seq}:=h.to h.dp rfl rfl h.order rfl h.aP rfl (λ_ h=>h);have h1:=h0.note;generalize Nd.note {s with seq:=bS s.seq}=t at*
 have h2:Nd.Inv {t with ids:=t.ids+1,aP:=ik (t.aP++[t.now])}:=h1.to h1.dp rfl rfl h1.order rfl (Bm _ (by have:=h1.aP;simp;omega)) rfl (λ_ h=>h);generalize ({t with ids:=t.ids+1,aP:=ik (t.aP++[t.now])}:Nd)=u at*
 exact(h2.send _ _).aT _
theorem Nd.Inv.ask {s:Nd} (h:s.Inv) {k x} (hx:s.bu[k]? =some x):(s.ask k x).Inv:=by
 unfold Nd.ask;split
 ·exact((h.cH hx _).drop _).arm _ _
 ·split
  ·exact((h.cH hx _).drop _).arm _ _
  ·exact((h.cH hx _).gE _).arm _ _
theorem Sr.xb {x y:Sr} (h:x.iN=some y) (hx:0<=x.bK/\x.bK<=8/\0<=x.aU/\x.aU<=2):y.dest=x.dest/\y.name=x.name/\y.out=x.out/\0<=y.bK/\y.bK<=8/\0<=y.aU/\y.aU<=2:=by
 exact pbK
theorem Nd.Inv.dy {s:Nd} (h:s.Inv) (n k):(s.dy n k).Inv:=h.out _
theorem Nd.Inv.again {s:Nd} (h:s.Inv) {k x} (hx:s.bu[k]? =some x):(s.again k x).Inv:=by
 have S8:=h.sr.each x (jq hx);unfold Nd.again;split
 ·exact h.flush _
 ·split
  ·split
   ·rename_i y hy;obtain⟨f1,f2,_,f3⟩:=Sr.xb hy ⟨S8.1,S8.2.1,S8.2.2.1,S8.2.2.2.1⟩;exact(h.NN hx f1 f2 f3).ask (by show(s.bu.set k y)[k]? =some y;rw[Dg];simp[(az.1 hx).1])
   ·exact((h.dy _ _).cX _).stop _
  ·exact h.ask hx
theorem Nd.Inv.answer {s:Nd} (h:s.Inv) (p):(s.answer p).Inv:=by
 unfold Nd.answer;split
 ·exact h.send _ _
 ·exact h.drop _
theorem Nd.Inv.gR {s:Nd} (h:s.Inv) (p):(s.gR p).Inv:=by
 unfold Nd.gR;split
 ·exact h.drop _
 ·split<;>exact h.send _ _
theorem Nd.Inv.jy {s:Nd} (h:s.Inv) (p):(s.jy p).Inv:=by
 unfold Nd.jy;split
 ·refine Nd.Inv.answer ?_ _;exact h.to h.dp rfl rfl h.order rfl h.aP rfl (λ_ h=>h)
 ·split
  ·split
   ·refine Nd.Inv.answer (h.ls ?_ ?_) _
    ·refine dx.FK ?_ _ _;split
     ·exact h.dp.FK _ _
     ·exact h.dp
    ·intro d hd;rw[jE];split
     ·rw[jE];exact hd
     ·exact hd
   ·exact h.gR _
  ·exact h.gR _
theorem Nd.Inv.qd {s:Nd} (h:s.Inv) (src) (p:Pk) (hp:0<=p.aH/\p.aH<=255):(s.qd src p).Inv:=by
 unfold Nd.qd;split
 ·exact h.drop _
 ·simp only;have h1:=h.aT ⟨p.from_,p.id⟩;generalize s.aT ⟨p.from_,p.id⟩=s1 at*
  have hu:dx s1.self (s1.Sg src p).2:=h1.dp.La _ (by simp only[Ln.bj,xp];omega);have hd:=pz s1.self s1.ls (Ln.bj p.from_ p.av (xp p) src s1.ir);split
  ·exact(h1.ls hu hd).drop _
  ·refine Nd.Inv.jy (h1.ls ?_ ?_) _
   ·split
    ·exact hu.use _ _
    ·exact hu
   ·intro d Nb;split
    ·rw[gY];exact hd d Nb
    ·exact hd d Nb
theorem Nd.Inv.lost {s:Nd} (h:s.Inv) (l):(s.lost l).Inv:=by
 unfold Nd.lost;split
 ·exact h.send _ _
 ·exact h
theorem Nd.Inv.xC {s:Nd} (h:s.Inv) (src p):(s.xC src p).Inv:=by
 unfold Nd.xC;obtain⟨h1,h2⟩:=h.dp.bV src p.lost;have h3:=(h.ls h1 (λd hd=>by rw[h2];exact hd)).lost (bV src s.ls p.lost).2.1;simp only;split
 ·exact h3
 ·exact h3.drop _
theorem Nd.Inv.ov {s:Nd} (h:s.Inv) (src p):(s.ov src p).Inv:=by
 unfold Nd.ov;split
 ·exact h.out _
 ·split
  ·exact h.drop _
  ·split
   ·exact((h.drop 3).ls (h.dp.bump _) (λd hd=>by rw[wU];exact hd)).send _ _
   ·exact(h.send _ _).ls ((h.dp.use _ _).use _ _) (λd hd=>by rw[gY,gY];exact hd)
theorem Nd.Inv.brk {s:Nd} (h:s.Inv) (nb):(s.brk nb).Inv:=(h.ls (h.dp.brk _) (λd hd=>by rw[tA];exact hd)).lost _
theorem Nd.Inv.rep {s:Nd} (h:s.Inv) (src) (p:Pk) (hp:0<=p.aH/\p.aH<=255):(s.rep src p).Inv:=by
 unfold Nd.rep;split
 ·exact h.drop _
 ·simp only;have hu:dx s.self (dI s.self s.ls (Ln.bj p.dest p.ak (xp p) src (s.now+p.bD.toUInt64))).2:=h.dp.La _ (by simp only[Ln.bj,xp];omega);have hd:=pz s.self s.ls (Ln.bj p.dest p.ak (xp p) src (s.now+p.bD.toUInt64));have h1:=h.ls hu hd;generalize dI s.self s.ls (Ln.bj p.dest p.ak (xp p) src (s.now+p.bD.toUInt64))=u at*
  split
  ·exact h1.drop _
  ·split
   ·have h2:Nd.Inv (if(bR u.2 p.dest s.now).isSome then Nd.flush {s with ls:=u.2} p.dest else {s with ls:=u.2}):=by
     split
     ·exact h1.flush _
     ·exact h1
    split
    ·exact h2.drop _
    ·exact h2
   ·split
    ·split<;>exact h1.drop _
    ·split
     ·exact h1.drop _
     ·exact(h1.send _ _).ls (((hu.FK _ _).FK _ _).use _ _) (λd hd=>by rw[gY,jE,jE];exact hd)
theorem Nd.Inv.handle {s:Nd} (h:s.Inv) (src) (p:Pk) (hp:0<=p.aH/\p.aH<=255):(s.handle src p).Inv:=by
 unfold Nd.handle;repeat' split
 ·exact h.qd _ _ hp
 ·exact h.rep _ _ hp
 ·exact h.xC _ _
 ·exact h.ov _ _
theorem Nd.Inv.gQ {s:Nd} (h:s.Inv) (now src f):(s.gQ now src f).Inv:=by
 unfold Nd.gQ;split
 ·exact h.drop _
 ·split
  ·exact h.drop _
  ·split
   ·refine Nd.Inv.drop ?_ _;exact h.to h.dp rfl rfl h.order rfl h.aP rfl (λ_ h=>h)
   ·exact h.drop _
theorem Nd.Inv.eC {s:Nd} (h:s.Inv) (d) (hd:eS s.bu d=none) (h0:0<=s.names):(s.eC d).Inv:=by
 rw[pa]at hd;have h1:=qJ.1 hd;refine⟨h.dp,⟨?_,?_,?_⟩,h.order,h.wait,h.aP,h.aI⟩
 ·show((s.bu++[_]).map _).Nodup;rw[EZ];exact Yw.2 ⟨h.sr.aO,by simp,λa ha b hb=>by simp at hb;subst hb;obtain⟨x,hx,rfl⟩:=HC.1 ha;exact h1 x hx⟩
 ·show((s.bu++[_]).map _).Nodup;rw[EZ];exact Yw.2 ⟨h.sr.names,by simp,λa ha b hb=>by simp at hb;subst hb;obtain⟨x,hx,rfl⟩:=HC.1 ha;have:=(h.sr.each x hx).2.2.2.2;omega⟩
 ·intro x hx;show _/\_/\_/\_/\x.name<=s.names+1;rcases Lz.1 hx with hx|hx
  ·have:=h.sr.each x hx;omega
  ·simp at hx;subst hx;simp
end
section
def Nd.dE (s:Nd):Prop:=∀l∈s.ls,∃q,bX s.held l.dest=some q/\¬q<l.seq
theorem Cy:∀{ls:List Ln} {l:Ln},(aO ls).Nodup->l∈ls->dG ls l.dest=some l
 |[],_,_,h=>by cases h
 |y::r,l,hn,h=>by
  unfold aO at hn;rw[Hh,uaA]at hn;rcases JA.1 h with rfl|h
  ·simp[dG,cN]
  ·have mi:y.dest≠l.dest:=λe=>hn.1 (by rw[e];exact YY h);have ih:=Cy (ls:=r) hn.2 h;unfold dG at ih ⊢;simp only[cN];rw[eQ mi];cases hf:cN r l.dest with
   |none=>rw[hf]at ih;cases ih
   |some i=>rw[hf]at ih;simpa using ih
theorem tR {ls} (ok:aW ls) {l}:l∈cE ls↔l∈ls:=by
 refine⟨lO,λh=> ?_⟩;unfold cE;refine List.mem_filterMap.2 ⟨l.dest,?_,Cy ok.nodup h⟩;exact(Z6 _ _).mem_iff.2 (YY h)
theorem AW (L:List Ln):∀s:Nd,(L.map (·.dest)).Nodup->∀l∈L,∃q,bX (L.foldl Nd.cf s).held l.dest=some q/\¬q<l.seq:=by
 have Cq:∀(M:List Ln) (s:Nd) (d:UInt32),d∉M.map (·.dest)->bX (M.foldl Nd.cf s).held d=bX s.held d:=by
  intro M;induction M with
  |nil=>intro s d _;rfl
  |cons m M ih=>
   intro s d hd;simp only[Hh,JA,not_or]at hd;rw[Uq,ih _ d hd.2];unfold Nd.cf;(repeat' split)<;>simp[Nd.write,fo,uaT hd.1]
 induction L with
 |nil=>intro s _ l hl;cases hl
 |cons m M ih=>
  intro s hn l hl;simp only[Hh,uaA]at hn;rw[Uq];rcases JA.1 hl with rfl|hl
  ·rw[Cq M _ _ hn.1];unfold Nd.cf;split
   ·rename_i q hq;split
    ·exact⟨l.seq,by simp[Nd.write,fo],by simp⟩
    ·rename_i X2;exact⟨q,hq,X2⟩
   ·exact⟨l.seq,by simp[Nd.write,fo],by simp⟩
  ·exact ih _ hn.2 l hl
theorem sf {ls} (ok:aW ls):((cE ls).map (·.dest)).Nodup:=by
 have hn:(aQ (aO ls)).Nodup:=(Z6 _ _).nodup_iff.2 ok.nodup;have ow:((cE ls).map (·.dest)).Sublist (aQ (aO ls)):=by
  unfold cE;generalize aQ (aO ls)=ds;induction ds with
  |nil=>exact ubb _
  |cons d ds ih=>
   rw[uaY];cases hg:dG ls d with
   |none=>exact(ih).cons _
   |some l=>
    have hd:l.dest=d:=by
     unfold dG at hg;cases hf:cN ls d with
     |none=>rw[hf]at hg;cases hg
     |some i=>obtain⟨l',h1,h2⟩:=dw hf;rw[hf]at hg;simp only[G6,h1]at hg;cases hg;exact h2
    rw[Hh,hd];exact ih.cons_cons _
 exact hn.sublist ow
theorem Nd.EV (s:Nd) (ok:aW s.ls):s.note.dE:=by
 intro l hl;rw[(Nd.fz.note s).ls]at hl;unfold Nd.note;exact AW _ _ (sf ok) l ((tR ok).2 hl)
theorem CQ {h} (L:List Ln):∀s:Nd,s.held=h->(∀l∈L,∃q,bX h l.dest=some q/\¬q<l.seq)->L.foldl Nd.cf s=s:=by
 induction L with
 |nil=>intro s _ _;rfl
 |cons l L ih=>
  intro s hs hl;obtain⟨q,h1,h2⟩:=hl l (by simp);have e:s.cf l=s:=by unfold Nd.cf;rw[hs,h1];simp[h2]
  rw[Uq,e];exact ih s hs λl hm=>hl l (by simp[hm])
theorem Nd.dE.note {s:Nd} (h:s.dE):s.note=s.dh:=by
 unfold Nd.note;refine CQ _ _ rfl λl hl=> ?_;have e:s.dh.held=s.held:=by
  unfold Nd.dh;split
  ·simp[Nd.write]
  ·rfl
 rw[e];exact h l (lO hl)
theorem Nd.dE.dh {s:Nd} (h:s.dE):s.dh.dE:=by
 unfold Nd.dh;split
 ·intro l hl;simpa [Nd.write]using h l hl
 ·exact h
theorem Nd.dE.to {s t:Nd} (h:s.dE) (h1:t.held=s.held) (h2:∀l∈t.ls,∃l'∈s.ls,l.dest=l'.dest/\l.seq=l'.seq):t.dE:=λl hl=>by
 obtain⟨l',k1,k2,k3⟩:=h2 l hl;rw[h1,k2,k3];exact h l' k1
theorem Nd.dE.same {s t:Nd} (h:s.dE) (h1:t.held=s.held) (h2:t.ls=s.ls):t.dE:=h.to h1 λl hl=>⟨l,h2▸hl,rfl,rfl⟩
theorem Lc (ls d e):∀l∈iY ls d e,∃l'∈ls,l.dest=l'.dest/\l.seq=l'.seq:=λl hl=>by
 rcases CG hl with h|⟨l',h,rfl⟩
 ·exact⟨l,h,rfl,rfl⟩
 ·refine⟨l',h,?_,?_⟩<;>split<;>rfl
theorem Nd.dE.hand {s:Nd} (h:s.dE) (d t):(s.hand d t).dE:=by
 unfold Nd.hand;split
 ·exact h
 ·exact h.to rfl (Lc _ _ _)
theorem Nd.dE.bg {s:Nd} (h:s.dE) (d l):(s.bg d l).dE:=by
 exact pbH
theorem Nd.dE.flush {s:Nd} (h:s.dE) (d):(s.flush d).dE:=by
 have h1:=h.bg d (s.texts d);unfold Nd.flush;simp only;split<;>exact h1.same rfl rfl
theorem Nd.dE.aT {s:Nd} (h:s.dE) (r):(s.aT r).dE:=by
 refine h.same ?_ (s.j2 r).1;unfold Nd.aT;dsimp only;split<;>rfl
theorem Nd.Je (s:Nd) (x):(s.gE x).bI=s.bI/\(s.gE x).last=s.last/\(s.gE x).names=s.names/\(s.gE x).now=s.now/\(s.gE x).wait=s.wait/\(s.gE x).bu=s.bu/\(s.gE x).cd=s.cd/\(s.gE x).ls=s.ls:=by
 have hm:=Nd.fz.note {s with seq:=bS s.seq};unfold Nd.gE;simp only;generalize Nd.note {s with seq:=bS s.seq}=t at*
 unfold Nd.aT;dsimp only;split<;>exact⟨hm.bI,hm.last,hm.names,hm.now,hm.wait,hm.bu,hm.cd,hm.ls⟩
theorem Nd.dE.gE {s:Nd} (h:s.dE) (x):(s.gE x).dE/\s.Step (s.gE x) 1 1:=by
 have h0:Nd.dE {s with seq:=bS s.seq}:=h.same rfl rfl;have e:=h0.note;have h1:=h0.dh;have k0:s.Step {s with seq:=bS s.seq} 0 0:=Nd.Step.zero rfl rfl rfl rfl;have k1:=k0.trans (Nd.Step.dh {s with seq:=bS s.seq});unfold Nd.gE;rw[e];simp only;generalize Nd.dh {s with seq:=bS s.seq}=t at*
 have h2:Nd.dE {t with ids:=t.ids+1,aP:=ik (t.aP++[t.now])}:=h1.same rfl rfl;have k2:=k1.trans (Nd.Step.zero (s:=t) (t:={t with ids:=t.ids+1,aP:=ik (t.aP++[t.now])}) rfl rfl rfl rfl);generalize ({t with ids:=t.ids+1,aP:=ik (t.aP++[t.now])}:Nd)=u at*
 refine⟨Nd.dE.aT (s:=u.send 0 _) (Nd.dE.same h2 rfl rfl) _,((k2.trans (Nd.Step.send u _ _)).trans (Nd.Step.aT _ _)).le (by omega) (by omega)⟩
theorem BQ (x:Sr) (h:0<=x.bK/\x.bK<=8/\0<=x.aU/\x.aU<=2):0<(iL x).toNat/\(iL x).toNat<=100000:=by
 exact paD
theorem RJ {a w:UInt64} (ha:a.toNat<=4611686018427387904) (hw:0<w.toNat/\w.toNat<=100000):a<a+w:=by
 rw[WC,uaO];omega
structure Nd.wg (s t:Nd) (now:UInt64):Prop where
 bI:∃E:List Tm,t.bI=s.bI++E/\E.length<=1/\(∀u∈E,now<u.at_)/\t.last=s.last+E.length
 names:t.names=s.names
theorem Nd.wg.of {s t:Nd} {now} (h1:t.bI=s.bI) (h2:t.last=s.last) (h3:t.names=s.names):s.wg t now:=⟨⟨[],by simp[h1],by simp,by simp,by simp[h2]⟩,h3⟩
theorem Nd.wg.one {s t:Nd} {now:UInt64} (w:UInt64) (n) (h1:t.bI=s.bI++[⟨s.now+w,s.last+1,n⟩]) (h2:t.last=s.last+1) (h3:t.names=s.names) (hn:s.now=now) (hb:now.toNat<=4611686018427387904) (hw:0<w.toNat/\w.toNat<=100000):s.wg t now:=⟨⟨_,h1,by simp,λu hu=>by simp at hu;subst hu;rw[hn];exact RJ hb hw,by simp[h2]⟩,h3⟩
theorem Nd.wG (s:Nd) (k) (x:Sr) (hx:0<=x.bK/\x.bK<=8/\0<=x.aU/\x.aU<=2) {now:UInt64} (hn:s.now=now) (hb:now.toNat<=4611686018427387904):s.wg (s.ask k x) now:=by
 unfold Nd.ask;split
 ·exact Nd.wg.one 1000 x.name rfl rfl rfl hn hb (by decide)
 ·split
  ·exact Nd.wg.one 1000 x.name rfl rfl rfl hn hb (by decide)
  ·obtain⟨e1,e2,e3,e4,_⟩:=Nd.Je (s.cH k true) x;refine Nd.wg.one (iL x) x.name ?_ ?_ ?_ hn hb (BQ x hx)
   ·show((s.cH k true).gE x).bI++[_]=_;rw[e1,e2,e4];rfl
   ·show((s.cH k true).gE x).last+1=_;rw[e2];rfl
   ·exact e3
theorem Nd.uB (s:Nd) (d l):(s.bg d l).bI=s.bI/\(s.bg d l).last=s.last/\(s.bg d l).names=s.names:=by
 induction l using eE with
 |nil=>exact⟨rfl,rfl,rfl⟩
 |snoc l t ih=>
  rw[Nd.dX];unfold Nd.hand;split<;>exact ih
theorem Nd.zj (s:Nd) (d):(s.flush d).bI=s.bI/\(s.flush d).last=s.last/\(s.flush d).names=s.names:=by
 have h:=Nd.uB s d (s.texts d);unfold Nd.flush;simp only;split<;>exact h
theorem Nd.DJ (s:Nd) (k) (x:Sr) (hx:0<=x.bK/\x.bK<=8/\0<=x.aU/\x.aU<=2) {now:UInt64} (hn:s.now=now) (hb:now.toNat<=4611686018427387904):s.wg (s.again k x) now:=by
 unfold Nd.again;split
 ·obtain⟨h1,h2,h3⟩:=Nd.zj s x.dest;exact Nd.wg.of h1 h2 h3
 ·split
  ·split
   ·rename_i y hy;have:=Nd.wG {s with bu:=s.bu.set k y} k y (Sr.xb hy hx).2.2.2 hn hb;exact⟨this.bI,this.names⟩
   ·exact Nd.wg.of rfl rfl rfl
  ·exact Nd.wG _ _ _ hx hn hb
theorem Nd.dE.ask {s:Nd} (h:s.dE) (k x):(s.ask k x).dE/\s.Step (s.ask k x) 1 1:=by
 have k0:∀b,s.Step (s.cH k b) 0 0:=λ_=>Nd.Step.zero rfl rfl rfl rfl;unfold Nd.ask;split
 ·exact pbn
 ·split
  ·exact pbn
  ·have h0:(s.cH k true).dE:=h.same rfl rfl;obtain⟨h1,h2⟩:=h0.gE x;exact⟨h1.same rfl rfl,(((k0 true).trans h2).trans (Nd.Step.arm _ _ _)).le (by omega) (by omega)⟩
theorem Nd.dE.again {s:Nd} (h:s.dE) (k) (x:Sr):(s.again k x).dE/\s.Step (s.again k x) ((s.texts x.dest).length+1) 1:=by
 unfold Nd.again;split
 ·exact⟨h.flush _,(Nd.Step.flush _ _).le (by omega) (by omega)⟩
 ·split
  ·split
   ·rename_i y _;have h0:Nd.dE {s with bu:=s.bu.set k y}:=h.same rfl rfl;have k0:s.Step {s with bu:=s.bu.set k y} 0 0:=Nd.Step.zero rfl rfl rfl rfl;obtain⟨h1,h2⟩:=h0.ask k y;exact⟨h1,(k0.trans h2).le (by omega) (by omega)⟩
   ·exact⟨h.same rfl rfl,((Nd.Step.dy s (s.texts x.dest).length 5).trans (Nd.Step.zero (t:=((s.dy (s.texts x.dest).length 5).cX x.dest).stop k) rfl rfl rfl rfl)).le (by omega) (by omega)⟩
  ·obtain⟨h1,h2⟩:=h.ask k x;exact⟨h1,h2.le (by omega) (by omega)⟩
def iq (now:UInt64) (l:List Tm):Nat:=(l.filter λt=>decide (t.at_<=now)).length
theorem Av (now) (l:List Tm):iq now l<=l.length:=uaQ _ _
theorem BZ (now l E) (h:∀u∈E,now<u.at_):iq now (l++E)=iq now l:=by
 unfold iq;rw[uac];have:E.filter (λt=>decide (t.at_<=now))=[]:=ua3.2 λu hu=>by simpa using h u hu
 rw[this,rL]
theorem D7 (now) {l:List Tm} {i} (hi:i<l.length) (h:(cJ l i).at_<=now):iq now (l.eraseIdx i)+1=iq now l:=by
 unfold iq;rw[<-((w5 hi).filter _).length_eq,uaH,jF (by simpa using h)];simp
theorem gS {s:Nd} (h:s.Inv) (d):(s.texts d).length<=4/\∀t∈s.texts d,t.length<=16:=by
 unfold Nd.texts;cases hm:bX s.wait d with
 |none=>simp
 |some l=>exact h.wait _ (CH hm)
theorem Nd.Inv.bI {s:Nd} (h:s.Inv) (l):Nd.Inv {s with bI:=l}:=h.to h.dp rfl rfl h.order rfl h.aP rfl (λ_ h=>h)
structure Nd.Stepped (s t:Nd) (now:UInt64):Prop where
 inv:t.Inv
 sw:t.dE
 step:s.Step t 5 1
 due:iq now t.bI+1=iq now s.bI
 bI:t.bI.length<=s.bI.length
 last:s.last<=t.last/\t.last<=s.last+1
 names:t.names=s.names
theorem Nd.nu {s t:Nd} {now:UInt64} (h:s.step now=some t) (hi:s.Inv) (hd:s.dE) (hn:s.now=now) (hb:now.toNat<=4611686018427387904):s.Stepped t now:=by
 unfold Nd.step at h;cases Mg:gN s.bI now s.bI.length with
 |none=>rw[Mg]at h;cases h
 |some i=>
  rw[Mg]at h;simp only at h;obtain⟨b1,b2,_⟩:=zaK Mg;have Ox:=D7 now b1 (YI.2 b2);have hlen:(s.bI.eraseIdx i).length+1=s.bI.length:=by rw[NV];split<;>omega
  have plain:s.Stepped {s with bI:=s.bI.eraseIdx i} now:=⟨hi.bI _,hd.same rfl rfl,(Nd.Step.zero (s:=s) (t:={s with bI:=s.bI.eraseIdx i}) rfl rfl rfl rfl).le (by omega) (by omega),Ox,by show(s.bI.eraseIdx i).length<=_;omega,⟨Int.le_refl _,by show s.last<=_;omega⟩,rfl⟩
  cases sY:nP s.bu (cJ s.bI i).km with
  |none=>rw[sY]at h;cases h;exact plain
  |some k=>
   rw[sY]at h;simp only at h;cases hk:s.bu[k]? with
   |none=>rw[hk]at h;cases h;exact plain
   |some x=>
    rw[hk]at h;simp only[Z9]at h;have rf:=hi.sr.each x (jq hk);obtain⟨p1,p2,p3,p4,p5,p6,p7⟩:=plain;have hN:=p2.again k x;have hM:=Nd.DJ {s with bI:=s.bI.eraseIdx i} k x ⟨rf.1,rf.2.1,rf.2.2.1,rf.2.2.2.1⟩ hn hb;obtain⟨⟨E,m1,m2,m3,m4⟩,m5⟩:=hM;have hI:=p1.again (k:=k) (x:=x) hk;have ht:=(gS p1 x.dest).1;rw[h]at hN m1 m4 m5 hI;have ks:s.Step {s with bI:=s.bI.eraseIdx i} 0 0:=Nd.Step.zero rfl rfl rfl rfl;simp only at m1 m4 m5;refine⟨hI,hN.1,(ks.trans hN.2).le (by omega) (by omega),by rw[m1,BZ _ _ _ m3];exact Ox,by rw[m1,pU];omega,by omega,m5⟩
theorem Nd.Io {s:Nd} {now} (h:s.step now=none):gN s.bI now s.bI.length=none:=by
 unfold Nd.step at h;cases Mg:gN s.bI now s.bI.length with
 |none=>rfl
 |some i=>
  rw[Mg]at h;simp only at h;split at h
  ·split at h<;>cases h
  ·cases h
def kb (d:UInt32):List da->Nat
 |[]=>0
 |p::r=>if p.1.dest<d then kb d r+1 else 0
def fj (xs:List da) (d:UInt32):Option da:=match xs[kb d xs]? with
 |some p=>if p.1.dest=d then some p else none
 |none=>none
theorem DP (d:UInt32):∀xs:List da,kb d xs<=xs.length
 |[]=>uL _
 |p::r=>by
  unfold kb;have:=DP d r;split<;>simp<;>omega
theorem DQ (d:UInt32):∀(xs:List da) (i:Nat) p,i<kb d xs->xs[i]? =some p->p.1.dest<d
 |[],i,p,h,_=>by simp[kb]at h
 |q::r,i,p,h,hp=>by
  unfold kb at h;split at h
  ·rename_i hq;cases i with
   |zero=>simp at hp;subst hp;exact hq
   |succ i=>exact DQ d r i p (by omega) (by simpa using hp)
  ·omega
theorem wJ (d:UInt32):∀(xs:List da) p,xs[kb d xs]? =some p->¬p.1.dest<d
 |[],p,h=>by simp[kb]at h
 |q::r,p,h=>by
  unfold kb at h;split at h
  ·exact wJ d r p (by simpa using h)
  ·rename_i hq;simp at h;subst h;exact hq
theorem Ak {d} {xs:List da} {i} (h1:i<=xs.length) (h2:∀j p,j<i->xs[j]? =some p->p.1.dest<d) (h3:∀p,xs[i]? =some p->¬p.1.dest<d):kb d xs=i:=by
 have a1:=DP d xs;rcases uam (kb d xs) i with h|h|h
 ·obtain⟨p,hp⟩:∃p,xs[kb d xs]? =some p:=⟨_,aX (by omega)⟩
  exact absurd (h2 _ p h hp) (wJ d xs p hp)
 ·exact h
 ·obtain⟨p,hp⟩:∃p,xs[i]? =some p:=⟨_,aX (by omega)⟩
  exact absurd (DQ d xs i p h hp) (h3 p hp)
theorem fl {xs d p} (h:fj xs d=some p):xs[kb d xs]? =some p/\p.1.dest=d:=by
 unfold fj at h;split at h
 ·rename_i q hq;split at h
  ·cases h;rename_i e;exact⟨hq,e⟩
  ·cases h
 ·cases h
open Go.RowKit
@[reducible] def eA (g:Nat) (self:UInt32) (v:Value) (xs:List da):af:=aK g 197 [u32 self,v]*rows 53 7 bJ v xs
attribute [local irreducible] WS LS OpQ y6 cn cv Spec bA aK
variable (w0:World)
theorem iF (g self v) (xs:List da) (hl:xs.length<=100) (d):Spec ucC w0 184 [ptr g 0,u32 d] (eA g self v xs) (λ_:Unit=> .tuple #[.int .i64 (kb d xs:Int),.bool (fj xs d).isSome]) (λ_=>eA g self v xs):=by
 refine eZ Tryz.func184 Tryz.ntmps184 λG=> ?_;unfold eA;simp only[aN,ad];repeat' (first|intro K hK|refine ax ?_)
 refine aV (λkk τ=>∃(i:Nat),i+kk=xs.length/\(∀j p,j<i->xs[j]? =some p->p.1.dest<d)/\τ=⟨[(6,.int .i64 (i:Int)),(1,u32 d),(0,ptr g 0)],[],aK g 197 [u32 self,v]*(rows 53 7 bJ v xs*G)⟩) ?_ ?_
 ·exact⟨xs.length,_,⟨0,by omega,λj p h=>absurd h (by omega),rfl⟩,cG,rfl,ah⟩
 ·rintro kk τ ⟨i,qE,bW,rfl⟩;rcases jP i xs.length with h|h
  ·have h1:(i:Int)<(xs.length:Int):=by omega
   obtain⟨p,hp⟩:∃p,xs[i]? =some p:=⟨_,aX h⟩
   by_cases hd:p.1.dest<d
   ·repeat' (first|intro hc|refine xyZ ?_|refine aF ?_ ?_)
    exact⟨kk - 1,_,by omega,⟨i+1,by omega,λj q hj hq=>by
     rcases jP j i with h2|h2
     ·exact bW j q h2 hq
     ·obtain rfl:j=i:=by omega
      rw[hp]at hq;cases hq;exact hd,rfl⟩,cG,rfl,ah⟩
   ·have he:kb d xs=i:=Ak (by omega) bW λq hq=>by rw[hp]at hq;cases hq;exact hd
    by_cases hq:p.1.dest=d
    ·have hg:fj xs d=some p:=by unfold fj;rw[he,hp];simp[hq]
     exact paC
    ·have hg:fj xs d=none:=by unfold fj;rw[he,hp];simp[hq]
     exact paC
  ·obtain rfl:i=xs.length:=by omega
   have h1:¬(xs.length:Int)<(xs.length:Int):=by omega
   have he:kb d xs=xs.length:=Ak (uL _) bW λq hq=>by rw[EJ (uL _)]at hq;cases hq
   have hg:fj xs d=none:=by unfold fj;rw[he,EJ (uL _)]
   exact paC
def xY (p:da):Value:= .agg (bJ p).toArray
theorem xZ (p):Spec ucC w0 220 [xY p] emp (λ_:Unit=> .int .i64 p.1.rk) (λ_=>emp):=by
 refine eZ Tryz.func220 Tryz.ntmps220 λG=> ?_;simp only[aN];have hq:=p.1.seq.toNat_lt;cases hv:p.1.valid with
 |true=>
  have hr:p.1.rk=(p.1.seq.toNat:Int):=by unfold Ln.rk;rw[jF hv]
  rw[hr];unfold xY bJ bM;repeat' (first|intro hc|refine yZ ?_|refine aF ?_ ?_|(refine lI (lx rfl iI iI iI) rfl ?_))
  exact aC (.inl rfl) rfl rfl ⟨(),rfl,ah⟩
 |false=>
  have hr:p.1.rk=(p.1.seq.toNat:Int) - 1:=by unfold Ln.rk;rw[eQ (by rw[hv];simp)]
  rw[hr];unfold xY bJ bM;repeat' (first|intro hc|refine yZ ?_|refine aF ?_ ?_|(refine lI (lx rfl iI iI iI) rfl ?_))
  exact aC (.inl rfl) rfl rfl ⟨(),rfl,ah⟩
theorem kL (x):Spec ucC w0 93 [u32 x] emp (λ_:Unit=>u32 (bS x)) (λ_=>emp):=by
 refine eZ Tryz.func93 Tryz.ntmps93 λG=> ?_;simp only[aN];by_cases h:x=4294967295
 ·have e:bS x=x:=by subst h;rfl
  rw[e];exact pac
 ·have e:bS x=x+1:=by
   unfold bS;rw[eQ];intro h2;apply h;have:=G2 UInt32.toNat h2;rw[ubI]at this;have hx:=x.toNat_lt;apply HL.1;have h3:(4294967295:UInt32).toNat=4294967295:=rfl;have h4:(1:UInt32).toNat=1:=rfl;have h5:(0:UInt32).toNat=0:=rfl;omega
  rw[e];repeat' (first|intro hc|refine xyZ ?_|refine aF ?_ ?_|refine zw1 ?_)
  exact aC (.inl rfl) rfl rfl ⟨(),rfl,ah⟩
def lp (s:UInt32) (p:da):da:=(p.1.ended s,(none,0))
theorem yb {xs:List da} {i z} (h:i<xs.length):(xs.set i z)[i]? =some z:=by simp[h]
theorem wZ (q p n) (hn:n=max (bS p.1.seq) q):iW (bJ (({p.1 with seq:=n,valid:=false,cB:=0}:Ln),p.2)) 6 [.slice none 0 0]=some (bJ (lp q p)):=by
 subst hn;have e:(aQ ([]:List UInt32)).length=0:=by rw[cF];rfl
 show some [_,_,_,_,_,_,_]=some [_,_,_,_,_,_,_];unfold lp Ln.ended il;rw[e]
theorem uc (g self v) (xs:List da) (hl:xs.length<=100) (i:Nat) (p) (hp:xs[i]? =some p) (q):Spec ucC w0 195 [ptr g 0,.int .i64 (i:Int),u32 q] (eA g self v xs) (λ_:Unit=> .tuple #[]) (λ_=>eA g self v (xs.set i (lp q p))):=by
 refine eZ Tryz.func195 Tryz.ntmps195 λG=> ?_;unfold eA;simp only[aN,ad];have hi:i<xs.length:=(az.1 hp).1;have p1:=kL w0 p.1.seq;have key:∀n:UInt32,n=max (bS p.1.seq) q->((xs.set i (({p.1 with seq:=n}:Ln),p.2))[i]? =some (({p.1 with seq:=n}:Ln),p.2)/\((xs.set i (({p.1 with seq:=n}:Ln),p.2)).set i (({p.1 with seq:=n,valid:=false}:Ln),p.2))[i]? =some (({p.1 with seq:=n,valid:=false}:Ln),p.2)/\(((xs.set i (({p.1 with seq:=n}:Ln),p.2)).set i (({p.1 with seq:=n,valid:=false}:Ln),p.2)).set i (({p.1 with seq:=n,valid:=false,cB:=0}:Ln),p.2))[i]? =some (({p.1 with seq:=n,valid:=false,cB:=0}:Ln),p.2)/\((((xs.set i (({p.1 with seq:=n}:Ln),p.2)).set i (({p.1 with seq:=n,valid:=false}:Ln),p.2)).set i (({p.1 with seq:=n,valid:=false,cB:=0}:Ln),p.2)).set i (lp q p))=xs.set i (lp q p)):=λn _=>by
  refine⟨yb hi,?_,?_,?_⟩<;>simp[hi]
 by_cases hq:bS p.1.seq<q
 ·have hm:q=max (bS p.1.seq) q:=by
   apply HL.1;have h2:(bS p.1.seq).toNat<q.toNat:=hq;show q.toNat=(if bS p.1.seq<=q then q else bS p.1.seq).toNat;rw[jF (ubu hq)]
  obtain⟨k1,k2,k3,k4⟩:=key q hm;have e6:=wZ q p q hm;repeat' (first|(refine hK _ ?_;clear hK K)|intro K hK|intro hc|refine xyZ ?_|refine aF ?_ ?_|refine cZ p1 λu1=> ?_|(refine bL (dB (z:=p) (({p.1 with seq:=q}:Ln),p.2) rfl rfl iI iI iI rfl hp rfl) ?_;intro g1)|(refine bL (dB (({p.1 with seq:=q,valid:=false}:Ln),p.2) rfl rfl iI iI iI rfl k1 rfl) ?_;intro g2)|(refine bL (dB (({p.1 with seq:=q,valid:=false,cB:=0}:Ln),p.2) rfl rfl iI iI iI rfl k2 rfl) ?_;intro g3)|(refine bL (dB (lp q p) rfl rfl iI iI iI rfl k3 e6) ?_;intro g4))
  exact aj (.inr rfl) rfl ⟨(),rfl,by rw[k4];exact ah⟩
 ·have hm:bS p.1.seq=max (bS p.1.seq) q:=by
   apply HL.1;have h2:¬(bS p.1.seq).toNat<q.toNat:=hq;show(bS p.1.seq).toNat=(if bS p.1.seq<=q then q else bS p.1.seq).toNat;split
   ·rename_i h3;have h4:(bS p.1.seq).toNat<=q.toNat:=h3;omega
   ·rfl
  obtain⟨k1,k2,k3,k4⟩:=key (bS p.1.seq) hm;have e6:=wZ q p (bS p.1.seq) hm;generalize bS p.1.seq=n at*
  repeat' (first|(refine hK _ ?_;clear hK K)|intro K hK|intro hc|refine xyZ ?_|refine aF ?_ ?_|refine cZ p1 λu1=> ?_|(refine bL (dB (z:=p) (({p.1 with seq:=n}:Ln),p.2) rfl rfl iI iI iI rfl hp rfl) ?_;intro g1)|(refine bL (dB (({p.1 with seq:=n,valid:=false}:Ln),p.2) rfl rfl iI iI iI rfl k1 rfl) ?_;intro g2)|(refine bL (dB (({p.1 with seq:=n,valid:=false,cB:=0}:Ln),p.2) rfl rfl iI iI iI rfl k2 rfl) ?_;intro g3)|(refine bL (dB (lp q p) rfl rfl iI iI iI rfl k3 e6) ?_;intro g4))
  exact aj (.inr rfl) rfl ⟨(),rfl,by rw[k4];exact ah⟩
end
section
open Go.RowKit
theorem KX {bs n} (h:n∈bs):sI bs n=bs:=by
 have key:∀l:List UInt32,n∈l->(bY (l.map (·,())) n ()).map (·.1)=l:=by
  intro l;induction l with
  |nil=>intro h;cases h
  |cons x l ih=>
   intro h;rw[Hh,ni];by_cases e:x=n
   ·rw[jF e];subst e;simp[uby]
   ·rw[eQ e,Hh];rcases JA.1 h with h|h
    ·exact absurd h.symm e
    ·rw[ih h]
 exact key bs h
theorem Di {bs n} (h:¬n∈bs):sI bs n=bs++[n]:=by
 have key:∀l:List UInt32,¬n∈l->(bY (l.map (·,())) n ()).map (·.1)=l++[n]:=by
  intro l;induction l with
  |nil=>intro _;rfl
  |cons x l ih=>
   intro h;rw[Hh,ni];have e:¬x=n:=λe=>h (by rw[e];simp);rw[eQ e,Hh,ih (λh2=>h (by simp[h2]))];rfl
 exact key bs h
def rC (n:UInt32):List UInt32->Nat
 |[]=>0
 |x::r=>if x<n then rC n r+1 else 0
theorem Jh (n:UInt32):∀l,rC n l<=l.length
 |[]=>uL _
 |x::r=>by
  unfold rC;have:=Jh n r;split<;>simp<;>omega
theorem Aj (n:UInt32):∀(l:List UInt32) (i:Nat) x,i<rC n l->l[i]? =some x->x<n
 |[],i,x,h,_=>by simp[rC]at h
 |y::r,i,x,h,hx=>by
  unfold rC at h;split at h
  ·rename_i hy;cases i with
   |zero=>simp at hx;subst hx;exact hy
   |succ i=>exact Aj n r i x (by omega) (by simpa using hx)
  ·omega
theorem rD (n:UInt32):∀(l:List UInt32) x,l[rC n l]? =some x->¬x<n
 |[],x,h=>by simp[rC]at h
 |y::r,x,h=>by
  unfold rC at h;split at h
  ·exact rD n r x (by simpa using h)
  ·rename_i hy;simp at h;subst h;exact hy
theorem N9 {n} {l:List UInt32} {i} (h1:i<=l.length) (h2:∀j x,j<i->l[j]? =some x->x<n) (h3:∀x,l[i]? =some x->¬x<n):rC n l=i:=by
 have a1:=Jh n l;rcases uam (rC n l) i with h|h|h
 ·obtain⟨p,hp⟩:∃p,l[rC n l]? =some p:=⟨_,aX (by omega)⟩
  exact absurd (h2 _ p h hp) (rD n l p hp)
 ·exact h
 ·obtain⟨p,hp⟩:∃p,l[i]? =some p:=⟨_,aX (by omega)⟩
  exact absurd (Aj n l i p h hp) (h3 p hp)
theorem L4 {n l} (hr:fH l):n∈l↔l[rC n l]? =some n:=by
 constructor
 ·intro hm;obtain⟨j,hj⟩:=JC hm;have bW:=(az.1 hj).1;rcases uam j (rC n l)with h|h|h
  ·exact absurd (Aj n l j n h hj) (by rw[GM];omega)
  ·rw[<-h];exact hj
  ·obtain⟨p,hp⟩:∃p,l[rC n l]? =some p:=⟨_,aX (by omega)⟩
   have h1:=rD n l p hp;obtain⟨a1,a2⟩:=az.1 hp;obtain⟨b1,b2⟩:=az.1 hj;have h2:=G5.1 hr (rC n l) j a1 b1 h;rw[a2,b2]at h2;have:p=n:=HL.1 (by rw[GM]at h1;omega);rw[hp,this]
 ·exact λh=>jq h
theorem zS {bs n}:aQ (bs++[n])=((aQ bs).take (rC n (aQ bs))++[n])++(aQ bs).drop (rC n (aQ bs)):=by
 have hr:=lX bs;have hp:((aQ bs).take (rC n (aQ bs))++n::(aQ bs).drop (rC n (aQ bs))).Perm (bs++[n]):=by
  have h1:((aQ bs).take (rC n (aQ bs))++n::(aQ bs).drop (rC n (aQ bs))).Perm (n::((aQ bs).take (rC n (aQ bs))++(aQ bs).drop (rC n (aQ bs)))):=List.perm_middle;rw[Jt]at h1;refine h1.trans (((Z6 bs _).cons n).trans ?_);exact(ubX n bs).symm
 have Ro:fH ((aQ bs).take (rC n (aQ bs))++n::(aQ bs).drop (rC n (aQ bs))):=by
  refine xX (by rw[Jt];exact hr) (λb hb=> ?_) λa ha=> ?_
  ·obtain⟨j,hj⟩:=JC hb;rw[Lf]at hj;have bW:=(az.1 hj).1;obtain⟨p,UC⟩:∃p,(aQ bs)[rC n (aQ bs)]? =some p:=⟨_,aX (by omega)⟩
   have h1:=rD n (aQ bs) p UC;rw[GM]at h1;obtain⟨a1,a2⟩:=az.1 UC;obtain⟨b1,b2⟩:=az.1 hj;rcases uap j with h0|h0
   ·subst h0;have:p=b:=by rw[uay,UC]at hj;exact PL hj
    rw[<-this];omega
   ·have h2:=G5.1 hr _ _ a1 b1 (by omega);rw[a2,b2]at h2;omega
  ·obtain⟨j,hj⟩:=JC ha;have bW:=(az.1 hj).1;rw[Aw]at bW;rw[G3,jF (by omega)]at hj;have:=Aj n (aQ bs) j a (by omega) hj;rw[GM]at this;omega
 have h:=sK hp ⟨_,ua2 _,Ro⟩;rw[<-h];simp
end
end Go.Proofs.YtapoehkdnglahabGreat
