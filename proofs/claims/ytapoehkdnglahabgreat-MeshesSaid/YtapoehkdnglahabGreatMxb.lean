/- A part. -/
import Derived.Test.YtapoehkdnglahabGreatM6
import Derived.Test.YtapoehkdnglahabGreatM9
set_option maxHeartbeats 0
set_option maxRecDepth 100000
set_option linter.all false
namespace Go.Proofs.YtapoehkdnglahabGreat
open Go.RowKit
variable (w0:World)
theorem Nd.zeO (s:Nd) (nb):(s.brk nb).ids=s.ids/\(s.brk nb).aP=s.aP:=by
 unfold Nd.brk Nd.lost;split<;>exact⟨rfl,rfl⟩
theorem Nd.ze8 (s:Nd) (t nb):(s.l7 t nb).ids=s.ids/\(s.l7 t nb).aP=s.aP:=by
 have h:=Nd.fz.note {s with now:=t,out:=dS.zero,ls:=mE t s.ls};have h2:=Nd.zeO (s.begin t) nb;obtain⟨_,_,_,_,d5,_,_,_,_,_,_,_,_,_,d15,_⟩:=((s.begin t).brk nb).tD;exact⟨d15.trans (h2.1.trans h.ids),d5.trans (h2.2.trans h.aP)⟩
theorem zek {n i0 i1 g} {t:Nd} (h:t.ids.toNat<=i0+dJ t.now t.aP):aq (j9 ⟨n,none,i1⟩ g t) (j9 ⟨n,none,i0⟩ g t):=by
 unfold j9;refine aq.Q0 λx=>aq.Nz λtw=> ?_;have lD:Twin ⟨n,none,i0⟩ t x.1:=⟨tw.held,tw.mY,tw.kg,tw.seen,tw.o9,tw.oz,tw.o7,tw.wait,tw.mL,tw.hP,tw.search,tw.jT,tw.Br,tw.fN,tw.aP,tw.oA,tw.ns,tw.nX,tw.DB,tw.Bp,tw.FP,h⟩
 have h:=aq.mX (p:=λx:RD×dS=>pure' (Twin ⟨n,none,i0⟩ t x.1)*(aK g 195 (bN t x.1 x.2)*(rows 28 3 Rec.cells x.1.vr t.aI*(rows 28 3 Rec.cells x.1.vh x.1.held*(ct x.1.tb t.self t.ls*bc x.1))))) (F:=emp) x (aq.of_eq b5.symm);rw[b5]at h;refine aq.trans ?_ h;exact aq.ji (F:=aK g 195 (bN t x.1 x.2)*(rows 28 3 Rec.cells x.1.vr t.aI*(rows 28 3 Rec.cells x.1.vh x.1.held*(ct x.1.tb t.self t.ls*bc x.1)))) lD (aq.refl _)
theorem zeQ (w0 n i0 gn) (s:Nd) (now nb) {c} (hr:s.Rest c) (hn:s.now=now):Spec ucC w0 80 [ptr gn 0,u64 now,u32 nb] (j9 ⟨n,none,i0⟩ gn s) (λv:Value×Value×Value=>fp (s.l7 now nb).out v) (λv=>j9 ⟨n,none,i0⟩ gn (s.l7 now nb)*r5 (s.l7 now nb).out v):=λG w hs=>by
 have sZ:=hs;unfold j9 at sZ;obtain⟨x,fP⟩:=sZ.ex;obtain⟨tw,_⟩:=(fP.cast (ad _ _ _)).pure;have h1:=tw.oy;obtain⟨e1,e2⟩:=s.ze8 now nb;have h2:(s.l7 now nb).ids.toNat<=i0+dJ (s.l7 now nb).now (s.l7 now nb).aP:=by rw[e1,e2,Nd.Jn,<-hn];exact h1
 exact((HT w0 ⟨n,none,i0⟩ gn s now nb hr (by rw[hn];exact uL _)).zbB (aq.refl _) λv=>⟨v,rfl,aq.star (zek h2) (aq.refl _)⟩) G w hs
theorem Ms.zdp {m:Ms} {i} {o:dS} {s:Zr} (hs:m.Zs[i]? =some s) (h0:∀f∈o.aJ,f.1=0) (hl:∀f∈o.aJ,f.2.length<=100000) {s2:Zr} (h2:(Ms.ZD i m o).Zs[i]? =some s2) {u} (hu:s2.node=some u):s.node=some u:=by
 have hi:=(az.1 hs).1;unfold Ms.ZD Ms.ZA at h2;split at h2
 ·rw[hs]at h2;cases h2;exact hu
 ·rw[hs]at h2;simp only at h2;split at h2
  ·have e:=Ms.ZJ (f:=(·.ZH o)) hs;have Lj:(m.mod i (·.ZH o)).Zs[i]? =some s2:=h2;rw[e]at Lj;cases Lj;unfold Zr.ZH Zr.stop at hu;cases hu
  ·obtain⟨m1,Mk⟩:∃m1,m1=(m.mod i (·.write o)).event ⟨i,0,o⟩:=⟨_,rfl⟩
   have e1:m1.Zs[i]? =some (s.write o):=by rw[Mk];exact Ms.ZJ (f:=(·.write o)) hs
   have hlen:i<m1.Zs.length:=(az.1 e1).1;rw[<-Mk]at h2;have key:∀(l:List (UInt32×cP)) (m1:Ms),i<m1.Zs.length->(∀f∈l,f.1=0)->(∀f∈l,f.2.length<=100000)->(l.foldl (Ms.ZB (λm _=>m) i) m1).Zs=m1.Zs:=by
    intro l;induction l with
    |nil=>intro m1 _ _ _;rfl
    |cons f l ih=>
     intro m1 hi h0 hl;have hf:Ms.ZB (λm _=>m) i m1 f=Ms.Zt i f.2 m1.Zs.length m1:=by unfold Ms.ZB;rw[jF (h0 f (by simp))]
     have hc:=(Ms.Zz (m:=m1) (i:=i) (b:=f.2) hi (hl f (by simp)) m1.Zs.length (uL _)).1;rw[Uq,hf,ih _ (by rw[hc];exact hi) (λg hg=>h0 g (by simp[hg])) (λg hg=>hl g (by simp[hg])),hc]
   rw[key _ m1 hlen h0 hl,e1]at h2;cases h2;exact hu
attribute [local irreducible] WS LS OpQ y6 cn cv Spec bA aK di cq
theorem zcd (gm:Nat) (k:RH) (sub:Ms->dS->Ms) (i c B:Nat) (x:RX) (hB:B<=899000) (hb:k.hs[i]? =some x) (m:Ms) (el:List ES) (o:dS) (v:Value×Value×Value) (s:Zr) (hs:m.Zs[i]? =some s) (Hq:s.ZC o c) (SY:∀f∈o.aJ,f.2.length<=100000) (zp:o.aJ.length<=100000) (za1:m.Zy) (zb3:m.mU.length+o.aJ.length+2<=B) (h6:m.Zs.length<=6)
 (Ze:o.aJ≠[]->∀t,s.node=some t->t.now=m.now)
 (zdc:∀f∈o.aJ,f.1≠0->∀(m':Ms) (s':Zr) (t:Nd),m.Kept m' i->m'.Zs[i]? =some s'->s'.Sound c->s'.node=some t->m'.ZG (sub (m'.mod i (·.run (t.l7 m'.now f.1))) (t.l7 m'.now f.1).out) i c 1)
 (zen:∀f∈o.aJ,f.1≠0->∀(m':Ms) (s':Zr) (t:Nd) (s2:Zr) (u:Nd),m.Kept m' i->m'.Zs[i]? =some s'->s'.node=some t->(sub (m'.mod i (·.run (t.l7 m'.now f.1))) (t.l7 m'.now f.1).out).Zs[i]? =some s2->s2.node=some u->u.now=m.now)
 (ow:∀f∈o.aJ,f.1≠0->∀(m':Ms) (el':List ES) (s':Zr) (t:Nd) (v':Value×Value×Value),m.Kept m' i->m'.Zs[i]? =some s'->s'.Sound c->s'.node=some t->m'.Zy->m'.mU.length<=B->Spec ucC w0 48 [ptr gm 0,.int .i64 (i:Int),fp (t.l7 m'.now f.1).out v'] (rmA gm k (m'.mod i (·.run (t.l7 m'.now f.1))) el'*r5 (t.l7 m'.now f.1).out v') (λ_:List ES=> .tuple #[]) (λnew=>rmA gm k (sub (m'.mod i (·.run (t.l7 m'.now f.1))) (t.l7 m'.now f.1).out) (el'++new)*e9 new)):
 Spec ucC w0 48 [ptr gm 0,.int .i64 (i:Int),fp o v] (rmA gm k m el*r5 o v) (λ_:List ES=> .tuple #[]) (λnew=>rmA gm k (Ms.ZA sub i m o) (el++new)*e9 new):=by
 refine eZ Tryz.func48 Tryz.ntmps48 λG=> ?_
 rw[ad (rmA _ _ _ _)]
 refine zdW (o:=o) (v:=v) iI λA1 c1 A2 c2 A3 c3 hv=> ?_
 subst hv
 have hi:=(az.1 hs).1
 have Ng:s.ay.length+o.ay.length<=900:=by
  exact pbk
 have zaM:Ms.ZA sub i m o=if o.none then m else if s.Z2 o then(m.mod i (·.ZH o)).event ⟨i,0,dS.zero⟩else o.aJ.foldl (Ms.ZB sub i) ((m.mod i (·.write o)).event ⟨i,0,o⟩):=by
  unfold Ms.ZA;rw[hs]
 have p0:=zdT w0 o ((A1,0,c1),(A2,0,c2),(A3,0,c3))
 simp only at p0
 by_cases ho:o.none=true
 ·rw[jF ho]at zaM
  rw[zaM]
  rw[ho]at p0
  simp only[ubO]at p0
  simp only[fp,aN]
  repeat' (first|intro K hK|intro hc|refine xyZ ?_|refine aF ?_ ?_|refine bT λg=> ?_|refine cZ p0 λu0=> ?_)
  exact aj (.inl rfl) rfl ⟨[],rfl,by rw[rL,e9,b5];exact ah⟩
 rw[eQ ho]at zaM
 rw[ubi]at ho
 rw[ho]at p0
 simp only[Bool.not_false]at p0
 refine zaW λva ve FW=> ?_
 refine zaG λyl S5=> ?_
 obtain⟨R,e1,e2⟩:=zay yl hb hs
 refine zaE e1 λgn=> ?_
 have Rg:=zzG yl
 have hxp:=zzX hb
 have Rl:(k.hs.set i x)=k.hs:=zbK hb
 have zbV:el.length=m.mU.length:=by rw[<-FW];simp
 have zgb:=Hq.Zw
 obtain⟨J,Rp,fr,cm,dr⟩:=o
 simp only[fp,r5,aN]at p0 ⊢
 simp only at SY zp zb3 zdc zen ow Ng zaM Ze
 unfold rmS y9
 simp only[r6,zak]
 cases Yg:s.Z2 ⟨J,Rp,fr,cm,dr⟩with
 |true=>
  rw[Yg]at zaM
  simp only[YZ]at zaM
  rw[zaM]
  unfold Zr.Z2 at Yg
  rw[Ps,Bool.not_eq_true']at Yg
  have hja:s.ZL=true:=Yg.1
  have Za:¬J=[]:=λe=>by rw[e]at Yg;cases Yg.2
  obtain⟨kk,hkk⟩:∃kk,kk=(min s.Zw (J.length:Int)).toNat:=⟨_,rfl⟩
  have tK:kk<=J.length:=by omega
  have fin:∀(ve2:Value) (J2:cP),(s.ZH ⟨J,Rp,fr,cm,dr⟩).ay=J2->aq (aK gm 124 [k.vs,k.vh,va,u64 m.now,ve2]*(rows 128 1 Z4 k.vs (k.hs.map (·.1))*(rows 131 1 soC k.vh k.hv*(r7 k.hv m.Zs.length m.Zu*(aK x.1 130 [u32 s.addr,.pointer none,aZ J2,.int .i64 s.Zw,.bool false]*(R*(rows 114 3 flC va m.Zx*(rows 68 7 evC ve2 (el++[k8 (i:Int) 0])*G)))))))) ((rmA gm k ((m.mod i (·.ZH ⟨J,Rp,fr,cm,dr⟩)).event ⟨i,0,dS.zero⟩) (el++[k8 (i:Int) 0])*e9 [k8 (i:Int) 0])*G):=λve2 J2 hJ2=>by
   rw[ad (rmA _ _ _ _)];refine re va ve2 (by rw[EZ,FW];rfl) ?_;have e3:=e2 x (·.ZH ⟨J,Rp,fr,cm,dr⟩);rw[Rl]at e3;refine zae gn e3 ?_;have h1:(s.ZH ⟨J,Rp,fr,cm,dr⟩).addr=s.addr/\(s.ZH ⟨J,Rp,fr,cm,dr⟩).node=none/\(s.ZH ⟨J,Rp,fr,cm,dr⟩).Zw=s.Zw/\(s.ZH ⟨J,Rp,fr,cm,dr⟩).ZL=false:=by
    unfold Zr.ZH Zr.stop;split<;>exact⟨rfl,rfl,rfl,rfl⟩
   unfold rmS y9;simp only[r6,zak,Ms.event,Ms.mod,Zb,e9,evO,r5,k8,svV,cT,dS.zero,b5,h1.1,h1.2.1,h1.2.2.1,h1.2.2.2,hJ2,jo,zat];refine(aq.nil _ 48 2 dA none).trans ?_;refine(aq.nil _ 70 2 dA none).trans ?_;refine(aq.nil _ 166 1 lr none).trans ?_;exact ah
  rw[hja]
  cases Rp with
  |true=>
   have hJ2:(s.ZH ⟨J,true,fr,cm,dr⟩).ay=s.ay:=rfl
   repeat' (first|intro K hK|intro hc|refine xyZ ?_|refine aF ?_ ?_|((refine' LQ ?zh rfl ?_);case zh=>intro F';exact fC rfl rfl iI (by first|assumption|omega|decide|rfl))|refine bT λg=> ?_|refine bQ λg=> ?_|refine cZ p0 λu0=> ?_|refine zfP λvx=> ?_|(refine ai (aR rfl rfl iI iI rfl iI iI zbt (by first|omega|(simp[al]<;>omega)) rfl) rfl ?_;intro va2))
   refine aj (.inl rfl) rfl ⟨[k8 (i:Int) 0],rfl,aq.trans ?_ (fin va2 _ hJ2)⟩
   exact ah
  |false=>
   have hJ2:(s.ZH ⟨J,false,fr,cm,dr⟩).ay=s.ay++J.take kk:=by rw[hkk];rfl
   by_cases OC:(J.length:Int)<s.Zw
   ·have FY:kk=J.length:=by omega
    repeat' (first|refine ae (id:=9) (.range 13) 12 [4,6,8] ?_|refine zaN (id:=9) 7 5 (.range 13) 12 [4] ?_|intro K hK|intro hc|refine xyZ ?_|refine aF ?_ ?_|((first|refine' LQ ?zh rfl ?_|refine' bP rfl rfl rfl ?zh ?_|refine' bk rfl rfl ?zh ?_);case zh=>intro F';first|exact bp rfl rfl iI (by first|assumption|omega|decide|rfl)|exact fC rfl rfl iI (by first|assumption|omega|decide|rfl)|exact kP rfl rfl (by first|omega|(simp[al]<;>omega))|exact zba rfl rfl iI iI (by first|assumption|omega))|refine bT λg=> ?_|refine bQ λg=> ?_|refine cZ p0 λu0=> ?_|refine zfP λvx=> ?_|(refine ai (aR rfl rfl iI iI rfl iI iI zbt (by first|omega|(simp[al]<;>omega)) rfl) rfl ?_;intro va2))
    refine aj (.inl rfl) rfl ⟨[k8 (i:Int) 0],rfl,aq.trans ?_ (fin va2 _ hJ2)⟩
    rw[FY]
    exact ah
   ·haveI:fB s.Zw kk:=⟨by omega⟩
    repeat' (first|refine ae (id:=9) (.range 13) 12 [4,6,8] ?_|refine zaN (id:=9) 7 5 (.range 13) 12 [4] ?_|intro K hK|intro hc|refine xyZ ?_|refine aF ?_ ?_|((first|refine' LQ ?zh rfl ?_|refine' bP rfl rfl rfl ?zh ?_|refine' bk rfl rfl ?zh ?_);case zh=>intro F';first|exact bH rfl rfl iI (by first|assumption|omega|decide|rfl)|exact fC rfl rfl iI (by first|assumption|omega|decide|rfl)|exact kP rfl rfl (by first|omega|(simp[al]<;>omega))|exact zba rfl rfl iI iI (by first|assumption|omega))|refine bT λg=> ?_|refine bQ λg=> ?_|refine cZ p0 λu0=> ?_|refine zfP λvx=> ?_|(refine ai (aR rfl rfl iI iI rfl iI iI zbt (by first|omega|(simp[al]<;>omega)) rfl) rfl ?_;intro va2))
    refine aj (.inl rfl) rfl ⟨[k8 (i:Int) 0],rfl,aq.trans ?_ (fin va2 _ hJ2)⟩
    exact ah
 |false=>
  rw[Yg]at zaM
  simp only[AT,VC]at zaM
  rw[zaM]
  clear zaM
  have hT:s.ZL=false\/J=[]:=by
   unfold Zr.Z2 at Yg;rw[Bool.and_eq_false_iff,Bool.not_eq_false']at Yg;exact Yg.imp id λh=>ubL.1 h
  repeat' (first|(show WS _ _ _ (.seq (.seq (.region 4 _ _) _) _) _ _;refine N0 (λτ=>τ=⟨[(7,ptr x.1 0),(5,ptr g 0),(0,ptr gm 0),(0+1,.int .i64 (i:Int))],[],aK g 35 [aZ J,.bool Rp,.slice A1 fr.length c1,.slice A2 cm.length c2,.slice A3 dr.length c3]*(aK gm 124 [k.vs,k.vh,va,u64 m.now,ve]*(rows 128 1 Z4 k.vs (k.hs.map (·.1))*(rows 131 1 soC k.vh k.hv*(r7 k.hv m.Zs.length m.Zu*(aK x.1 130 [u32 s.addr,jo gn s.node,aZ s.ay,.int .i64 s.Zw,.bool s.ZL]*(zat gn x.2 s.node*(R*(rows 114 3 flC va m.Zx*(rows 68 7 evC ve el*(rows 48 2 dA (.slice A1 fr.length c1) fr*(rows 70 2 dA (.slice A2 cm.length c2) cm*(rows 166 1 lr (.slice A3 dr.length c3) dr*G))))))))))))⟩) ?_ ?_;(rcases hT with hT|hT<;>simp only[hT]))|refine ab λK hK=> ?_|refine ax ?_|(refine aF ?_ ?_<;>intro hc<;>try exact aG)|refine zha ?_|refine bT λg=> ?_|refine cZ p0 λu0=> ?_)
  iterate 3 (exact⟨_,rfl,cG,rfl,by first|simp only[hT];exact ah|exact ah⟩)
  ·rintro τ rfl
   revert g
   intro g5
   repeat' (first|(show WS _ _ _ (.seq (.seq (.region 13 _ _) _) _) _ _;refine N0 (λτ=>τ=⟨[(7,ptr x.1 0),(5,ptr g5 0),(0,ptr gm 0),(0+1,.int .i64 (i:Int))],[],aK g5 35 [aZ J,.bool Rp,.slice A1 fr.length c1,.slice A2 cm.length c2,.slice A3 dr.length c3]*(aK gm 124 [k.vs,k.vh,va,u64 m.now,ve]*(rows 128 1 Z4 k.vs (k.hs.map (·.1))*(rows 131 1 soC k.vh k.hv*(r7 k.hv m.Zs.length m.Zu*(aK x.1 130 [u32 s.addr,jo gn s.node,aZ ((if Rp then []else s.ay)++J),.int .i64 s.Zw,.bool s.ZL]*(zat gn x.2 s.node*(R*(rows 114 3 flC va m.Zx*(rows 68 7 evC ve el*(rows 48 2 dA (.slice A1 fr.length c1) fr*(rows 70 2 dA (.slice A2 cm.length c2) cm*(rows 166 1 lr (.slice A3 dr.length c3) dr*G))))))))))))⟩) ?_ ?_;(cases Rp))|refine ae (id:=15) (.range 11) 10 [4,6] ?_|refine zaN (id:=15) 7 5 (.range 11) 10 [4] ?_|refine ab λK hK=> ?_|refine ax ?_|(refine aF ?_ ?_<;>intro hc<;>try exact aG)|refine zf4 ?_|refine bQ λg=> ?_)
   iterate 2 (exact⟨_,rfl,cG,rfl,by simp only[YZ,AT,VC,zF];exact ah⟩)
   rintro τ rfl
   repeat' (first|refine ae (id:=16) (.range 13) 9 [4,6] ?_|refine zaN (id:=16) 0 5 (.range 13) 12 [4] ?_|intro K hK|refine ax ?_|refine bQ λg=> ?_|refine zhF λvx=> ?_|(refine aD (aR rfl rfl iI iI rfl iI iI zbt (by first|omega|(simp[al]<;>omega)) rfl) rfl rfl rfl ?_;intro ve4))
   --zgf
   obtain⟨xe,Wp⟩:∃xe:ES,xe=((⟨(i:Int),0,⟨J,Rp,fr,cm,dr⟩⟩,(A1,fr.length,c1),(A2,cm.length,c2),(A3,dr.length,c3)):ES):=⟨_,rfl⟩
   obtain⟨m1,Mk⟩:∃m1,m1=(m.mod i (·.write ⟨J,Rp,fr,cm,dr⟩)).event ⟨i,0,⟨J,Rp,fr,cm,dr⟩⟩:=⟨_,rfl⟩
   have Cg:m.Kept m1 i:=by rw[Mk];exact(Ms.Kept.mod (f:=λx=>x.write ⟨J,Rp,fr,cm,dr⟩) λs=>rfl).trans (Ms.Kept.event _ _ _)
   have iu:m1.Zs[i]? =some (s.write ⟨J,Rp,fr,cm,dr⟩):=by rw[Mk];exact Ms.ZJ hs
   have zc5:m1.Zy:=by
    exact pbs
   have zcj:m1.mU=m.mU++[⟨(i:Int),0,⟨J,Rp,fr,cm,dr⟩⟩]:=by rw[Mk];rfl
   have zc9:(el++[xe]).map (·.1)=m1.mU:=by rw[EZ,FW,zcj,Wp];rfl
   rw[<-Mk]
   refine aV (λkk τ=>∃(j:Nat) (mj:Ms) (new:List ES),j+kk=fr.length/\mj=(fr.take j).foldl (Ms.ZB sub i) m1/\m.Kept mj i/\(∃sj,mj.Zs[i]? =some sj/\sj.Sound c/\(fr≠[]->∀t,sj.node=some t->t.now=m.now))/\mj.Zy/\mj.mU.length<=m.mU.length+1+j/\τ=⟨[(9,.int .i64 (j:Int)),(7,ptr x.1 0),(5,ptr g5 0),(0,ptr gm 0),(0+1,.int .i64 (i:Int))],[],rmA gm k mj (el++[xe]++new)*(e9 new*(aK g5 35 [aZ J,.bool Rp,.slice A1 fr.length c1,.slice A2 cm.length c2,.slice A3 dr.length c3]*(rows 48 2 dA (.slice A1 fr.length c1) fr*(rows 70 2 dA (.slice A2 cm.length c2) cm*(rows 166 1 lr (.slice A3 dr.length c3) dr*G)))))⟩) ?_ ?_
   ·refine⟨fr.length,_,⟨0,m1,[],by omega,rfl,Cg,⟨_,iu,Hq.wrote,Ze⟩,zc5,by rw[zcj];simp,rfl⟩,cG,rfl,?_⟩
    rw[rL]
    refine re va ve4 zc9 ?_
    have e5:=e2 x (·.write ⟨J,Rp,fr,cm,dr⟩)
    rw[Rl]at e5
    refine zae gn (by rw[Mk];exact e5) ?_
    have hma:m1.Zx=m.Zx:=by rw[Mk];rfl
    unfold rmS y9
    simp only[r6,zak,hma,Cg.Zu,Cg.now,Cg.length,e9,aB,Zr.write,Wp]
    exact ah
   rintro kk τ ⟨j,mj,new,ym,hmj,hkj,⟨sj,Zj,zbH,zea⟩,zbF,zfO,rfl⟩
   rcases jP j fr.length with bW|kQ
   ·obtain⟨⟨to,fb⟩,hz⟩:∃z,fr[j]? =some z:=⟨_,aX bW⟩
    have hfm:=jq hz
    have mi:fr≠[]:=λe=>by rw[e]at hfm;cases hfm
    have Oz:=SY _ hfm
    have zbG:=Ms.ZG.frame (sub:=sub) (n:=1) Zj zbH (to,fb) Oz λhz t ht=>zdc _ hfm hz mj sj t hkj Zj zbH ht
    have gK:(fr.take (j+1)).foldl (Ms.ZB sub i) m1=Ms.ZB sub i mj (to,fb):=by rw[AP,hz,Qf,uaL,<-hmj];rfl
    have Xi:=hkj.trans zbG.kept
    have hD2:=zbG.here
    have hD3:=zbG.Zx zbF
    have hD4:=zbG.mU
    have XS:mj.Zs.length=m.Zs.length:=hkj.length
    have hjt:(j:Int)<(fr.length:Int):=by omega
    simp only at Oz
    clear zbG hmj Mk Cg iu zc5 zcj zc9
    refine zaW λva1 ve1 zb2=> ?_
    refine zaG λzey zfZ=> ?_
    have zgt:(k.hs.map (·.1)).length=mj.Zs.length:=by rw[Hu];exact zey
    obtain⟨vi,hvi⟩:∃vi,k.hv[i]? =some vi:=⟨_,aX (by omega)⟩
    obtain⟨Rh,eh⟩:=zdu (q:=mj.Zs.length) (f:=mj.Zu) zfZ hvi
    have S1:(za4 mj.Zs.length mj.Zu i).length=mj.Zs.length:=zas _ _ _
    by_cases hto:to=0
    ·subst hto
     have XC:Ms.ZB sub i mj ((0:UInt32),fb)=Ms.Zt i fb mj.Zs.length mj:=by unfold Ms.ZB;rw[jF rfl]
     rw[XC]at Xi hD2 hD3 hD4 gK
     have QT:=λq hq=>Ms.Zz (m:=mj) (i:=i) (b:=fb) (by omega) Oz q hq
     unfold rmP
     simp only[r6,eh]
     repeat' (first|intro K hK|intro hc|refine xyZ ?_|refine aF ?_ ?_|refine zw8 ?_|refine zw0 λg=> ?_|(refine ai (ph iI) rfl ?_;intro g8))
     refine aV (λk3 τ=>∃(q:Nat) (va':Value),q+k3=mj.Zs.length/\τ=⟨[(11,.int .i64 (q:Int)),(10,ptr g8 0),(9,.int .i64 (j:Int)),(7,ptr x.1 0),(5,ptr g5 0),(0,ptr gm 0),(0+1,.int .i64 (i:Int))],[],aK gm 124 [k.vs,k.vh,va',u64 mj.now,ve1]*(rows 114 3 flC va' (Ms.Zt i fb q mj).Zx*(aK g8 48 [u32 0,aZ fb]*(aK g5 35 [aZ J,.bool Rp,.slice A1 fr.length c1,.slice A2 cm.length c2,.slice A3 dr.length c3]*(rows 128 1 Z4 k.vs (k.hs.map (·.1))*(rows 131 1 soC k.vh k.hv*(rows 4 1 zbU (cT vi) (za4 mj.Zs.length mj.Zu i)*(Rh*(zam k.hs mj.Zs*(rows 68 7 evC ve1 (el++[xe]++new)*(e9 new*(rows 48 2 dA (.slice A1 fr.length c1) fr*(rows 70 2 dA (.slice A2 cm.length c2) cm*(rows 166 1 lr (.slice A3 dr.length c3) dr*G)))))))))))))⟩) ?_ ?_
     ·exact⟨mj.Zs.length,_,⟨0,va1,by omega,rfl⟩,cG,rfl,by simp only[Ms.Zt];exact ah⟩
     rintro k3 τ ⟨q,va',hqk,rfl⟩
     obtain⟨q1,q2,q3,q4,q5⟩:=QT q (by omega)
     rcases jP q mj.Zs.length with zfk|zfR
     ·have hq6:(q:Int)<((k.hs.map (·.1)).length:Int):=by omega
      have zax:Ms.Zt i fb (q+1) mj=if(Ms.Zt i fb q mj).ZZ i q then(Ms.Zt i fb q mj).ZM ⟨i,q,fb⟩else Ms.Zt i fb q mj:=rfl
      have zcv:=(q5 zbF).QG
      have hrg:(za4 mj.Zs.length mj.Zu i)[q]? =some ((Ms.Zt i fb q mj).ZZ i q):=by rw[zaX zfk];unfold Ms.ZZ;rw[q3]
      generalize Ms.Zt i fb q mj=mq at*
      have p7:=zb4 w0 gm mq k va' ve1 ⟨i,q,fb⟩ zcv
      have Nj:(mq.ZM ⟨i,q,fb⟩).now=mj.now:=q2
      simp only[flC,r6,q2,Nj]at p7
      cases hh:mq.ZZ i q with
      |true=>
       rw[hh]at hrg zax
       simp only[YZ]at zax
       repeat' (first|intro K hK|intro hc|refine xyZ ?_|refine aF ?_ ?_|refine zw8 ?_|refine cZ p7 λva2=> ?_)
       exact⟨k3 - 1,_,by omega,⟨q+1,va2,by omega,rfl⟩,cG,rfl,by rw[zax];exact ah⟩
      |false=>
       rw[hh]at hrg zax
       simp only[AT,VC]at zax
       repeat' (first|intro K hK|intro hc|refine xyZ ?_|refine aF ?_ ?_|refine zw8 ?_)
       exact⟨k3 - 1,_,by omega,⟨q+1,va',by omega,rfl⟩,cG,rfl,by rw[zax];exact ah⟩
     obtain rfl:q=mj.Zs.length:=by omega
     have hq6:¬(mj.Zs.length:Int)<((k.hs.map (·.1)).length:Int):=by omega
     repeat' (first|intro K hK|intro hc|refine xyZ ?_|refine aF ?_ ?_|refine zw4 ?_)
     refine⟨kk - 1,_,by omega,⟨j+1,Ms.Zt i fb mj.Zs.length mj,new,by omega,gK.symm,Xi,⟨sj,by rw[q1];exact Zj,zbH,zea⟩,hD3,by omega,rfl⟩,cG,rfl,?_⟩
     refine re va' ve1 (by rw[q4];exact zb2) ?_
     unfold rmP
     simp only[r6,q1,q2,q3,eh]
     exact ah
    ·have p5:=zcH w0 gm mj k va1 ve1 (el++[xe]++new) (by omega) to
     obtain⟨R2,e3,e4⟩:=zay zey hb Zj
     have XC:¬(((Zv mj.Zs to).map λj=>mj.ZZ i j)=some true)->Ms.ZB sub i mj (to,fb)=match sj.node with|some s=>sub (mj.mod i (·.run (s.l7 mj.now to))) (s.l7 mj.now to).out|none=>mj:=λh=>by
      unfold Ms.ZB;rw[eQ hto,eQ h,Zj];rfl
     have hfy:∀jj,Zv mj.Zs to=some jj->mj.ZZ i jj=true->Ms.ZB sub i mj (to,fb)=mj.ZM ⟨i,jj,fb⟩:=λjj h1 h2=>by
      unfold Ms.ZB;rw[eQ hto,jF (by rw[h1];simp[h2]),h1];rfl
     cases jf:Zv mj.Zs to with
     |none=>
      rw[jf]at p5
      simp only[qc]at p5
      have za2:=XC (by rw[jf];simp)
      cases hn:sj.node with
      |none=>
       rw[hn]at za2
       simp only at za2
       rw[za2]at Xi hD2 hD3 hD4 gK
       repeat' (first|(show WS _ _ _ (.seq (.region 28 _ _) _) _ _;refine zaE e3 λgn2=> ?_;unfold rmS y9;simp only[r6,zak,hn,jo,zat])|intro K hK|intro hc|refine xyZ ?_|refine aF ?_ ?_|refine zw2 ?_|refine zw1 ?_|refine zw0 λg=> ?_|(refine ai (ph iI) rfl ?_;intro g8)|refine cZ p5 λu5=> ?_)
       refine⟨kk - 1,_,by omega,⟨j+1,mj,new,by omega,gK.symm,Xi,⟨sj,Zj,zbH,zea⟩,hD3,by omega,rfl⟩,cG,rfl,?_⟩
       refine re va1 ve1 zb2 ?_
       refine zae gn2 e3 ?_
       unfold rmS y9
       simp only[r6,zak,hn,jo,zat]
       exact ah
      |some tn=>
       rw[hn]at za2
       simp only at za2
       rw[za2]at Xi hD2 hD3 hD4 gK
       have F6:=(zbH.node tn hn).1
       have Kc:tn.now=mj.now:=by rw[hkj.now];exact zea mi tn hn
       have p7:=λgn2=>zeQ w0 x.2.1 x.2.2 gn2 tn mj.now to F6 Kc
       have hN:=λs2 u h1 h2=>zen (to,fb) hfm hto mj sj tn s2 u hkj Zj hn h1 h2
       have p8:=fun(gn2:Nat) v'=>(ow (to,fb) hfm hto mj (el++[xe]++new) sj tn v' hkj Zj zbH hn zbF (by omega)).conv (X':=aK gm 124 (r6 mj k va1 ve1)*(rows 128 1 Z4 k.vs (k.hs.map (·.1))*(rows 131 1 soC k.vh k.hv*(r7 k.hv mj.Zs.length mj.Zu*(aK x.1 130 (zak (sj.run (tn.l7 mj.now to)) gn2)*(j9 ⟨x.2.1,none,x.2.2⟩ gn2 (tn.l7 mj.now to)*(R2*(rows 114 3 flC va1 mj.Zx*(rows 68 7 evC ve1 (el++[xe]++new)*r5 (tn.l7 mj.now to).out v')))))))))
        (λZ=>by
         rw[ad (rmA _ _ _ _)]
         refine re va1 ve1 zb2 ?_
         have e5:=e4 x (·.run (tn.l7 mj.now to))
         rw[Rl]at e5
         refine zae gn2 e5 ?_
         unfold rmS y9
         simp only[r6,Ms.mod,zak,Zr.run,jo,zat,Zb]
         exact ah) (λ_ _=>aq.refl _)
       simp only at p8 hN
       generalize sub (mj.mod i λy=>y.run (tn.l7 mj.now to)) (tn.l7 mj.now to).out=mn at*
       generalize tn.l7 mj.now to=t2 at*
       simp only[fp,r6,zak,Zr.run,jo]at p7 p8
       repeat' (first|(show WS _ _ _ (.seq (.region 28 _ _) _) _ _;refine zaE e3 λgn2=> ?_;unfold rmS y9;simp only[r6,zak,hn,jo,zat])|refine ae (id:=31) (.range 14) 12 [5,9,11] ?_|intro K hK|intro hc|refine xyZ ?_|refine aF ?_ ?_|refine zfl ?_|refine zw1 ?_|refine zw0 λg=> ?_|(refine ai (ph iI) rfl ?_;intro g8)|refine cZ p5 λu5=> ?_|refine cZ (p7 gn2) λx7=> ?_|refine cZ (p8 gn2 x7) λzar=> ?_)
       refine⟨kk - 1,_,by omega,⟨j+1,mn,new++zar,by omega,gK.symm,Xi,?_,hD3,by omega,rfl⟩,cG,rfl,?_⟩
       ·obtain⟨s2,h1,h2⟩:=hD2
        exact⟨s2,h1,h2,λ_ u hu=>hN s2 u h1 hu⟩
       rw[show el++[xe]++(new++zar)=el++[xe]++new++zar by simp,zaU]
       exact ah
     |some jj=>
      obtain⟨sx,hsx,_⟩:=ZE jf
      have V2:=(az.1 hsx).1
      have hrg:(za4 mj.Zs.length mj.Zu i)[jj]? =some (mj.ZZ i jj):=zaX V2
      rw[jf]at p5
      simp only[qc]at p5
      cases hh:mj.ZZ i jj with
      |false=>
       rw[hh]at hrg
       have za2:=XC (by rw[jf];simp[hh])
       cases hn:sj.node with
       |none=>
        rw[hn]at za2
        simp only at za2
        rw[za2]at Xi hD2 hD3 hD4 gK
        repeat' (first|(show WS _ _ _ (.seq (.region 28 _ _) _) _ _;refine zaE e3 λgn2=> ?_;unfold rmS y9;simp only[r6,zak,hn,jo,zat,eh])|intro K hK|intro hc|refine xyZ ?_|refine aF ?_ ?_|refine zw2 ?_|refine zw1 ?_|refine zw0 λg=> ?_|(refine ai (ph iI) rfl ?_;intro g8)|refine cZ p5 λu5=> ?_)
        refine⟨kk - 1,_,by omega,⟨j+1,mj,new,by omega,gK.symm,Xi,⟨sj,Zj,zbH,zea⟩,hD3,by omega,rfl⟩,cG,rfl,?_⟩
        refine re va1 ve1 zb2 ?_
        refine zae gn2 e3 ?_
        unfold rmS y9
        simp only[r6,zak,hn,jo,zat,eh]
        exact ah
       |some tn=>
        rw[hn]at za2
        simp only at za2
        rw[za2]at Xi hD2 hD3 hD4 gK
        have F6:=(zbH.node tn hn).1
        have Kc:tn.now=mj.now:=by rw[hkj.now];exact zea mi tn hn
        have p7:=λgn2=>zeQ w0 x.2.1 x.2.2 gn2 tn mj.now to F6 Kc
        have hN:=λs2 u h1 h2=>zen (to,fb) hfm hto mj sj tn s2 u hkj Zj hn h1 h2
        have p8:=fun(gn2:Nat) v'=>(ow (to,fb) hfm hto mj (el++[xe]++new) sj tn v' hkj Zj zbH hn zbF (by omega)).conv (X':=aK gm 124 (r6 mj k va1 ve1)*(rows 128 1 Z4 k.vs (k.hs.map (·.1))*(rows 131 1 soC k.vh k.hv*(r7 k.hv mj.Zs.length mj.Zu*(aK x.1 130 (zak (sj.run (tn.l7 mj.now to)) gn2)*(j9 ⟨x.2.1,none,x.2.2⟩ gn2 (tn.l7 mj.now to)*(R2*(rows 114 3 flC va1 mj.Zx*(rows 68 7 evC ve1 (el++[xe]++new)*r5 (tn.l7 mj.now to).out v')))))))))
         (λZ=>by
          rw[ad (rmA _ _ _ _)]
          refine re va1 ve1 zb2 ?_
          have e5:=e4 x (·.run (tn.l7 mj.now to))
          rw[Rl]at e5
          refine zae gn2 e5 ?_
          unfold rmS y9
          simp only[r6,Ms.mod,zak,Zr.run,jo,zat,Zb]
          exact ah) (λ_ _=>aq.refl _)
        simp only at p8 hN
        generalize sub (mj.mod i λy=>y.run (tn.l7 mj.now to)) (tn.l7 mj.now to).out=mn at*
        generalize tn.l7 mj.now to=t2 at*
        simp only[fp,r6,zak,Zr.run,jo,eh]at p7 p8
        repeat' (first|(show WS _ _ _ (.seq (.region 28 _ _) _) _ _;refine zaE e3 λgn2=> ?_;unfold rmS y9;simp only[r6,zak,hn,jo,zat,eh])|refine ae (id:=31) (.range 14) 12 [5,9,11] ?_|intro K hK|intro hc|refine xyZ ?_|refine aF ?_ ?_|refine zfl ?_|refine zw1 ?_|refine zw0 λg=> ?_|(refine ai (ph iI) rfl ?_;intro g8)|refine cZ p5 λu5=> ?_|refine cZ (p7 gn2) λx7=> ?_|refine cZ (p8 gn2 x7) λzar=> ?_)
        refine⟨kk - 1,_,by omega,⟨j+1,mn,new++zar,by omega,gK.symm,Xi,?_,hD3,by omega,rfl⟩,cG,rfl,?_⟩
        ·obtain⟨s2,h1,h2⟩:=hD2
         exact⟨s2,h1,h2,λ_ u hu=>hN s2 u h1 hu⟩
        rw[show el++[xe]++(new++zar)=el++[xe]++new++zar by simp,zaU]
        exact ah
      |true=>
       rw[hh]at hrg
       rw[hfy jj jf hh]at Xi hD2 hD3 hD4 gK
       have p7:=zb4 w0 gm mj k va1 ve1 ⟨i,jj,fb⟩ zbF.QG
       have Nj:(mj.ZM ⟨i,jj,fb⟩).now=mj.now:=rfl
       simp only[flC,r6,Nj]at p7
       repeat' (first|(show WS _ _ _ (.seq (.region 28 _ _) _) _ _;refine zaE e3 λgn2=> ?_;unfold rmS y9;simp only[r6,zak,eh])|intro K hK|intro hc|refine xyZ ?_|refine aF ?_ ?_|refine zw2 ?_|refine zw0 λg=> ?_|(refine ai (ph iI) rfl ?_;intro g8)|refine cZ p5 λu5=> ?_|refine cZ p7 λva2=> ?_)
       refine⟨kk - 1,_,by omega,⟨j+1,mj.ZM ⟨i,jj,fb⟩,new,by omega,gK.symm,Xi,⟨sj,Zj,zbH,zea⟩,hD3,by omega,rfl⟩,cG,rfl,?_⟩
       refine re va2 ve1 zb2 ?_
       refine zae (m:=mj.ZM ⟨i,jj,fb⟩) gn2 e3 ?_
       unfold rmS y9
       rw[show(mj.ZM ⟨i,jj,fb⟩).Zs=mj.Zs from rfl,show(mj.ZM ⟨i,jj,fb⟩).Zu=mj.Zu from rfl]
       simp only[r6,zak,Nj,eh]
       exact ah
   obtain rfl:j=fr.length:=by omega
   rw[PE]at hmj
   have IC:¬(fr.length:Int)<(fr.length:Int):=by omega
   repeat' (first|intro K hK|intro hc|refine xyZ ?_|refine aF ?_ ?_|refine zw4 ?_)
   refine aj (.inr rfl) rfl ⟨xe::new,rfl,?_⟩
   rw[<-hmj,show el++xe::new=el++[xe]++new by simp,e9,Wp]
   simp only[evO,r5,svV,cT]
   exact ah
end Go.Proofs.YtapoehkdnglahabGreat
