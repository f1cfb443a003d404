/- A part. -/
import Derived.Test.YtapoehkdnglahabGreatMn
set_option maxHeartbeats 16000000
set_option maxRecDepth 100000
set_option linter.all false
namespace Go.Proofs.YtapoehkdnglahabGreat
section
open Go.RowKit
attribute [local irreducible] WS LS OpQ y6 cn cv Spec bA aK
variable (w0:World)
theorem Ep (b r last) (l:List Tm) (now) (h:0<l.length->now<(cJ l 0).at_):
 Spec ucC w0 143 [ptr b 0,u64 now] (fZ b r last l) (λ_:Unit=> .tuple #[.int .i64 0,.bool false]) (λ_=>fZ b r last l):=by
 refine eZ Tryz.func143 Tryz.ntmps143 λG=> ?_
 simp only[aN]
 refine ru λv m hm=> ?_
 rcases uap l.length with h0|h0
 ·repeat' (first|intro hc|refine xyZ ?_|refine aF ?_ ?_)
  exact dF (.inl rfl) rfl (bh rfl) (bh rfl) ⟨(),rfl,aq.fZ (v:=v) hm (ah)⟩
 ·have hz:=hZ h0
  have h1:=h h0
  repeat' (first|intro hc|refine xyZ ?_|refine aF ?_ ?_)
  exact dF (.inl rfl) rfl (bh rfl) (bh rfl) ⟨(),rfl,aq.fZ (v:=v) hm (ah)⟩
theorem Er (b r last) (l:List Tm) (now) (h0:0<l.length) (h1:¬now<(cJ l 0).at_) (hn:vE l) (hl:l.length<=900000):
 Spec ucC w0 143 [ptr b 0,u64 now] (fZ b r last l) (λ_:Unit=> .tuple #[.int .i64 (cJ l 0).km,.bool true]) (λ_=>fZ b r last (yH l 0)):=by
 refine eZ Tryz.func143 Tryz.ntmps143 λG=> ?_
 simp only[aN]
 refine ru λv m hm=> ?_
 have hz:=hZ h0
 repeat' (first|intro hc|refine xyZ ?_|refine aF ?_ ?_|((refine' LQ ?zh rfl ?_);case zh=>intro F';exact LR rfl iI iI rfl)|(refine fJ (aq.fZ (v:=v) (F:=G) hm (ah)) ?_;refine ai (aa iI rfl (Da w0 b r last l 0 _ rfl h0 hn hl) iI) rfl ?_;intro g))
 exact dF (.inl rfl) rfl (bh rfl) (bh rfl) ⟨(),rfl,ah⟩
theorem Hl:Spec ucC w0 57 [] emp (λx:Nat×Nat=>ptr x.1 0) (λx=>fZ x.1 x.2 0 []):=by
 refine eZ Tryz.func57 Tryz.ntmps57 λG=> ?_;simp only[aN];repeat' (first|intro K hK|refine ax ?_|refine bT λg=> ?_|(refine ai (ew i64 i64) rfl ?_;intro r))
 refine gD (.inl rfl) rfl (bh rfl) ⟨(g,r),rfl,?_⟩;exact aq.fZ (v:= .slice none 0 0) kB.nil (ah)
end
section
open Go.RowKit
def df (l:List Rec):UInt32:=l.foldl (λm r=>if r.own then max m r.seq else m) 0
theorem uF (l) (r:Rec):df (l++[r])=if r.own then max (df l) r.seq else df l:=by simp[df]
def Nd.blank (self:UInt32):Nd:=⟨self,1,[],[],0,[],0,[],[],[],[],[],0,0,0,0,[],0,dS.zero⟩
def Nd.bO (self:UInt32) (b:List UInt8) (now:UInt64):Nd:=if 0<b.length then {Nd.blank self with seq:=bS (df (ic b)),ls:=iV self (cC (ic b)),cd:=now+2000}else Nd.blank self
def Nd.new (self:UInt32) (b:List UInt8) (now:UInt64):Nd:=((Nd.bO self b now).write ⟨true,0,(Nd.bO self b now).seq⟩).note
def Nd.gZ (self:UInt32) (b:List UInt8) (now:UInt64):dS:={(Nd.new self b now).out with replace:=decide (0<b.length)}
theorem Nd.px (self b now):aW (Nd.bO self b now).ls:=by
 unfold Nd.bO;split
 ·exact aW.new _ _
 ·exact aW.nil
theorem AR {κ ν κ' ν':Type} (fk:κ->Value) (fv:ν->Value) (W4:κ'->Value) (W5:ν'->Value) (r:Nat):mp fk fv r []=mp W4 W5 r []:=rfl
theorem Nw {H F} (gn tb r0 r1 r2 r3 r4) (cb:Nat×Nat) (self q ls si) (e:aq H (aK gn 159 [.int .i32 0,u32 0,u32 self,u32 q,ptr tb 0,.slice none 0 0,u32 0,.map (some r0),u64 si,.map (some r1),.slice none 0 0,.map (some r2),.map (some r3),.map (some r4),ptr cb.1 0,.int .i64 0,u32 0,u32 0,.slice none 0 0,u64 0,aZ [],.bool false,.slice none 0 0,.slice none 0 0,.slice none 0 0]*(rows 28 3 Rec.cells (.slice none 0 0) []*(mp u32 u32 r0 []*(mp u32 u32 r1 []*(mp u32 u32 r2 []*(mp u32 u32 r3 []*(mp u32 u32 r4 []*(dR tb self ls*(fZ cb.1 cb.2 0 []*F)))))))))):
 aq H (aY 0 gn {Nd.blank self with seq:=q,ls:=ls,cd:=si} ⟨tb,.slice none 0 0,r0,r1,.slice none 0 0,r2,r3,r4,cb.1,cb.2,.slice none 0 0,.slice none 0 0,.slice none 0 0,.slice none 0 0,[],[]⟩*F):=by
 have a:∀Z,aq (mp u32 u32 r2 []*Z) (mA r2 [] []*Z):=λZ=>by
  unfold mA;rw[ad];refine aq.ji rfl ?_;rw[AR u32 u32 u32 cT r2];simp only[jA,ubE,n5,b5];exact aq.refl _
 have b:∀Z,aq (fZ cb.1 cb.2 0 []*Z) (iA cb.1 cb.2 0 []*Z):=λZ=>aq.mX (p:=λl:List Tm=>pure' (TR l [] 0)*fZ cb.1 cb.2 0 l) [] (by rw[ad];exact aq.ji TR.nil (aq.refl _))
 refine(e.trans (aq.tail _ (aq.tail _ (aq.tail _ (aq.tail _ ((a _).trans (aq.tail _ (aq.tail _ (aq.tail _ (aq.tail _ (b _))))))))))).trans ?_
 rw[AR u32 u32 Bt u64 r1,AR u32 u32 u32 gw r3,AR u32 u32 i64 gw r4]
 unfold aY b7 cw ba eu nZ
 have ep:(pure' (([]:List Nat).length=([]:List Sr).length))=emp:=qQ (φ:=([]:List Nat).length=([]:List Sr).length) rfl
 simp only[Nd.blank,dS.zero,Dn,nR,oR,ubE,aB,ep]
 refine(aq.nil _ 48 2 dA none).trans ?_
 refine(aq.nil _ 70 2 dA none).trans ?_
 refine(aq.nil _ 166 1 lr none).trans ?_
 refine(aq.nil _ 269 2 sE none).trans ?_
 refine(aq.nil _ 24 1 eL none).trans ?_
 have ez:(Value.int .u32 0:Value)=u32 0:=rfl
 rw[ez]
 exact ah
attribute [local irreducible] WS LS OpQ y6 cn cv Spec bA aK
variable (w0:World)
theorem HH (self) (b:List UInt8) (hb:b.length<=1000000) (now v X) [hX:eX w0 X v UInt8 1 bU b]:
 Spec ucC w0 32 [u32 self,v,u64 now] X (λx:Nat×(Value×Value×Value)=> .tuple #[ptr x.1 0,fp (Nd.gZ self b now) x.2]) (λx=>jg x.1 (Nd.new self b now)*(r5 (Nd.gZ self b now) x.2*X)):=by
 have p1:=zH w0 self [] (by simp) (.slice none 0 0) (rows 28 3 Rec.cells (.slice none 0 0) [])
 have e1:iV self (cC [])=[]:=by rw[show cC []=[]from uaZ.1 (Nat.le_zero.1 (zad []))];rfl
 rw[e1]at p1
 have p2:=Hl w0
 have p3:=Fp w0 b hb v X
 refine eZ Tryz.func32 Tryz.ntmps32 λG=> ?_
 simp only[aN]
 refine cV (aq.nil _ 28 3 Rec.cells none) ?_
 by_cases JP:0<b.length
 ·repeat' (first|intro hc|refine xyZ ?_|refine aF ?_ ?_|refine bQ λg=> ?_|(refine ai (ph iI) rfl ?_;intro g0)|(refine ai (rj rfl) rfl ?_;intro gn)|refine cZ p1 λtb=> ?_|(refine ai (vv iI rfl p2) rfl ?_;intro cb)|(refine ai (ew u32 u32 (d:=some 18)) rfl ?_;intro r0)|(refine ai (ew u32 u32 (d:=some 20)) rfl ?_;intro r1)|(refine ai (ew u32 u32 (d:=some 21)) rfl ?_;intro r2)|(refine ai (ew u32 u32 (d:=some 22)) rfl ?_;intro r3)|(refine ai (ew u32 u32 (d:=some 23)) rfl ?_;intro r4)|refine cZ p3 λvl=> ?_)
  have hl:=sD b
  generalize hj:ic b=l at*
  have p4:=zH w0 self l (by omega) vl (rows 28 3 Rec.cells vl l)
  have p5:=mW w0 (df l)
  obtain⟨R,hR⟩:∃R:af,R=X*(fZ cb.1 cb.2 0 []*(mp u32 u32 r4 []*(mp u32 u32 r3 []*(mp u32 u32 r2 []*(mp u32 u32 r1 []*(mp u32 u32 r0 []*(dR tb self []*(rows 28 3 Rec.cells (.slice none 0 0) []*(aK g0 35 [aZ [],.bool false,.slice none 0 0,.slice none 0 0,.slice none 0 0]*G))))))))):=⟨_,rfl⟩
  refine aV (λk τ=>∃j:Nat,j+k=l.length/\τ=⟨[(41,.int .i64 (j:Int)),(40,.int .i64 (l.length:Int)),(39,vl),(10,vl),(9,.bool true),(8,ptr gn 0),(7,ptr g0 0),(0,u32 self),(0+1+1,u64 now)],[],aK gn 159 [.int .i32 0,u32 0,u32 self,u32 (df (l.take j)),ptr tb 0,.slice none 0 0,u32 0,.map (some r0),u64 0,.map (some r1),.slice none 0 0,.map (some r2),.map (some r3),.map (some r4),ptr cb.1 0,.int .i64 0,u32 0,u32 0,.slice none 0 0,u64 0,aZ [],.bool false,.slice none 0 0,.slice none 0 0,.slice none 0 0]*(rows 28 3 Rec.cells vl l*R)⟩) ?_ ?_
  ·exact⟨l.length,_,⟨0,by omega,rfl⟩,cG,rfl,by rw[hR];have ez:(Value.int .u32 0:Value)=u32 0:=rfl;simp only[uai,df,uah,ez];exact ah⟩
  ·rintro k τ ⟨j,ym,rfl⟩
   rcases jP j l.length with bW|kQ
   ·obtain⟨⟨zo,za,zs⟩,hz⟩:∃z,l[j]? =some z:=⟨_,aX bW⟩
    have gK:df (l.take (j+1))=if zo then max (df (l.take j)) zs else df (l.take j):=by rw[AP,hz,Qf,uF]
    generalize df (l.take j)=m at*
    cases zo
    ·repeat' (first|intro hc|refine xyZ ?_|refine aF ?_ ?_|refine bT λg=> ?_|refine zw0 λg=> ?_)
     exact⟨k - 1,_,by omega,⟨j+1,by omega,rfl⟩,cG,rfl,by rw[gK];simp only[AT,VC];exact ah⟩
    ·repeat' (first|refine ae (id:=10) (.range 11) 10 [4,6,7] ?_|refine zaN (id:=10) 8 13 (.range 11) 10 [4] ?_|intro hc|refine xyZ ?_|refine aF ?_ ?_|refine bT λg=> ?_|refine bQ λg=> ?_|refine zgu λg=> ?_)
     exact⟨k - 1,_,by omega,⟨j+1,by omega,rfl⟩,cG,rfl,by rw[gK];simp only[YZ];exact ah⟩
   ·obtain rfl:j=l.length:=by omega
    rw[Gz (uL _)]
    repeat' (first|intro hc|refine yZ ?_|refine aF ?_ ?_|refine zw1 ?_|refine cZ p4 λt2=> ?_|(refine ai (vv iI rfl p5) rfl ?_;intro u5))
    have es:Nd.bO self b now={Nd.blank self with seq:=if df l+1=0 then df l else df l+1,ls:=iV self (cC l),cd:=now+2000}:=by unfold Nd.bO;rw[jF JP,hj];rfl
    refine fJ (H':=aY 0 gn (Nd.bO self b now) ⟨t2,.slice none 0 0,r0,r1,.slice none 0 0,r2,r3,r4,cb.1,cb.2,.slice none 0 0,.slice none 0 0,.slice none 0 0,.slice none 0 0,[],[]⟩*(aK g0 35 [aZ [],.bool false,.slice none 0 0,.slice none 0 0,.slice none 0 0]*(X*G))) (by rw[es];refine Nw gn t2 r0 r1 r2 r3 r4 cb self (if df l+1=0 then df l else df l+1) (iV self (cC l)) (now+2000) ?_;rw[hR];simp only[aB];exact ah) ?_
    generalize (⟨t2,.slice none 0 0,r0,r1,.slice none 0 0,r2,r3,r4,cb.1,cb.2,.slice none 0 0,.slice none 0 0,.slice none 0 0,.slice none 0 0,[],[]⟩:NH)=h0
    have gG:=Nd.px self b now
    obtain⟨s0,sZ⟩:∃s0:Nd,s0=Nd.bO self b now:=⟨_,rfl⟩
    have en:Nd.new self b now=(s0.write ⟨true,0,if df l+1=0 then df l else df l+1⟩).note:=by unfold Nd.new;rw[sZ,es]
    rw[<-sZ]at gG ⊢
    have Rm:s0.aI=[]:=by rw[sZ,es];rfl
    have P3:s0.out.ay=[]:=by rw[sZ,es];rfl
    have q1:=zbh w0 0 gn s0 h0 ⟨true,0,if df l+1=0 then df l else df l+1⟩ (by rw[Rm];simp) (by rw[P3];simp)
    have q2:=λvr=>nk w0 0 gn (s0.write ⟨true,0,if df l+1=0 then df l else df l+1⟩) {h0 with vr:=vr} (Nd.Room.write (k:=10) ⟨by rw[Rm];simp,by rw[P3];simp⟩ _) gG
    rw[<-en]at q2
    obtain⟨s9,Ho⟩:∃s9:Nd,s9=Nd.new self b now:=⟨_,rfl⟩
    rw[<-Ho]at q2
    simp only[aY,cw]at q1 q2 ⊢
    simp only[b7]at q1 q2 ⊢
    repeat' (first|intro K hK|refine ax ?_|refine bT λg=> ?_|refine bQ λg=> ?_|refine mO (by kernel_rfl) ?_|(refine ai (aa iI rfl q1 iI) rfl ?_;intro v1;replace q2:=q2 v1)|refine cZ q2 λv2=> ?_)
    refine dF (.inl rfl) rfl (bh rfl) (aS rfl iI iI rfl) ⟨(gn,(h0.vf,h0.vc,h0.vd)),?_,?_⟩
    ·unfold Nd.gZ fp
     rw[<-Ho]
     simp[JP]
    ·unfold Nd.gZ r5
     rw[<-Ho,ad (jg _ _)]
     refine jc {h0 with vr:=v2,vf:= .slice none 0 0,vc:= .slice none 0 0,vd:= .slice none 0 0} dS.zero ?_
     have er:ba gn s9 {h0 with vr:=v2,vf:= .slice none 0 0,vc:= .slice none 0 0,vd:= .slice none 0 0}=ba gn s9 {h0 with vr:=v2}:=rfl
     rw[er]
     simp only[b7,dS.zero]
     exact ah
 ·repeat' (first|intro hc|refine xyZ ?_|refine aF ?_ ?_|(refine ai (ph iI) rfl ?_;intro g0)|(refine ai (rj rfl) rfl ?_;intro gn)|refine cZ p1 λtb=> ?_|(refine ai (vv iI rfl p2) rfl ?_;intro cb)|(refine ai (ew u32 u32 (d:=some 18)) rfl ?_;intro r0)|(refine ai (ew u32 u32 (d:=some 20)) rfl ?_;intro r1)|(refine ai (ew u32 u32 (d:=some 21)) rfl ?_;intro r2)|(refine ai (ew u32 u32 (d:=some 22)) rfl ?_;intro r3)|(refine ai (ew u32 u32 (d:=some 23)) rfl ?_;intro r4))
  have es:Nd.bO self b now={Nd.blank self with seq:=1,ls:=[],cd:=0}:=by unfold Nd.bO;rw[eQ JP];rfl
  refine fJ (H':=aY 0 gn (Nd.bO self b now) ⟨tb,.slice none 0 0,r0,r1,.slice none 0 0,r2,r3,r4,cb.1,cb.2,.slice none 0 0,.slice none 0 0,.slice none 0 0,.slice none 0 0,[],[]⟩*(aK g0 35 [aZ [],.bool false,.slice none 0 0,.slice none 0 0,.slice none 0 0]*(X*G))) (by rw[es];refine Nw gn tb r0 r1 r2 r3 r4 cb self (1) ([]) (0) ?_;have ez:(Value.int .u32 1:Value)=u32 1:=rfl;rw[ez];exact ah) ?_
  generalize (⟨tb,.slice none 0 0,r0,r1,.slice none 0 0,r2,r3,r4,cb.1,cb.2,.slice none 0 0,.slice none 0 0,.slice none 0 0,.slice none 0 0,[],[]⟩:NH)=h0
  have gG:=Nd.px self b now
  obtain⟨s0,sZ⟩:∃s0:Nd,s0=Nd.bO self b now:=⟨_,rfl⟩
  have en:Nd.new self b now=(s0.write ⟨true,0,1⟩).note:=by unfold Nd.new;rw[sZ,es]
  rw[<-sZ]at gG ⊢
  have Rm:s0.aI=[]:=by rw[sZ,es];rfl
  have P3:s0.out.ay=[]:=by rw[sZ,es];rfl
  have q1:=zbh w0 0 gn s0 h0 ⟨true,0,1⟩ (by rw[Rm];simp) (by rw[P3];simp)
  have q2:=λvr=>nk w0 0 gn (s0.write ⟨true,0,1⟩) {h0 with vr:=vr} (Nd.Room.write (k:=10) ⟨by rw[Rm];simp,by rw[P3];simp⟩ _) gG
  rw[<-en]at q2
  obtain⟨s9,Ho⟩:∃s9:Nd,s9=Nd.new self b now:=⟨_,rfl⟩
  rw[<-Ho]at q2
  simp only[aY,cw]at q1 q2 ⊢
  simp only[b7]at q1 q2 ⊢
  repeat' (first|intro K hK|refine ax ?_|refine bT λg=> ?_|refine bQ λg=> ?_|refine mO (by kernel_rfl) ?_|(refine ai (aa iI rfl q1 iI) rfl ?_;intro v1;replace q2:=q2 v1)|refine cZ q2 λv2=> ?_)
  refine dF (.inl rfl) rfl (bh rfl) (aS rfl iI iI rfl) ⟨(gn,(h0.vf,h0.vc,h0.vd)),?_,?_⟩
  ·unfold Nd.gZ fp
   rw[<-Ho]
   simp[JP]
  ·unfold Nd.gZ r5
   rw[<-Ho,ad (jg _ _)]
   refine jc {h0 with vr:=v2,vf:= .slice none 0 0,vc:= .slice none 0 0,vd:= .slice none 0 0} dS.zero ?_
   have er:ba gn s9 {h0 with vr:=v2,vf:= .slice none 0 0,vc:= .slice none 0 0,vd:= .slice none 0 0}=ba gn s9 {h0 with vr:=v2}:=rfl
   rw[er]
   simp only[b7,dS.zero]
   exact ah
end
section
open Go.RowKit
section
variable {P:Program} {n:fT} {w0:World} {E:Env} {D:List Deferred} {H F F1 F2:af} {Q:Exit->St->Prop} {l l':List Oper}
theorem I5 {id:Nat} (g1 g2 gL:Nat) (idx:List Nat) (cp:Nat) (bs:List Nat) {bt rJ DV:TypeId} {cs pV D2:List Value} (hs:iT P l idx (yA bs) cp=true) (hl:jK l idx=some l') (hR:v7 H g1 bt cs F1) (Ca:v7 F1 g2 rJ pV F2) (hL:v7 F2 gL DV D2 F) (h:DL P n w0 l.toArray Q D (aK g1 bt cs*aK g2 rJ pV) (aK gL DV D2) (yA bs) cp 0 false l' E F):WS P n w0 (.region id l.toArray true) Q ⟨E,D,H⟩:=
 iK idx l' (aK g1 bt cs*aK g2 rJ pV) (aK gL DV D2) F _ cp hs (by rw[hR.eq,Ca.eq,hL.eq,ad]) (gO hl) h
end
theorem jX (src ls l x):bV src ls (l++[x])=lR src (bV src ls l) x:=by simp[bV]
theorem jW (src ls) (l:List (UInt32×UInt32)):(bV src ls l).2.1.length<=l.length:=by
 induction l using eE with
 |nil=>simp[bV]
 |snoc l x ih=>
  rw[jX];unfold lR;simp only;split<;>simp<;>omega
attribute [local irreducible] WS LS OpQ y6 cn cv Spec bA aK
variable (w0:World)
theorem G8 (gn:Nat) (s:Nd) (h:NH) (src:UInt32) (p:Pk) (hp:p.Read) (v:Value) (ok:aW s.ls) (hf:s.Fit 2):Spec ucC w0 121 [ptr gn 0,u32 src,p.val v] (bG gn s h*rows 180 2 bB v p.lost) (λ_:Unit=> .tuple #[]) (λ_=>eD gn (s.ov src p)):=by
 have j7:s.Fit 1:=hf.le (by omega);refine eZ Tryz.func121 Tryz.ntmps121 λG=> ?_;refine jl v iI λA c hv=> ?_;subst hv;obtain⟨Mm,ma,OT,OU,OV⟩:=hp;obtain⟨bK,kind,aH,unknown,id,dest,ak,from_,av,bD,lost,ar⟩:=p;simp only[Pk.val,Pk.cells,aN]at*
 by_cases h1:dest=s.self
 ·have es:s.ov src ⟨bK,kind,aH,unknown,id,dest,ak,from_,av,bD,lost,ar⟩=s.cj (from_,ar):=by unfold Nd.ov;rw[jF h1]
  have Dy:=hf.cj;simp only[bG,aY,b7,cw,ba];repeat' (first|refine zeh ?_|refine ae (id:=2) (.range 17) 12 [5,7,9] ?_|refine zaN (id:=2) 0 5 (.range 17) 16 [5] ?_|intro hc|refine yZ ?_|refine aF ?_ ?_|(refine aD (au dA [(from_,ar)] iI iI iI rfl rfl rfl rfl rfl iI rfl rfl rfl) rfl rfl rfl ?_;intro vx)|(refine aD (aR rfl rfl iI iI rfl iI iI gU (by first|omega|(simp[al]<;>omega)) rfl) rfl rfl rfl ?_;intro va))
  refine aj (.inl rfl) rfl ⟨(),rfl,?_⟩;rw[es];refine aq.nod {h with vc:=va} ?_;simp only[bG,aY,b7,cw,ba,Nd.cj];exact ah
 by_cases zu:bK=1
 ·have es:s.ov src ⟨bK,kind,aH,unknown,id,dest,ak,from_,av,bD,lost,ar⟩=s.drop 4:=by unfold Nd.ov;rw[eQ h1,jF zu]
  have p1:=kf w0 gn s h 4 j7;exact paZ
 have p6:=find_spec w0 h.tb s.self s.ls ok dest s.now;cases hx:bR s.ls dest s.now with
 |none=>
  obtain⟨s1,iu⟩:∃s1:Nd,s1=s.drop 3:=⟨_,rfl⟩
  have e1:s1.ls=s.ls:=by rw[iu];rfl
  have es:s.ov src ⟨bK,kind,aH,unknown,id,dest,ak,from_,av,bD,lost,ar⟩=Nd.tell {s1 with ls:=ia s1.ls dest} src dest (eJ (ia s1.ls dest) dest):=by unfold Nd.ov;rw[eQ h1,eQ zu];simp only[hx];rw[iu];rfl
  have p1:=iE w0 gn s h 3 (by have:=hf.dropped;omega);have p2:=GY w0 h.tb s1.self s1.ls dest;have p3:=λvd=>PK w0 gn {s1 with ls:=ia s1.ls dest} {h with vd:=vd} src dest (eJ (ia s1.ls dest) dest) (by rw[iu];exact(hf.drop 3).ls _);rw[<-iu]at p1;simp only[bG,aY,b7,cw,ba]at p1 p3 ⊢;simp only[hx,fX,fW,bM]at p6;repeat' (first|refine zeh ?_|refine aE (id:=5) 0 5 (.range 17) ?_|refine ae (id:=5) (.range 17) 10 [3,5,9] ?_|intro hc|refine yZ ?_|refine aF ?_ ?_|refine zw3 λg=> ?_|refine zaN (id:=8) 0 5 (.range 12) 11 [7] ?_|refine cZ p6 λx6=> ?_|(refine ai (aa iI rfl p1 iI) rfl ?_;intro vd;replace p3:=p3 vd)|refine cZ p2 λx2=> ?_|refine cZ p3 λx3=> ?_)
  exact aj (.inl rfl) rfl ⟨(),rfl,by rw[es];exact ah⟩
 |some x=>
  obtain⟨s2,fP⟩:∃s2:Nd,s2=Nd.send s x.next ⟨bK - 1,kind,aH,unknown,id,dest,ak,from_,av,bD,lost,ar⟩:=⟨_,rfl⟩
  have e1:s2.ls=s.ls:=by rw[fP];rfl
  have e2:s2.ir=s.ir:=by rw[fP];rfl
  have es:s.ov src ⟨bK,kind,aH,unknown,id,dest,ak,from_,av,bD,lost,ar⟩={s2 with ls:=iY (iY s2.ls dest s2.ir) from_ s2.ir}:=by unfold Nd.ov;rw[eQ h1,eQ zu];simp only[hx];rw[e1,e2,fP]
  have p7:=lW w0 gn s h x.next ⟨bK - 1,kind,aH,unknown,id,dest,ak,from_,av,bD,lost,ar⟩ ⟨by simp only[cM]at*;omega,by simpa only[cM]using ma,by simp only[cM]at*;omega,by simp only;omega,by simp only;omega⟩ (.slice A lost.length c) rfl (rows 180 2 bB (.slice A lost.length c) lost) (hX:=fy _ _ _ _ _) (by have:=hf.aJ;omega);have p8:=pe w0 h.tb s2.self s2.ls dest s2.ir;have p9:=pe w0 h.tb s2.self (iY s2.ls dest s2.ir) from_ s2.ir;have MD:=λvf=>pQ w0 gn s2 {h with vf:=vf};rw[<-fP]at p7;simp only[bG,aY,b7,cw,ba,Pk.val,Pk.cells]at p7 MD ⊢;simp only[hx,fX,fW,bM]at p6;repeat' (first|refine zeh ?_|refine aE (id:=5) 0 5 (.range 17) ?_|refine ae (id:=5) (.range 17) 10 [3,5,9] ?_|refine ae (id:=11) (.range 9) 8 [3,5] ?_|refine ae (id:=12) (.range 9) 8 [3,5] ?_|intro hc|refine yZ ?_|refine aF ?_ ?_|refine zw3 λg=> ?_|refine cZ p6 λx6=> ?_|(refine ai (aa iI rfl p7 iI) rfl ?_;intro vf;replace MD:=MD vf)|(refine oC iI rfl MD iI rfl ?_)|refine cZ p8 λx8=> ?_|refine cZ p9 λx9=> ?_)
  refine aj (.inr rfl) rfl ⟨(),rfl,?_⟩;rw[es];refine aq.nod {h with vf:=vf} ?_;simp only[bG,aY,b7,cw,ba];exact ah
theorem EF (gn:Nat) (s:Nd) (h:NH) (src:UInt32) (p:Pk) (hp:p.Read) (v:Value) (hf:s.Fit 2):Spec ucC w0 120 [ptr gn 0,u32 src,p.val v] (bG gn s h*rows 180 2 bB v p.lost) (λ_:Unit=> .tuple #[]) (λ_=>eD gn (s.xC src p)):=by
 have j7:s.Fit 1:=hf.le (by omega);refine eZ Tryz.func120 Tryz.ntmps120 λG=> ?_;refine jl v iI λA c hv=> ?_;subst hv;obtain⟨Mm,ma,OT,OU,OV⟩:=hp;obtain⟨bK,kind,aH,unknown,id,dest,ak,from_,av,bD,lost,ar⟩:=p;simp only[Pk.val,Pk.cells,aN]at*
 simp only[bG,aY,b7,cw,ba];repeat' (first|intro K hK|refine ax ?_|(refine ai (rj rfl) rfl ?_;intro gp))
 refine cV (aq.nil _ 180 2 bB none) ?_;obtain⟨PC,TP⟩:∃PC:List Value,PC=[.int .i64 bK,.int .i64 kind,.int .i64 aH,.bool unknown,u32 id,u32 dest,u32 ak,u32 from_,u32 av,u32 bD,.slice A lost.length c,aZ ar]:=⟨_,rfl⟩
 refine aV (λk τ=>∃(j:Nat) (vt:Value),j+k=lost.length/\τ=⟨[(16,.int .i64 (j:Int)),(15,.int .i64 (lost.length:Int)),(14,.slice A lost.length c),(7,.bool (bV src s.ls (lost.take j)).2.2),(6,vt),(0,ptr gn 0),(1,u32 src)],[],bG gn {s with ls:=(bV src s.ls (lost.take j)).1} h*(rows 180 2 bB vt (bV src s.ls (lost.take j)).2.1*(rows 180 2 bB (.slice A lost.length c) lost*G))⟩) ?_ ?_
 ·exact⟨lost.length,_,⟨0,_,by omega,rfl⟩,cG,rfl,by simp only[uai,bV,uah,bG,aY,b7,cw,ba];exact ah⟩
 ·rintro k τ ⟨j,vt,ym,rfl⟩;rcases jP j lost.length with bW|kQ
  ·obtain⟨⟨ld,lq⟩,hz⟩:∃z,lost[j]? =some z:=⟨_,aX bW⟩
   have gK:bV src s.ls (lost.take (j+1))=lR src (bV src s.ls (lost.take j)) (ld,lq):=by rw[AP,hz,Qf,jX]
   have Iy:=jW src s.ls (lost.take j);rw[Aw]at Iy;generalize bV src s.ls (lost.take j)=a at*
   obtain⟨gj,tl,sm⟩:=a;simp only[lR]at gK Iy;have p1:=Hz w0 h.tb s.self gj src ld lq;have IC:(j:Int)<(lost.length:Int):=by omega
   cases hd:fR gj src ld;all_goals cases hb:decide (0<((dG gj ld).getD Ln.zero).before.length)
   all_goals cases sm
   all_goals
    simp only[hd,hb,uan,ucb,uaR,ucv,ubQ,ucz,AT,VC,YZ]at gK p1
    simp only[bG,aY,b7,cw,ba,bB]
    repeat' (first|refine ae (id:=6) (.range 14) 6 [3,5] ?_|intro hc|refine xyZ ?_|refine aF ?_ ?_|refine bT λg=> ?_|refine zw0 λg=> ?_|(refine ai (au bB [(ld,eJ (iS gj src ld lq) ld)] iI iI iI rfl rfl rfl rfl rfl iI rfl rfl rfl) rfl ?_;intro vx)|(refine ai (aR rfl rfl iI iI rfl iI iI lA (by first|omega|(simp[al]<;>omega)) rfl) rfl ?_;intro va)|refine cZ p1 λx1=> ?_)
    exact⟨k - 1,_,by omega,⟨j+1,_,by omega,rfl⟩,⟨rfl,rfl,rfl,by rw[gK];rfl,rfl,rfl,rfl,trivial⟩,rfl,by rw[gK];simp only[bG,aY,b7,cw,ba];exact ah⟩
  ·obtain rfl:j=lost.length:=by omega
   rw[Gz (uL _)];have Iy:=jW src s.ls lost;have es:s.xC src ⟨bK,kind,aH,unknown,id,dest,ak,from_,av,bD,lost,ar⟩=if(bV src s.ls lost).2.2=true then Nd.lost {s with ls:=(bV src s.ls lost).1} (bV src s.ls lost).2.1 else Nd.drop (Nd.lost {s with ls:=(bV src s.ls lost).1} (bV src s.ls lost).2.1) 7:=rfl
   generalize bV src s.ls lost=a at*
   obtain⟨gj,tl,sm⟩:=a;simp only at Iy es;have p1:=zz w0 gn {s with ls:=gj} h tl (by omega) vt (j7.ls _);have Oy:(Nd.lost {s with ls:=gj} tl).Fit 1:=by unfold Nd.lost;split;exact(hf.ls gj).send _ _;exact j7.ls gj
   generalize Nd.lost {s with ls:=gj} tl=s2 at*
   have p5:=λh2=>kf w0 gn s2 h2 7 Oy;have IC:¬(lost.length:Int)<(lost.length:Int):=by omega
   cases sm
   ·simp only[bG,aY,b7,cw,ba]at p1 p5 ⊢;repeat' (first|intro hc|refine xyZ ?_|refine aF ?_ ?_|refine cZ p1 λx1=> ?_|refine cZ p5 λx2=> ?_|(refine z8 λh9=> ?_;replace p5:=p5 h9;simp only[bG,aY,b7,cw,ba]))
    exact aj (.inr rfl) rfl ⟨(),rfl,by rw[es];simp only[AT,VC];exact ah⟩
   ·simp only[bG,aY,b7,cw,ba]at p1 ⊢;repeat' (first|intro hc|refine xyZ ?_|refine aF ?_ ?_|refine cZ p1 λx1=> ?_)
    exact aj (.inr rfl) rfl ⟨(),rfl,by rw[es];simp only[YZ];exact ah⟩
theorem uG (nb) (ds:List UInt32) (ls):(jh nb ds ls).length<=ds.length:=uaD _ _
theorem GV (gn:Nat) (s:Nd) (nb:UInt32) (ok:aW s.ls) (hf:s.Fit 1) (bn bx:Nat) (tn tx:TypeId):Spec ucC w0 193 [ptr bn 0,ptr bx 0] (eD gn s*(aK bn tn [ptr gn 0]*aK bx tx [u32 nb])) (λ_:Unit=> .tuple #[]) (λ_=>eD gn (s.brk nb)*emp):=by
 refine eZ Tryz.func193 Tryz.ntmps193 λG=> ?_;rw[ad (eD gn s)];refine wA λh=> ?_;have p1:=BT w0 h.tb s.self s.ls ok nb;have Ri:=uG nb (aQ (aO s.ls)) s.ls;have h8:(aQ (aO s.ls)).length<=8:=by rw[cF];simpa [aO]using ok.short
 have p2:=λv=>zz w0 gn {s with ls:=nH nb s.ls} h (jh nb (aQ (aO s.ls)) s.ls) (by omega) v (hf.ls _);simp only[bG,aY,b7,cw,ba]at p2 ⊢;simp only[aN];repeat' (first|refine ax ?_|(show WS _ _ _ (.region 0 _ true) _ _;refine I5 bn bx gn [0,1,2,3,4,5,6,7] 7 [4] (by decide+kernel) rfl iI iI iI ?_)|refine cZ p1 λv1=> ?_|(refine aD (aa iI rfl (p2 _) iI) rfl rfl rfl ?_;intro x2))
 exact aj (.inr rfl) rfl ⟨(),rfl,by unfold Nd.brk;exact ah⟩
end
end Go.Proofs.YtapoehkdnglahabGreat
