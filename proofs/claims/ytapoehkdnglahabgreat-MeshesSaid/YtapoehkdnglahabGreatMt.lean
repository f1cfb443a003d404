/- A part. -/
import Derived.Test.YtapoehkdnglahabGreatMr
set_option maxHeartbeats 16000000
set_option maxRecDepth 100000
set_option linter.all false
namespace Go.Proofs.YtapoehkdnglahabGreat
section
open Go.RowKit
def yw (now:UInt64) (p:da):da:=if p.1.valid=true/\p.1.cB<=now then lp 0 p else p
def l8 (now:UInt64) (xs:List da):List da:=xs.map (yw now)
def rQ (xs:List da) (d:UInt32) (now:UInt64):Option da:=match fj xs d with
 |some p=>if p.1.valid=true/\now<p.1.cB then some p else none
 |none=>none
def Lb (xs:List da) (d:UInt32) (e:UInt64):List da:=match fj xs d with
 |some p=>if p.1.valid=true/\p.1.cB<e then xs.set (kb d xs) ({p.1 with cB:=e},p.2)else xs
 |none=>xs
def xD (xs:List da) (src d:UInt32):Bool:=match fj xs d with
 |some p=>p.1.valid&&decide (p.1.next=src)
 |none=>false
def CC (xs:List da) (src d s:UInt32):List da:=match fj xs d with
 |some p=>if p.1.valid=true/\p.1.next=src then xs.set (kb d xs) (lp s p)else xs
 |none=>xs
theorem w6 (now) (xs:List da):(l8 now xs).length=xs.length:=by simp[l8]
theorem JJ {now} {xs:List da} {i p} (hp:xs[i]? =some p):(l8 now (xs.take (i+1))++xs.drop (i+1))=((l8 now (xs.take i)++xs.drop i).set i (yw now p)):=by
 obtain⟨h1,h2⟩:=az.1 hp;rw[Sb h1,h2,AP,hp];have hl:(l8 now (xs.take i)).length=i:=by rw[w6,Aw];omega
 rw[ucr _ _ (by omega),hl,ubD];simp[l8]
attribute [local irreducible] WS LS OpQ y6 cn cv Spec bA aK
variable (w0:World)
theorem Bg (g self v) (xs:List da) (hl:xs.length<=100) (now):Spec ucC w0 150 [ptr g 0,u64 now] (eA g self v xs) (λ_:Unit=> .tuple #[]) (λ_=>eA g self v (l8 now xs)):=by
 refine eZ Tryz.func150 Tryz.ntmps150 λG=> ?_;unfold eA;simp only[aN,ad];repeat' (first|(refine hK _ ?_;clear hK K)|intro K hK|refine ax ?_)
 refine aV (λkk τ=>∃(i:Nat),i+kk=xs.length/\τ=⟨[(4,.int .i64 (i:Int)),(1,u64 now),(0,ptr g 0)],[],aK g 197 [u32 self,v]*(rows 53 7 bJ v (l8 now (xs.take i)++xs.drop i)*G)⟩) ?_ ?_
 ·exact⟨xs.length,_,⟨0,by omega,rfl⟩,cG,rfl,ah⟩
 ·rintro kk τ ⟨i,qE,rfl⟩;have hlen:(l8 now (xs.take i)++xs.drop i).length=xs.length:=by rw[pU,w6,Aw,uK];omega
  rcases jP i xs.length with h|h
  ·have h1:(i:Int)<((l8 now (xs.take i)++xs.drop i).length:Int):=by omega
   have xc:i<(l8 now (xs.take i)++xs.drop i).length:=by omega
   obtain⟨p,hp⟩:∃p,xs[i]? =some p:=⟨_,aX h⟩
   have ma:(l8 now (xs.take i)++xs.drop i)[i]? =some p:=by
    have bW:(l8 now (xs.take i)).length=i:=by rw[w6,Aw];omega
    rw[Zq (by omega),bW,ubD,Lf];simpa using hp
   have jf:=JJ (now:=now) hp;have p1:=uc w0 g self v (l8 now (xs.take i)++xs.drop i) (by omega) i p ma 0;unfold eA at p1;generalize hY:l8 now (xs.take i)++xs.drop i=Y at*
   by_cases hv:p.1.valid=true
   ·have tN:¬p.1.valid=false:=by rw[hv];simp
    by_cases he:p.1.cB<=now
    ·have hf:yw now p=lp 0 p:=by unfold yw;rw[jF ⟨hv,he⟩]
     rw[hf]at jf;repeat' (first|(refine hK _ ?_;clear hK K)|intro K hK|intro hc|refine xyZ ?_|refine aF ?_ ?_|refine cZ p1 λu1=> ?_)
     exact⟨kk - 1,_,by omega,⟨i+1,by omega,rfl⟩,cG,rfl,by rw[jf];exact ah⟩
    ·have hf:yw now p=p:=by unfold yw;rw[eQ (λh=>he h.2)]
     exact pay
   ·have hf:yw now p=p:=by unfold yw;rw[eQ (λh=>hv h.1)]
    have hv2:p.1.valid=false:=by simpa using hv
    exact pay
  ·obtain rfl:i=xs.length:=by omega
   have h1:¬(xs.length:Int)<((l8 now (xs.take xs.length)++xs.drop xs.length).length:Int):=by omega
   have xh:l8 now (xs.take xs.length)++xs.drop xs.length=l8 now xs:=by simp
   generalize hY:l8 now (xs.take xs.length)++xs.drop xs.length=Y at*
   repeat' (first|(refine hK _ ?_;clear hK K)|intro K hK|intro hc|refine xyZ ?_|refine aF ?_ ?_)
   exact aj (.inr rfl) rfl ⟨(),rfl,by rw[<-xh];exact ah⟩
theorem Ii (g self v) (xs:List da) (hl:xs.length<=100) (d e):Spec ucC w0 189 [ptr g 0,u32 d,u64 e] (eA g self v xs) (λ_:Unit=> .tuple #[]) (λ_=>eA g self v (Lb xs d e)):=by
 refine eZ Tryz.func189 Tryz.ntmps189 λG=> ?_;have p1:=iF w0 g self v xs hl d;unfold eA at*
 simp only[aN,ad];unfold Lb;cases hg:fj xs d with
 |none=>
  rw[hg]at p1;simp only[sH]at p1;repeat' (first|intro hc|refine xyZ ?_|refine aF ?_ ?_|refine cZ p1 λu1=> ?_)
  exact aj (.inr rfl) rfl ⟨(),rfl,ah⟩
 |some p=>
  rw[hg]at p1;simp only[uz]at p1;obtain⟨hp,hd⟩:=fl hg;generalize hi:kb d xs=i at*
  have IB:i<xs.length:=(az.1 hp).1;simp only;by_cases tN:¬p.1.valid=true
  ·have hv:p.1.valid=false:=by simpa using tN
   rw[eQ (λh=>tN h.1)];repeat' (first|intro hc|refine xyZ ?_|refine aF ?_ ?_|refine cZ p1 λu1=> ?_)
   exact aj (.inr rfl) rfl ⟨(),rfl,ah⟩
  ·have hv:p.1.valid=true:=uaU.1 tN;have Yj:¬p.1.valid=false:=by rw[hv];simp
   by_cases he:p.1.cB<e
   ·rw[jF ⟨hv,he⟩];repeat' (first|intro hc|refine xyZ ?_|refine aF ?_ ?_|refine cZ p1 λu1=> ?_|(refine bL (dB (z:=p) (({p.1 with cB:=e}:Ln),p.2) rfl rfl iI iI iI rfl hp rfl) ?_;intro g1))
    exact aj (.inr rfl) rfl ⟨(),rfl,ah⟩
   ·rw[eQ (λh=>he h.2)];repeat' (first|intro hc|refine xyZ ?_|refine aF ?_ ?_|refine cZ p1 λu1=> ?_)
    exact aj (.inr rfl) rfl ⟨(),rfl,ah⟩
theorem E8 (g self v) (xs:List da) (hl:xs.length<=100) (src d q):Spec ucC w0 192 [ptr g 0,u32 src,.agg #[u32 d,u32 q]] (eA g self v xs) (λ_:Unit=> .bool (xD xs src d)) (λ_=>eA g self v (CC xs src d q)):=by
 refine eZ Tryz.func192 Tryz.ntmps192 λG=> ?_;have p1:=iF w0 g self v xs hl d;unfold eA at*
 simp only[aN,ad];unfold CC xD;cases hg:fj xs d with
 |none=>
  rw[hg]at p1;simp only[sH]at p1;repeat' (first|intro hc|refine xyZ ?_|refine aF ?_ ?_|refine bT λg=> ?_|refine cZ p1 λu1=> ?_)
  exact aC (.inl rfl) rfl rfl ⟨(),rfl,ah⟩
 |some p=>
  rw[hg]at p1;simp only[uz]at p1;obtain⟨hp,hd⟩:=fl hg;have p2:=uc w0 g self v xs hl (kb d xs) p hp q;unfold eA at p2;generalize hi:kb d xs=i at*
  have IB:i<xs.length:=(az.1 hp).1;simp only;by_cases tN:¬p.1.valid=true
  ·have hv:p.1.valid=false:=by simpa using tN
   have hv2:(!p.1.valid)=true:=by rw[hv];rfl
   have ID:¬(!p.1.valid)=false:=by rw[hv];simp
   rw[eQ (λh=>tN h.1),hv,uan];repeat' (first|intro hc|refine xyZ ?_|refine aF ?_ ?_|refine bT λg=> ?_|refine cZ p1 λu1=> ?_)
   exact aC (.inl rfl) rfl rfl ⟨(),rfl,ah⟩
  ·have hv:p.1.valid=true:=uaU.1 tN;have hv2:(!p.1.valid)=false:=by rw[hv];rfl
   have ID:¬(!p.1.valid)=true:=by rw[hv];simp
   have UL:¬p.1.valid=false:=by rw[hv];simp
   by_cases he:p.1.next=src
   ·rw[jF ⟨hv,he⟩,Dp he,ucv,hv];repeat' (first|intro hc|refine xyZ ?_|refine aF ?_ ?_|refine bT λg=> ?_|refine cZ p1 λu1=> ?_|refine cZ p2 λu2=> ?_)
    exact aC (.inl rfl) rfl rfl ⟨(),rfl,ah⟩
   ·rw[eQ (λh=>he h.2),EH he,uaR];repeat' (first|intro hc|refine xyZ ?_|refine aF ?_ ?_|refine bT λg=> ?_|refine cZ p1 λu1=> ?_)
    exact aC (.inl rfl) rfl rfl ⟨(),rfl,ah⟩
end
section
open Go.RowKit
def zeroV:Value:= .agg #[u32 0,u32 0,.int .i64 0,u32 0,.bool false,u64 0,.slice none 0 0]
def Oi:Option da->Value
 |some p=> .agg #[u32 p.1.dest,u32 p.1.seq,.int .i64 p.1.aH,u32 p.1.next,.bool p.1.valid,u64 p.1.cB,il p.1 p.2]
 |none=>zeroV
def yu (nb:UInt32) (p:da):da:=if p.1.valid=true/\p.1.next=nb then lp 0 p else p
def mR (nb:UInt32) (xs:List da):List da:=xs.map (yu nb)
def mH (nb:UInt32) (xs:List da):List (UInt32×UInt32):=xs.filterMap λp=>if(p.1.valid=true/\p.1.next=nb)/\0<p.1.before.length then some (p.1.dest,(p.1.ended 0).seq)else none
theorem wP (nb) (xs:List da):(mR nb xs).length=xs.length:=by simp[mR]
theorem GX {nb} {xs:List da} {i p} (hp:xs[i]? =some p):(mR nb (xs.take (i+1))++xs.drop (i+1))=((mR nb (xs.take i)++xs.drop i).set i (yu nb p)):=by
 obtain⟨h1,h2⟩:=az.1 hp;rw[Sb h1,h2,AP,hp];have hl:(mR nb (xs.take i)).length=i:=by rw[wP,Aw];omega
 rw[ucr _ _ (by omega),hl,ubD];simp[mR]
theorem MB (nb) (xs:List da):(mH nb xs).length<=xs.length:=uaD _ _
theorem Dj {xs:List da} {i p} (hp:xs[i]? =some p):xs.set i p=xs:=by
 apply zD;intro j;rw[Dg];have hi:=(az.1 hp).1;split
 ·rename_i e;subst e;first|exact hp.symm|(rw[jF hi,hp])
 ·rfl
attribute [local irreducible] WS LS OpQ y6 cn cv Spec bA aK
variable (w0:World)
theorem E7 (g self v) (xs:List da) (hl:xs.length<=100) (d now):Spec ucC w0 152 [ptr g 0,u32 d,u64 now] (eA g self v xs) (λ_:Unit=> .tuple #[Oi (rQ xs d now),.bool (rQ xs d now).isSome]) (λ_=>eA g self v xs):=by
 refine eZ Tryz.func152 Tryz.ntmps152 λG=> ?_;have p1:=iF w0 g self v xs hl d;unfold eA at*
 simp only[aN,ad];cases hg:fj xs d with
 |none=>
  rw[hg]at p1;simp only[sH]at p1;have hf:rQ xs d now=none:=by unfold rQ;rw[hg]
  rw[hf];repeat' (first|intro hc|refine xyZ ?_|refine aF ?_ ?_|refine bT λg=> ?_|refine bQ λg=> ?_|refine cZ p1 λu1=> ?_)
  exact dF (.inl rfl) rfl (aS rfl iI iI rfl) (bh rfl) ⟨(),rfl,ah⟩
 |some p=>
  rw[hg]at p1;simp only[uz]at p1;obtain⟨hp,hd⟩:=fl hg;have hf:rQ xs d now=if p.1.valid=true/\now<p.1.cB then some p else none:=by unfold rQ;rw[hg]
  rw[hf];generalize hi:kb d xs=i at*
  have IB:i<xs.length:=(az.1 hp).1;by_cases tN:¬p.1.valid=true
  ·have hv:p.1.valid=false:=by simpa using tN
   have hv2:(!p.1.valid)=true:=by rw[hv];rfl
   have ID:¬(!p.1.valid)=false:=by rw[hv];simp
   rw[eQ (λh=>tN h.1)];repeat' (first|intro hc|refine xyZ ?_|refine aF ?_ ?_|refine bT λg=> ?_|refine bQ λg=> ?_|refine cZ p1 λu1=> ?_)
   exact dF (.inl rfl) rfl (aS rfl iI iI rfl) (bh rfl) ⟨(),rfl,ah⟩
  ·have hv:p.1.valid=true:=uaU.1 tN;have hv2:(!p.1.valid)=false:=by rw[hv];rfl
   have ID:¬(!p.1.valid)=true:=by rw[hv];simp
   have UL:¬p.1.valid=false:=by rw[hv];simp
   by_cases he:p.1.cB<=now
   ·rw[eQ (λh=>(ucw.2 he) h.2)];repeat' (first|intro hc|refine xyZ ?_|refine aF ?_ ?_|refine bT λg=> ?_|refine bQ λg=> ?_|refine cZ p1 λu1=> ?_)
    exact dF (.inl rfl) rfl (aS rfl iI iI rfl) (bh rfl) ⟨(),rfl,ah⟩
   ·rw[jF ⟨hv,ucx.1 he⟩];repeat' (first|intro hc|refine xyZ ?_|refine aF ?_ ?_|refine bT λg=> ?_|refine zw0 λg=> ?_|refine cZ p1 λu1=> ?_)
    exact dF (.inl rfl) rfl (aS rfl iI iI rfl) (bh rfl) ⟨(),rfl,ah⟩
theorem Bb (g self v) (xs:List da) (hl:xs.length<=100) (nb):Spec ucC w0 137 [ptr g 0,u32 nb] (eA g self v xs) (λvo:Value=>vo) (λvo=>eA g self v (mR nb xs)*rows 180 2 bB vo (mH nb xs)):=by
 refine eZ Tryz.func137 Tryz.ntmps137 λG=> ?_;unfold eA;simp only[aN,ad];repeat' (first|intro K hK|refine ax ?_)
 refine aV (λkk τ=>∃(i:Nat) (vo:Value),i+kk=xs.length/\τ=⟨[(6,.int .i64 (i:Int)),(5,vo),(1,u32 nb),(0,ptr g 0)],[],aK g 197 [u32 self,v]*(rows 53 7 bJ v (mR nb (xs.take i)++xs.drop i)*(rows 180 2 bB vo (mH nb (xs.take i))*G))⟩) ?_ ?_
 ·exact⟨xs.length,_,⟨0,_,by omega,rfl⟩,cG,rfl,ah⟩
 ·rintro kk τ ⟨i,vo,qE,rfl⟩;have hlen:(mR nb (xs.take i)++xs.drop i).length=xs.length:=by rw[pU,wP,Aw,uK];omega
  have Ri:(mH nb (xs.take i)).length<=100:=by have:=MB nb (xs.take i);rw[Aw]at this;omega
  rcases jP i xs.length with h|h
  ·have h1:(i:Int)<((mR nb (xs.take i)++xs.drop i).length:Int):=by omega
   have xc:i<(mR nb (xs.take i)++xs.drop i).length:=by omega
   obtain⟨p,hp⟩:∃p,xs[i]? =some p:=⟨_,aX h⟩
   have ma:(mR nb (xs.take i)++xs.drop i)[i]? =some p:=by
    have bW:(mR nb (xs.take i)).length=i:=by rw[wP,Aw];omega
    rw[Zq (by omega),bW,ubD,Lf];simpa using hp
   have jf:=GX (nb:=nb) hp;have mZ:mH nb (xs.take (i+1))=mH nb (xs.take i)++mH nb [p]:=by rw[AP,hp];simp[mH]
   have p1:=uc w0 g self v (mR nb (xs.take i)++xs.drop i) (by omega) i p ma 0;unfold eA at p1;have hle:(lp 0 p).1=p.1.ended 0:=rfl;generalize hY:mR nb (xs.take i)++xs.drop i=Y at*
   generalize hO:mH nb (xs.take i)=O at*
   have Y2:i<(Y.set i (lp 0 p)).length:=by rw[TY];exact xc
   have SX:(Y.set i (lp 0 p))[i]? =some (lp 0 p):=yb xc;have Lw:=cF p.1.before;by_cases tN:¬p.1.valid=true
   ·have hv:p.1.valid=false:=by simpa using tN
    have hf:yu nb p=p:=by unfold yu;rw[eQ (λh=>tN h.1)]
    have OR:mH nb [p]=[]:=by simp[mH,hv]
    exact pa1
   ·have hv:p.1.valid=true:=uaU.1 tN;have UL:¬p.1.valid=false:=by rw[hv];simp
    by_cases he:p.1.next=nb
    ·have hf:yu nb p=lp 0 p:=by unfold yu;rw[jF ⟨hv,he⟩]
     rw[hf]at jf;by_cases hb:0<p.1.before.length
     ·have OR:mH nb [p]=[(p.1.dest,(p.1.ended 0).seq)]:=by simp[mH,hv,he,hb]
      rw[OR]at mZ;have FT:(0:Int)<((aQ p.1.before).length:Int):=by omega
      repeat' (first|refine ae (id:=9) (.range 21) 19 [4,6,7,8,12,14,15,16] ?_|intro hc|refine xyZ ?_|refine aF ?_ ?_|refine cZ p1 λu1=> ?_|(refine aD (au bB [(p.1.dest,(p.1.ended 0).seq)] iI iI iI rfl rfl rfl rfl rfl iI rfl rfl rfl) rfl rfl rfl ?_;intro vs)|(refine aD (aR rfl rfl iI iI rfl iI iI lA (by first|omega|(simp[al]<;>omega)) rfl) rfl rfl rfl ?_;intro va))
      exact⟨kk - 1,_,by omega,⟨i+1,va,by omega,rfl⟩,cG,rfl,by rw[jf,mZ];exact ah⟩
     ·have OR:mH nb [p]=[]:=by simp[mH,hb]
      rw[OR,rL]at mZ;have FT:¬(0:Int)<((aQ p.1.before).length:Int):=by omega
      repeat' (first|intro hc|refine xyZ ?_|refine aF ?_ ?_|refine cZ p1 λu1=> ?_)
      exact⟨kk - 1,_,by omega,⟨i+1,vo,by omega,rfl⟩,cG,rfl,by rw[jf,mZ];exact ah⟩
    ·have hf:yu nb p=p:=by unfold yu;rw[eQ (λh=>he h.2)]
     have OR:mH nb [p]=[]:=by simp[mH,he]
     exact pa1
  ·obtain rfl:i=xs.length:=by omega
   have h1:¬(xs.length:Int)<((mR nb (xs.take xs.length)++xs.drop xs.length).length:Int):=by omega
   have xh:mR nb (xs.take xs.length)++xs.drop xs.length=mR nb xs:=by simp
   have Q3:mH nb (xs.take xs.length)=mH nb xs:=by simp
   rw[Q3];generalize hY:mR nb (xs.take xs.length)++xs.drop xs.length=Y at*
   repeat' (first|intro hc|refine xyZ ?_|refine aF ?_ ?_)
   exact aC (.inl rfl) rfl rfl ⟨vo,rfl,by rw[<-xh];exact ah⟩
end
section
open Go.RowKit
def uT (xs:List da) (i:Nat) (x:da):List da:=(xs.take i++[x])++xs.drop i
def MM (x:da):Value:= .agg #[u32 x.1.dest,u32 x.1.seq,.int .i64 x.1.aH,u32 x.1.next,.bool x.1.valid,u64 x.1.cB,il x.1 x.2]
def qO (d q:UInt32) (h:Int) (nb:UInt32) (e:UInt64):da:=(⟨d,q,h,nb,true,e,[]⟩,(none,0))
def Fm (self:UInt32) (xs:List da) (d q:UInt32) (h:Int) (nb:UInt32) (e:UInt64):Int×List da:=
 if d=self\/d=0 then(2,xs)else
 match fj xs d with
 |some p=>if(q.toNat:Int)<p.1.rk\/(q.toNat:Int)=p.1.rk/\p.1.aH<=h then(3,xs)else(0,xs.set (kb d xs) (qO d q h nb e))
 |none=>if 8<=xs.length then(4,xs)else(0,uT xs (kb d xs) (qO d q h nb e))
theorem qP (d q h nb e):bJ (qO d q h nb e)=[u32 d,u32 q,.int .i64 h,u32 nb,.bool true,u64 e,.slice none 0 0]:=by
 exact pa9
theorem Kw (d q h nb e):MM (qO d q h nb e)= .agg #[u32 d,u32 q,.int .i64 h,u32 nb,.bool true,u64 e,.slice none 0 0]:=by
 have h2:MM (qO d q h nb e)= .agg (bJ (qO d q h nb e)).toArray:=rfl;rw[h2,qP]
attribute [local irreducible] WS LS OpQ y6 cn cv Spec bA aK di cq
variable (w0:World)
theorem HQ (g self v) (xs:List da) (hl:xs.length<=100) (i) (hi:i<=xs.length) (x):Spec ucC w0 221 [ptr g 0,.int .i64 (i:Int),MM x] (eA g self v xs) (λ_:Value=> .tuple #[]) (λv'=>eA g self v' (uT xs i x)):=by
 refine eZ Tryz.func221 Tryz.ntmps221 λG=> ?_;unfold eA MM;simp only[aN,ad];refine cV (aq.nil _ 53 7 bJ none) ?_;have h1:(xs.take i).length=i:=by simp;omega
 have h2:(xs.drop i).length=xs.length - i:=by simp
 repeat' (first|intro K hK|refine ax ?_|refine zgV ?_|refine bT λg=> ?_|refine bQ λg=> ?_|(refine ai (dH (rows 53 7 bJ v xs) rfl rfl iI iI iI rfl iI iI nW (by first|omega|(simp[al]<;>omega)) rfl) rfl ?_;intro v2)|(refine ai (au bJ [x] iI iI iI rfl rfl rfl rfl rfl iI rfl rfl rfl) rfl ?_;intro vs)|(refine ai (aR rfl rfl iI iI rfl iI iI nW (by first|omega|(simp[al]<;>omega)) rfl) rfl ?_;intro va))
 --tg
 exact aj (.inr rfl) rfl ⟨v2,rfl,by unfold uT;exact ah⟩
theorem Ih (g self v) (xs:List da) (hl:xs.length<=100) (d q h nb e):Spec ucC w0 188 [ptr g 0,u32 d,u32 q,.int .i64 h,u32 nb,u64 e] (eA g self v xs) (λ_:Value=> .int .i64 (Fm self xs d q h nb e).1) (λv'=>eA g self v' (Fm self xs d q h nb e).2):=by
 refine eZ Tryz.func188 Tryz.ntmps188 λG=> ?_;have p1:=iF w0 g self v xs hl d;have p2:=xZ w0 (qO d q h nb e);have p3:=HQ w0 g self v xs hl (kb d xs) (DP d xs) (qO d q h nb e);unfold xY at p2;rw[qP]at p2;rw[Kw]at p3;have OW:(qO d q h nb e).1.rk=(q.toNat:Int):=rfl;rw[OW]at p2;unfold eA at*
 simp only[aN,ad];unfold Fm;by_cases hs:d=self
 ·rw[jF (.inl hs)];exact pbv
 by_cases h0:d=0
 ·rw[jF (.inr h0)];exact pbv
 ·rw[eQ (λhh=>hh.elim hs h0)];cases hg:fj xs d with
  |none=>
   rw[hg]at p1;simp only[sH]at p1;by_cases h8:8<=xs.length
   ·have TM:(8:Int)<=(xs.length:Int):=by omega
    simp only;rw[jF h8];repeat' (first|intro hc|refine xyZ ?_|refine aF ?_ ?_|refine bT λg=> ?_|refine bQ λg=> ?_|refine cZ p1 λu1=> ?_)
    exact aC (.inl rfl) rfl rfl ⟨v,rfl,ah⟩
   ·have TM:¬(8:Int)<=(xs.length:Int):=by omega
    simp only;rw[eQ h8];repeat' (first|intro hc|refine xyZ ?_|refine aF ?_ ?_|refine bT λg=> ?_|refine bQ λg=> ?_|refine cZ p1 λu1=> ?_|refine cZ p3 λv3=> ?_)
    exact aC (.inl rfl) rfl rfl ⟨v3,rfl,ah⟩
  |some p=>
   rw[hg]at p1;simp only[uz]at p1;obtain⟨hp,hd⟩:=fl hg;have p4:=xZ w0 p;unfold xY bJ bM at p4;generalize hi:kb d xs=i at*
   have IB:i<xs.length:=(az.1 hp).1;simp only;generalize hr:p.1.rk=rk at*
   have zm:=qP d q h nb e;by_cases c1:(q.toNat:Int)<rk
   ·rw[jF (.inl c1)];repeat' (first|intro hc|refine xyZ ?_|refine aF ?_ ?_|refine bT λg=> ?_|refine bQ λg=> ?_|refine cZ p1 λu1=> ?_|refine cZ p2 λu2=> ?_|refine cZ p4 λu4=> ?_)
    exact aC (.inl rfl) rfl rfl ⟨v,rfl,ah⟩
   by_cases c2:(q.toNat:Int)=rk
   ·by_cases c3:p.1.aH<=h
    ·rw[jF (.inr ⟨c2,c3⟩)];repeat' (first|intro hc|refine xyZ ?_|refine aF ?_ ?_|refine bT λg=> ?_|refine bQ λg=> ?_|refine cZ p1 λu1=> ?_|refine cZ p2 λu2=> ?_|refine cZ p4 λu4=> ?_)
     exact aC (.inl rfl) rfl rfl ⟨v,rfl,ah⟩
    ·rw[eQ (λhh=>hh.elim c1 λhh=>c3 hh.2)];repeat' (first|refine ae (id:=10) (.range 8) 7 [3,5,6] ?_|intro hc|refine xyZ ?_|refine aF ?_ ?_|refine bT λg=> ?_|refine bQ λg=> ?_|refine cZ p1 λu1=> ?_|refine cZ p2 λu2=> ?_|refine cZ p4 λu4=> ?_|(refine' dP ?zh rfl rfl ?_;(case zh=>exact gV (qO d q h nb e) rfl rfl zm.symm iI iI iI rfl rfl IB);intro g5)|fail)
     exact aC (.inl rfl) rfl rfl ⟨v,rfl,ah⟩
   ·rw[eQ (λhh=>hh.elim c1 λhh=>c2 hh.1)];repeat' (first|refine ae (id:=10) (.range 8) 7 [3,5,6] ?_|intro hc|refine xyZ ?_|refine aF ?_ ?_|refine bT λg=> ?_|refine bQ λg=> ?_|refine cZ p1 λu1=> ?_|refine cZ p2 λu2=> ?_|refine cZ p4 λu4=> ?_|(refine' dP ?zh rfl rfl ?_;(case zh=>exact gV (qO d q h nb e) rfl rfl zm.symm iI iI iI rfl rfl IB);intro g5)|fail)
    --tg
    exact aC (.inl rfl) rfl rfl ⟨v,rfl,ah⟩
end
section
open Go.RowKit
theorem cn.form {P n w0 o E H F α e size f} {l:List α} (N) (hN:l.length=N) (h:cn P n w0 o E H (λv:Value=>v) (λv=>rows e size f v l*F)):cn P n w0 o E H (λs:Option Addr×Nat=> .slice s.1 N s.2) (λs=>rows e size f (.slice s.1 N s.2) l*F):=cn.whole λG a w K Q hs je hK=>by
 obtain⟨pre,zK,F0,iZ,hH,hp⟩:=h;refine iZ (F0*G) a w K Q hs (je.cast (by rw[hH,ad])) λx w' hw=> ?_;have h2:Sat w0 w' (rows e size f x l*(F*G)):=hw.cast (by
  rw[<-ad,<-ad]
  exact G2 (·*G) (hp x).symm)
 obtain⟨A,c,rfl⟩:=gz h2;subst hN;exact hK (A,c) w' (h2.cast (ad _ _ _).symm)
theorem kF:∀(l k:List da),cQ (l++k)=cQ l*cQ k
 |[],k=>by rw[zF,cQ,aB]
 |x::l,k=>by rw[YW,cQ,cQ,kF l k,ad]
theorem rF {xs:List da} {i p} (h:xs[i]? =some p):cQ xs=cQ (xs.take i)*(rows 26 1 cA (il p.1 p.2) (aQ p.1.before)*cQ (xs.drop (i+1))):=by
 have h1:xs=xs.take i++(p::xs.drop (i+1)):=by
  obtain⟨h2,h3⟩:=az.1 h;conv=>lhs;rw[<-Jt i xs,Sb h2,h3]
 conv=>lhs;rw[h1,kF,cQ]
theorem kG {xs:List da} {i} (h:i<xs.length) (z):cQ (xs.set i z)=cQ (xs.take i)*(rows 26 1 cA (il z.1 z.2) (aQ z.1.before)*cQ (xs.drop (i+1))):=by
 have h1:(xs.set i z)[i]? =some z:=by simp[h]
 rw[rF h1,List.take_set_of_le (uL i),List.drop_set_of_lt (ubH i)]
theorem BK {P n w0} {E:Env} {D H F Q} {l l':List Oper} {id} (t idx cp bs) {g off bt cs} (hs:iT P l idx (yA bs) cp=true) (hl:jK l idx=some l') (hx:E.get t=some (ptr g off)) (hR:v7 H g bt cs F) (h:DL P n w0 l.toArray Q D (aK g bt cs) F (yA bs) cp 0 false l' E emp):WS P n w0 (.region id l.toArray true) Q ⟨E,D,H⟩:=
 iK idx l' (aK g bt cs) F emp (yA bs) cp hs (by rw[hR.eq,b5]) (gO hl) h
theorem MZ {P:Program} {n:fT} {w0:World} {E:Env} {D:List Deferred} {F:af} {Q:Exit->St->Prop} {ops:Array Oper} {R L:af} {B:Nat->Bool} {cp k:Nat} {d:Nat} {op:Op} {ty:TypeId} {pos:String} {after:Array Edge} {ls:List Oper} {v:Value} (he:mD op=false) (hd:Nat.blt d n.tmps=true) (hB:B (k+1000)=true) (iZ:OpQ P n w0 ⟨some d,op,ty,pos,after,none⟩ E (R*F) v) (h:DL P n w0 ops Q D R L B cp (k+1) true ls ((d,v)::E) F):DL P n w0 ops Q D R L B cp k true (⟨some d,op,ty,pos,after,none⟩::ls) E F:=
 .qs he (by simpa [gC,ub6]using hd) hB ⟨true,rfl⟩ iZ h
def uV (p:da) (nb:UInt32) (s:Option Addr×Nat):da:=({p.1 with before:=sI p.1.before nb},s)
def rE (xs:List da) (d nb:UInt32) (s:Option Addr×Nat):List da:=match fj xs d with
 |some p=>if p.1.valid=true/\p.1.before.length<4/\¬nb∈p.1.before then xs.set (kb d xs) (uV p nb s)else xs
 |none=>xs
attribute [local irreducible] WS LS OpQ y6 cn cv Spec bA aK di cq
variable (w0:World)
theorem Ba (g self v) (xs:List da) (hl:xs.length<=100) (TX:∀p∈xs,p.1.before.length<=4) (d nb):Spec ucC w0 191 [ptr g 0,u32 d,u32 nb] (eA g self v xs*cQ xs) (λ_:Option Addr×Nat=> .tuple #[]) (λs=>eA g self v (rE xs d nb s)*cQ (rE xs d nb s)):=by
 refine eZ Tryz.func191 Tryz.ntmps191 λG=> ?_;have p1:=iF w0 g self v xs hl d;unfold eA at*
 simp only[aN,ad];cases hg:fj xs d with
 |none=>
  rw[hg]at p1;simp only[sH]at p1;have hf:∀s,rE xs d nb s=xs:=λs=>by unfold rE;rw[hg]
  simp only[hf];repeat' (first|intro hc|refine xyZ ?_|refine aF ?_ ?_|refine cZ p1 λu1=> ?_)
  exact aj (.inl rfl) rfl ⟨(none,0),rfl,ah⟩
 |some p=>
  rw[hg]at p1;simp only[uz]at p1;obtain⟨hp,hd⟩:=fl hg;have P1:∀s,rE xs d nb s=if p.1.valid=true/\p.1.before.length<4/\¬nb∈p.1.before then xs.set (kb d xs) (uV p nb s)else xs:=λs=>by unfold rE;rw[hg]
  generalize hi:kb d xs=i at*
  have IB:i<xs.length:=(az.1 hp).1;by_cases tN:¬p.1.valid=true
  ·have hv:p.1.valid=false:=by simpa using tN
   have hv2:(!p.1.valid)=true:=by rw[hv];rfl
   have ID:¬(!p.1.valid)=false:=by rw[hv];simp
   have hf:∀s,rE xs d nb s=xs:=λs=>by rw[P1,eQ (λh=>tN h.1)]
   simp only[hf];repeat' (first|intro hc|refine xyZ ?_|refine aF ?_ ?_|refine cZ p1 λu1=> ?_)
   exact aj (.inl rfl) rfl ⟨(none,0),rfl,ah⟩
  ·have hv:p.1.valid=true:=uaU.1 tN;have hv2:(!p.1.valid)=false:=by rw[hv];rfl
   have ID:¬(!p.1.valid)=true:=by rw[hv];simp
   have UL:¬p.1.valid=false:=by rw[hv];simp
   have hb:=rF hp;have Lw:=cF p.1.before;have yl:=TX p (jq hp);have X9:=lX p.1.before;have xk:nb∈p.1.before↔(aQ p.1.before)[rC nb (aQ p.1.before)]? =some nb:=by
    rw[<-L4 X9];exact((Z6 p.1.before _).mem_iff).symm
   rw[hb];simp only[ad];repeat' (first|intro hc|refine xyZ ?_|refine aF ?_ ?_|refine cZ p1 λu1=> ?_)
   refine aV (λkk τ=>∃(k:Nat),k+kk=(aQ p.1.before).length/\(∀j x,j<k->(aQ p.1.before)[j]? =some x->x<nb)/\τ=⟨[(9,.int .i64 (k:Int)),(8,il p.1 p.2),(6,.int .i64 (i:Int)),(2,u32 nb),(0,ptr g 0)],[],aK g 197 [u32 self,v]*(rows 53 7 bJ v xs*(cQ (xs.take i)*(rows 26 1 cA (il p.1 p.2) (aQ p.1.before)*(cQ (xs.drop (i+1))*G))))⟩) ?_ ?_
   ·exact⟨(aQ p.1.before).length,_,⟨0,by omega,λj x h=>absurd h (by omega),rfl⟩,cG,rfl,ah⟩
   ·rintro kk τ ⟨k,qE,bW,rfl⟩;have stop:(∀x,(aQ p.1.before)[k]? =some x->¬x<nb)->rC nb (aQ p.1.before)=k:=λh=>N9 (by omega) bW h;rcases jP k (aQ p.1.before).length with h|h
    ·have h1:(k:Int)<((aQ p.1.before).length:Int):=by omega
     obtain⟨x,hx⟩:∃x,(aQ p.1.before)[k]? =some x:=⟨_,aX h⟩
     by_cases Hs:x<nb
     ·repeat' (first|intro hc|refine xyZ ?_|refine aF ?_ ?_)
      exact⟨kk - 1,_,by omega,⟨k+1,by omega,λj y hj hy=>by
       rcases jP j k with h2|h2
       ·exact bW j y h2 hy
       ·obtain rfl:j=k:=by omega
        rw[hx]at hy;cases hy;exact Hs,rfl⟩,cG,rfl,ah⟩
     ·have l5:=stop λy hy=>by rw[hx]at hy;cases hy;exact Hs
      by_cases Wp:x=nb
      ·have hm:nb∈p.1.before:=xk.2 (by rw[l5,hx,Wp]);have hf:∀s,rE xs d nb s=xs:=λs=>by rw[P1,eQ (λh=>h.2.2 hm)]
       repeat' (first|intro hc|refine xyZ ?_|refine aF ?_ ?_)
       exact aj (.inl rfl) rfl ⟨(none,0),rfl,by rw[hf,hb];exact ah⟩
      have sY:¬nb∈p.1.before:=λhm=>by
       have h2:=xk.1 hm;rw[l5,hx]at h2;exact Wp (PL h2)
      by_cases h4:4<=p.1.before.length
      ·have TJ:(4:Int)<=((aQ p.1.before).length:Int):=by omega
       have hf:∀s,rE xs d nb s=xs:=λs=>by rw[P1,eQ (λh=>by omega)]
       repeat' (first|intro hc|refine xyZ ?_|refine aF ?_ ?_)
       exact aj (.inl rfl) rfl ⟨(none,0),rfl,by rw[hf,hb];exact ah⟩
      ·have TJ:¬(4:Int)<=((aQ p.1.before).length:Int):=by omega
       have hf:∀s,rE xs d nb s=xs.set i (uV p nb s):=λs=>by rw[P1,jF ⟨hv,by omega,sY⟩]
       have hN:(((aQ p.1.before).take k++[nb])++(aQ p.1.before).drop k)=aQ (sI p.1.before nb):=by rw[Di sY,zS,l5]
       have TO:=G2 List.length hN;have zu:((aQ p.1.before).take k).length=k:=by simp;omega
       have Yf:((aQ p.1.before).drop k).length=(aQ p.1.before).length - k:=by simp
       repeat' (first|intro hc|refine xyZ ?_|refine aF ?_ ?_|((refine' LQ ?zh rfl ?_);case zh=>intro F';exact dv rfl rfl iI iI iI iI (by first|assumption|omega|(simp[al]<;>omega)))|fail)
       refine fJ (aq.nil _ 26 1 cA none) ?_;repeat' (first|(show WS _ _ _ (.region 10 _ true) _ _;refine BK 0 (.range 13) 9 [8,1010,1011] (by decide+kernel) rfl rfl iI ?_)|intro K hK|refine ax ?_|refine zhb ?_|(refine ai (dH (rows 26 1 cA (il p.1 p.2) (aQ p.1.before)) rfl rfl iI iI iI rfl iI iI ko (by first|omega|(simp[al]<;>omega)) rfl) rfl ?_;intro v2)|(refine ai (au cA [nb] iI iI iI rfl rfl rfl rfl rfl iI rfl rfl rfl) rfl ?_;intro vs)|(refine ai (aR rfl rfl iI iI rfl iI iI ko (by first|omega|(simp[al]<;>omega)) rfl) rfl ?_;intro va)|(refine aD (cn.form _ TO (dH (rows 26 1 cA (il p.1 p.2) (aQ p.1.before)) rfl rfl iI iI iI rfl iI iI ko (by first|omega|(simp[al]<;>omega)) rfl)) rfl rfl rfl ?_;intro s3)|(refine' MZ rfl rfl rfl ?zh ?_;(case zh=>first|exact vH rfl rfl iI iI iI iI (by first|assumption|omega|(simp[al]<;>omega))|exact eG rfl iI iI rfl (by first|assumption|omega|(simp[al]<;>omega))))|(refine' dP ?zh rfl rfl ?_;(case zh=>exact dB (z:=p) (uV p nb s3) rfl rfl iI iI iI rfl hp rfl);intro g5)|fail)
       --tg
       exact aj (.inr rfl) rfl ⟨s3,rfl,by
        have hz:rows 26 1 cA (il (uV p nb s3).1 (uV p nb s3).2) (aQ (uV p nb s3).1.before)=rows 26 1 cA (.slice s3.1 (aQ (sI p.1.before nb)).length s3.2) (((aQ p.1.before).take k++[nb])++(aQ p.1.before).drop k):=by rw[hN];rfl
        rw[hf,kG IB,hz];exact ah⟩
    ·have hk:k=(aQ p.1.before).length:=by omega
     have l5:=stop λy hy=>by rw[EJ (by omega)]at hy;cases hy
     have h1:¬(k:Int)<((aQ p.1.before).length:Int):=by omega
     have sY:¬nb∈p.1.before:=λhm=>by
      have h2:=xk.1 hm;rw[l5,EJ (by omega)]at h2;cases h2
     by_cases h4:4<=p.1.before.length
     ·have TJ:(4:Int)<=((aQ p.1.before).length:Int):=by omega
      have hf:∀s,rE xs d nb s=xs:=λs=>by rw[P1,eQ (λh=>by omega)]
      repeat' (first|intro hc|refine xyZ ?_|refine aF ?_ ?_)
      exact aj (.inl rfl) rfl ⟨(none,0),rfl,by rw[hf,hb];exact ah⟩
     ·have TJ:¬(4:Int)<=((aQ p.1.before).length:Int):=by omega
      have hf:∀s,rE xs d nb s=xs.set i (uV p nb s):=λs=>by rw[P1,jF ⟨hv,by omega,sY⟩]
      have hN:(((aQ p.1.before).take k++[nb])++(aQ p.1.before).drop k)=aQ (sI p.1.before nb):=by rw[Di sY,zS,l5]
      have TO:=G2 List.length hN;have zu:((aQ p.1.before).take k).length=k:=by simp;omega
      have Yf:((aQ p.1.before).drop k).length=(aQ p.1.before).length - k:=by simp
      repeat' (first|intro hc|refine xyZ ?_|refine aF ?_ ?_|((refine' LQ ?zh rfl ?_);case zh=>intro F';exact dv rfl rfl iI iI iI iI (by first|assumption|omega|(simp[al]<;>omega)))|fail)
      refine fJ (aq.nil _ 26 1 cA none) ?_;repeat' (first|(show WS _ _ _ (.region 10 _ true) _ _;refine BK 0 (.range 13) 9 [8,1010,1011] (by decide+kernel) rfl rfl iI ?_)|intro K hK|refine ax ?_|refine zhb ?_|(refine ai (dH (rows 26 1 cA (il p.1 p.2) (aQ p.1.before)) rfl rfl iI iI iI rfl iI iI ko (by first|omega|(simp[al]<;>omega)) rfl) rfl ?_;intro v2)|(refine ai (au cA [nb] iI iI iI rfl rfl rfl rfl rfl iI rfl rfl rfl) rfl ?_;intro vs)|(refine ai (aR rfl rfl iI iI rfl iI iI ko (by first|omega|(simp[al]<;>omega)) rfl) rfl ?_;intro va)|(refine aD (cn.form _ TO (dH (rows 26 1 cA (il p.1 p.2) (aQ p.1.before)) rfl rfl iI iI iI rfl iI iI ko (by first|omega|(simp[al]<;>omega)) rfl)) rfl rfl rfl ?_;intro s3)|(refine' MZ rfl rfl rfl ?zh ?_;(case zh=>first|exact vH rfl rfl iI iI iI iI (by first|assumption|omega|(simp[al]<;>omega))|exact eG rfl iI iI rfl (by first|assumption|omega|(simp[al]<;>omega))))|(refine' dP ?zh rfl rfl ?_;(case zh=>exact dB (z:=p) (uV p nb s3) rfl rfl iI iI iI rfl hp rfl);intro g5)|fail)
      --tg
      exact aj (.inr rfl) rfl ⟨s3,rfl,by
       have hz:rows 26 1 cA (il (uV p nb s3).1 (uV p nb s3).2) (aQ (uV p nb s3).1.before)=rows 26 1 cA (.slice s3.1 (aQ (sI p.1.before nb)).length s3.2) (((aQ p.1.before).take k++[nb])++(aQ p.1.before).drop k):=by rw[hN];rfl
       rw[hf,kG IB,hz];exact ah⟩
end
section
open Go.RowKit
def IE (r:Rec):da:=(r.ln,(none,0))
def jJ (self:UInt32) (xs:List da) (r:Rec):List da:=if xs.length<8/\r.own=false/\r.addr≠self then xs++[IE r]else xs
def Pt (self:UInt32) (c:List Rec):List da:=c.foldl (jJ self) []
theorem xK {self:UInt32} {xs:List da} (h:8<=xs.length):∀c:List Rec,c.foldl (jJ self) xs=xs
 |[]=>rfl
 |r::c=>by
  have h1:jJ self xs r=xs:=by unfold jJ;rw[eQ (λh2=>by omega)]
  rw[Uq,h1,xK h c]
theorem HG {self} {xs:List da} (h:xs.length<=8) (r):(jJ self xs r).length<=8:=by
 unfold jJ;split
 ·rw[pU,FO];omega
 ·exact h
theorem Hx (r:Rec):bJ (IE r)=[u32 r.addr,u32 (bS r.seq),.int .i64 0,u32 0,.bool false,u64 0,.slice none 0 0]:=by
 exact pa9
attribute [local irreducible] WS LS OpQ y6 cn cv Spec bA aK di cq
variable (w0:World)
theorem Fa (self) (l:List Rec) (hl:l.length<=100000) (v X) [hX:eX w0 X v Rec 3 Rec.cells l]:Spec ucC w0 94 [u32 self,v] X (λr:Nat×Value=>ptr r.1 0) (λr=>eA r.1 self r.2 (Pt self (cC l))*X):=by
 refine eZ Tryz.func94 Tryz.ntmps94 λG=> ?_;have p1:=mI w0 l hl v X;unfold eA;simp only[aN,ad];repeat' (first|intro K hK|refine ax ?_|refine bT λg=> ?_|refine cZ p1 λvc=> ?_)
 have Dy:=zad l;generalize cC l=c at*
 refine cV (aq.nil _ 53 7 bJ none) ?_;refine aV (λkk τ=>∃(i:Nat) (xs:List da) (v':Value),i+kk=c.length/\xs.length<=8/\Pt self c=(c.drop i).foldl (jJ self) xs/\τ=⟨[(7,.int .i64 (i:Int)),(6,vc),(5,ptr g 0),(0,u32 self)],[],aK g 197 [u32 self,v']*(rows 53 7 bJ v' xs*(rows 28 3 Rec.cells vc c*(X*G)))⟩) ?_ ?_
 ·exact⟨c.length,_,⟨0,[],.slice none 0 0,by omega,by simp,rfl,rfl⟩,cG,rfl,ah⟩
 ·rintro kk τ ⟨i,xs,v',qE,Ly,ta,rfl⟩;rcases jP i c.length with h|h
  ·have h1:(i:Int)<(c.length:Int):=by omega
   obtain⟨r,hr⟩:∃r,c[i]? =some r:=⟨_,aX h⟩
   by_cases h8:xs.length<8
   ·have TM:(xs.length:Int)<8:=by omega
    have hd:c.drop i=r::c.drop (i+1):=by
     obtain⟨h2,h3⟩:=az.1 hr;rw[Sb h2,h3]
    rw[hd,Uq]at ta;by_cases Hm:r.own=true
    ·have Ux:(!r.own)=false:=by rw[Hm];rfl
     have X3:¬(!r.own)=true:=by rw[Hm];simp
     have Zf:¬r.own=false:=by rw[Hm];simp
     have hn:jJ self xs r=xs:=by unfold jJ;rw[eQ (λh=>by rw[Hm]at h;cases h.2.1)]
     exact pa6
    ·have ho:r.own=false:=by simpa using Hm
     have Ux:(!r.own)=true:=by rw[ho];rfl
     have X3:¬(!r.own)=false:=by rw[ho];simp
     by_cases hs:r.addr=self
     ·have hn:jJ self xs r=xs:=by unfold jJ;rw[eQ (λh=>h.2.2 hs)]
      exact pa6
     ·have hn:jJ self xs r=xs++[IE r]:=by unfold jJ;rw[jF ⟨h8,ho,hs⟩]
      have P8:=HG (self:=self) Ly r;rw[hn]at ta P8;have p2:=kL w0 r.seq;have zm:[u32 r.addr,u32 (bS r.seq),.int .i64 0,u32 0,.bool false,u64 0,.slice none 0 0]=[IE r].flatMap bJ:=by rw[List.flatMap_singleton,Hx]
      repeat' (first|refine ae (id:=7) (.range 22) 18 [4,7,8,9,12,13,14] ?_|intro hc|refine xyZ ?_|refine aF ?_ ?_|refine bQ λg=> ?_|refine cZ p2 λu2=> ?_|(refine aD (au bJ [IE r] iI iI iI rfl rfl rfl rfl rfl iI zm rfl rfl) rfl rfl rfl ?_;intro vs)|(refine aD (aR rfl rfl iI iI rfl iI iI nW (by first|omega|(simp[al]<;>omega)) rfl) rfl rfl rfl ?_;intro va))
      --tg
      exact⟨kk - 1,_,by omega,⟨i+1,xs++[IE r],va,by omega,P8,ta,rfl⟩,cG,rfl,ah⟩
   ·have TM:¬(xs.length:Int)<8:=by omega
    rw[xK (by omega)]at ta;exact pbg
  ·have h1:¬(i:Int)<(c.length:Int):=by omega
   rw[ubv h,uah]at ta;exact pbg
end
section
def oq (xs:List da):Prop:=xs.Pairwise λa b=>a.1.dest.toNat<b.1.dest.toNat
structure dc (ls:List Ln) (xs:List da):Prop where
 perm:ls.Perm (xs.map (·.1))
 fH:oq xs
theorem H9 {xs:List da} {g} (hg:∀p,(g p).1.dest=p.1.dest) (h:oq xs):oq (xs.map g):=by
 unfold oq at*
 rw[ZY];exact h.imp λ{a b} hab=>by rw[hg,hg];exact hab
theorem xW {xs:List da} (h:oq xs) {i j:Nat} {p q:da} (hi:xs[i]? =some p) (hj:xs[j]? =some q) (hd:p.1.dest=q.1.dest):i=j:=by
 obtain⟨a1,a2⟩:=az.1 hi;obtain⟨b1,b2⟩:=az.1 hj;rcases uam i j with h1|h1|h1
 ·have:=G5.1 h i j a1 b1 h1;rw[a2,b2,hd]at this;omega
 ·exact h1
 ·have:=G5.1 h j i b1 a1 h1;rw[a2,b2,hd]at this;omega
theorem Oa {xs} (h:oq xs) {i p} (hi:xs[i]? =some p):kb p.1.dest xs=i:=by
 obtain⟨a1,a2⟩:=az.1 hi;refine Ak (by omega) (λj q hj hq=> ?_) λq hq=> ?_
 ·obtain⟨b1,b2⟩:=az.1 hq;have:=G5.1 h j i b1 a1 hj;rw[b2,a2]at this;exact GM.2 this
 ·rw[hi]at hq;cases hq;exact λhh=>by have:=GM.1 hh;omega
theorem mV {xs} (h:oq xs) {d p}:fj xs d=some p↔p∈xs/\p.1.dest=d:=by
 constructor
 ·intro hg;obtain⟨h1,h2⟩:=fl hg;exact⟨jq h1,h2⟩
 ·rintro⟨hm,rfl⟩;obtain⟨i,hi⟩:=JC hm;have:=Oa h hi;unfold fj;rw[this,hi];simp
theorem tI {xs} (h:oq xs) {d}:fj xs d=none↔∀p∈xs,p.1.dest≠d:=by
 constructor
 ·intro hg p hp hd;rw[(mV h).2 ⟨hp,hd⟩]at hg;cases hg
 ·intro l9;cases hg:fj xs d with
  |none=>rfl
  |some p=>obtain⟨h1,h2⟩:=(mV h).1 hg;exact absurd h2 (l9 p h1)
theorem BY {ls:List Ln} (h:(aO ls).Nodup) {i j:Nat} {a b:Ln} (hi:ls[i]? =some a) (hj:ls[j]? =some b) (hd:a.dest=b.dest):i=j:=by
 have hp:ls.Pairwise λa b=>a.dest≠b.dest:=ZY.1 h;obtain⟨a1,a2⟩:=az.1 hi;obtain⟨b1,b2⟩:=az.1 hj;rcases uam i j with h1|h1|h1
 ·have:=G5.1 hp i j a1 b1 h1;rw[a2,b2]at this;exact absurd hd this
 ·exact h1
 ·have:=G5.1 hp j i b1 a1 h1;rw[a2,b2]at this;exact absurd hd.symm this
theorem oU {ls} (h:(aO ls).Nodup) {d} {l:Ln}:dG ls d=some l↔l∈ls/\l.dest=d:=by
 constructor
 ·intro hg;unfold dG at hg;cases hf:cN ls d with
  |none=>rw[hf]at hg;cases hg
  |some i=>
   rw[hf]at hg;obtain⟨l',h1,h2⟩:=dw hf;have h3:ls[i]? =some l:=hg;rw[h1]at h3;cases h3;exact⟨jq h1,h2⟩
 ·rintro⟨hm,rfl⟩;cases hf:cN ls l.dest with
  |none=>exact absurd rfl (lN.1 hf l hm)
  |some i=>
   obtain⟨l',h1,h2⟩:=dw hf;rw[eO hf h1];obtain⟨j,hj⟩:=JC hm;have e:i=j:=BY h h1 hj h2;subst e;rw[h1]at hj;exact hj
theorem D5 (ls) (ds:List UInt32):((ds.filterMap (dG ls)).map (·.dest)).Sublist ds:=by
 exact paw
section
variable {ls:List Ln} {xs:List da}
theorem dc.nodup (h:dc ls xs):(aO ls).Nodup:=by
 have h1:(aO (xs.map (·.1))).Nodup:=by
  unfold aO;rw[ub0];refine ZY.2 (h.fH.imp λ{a b} hab he=> ?_);have Mi:a.1.dest=b.1.dest:=he;rw[Mi]at hab;omega
 exact(h.perm.map (λl:Ln=>l.dest)).nodup_iff.2 h1
theorem dc.get (h:dc ls xs) (d):(fj xs d).map (·.1)=dG ls d:=by
 cases hg:fj xs d with
 |some p=>
  obtain⟨h1,h2⟩:=(mV h.fH).1 hg;exact((oU h.nodup).2 ⟨h.perm.mem_iff.2 (YY h1),h2⟩).symm
 |none=>
  have h1:=(tI h.fH).1 hg;cases hl:dG ls d with
  |none=>rfl
  |some l=>
   obtain⟨h2,h3⟩:=(oU h.nodup).1 hl;obtain⟨p,h4,h5⟩:=HC.1 (h.perm.mem_iff.1 h2);exact absurd (by rw[h5];exact h3) (h1 p h4)
theorem dc.Na (h:dc ls xs) {d p} (hg:fj xs d=some p):dG ls d=some p.1:=by rw[<-h.get d,hg];rfl
theorem dc.not (h:dc ls xs) {d} (hg:fj xs d=none):dG ls d=none:=by rw[<-h.get d,hg];rfl
theorem dc.length (h:dc ls xs):xs.length=ls.length:=by have:=h.perm.length_eq;simpa using this.symm
theorem dc.mem (h:dc ls xs) {p} (hp:p∈xs):p.1∈ls:=h.perm.mem_iff.2 (YY hp)
theorem dc.map (h:dc ls xs) {f g} (hf:∀l,(f l).dest=l.dest) (hg:∀p,(g p).1=f p.1):dc (ls.map f) (xs.map g):=by
 refine⟨?_,H9 (λp=>by rw[hg,hf]) h.fH⟩;have h1:=h.perm.map f;rw[ub0]at h1 ⊢;have e:(f ∘ λx:da=>x.1)=((λx:da=>x.1)∘ g):=by funext p;simp[hg]
 rw[<-e];exact h1
theorem xz (hn:(aO ls).Nodup) (d f):lP ls d f=ls.map λl=>if l.dest=d then f l else l:=by
 cases hf:cN ls d with
 |none=>
  rw[ng hf];have:=lN.1 hf;conv=>lhs;rw[<-List.map_id ls]
  refine Z8 λl hl=> ?_;rw[eQ (this l hl)];rfl
 |some i=>
  obtain⟨l,h1,h2⟩:=dw hf;rw[fm hf h1];apply zD;intro j;rw[Dg,zA];have hi:=(az.1 h1).1;split
  ·rename_i e;subst e;rw[h1];simp[h2]
  ·rename_i e;cases hj:ls[j]? with
   |none=>rfl
   |some y=>
    have hy:¬y.dest=d:=λhy=>e (BY hn h1 hj (h2.trans hy.symm));simp[hy]
theorem Gp (hr:oq xs) {i p} (hi:xs[i]? =some p) (z):xs.set i z=xs.map λq=>if q.1.dest=p.1.dest then z else q:=by
 apply zD;intro j;rw[Dg,zA];have h1:=(az.1 hi).1;split
 ·rename_i e;subst e;rw[hi];simp[h1]
 ·rename_i e;cases hj:xs[j]? with
  |none=>rfl
  |some y=>
   have hy:¬y.1.dest=p.1.dest:=λhy=>e (xW hr hi hj hy.symm);simp[hy]
theorem dc.mod (h:dc ls xs) {d f} (hf:∀l,(f l).dest=l.dest) {p z} (hg:fj xs d=some p) (hz:z.1=f p.1):dc (lP ls d f) (xs.set (kb d xs) z):=by
 obtain⟨h1,h2⟩:=fl hg;rw[xz h.nodup,Gp h.fH h1];subst h2;have e:(xs.map λq=>if q.1.dest=p.1.dest then z else q)=xs.map λq=>if q.1.dest=p.1.dest then(f q.1,z.2)else q:=by
  refine Z8 λq hq=> ?_;split
  ·rename_i e;obtain⟨j,hj⟩:=JC hq;have:=xW h.fH h1 hj e.symm;rw[<-this,h1]at hj;cases hj;rw[<-hz]
  ·rfl
 rw[e];exact h.map (f:=λl=>if l.dest=p.1.dest then f l else l) (g:=λq=>if q.1.dest=p.1.dest then(f q.1,z.2)else q) (λl=>by split;exact hf l;rfl) λq=>by split<;>rfl
theorem dc.same (h:dc ls xs) {d f} (hk:∀p,fj xs d=some p->f p.1=p.1):dc (lP ls d f) xs:=by
 have e:lP ls d f=ls:=by
  rw[xz h.nodup];conv=>rhs;rw[<-List.map_id ls]
  refine Z8 λl hl=> ?_;split
  ·rename_i e;obtain⟨p,hp,rfl⟩:=HC.1 (h.perm.mem_iff.1 hl);exact hk p ((mV h.fH).2 ⟨hp,e⟩)
  ·rfl
 rw[e];exact h
theorem dc.exp (h:dc ls xs) (now):dc (mE now ls) (l8 now xs):=
 h.map (λl=>by unfold Ln.exp;split<;>rfl) λp=>by unfold yw Ln.exp;split<;>rfl
theorem dc.brk (h:dc ls xs) (nb):dc (nH nb ls) (mR nb xs):=
 h.map (λl=>by unfold Ln.brk;split<;>rfl) λp=>by unfold yu Ln.brk;split<;>rfl
theorem dc.look (h:dc ls xs) (d now):(rQ xs d now).map (·.1)=bR ls d now:=by
 unfold rQ bR;cases hg:fj xs d with
 |none=>rw[h.not hg];rfl
 |some p=>
  rw[h.Na hg];dsimp only;split<;>rfl
theorem dc.use (h:dc ls xs) (d e):dc (iY ls d e) (Lb xs d e):=by
 unfold iY Lb;have Hk:∀a:UInt64,¬a<e->max a e=a:=λa ha=>by
  apply ubj.1;show(if a<=e then e else a).toNat=_;have VR:¬a.toNat<e.toNat:=ha;split
  ·rename_i h1;have xc:a.toNat<=e.toNat:=h1;omega
  ·rfl
 have Rf:∀a:UInt64,a<e->max a e=e:=λa ha=>by
  show(if a<=e then e else a)=_;rw[jF (UInt64.le_of_lt ha)]
 cases hg:fj xs d with
 |none=>exact h.same λp hp=>by rw[hg]at hp;cases hp
 |some p=>
  dsimp only;by_cases c:p.1.valid=true/\p.1.cB<e
  ·rw[jF c];refine h.mod (λl=>by split<;>rfl) hg ?_;rw[jF c.1,Rf _ c.2]
  ·rw[eQ c];refine h.same λq hq=> ?_;rw[hg]at hq;cases hq;split
   ·rename_i hv;rw[Hk _ λh2=>c ⟨hv,h2⟩]
   ·rfl
theorem dc.FK (h:dc ls xs) (d nb s):dc (gF ls d nb) (rE xs d nb s):=by
 unfold gF rE;cases hg:fj xs d with
 |none=>exact h.same λp hp=>by rw[hg]at hp;cases hp
 |some p=>
  dsimp only;by_cases c:p.1.valid=true/\p.1.before.length<4/\¬nb∈p.1.before
  ·rw[jF c];refine h.mod (λl=>by split<;>rfl) hg ?_;rw[jF ⟨c.1,c.2.1⟩];rfl
  ·rw[eQ c];refine h.same λq hq=> ?_;rw[hg]at hq;cases hq;split
   ·rename_i hv;rw[KX (Decidable.byContradiction λhm=>c ⟨hv.1,hv.2,hm⟩)]
   ·rfl
theorem dc.fR (h:dc ls xs) (src d):xD xs src d=fR ls src d:=by
 unfold xD Go.Proofs.YtapoehkdnglahabGreat.fR;cases hg:fj xs d with
 |none=>rw[h.not hg]
 |some p=>rw[h.Na hg]
theorem dc.gI (h:dc ls xs) (src d s):dc (iS ls src d s) (CC xs src d s):=by
 unfold iS CC;cases hg:fj xs d with
 |none=>exact h.same λp hp=>by rw[hg]at hp;cases hp
 |some p=>
  dsimp only;by_cases c:p.1.valid=true/\p.1.next=src
  ·rw[jF c];refine h.mod (λl=>by split<;>rfl) hg ?_;rw[jF c];rfl
  ·rw[eQ c];refine h.same λq hq=> ?_;rw[hg]at hq;cases hq;rw[eQ c]
theorem GQ (xs i x):(uT xs i x).Perm (xs++[x]):=by
 unfold uT;have h1:(xs.take i++[x]++xs.drop i).Perm (xs.take i++(xs.drop i++[x])):=by
  rw[EK];exact ubB _ List.perm_append_comm
 rw[<-EK,Jt]at h1;exact h1
theorem GR (h:oq xs) {x} (hn:fj xs x.1.dest=none):oq (uT xs (kb x.1.dest xs) x):=by
 have zt:=(tI h).1 hn;unfold uT oq;rw[EK,Z0];have l9:∀b∈xs.drop (kb x.1.dest xs),x.1.dest.toNat<b.1.dest.toNat:=by
  intro b hb;obtain⟨j,hj⟩:=JC hb;rw[Lf]at hj;have bW:=(az.1 hj).1;obtain⟨p,hp⟩:∃p,xs[kb x.1.dest xs]? =some p:=⟨_,aX (by omega)⟩
  have h1:=wJ x.1.dest xs p hp;rw[GM]at h1;have h2:=zt p (jq hp);have Lj:p.1.dest.toNat≠x.1.dest.toNat:=λe=>h2 (HL.1 e);rcases uap j with h0|h0
  ·subst h0;rw[uay,hp]at hj;cases hj;omega
  ·obtain⟨a1,a2⟩:=az.1 hp;obtain⟨b1,b2⟩:=az.1 hj;have:=G5.1 h _ _ a1 b1 (by omega);rw[a2,b2]at this;omega
 refine⟨h.sublist (List.take_sublist _ _),?_,?_⟩
 ·rw[YW,zF,Y5];exact⟨l9,h.sublist (List.drop_sublist _ _)⟩
 ·intro a ha b hb;obtain⟨j,hj⟩:=JC ha;have bW:=(az.1 hj).1;rw[Aw]at bW;rw[G3,jF (by omega)]at hj;have h1:=DQ x.1.dest xs j a (by omega) hj;rw[GM]at h1;rcases JA.1 hb with rfl|hb
  ·exact h1
  ·have:=l9 b hb;omega
theorem dc.C3 (h:dc ls xs) {x} (hn:fj xs x.1.dest=none):dc (j8 ls x.1) (uT xs (kb x.1.dest xs) x):=by
 have h1:=h.not hn;have h2:cN ls x.1.dest=none:=lN.2 λl hl hd=>by
  rw[(oU h.nodup).2 ⟨hl,hd⟩]at h1;cases h1
 refine⟨?_,GR h.fH hn⟩;unfold j8;rw[h2];dsimp only;have h3:=(GQ xs (kb x.1.dest xs) x).map (·.1);rw[EZ]at h3;exact(h.perm.append_right [x.1]).trans h3.symm
theorem HO {x:Ln} (hs:dG ls x.dest≠none):j8 ls x=lP ls x.dest λ_=>x:=by
 unfold j8;cases hf:cN ls x.dest with
 |none=>exact absurd (jI hf) hs
 |some i=>
  obtain⟨l,h1,h2⟩:=dw hf;rw[fm hf h1]
theorem dc.KL (h:dc ls xs) {x p} (hg:fj xs x.1.dest=some p):dc (j8 ls x.1) (xs.set (kb x.1.dest xs) x):=by
 rw[HO (by rw[h.Na hg];simp)];obtain⟨h1,h2⟩:=fl hg;rw[xz h.nodup,Gp h.fH h1];have e:(ls.map λl=>if l.dest=x.1.dest then x.1 else l)=ls.map λl=>if l.dest=p.1.dest then x.1 else l:=by rw[h2]
 rw[e];exact h.map (f:=λl=>if l.dest=p.1.dest then x.1 else l) (g:=λq=>if q.1.dest=p.1.dest then x else q) (λl=>by split;(rename_i k;rw[k,h2]);rfl) λq=>by split<;>rfl
theorem dc.La (h:dc ls xs) (self d q hp nb e):(Fm self xs d q hp nb e).1=(dI self ls (Ln.bj d q hp nb e)).1/\dc (dI self ls (Ln.bj d q hp nb e)).2 (Fm self xs d q hp nb e).2:=by
 have hu:dI self ls (Ln.bj d q hp nb e)=if d=self\/d=0 then((2:Int),ls)else match dG ls d with
  |some l=>if(q.toNat:Int)<l.rk\/(q.toNat:Int)=l.rk/\ -hp<= -l.aH then(3,ls)else(0,j8 ls (qO d q hp nb e).1)
  |none=>if 8<=ls.length then(4,ls)else(0,j8 ls (qO d q hp nb e).1):=rfl
 rw[hu];unfold Fm;by_cases c:d=self\/d=0
 ·rw[jF c,jF c];exact⟨rfl,h⟩
 ·rw[eQ c,eQ c];cases hg:fj xs d with
  |none=>
   rw[h.not hg];dsimp only;rw[h.length];split
   ·exact⟨rfl,h⟩
   ·exact⟨rfl,h.C3 (x:=qO d q hp nb e) hg⟩
  |some p=>
   rw[h.Na hg];dsimp only;have he:(-hp<= -p.1.aH)↔p.1.aH<=hp:=by omega
   by_cases c2:(q.toNat:Int)<p.1.rk\/(q.toNat:Int)=p.1.rk/\p.1.aH<=hp
   ·rw[jF c2,jF (c2.imp id λk=>⟨k.1,he.2 k.2⟩)];exact⟨rfl,h⟩
   ·rw[eQ c2,eQ (λk=>c2 (k.imp id λk=>⟨k.1,he.1 k.2⟩))];exact⟨rfl,h.KL (x:=qO d q hp nb e) hg⟩
theorem dc.list (h:dc ls xs) (ok:aW ls):xs.map (·.1)=cE ls:=by
 have h1:(cE ls).Perm (xs.map (·.1)):=by
  refine(List.perm_ext_iff_of_nodup ?_ ?_).2 λl=> ?_
  ·exact(ZY.1 (sf ok)).imp λhab he=>hab (by rw[he])
  ·exact h.perm.nodup_iff.1 ((ZY.1 h.nodup).imp λhab he=>hab (by rw[he]))
  ·rw[tR ok,h.perm.mem_iff]
 have h2:(xs.map (·.1)).Pairwise λa b=>a.dest.toNat<=b.dest.toNat:=ZY.2 (h.fH.imp λhab=>Nat.le_of_lt hab);have h3:(cE ls).Pairwise λa b=>a.dest.toNat<=b.dest.toNat:=by
  have ow:((cE ls).map (·.dest)).Sublist (aQ (aO ls)):=by
   unfold cE;exact D5 ls _
  have h4:((cE ls).map (·.dest)).Pairwise λa b=>a.toNat<=b.toNat:=List.Pairwise.sublist ow (lX (aO ls));exact(ZY (f:=λl:Ln=>l.dest) (R:=λa b:UInt32=>a.toNat<=b.toNat)).1 h4
 refine(ub7 (λa b ha hb k1 k2=> ?_) h2 h3 h1.symm);have hd:a.dest=b.dest:=HL.1 (Nat.le_antisymm k1 k2);have VR:=h.perm.mem_iff.2 ha;have Xr:=(tR ok).1 hb;have e1:=(oU h.nodup).2 ⟨VR,rfl⟩;have e2:=(oU h.nodup).2 ⟨Xr,rfl⟩;rw[hd,e2]at e1;exact(PL e1).symm
theorem dc.outs (h:dc ls xs) (ok:aW ls) (nb:UInt32):mH nb xs=jh nb (aQ (aO ls)) ls:=by
 have e:jh nb (aQ (aO ls)) ls=(cE ls).filterMap λl=>if l.valid=true/\l.next=nb/\0<l.before.length then some (l.dest,(l.ended 0).seq)else none:=by
  unfold jh cE;rw[List.filterMap_filterMap];congr 1;funext d;cases dG ls d<;>rfl
 rw[e,<-h.list ok,List.filterMap_map];unfold mH;congr 1;funext p;simp only[uby,and_assoc]
end
theorem tU (self:UInt32):∀(c:List Rec) (ls:List Ln) (xs:List da),c.Pairwise (λa b=>a.lt b=true)->dc ls xs->(∀p∈xs,∀r∈c,r.own=false->p.1.dest.toNat<r.addr.toNat)->dc (c.foldl (fe self) ls) (c.foldl (jJ self) xs)
 |[],_,_,_,h,_=>h
 |r::c,ls,xs,hc,h,bW=>by
  rw[Uq,Uq];obtain⟨h1,h2⟩:=Y5.1 hc;have hlen:=h.length;by_cases k:r.own=false/\r.addr≠self/\ls.length<8
  ·have e1:fe self ls r=j8 ls r.ln:=by unfold fe;rw[jF k]
   have e2:jJ self xs r=xs++[IE r]:=by unfold jJ;rw[jF ⟨by omega,k.1,k.2.1⟩]
   rw[e1,e2];have zt:fj xs (IE r).1.dest=none:=(tI h.fH).2 λp hp hd=>by
    have:=bW p hp r (by simp) k.1;rw[hd]at this;exact uct _ this
   have l5:kb (IE r).1.dest xs=xs.length:=Ak (uL _) (λj p hj hp=>GM.2 (bW p (jq hp) r (by simp) k.1)) λp hp=>by rw[EJ (uL _)]at hp;cases hp
   have h3:=h.C3 (x:=IE r) zt;rw[l5]at h3;have e3:uT xs xs.length (IE r)=xs++[IE r]:=by unfold uT;simp
   rw[e3]at h3;refine tU self c _ _ h2 h3 λp hp r' Hn Hm=> ?_;rcases Lz.1 hp with hp|hp
   ·exact bW p hp r' (G4 _ Hn) Hm
   ·rw[Z1]at hp;subst hp;have h4:=h1 r' Hn;unfold Rec.lt at h4;rw[k.1,Hm]at h4;simp only[bne_self_eq_false,AT,VC,ual]at h4;exact GM.1 h4
  ·have e1:fe self ls r=ls:=by unfold fe;rw[eQ k]
   have e2:jJ self xs r=xs:=by unfold jJ;rw[eQ λk2=>k ⟨k2.2.1,k2.2.2,by omega⟩]
   rw[e1,e2];exact tU self c _ _ h2 h λp hp r' Hn Hm=>bW p hp r' (G4 _ Hn) Hm
theorem dc.nil:dc [] []:=⟨ua2 _,List.Pairwise.nil⟩
theorem dc.new (self l):dc (iV self (cC l)) (Pt self (cC l)):=
 tU self _ _ _ (jD l).fH dc.nil λp hp=>by cases hp
def wQ (xs:List da) (d:UInt32):List da:=match fj xs d with
 |some p=>xs.set (kb d xs) ({p.1 with seq:=bS p.1.seq},p.2)
 |none=>xs
theorem dc.bump {ls xs} (h:dc ls xs) (d):dc (ia ls d) (wQ xs d):=by
 unfold ia wQ;cases hg:fj xs d with
 |none=>exact h.same λp hp=>by rw[hg]at hp;cases hp
 |some p=>exact h.mod (f:=λl=>{l with seq:=bS l.seq}) (λl=>rfl) hg rfl
end
end Go.Proofs.YtapoehkdnglahabGreat
