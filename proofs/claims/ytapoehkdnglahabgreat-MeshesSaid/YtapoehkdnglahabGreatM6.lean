/- A part. -/
import Derived.Test.YtapoehkdnglahabGreatMxf
import Derived.Test.YtapoehkdnglahabGreatM4
set_option maxHeartbeats 0
set_option maxRecDepth 100000
set_option linter.all false
namespace Go.Proofs.YtapoehkdnglahabGreat
open Go.RowKit
variable (w0:World)
theorem Nd.vN {s t:Nd} {now a b} (h:(s.begin now).Step t a b):t.done.now=now:=by
 rw[t.tD.2.2.2.2.2.2.2.2.2.1,h.now];exact(s.zaa now).1
theorem Nd.C4 {s:Nd} {k} (h:s.Rest k) (t src f):(s.iX t src f).now=t:=Nd.vN (Nd.Step.mb (h.inv.begin t) t src f)
theorem Nd.Jn (s:Nd) (t nb):(s.l7 t nb).now=t:=Nd.vN (Nd.Step.brk (s.begin t) nb)
theorem Nd.Ij (s:Nd) (t d x):(s.iG t d x).now=t:=Nd.vN (Nd.Step.ea (s.begin t) d x)
theorem Nd.Iq {s:Nd} {k} (h:s.Rest k) (hk:k<=8500) {t:UInt64} (ht:t.toNat<=4611686018427387904):(s.iH t).now=t:=by
 obtain⟨i,_,hT⟩:=Nd.sO (h.ready hk ht);exact Nd.vN hT.step
theorem Nd.Ge (self b t):(Nd.new self b t).now=0:=by
 rw[(Nd.xM self b t).now];unfold Nd.bO;split<;>rfl
abbrev RX:=Nat×Nat×Nat
def zak (s:Zr) (gn:Nat):List Value:=[u32 s.addr,jo gn s.node,aZ s.ay,.int .i64 s.Zw,.bool s.ZL]
def zat (gn:Nat) (t:Nat×Nat):Option Nd->af
 |some n=>j9 ⟨t.1,none,t.2⟩ gn n
 |none=>emp
def y9 (x:RX) (gn:Nat) (s:Zr):af:=aK x.1 130 (zak s gn)*zat gn x.2 s.node
def zaJ (x:RX) (s:Zr):af:=hex λgn:Nat=>y9 x gn s
def zam (hs:List RX) (Zs:List Zr):af:=pure' (hs.length=Zs.length)*qY zaJ hs Zs
def zbU (b:Bool):List Value:=[.bool b]
instance:cY zbU 1:=⟨λ_=>rfl⟩
def soC (x:SO):List Value:=[cT x]
instance:cY soC 1:=⟨λ_=>rfl⟩
theorem zfB:∀z,∀c∈soC z,c.oneCell'=true:=by intro z c hc;simp[soC]at hc;subst hc;rfl
def za4 (q:Nat) (f:Nat->Bool) (i:Nat):List Bool:=(List.range q).map λj=>f (i*6+j)
def zbb (q:Nat) (f:Nat->Bool) (v:SO) (i:Nat):af:=rows 4 1 zbU (cT v) (za4 q f i)
def r7 (hv:List SO) (q:Nat) (f:Nat->Bool):af:=pure' (hv.length=q)*qY (zbb q f) hv (List.range q)
structure RH where
 vs:Value
 hs:List RX
 vh:Value
 hv:List SO
def r6 (m:Ms) (k:RH) (va ve:Value):List Value:=[k.vs,k.vh,va,u64 m.now,ve]
def rmP (g:Nat) (m:Ms) (k:RH) (va ve:Value) (el:List ES):af:=
 aK g 124 (r6 m k va ve)*(rows 128 1 Z4 k.vs (k.hs.map (·.1))*(rows 131 1 soC k.vh k.hv*(r7 k.hv m.Zs.length m.Zu*(zam k.hs m.Zs*(rows 114 3 flC va m.Zx*rows 68 7 evC ve el)))))
def rmA (g:Nat) (k:RH) (m:Ms) (el:List ES):af:=hex λx:Value×Value=>pure' (el.map (·.1)=m.mU)*rmP g m k x.1 x.2 el
def rmI (g:Nat) (k:RH) (m:Ms):af:=hex λx:Value×Value=>aK g 124 (r6 m k x.1 x.2)*(rows 128 1 Z4 k.vs (k.hs.map (·.1))*(rows 131 1 soC k.vh k.hv*(r7 k.hv m.Zs.length m.Zu*(zam k.hs m.Zs*rows 114 3 flC x.1 m.Zx))))
section
variable {P:Program} {n:fT} {w0:World} {E:Env} {D:List Deferred} {F:af} {ops:Array Oper} {l':List Oper} {c:Code} {Q:Exit->St->Prop} {g:Nat} {k:RH} {m:Ms} {el:List ES}
theorem zaW (h:∀va ve,el.map (·.1)=m.mU->WS P n w0 c Q ⟨E,D,rmP g m k va ve el*F⟩):WS P n w0 c Q ⟨E,D,rmA g k m el*F⟩:=by
 unfold rmA;refine iU λx=> ?_;rw[ad];exact jR λhe=>h x.1 x.2 he
theorem re {H F} (va ve) (he:el.map (·.1)=m.mU) (e:aq H (rmP g m k va ve el*F)):aq H (rmA g k m el*F):=by
 refine aq.mX (p:=λx:Value×Value=>pure' (el.map (·.1)=m.mU)*rmP g m k x.1 x.2 el) (va,ve) ?_;rw[qQ he,aB];exact e
theorem zbp {hs:List RX} {Zs:List Zr} (h:hs.length=Zs.length):zam hs Zs=qY zaJ hs Zs:=by unfold zam;rw[qQ h,aB]
theorem zay {hs:List RX} {Zs:List Zr} {i x s} (hl:hs.length=Zs.length) (hb:hs[i]? =some x) (eI:Zs[i]? =some s):∃R,zam hs Zs=zaJ x s*R/\∀(y:RX) (f:Zr->Zr),zam (hs.set i y) (Zs.modify i f)=zaJ y (f s)*R:=by
 obtain⟨R,e1,e2,_⟩:=lE zaJ hb eI;refine⟨R,by rw[zbp hl,e1],λy f=> ?_⟩;rw[zbp (by simpa using hl),xG eI f,e2]
theorem zbK {α:Type} {l:List α} {i x} (h:l[i]? =some x):l.set i x=l:=by
 apply zD;intro j;rw[Dg];split
 ·rename_i e;subst e;obtain⟨h1,h2⟩:=az.1 h;simp[h1,h2]
 ·rfl
theorem zcS {hs:List RX} {i x y} (h:hs[i]? =some x) (e:y.1=x.1):(hs.set i y).map (·.1)=hs.map (·.1):=by
 rw[ubo,e];exact zbK (by rw[zA,h];rfl)
theorem zaG {va ve} (h:k.hs.length=m.Zs.length->k.hv.length=m.Zs.length->WS P n w0 c Q ⟨E,D,rmP g m k va ve el*F⟩):WS P n w0 c Q ⟨E,D,rmP g m k va ve el*F⟩:=λa w gd=>by
 have e:rmP g m k va ve el*F=pure' (k.hs.length=m.Zs.length)*(pure' (k.hv.length=m.Zs.length)*(aK g 124 (r6 m k va ve)*(rows 128 1 Z4 k.vs (k.hs.map (·.1))*(rows 131 1 soC k.vh k.hv*(qY (zbb m.Zs.length m.Zu) k.hv (List.range m.Zs.length)*(qY zaJ k.hs m.Zs*(rows 114 3 flC va m.Zx*(rows 68 7 evC ve el*F)))))))):=by
  unfold rmP zam r7;ac_rfl
 obtain⟨h1,fP⟩:=(gd.sat.cast e).pure;obtain⟨h2,_⟩:=fP.pure;exact h h1 h2 a w gd
end
def rmS (g:Nat) (m:Ms) (k:RH) (va ve:Value) (el:List ES) (x:RX) (gn:Nat) (s:Zr) (R:af):af:=
 aK g 124 (r6 m k va ve)*(rows 128 1 Z4 k.vs (k.hs.map (·.1))*(rows 131 1 soC k.vh k.hv*(r7 k.hv m.Zs.length m.Zu*(y9 x gn s*(R*(rows 114 3 flC va m.Zx*rows 68 7 evC ve el))))))
section
variable {P:Program} {n:fT} {w0:World} {E:Env} {D:List Deferred} {F:af} {c:Code} {Q:Exit->St->Prop} {g:Nat} {k:RH} {m:Ms} {el:List ES}
theorem zeR {va ve x s R} (e:zam k.hs m.Zs=zaJ x s*R) (Z):rmP g m k va ve el*Z=hex (λgn:Nat=>y9 x gn s)*(aK g 124 (r6 m k va ve)*(rows 128 1 Z4 k.vs (k.hs.map (·.1))*(rows 131 1 soC k.vh k.hv*(r7 k.hv m.Zs.length m.Zu*(R*(rows 114 3 flC va m.Zx*(rows 68 7 evC ve el*Z))))))):=by
 unfold rmP;rw[e];unfold zaJ;ac_rfl
theorem zes (va ve x gn s R Z):rmS g m k va ve el x gn s R*Z=y9 x gn s*(aK g 124 (r6 m k va ve)*(rows 128 1 Z4 k.vs (k.hs.map (·.1))*(rows 131 1 soC k.vh k.hv*(r7 k.hv m.Zs.length m.Zu*(R*(rows 114 3 flC va m.Zx*(rows 68 7 evC ve el*Z))))))):=by
 unfold rmS;ac_rfl
theorem zaE {va ve x s R} (e:zam k.hs m.Zs=zaJ x s*R) (h:∀gn,WS P n w0 c Q ⟨E,D,rmS g m k va ve el x gn s R*F⟩):WS P n w0 c Q ⟨E,D,rmP g m k va ve el*F⟩:=by
 rw[zeR e];refine iU λgn=> ?_;have:=h gn;rw[zes]at this;exact this
theorem zae {H va ve x s R} (gn) (e:zam k.hs m.Zs=zaJ x s*R) (h:aq H (rmS g m k va ve el x gn s R*F)):aq H (rmP g m k va ve el*F):=by
 rw[zeR e];rw[zes]at h;exact aq.mX (p:=λgn:Nat=>y9 x gn s) gn h
theorem zdu {hv:List SO} {q f i v} (hl:hv.length=q) (hb:hv[i]? =some v):∃R,r7 hv q f=rows 4 1 zbU (cT v) (za4 q f i)*R:=by
 have hi:i<q:=by rw[<-hl];exact(az.1 hb).1
 obtain⟨R,e1,_,_⟩:=lE (zbb q f) hb (x:=i) (by rw[ubV hi]);exact⟨R,by unfold r7;rw[qQ hl,aB,e1];rfl⟩
end
theorem zaX {q f i j} (hj:j<q):(za4 q f i)[j]? =some (f (i*6+j)):=by simp[za4,hj]
theorem zas (q f i):(za4 q f i).length=q:=by simp[za4]
section
theorem zbN {α:Type} (l:List α):l.eraseIdx 0=l.drop 1:=by cases l<;>rfl
theorem zdg (J Rp) (fr cm:List (UInt32×cP)) (dr:List Int):(dS.none ⟨J,Rp,fr,cm,dr⟩)=true↔J=[]/\fr.length=0/\cm.length=0/\dr.length=0:=by
 simp only[dS.none,Ps,ubL,uaZ,and_assoc]
theorem ze3 {J Rp} {fr cm:List (UInt32×cP)} {dr:List Int} (h:¬(J=[]/\fr.length=0/\cm.length=0/\dr.length=0)):Value.bool true=Value.bool (!(dS.none ⟨J,Rp,fr,cm,dr⟩)):=by
 have:=(not_congr (zdg J Rp fr cm dr)).2 h;rw[ubi]at this;rw[this];rfl
theorem ze2 {J Rp} {fr cm:List (UInt32×cP)} {dr:List Int} (h:J=[]/\fr.length=0/\cm.length=0/\dr.length=0):Value.bool false=Value.bool (!(dS.none ⟨J,Rp,fr,cm,dr⟩)):=by
 rw[(zdg J Rp fr cm dr).2 h];rfl
theorem zef (A n c k):(cq 3 (.slice A n c) k).oneCell'=true:=by
 unfold cq;split<;>rfl
attribute [local irreducible] WS LS OpQ y6 cn cv Spec bA aK di cq
theorem zdT (o:dS) (v:SO×SO×SO):Spec ucC w0 99 [.agg #[aZ o.ay,.bool o.replace,.slice v.1.1 o.aJ.length v.1.2.2,.slice v.2.1.1 o.cj.length v.2.1.2.2,.slice v.2.2.1 o.dropped.length v.2.2.2.2]] emp (λ_:Unit=> .bool (!o.none)) (λ_=>emp):=by
 refine eZ Tryz.func99 Tryz.ntmps99 λG=> ?_;simp only[aN];obtain⟨J,Rp,fr,cm,dr⟩:=o;simp only;repeat' (first|(intro hc;try exact aG)|refine yZ ?_|refine aF ?_ ?_|((first|refine dn rfl rfl iI rfl ?_ ?_|refine dm rfl rfl iI rfl ?_ ?_)<;>intro hc))
 all_goals refine aC (.inl rfl) rfl rfl ⟨(),?_,ah⟩
 all_goals first|exact ze2 ⟨by assumption,by omega,by omega,by omega⟩|exact ze3 λh=>by have h1:=h.1;have h2:=h.2;first|contradiction|omega
theorem zbw (g m k va ve) (el:List ES) (i e) (hl:el.length<=900000):Spec ucC w0 105 [ptr g 0,.int .i64 i,.int .i64 e] (aK g 124 (r6 m k va ve)*rows 68 7 evC ve el) (λ_:Value=> .tuple #[]) (λve=>aK g 124 (r6 m k va ve)*rows 68 7 evC ve (el++[k8 i e])):=by
 refine eZ Tryz.func105 Tryz.ntmps105 λG=> ?_;simp only[r6,aN];exact paF
theorem zcH (g) (m:Ms) (k va ve el) (h6:m.Zs.length<=6) (a):Spec ucC w0 100 [ptr g 0,u32 a] (rmP g m k va ve el) (λ_:Unit=> .int .i64 (qc (Zv m.Zs a))) (λ_=>rmP g m k va ve el):=by
 refine eZ Tryz.func100 Tryz.ntmps100 λG=> ?_;simp only[aN];refine zaG λyl S5=> ?_;repeat' (first|intro K hK|refine ax ?_)
 refine aV (λkk τ=>∃(i:Nat),i+kk=m.Zs.length/\Zv m.Zs a=(Zv (m.Zs.drop i) a).map (·+i)/\τ=⟨[(5,.int .i64 (i:Int)),(1,u32 a),(0,ptr g 0)],[],rmP g m k va ve el*G⟩) ?_ ?_
 ·exact⟨m.Zs.length,_,⟨0,by omega,by rw[ua0];simp,rfl⟩,cG,rfl,ah⟩
 rintro kk τ ⟨i,qE,hf,rfl⟩;have Rg:(k.hs.map (·.1)).length=m.Zs.length:=by rw[Hu];exact yl
 rcases jP i m.Zs.length with h|h
 ·have h1:(i:Int)<((k.hs.map (·.1)).length:Int):=by omega
  obtain⟨s,hs⟩:∃s,m.Zs[i]? =some s:=⟨_,aX h⟩
  obtain⟨x,hx⟩:∃x,k.hs[i]? =some x:=⟨_,aX (by omega)⟩
  have hxp:(k.hs.map (·.1))[i]? =some x.1:=by rw[zA,hx];rfl
  have hd:m.Zs.drop i=s::m.Zs.drop (i+1):=by
   obtain⟨h2,h3⟩:=az.1 hs;rw[Sb h2,h3]
  rw[hd]at hf;simp only[Zv]at hf;obtain⟨R,e1,_⟩:=zay yl hx hs;refine zaE e1 λgn=> ?_;unfold rmS y9;simp only[r6,zak];by_cases ha:s.addr=a
  ·rw[jF ha]at hf;repeat' (first|intro hc|refine xyZ ?_|refine aF ?_ ?_)
   refine aC (.inl rfl) rfl rfl ⟨(),by rw[hf];simp[qc],?_⟩;refine zae gn e1 ?_;unfold rmS y9;simp only[r6,zak];exact ah
  ·rw[eQ ha,Option.map_map]at hf;repeat' (first|intro hc|refine xyZ ?_|refine aF ?_ ?_)
   refine⟨kk - 1,_,by omega,⟨i+1,by omega,by rw[hf];congr 1;funext y;simp;omega,rfl⟩,cG,rfl,?_⟩;refine zae gn e1 ?_;unfold rmS y9;simp only[r6,zak];exact ah
 have h1:¬(i:Int)<((k.hs.map (·.1)).length:Int):=by omega
 have hn:Zv m.Zs a=none:=by rw[hf,ubv h];rfl
 unfold rmP;simp only[r6];repeat' (first|intro hc|refine xyZ ?_|refine aF ?_ ?_)
 exact aC (.inl rfl) rfl rfl ⟨(),by rw[hn];rfl,by unfold rmP;simp only[r6];exact ah⟩
theorem zb4 (gm) (m:Ms) (k va ve f) (hl:m.Zx.length<=48):Spec ucC w0 98 [ptr gm 0,.agg (flC f).toArray] (aK gm 124 (r6 m k va ve)*rows 114 3 flC va m.Zx) (λ_:Value=> .tuple #[]) (λva=>aK gm 124 (r6 (m.ZM f) k va ve)*rows 114 3 flC va (m.ZM f).Zx):=by
 refine eZ Tryz.func98 Tryz.ntmps98 λG=> ?_;have za1:(m.ZM f).Zx=if 48<(m.Zx++[f]).length then(m.Zx++[f]).eraseIdx 0 else m.Zx++[f]:=rfl
 obtain⟨src,dst,fb⟩:=f;have yz:(m.Zx++[(⟨src,dst,fb⟩:Fl)]).length=m.Zx.length+1:=by simp
 simp only[aN,r6,flC,ad];repeat' (first|(refine hK _ ?_;clear hK K)|intro K hK|refine ax ?_|refine bT λg=> ?_)
 refine nC hK (λτ=>∃(A:Option Addr) (c:Nat),τ=⟨[(0,ptr gm 0)],[],aK gm 124 [k.vs,k.vh,.slice A (m.Zx++[(⟨src,dst,fb⟩:Fl)]).length c,u64 m.now,ve]*(rows 114 3 flC (.slice A (m.Zx++[(⟨src,dst,fb⟩:Fl)]).length c) (m.Zx++[(⟨src,dst,fb⟩:Fl)])*G)⟩) ?_ ?_
 ·refine rA (aK g 114 [.int .i64 (src:Int),.int .i64 (dst:Int),aZ fb]) _ [6,9,12] rfl ?_;refine ec 0 rfl (λF'=>by exact bC rfl) ?_;refine ec 2 rfl (λF'=>by exact bC rfl) ?_;refine ec 3 rfl (λF'=>by exact db rfl) ?_;refine ec 4 rfl (λF'=>by first|exact bq rfl iI rfl|exact eG rfl iI iI rfl (by first|assumption|omega)) ?_;refine yQ 5 rfl (λF'=>by first|exact ca rfl iI iI rfl|exact kZ rfl iI iI rfl|exact lg rfl iI iI iI (by assumption) rfl|exact ja rfl iI iI iI (by assumption)) ?_;refine ec 7 rfl (λF'=>by first|exact ca rfl iI iI rfl|exact kZ rfl iI iI rfl|exact lg rfl iI iI iI (by assumption) rfl|exact ja rfl iI iI iI (by assumption)) ?_;refine ed [1,8] ⟨?_,?_,trivial⟩
  ·refine wb 1 rfl (fq flC iI iI) λx1=> ?_;refine ed [6,8] ⟨?_,?_,trivial⟩
   ·refine kx ?_;refine oD 6 rfl (dH (rows 114 3 flC va m.Zx) rfl rfl iI iI iI rfl iI iI zaH (by first|omega|(simp;omega)) rfl) λx6=> ?_;refine ed [8] ⟨?_,trivial⟩;refine oD 8 rfl (au flC [⟨src,dst,fb⟩] iI iI iI rfl rfl rfl rfl rfl iI rfl rfl rfl) λx8=> ?_;refine ed [9] ⟨?_,trivial⟩;exact paf
   ·refine wb 8 rfl (au flC [⟨src,dst,fb⟩] iI iI iI rfl rfl rfl rfl rfl iI rfl rfl rfl) λx8=> ?_;exact pbJ
  ·refine wb 8 rfl (au flC [⟨src,dst,fb⟩] iI iI iI rfl rfl rfl rfl rfl iI rfl rfl rfl) λx8=> ?_;refine ed [1] ⟨?_,trivial⟩;refine wb 1 rfl (fq flC iI iI) λx1=> ?_;exact pbJ
 ·clear hK K;rintro τ ⟨A,c,rfl⟩;have jf:=zef A (m.Zx++[(⟨src,dst,fb⟩:Fl)]).length c 1;by_cases hm:48<(m.Zx++[(⟨src,dst,fb⟩:Fl)]).length
  ·rw[jF hm,zbN]at za1;have xj:(48:Int)<((m.Zx++[(⟨src,dst,fb⟩:Fl)]).length:Int):=by omega
   repeat' (first|(refine hK _ ?_;clear hK K)|intro K hK|intro hc|refine xyZ ?_|refine aF ?_ ?_|((refine' LQ ?zh rfl ?_);case zh=>intro F';exact cW rfl rfl iI iI iI iI (by first|assumption|omega|(simp[al]<;>omega)))|refine bQ λg=> ?_)
   refine aj (.inr rfl) rfl ⟨cq 3 (.slice A (m.Zx++[(⟨src,dst,fb⟩:Fl)]).length c) 1,rfl,?_⟩;rw[za1,show(m.ZM ⟨src,dst,fb⟩).now=m.now from rfl];refine aq.trans (aq.NP (e:=114) (size:=3) (f:=flC) (v:= .slice A (m.Zx++[(⟨src,dst,fb⟩:Fl)]).length c) (l:=(m.Zx++[(⟨src,dst,fb⟩:Fl)])) 1 (by omega)) ?_;exact ah
  ·rw[eQ hm]at za1;have xj:¬(48:Int)<((m.Zx++[(⟨src,dst,fb⟩:Fl)]).length:Int):=by omega
   repeat' (first|(refine hK _ ?_;clear hK K)|intro K hK|intro hc|refine xyZ ?_|refine aF ?_ ?_)
   exact aj (.inr rfl) rfl ⟨_,rfl,by rw[za1];exact ah⟩
theorem zcz (g m k va ve) (l:List Fl) (hl:l.length<=100000) (i) (hi:i<l.length):Spec ucC w0 97 [ptr g 0,.int .i64 (i:Int)] (aK g 124 (r6 m k va ve)*rows 114 3 flC va l) (λ_:Value=> .tuple #[]) (λva=>aK g 124 (r6 m k va ve)*rows 114 3 flC va (l.take i++l.drop (i+1))):=by
 refine eZ Tryz.func97 Tryz.ntmps97 λG=> ?_;simp only[aN,r6,ad];have zq:((i:Nat):Int)+1=((i+1:Nat):Int):=by omega
 refine rA (rows 114 3 flC va l) (aK g 124 [k.vs,k.vh,va,u64 m.now,ve]*G) [19] (by ac_rfl) ?_;refine ec 0 rfl (λF'=>by exact bC rfl) ?_;refine ec 2 rfl (λF'=>by exact bC rfl) ?_;refine ec 3 rfl (λF'=>by exact db rfl) ?_;refine ec 4 rfl (λF'=>by first|exact bq rfl iI rfl|exact eG rfl iI iI rfl (by first|assumption|omega)) ?_;refine yQ 5 rfl (λF'=>by first|exact ca rfl iI iI rfl|exact kZ rfl iI iI rfl|exact lg rfl iI iI iI (by assumption) rfl|exact ja rfl iI iI iI (by assumption)) ?_;refine ec 6 rfl (λF'=>by exact bC rfl) ?_;refine ec 7 rfl (λF'=>by first|exact dv rfl rfl iI iI iI iI (by first|assumption|omega)|exact cW rfl rfl iI iI iI iI (by first|assumption|omega)) ?_;refine ec 9 rfl (λF'=>by exact bC rfl) ?_;refine ec 10 rfl (λF'=>by exact db rfl) ?_;refine ec 11 rfl (λF'=>by first|exact bq rfl iI rfl|exact eG rfl iI iI rfl (by first|assumption|omega)) ?_;refine yQ 12 rfl (λF'=>by first|exact ca rfl iI iI rfl|exact kZ rfl iI iI rfl|exact lg rfl iI iI iI (by assumption) rfl|exact ja rfl iI iI iI (by assumption)) ?_;refine ec 13 rfl (λF'=>by exact bC rfl) ?_;refine ec 14 rfl (λF'=>by first|exact wj rfl rfl (by omega)|exact bE rfl rfl iI|exact kP rfl rfl (by first|omega|simp)) ?_;refine ec 15 rfl (λF'=>by first|exact dv rfl rfl iI iI iI iI (by first|assumption|omega)|exact cW rfl rfl iI iI iI iI (by first|assumption|omega)) ?_;refine ed [1] ⟨?_,trivial⟩;refine wb 1 rfl (fq flC iI iI) λx1=> ?_;refine ed [8] ⟨?_,trivial⟩;refine GC 8 rfl (ny rfl rfl iI iI rfl iI iI zaH (by first|omega|(simp;omega)) rfl) λx8=> ?_;refine ed [16] ⟨?_,trivial⟩;refine GC 16 rfl (uq (l.take i++l.drop (i+1)).length (by simp) rfl rfl iI iI rfl iI iI zaH (by first|omega|(simp;omega)) rfl) λTn=> ?_;exact pas
end
section
structure Ups (hs eI:List RX):Prop where
 ptr:eI.map (·.1)=hs.map (·.1)
 le:∀N I,(∀x∈hs,x.2.1<=N/\x.2.2<=I)->∀x∈eI,x.2.1<=N+1/\x.2.2<=I+5
theorem Ups.PA (hs):Ups hs hs:=⟨rfl,λN I h x hx=>⟨Nat.le_succ_of_le (h x hx).1,WA (h x hx).2 (ubK _ _)⟩⟩
theorem Ups.set {hs:List RX} {i x} (h:hs[i]? =some x):Ups hs (hs.set i (x.1,x.2.1+1,x.2.2+5)):=by
 refine⟨zcS h rfl,λN I hN y hy=> ?_⟩;rcases W7 hy with hy|hy
 ·exact(Ups.PA hs).le N I hN y hy
 ·subst hy;have:=hN x (jq h);exact⟨by show x.2.1+1<=N+1;omega,by show x.2.2+5<=I+5;omega⟩
def Ms.zcY (m:Ms):Prop:=∀(i:Nat) s t,m.Zs[i]? =some s->s.node=some t->t.now.toNat<=m.now.toNat
theorem zb5 {hs:List RX} {Zs:List Zr} {i j x x2 s s2} (hl:hs.length=Zs.length) (hb:hs[i]? =some x) (iu:Zs[i]? =some s) (FT:hs[j]? =some x2) (fP:Zs[j]? =some s2) (OE:i≠j):∃R,zam hs Zs=zaJ x s*(zaJ x2 s2*R)/\∀(y:RX) (f:Zr->Zr),zam (hs.set i y) (Zs.modify i f)=zaJ y (f s)*(zaJ x2 s2*R):=by
 obtain⟨R1,e1,e2,e3⟩:=lE zaJ hb iu;have kQ:∀{α:Type} (l:List α),(l.eraseIdx i)[if j<i then j else j - 1]? =l[j]? :=λl=>by
  exact pa4
 obtain⟨R,d1,_,_⟩:=lE zaJ ((kQ hs).trans FT) ((kQ Zs).trans fP);rw[e3]at d1;subst d1;refine⟨R,by rw[zbp hl,e1],λy f=> ?_⟩;rw[zbp (by simpa using hl),xG iu f,e2]
section
variable {P:Program} {n:fT} {w0:World} {E:Env} {H F:af}
theorem zbY {d:Option Tmp} {ty:TypeId} {pos:String} {after:Array Edge} {gu:Option (Nat×Bool)} {x:Operand} {t:TypeId} {b:RX} {s:Zr} (hx:E.ev x=some (ptr b.1 0)) (hl:Own H (zaJ b s) F) (ht:fi P t):OpQ P n w0 ⟨d,.load t x,ty,pos,after,gu⟩ E H (u32 s.addr):=λa w se hs=>by
 have h1:=hs.cast hl.eq;unfold zaJ at h1;obtain⟨y,h2⟩:=h1.ex;unfold y9 zak at h2;rw[ad]at h2;exact ca (cs:=zak s y) hx ⟨rfl⟩ ht rfl a w se h2
end
attribute [local irreducible] WS LS OpQ y6 cn cv Spec bA aK di cq
theorem zce (g) (m:Ms) (k va ve) (a:Int) (kk) (hk:0<=a/\0<m.Zx.length/\kk=a.toNat % m.Zx.length):Spec ucC w0 96 [ptr g 0,.int .i64 a] (aK g 124 (r6 m k va ve)*rows 114 3 flC va m.Zx) (λ_:Unit=> .int .i64 (kk:Int)) (λ_=>aK g 124 (r6 m k va ve)*rows 114 3 flC va m.Zx):=by
 refine eZ Tryz.func96 Tryz.ntmps96 λG=> ?_;simp only[aN,r6];obtain⟨h1,h2,h3⟩:=hk;have h4:a %(m.Zx.length:Int)=(kk:Int):=by
  obtain⟨n,rfl⟩:=Int.eq_ofNat_of_zero_le h1;rw[h3];simp
 have h5:¬(m.Zx.length:Int)=0:=by omega
 have h6:¬a<0:=by omega
 repeat' (first|intro hc|refine xyZ ?_|refine aF ?_ ?_|((refine' LQ ?zh rfl ?_);case zh=>intro F';exact zeS rfl rfl (by omega))|fail)
 exact aC (.inl rfl) rfl rfl ⟨(),by rw[<-h4],ah⟩
theorem zcJ (g) (m:Ms) (k va ve a) (hk:¬(0<=a/\0<m.Zx.length)):Spec ucC w0 96 [ptr g 0,.int .i64 a] (aK g 124 (r6 m k va ve)*rows 114 3 flC va m.Zx) (λ_:Unit=> .int .i64 (-1)) (λ_=>aK g 124 (r6 m k va ve)*rows 114 3 flC va m.Zx):=by
 refine eZ Tryz.func96 Tryz.ntmps96 λG=> ?_;simp only[aN,r6];by_cases h6:a<0
 ·exact pac
 ·have h5:(m.Zx.length:Int)=0:=by omega
  exact pac
end
section
theorem zcB {ν α:Type} {p p':ν->α->af}:∀{bs:List ν} {ss:List α},(∀b,∀s∈ss,p b s=p' b s)->qY p bs ss=qY p' bs ss
 |[],_,_=>by unfold qY;rfl
 |_::_,[],_=>rfl
 |b::bs,s::ss,h=>by
  show p b s*qY p bs ss=p' b s*qY p' bs ss;rw[h b s (WY ..),zcB λb' s' hs=>h b' s' (G4 _ hs)]
def zb7 (f:Nat->Bool) (i j:Nat) (b:Bool):Nat->Bool:=λk=>if k=i*6+j\/k=j*6+i then b else f k
theorem zcN {q f i j} (b) (hq:q<=6) (hi:i<q) (hj:j<q) (OE:i≠j):za4 q (zb7 f i j b) i=(za4 q f i).set j b/\za4 q (zb7 f i j b) j=(za4 q f j).set i b:=by
 constructor
 ·apply zD;intro t;rw[Dg];by_cases ht:t<q
  ·rw[zaX ht,zaX ht];unfold zb7;by_cases e:j=t
   ·subst e;rw[jF (.inl rfl),jF rfl,jF (by rw[zas];exact hj)]
   ·rw[eQ (by omega),eQ e]
  ·rw[EJ (by rw[zas];omega),EJ (by rw[zas];omega),eQ (by omega)]
 ·apply zD;intro t;rw[Dg];by_cases ht:t<q
  ·rw[zaX ht,zaX ht];unfold zb7;by_cases e:i=t
   ·subst e;rw[jF (.inr rfl),jF rfl,jF (by rw[zas];exact hi)]
   ·rw[eQ (by omega),eQ e]
  ·rw[EJ (by rw[zas];omega),EJ (by rw[zas];omega),eQ (by omega)]
theorem zdy {q f i j a} (b) (hq:q<=6) (hi:i<q) (hj:j<q) (hai:a≠i) (TU:a≠j):za4 q (zb7 f i j b) a=za4 q f a:=by
 unfold za4;refine Z8 λt ht=> ?_;have:=List.mem_range.1 ht;unfold zb7;rw[eQ (by omega)]
theorem zdt {hv:List SO} {q} (f) {i j v1 v2} (b) (hl:hv.length=q) (h1:hv[i]? =some v1) (h2:hv[j]? =some v2) (OE:i≠j) (hq:q<=6):∃R,r7 hv q f=rows 4 1 zbU (cT v1) (za4 q f i)*(rows 4 1 zbU (cT v2) (za4 q f j)*R)/\r7 hv q (zb7 f i j b)=rows 4 1 zbU (cT v1) ((za4 q f i).set j b)*(rows 4 1 zbU (cT v2) ((za4 q f j).set i b)*R):=by
 have hi:i<q:=by rw[<-hl];exact(az.1 h1).1
 have hj:j<q:=by rw[<-hl];exact(az.1 h2).1
 have kQ:∀{α:Type} (l:List α),(l.eraseIdx i)[if j<i then j else j - 1]? =l[j]? :=λl=>by
  exact pa4
 have key:∀f:Nat->Bool,r7 hv q f=rows 4 1 zbU (cT v1) (za4 q f i)*(rows 4 1 zbU (cT v2) (za4 q f j)*qY (zbb q f) ((hv.eraseIdx i).eraseIdx (if j<i then j else j - 1)) (((List.range q).eraseIdx i).eraseIdx (if j<i then j else j - 1))):=λf=>by
  obtain⟨R1,e1,_,e3⟩:=lE (zbb q f) h1 (x:=i) (by rw[ubV hi]);obtain⟨R2,d1,_,d3⟩:=lE (zbb q f) ((kQ hv).trans h2) (x:=j) ((kQ (List.range q)).trans (by rw[ubV hj]));unfold r7;rw[qQ hl,aB,e1,<-e3,d1,<-d3];rfl
 refine⟨_,key f,?_⟩;rw[key (zb7 f i j b),(zcN b hq hi hj OE).1,(zcN b hq hi hj OE).2];congr 2;refine zcB λw a ha=> ?_;unfold zbb;obtain⟨t,ht,h⟩:=List.mem_eraseIdx_iff_getElem?.1 ha;rw[uaN]at h;have l5:a≠i/\a≠j:=by
  by_cases c:t<i
  ·rw[jF c]at h;exact pbt
  ·rw[eQ c]at h;exact pbt
 rw[zdy b hq hi hj l5.1 l5.2]
attribute [local irreducible] WS LS OpQ y6 cn cv Spec bA aK di cq
theorem r8 (g m) (k:RH) (va ve i n) (hn:k.hs.length=n):Spec ucC w0 104 [ptr g 0,.int .i64 i] (aK g 124 (r6 m k va ve)*rows 128 1 Z4 k.vs (k.hs.map (·.1))) (λ_:Unit=> .bool (decide (0<=i/\i<(n:Int)))) (λ_=>aK g 124 (r6 m k va ve)*rows 128 1 Z4 k.vs (k.hs.map (·.1))):=by
 refine eZ Tryz.func104 Tryz.ntmps104 λG=> ?_;have Rg:(k.hs.map (·.1)).length=n:=by rw[Hu];exact hn
 generalize k.hs.map (·.1)=bl at*
 subst Rg;by_cases h0:0<=i
 ·have h0':i>=0:=h0;by_cases h1:i<(bl.length:Int)
  ·rw[Dp ⟨h0,h1⟩];simp only[aN,r6];exact pac
  ·rw[EH (λe=>h1 e.2)];simp only[aN,r6];exact pac
 ·have h0':¬i>=0:=h0;rw[EH (λe=>h0 e.1)];simp only[aN,r6];exact pac
end
theorem zzG {a:List RX} {b:List Zr} (h:a.length=b.length):(a.map (·.1)).length=b.length:=by rw[Hu];exact h
theorem zzX {a:List RX} {i:Nat} {x} (h:a[i]? =some x):(a.map (·.1))[i]? =some x.1:=by rw[zA,h];rfl
theorem zzA {p:Prop} (h:true=false):p:=by cases h
theorem zzJ {p q:Prop} (hq:q) (h:q->p:=by exact λx=>aj (.inr rfl) rfl ⟨⟨([],_),Ups.PA _⟩,rfl,x⟩):p:=h hq
end Go.Proofs.YtapoehkdnglahabGreat
