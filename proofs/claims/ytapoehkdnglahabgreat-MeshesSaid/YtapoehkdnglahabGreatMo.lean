/- A part. -/
import Derived.Test.YtapoehkdnglahabGreatMn
set_option maxHeartbeats 16000000
set_option maxRecDepth 100000
set_option linter.all false
namespace Go.Proofs.YtapoehkdnglahabGreat
section
open Go.RowKit
section
variable {κ ν α:Type} [DecidableEq κ]
def kO (key:α->κ) (bs:List ν) (ss:List α):List (κ×ν):=List.zipWith (λb s=>(key s,b)) bs ss
def dK (key:α->κ):List α->κ->Option Nat
 |[],_=>none
 |x::r,d=>if key x=d then some 0 else(dK key r d).map (·+1)
variable {key:α->κ}
theorem fQ:∀{ss:List α} {d:κ} {k:Nat},dK key ss d=some k->∃x,ss[k]? =some x/\key x=d
 |[],_,_,h=>by cases h
 |x::r,d,k,h=>by
  simp only[dK]at h;split at h
  ·rename_i e;cases h;exact⟨x,rfl,e⟩
  ·cases hr:dK key r d with
   |none=>rw[hr]at h;cases h
   |some j=>rw[hr]at h;cases h;obtain⟨y,h1,h2⟩:=fQ hr;exact⟨y,by simpa using h1,h2⟩
theorem qJ:∀{ss:List α} {d:κ},dK key ss d=none↔∀x∈ss,key x≠d
 |[],_=>by simp[dK]
 |x::r,d=>by
  simp only[dK];split
  ·rename_i e;simp[e]
  ·rename_i e;rw[ucg,qJ];simp[e]
theorem xw:∀{ss:List α} {k:Nat} {x:α},(ss.map key).Nodup->ss[k]? =some x->dK key ss (key x)=some k
 |[],_,_,_,h=>by simp at h
 |y::r,0,x,_,h=>by simp at h;subst h;simp[dK]
 |y::r,k+1,x,hn,h=>by
  rw[Hh,uaA]at hn;have hx:r[k]? =some x:=by simpa using h
  have ih:=xw hn.2 hx;simp only[dK];rw[eQ (λe=>hn.1 (by rw[e];exact YY (jq hx))),ih];rfl
theorem jx:∀(bs:List ν) (ss:List α) (d:κ),bs.length=ss.length->dT (kO key bs ss) d=dK key ss d
 |[],[],_,_=>rfl
 |b::bs,s::ss,d,h=>by
  have ih:=jx bs ss d (by simpa using h);show(if key s=d then some 0 else(dT (kO key bs ss) d).map (·+1))=_;rw[ih];rfl
 |[],_::_,_,h=>by simp at h
 |_::_,[],_,h=>by simp at h
theorem Li {bs:List ν} {ss:List α} {k:Nat} {b:ν} {x:α} (hb:bs[k]? =some b) (hx:ss[k]? =some x):(kO key bs ss)[k]? =some (key x,b):=by
 simp[kO,Zp,hb,hx]
theorem iD {bs:List ν} {ss:List α} {d k b} (hl:bs.length=ss.length) (hk:dK key ss d=some k) (hb:bs[k]? =some b):bX (kO key bs ss) d=some b:=by
 obtain⟨x,hx,_⟩:=fQ hk;unfold bX;rw[jx bs ss d hl,hk];simp[Li hb hx]
theorem iC {bs:List ν} {ss:List α} {d} (hl:bs.length=ss.length) (hk:dK key ss d=none):bX (kO key bs ss) d=none:=by
 unfold bX;rw[jx bs ss d hl,hk]
theorem Fs (bs:List ν) (ss:List α) (k):(kO key bs ss).eraseIdx k=kO key (bs.eraseIdx k) (ss.eraseIdx k):=by
 induction bs generalizing ss k with
 |nil=>simp[kO]
 |cons b bs ih=>
  cases ss with
  |nil=>simp[kO]
  |cons s ss=>
   cases k with
   |zero=>rfl
   |succ k=>
    have:=ih ss k;simp only[kO,List.zipWith_cons_cons,uaJ]at this ⊢;rw[this]
theorem tQ {bs:List ν} {ss:List α} {d k} (hl:bs.length=ss.length) (hk:dK key ss d=some k):gq (kO key bs ss) d=kO key (bs.eraseIdx k) (ss.eraseIdx k):=by
 unfold gq;rw[jx bs ss d hl,hk];exact Fs _ _ _
theorem xE {bs:List ν} {ss:List α} {d} (hl:bs.length=ss.length) (hk:dK key ss d=none):gq (kO key bs ss) d=kO key bs ss:=by
 unfold gq;rw[jx bs ss d hl,hk]
theorem lV {bs:List ν} {ss:List α} {d} (b x) (hx:key x=d) (hl:bs.length=ss.length) (hk:dK key ss d=none):bY (kO key bs ss) d b=kO key (bs++[b]) (ss++[x]):=by
 unfold bY;rw[jx bs ss d hl,hk];simp only[kO];rw[List.zipWith_append hl,<-hx];rfl
theorem xI {bs:List ν} {ss:List α} {d k} (b x) (hx:key x=d) (hl:bs.length=ss.length) (hk:dK key ss d=some k):bY (kO key bs ss) d b=kO key (bs.set k b) (ss.set k x):=by
 unfold bY;rw[jx bs ss d hl,hk];obtain⟨y,hy,hd⟩:=fQ hk;have bW:=(az.1 hy).1;apply zD;intro j;simp only[kO,Zp,Dg,List.length_zipWith];by_cases e:k=j
 ·subst e;simp[bW,hl,hx]
 ·simp[e]
theorem sW {bs:List ν} {ss:List α} {k x y} (hx:ss[k]? =some x) (hk:key y=key x):kO key bs (ss.set k y)=kO key bs ss:=by
 apply zD;intro j;simp only[kO,Zp,Dg];by_cases e:k=j
 ·subst e;have bW:=(az.1 hx).1;simp only[YZ,bW,hx];cases bs[k]? <;>simp[hk]
 ·simp[e]
def qY (p:ν->α->af):List ν->List α->af
 |b::bs,s::ss=>p b s*qY p bs ss
 |_,_=>emp
variable {p:ν->α->af}
theorem lE (p:ν->α->af):∀{bs:List ν} {ss:List α} {k:Nat} {b:ν} {x:α},bs[k]? =some b->ss[k]? =some x->
 ∃F,qY p bs ss=p b x*F/\(∀b' x',qY p (bs.set k b') (ss.set k x')=p b' x'*F)/\qY p (bs.eraseIdx k) (ss.eraseIdx k)=F
 |b0::bs,s0::ss,0,b,x,hb,hx=>by
  simp at hb hx;subst hb;subst hx;exact⟨qY p bs ss,rfl,λ_ _=>rfl,rfl⟩
 |b0::bs,s0::ss,k+1,b,x,hb,hx=>by
  obtain⟨F,h1,h2,h3⟩:=lE p (bs:=bs) (ss:=ss) (k:=k) (by simpa using hb) (by simpa using hx);exact⟨p b0 s0*F,by rw[qY,h1,aM],λb' x'=>by rw[uaC,uaC,qY,h2,aM],by rw[uaJ,uaJ,qY,h3]⟩
 |[],_,_,_,_,hb,_=>by simp at hb
 |_::_,[],_,_,_,_,hl=>by simp at hl
theorem um:∀{bs:List ν} {ss:List α} (b:ν) (x:α),bs.length=ss.length->qY p (bs++[b]) (ss++[x])=p b x*qY p bs ss
 |[],[],b,x,_=>rfl
 |b0::bs,s0::ss,b,x,h=>by
  show p b0 s0*qY p (bs++[b]) (ss++[x])=_;rw[um b x (by simpa using h),aM];rfl
 |[],_::_,_,_,h=>by simp at h
 |_::_,[],_,_,h=>by simp at h
end
theorem pa (ss d):eS ss d=dK (·.dest) ss d:=by
 unfold eS;induction ss with
 |nil=>rfl
 |cons x r ih=>rw[ubt];simp only[dK,ual];rw[ih]
theorem CO (ss d):nP ss d=dK (·.name) ss d:=by
 unfold nP;induction ss with
 |nil=>rfl
 |cons x r ih=>rw[ubt];simp only[dK,ual];rw[ih]
theorem Pz (bs ss):nR bs ss=kO (·.dest) bs ss:=rfl
theorem Pb (bs ss):oR bs ss=kO (·.name) bs ss:=rfl
def Tj (g:Nat) (b:Nat) (s:Sr):af:=aK b 247 (oB g b s)
theorem uk (g:Nat):∀(bs:List Nat) (ss:List Sr),Dn g bs ss=qY (Tj g) bs ss
 |[],[]=>rfl
 |[],_::_=>rfl
 |_::_,[]=>rfl
 |b::bs,s::ss=>by unfold Dn qY;rw[uk g bs ss];rfl
def Sq (v:Option Addr×Nat×Nat) (w:UInt32×List cP):af:=rows 9 1 jk (cT v) w.2
theorem j3:∀(vs:List (Option Addr×Nat×Nat)) (ws:List (UInt32×List cP)),n5 vs ws=qY Sq vs ws
 |[],[]=>rfl
 |[],_::_=>rfl
 |_::_,[]=>rfl
 |v::vs,w::ws=>by unfold n5 qY;rw[j3 vs ws];rfl
theorem AQ (ws:List (UInt32×List cP)) (d):bX ws d=((dK (·.1) ws d).bind (ws[·]?)).map (·.2):=by
 have:∀ws:List (UInt32×List cP),dT ws d=dK (·.1) ws d:=λws=>by
  exact pbc
 unfold bX;rw[this];cases hk:dK (·.1) ws d with
 |none=>rfl
 |some k=>
  obtain⟨x,hx,_⟩:=fQ hk;simp[hx]
end
section
open Go.RowKit
theorem pR {g} {bs:List Nat} {ss:List Sr} (h:bs.length=ss.length):nZ g bs ss=Dn g bs ss:=by unfold nZ;rw[qQ h,aB]
theorem eW {r} {vs:List (Option Addr×Nat×Nat)} {ws:List (UInt32×List cP)} (h:vs.length=ws.length):mA r vs ws=mp u32 cT r (jA vs ws)*n5 vs ws:=by unfold mA;rw[qQ h,aB]
theorem mc {P n w0 E D F c Q mu g} {s:Nd} {h:NH} (hw:h.sb.length=s.bu.length->h.wv.length=s.wait.length->WS P n w0 c Q ⟨E,D,aY mu g s h*F⟩):WS P n w0 c Q ⟨E,D,aY mu g s h*F⟩:=λa w gd=>by
 have e:aY mu g s h*F=pure' (h.sb.length=s.bu.length)*(pure' (h.wv.length=s.wait.length)*((aK g 159 (b7 mu s h s.out)*(rows 28 3 Rec.cells h.vr s.aI*(mp u32 u32 h.rh s.held*(dR h.tb s.self s.ls*(cw h s.out*(mp Bt u64 h.rs s.seen*(rows 269 2 sE h.vo s.order*(mp u32 cT h.rw (jA h.wv s.wait)*n5 h.wv s.wait*(mp u32 gw h.rq (nR h.sb s.bu)*(mp i64 gw h.ri (oR h.sb s.bu)*(Dn g h.sb s.bu*(iA h.cb h.cr s.last s.bI*rows 24 1 eL h.vs s.aP))))))))))))*F)):=by
  unfold aY ba eu mA nZ;ac_rfl
 obtain⟨h1,hs⟩:=(gd.sat.cast e).pure;exact hw h1 hs.pure.1 a w gd
structure l6 (s:Nd):Prop where
 aO:(s.bu.map (·.dest)).Nodup
 names:(s.bu.map (·.name)).Nodup
 each:∀x∈s.bu,0<=x.bK/\x.bK<=8/\0<=x.aU/\x.aU<=2/\x.name<=s.names
theorem l6.dest {s:Nd} (h:l6 s) {k} {x:Sr} (hx:s.bu[k]? =some x):dK (·.dest) s.bu x.dest=some k:=xw (key:=λx:Sr=>x.dest) h.aO hx
theorem l6.name {s:Nd} (h:l6 s) {k} {x:Sr} (hx:s.bu[k]? =some x):dK (·.name) s.bu x.name=some k:=xw (key:=λx:Sr=>x.name) h.names hx
theorem wR {now} {l:List UInt64} {j a} (h:l[j]? =some a):dJ now (l.take (j+1))=dJ now (l.take j)+(if now<a+1000 then 1 else 0):=by
 rw[AP,h,Qf];unfold dJ;rw[uac,pU];by_cases hc:now<a+1000
 ·rw[jF hc,uaH,jF (Dp hc)];rfl
 ·rw[eQ hc,uaH,eQ (by simpa using hc)];rfl
theorem rK (now) (l:List UInt64):dJ now l<=l.length:=uaQ _ _
attribute [local irreducible] WS LS OpQ y6 cn cv Spec bA aK
variable (w0:World)
theorem G0 (gn) (s:Nd) (h:NH) (hl:s.aP.length<=1000):Spec ucC w0 226 [ptr gn 0] (aK gn 159 (b7 1 s h s.out)*rows 24 1 eL h.vs s.aP) (λ_:Unit=> .bool (decide (5<=dJ s.now s.aP))) (λ_=>aK gn 159 (b7 1 s h s.out)*rows 24 1 eL h.vs s.aP):=by
 refine eZ Tryz.func226 Tryz.ntmps226 λG=> ?_;obtain⟨vs,Mt⟩:∃v,v=h.vs:=⟨_,rfl⟩
 rw[<-Mt];refine jl vs iI λA cap hv=> ?_;rw[Mt];rw[Mt]at hv;simp only[aN,b7,hv];repeat' (first|intro K hK|refine ax ?_)
 refine aV (λk τ=>∃j:Nat,j+k=s.aP.length/\τ=⟨[(11,.int .i64 (j:Int)),(10,.int .i64 (s.aP.length:Int)),(9,.slice A s.aP.length cap),(3,.int .i64 (dJ s.now (s.aP.take j):Int)),(0,ptr gn 0)],[],aK gn 159 (b7 1 s h s.out)*(rows 24 1 eL (.slice A s.aP.length cap) s.aP*G)⟩) ?_ ?_
 ·exact⟨s.aP.length,_,⟨0,by omega,rfl⟩,cG,rfl,by simp only[b7,hv];exact ah⟩
 ·rintro k τ ⟨j,ym,rfl⟩;simp only[b7,hv];rcases jP j s.aP.length with bW|kQ
  ·obtain⟨z,hz⟩:∃z,s.aP[j]? =some z:=⟨_,aX bW⟩
   have hb:=wR (now:=s.now) hz;have yl:=rK s.now (s.aP.take j);rw[Aw]at yl;generalize dJ s.now (s.aP.take j)=q at*
   by_cases hc:s.now<z+1000
   ·rw[jF hc]at hb;exact paR
   ·rw[eQ hc]at hb;exact paR
  ·obtain rfl:j=s.aP.length:=by omega
   rw[Gz (uL _)];by_cases hc:(5:Int)<=(dJ s.now s.aP:Int)
   ·repeat' (first|intro K hK|intro hc|refine xyZ ?_|refine aF ?_ ?_)
    exact aC (.inl rfl) rfl rfl ⟨(),by rw[Dp (by omega)],ah⟩
   ·repeat' (first|intro K hK|intro hc|refine xyZ ?_|refine aF ?_ ?_)
    exact aC (.inl rfl) rfl rfl ⟨(),by rw[EH (by omega)],ah⟩
theorem AG (gn b) (x:Sr) (h:0<=x.bK/\x.bK<=8/\0<=x.aU/\x.aU<=2):Spec ucC w0 225 [ptr b 0] (aK b 247 (oB gn b x)) (λ_:Unit=> .bool x.iN.isSome) (λ_=>aK b 247 (oB gn b (x.iN.getD x))):=by
 refine eZ Tryz.func225 Tryz.ntmps225 λG=> ?_;simp only[aN,oB];unfold Sr.iN;by_cases h1:x.bK<5
 ·simp only[jF h1,uz,CV];exact paT
 ·simp only[eQ h1];by_cases h2:x.bK<8
  ·simp only[jF h2,uz,CV];exact paT
  ·simp only[eQ h2];by_cases h3:x.aU<2
   ·simp only[jF h3,uz,CV];exact paT
   ·simp only[eQ h3,sH,Ju];exact pac
theorem zT (gn) (s:Nd) (h:NH) (ok:l6 s) {k b x} (hx:s.bu[k]? =some x) (hb:h.sb[k]? =some b):Spec ucC w0 215 [ptr b 0] (bG gn s h) (λ_:Unit=> .tuple #[]) (λ_=>bG gn (s.stop k) {h with sb:=h.sb.eraseIdx k}):=by
 have h1:=ok.dest hx;have h2:=ok.name hx;refine eZ Tryz.func215 Tryz.ntmps215 λG=> ?_;refine mc λtL u7=> ?_;obtain⟨F,e1,_,e3⟩:=lE (Tj gn) hb hx;have UE:(h.sb.eraseIdx k).length=(s.bu.eraseIdx k).length:=by rw[NV,NV,tL]
 have d1:gq (nR h.sb s.bu) x.dest=nR (h.sb.eraseIdx k) (s.bu.eraseIdx k):=tQ (key:=λx:Sr=>x.dest) tL h1;have d2:gq (oR h.sb s.bu) x.name=oR (h.sb.eraseIdx k) (s.bu.eraseIdx k):=tQ (key:=λx:Sr=>x.name) tL h2;simp only[bG,aY,b7,cw,ba,eu,Nd.stop,pR tL,pR UE,uk,e1,e3];simp only[aN,Tj,oB];rw[<-d1,<-d2];repeat' (first|refine ae (id:=0) (.range 12) 11 [3,6,10] ?_|refine ae (id:=1) (.range 12) 11 [3,6,10] ?_|intro K hK|refine ax ?_|((refine' dP ?zh rfl rfl ?_);(case zh=>exact ky rfl rfl iI iI iI iI);intro g)|fail)
 exact aj (.inr rfl) rfl ⟨(),rfl,ah⟩
end
section
open Go.RowKit
theorem xT (gn) (s:Nd) (d t h):ba gn (s.hand d t) h=ba gn s h:=by
 unfold Nd.hand;split<;>rfl
theorem Nd.dX (s:Nd) (d l t):s.bg d (l++[t])=(s.bg d l).hand d t:=by simp[Nd.bg]
theorem yJ (gn) (s:Nd) (d l h):ba gn (s.bg d l) h=ba gn s h:=by
 induction l using eE with
 |nil=>rfl
 |snoc l t ih=>rw[Nd.dX,xT,ih]
theorem Nd.Mf (s:Nd) (d t) (ok:aW s.ls):aW (s.hand d t).ls:=by
 unfold Nd.hand;split
 ·exact ok
 ·exact ok.use _ _
theorem Nd.xf (s:Nd) (d l) (ok:aW s.ls):aW (s.bg d l).ls:=by
 induction l using eE with
 |nil=>exact ok
 |snoc l t ih=>rw[Nd.dX];exact Nd.Mf _ _ _ ih
theorem Nd.Fit.hand {s:Nd} {k} (h:s.Fit (k+1)) (d t):(s.hand d t).Fit k:=by
 unfold Nd.hand;split
 ·exact h.le (by omega)
 ·obtain⟨a,b,c,e,f⟩:=h;constructor<;>simp only[Nd.send,pU,Pr,HM]<;>omega
theorem Nd.Fit.bg {k} (d) (l:List cP):∀{s:Nd},s.Fit (l.length+k)->(s.bg d l).Fit k:=by
 induction l with
 |nil=>intro s h;exact h.le (by simp)
 |cons t l ih=>intro s h;exact ih (Nd.Fit.hand (h.le (by simp only[Pr];omega)) d t)
theorem Nd.jH (s:Nd) (d l):(s.bg d l).bu=s.bu/\(s.bg d l).wait=s.wait/\(s.bg d l).names=s.names/\(s.bg d l).self=s.self/\(s.bg d l).now=s.now:=by
 induction l using eE with
 |nil=>exact⟨rfl,rfl,rfl,rfl,rfl⟩
 |snoc l t ih=>
  rw[Nd.dX];unfold Nd.hand;split<;>exact ih
theorem Ko (ws:List (UInt32×List cP)) (d):gq ws d=match dK (·.1) ws d with|some k=>ws.eraseIdx k|none=>ws:=by
 have:∀ws:List (UInt32×List cP),dT ws d=dK (·.1) ws d:=λws=>by
  exact pbc
 unfold gq;rw[this];cases dK (·.1) ws d<;>rfl
theorem aq.two {H A B C F F' K:af} (h1:Own H A F) (h2:Own F B F') (e:∀Z,aq (A*(B*Z)) (C*Z)) (r:aq (C*F') K):aq H K:=((aq.of_eq (by rw[h1.eq,h2.eq])).trans (e F')).trans r
theorem BM {P n w0 E D F c Q mu g} {s:Nd} {h:NH} (d) (u7:h.wv.length=s.wait.length) (hw:∀A cap R1,tZ cT (.slice none 0 0) (bX (jA h.wv s.wait) d)= .slice A (s.texts d).length cap->(∀Z,aq (ba g s h*Z) (rows 9 1 jk (.slice A (s.texts d).length cap) (s.texts d)*(R1*Z)))->(∀Z,aq (rows 9 1 jk (.slice A (s.texts d).length cap) (s.texts d)*(R1*Z)) (ba g s h*Z))->WS P n w0 c Q ⟨E,D,aY mu g s h*F⟩):WS P n w0 c Q ⟨E,D,aY mu g s h*F⟩:=λa w gd=>by
 cases hk:dK (·.1) s.wait d with
 |none=>
  have UH:s.texts d=[]:=by unfold Nd.texts;rw[AQ,hk];rfl
  have hm:bX (jA h.wv s.wait) d=none:=iC (key:=λx:UInt32×List cP=>x.1) u7 hk;rw[UH,hm]at hw;exact hw none 0 (ba g s h) rfl (λZ=>aq.nil _ _ _ _ _) (λZ=>aq.drop _ _) a w gd
 |some k=>
  obtain⟨x,hx,Lx⟩:=fQ hk;obtain⟨v,hv⟩:∃v,h.wv[k]? =some v:=⟨_,aX (by rw[u7];exact(az.1 hx).1)⟩
  have UH:s.texts d=x.2:=by unfold Nd.texts;rw[AQ,hk];simp[hx]
  have hm:bX (jA h.wv s.wait) d=some v:=iD (key:=λx:UInt32×List cP=>x.1) u7 hk hv;obtain⟨F1,e1,_,_⟩:=lE Sq hv hx;obtain⟨R1,e⟩:∃R1,ba g s h=rows 9 1 jk (cT v) x.2*R1:=⟨mp Bt u64 h.rs s.seen*(rows 269 2 sE h.vo s.order*(mp u32 cT h.rw (jA h.wv s.wait)*(F1*(mp u32 gw h.rq (nR h.sb s.bu)*(mp i64 gw h.ri (oR h.sb s.bu)*(nZ g h.sb s.bu*(iA h.cb h.cr s.last s.bI*rows 24 1 eL h.vs s.aP))))))),by
   unfold ba eu
   rw[eW u7,j3,e1]
   unfold Sq
   ac_rfl⟩
  have hs:=gd.sat;have e3:aY mu g s h*F=rows 9 1 jk (cT v) x.2*(aK g 159 (b7 mu s h s.out)*(rows 28 3 Rec.cells h.vr s.aI*(mp u32 u32 h.rh s.held*(dR h.tb s.self s.ls*(cw h s.out*(R1*F)))))):=by
   unfold aY;rw[e];ac_rfl
  obtain⟨A,cap,hA⟩:=gz (hs.cast e3);rw[UH,hm]at hw;refine hw A cap R1 hA ?_ ?_ a w gd
  ·intro Z;rw[e,hA,ad];exact aq.refl _
  ·intro Z;rw[e,hA,ad];exact aq.refl _
theorem Dv (r) {vs:List (Option Addr×Nat×Nat)} {ws:List (UInt32×List cP)} (hl:vs.length=ws.length) (d):∃Bv,∀Z,aq (mp u32 cT r (gq (jA vs ws) d)*(n5 vs ws*Z)) (mA r Bv (gq ws d)*Z):=by
 cases hk:dK (·.1) ws d with
 |none=>
  have El:gq (jA vs ws) d=jA vs ws:=xE (key:=λx:UInt32×List cP=>x.1) hl hk;have rU:gq ws d=ws:=by rw[Ko,hk]
  refine⟨vs,λZ=> ?_⟩;rw[El,rU,eW hl,ad];exact aq.refl _
 |some k=>
  obtain⟨x,hx,Lx⟩:=fQ hk;obtain⟨v,hv⟩:∃v,vs[k]? =some v:=⟨_,aX (by rw[hl];exact(az.1 hx).1)⟩
  have El:gq (jA vs ws) d=jA (vs.eraseIdx k) (ws.eraseIdx k):=tQ (key:=λx:UInt32×List cP=>x.1) hl hk;have rU:gq ws d=ws.eraseIdx k:=by rw[Ko,hk]
  obtain⟨F1,e1,_,e3⟩:=lE Sq hv hx;refine⟨vs.eraseIdx k,λZ=> ?_⟩;rw[El,rU,eW (by rw[NV,NV,hl]),j3,j3,e1,e3,ad,ad];exact aq.tail _ (aq.drop _ _)
theorem Spec.conv {P:Program} {w0:World} {f:FuncId} {args:List Value} {X X':af} {α:Type} {res:α->Value} {Y Y':α->af} (h:Spec P w0 f args X res Y) (e1:∀Z,aq (X'*Z) (X*Z)) (e2:∀x Z,aq (Y x*Z) (Y' x*Z)):Spec P w0 f args X' res Y':=λG w hs=>(h G w ((e1 G).sat hs)).mono λe w' ⟨x,he,hx⟩=>⟨x,he,(e2 x G).sat hx⟩
def rM (g:Nat) (s:Nd) (h:NH):af:=aK g 159 (b7 1 s h s.out)*(rows 28 3 Rec.cells h.vr s.aI*(mp u32 u32 h.rh s.held*(dR h.tb s.self s.ls*cw h s.out)))
theorem tV (g s h Z):bG g s h*Z=rM g s h*(ba g s h*Z):=by unfold bG aY rM;ac_rfl
attribute [local irreducible] WS LS OpQ y6 cn cv Spec bA aK
variable (w0:World)
theorem w9 (gn:Nat) (s:Nd) (h:NH) (d:UInt32) (ok:aW s.ls) (so:l6 s) (hl:(s.texts d).length<=100) (ht:∀t∈s.texts d,t.length<=100) (hf:s.Fit ((s.texts d).length+1)):Spec ucC w0 177 [ptr gn 0,u32 d] (bG gn s h) (λ_:Unit=> .tuple #[]) (λ_=>eD gn (s.flush d)):=by
 refine eZ Tryz.func177 Tryz.ntmps177 λG=> ?_;refine mc λtL u7=> ?_;refine BM d u7 λA cap R1 hm ho hc=> ?_;obtain⟨tv,Wj⟩:∃tv,tv=s.texts d:=⟨_,rfl⟩
 rw[<-Wj]at hl ht hf hm ho hc;simp only[bG,aY,b7,cw,ba,eu,eW u7];simp only[aN];repeat' (first|intro K hK|refine ax ?_|((refine' LQ ?zh rfl ?_);case zh=>intro F';exact fh rfl rfl iI iI iI iI iI (by assumption))|fail)
 refine cV (H':=rM gn s h*(rows 9 1 jk (.slice A tv.length cap) tv*(R1*G))) (by
  refine aq.trans ?_ (aq.tail _ (ho G))
  simp only[rM,b7,cw,ba,eu,eW u7]
  exact ah) ?_
 refine aV (λk τ=>∃(j:Nat) (vf:Value),j+k=tv.length/\τ=⟨[(14,.int .i64 (j:Int)),(13,.int .i64 (tv.length:Int)),(12,.slice A tv.length cap),(0,ptr gn 0),(1,u32 d)],[],rM gn (s.bg d (tv.take j)) {h with vf:=vf}*(rows 9 1 jk (.slice A tv.length cap) tv*(R1*G))⟩) ?_ ?_
 ·exact⟨tv.length,_,⟨0,h.vf,by omega,rfl⟩,cG,rfl,aq.refl _⟩
 ·rintro k τ ⟨j,vf,ym,rfl⟩;have LA:=Nd.xf s d (tv.take j) ok;have Q4:(s.bg d (tv.take j)).Fit 1:=Nd.Fit.bg (k:=1) d (tv.take j) (hf.le (by rw[Aw];omega));have SB:ba gn (s.bg d (tv.take j)) {h with vf:=vf}=ba gn s h:=yJ gn s d _ _;rcases jP j tv.length with bW|kQ
  ·obtain⟨z,hz⟩:∃z,tv[j]? =some z:=⟨_,aX bW⟩
   have O8:=ht z (jq hz);have gK:s.bg d (tv.take (j+1))=(s.bg d (tv.take j)).hand d z:=by rw[AP,hz,Qf,Nd.dX]
   generalize s.bg d (tv.take j)=sj at*
   have W2:∀WI,ba gn (sj.hand d z) {h with vf:=WI}=ba gn s h:=λWI=>by rw[xT];exact SB
   have p1:=(zl w0 gn sj {h with vf:=vf} d z O8 LA Q4).conv (X':=rM gn sj {h with vf:=vf}*(rows 9 1 jk (.slice A tv.length cap) tv*R1)) (Y':=λvf=>rM gn (sj.hand d z) {h with vf:=vf}*(rows 9 1 jk (.slice A tv.length cap) tv*R1))
    (λZ=>by rw[tV,SB,ad,ad];exact aq.tail _ (hc Z))
    (λx Z=>by
     have e:=tV gn (sj.hand d z) {h with vf:=x} Z
     rw[W2]at e
     refine aq.trans (aq.of_eq e) ?_
     rw[ad,ad];exact aq.tail _ (ho Z))
   generalize sj.hand d z=sk at*
   simp only[rM,b7,cw]at p1 ⊢;have IC:(j:Int)<(tv.length:Int):=by omega
   repeat' (first|intro K hK|intro hc|refine xyZ ?_|refine aF ?_ ?_|refine cZ p1 λYR=> ?_)
   exact⟨k - 1,_,by omega,⟨j+1,YR,by omega,rfl⟩,cG,rfl,by rw[gK];simp only[rM,b7,cw];exact ah⟩
  ·obtain rfl:j=tv.length:=by omega
   rw[Gz (uL _)]at SB LA Q4 ⊢;obtain⟨q1,q2,q3,q4,q5⟩:=Nd.jH s d tv;have es:s.flush d=match eS (s.bg d tv).bu d with|some k=>Nd.stop ((s.bg d tv).cX d) k|none=>(s.bg d tv).cX d:=by unfold Nd.flush;rw[Wj];rfl
   generalize s.bg d tv=s1 at*
   have O0:h.sb.length=s1.bu.length:=by rw[q1];exact tL
   have O7:h.wv.length=s1.wait.length:=by rw[q2];exact u7
   obtain⟨Qo,S6⟩:=Dv h.rw O7 d;refine cV (H':=bG gn s1 {h with vf:=vf}*G) (by rw[tV,SB];exact aq.tail _ (hc G)) ?_;rw[pa]at es;have IC:¬(tv.length:Int)<(tv.length:Int):=by omega
   have Sn:l6 (s1.cX d):=⟨by show(s1.bu.map _).Nodup;rw[q1];exact so.aO,by show(s1.bu.map _).Nodup;rw[q1];exact so.names,by show ∀x∈s1.bu,_/\_/\_/\_/\x.name<=s1.names;rw[q1,q3];exact so.each⟩
   cases hq:dK (·.dest) s1.bu d with
   |none=>
    have hmq:bX (nR h.sb s1.bu) d=none:=iC (key:=λx:Sr=>x.dest) O0 hq;simp only[hq]at es;simp only[bG,aY,b7,cw,ba,eu,eW O7];repeat' (first|intro K hK|intro hc|refine xyZ ?_|refine aF ?_ ?_|((refine' LQ ?zh rfl ?_);case zh=>intro F';exact iw rfl rfl iI iI iI iI iI (by assumption))|refine zw1 ?_|((refine' bL ?zh ?_);(case zh=>exact ky rfl rfl iI iI iI iI);intro g)|fail)
    refine aj (.inr rfl) rfl ⟨(),rfl,?_⟩;rw[es];refine aq.two iI iI S6 ?_;refine aq.nod {h with vf:=vf,wv:=Qo} ?_;simp only[bG,aY,b7,cw,ba,eu,Nd.cX];exact ah
   |some k=>
    obtain⟨x,hx,Lx⟩:=fQ hq;obtain⟨b,hb⟩:∃b,h.sb[k]? =some b:=⟨_,aX (by rw[O0];exact(az.1 hx).1)⟩
    have hmq:bX (nR h.sb s1.bu) d=some b:=iD (key:=λx:Sr=>x.dest) O0 hq hb;simp only[hq]at es;have p1:=zT w0 gn (s1.cX d) {h with vf:=vf,wv:=Qo} Sn hx hb;simp only[bG,aY,b7,cw,ba,eu,eW O7,Nd.cX]at p1 ⊢;repeat' (first|intro K hK|intro hc|refine xyZ ?_|refine aF ?_ ?_|refine zg0 ?_|refine zw1 ?_|((refine' bL ?zh ?_);(case zh=>exact ky rfl rfl iI iI iI iI);intro g)|(refine fJ (aq.two iI iI S6 (aq.refl _)) ?_;refine ai (aa iI rfl p1 iI) rfl ?_;intro x1))
    refine aj (.inr rfl) rfl ⟨(),rfl,?_⟩;rw[es];refine aq.nod {h with vf:=vf,wv:=Qo,sb:=h.sb.eraseIdx k} ?_;simp only[bG,aY,b7,cw,ba,eu,Nd.cX];exact ah
end
section
open Go.RowKit
theorem Nd.Fit.cX {s:Nd} {k} (h:s.Fit k) (d):(s.cX d).Fit k:=⟨h.aJ,h.cj,h.dropped,h.aI,h.ay⟩
theorem Nd.Fit.stop {s:Nd} {k} (h:s.Fit k) (i):(s.stop i).Fit k:=⟨h.aJ,h.cj,h.dropped,h.aI,h.ay⟩
theorem Nd.Fit.flush {s:Nd} {k} (d) (h:s.Fit ((s.texts d).length+k)):(s.flush d).Fit k:=by
 have h1:=Nd.Fit.bg (k:=k) d (s.texts d) h;unfold Nd.flush;simp only;split
 ·exact(h1.cX d).stop _
 ·exact h1.cX d
attribute [local irreducible] WS LS OpQ y6 cn cv Spec bA aK
variable (w0:World)
theorem E6 (gn:Nat) (s:Nd) (h:NH) (src:UInt32) (p:Pk) (hp:p.Read) (v:Value) (ok:aW s.ls) (so:l6 s) (hl:(s.texts p.dest).length<=100) (ht:∀t∈s.texts p.dest,t.length<=100) (hf:s.Fit ((s.texts p.dest).length+1)):Spec ucC w0 119 [ptr gn 0,u32 src,p.val v] (bG gn s h*rows 180 2 bB v p.lost) (λ_:Unit=> .tuple #[]) (λ_=>eD gn (s.rep src p)):=by
 have j7:s.Fit 1:=hf.le (by omega);refine eZ Tryz.func119 Tryz.ntmps119 λG=> ?_;refine jl v iI λA c hv=> ?_;subst hv;obtain⟨Mm,ma,OT,OU,OV⟩:=hp;obtain⟨bK,kind,aH,unknown,id,dest,ak,from_,av,bD,lost,ar⟩:=p;simp only[Pk.val,Pk.cells,aN]at*
 by_cases h1:dest=s.self
 ·have es:s.rep src ⟨bK,kind,aH,unknown,id,dest,ak,from_,av,bD,lost,ar⟩=s.drop 1:=by unfold Nd.rep;rw[jF h1]
  have p1:=kf w0 gn s h 1 j7;exact paZ
 have p4:=uP w0 h.tb s.self s.ls ok (Ln.bj dest ak (min (aH+1) 255) src (s.now+bD.toUInt64)) rfl rfl (by simp only[Ln.bj];omega);have IA:=pT s.self s.ls (Ln.bj dest ak (min (aH+1) 255) src (s.now+bD.toUInt64));have okU:=ok.La s.self (Ln.bj dest ak (min (aH+1) 255) src (s.now+bD.toUInt64)) (by simp only[Ln.bj];omega);obtain⟨u,hu⟩:∃u,u=dI s.self s.ls (Ln.bj dest ak (min (aH+1) 255) src (s.now+bD.toUInt64)):=⟨_,rfl⟩
 have es:s.rep src ⟨bK,kind,aH,unknown,id,dest,ak,from_,av,bD,lost,ar⟩=if u.1=4 then Nd.drop {s with ls:=u.2} 2 else if from_=s.self then(if u.1=3 then Nd.drop (if(bR u.2 dest s.now).isSome then Nd.flush {s with ls:=u.2} dest else {s with ls:=u.2}) 7 else(if(bR u.2 dest s.now).isSome then Nd.flush {s with ls:=u.2} dest else {s with ls:=u.2}))else match bR u.2 from_ s.now with
  |none=>if bK=1 then Nd.drop {s with ls:=u.2} 4 else Nd.drop {s with ls:=u.2} 3
  |some b=>if bK=1 then Nd.drop {s with ls:=u.2} 4 else {Nd.send {s with ls:=u.2} b.next ⟨bK - 1,kind,min (aH+1) 255,unknown,id,dest,ak,from_,av,bD,lost,ar⟩with ls:=iY (gF (gF u.2 dest b.next) from_ src) from_ s.ir}:=by
  unfold Nd.rep
  simp only
  rw[eQ h1,hu]
  rfl
 rw[<-hu]at p4 IA okU;clear hu;obtain⟨e,gj⟩:=u;simp only at p4 IA okU es;simp only[Ln.bj,bM]at p4;have mF:Nd.Fit {s with ls:=gj} 1:=j7.ls gj;by_cases Hg:e=4
 ·subst Hg;rw[jF rfl]at es;have p5:=kf w0 gn {s with ls:=gj} h 2 mF;simp only[bG,aY,b7,cw,ba]at p5 ⊢;repeat' (first|refine zeh ?_|refine zhB ?_|intro hc|refine yZ ?_|refine aF ?_ ?_|refine zw9 ?_|refine zw6 ?_|refine cZ p4 λx4=> ?_|refine cZ p5 λx1=> ?_)
  exact aj (.inl rfl) rfl ⟨(),rfl,by rw[es];exact ah⟩
 rw[eQ Hg]at es;by_cases h2:from_=s.self
 ·rw[jF h2]at es;have p6:=find_spec w0 h.tb s.self gj okU dest s.now;cases hx:bR gj dest s.now with
  |none=>
   simp only[hx,fX,fW,bM]at p6;simp only[hx,sH,AT,VC]at es;by_cases AJ:e=3
   ·subst AJ;rw[jF rfl]at es;have p5:=kf w0 gn {s with ls:=gj} h 7 mF;simp only[bG,aY,b7,cw,ba]at p5 ⊢;repeat' (first|refine zeh ?_|refine zhB ?_|refine zhA ?_|refine zf7 ?_|refine zgW ?_|intro hc|refine yZ ?_|refine aF ?_ ?_|refine zw3 λg=> ?_|refine zw9 ?_|refine zw6 ?_|refine cZ p4 λx4=> ?_|refine cZ p6 λx6=> ?_|refine cZ p5 λx1=> ?_)
    exact aj (.inl rfl) rfl ⟨(),rfl,by rw[es];exact ah⟩
   ·rw[eQ AJ]at es;simp only[bG,aY,b7,cw,ba];repeat' (first|refine zeh ?_|refine zhB ?_|refine zhA ?_|refine zf7 ?_|refine zgW ?_|intro hc|refine yZ ?_|refine aF ?_ ?_|refine zw3 λg=> ?_|refine zw9 ?_|refine zw6 ?_|refine cZ p4 λx4=> ?_|refine cZ p6 λx6=> ?_)
    refine aj (.inl rfl) rfl ⟨(),rfl,?_⟩;rw[es];refine aq.nod h ?_;simp only[bG,aY,b7,cw,ba];exact ah
  |some x=>
   simp only[hx,fX,fW,bM]at p6;simp only[hx,uz,YZ]at es;have Sn:l6 {s with ls:=gj}:=⟨so.aO,so.names,so.each⟩
   have p7:=w9 w0 gn {s with ls:=gj} h dest okU Sn hl ht (hf.ls gj);have Oy:(Nd.flush {s with ls:=gj} dest).Fit 1:=Nd.Fit.flush (s:={s with ls:=gj}) dest (hf.ls gj);generalize Nd.flush {s with ls:=gj} dest=s2 at p7 Oy es;by_cases AJ:e=3
   ·subst AJ;rw[jF rfl]at es;have p5:=λh2=>kf w0 gn s2 h2 7 Oy;simp only[bG,aY,b7,cw,ba]at p5 p7 ⊢;repeat' (first|refine zeh ?_|refine zhB ?_|refine zhA ?_|refine zf7 ?_|refine zgW ?_|intro hc|refine yZ ?_|refine aF ?_ ?_|refine zw3 λg=> ?_|refine zw9 ?_|refine zw6 ?_|refine cZ p4 λx4=> ?_|refine cZ p6 λx6=> ?_|refine cZ p7 λx7=> ?_|refine cZ p5 λx1=> ?_|(refine z8 λh9=> ?_;replace p5:=p5 h9;simp only[bG,aY,b7,cw,ba]))
    exact aj (.inl rfl) rfl ⟨(),rfl,by rw[es];exact ah⟩
   ·rw[eQ AJ]at es;simp only[bG,aY,b7,cw,ba]at p7 ⊢;repeat' (first|refine zeh ?_|refine zhB ?_|refine zhA ?_|refine zf7 ?_|refine zgW ?_|intro hc|refine yZ ?_|refine aF ?_ ?_|refine zw3 λg=> ?_|refine zw9 ?_|refine zw6 ?_|refine cZ p4 λx4=> ?_|refine cZ p6 λx6=> ?_|refine cZ p7 λx7=> ?_)
    exact aj (.inl rfl) rfl ⟨(),rfl,by rw[es];exact ah⟩
 rw[eQ h2]at es;have p6:=find_spec w0 h.tb s.self gj okU from_ s.now;by_cases zu:bK=1
 ·have p5:=kf w0 gn {s with ls:=gj} h 4 mF;simp only[bG,aY,b7,cw,ba]at p5 ⊢;cases hx:bR gj from_ s.now;all_goals
   simp only[hx,fX,fW,bM]at p6
   simp only[hx,jF zu]at es
   repeat' (first|refine zeh ?_|refine zhB ?_|refine zhA ?_|refine aE (id:=13) 0 5 (.range 17) ?_|refine ae (id:=13) (.range 17) 10 [3,5,9] ?_|intro hc|refine yZ ?_|refine aF ?_ ?_|refine zw3 λg=> ?_|refine zw9 ?_|refine zw6 ?_|refine cZ p4 λx4=> ?_|refine cZ p6 λx6=> ?_|refine cZ p5 λx1=> ?_)
   exact aj (.inr rfl) rfl ⟨(),rfl,by rw[es];exact ah⟩
 cases hx:bR gj from_ s.now with
 |none=>
  have p5:=kf w0 gn {s with ls:=gj} h 3 mF;simp only[bG,aY,b7,cw,ba]at p5 ⊢;simp only[hx,fX,fW,bM]at p6;simp only[hx,eQ zu]at es;repeat' (first|refine zeh ?_|refine zhB ?_|refine zhA ?_|refine aE (id:=13) 0 5 (.range 17) ?_|refine ae (id:=13) (.range 17) 10 [3,5,9] ?_|intro hc|refine yZ ?_|refine aF ?_ ?_|refine zw3 λg=> ?_|refine zw9 ?_|refine zw6 ?_|refine cZ p4 λx4=> ?_|refine cZ p6 λx6=> ?_|refine cZ p5 λx1=> ?_)
  exact aj (.inr rfl) rfl ⟨(),rfl,by rw[es];exact ah⟩
 |some b=>
  simp only[hx,fX,fW,bM]at p6;simp only[hx,eQ zu]at es;obtain⟨s2,fP⟩:∃s2:Nd,s2=Nd.send {s with ls:=gj} b.next ⟨bK - 1,kind,min (aH+1) 255,unknown,id,dest,ak,from_,av,bD,lost,ar⟩:=⟨_,rfl⟩
  have p7:=lW w0 gn {s with ls:=gj} h b.next ⟨bK - 1,kind,min (aH+1) 255,unknown,id,dest,ak,from_,av,bD,lost,ar⟩ ⟨by simp only[cM]at*;omega,by simpa only[cM]using ma,by simp only[cM]at*;omega,by simp only;omega,by simp only;omega⟩ (.slice A lost.length c) rfl (rows 180 2 bB (.slice A lost.length c) lost) (hX:=fy _ _ _ _ _) (by have:=mF.aJ;omega);have e1:s2.ls=gj:=by rw[fP];rfl
  have e2:s2.ir=s.ir:=by rw[fP];rfl
  have p8:=mf w0 h.tb s2.self s2.ls dest b.next;have p9:=mf w0 h.tb s2.self (gF s2.ls dest b.next) from_ src;have MD:=λvf=>pQ w0 gn s2 {h with vf:=vf};have Vc:=pe w0 h.tb s2.self (gF (gF s2.ls dest b.next) from_ src) from_ s2.ir;rw[<-fP]at p7 es;rw[<-e1,<-e2]at es;simp only[bG,aY,b7,cw,ba,Pk.val,Pk.cells]at p7 MD ⊢;repeat' (first|refine zeh ?_|refine zhB ?_|refine zhA ?_|refine aE (id:=13) 0 5 (.range 17) ?_|refine ae (id:=13) (.range 17) 10 [3,5,9] ?_|refine ae (id:=17) (.range 9) 8 [3,5,7] ?_|refine ae (id:=18) (.range 8) 7 [3,5] ?_|refine ae (id:=19) (.range 9) 8 [3,5] ?_|intro hc|refine yZ ?_|refine aF ?_ ?_|refine zw3 λg=> ?_|refine zw9 ?_|refine zw6 ?_|refine cZ p4 λx4=> ?_|refine cZ p6 λx6=> ?_|(refine ai (aa iI rfl p7 iI) rfl ?_;intro vf;replace MD:=MD vf)|refine cZ p8 λx8=> ?_|refine cZ p9 λx9=> ?_|(refine oC iI rfl MD iI rfl ?_)|refine cZ Vc λYU=> ?_)
  refine aj (.inr rfl) rfl ⟨(),rfl,?_⟩;rw[es];refine aq.nod {h with vf:=vf} ?_;simp only[bG,aY,b7,cw,ba];exact ah
end
end Go.Proofs.YtapoehkdnglahabGreat
