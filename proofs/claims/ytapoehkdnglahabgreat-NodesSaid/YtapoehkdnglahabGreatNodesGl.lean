/- A part of what Nodes needs. -/
import Derived.Test.YtapoehkdnglahabGreatNodesGk
set_option maxHeartbeats 16000000
set_option maxRecDepth 100000
set_option linter.unusedVariables false
set_option linter.unusedSimpArgs false
set_option linter.unusedSectionVars false
namespace Go.Proofs.YtapoehkdnglahabGreat
section
open Go.RowKit
theorem xT (gn:Nat) (s:Nd) (d:UInt32) (t:cP) (h:NH):ba gn (s.hand d t) h=ba gn s h:=by
 unfold Nd.hand
 split<;>rfl
theorem Nd.dX (s:Nd) (d:UInt32) (l:List cP) (t:cP):s.bg d (l++[t])=(s.bg d l).hand d t:=by simp[Nd.bg]
theorem yJ (gn:Nat) (s:Nd) (d:UInt32) (l:List cP) (h:NH):ba gn (s.bg d l) h=ba gn s h:=by
 induction l using eE with
 |nil=>rfl
 |snoc l t ih=>rw[Nd.dX,xT,ih]
theorem Nd.Mf (s:Nd) (d:UInt32) (t:cP) (ok:aW s.ls):aW (s.hand d t).ls:=by
 unfold Nd.hand
 split
 ·exact ok
 ·exact ok.use _ _
theorem Nd.xf (s:Nd) (d:UInt32) (l:List cP) (ok:aW s.ls):aW (s.bg d l).ls:=by
 induction l using eE with
 |nil=>exact ok
 |snoc l t ih=>rw[Nd.dX];exact Nd.Mf _ _ _ ih
theorem Nd.Fit.hand {s:Nd} {k:Nat} (h:s.Fit (k+1)) (d:UInt32) (t:cP):(s.hand d t).Fit k:=by
 unfold Nd.hand
 split
 ·exact h.le (by omega)
 ·obtain⟨a,b,c,e,f⟩:=h
  constructor<;>simp only[Nd.send,List.length_append,List.length_cons,List.length_nil]<;>omega
theorem Nd.Fit.bg {k:Nat} (d:UInt32) (l:List cP):∀{s:Nd},s.Fit (l.length+k)→(s.bg d l).Fit k:=by
 induction l with
 |nil=>intro s h;exact h.le (by simp)
 |cons t l ih=>intro s h;exact ih (Nd.Fit.hand (h.le (by simp only[List.length_cons];omega)) d t)
theorem Nd.jH (s:Nd) (d:UInt32) (l:List cP):(s.bg d l).bu=s.bu∧(s.bg d l).wait=s.wait∧(s.bg d l).names=s.names∧(s.bg d l).self=s.self∧(s.bg d l).now=s.now:=by
 induction l using eE with
 |nil=>exact⟨rfl,rfl,rfl,rfl,rfl⟩
 |snoc l t ih=>
  rw[Nd.dX]
  unfold Nd.hand
  split<;>exact ih
theorem Ko (ws:List (UInt32×List cP)) (d:UInt32):gq ws d=match dK (·.1) ws d with|some k=>ws.eraseIdx k|none=>ws:=by
 have:∀ws:List (UInt32×List cP),dT ws d=dK (·.1) ws d:=fun ws=>by
  induction ws with
  |nil=>rfl
  |cons x r ih=>simp only[dT,dK];rw[ih]
 unfold gq
 rw[this]
 cases dK (·.1) ws d<;>rfl
theorem aq.two {H A B C F F' K:af} (h1:Own H A F) (h2:Own F B F') (e:∀Z,aq (A*(B*Z)) (C*Z)) (r:aq (C*F') K):aq H K:=((aq.of_eq (by rw[h1.eq,h2.eq])).trans (e F')).trans r
theorem BM {P:Program} {n:fT} {w0:World} {E:Env} {D:List Deferred} {F:af} {c:Code} {Q:Exit→St→Prop} {mu:Int} {g:Nat} {s:Nd} {h:NH} (d:UInt32) (u7:h.wv.length=s.wait.length)
 (hw:∀A cap R1,tZ cT (.slice none 0 0) (bX (jA h.wv s.wait) d)= .slice A (s.texts d).length cap→(∀Z,aq (ba g s h*Z) (rows 9 1 jk (.slice A (s.texts d).length cap) (s.texts d)*(R1*Z)))→(∀Z,aq (rows 9 1 jk (.slice A (s.texts d).length cap) (s.texts d)*(R1*Z)) (ba g s h*Z))→WS P n w0 c Q ⟨E,D,aY mu g s h*F⟩):WS P n w0 c Q ⟨E,D,aY mu g s h*F⟩:=fun a w gd=>by
 cases hk:dK (·.1) s.wait d with
 |none=>
  have UH:s.texts d=[]:=by unfold Nd.texts;rw[AQ,hk];rfl
  have hm:bX (jA h.wv s.wait) d=none:=iC (key:=fun x:UInt32×List cP=>x.1) u7 hk
  rw[UH,hm]at hw
  exact hw none 0 (ba g s h) rfl (fun Z=>aq.nil _ _ _ _ _) (fun Z=>aq.drop _ _) a w gd
 |some k=>
  obtain⟨x,hx,Lx⟩:=fQ hk
  obtain⟨v,hv⟩:∃v,h.wv[k]? =some v:=⟨_,List.getElem?_eq_getElem (by rw[u7];exact(List.getElem?_eq_some_iff.1 hx).1)⟩
  have UH:s.texts d=x.2:=by unfold Nd.texts;rw[AQ,hk];simp[hx]
  have hm:bX (jA h.wv s.wait) d=some v:=iD (key:=fun x:UInt32×List cP=>x.1) u7 hk hv
  obtain⟨F1,e1,_,_⟩:=lE Sq hv hx
  obtain⟨R1,e⟩:∃R1,ba g s h=rows 9 1 jk (cT v) x.2*R1:=⟨mp Bt u64 h.rs s.seen*(rows 269 2 sE h.vo s.order*(mp u32 cT h.rw (jA h.wv s.wait)*(F1*(mp u32 gw h.rq (nR h.sb s.bu)*(mp i64 gw h.ri (oR h.sb s.bu)*(nZ g h.sb s.bu*(iA h.cb h.cr s.last s.bI*rows 24 1 eL h.vs s.aP))))))),by
   unfold ba eu
   rw[eW u7,j3,e1]
   unfold Sq
   ac_rfl⟩
  have hs:=gd.sat
  have e3:aY mu g s h*F=rows 9 1 jk (cT v) x.2*(aK g 159 (bb mu s h s.out)*(rows 28 3 Rec.cells h.vr s.aI*(mp u32 u32 h.rh s.held*(dR h.tb s.self s.ls*(cw h s.out*(R1*F)))))):=by
   unfold aY
   rw[e]
   ac_rfl
  obtain⟨A,cap,hA⟩:=gz (hs.cast e3)
  rw[UH,hm]at hw
  refine hw A cap R1 hA ?_ ?_ a w gd
  ·intro Z;rw[e,hA,ad];exact aq.refl _
  ·intro Z;rw[e,hA,ad];exact aq.refl _
theorem Dv (r:Nat) {vs:List (Option Addr×Nat×Nat)} {ws:List (UInt32×List cP)} (hl:vs.length=ws.length) (d:UInt32):∃Bv,∀Z,aq (mp u32 cT r (gq (jA vs ws) d)*(n5 vs ws*Z)) (mA r Bv (gq ws d)*Z):=by
 cases hk:dK (·.1) ws d with
 |none=>
  have El:gq (jA vs ws) d=jA vs ws:=xE (key:=fun x:UInt32×List cP=>x.1) hl hk
  have rU:gq ws d=ws:=by rw[Ko,hk]
  refine⟨vs,fun Z=> ?_⟩
  rw[El,rU,eW hl,ad]
  exact aq.refl _
 |some k=>
  obtain⟨x,hx,Lx⟩:=fQ hk
  obtain⟨v,hv⟩:∃v,vs[k]? =some v:=⟨_,List.getElem?_eq_getElem (by rw[hl];exact(List.getElem?_eq_some_iff.1 hx).1)⟩
  have El:gq (jA vs ws) d=jA (vs.eraseIdx k) (ws.eraseIdx k):=tQ (key:=fun x:UInt32×List cP=>x.1) hl hk
  have rU:gq ws d=ws.eraseIdx k:=by rw[Ko,hk]
  obtain⟨F1,e1,_,e3⟩:=lE Sq hv hx
  refine⟨vs.eraseIdx k,fun Z=> ?_⟩
  rw[El,rU,eW (by rw[List.length_eraseIdx,List.length_eraseIdx,hl]),j3,j3,e1,e3,ad,ad]
  exact aq.tail _ (aq.drop _ _)
theorem Spec.conv {P:Program} {w0:World} {f:FuncId} {args:List Value} {X X':af} {α:Type} {res:α→Value} {Y Y':α→af} (h:Spec P w0 f args X res Y) (e1:∀Z,aq (X'*Z) (X*Z)) (e2:∀x Z,aq (Y x*Z) (Y' x*Z)):Spec P w0 f args X' res Y':=fun G w hs=>(h G w ((e1 G).sat hs)).mono fun e w' ⟨x,he,hx⟩=>⟨x,he,(e2 x G).sat hx⟩
def rM (g:Nat) (s:Nd) (h:NH):af:=aK g 159 (bb 1 s h s.out)*(rows 28 3 Rec.cells h.vr s.aI*(mp u32 u32 h.rh s.held*(dR h.tb s.self s.ls*cw h s.out)))
theorem tV (g:Nat) (s:Nd) (h:NH) (Z:af):bG g s h*Z=rM g s h*(ba g s h*Z):=by unfold bG aY rM;ac_rfl
attribute [local irreducible] WS LS cD eM cn cv Spec bA aK
variable (w0:World)
theorem w9 (gn:Nat) (s:Nd) (h:NH) (d:UInt32) (ok:aW s.ls) (so:l6 s) (hl:(s.texts d).length≤100) (ht:∀t∈s.texts d,t.length≤100) (hf:s.Fit ((s.texts d).length+1)):Spec Tryz.prog w0 177 [ptr gn 0,u32 d] (bG gn s h) (fun _:Unit=> .tuple #[]) (fun _=>eD gn (s.flush d)):=by
 refine Spec.enter Tryz.func177 rfl Tryz.ntmps177 rfl fun G=> ?_
 refine mc fun tL u7=> ?_
 refine BM d u7 fun A cap R1 hm ho hc=> ?_
 obtain⟨tv,Wj⟩:∃tv,tv=s.texts d:=⟨_,rfl⟩
 rw[←Wj]at hl ht hf hm ho hc
 simp only[bG,aY,bb,cw,ba,eu,eW u7]
 simp only[aN]
 repeat' (first|(refine ab ?_;intro K hK)|(refine hK _ ?_;clear hK K)|refine ax ?_|refine az ?_|((refine' LQ ?zh rfl ?_);case zh=>intro F';exact fh rfl rfl iI iI iI iI iI (by assumption))|fail)
 refine cV (H':=rM gn s h*(rows 9 1 jk (.slice A tv.length cap) tv*(R1*G))) (by
  refine aq.trans ?_ (aq.tail _ (ho G))
  simp only[rM,bb,cw,ba,eu,eW u7]
  exact ah) ?_
 refine aV (fun k τ=>∃(j:Nat) (vf:Value),j+k=tv.length∧τ=⟨[(14,.int .i64 (j:Int)),(13,.int .i64 (tv.length:Int)),(12,.slice A tv.length cap),(0,ptr gn 0),(1,u32 d)],[],rM gn (s.bg d (tv.take j)) {h with vf:=vf}*(rows 9 1 jk (.slice A tv.length cap) tv*(R1*G))⟩) ?_ ?_
 ·exact⟨tv.length,_,⟨0,h.vf,by omega,rfl⟩,cG,rfl,aq.refl _⟩
 ·rintro k τ ⟨j,vf,ym,rfl⟩
  have LA:=Nd.xf s d (tv.take j) ok
  have Q4:(s.bg d (tv.take j)).Fit 1:=Nd.Fit.bg (k:=1) d (tv.take j) (hf.le (by rw[List.length_take];omega))
  have SB:ba gn (s.bg d (tv.take j)) {h with vf:=vf}=ba gn s h:=yJ gn s d _ _
  rcases Nat.lt_or_ge j tv.length with bW|kQ
  ·obtain⟨z,hz⟩:∃z,tv[j]? =some z:=⟨_,List.getElem?_eq_getElem bW⟩
   have O8:=ht z (List.mem_of_getElem? hz)
   have gK:s.bg d (tv.take (j+1))=(s.bg d (tv.take j)).hand d z:=by rw[List.take_add_one,hz,Option.toList_some,Nd.dX]
   generalize s.bg d (tv.take j)=sj at*
   have W2:∀WI,ba gn (sj.hand d z) {h with vf:=WI}=ba gn s h:=fun WI=>by rw[xT];exact SB
   have p1:=(zl w0 gn sj {h with vf:=vf} d z O8 LA Q4).conv (X':=rM gn sj {h with vf:=vf}*(rows 9 1 jk (.slice A tv.length cap) tv*R1)) (Y':=fun vf=>rM gn (sj.hand d z) {h with vf:=vf}*(rows 9 1 jk (.slice A tv.length cap) tv*R1))
    (fun Z=>by rw[tV,SB,ad,ad];exact aq.tail _ (hc Z))
    (fun x Z=>by
     have e:=tV gn (sj.hand d z) {h with vf:=x} Z
     rw[W2]at e
     refine aq.trans (aq.of_eq e) ?_
     rw[ad,ad];exact aq.tail _ (ho Z))
   generalize sj.hand d z=sk at*
   simp only[rM,bb,cw]at p1 ⊢
   have IC:(j:Int)<(tv.length:Int):=by omega
   repeat' (first|(refine ab ?_;intro K hK)|(refine hK _ ?_;clear hK K)|refine ax ?_|(refine aF ?_ ?_<;>intro hc<;>(try simp only[cS]at hc)<;>(try exact aG))|refine aX ?_|refine az ?_|(refine ai (aa iI rfl p1 iI) rfl ?_;intro YR))
   exact⟨k - 1,_,by omega,⟨j+1,YR,by omega,rfl⟩,cG,rfl,by rw[gK];simp only[rM,bb,cw];exact ah⟩
  ·obtain rfl:j=tv.length:=by omega
   rw[List.take_of_length_le (Nat.le_refl _)]at SB LA Q4 ⊢
   obtain⟨q1,q2,q3,q4,q5⟩:=Nd.jH s d tv
   have es:s.flush d=match eS (s.bg d tv).bu d with|some k=>Nd.stop ((s.bg d tv).cX d) k|none=>(s.bg d tv).cX d:=by unfold Nd.flush;rw[Wj];rfl
   generalize s.bg d tv=s1 at*
   have O0:h.sb.length=s1.bu.length:=by rw[q1];exact tL
   have O7:h.wv.length=s1.wait.length:=by rw[q2];exact u7
   obtain⟨Qo,S6⟩:=Dv h.rw O7 d
   refine cV (H':=bG gn s1 {h with vf:=vf}*G) (by rw[tV,SB];exact aq.tail _ (hc G)) ?_
   rw[pa]at es
   have IC:¬(tv.length:Int)<(tv.length:Int):=by omega
   have Sn:l6 (s1.cX d):=⟨by show(s1.bu.map _).Nodup;rw[q1];exact so.aO,by show(s1.bu.map _).Nodup;rw[q1];exact so.names,by show ∀x∈s1.bu,_∧_∧_∧_∧x.name≤s1.names;rw[q1,q3];exact so.each⟩
   cases hq:dK (·.dest) s1.bu d with
   |none=>
    have SV:bX (nR h.sb s1.bu) d=none:=iC (key:=fun x:Sr=>x.dest) O0 hq
    simp only[hq]at es
    simp only[bG,aY,bb,cw,ba,eu,eW O7]
    repeat' (first|(refine ab ?_;intro K hK)|(refine hK _ ?_;clear hK K)|refine ax ?_|(refine aF ?_ ?_<;>intro hc<;>(try simp only[cS]at hc)<;>(try exact aG))|refine aX ?_|refine az ?_|((refine' LQ ?zh rfl ?_);case zh=>intro F';exact iw rfl rfl iI iI iI iI iI (by assumption))|((refine' LQ ?zh rfl ?_);case zh=>intro F';exact bE rfl rfl iI)|((refine' bL ?zh ?_);(case zh=>exact ky rfl rfl iI iI iI iI);intro g)|fail)
    refine aj (.inr rfl) rfl ⟨(),rfl,?_⟩
    rw[es]
    refine aq.two iI iI S6 ?_
    refine aq.vi {h with vf:=vf,wv:=Qo} ?_
    simp only[bG,aY,bb,cw,ba,eu,Nd.cX]
    exact ah
   |some k=>
    obtain⟨x,hx,Lx⟩:=fQ hq
    obtain⟨b,hb⟩:∃b,h.sb[k]? =some b:=⟨_,List.getElem?_eq_getElem (by rw[O0];exact(List.getElem?_eq_some_iff.1 hx).1)⟩
    have SV:bX (nR h.sb s1.bu) d=some b:=iD (key:=fun x:Sr=>x.dest) O0 hq hb
    simp only[hq]at es
    have p1:=zT w0 gn (s1.cX d) {h with vf:=vf,wv:=Qo} Sn hx hb
    simp only[bG,aY,bb,cw,ba,eu,eW O7,Nd.cX]at p1 ⊢
    repeat' (first|(refine ab ?_;intro K hK)|(refine hK _ ?_;clear hK K)|refine ax ?_|(refine aF ?_ ?_<;>intro hc<;>(try simp only[cS]at hc)<;>(try exact aG))|refine aX ?_|refine az ?_|((refine' LQ ?zh rfl ?_);case zh=>intro F';exact fw rfl rfl iI iI iI iI iI (by assumption))|((refine' LQ ?zh rfl ?_);case zh=>intro F';exact bE rfl rfl iI)|((refine' bL ?zh ?_);(case zh=>exact ky rfl rfl iI iI iI iI);intro g)|(refine fJ (aq.two iI iI S6 (aq.refl _)) ?_;refine ai (aa iI rfl p1 iI) rfl ?_;intro x1))
    refine aj (.inr rfl) rfl ⟨(),rfl,?_⟩
    rw[es]
    refine aq.vi {h with vf:=vf,wv:=Qo,sb:=h.sb.eraseIdx k} ?_
    simp only[bG,aY,bb,cw,ba,eu,Nd.cX]
    exact ah
end
section
open Go.RowKit
theorem Nd.Fit.cX {s:Nd} {k:Nat} (h:s.Fit k) (d:UInt32):(s.cX d).Fit k:=⟨h.aJ,h.cj,h.dropped,h.aI,h.ay⟩
theorem Nd.Fit.stop {s:Nd} {k:Nat} (h:s.Fit k) (i:Nat):(s.stop i).Fit k:=⟨h.aJ,h.cj,h.dropped,h.aI,h.ay⟩
theorem Nd.Fit.flush {s:Nd} {k:Nat} (d:UInt32) (h:s.Fit ((s.texts d).length+k)):(s.flush d).Fit k:=by
 have h1:=Nd.Fit.bg (k:=k) d (s.texts d) h
 unfold Nd.flush
 simp only
 split
 ·exact(h1.cX d).stop _
 ·exact h1.cX d
attribute [local irreducible] WS LS cD eM cn cv Spec bA aK
variable (w0:World)
theorem E6 (gn:Nat) (s:Nd) (h:NH) (src:UInt32) (p:Pk) (hp:p.Read) (v:Value) (ok:aW s.ls) (so:l6 s) (hl:(s.texts p.dest).length≤100) (ht:∀t∈s.texts p.dest,t.length≤100) (hf:s.Fit ((s.texts p.dest).length+1)):Spec Tryz.prog w0 119 [ptr gn 0,u32 src,p.val v] (bG gn s h*rows 180 2 bB v p.lost) (fun _:Unit=> .tuple #[]) (fun _=>eD gn (s.rep src p)):=by
 have j7:s.Fit 1:=hf.le (by omega)
 refine Spec.enter Tryz.func119 rfl Tryz.ntmps119 rfl fun G=> ?_
 refine jl v iI fun A c hv=> ?_
 subst hv
 obtain⟨Mm,ma,OT,OU,OV⟩:=hp
 obtain⟨bK,kind,aH,unknown,id,dest,ak,from_,av,bD,lost,ar⟩:=p
 simp only[Pk.val,Pk.cells,aN]at*
 by_cases h1:dest=s.self
 ·have es:s.rep src ⟨bK,kind,aH,unknown,id,dest,ak,from_,av,bD,lost,ar⟩=s.drop 1:=by unfold Nd.rep;rw[if_pos h1]
  have p1:=kf w0 gn s h 1 j7
  simp only[bG,aY,bb,cw,ba]at p1 ⊢
  repeat' (first|refine ag (id:=1) (.range 7) ?_|(refine ab ?_;intro K hK)|(refine hK _ ?_;clear hK K)|refine ax ?_|(refine aF ?_ ?_<;>intro hc<;>(try simp only[cS]at hc)<;>(try exact aG))|refine aX ?_|refine az ?_|(refine bT ?_;intro g)|(refine ai (aa iI rfl p1 iI) rfl ?_;intro x1))
  exact aj (.inl rfl) rfl ⟨(),rfl,by rw[es];exact ah⟩
 have p4:=uP w0 h.tb s.self s.ls ok (Ln.bj dest ak (min (aH+1) 255) src (s.now+bD.toUInt64)) rfl rfl (by simp only[Ln.bj];omega)
 have IA:=pT s.self s.ls (Ln.bj dest ak (min (aH+1) 255) src (s.now+bD.toUInt64))
 have vj:=ok.La s.self (Ln.bj dest ak (min (aH+1) 255) src (s.now+bD.toUInt64)) (by simp only[Ln.bj];omega)
 obtain⟨u,hu⟩:∃u,u=dI s.self s.ls (Ln.bj dest ak (min (aH+1) 255) src (s.now+bD.toUInt64)):=⟨_,rfl⟩
 have es:s.rep src ⟨bK,kind,aH,unknown,id,dest,ak,from_,av,bD,lost,ar⟩=if u.1=4 then Nd.drop {s with ls:=u.2} 2 else if from_=s.self then(if u.1=3 then Nd.drop (if(bR u.2 dest s.now).isSome then Nd.flush {s with ls:=u.2} dest else {s with ls:=u.2}) 7 else(if(bR u.2 dest s.now).isSome then Nd.flush {s with ls:=u.2} dest else {s with ls:=u.2}))else match bR u.2 from_ s.now with
  |none=>if bK=1 then Nd.drop {s with ls:=u.2} 4 else Nd.drop {s with ls:=u.2} 3
  |some b=>if bK=1 then Nd.drop {s with ls:=u.2} 4 else {Nd.send {s with ls:=u.2} b.next ⟨bK - 1,kind,min (aH+1) 255,unknown,id,dest,ak,from_,av,bD,lost,ar⟩with ls:=iY (gF (gF u.2 dest b.next) from_ src) from_ s.ir}:=by
  unfold Nd.rep
  simp only
  rw[if_neg h1,hu]
  rfl
 rw[←hu]at p4 IA vj
 clear hu
 obtain⟨e,gj⟩:=u
 simp only at p4 IA vj es
 simp only[Ln.bj,bM]at p4
 have mF:Nd.Fit {s with ls:=gj} 1:=j7.ls gj
 by_cases Hg:e=4
 ·subst Hg
  rw[if_pos rfl]at es
  have p5:=kf w0 gn {s with ls:=gj} h 2 mF
  simp only[bG,aY,bb,cw,ba]at p5 ⊢
  repeat' (first|refine ag (id:=1) (.range 7) ?_|refine ae (id:=4) (.range 21) 19 [3,5,7,13,15,16] ?_|(refine ab ?_;intro K hK)|(refine hK _ ?_;clear hK K)|refine ax ?_|(refine aF ?_ ?_<;>intro hc<;>(try simp only[cS]at hc)<;>(try exact aG))|refine aX ?_|refine az ?_|((first|refine' LQ ?zh rfl ?_|refine' bP rfl rfl rfl ?zh ?_|refine' bk rfl rfl ?zh ?_);case zh=>intro F';exact eV rfl iI iI iI)|((first|refine' LQ ?zh rfl ?_|refine' bk rfl rfl ?zh ?_);case zh=>intro F';exact bE rfl rfl iI)|(refine bT ?_;intro g)|(refine aD (aa iI rfl p4 iI) rfl rfl rfl ?_;intro x4)|(refine ai (aa iI rfl p5 iI) rfl ?_;intro x1))
  exact aj (.inl rfl) rfl ⟨(),rfl,by rw[es];exact ah⟩
 rw[if_neg Hg]at es
 by_cases h2:from_=s.self
 ·rw[if_pos h2]at es
  have p6:=find_spec w0 h.tb s.self gj vj dest s.now
  cases hx:bR gj dest s.now with
  |none=>
   simp only[hx,fX,fW,bM]at p6
   simp only[hx,Option.isSome_none,Bool.false_eq_true,if_false]at es
   by_cases AJ:e=3
   ·subst AJ
    rw[if_pos rfl]at es
    have p5:=kf w0 gn {s with ls:=gj} h 7 mF
    simp only[bG,aY,bb,cw,ba]at p5 ⊢
    repeat' (first|refine ag (id:=1) (.range 7) ?_|refine ae (id:=4) (.range 21) 19 [3,5,7,13,15,16] ?_|refine ag (id:=7) (.range 7) ?_|refine aE (id:=8) 0 5 (.range 17) ?_|refine ae (id:=8) (.range 17) 10 [3,5,9] ?_|(refine ab ?_;intro K hK)|(refine hK _ ?_;clear hK K)|refine ax ?_|(refine aF ?_ ?_<;>intro hc<;>(try simp only[cS]at hc)<;>(try exact aG))|(refine aL iI rfl ?_;intro g)|refine aX ?_|refine az ?_|((first|refine' LQ ?zh rfl ?_|refine' bP rfl rfl rfl ?zh ?_|refine' bk rfl rfl ?zh ?_);case zh=>intro F';exact eV rfl iI iI iI)|((first|refine' LQ ?zh rfl ?_|refine' bk rfl rfl ?zh ?_);case zh=>intro F';exact bE rfl rfl iI)|(refine bT ?_;intro g)|(refine bQ ?_;intro g)|(refine aD (aa iI rfl p4 iI) rfl rfl rfl ?_;intro x4)|(refine aD (aa iI rfl p6 iI) rfl rfl rfl ?_;intro x6)|(refine ai (aa iI rfl p5 iI) rfl ?_;intro x1))
    exact aj (.inl rfl) rfl ⟨(),rfl,by rw[es];exact ah⟩
   ·rw[if_neg AJ]at es
    simp only[bG,aY,bb,cw,ba]
    repeat' (first|refine ag (id:=1) (.range 7) ?_|refine ae (id:=4) (.range 21) 19 [3,5,7,13,15,16] ?_|refine ag (id:=7) (.range 7) ?_|refine aE (id:=8) 0 5 (.range 17) ?_|refine ae (id:=8) (.range 17) 10 [3,5,9] ?_|(refine ab ?_;intro K hK)|(refine hK _ ?_;clear hK K)|refine ax ?_|(refine aF ?_ ?_<;>intro hc<;>(try simp only[cS]at hc)<;>(try exact aG))|(refine aL iI rfl ?_;intro g)|refine aX ?_|refine az ?_|((first|refine' LQ ?zh rfl ?_|refine' bP rfl rfl rfl ?zh ?_|refine' bk rfl rfl ?zh ?_);case zh=>intro F';exact eV rfl iI iI iI)|((first|refine' LQ ?zh rfl ?_|refine' bk rfl rfl ?zh ?_);case zh=>intro F';exact bE rfl rfl iI)|(refine bT ?_;intro g)|(refine bQ ?_;intro g)|(refine aD (aa iI rfl p4 iI) rfl rfl rfl ?_;intro x4)|(refine aD (aa iI rfl p6 iI) rfl rfl rfl ?_;intro x6))
    refine aj (.inl rfl) rfl ⟨(),rfl,?_⟩
    rw[es]
    refine aq.vi h ?_
    simp only[bG,aY,bb,cw,ba]
    exact ah
  |some x=>
   simp only[hx,fX,fW,bM]at p6
   simp only[hx,Option.isSome_some,if_true]at es
   have Sn:l6 {s with ls:=gj}:=⟨so.aO,so.names,so.each⟩
   have p7:=w9 w0 gn {s with ls:=gj} h dest vj Sn hl ht (hf.ls gj)
   have Oy:(Nd.flush {s with ls:=gj} dest).Fit 1:=Nd.Fit.flush (s:={s with ls:=gj}) dest (hf.ls gj)
   generalize Nd.flush {s with ls:=gj} dest=s2 at p7 Oy es
   by_cases AJ:e=3
   ·subst AJ
    rw[if_pos rfl]at es
    have p5:=fun h2=>kf w0 gn s2 h2 7 Oy
    simp only[bG,aY,bb,cw,ba]at p5 p7 ⊢
    repeat' (first|refine ag (id:=1) (.range 7) ?_|refine ae (id:=4) (.range 21) 19 [3,5,7,13,15,16] ?_|refine ag (id:=7) (.range 7) ?_|refine aE (id:=8) 0 5 (.range 17) ?_|refine ae (id:=8) (.range 17) 10 [3,5,9] ?_|(refine ab ?_;intro K hK)|(refine hK _ ?_;clear hK K)|refine ax ?_|(refine aF ?_ ?_<;>intro hc<;>(try simp only[cS]at hc)<;>(try exact aG))|(refine aL iI rfl ?_;intro g)|refine aX ?_|refine az ?_|((first|refine' LQ ?zh rfl ?_|refine' bP rfl rfl rfl ?zh ?_|refine' bk rfl rfl ?zh ?_);case zh=>intro F';exact eV rfl iI iI iI)|((first|refine' LQ ?zh rfl ?_|refine' bk rfl rfl ?zh ?_);case zh=>intro F';exact bE rfl rfl iI)|(refine bT ?_;intro g)|(refine bQ ?_;intro g)|(refine aD (aa iI rfl p4 iI) rfl rfl rfl ?_;intro x4)|(refine aD (aa iI rfl p6 iI) rfl rfl rfl ?_;intro x6)|(refine ai (aa iI rfl p7 iI) rfl ?_;intro x7)|(refine ai (aa iI rfl p5 iI) rfl ?_;intro x1)|(refine z8 fun h9=> ?_;replace p5:=p5 h9;simp only[bG,aY,bb,cw,ba]))
    exact aj (.inl rfl) rfl ⟨(),rfl,by rw[es];exact ah⟩
   ·rw[if_neg AJ]at es
    simp only[bG,aY,bb,cw,ba]at p7 ⊢
    repeat' (first|refine ag (id:=1) (.range 7) ?_|refine ae (id:=4) (.range 21) 19 [3,5,7,13,15,16] ?_|refine ag (id:=7) (.range 7) ?_|refine aE (id:=8) 0 5 (.range 17) ?_|refine ae (id:=8) (.range 17) 10 [3,5,9] ?_|(refine ab ?_;intro K hK)|(refine hK _ ?_;clear hK K)|refine ax ?_|(refine aF ?_ ?_<;>intro hc<;>(try simp only[cS]at hc)<;>(try exact aG))|(refine aL iI rfl ?_;intro g)|refine aX ?_|refine az ?_|((first|refine' LQ ?zh rfl ?_|refine' bP rfl rfl rfl ?zh ?_|refine' bk rfl rfl ?zh ?_);case zh=>intro F';exact eV rfl iI iI iI)|((first|refine' LQ ?zh rfl ?_|refine' bk rfl rfl ?zh ?_);case zh=>intro F';exact bE rfl rfl iI)|(refine bT ?_;intro g)|(refine bQ ?_;intro g)|(refine aD (aa iI rfl p4 iI) rfl rfl rfl ?_;intro x4)|(refine aD (aa iI rfl p6 iI) rfl rfl rfl ?_;intro x6)|(refine ai (aa iI rfl p7 iI) rfl ?_;intro x7))
    exact aj (.inl rfl) rfl ⟨(),rfl,by rw[es];exact ah⟩
 rw[if_neg h2]at es
 have p6:=find_spec w0 h.tb s.self gj vj from_ s.now
 by_cases zu:bK=1
 ·have p5:=kf w0 gn {s with ls:=gj} h 4 mF
  simp only[bG,aY,bb,cw,ba]at p5 ⊢
  cases hx:bR gj from_ s.now
  all_goals
   simp only[hx,fX,fW,bM]at p6
   simp only[hx,if_pos zu]at es
   repeat' (first|refine ag (id:=1) (.range 7) ?_|refine ae (id:=4) (.range 21) 19 [3,5,7,13,15,16] ?_|refine ag (id:=7) (.range 7) ?_|refine aE (id:=13) 0 5 (.range 17) ?_|refine ae (id:=13) (.range 17) 10 [3,5,9] ?_|(refine ab ?_;intro K hK)|(refine hK _ ?_;clear hK K)|refine ax ?_|(refine aF ?_ ?_<;>intro hc<;>(try simp only[cS]at hc)<;>(try exact aG))|(refine aL iI rfl ?_;intro g)|refine aX ?_|refine az ?_|((first|refine' LQ ?zh rfl ?_|refine' bP rfl rfl rfl ?zh ?_|refine' bk rfl rfl ?zh ?_);case zh=>intro F';exact eV rfl iI iI iI)|((first|refine' LQ ?zh rfl ?_|refine' bk rfl rfl ?zh ?_);case zh=>intro F';exact bE rfl rfl iI)|(refine bT ?_;intro g)|(refine bQ ?_;intro g)|(refine aD (aa iI rfl p4 iI) rfl rfl rfl ?_;intro x4)|(refine aD (aa iI rfl p6 iI) rfl rfl rfl ?_;intro x6)|(refine ai (aa iI rfl p5 iI) rfl ?_;intro x1))
   exact aj (.inr rfl) rfl ⟨(),rfl,by rw[es];exact ah⟩
 cases hx:bR gj from_ s.now with
 |none=>
  have p5:=kf w0 gn {s with ls:=gj} h 3 mF
  simp only[bG,aY,bb,cw,ba]at p5 ⊢
  simp only[hx,fX,fW,bM]at p6
  simp only[hx,if_neg zu]at es
  repeat' (first|refine ag (id:=1) (.range 7) ?_|refine ae (id:=4) (.range 21) 19 [3,5,7,13,15,16] ?_|refine ag (id:=7) (.range 7) ?_|refine aE (id:=13) 0 5 (.range 17) ?_|refine ae (id:=13) (.range 17) 10 [3,5,9] ?_|(refine ab ?_;intro K hK)|(refine hK _ ?_;clear hK K)|refine ax ?_|(refine aF ?_ ?_<;>intro hc<;>(try simp only[cS]at hc)<;>(try exact aG))|(refine aL iI rfl ?_;intro g)|refine aX ?_|refine az ?_|((first|refine' LQ ?zh rfl ?_|refine' bP rfl rfl rfl ?zh ?_|refine' bk rfl rfl ?zh ?_);case zh=>intro F';exact eV rfl iI iI iI)|((first|refine' LQ ?zh rfl ?_|refine' bk rfl rfl ?zh ?_);case zh=>intro F';exact bE rfl rfl iI)|(refine bT ?_;intro g)|(refine bQ ?_;intro g)|(refine aD (aa iI rfl p4 iI) rfl rfl rfl ?_;intro x4)|(refine aD (aa iI rfl p6 iI) rfl rfl rfl ?_;intro x6)|(refine ai (aa iI rfl p5 iI) rfl ?_;intro x1))
  exact aj (.inr rfl) rfl ⟨(),rfl,by rw[es];exact ah⟩
 |some b=>
  simp only[hx,fX,fW,bM]at p6
  simp only[hx,if_neg zu]at es
  obtain⟨s2,fP⟩:∃s2:Nd,s2=Nd.send {s with ls:=gj} b.next ⟨bK - 1,kind,min (aH+1) 255,unknown,id,dest,ak,from_,av,bD,lost,ar⟩:=⟨_,rfl⟩
  have p7:=lW w0 gn {s with ls:=gj} h b.next ⟨bK - 1,kind,min (aH+1) 255,unknown,id,dest,ak,from_,av,bD,lost,ar⟩ ⟨by simp only[cM]at*;omega,by simpa only[cM]using ma,by simp only[cM]at*;omega,by simp only;omega,by simp only;omega⟩ (.slice A lost.length c) rfl (rows 180 2 bB (.slice A lost.length c) lost) (hX:=fy _ _ _ _ _) (by have:=mF.aJ;omega)
  have e1:s2.ls=gj:=by rw[fP];rfl
  have e2:s2.ir=s.ir:=by rw[fP];rfl
  have p8:=mf w0 h.tb s2.self s2.ls dest b.next
  have p9:=mf w0 h.tb s2.self (gF s2.ls dest b.next) from_ src
  have MD:=fun vf=>pQ w0 gn s2 {h with vf:=vf}
  have Vc:=pe w0 h.tb s2.self (gF (gF s2.ls dest b.next) from_ src) from_ s2.ir
  rw[←fP]at p7 es
  rw[←e1,←e2]at es
  simp only[bG,aY,bb,cw,ba,Pk.val,Pk.cells]at p7 MD ⊢
  repeat' (first|refine ag (id:=1) (.range 7) ?_|refine ae (id:=4) (.range 21) 19 [3,5,7,13,15,16] ?_|refine ag (id:=7) (.range 7) ?_|refine aE (id:=13) 0 5 (.range 17) ?_|refine ae (id:=13) (.range 17) 10 [3,5,9] ?_|refine ae (id:=17) (.range 9) 8 [3,5,7] ?_|refine ae (id:=18) (.range 8) 7 [3,5] ?_|refine ae (id:=19) (.range 9) 8 [3,5] ?_|(refine ab ?_;intro K hK)|(refine hK _ ?_;clear hK K)|refine ax ?_|(refine aF ?_ ?_<;>intro hc<;>(try simp only[cS]at hc)<;>(try exact aG))|(refine aL iI rfl ?_;intro g)|refine aX ?_|refine az ?_|((first|refine' LQ ?zh rfl ?_|refine' bP rfl rfl rfl ?zh ?_|refine' bk rfl rfl ?zh ?_);case zh=>intro F';exact eV rfl iI iI iI)|((first|refine' LQ ?zh rfl ?_|refine' bk rfl rfl ?zh ?_);case zh=>intro F';exact bE rfl rfl iI)|(refine bT ?_;intro g)|(refine bQ ?_;intro g)|(refine aD (aa iI rfl p4 iI) rfl rfl rfl ?_;intro x4)|(refine aD (aa iI rfl p6 iI) rfl rfl rfl ?_;intro x6)|(refine ai (aa iI rfl p7 iI) rfl ?_;intro vf;replace MD:=MD vf)|(refine aD (aa iI rfl p8 iI) rfl rfl rfl ?_;intro x8)|(refine aD (aa iI rfl p9 iI) rfl rfl rfl ?_;intro x9)|(refine oC iI rfl MD iI rfl ?_)|(refine aD (aa iI rfl Vc iI) rfl rfl rfl ?_;intro YU))
  refine aj (.inr rfl) rfl ⟨(),rfl,?_⟩
  rw[es]
  refine aq.vi {h with vf:=vf} ?_
  simp only[bG,aY,bb,cw,ba]
  exact ah
end
section
open Go.RowKit
theorem Nd.wY (s:Nd) (n:Nat) (k:Int):s.dy (n+1) k=(s.dy n k).drop k:=by
 unfold Nd.dy Nd.drop
 simp only[List.replicate_succ',List.append_assoc]
theorem Nd.D6 (s:Nd) (k:Int):s.dy 0 k=s:=by
 unfold Nd.dy
 simp
attribute [local irreducible] WS LS cD eM cn cv Spec bA aK
variable (w0:World)
theorem DK (gn:Nat) (s:Nd) (h:NH) {k b:Nat} {x:Sr} (hx:s.bu[k]? =some x) (hb:h.sb[k]? =some b) (so:l6 s) (ok:aW s.ls) (Lr:s.order.length≤16) (oQ:s.aP.length≤100) (Mh:s.bI.length≤900000) (Dz:0≤s.last∧s.last≤1000000000000) (hl:(s.texts x.dest).length≤100) (ht:∀t∈s.texts x.dest,t.length≤100) (hf:s.Fit ((s.texts x.dest).length+3)):Spec Tryz.prog w0 197 [ptr b 0] (bG gn s h) (fun _:Unit=> .tuple #[]) (fun _=>eD gn (s.again k x)):=by
 have rf:=so.each x (List.mem_of_getElem? hx)
 refine Spec.enter Tryz.func197 rfl Tryz.ntmps197 rfl fun G=> ?_
 refine mc fun tL u7=> ?_
 refine BM x.dest u7 fun A cap R1 hm _ _=> ?_
 obtain⟨F1,e1,e2⟩:=ye gn tL hb hx
 have p1:=find_spec w0 h.tb s.self s.ls ok x.dest s.now
 have tK:k<s.bu.length:=(List.getElem?_eq_some_iff.1 hx).1
 cases Hi:bR s.ls x.dest s.now with
 |some y=>
  have es:s.again k x=s.flush x.dest:=by unfold Nd.again;rw[Hi]
  have p2:=w9 w0 gn s h x.dest ok so hl ht (hf.le (by omega))
  simp only[Hi,fX,fW,bM]at p1
  simp only[bG,aY,bb,cw,ba,eu,e1,oB]at p2 ⊢
  simp only[aN]
  repeat' (first|refine aE (id:=1) 0 2 (.range 19) ?_|refine ae (id:=1) (.range 19) 12 [3,7,11] ?_|(refine ab ?_;intro K hK)|(refine hK _ ?_;clear hK K)|refine ax ?_|(refine aF ?_ ?_<;>intro hc<;>(try simp only[cS]at hc)<;>(try exact aG))|(refine aL iI rfl ?_;intro g)|refine az ?_|(refine bQ ?_;intro g)|(refine aD (aa iI rfl p1 iI) rfl rfl rfl ?_;intro x1)|(refine ai (aa iI rfl p2 iI) rfl ?_;intro x2))
  exact aj (.inl rfl) rfl ⟨(),rfl,by rw[es];exact ah⟩
 |none=>
  simp only[Hi,fX,fW,bM]at p1
  cases Ht:x.out with
  |false=>
   have es:s.again k x=s.ask k x:=by unfold Nd.again;rw[Hi];simp only;rw[if_neg (by rw[Ht];exact Bool.false_ne_true)]
   have p2:=wH w0 gn s h hx hb ⟨rf.1,rf.2.1,rf.2.2.1,rf.2.2.2.1⟩ ok Lr oQ Mh Dz (hf.le (by omega))
   simp only[bG,aY,bb,cw,ba,eu,e1,oB,Ht]at p2 ⊢
   simp only[aN]
   repeat' (first|refine aE (id:=1) 0 2 (.range 19) ?_|refine ae (id:=1) (.range 19) 12 [3,7,11] ?_|(refine ab ?_;intro K hK)|(refine hK _ ?_;clear hK K)|refine ax ?_|(refine aF ?_ ?_<;>intro hc<;>(try simp only[cS]at hc)<;>(try exact aG))|(refine aL iI rfl ?_;intro g)|refine az ?_|(refine bQ ?_;intro g)|(refine aD (aa iI rfl p1 iI) rfl rfl rfl ?_;intro x1)|(refine ai (aa iI rfl p2 iI) rfl ?_;intro x2))
   exact aj (.inr rfl) rfl ⟨(),rfl,by rw[es];exact ah⟩
  |true=>
   have Ql:=AG w0 gn b x ⟨rf.1,rf.2.1,rf.2.2.1,rf.2.2.2.1⟩
   cases qC:x.iN with
   |some y=>
    have Qd:y.dest=x.dest∧y.name=x.name∧y.out=x.out∧0≤y.bK∧y.bK≤8∧0≤y.aU∧y.aU≤2:=by
     unfold Sr.iN at qC
     split at qC
     ·cases qC;simp only;exact⟨trivial,trivial,trivial,by omega,by omega,by omega,by omega⟩
     ·split at qC
      ·cases qC;simp only;exact⟨trivial,trivial,trivial,by omega,by omega,by omega,by omega⟩
      ·split at qC
       ·cases qC;simp only;exact⟨trivial,trivial,trivial,by omega,by omega,by omega,by omega⟩
       ·cases qC
    have es:s.again k x=Nd.ask {s with bu:=s.bu.set k y} k y:=by unfold Nd.again;rw[Hi];simp only;rw[if_pos Ht,qC]
    have p2:=wH w0 gn {s with bu:=s.bu.set k y} h (show(s.bu.set k y)[k]? =some y by rw[List.getElem?_set];simp[tK]) hb ⟨Qd.2.2.2.1,Qd.2.2.2.2.1,Qd.2.2.2.2.2.1,Qd.2.2.2.2.2.2⟩ ok Lr oQ Mh Dz ⟨by have:=hf.aJ;show s.out.aJ.length+3≤_;omega,by have:=hf.cj;show s.out.cj.length+3≤_;omega,by have:=hf.dropped;show s.out.dropped.length+3≤_;omega,by have:=hf.aI;show s.aI.length+9*3≤_;omega,by have:=hf.ay;show s.out.ay.length+120*3≤_;omega⟩
    have SZ:nR h.sb (s.bu.set k y)=nR h.sb s.bu:=sW (key:=fun x:Sr=>x.dest) hx Qd.1
    have P2:oR h.sb (s.bu.set k y)=oR h.sb s.bu:=sW (key:=fun x:Sr=>x.name) hx Qd.2.1
    simp only[qC,Option.isSome_some,Option.getD_some]at Ql
    simp only[bG,aY,bb,cw,ba,eu,e1,e2,SZ,P2,oB,Ht]at p2 Ql ⊢
    simp only[aN]
    repeat' (first|refine aE (id:=1) 0 2 (.range 19) ?_|refine ae (id:=1) (.range 19) 12 [3,7,11] ?_|(refine ab ?_;intro K hK)|(refine hK _ ?_;clear hK K)|refine ax ?_|(refine aF ?_ ?_<;>intro hc<;>(try simp only[cS]at hc)<;>(try exact aG))|(refine aL iI rfl ?_;intro g)|refine az ?_|(refine bQ ?_;intro g)|(refine aD (aa iI rfl p1 iI) rfl rfl rfl ?_;intro x1)|(refine ai (aa iI rfl Ql iI) rfl ?_;intro x3)|(refine ai (aa iI rfl p2 iI) rfl ?_;intro x2))
    exact aj (.inr rfl) rfl ⟨(),rfl,by rw[es];exact ah⟩
   |none=>
    obtain⟨N,hN⟩:∃N,N=(s.texts x.dest).length:=⟨_,rfl⟩
    have es:s.again k x=((s.dy N 5).cX x.dest).stop k:=by unfold Nd.again;rw[Hi];simp only;rw[if_pos Ht,qC,hN]
    rw[←hN]at hm hl hf
    obtain⟨Qo,S6⟩:=Dv h.rw u7 x.dest
    simp only[qC,Option.isSome_none,Option.getD_none]at Ql
    simp only[bG,aY,bb,cw,ba,eu,e1,oB,Ht,eW u7]at Ql ⊢
    simp only[aN]
    repeat' (first|refine aE (id:=1) 0 2 (.range 19) ?_|refine ae (id:=1) (.range 19) 12 [3,7,11] ?_|refine ag (id:=5) (.range 11) ?_|(refine ab ?_;intro K hK)|(refine hK _ ?_;clear hK K)|refine ax ?_|(refine aF ?_ ?_<;>intro hc<;>(try simp only[cS]at hc)<;>(try exact aG))|(refine aL iI rfl ?_;intro g)|refine az ?_|((first|refine' LQ ?zh rfl ?_|refine' bk rfl rfl ?zh ?_);case zh=>intro F';exact fh rfl rfl iI iI iI iI iI (by assumption))|(refine bQ ?_;intro g)|(refine aD (aa iI rfl p1 iI) rfl rfl rfl ?_;intro x1)|(refine ai (aa iI rfl Ql iI) rfl ?_;intro x3))
    refine aV (fun m τ=>∃(j:Nat) (vd:Value),j+m=N∧τ=⟨[(51,.int .i64 (j:Int)),(50,.int .i64 (N:Int)),(2,ptr gn 0),(0,ptr b 0)],[],yE gn (s.dy j 5) {h with vd:=vd} b x F1*G⟩) ?_ ?_
    ·exact⟨N,_,⟨0,h.vd,by omega,rfl⟩,cG,rfl,by simp only[yE,Nd.D6,bb,cw,oB,Ht,eW u7];exact ah⟩
    ·rintro m τ ⟨j,vd,SQ,rfl⟩
     have Zj:(s.dy j 5).out.dropped.length=s.out.dropped.length+j:=by unfold Nd.dy;simp
     have Wi:=Nd.wY s j 5
     have Y0:(s.dy j 5).bu=s.bu∧(s.dy j 5).wait=s.wait∧(s.dy j 5).names=s.names:=⟨rfl,rfl,rfl⟩
     have El:=hf.dropped
     rcases Nat.lt_or_ge j N with bW|kQ
     ·have p3:=iE w0 gn (s.dy j 5) {h with vd:=vd} 5 (by omega)
      rw[←Wi]at p3
      have VM:nZ gn h.sb (s.dy (j+1) 5).bu=aK b 247 (oB gn b x)*F1:=e1
      have TS:nZ gn h.sb (s.dy j 5).bu=aK b 247 (oB gn b x)*F1:=e1
      have IC:(j:Int)<(N:Int):=by omega
      obtain⟨sk,S3⟩:∃sk:Nd,sk=s.dy (j+1) 5:=⟨_,rfl⟩
      rw[←S3]at p3 VM
      clear Wi
      generalize s.dy j 5=sj at*
      simp only[bG,aY,bb,cw,ba,eu,TS,VM]at p3
      simp only[yE,bb,cw]
      repeat' (first|(refine ab ?_;intro K hK)|(refine hK _ ?_;clear hK K)|refine ax ?_|(refine aF ?_ ?_<;>intro hc<;>(try simp only[cS]at hc)<;>(try exact aG))|refine aX ?_|refine az ?_|(refine ai (aa iI rfl p3 iI) rfl ?_;intro YQ))
      exact⟨m - 1,_,by omega,⟨j+1,YQ,by omega,rfl⟩,cG,rfl,by rw[←S3];simp only[yE,bb,cw];exact ah⟩
     ·obtain rfl:j=N:=by omega
      have IC:¬(j:Int)<(j:Int):=by omega
      have Sn:l6 ((s.dy j 5).cX x.dest):=⟨so.aO,so.names,so.each⟩
      have p4:=zT w0 gn ((s.dy j 5).cX x.dest) {h with vd:=vd,wv:=Qo} Sn hx hb
      have TS:nZ gn h.sb (s.dy j 5).bu=aK b 247 (oB gn b x)*F1:=e1
      have Qc:(s.dy j 5).wait=s.wait:=rfl
      generalize s.dy j 5=sj at*
      simp only[bG,aY,bb,cw,ba,eu,Nd.cX,TS,Qc,oB]at p4
      simp only[yE,bb,cw,Qc,eW u7,oB]
      repeat' (first|refine ae (id:=9) (.range 9) 8 [3,7] ?_|(refine ab ?_;intro K hK)|(refine hK _ ?_;clear hK K)|refine ax ?_|(refine aF ?_ ?_<;>intro hc<;>(try simp only[cS]at hc)<;>(try exact aG))|refine aX ?_|refine az ?_|((refine' dP ?zh rfl rfl ?_);(case zh=>exact ky rfl rfl iI iI iI iI);intro g)|(refine fJ (aq.two iI iI S6 (aq.refl _)) ?_;refine ai (aa iI rfl p4 iI) rfl ?_;intro x4))
      refine aj (.inl rfl) rfl ⟨(),rfl,?_⟩
      rw[es]
      refine aq.vi {h with vd:=vd,wv:=Qo,sb:=h.sb.eraseIdx k} ?_
      simp only[bG,aY,bb,cw,ba,eu,Nd.cX,Qc]
      exact ah
theorem DS (gn:Nat) (s:Nd) (h:NH) (d:UInt32) (hd:eS s.bu d=none) (so:l6 s) (ok:aW s.ls) (sY:0≤s.names∧s.names≤1000000000000) (Lr:s.order.length≤16) (oQ:s.aP.length≤100) (Mh:s.bI.length≤900000) (Dz:0≤s.last∧s.last≤1000000000000) (hf:s.Fit 3):Spec Tryz.prog w0 146 [ptr gn 0,u32 d] (bG gn s h) (fun _:Unit=> .tuple #[]) (fun _=>eD gn ((s.eC d).ask s.bu.length ⟨d,1,0,false,s.names+1⟩)):=by
 refine Spec.enter Tryz.func146 rfl Tryz.ntmps146 rfl fun G=> ?_
 refine mc fun tL u7=> ?_
 rw[pa]at hd
 have hn:dK (·.name) s.bu (s.names+1)=none:=qJ.2 fun x hx=>by have:=(so.each x hx).2.2.2.2;omega
 have hq:=fun gb:Nat=>lV (key:=fun x:Sr=>x.dest) gb ⟨d,1,0,false,s.names+1⟩ rfl tL hd
 have hi:=fun gb:Nat=>lV (key:=fun x:Sr=>x.name) gb ⟨d,1,0,false,s.names+1⟩ rfl tL hn
 have hS:∀gb:Nat,nZ gn (h.sb++[gb]) (s.bu++[⟨d,1,0,false,s.names+1⟩])=aK gb 247 (oB gn gb ⟨d,1,0,false,s.names+1⟩)*Dn gn h.sb s.bu:=fun gb=>by
  rw[pR (by simp[tL]),uk,uk,um gb _ tL];rfl
 have p1:=fun gb:Nat=>wH w0 gn (s.eC d) {h with sb:=h.sb++[gb]} (k:=s.bu.length) (b:=gb) (x:=⟨d,1,0,false,s.names+1⟩) (by show(s.bu++[_])[s.bu.length]? =_;simp) (by show(h.sb++[gb])[s.bu.length]? =_;rw[←tL];simp) (by simp) ok Lr oQ Mh Dz ⟨hf.aJ,hf.cj,hf.dropped,hf.aI,hf.ay⟩
 simp only[bG,aY,bb,cw,ba,eu,Nd.eC,hS,Pz,Pb,oB]at p1 ⊢
 simp only[←hq,←hi]at p1
 rw[pR tL]
 simp only[aN]
 repeat' (first|refine ae (id:=4) (.range 10) 9 [3,7] ?_|(refine ab ?_;intro K hK)|(refine hK _ ?_;clear hK K)|refine ax ?_|refine az ?_|(refine bQ ?_;intro g)|((first|refine' bL ?zh ?_|refine' dP ?zh rfl rfl ?_);(case zh=>exact dt rfl rfl rfl iI iI iI iI iI);intro g)|(refine ai (rj rfl) rfl ?_;intro gb;replace p1:=p1 gb)|(refine ai (aa iI rfl p1 iI) rfl ?_;intro x2))
 exact aj (.inr rfl) rfl ⟨(),rfl,ah⟩
end
section
open Go.RowKit
section
variable {P:Program} {n:fT} {w0:World} {E:Env} {D:List Deferred} {H F F1 F2:af} {Q:Exit→St→Prop} {l l':List Oper}
theorem I5 {id:Nat} (g1 g2 gL:Nat) (idx:List Nat) (cp:Nat) (bs:List Nat) {bt rJ DV:TypeId} {cs pV D2:List Value} (hs:iT P l idx (yA bs) cp=true) (hl:jK l idx=some l') (hR:cZ H g1 bt cs F1) (Ca:cZ F1 g2 rJ pV F2) (hL:cZ F2 gL DV D2 F) (h:DL P n w0 l.toArray Q D (aK g1 bt cs*aK g2 rJ pV) (aK gL DV D2) (yA bs) cp 0 false l' E F):WS P n w0 (.region id l.toArray true) Q ⟨E,D,H⟩:=
 iK idx l' (aK g1 bt cs*aK g2 rJ pV) (aK gL DV D2) F _ cp hs (by rw[hR.eq,Ca.eq,hL.eq,ad]) (gO hl) h
end
theorem jX (src:UInt32) (ls:List Ln) (l:List (UInt32×UInt32)) (x:UInt32×UInt32):bV src ls (l++[x])=lR src (bV src ls l) x:=by simp[bV]
theorem jW (src:UInt32) (ls:List Ln) (l:List (UInt32×UInt32)):(bV src ls l).2.1.length≤l.length:=by
 induction l using eE with
 |nil=>simp[bV]
 |snoc l x ih=>
  rw[jX]
  unfold lR
  simp only
  split<;>simp<;>omega
attribute [local irreducible] WS LS cD eM cn cv Spec bA aK
variable (w0:World)
theorem G8 (gn:Nat) (s:Nd) (h:NH) (src:UInt32) (p:Pk) (hp:p.Read) (v:Value) (ok:aW s.ls) (hf:s.Fit 2):Spec Tryz.prog w0 121 [ptr gn 0,u32 src,p.val v] (bG gn s h*rows 180 2 bB v p.lost) (fun _:Unit=> .tuple #[]) (fun _=>eD gn (s.ov src p)):=by
 have j7:s.Fit 1:=hf.le (by omega)
 refine Spec.enter Tryz.func121 rfl Tryz.ntmps121 rfl fun G=> ?_
 refine jl v iI fun A c hv=> ?_
 subst hv
 obtain⟨Mm,ma,OT,OU,OV⟩:=hp
 obtain⟨bK,kind,aH,unknown,id,dest,ak,from_,av,bD,lost,ar⟩:=p
 simp only[Pk.val,Pk.cells,aN]at*
 by_cases h1:dest=s.self
 ·have es:s.ov src ⟨bK,kind,aH,unknown,id,dest,ak,from_,av,bD,lost,ar⟩=s.cj (from_,ar):=by unfold Nd.ov;rw[if_pos h1]
  have Dy:=hf.cj
  simp only[bG,aY,bb,cw,ba]
  repeat' (first|refine ag (id:=1) (.range 7) ?_|refine ae (id:=2) (.range 17) 12 [5,7,9] ?_|refine cL (id:=2) 0 5 (.range 17) 16 [5] ?_|(refine ab ?_;intro K hK)|(refine hK _ ?_;clear hK K)|refine ax ?_|(refine aF ?_ ?_<;>intro hc<;>(try simp only[cS]at hc)<;>(try exact aG))|refine aX ?_|refine az ?_|(refine bT ?_;intro g)|(refine bQ ?_;intro g)|(refine aD (au dA [(from_,ar)] iI iI iI rfl rfl rfl rfl rfl iI rfl rfl rfl) rfl rfl rfl ?_;intro vx)|(refine aD (aR rfl rfl iI iI rfl iI iI gU (by first|omega|(simp[al]<;>omega)) rfl) rfl rfl rfl ?_;intro va))
  refine aj (.inl rfl) rfl ⟨(),rfl,?_⟩
  rw[es]
  refine aq.vi {h with vc:=va} ?_
  simp only[bG,aY,bb,cw,ba,Nd.cj]
  exact ah
 by_cases zu:bK=1
 ·have es:s.ov src ⟨bK,kind,aH,unknown,id,dest,ak,from_,av,bD,lost,ar⟩=s.drop 4:=by unfold Nd.ov;rw[if_neg h1,if_pos zu]
  have p1:=kf w0 gn s h 4 j7
  simp only[bG,aY,bb,cw,ba]at p1 ⊢
  repeat' (first|refine ag (id:=1) (.range 7) ?_|(refine ab ?_;intro K hK)|(refine hK _ ?_;clear hK K)|refine ax ?_|(refine aF ?_ ?_<;>intro hc<;>(try simp only[cS]at hc)<;>(try exact aG))|refine aX ?_|refine az ?_|(refine bT ?_;intro g)|(refine ai (aa iI rfl p1 iI) rfl ?_;intro x1))
  exact aj (.inl rfl) rfl ⟨(),rfl,by rw[es];exact ah⟩
 have p6:=find_spec w0 h.tb s.self s.ls ok dest s.now
 cases hx:bR s.ls dest s.now with
 |none=>
  obtain⟨s1,iu⟩:∃s1:Nd,s1=s.drop 3:=⟨_,rfl⟩
  have e1:s1.ls=s.ls:=by rw[iu];rfl
  have es:s.ov src ⟨bK,kind,aH,unknown,id,dest,ak,from_,av,bD,lost,ar⟩=Nd.tell {s1 with ls:=ia s1.ls dest} src dest (eJ (ia s1.ls dest) dest):=by unfold Nd.ov;rw[if_neg h1,if_neg zu];simp only[hx];rw[iu];rfl
  have p1:=iE w0 gn s h 3 (by have:=hf.dropped;omega)
  have p2:=GY w0 h.tb s1.self s1.ls dest
  have p3:=fun vd=>PK w0 gn {s1 with ls:=ia s1.ls dest} {h with vd:=vd} src dest (eJ (ia s1.ls dest) dest) (by rw[iu];exact(hf.drop 3).ls _)
  rw[←iu]at p1
  simp only[bG,aY,bb,cw,ba]at p1 p3 ⊢
  simp only[hx,fX,fW,bM]at p6
  repeat' (first|refine ag (id:=1) (.range 7) ?_|refine aE (id:=5) 0 5 (.range 17) ?_|refine ae (id:=5) (.range 17) 10 [3,5,9] ?_|(refine ab ?_;intro K hK)|(refine hK _ ?_;clear hK K)|refine ax ?_|(refine aF ?_ ?_<;>intro hc<;>(try simp only[cS]at hc)<;>(try exact aG))|(refine aL iI rfl ?_;intro g)|refine aX ?_|refine az ?_|(refine bT ?_;intro g)|(refine bQ ?_;intro g)|refine cL (id:=8) 0 5 (.range 12) 11 [7] ?_|(refine aD (aa iI rfl p6 iI) rfl rfl rfl ?_;intro x6)|(refine ai (aa iI rfl p1 iI) rfl ?_;intro vd;replace p3:=p3 vd)|(refine aD (aa iI rfl p2 iI) rfl rfl rfl ?_;intro x2)|(refine aD (aa iI rfl p3 iI) rfl rfl rfl ?_;intro x3))
  exact aj (.inl rfl) rfl ⟨(),rfl,by rw[es];exact ah⟩
 |some x=>
  obtain⟨s2,fP⟩:∃s2:Nd,s2=Nd.send s x.next ⟨bK - 1,kind,aH,unknown,id,dest,ak,from_,av,bD,lost,ar⟩:=⟨_,rfl⟩
  have e1:s2.ls=s.ls:=by rw[fP];rfl
  have e2:s2.ir=s.ir:=by rw[fP];rfl
  have es:s.ov src ⟨bK,kind,aH,unknown,id,dest,ak,from_,av,bD,lost,ar⟩={s2 with ls:=iY (iY s2.ls dest s2.ir) from_ s2.ir}:=by unfold Nd.ov;rw[if_neg h1,if_neg zu];simp only[hx];rw[e1,e2,fP]
  have p7:=lW w0 gn s h x.next ⟨bK - 1,kind,aH,unknown,id,dest,ak,from_,av,bD,lost,ar⟩ ⟨by simp only[cM]at*;omega,by simpa only[cM]using ma,by simp only[cM]at*;omega,by simp only;omega,by simp only;omega⟩ (.slice A lost.length c) rfl (rows 180 2 bB (.slice A lost.length c) lost) (hX:=fy _ _ _ _ _) (by have:=hf.aJ;omega)
  have p8:=pe w0 h.tb s2.self s2.ls dest s2.ir
  have p9:=pe w0 h.tb s2.self (iY s2.ls dest s2.ir) from_ s2.ir
  have MD:=fun vf=>pQ w0 gn s2 {h with vf:=vf}
  rw[←fP]at p7
  simp only[bG,aY,bb,cw,ba,Pk.val,Pk.cells]at p7 MD ⊢
  simp only[hx,fX,fW,bM]at p6
  repeat' (first|refine ag (id:=1) (.range 7) ?_|refine aE (id:=5) 0 5 (.range 17) ?_|refine ae (id:=5) (.range 17) 10 [3,5,9] ?_|refine ae (id:=11) (.range 9) 8 [3,5] ?_|refine ae (id:=12) (.range 9) 8 [3,5] ?_|(refine ab ?_;intro K hK)|(refine hK _ ?_;clear hK K)|refine ax ?_|(refine aF ?_ ?_<;>intro hc<;>(try simp only[cS]at hc)<;>(try exact aG))|(refine aL iI rfl ?_;intro g)|refine aX ?_|refine az ?_|(refine bT ?_;intro g)|(refine bQ ?_;intro g)|(refine aD (aa iI rfl p6 iI) rfl rfl rfl ?_;intro x6)|(refine ai (aa iI rfl p7 iI) rfl ?_;intro vf;replace MD:=MD vf)|(refine oC iI rfl MD iI rfl ?_)|(refine aD (aa iI rfl p8 iI) rfl rfl rfl ?_;intro x8)|(refine aD (aa iI rfl p9 iI) rfl rfl rfl ?_;intro x9))
  refine aj (.inr rfl) rfl ⟨(),rfl,?_⟩
  rw[es]
  refine aq.vi {h with vf:=vf} ?_
  simp only[bG,aY,bb,cw,ba]
  exact ah
theorem EF (gn:Nat) (s:Nd) (h:NH) (src:UInt32) (p:Pk) (hp:p.Read) (v:Value) (hf:s.Fit 2):Spec Tryz.prog w0 120 [ptr gn 0,u32 src,p.val v] (bG gn s h*rows 180 2 bB v p.lost) (fun _:Unit=> .tuple #[]) (fun _=>eD gn (s.xC src p)):=by
 have j7:s.Fit 1:=hf.le (by omega)
 refine Spec.enter Tryz.func120 rfl Tryz.ntmps120 rfl fun G=> ?_
 refine jl v iI fun A c hv=> ?_
 subst hv
 obtain⟨Mm,ma,OT,OU,OV⟩:=hp
 obtain⟨bK,kind,aH,unknown,id,dest,ak,from_,av,bD,lost,ar⟩:=p
 simp only[Pk.val,Pk.cells,aN]at*
 simp only[bG,aY,bb,cw,ba]
 repeat' (first|(refine ab ?_;intro K hK)|(refine hK _ ?_;clear hK K)|refine ax ?_|refine az ?_|(refine ai (rj rfl) rfl ?_;intro gp))
 refine cV (aq.nil _ 180 2 bB none) ?_
 obtain⟨PC,TP⟩:∃PC:List Value,PC=[.int .i64 bK,.int .i64 kind,.int .i64 aH,.bool unknown,u32 id,u32 dest,u32 ak,u32 from_,u32 av,u32 bD,.slice A lost.length c,aZ ar]:=⟨_,rfl⟩
 refine aV (fun k τ=>∃(j:Nat) (vt:Value),j+k=lost.length∧τ=⟨[(16,.int .i64 (j:Int)),(15,.int .i64 (lost.length:Int)),(14,.slice A lost.length c),(7,.bool (bV src s.ls (lost.take j)).2.2),(6,vt),(0,ptr gn 0),(1,u32 src)],[],bG gn {s with ls:=(bV src s.ls (lost.take j)).1} h*(rows 180 2 bB vt (bV src s.ls (lost.take j)).2.1*(rows 180 2 bB (.slice A lost.length c) lost*G))⟩) ?_ ?_
 ·exact⟨lost.length,_,⟨0,_,by omega,rfl⟩,cG,rfl,by simp only[List.take_zero,bV,List.foldl_nil,bG,aY,bb,cw,ba];exact ah⟩
 ·rintro k τ ⟨j,vt,ym,rfl⟩
  rcases Nat.lt_or_ge j lost.length with bW|kQ
  ·obtain⟨⟨ld,lq⟩,hz⟩:∃z,lost[j]? =some z:=⟨_,List.getElem?_eq_getElem bW⟩
   have gK:bV src s.ls (lost.take (j+1))=lR src (bV src s.ls (lost.take j)) (ld,lq):=by rw[List.take_add_one,hz,Option.toList_some,jX]
   have Iy:=jW src s.ls (lost.take j)
   rw[List.length_take]at Iy
   generalize bV src s.ls (lost.take j)=a at*
   obtain⟨gj,tl,sm⟩:=a
   simp only[lR]at gK Iy
   have p1:=Hz w0 h.tb s.self gj src ld lq
   have IC:(j:Int)<(lost.length:Int):=by omega
   cases hd:fR gj src ld
   all_goals cases hb:decide (0<((dG gj ld).getD Ln.zero).before.length)
   all_goals cases sm
   all_goals
    simp only[hd,hb,Bool.false_and,Bool.true_and,Bool.and_false,Bool.and_true,Bool.or_false,Bool.or_true,Bool.false_eq_true,if_false,if_true]at gK p1
    simp only[bG,aY,bb,cw,ba,bB]
    repeat' (first|refine ae (id:=6) (.range 14) 6 [3,5] ?_|(refine ab ?_;intro K hK)|(refine hK _ ?_;clear hK K)|refine ax ?_|(refine aF ?_ ?_<;>intro hc<;>(try simp only[cS]at hc)<;>(try exact aG))|refine aX ?_|refine az ?_|(refine bT ?_;intro g)|((refine' bL ?zh ?_);(case zh=>exact bo rfl rfl iI iI (by first|rfl|(simp only[List.all_cons,List.all_nil, *];rfl)) rfl);intro g)|(refine ai (au bB [(ld,eJ (iS gj src ld lq) ld)] iI iI iI rfl rfl rfl rfl rfl iI rfl rfl rfl) rfl ?_;intro vx)|(refine ai (aR rfl rfl iI iI rfl iI iI lA (by first|omega|(simp[al]<;>omega)) rfl) rfl ?_;intro va)|(refine aD (aa iI rfl p1 iI) rfl rfl rfl ?_;intro x1))
    exact⟨k - 1,_,by omega,⟨j+1,_,by omega,rfl⟩,⟨rfl,rfl,rfl,by rw[gK];rfl,rfl,rfl,rfl,trivial⟩,rfl,by rw[gK];simp only[bG,aY,bb,cw,ba];exact ah⟩
  ·obtain rfl:j=lost.length:=by omega
   rw[List.take_of_length_le (Nat.le_refl _)]
   have Iy:=jW src s.ls lost
   have es:s.xC src ⟨bK,kind,aH,unknown,id,dest,ak,from_,av,bD,lost,ar⟩=if(bV src s.ls lost).2.2=true then Nd.lost {s with ls:=(bV src s.ls lost).1} (bV src s.ls lost).2.1 else Nd.drop (Nd.lost {s with ls:=(bV src s.ls lost).1} (bV src s.ls lost).2.1) 7:=rfl
   generalize bV src s.ls lost=a at*
   obtain⟨gj,tl,sm⟩:=a
   simp only at Iy es
   have p1:=zz w0 gn {s with ls:=gj} h tl (by omega) vt (j7.ls _)
   have Oy:(Nd.lost {s with ls:=gj} tl).Fit 1:=by unfold Nd.lost;split;exact(hf.ls gj).send _ _;exact j7.ls gj
   generalize Nd.lost {s with ls:=gj} tl=s2 at*
   have p5:=fun h2=>kf w0 gn s2 h2 7 Oy
   have IC:¬(lost.length:Int)<(lost.length:Int):=by omega
   cases sm
   ·simp only[bG,aY,bb,cw,ba]at p1 p5 ⊢
    repeat' (first|(refine ab ?_;intro K hK)|(refine hK _ ?_;clear hK K)|refine ax ?_|(refine aF ?_ ?_<;>intro hc<;>(try simp only[cS]at hc)<;>(try exact aG))|refine aX ?_|refine az ?_|(refine ai (aa iI rfl p1 iI) rfl ?_;intro x1)|(refine ai (aa iI rfl p5 iI) rfl ?_;intro x2)|(refine z8 fun h9=> ?_;replace p5:=p5 h9;simp only[bG,aY,bb,cw,ba]))
    exact aj (.inr rfl) rfl ⟨(),rfl,by rw[es];simp only[Bool.false_eq_true,if_false];exact ah⟩
   ·simp only[bG,aY,bb,cw,ba]at p1 ⊢
    repeat' (first|(refine ab ?_;intro K hK)|(refine hK _ ?_;clear hK K)|refine ax ?_|(refine aF ?_ ?_<;>intro hc<;>(try simp only[cS]at hc)<;>(try exact aG))|refine aX ?_|refine az ?_|(refine ai (aa iI rfl p1 iI) rfl ?_;intro x1))
    exact aj (.inr rfl) rfl ⟨(),rfl,by rw[es];simp only[if_true];exact ah⟩
theorem uG (nb:UInt32) (ds:List UInt32) (ls:List Ln):(jh nb ds ls).length≤ds.length:=List.length_filterMap_le _ _
theorem GV (gn:Nat) (s:Nd) (nb:UInt32) (ok:aW s.ls) (hf:s.Fit 1) (bn bx:Nat) (tn tx:TypeId):Spec Tryz.prog w0 193 [ptr bn 0,ptr bx 0] (eD gn s*(aK bn tn [ptr gn 0]*aK bx tx [u32 nb])) (fun _:Unit=> .tuple #[]) (fun _=>eD gn (s.brk nb)*emp):=by
 refine Spec.enter Tryz.func193 rfl Tryz.ntmps193 rfl fun G=> ?_
 rw[ad (eD gn s)]
 refine wA fun h=> ?_
 have p1:=BT w0 h.tb s.self s.ls ok nb
 have Ri:=uG nb (aQ (aO s.ls)) s.ls
 have h8:(aQ (aO s.ls)).length≤8:=by rw[cF];simpa [aO]using ok.short
 have p2:=fun v=>zz w0 gn {s with ls:=nH nb s.ls} h (jh nb (aQ (aO s.ls)) s.ls) (by omega) v (hf.ls _)
 simp only[bG,aY,bb,cw,ba]at p2 ⊢
 simp only[aN]
 repeat' (first|refine ax ?_|refine az ?_|(show WS _ _ _ (.region 0 _ true) _ _;refine I5 bn bx gn [0,1,2,3,4,5,6,7] 7 [4] (by decide+kernel) rfl iI iI iI ?_)|(refine aD (aa iI rfl p1 iI) rfl rfl rfl ?_;intro v1)|(refine aD (aa iI rfl (p2 _) iI) rfl rfl rfl ?_;intro x2))
 exact aj (.inr rfl) rfl ⟨(),rfl,by unfold Nd.brk;exact ah⟩
end
section
structure Nd.Step (s t:Nd) (a b:Nat):Prop where
 self:t.self=s.self
 now:t.now=s.now
 MK:t.out.replace=s.out.replace
 aJ:t.out.aJ.length≤s.out.aJ.length+a
 cj:t.out.cj.length≤s.out.cj.length+a
 dropped:t.out.dropped.length≤s.out.dropped.length+a
 wr:∃W:List Rec,W.length≤b∧t.aI=s.aI++W∧t.out.ay=s.out.ay++b9 W
theorem Nd.Step.zero {s t:Nd} (h1:t.self=s.self) (h2:t.now=s.now) (h3:t.out=s.out) (h4:t.aI=s.aI):s.Step t 0 0:=⟨h1,h2,by rw[h3],by rw[h3];omega,by rw[h3];omega,by rw[h3];omega,[],by simp,by simp[h4],by simp[h3,b9]⟩
theorem Nd.Step.trans {s t u:Nd} {a b c d:Nat} (h:s.Step t a b) (g:t.Step u c d):s.Step u (a+c) (b+d):=by
 obtain⟨W,w1,w2,w3⟩:=h.wr
 obtain⟨V,v1,v2,v3⟩:=g.wr
 refine⟨g.self.trans h.self,g.now.trans h.now,g.MK.trans h.MK,?_,?_,?_,W++V,by simp;omega,by rw[v2,w2,List.append_assoc],by rw[v3,w3];simp[b9]⟩
 ·have:=h.aJ;have:=g.aJ;omega
 ·have:=h.cj;have:=g.cj;omega
 ·have:=h.dropped;have:=g.dropped;omega
theorem Nd.Step.le {s t:Nd} {a b c d:Nat} (h:s.Step t a b) (h1:a≤c) (h2:b≤d):s.Step t c d:=by
 obtain⟨W,w1,w2,w3⟩:=h.wr
 exact⟨h.self,h.now,h.MK,by have:=h.aJ;omega,by have:=h.cj;omega,by have:=h.dropped;omega,W,by omega,w2,w3⟩
theorem nT (l:List Rec):(b9 l).length=13*l.length:=by
 unfold b9
 exact vn l
theorem Nd.Step.aI {s t:Nd} {a b:Nat} (h:s.Step t a b):t.aI.length≤s.aI.length+b:=by
 obtain⟨W,w1,w2,w3⟩:=h.wr
 rw[w2];simp;omega
theorem Nd.Step.ay {s t:Nd} {a b:Nat} (h:s.Step t a b):t.out.ay.length≤s.out.ay.length+13*b:=by
 obtain⟨W,w1,w2,w3⟩:=h.wr
 rw[w3,List.length_append,nT];omega
theorem Nd.Step.fit {s t:Nd} {a b k:Nat} (h:s.Step t a b) (h1:s.out.aJ.length+a+k≤800000) (h2:s.out.cj.length+a+k≤800000) (h3:s.out.dropped.length+a+k≤800000) (h4:s.aI.length+b+9*k≤400000) (h5:s.out.ay.length+13*b+120*k≤800000):t.Fit k:=by
 have:=h.aJ;have:=h.cj;have:=h.dropped;have:=h.aI;have:=h.ay
 constructor<;>omega
theorem Nd.Step.write (s:Nd) (r:Rec):s.Step (s.write r) 0 1:=⟨rfl,rfl,rfl,Nat.le_refl _,Nat.le_refl _,Nat.le_refl _,[r],by simp,rfl,by simp[Nd.write,b9]⟩
theorem Nd.Step.cf (s:Nd) (l:Ln):s.Step (s.cf l) 0 1:=by
 unfold Nd.cf
 repeat' split
 all_goals first|exact Nd.Step.write _ _|exact(Nd.Step.zero rfl rfl rfl rfl).le (by omega) (by omega)
theorem Nd.Step.dh (s:Nd):s.Step s.dh 0 1:=by
 unfold Nd.dh
 split
 ·exact Nd.Step.write _ _
 ·exact(Nd.Step.zero rfl rfl rfl rfl).le (by omega) (by omega)
theorem Nd.Step.oW (L:List Ln):∀s:Nd,s.Step (L.foldl Nd.cf s) 0 L.length:=by
 induction L with
 |nil=>intro s;exact Nd.Step.zero rfl rfl rfl rfl
 |cons l L ih=>intro s;exact((Nd.Step.cf s l).trans (ih _)).le (by omega) (by simp only[List.length_cons];omega)
theorem Nd.Step.note (s:Nd):s.Step s.note 0 (1+(cE s.ls).length):=((Nd.Step.dh s).trans (Nd.Step.oW _ _)).le (by omega) (Nat.le_refl _)
theorem Nd.Step.send (s:Nd) (to:UInt32) (p:Pk):s.Step (s.send to p) 1 0:=⟨rfl,rfl,rfl,by simp[Nd.send],by simp[Nd.send],by simp[Nd.send],[],by simp,by simp[Nd.send],by simp[Nd.send,b9]⟩
theorem Nd.Step.drop (s:Nd) (r:Int):s.Step (s.drop r) 1 0:=⟨rfl,rfl,rfl,by simp[Nd.drop],by simp[Nd.drop],by simp[Nd.drop],[],by simp,by simp[Nd.drop],by simp[Nd.drop,b9]⟩
theorem Nd.Step.QB (s:Nd) (x:UInt32×cP):s.Step (s.cj x) 1 0:=⟨rfl,rfl,rfl,by simp[Nd.cj],by simp[Nd.cj],by simp[Nd.cj],[],by simp,by simp[Nd.cj],by simp[Nd.cj,b9]⟩
theorem Nd.Step.ls (s:Nd) (l:List Ln):s.Step {s with ls:=l} 0 0:=Nd.Step.zero rfl rfl rfl rfl
theorem Nd.Step.aT (s:Nd) (r:Rq):s.Step (s.aT r) 0 0:=by
 obtain⟨_,h1,h2,h3,h4⟩:=s.j2 r
 exact Nd.Step.zero h1 h2 h3 h4
theorem Nd.Step.hand (s:Nd) (d:UInt32) (t:cP):s.Step (s.hand d t) 1 0:=by
 unfold Nd.hand
 split
 ·exact(Nd.Step.zero rfl rfl rfl rfl).le (by omega) (by omega)
 ·have h0:s.Step {s with ff:=s.ff+1} 0 0:=Nd.Step.zero rfl rfl rfl rfl
  have h1:=fun to p=>h0.trans (Nd.Step.send {s with ff:=s.ff+1} to p)
  exact((h1 _ _).trans (Nd.Step.ls _ _)).le (Nat.le_refl _) (Nat.le_refl _)
theorem Nd.Step.bg (s:Nd) (d:UInt32) (l:List cP):s.Step (s.bg d l) l.length 0:=by
 induction l using eE with
 |nil=>exact Nd.Step.zero rfl rfl rfl rfl
 |snoc l t ih=>rw[Nd.dX];exact(ih.trans (Nd.Step.hand _ _ _)).le (by simp) (by omega)
theorem Nd.Step.flush (s:Nd) (d:UInt32):s.Step (s.flush d) (s.texts d).length 0:=by
 unfold Nd.flush
 simp only
 have h1:=Nd.Step.bg s d (s.texts d)
 split
 ·exact(h1.trans (Nd.Step.zero (t:=Nd.stop ((s.bg d (s.texts d)).cX d) _) rfl rfl rfl rfl)).le (by omega) (by omega)
 ·exact(h1.trans (Nd.Step.zero (t:=(s.bg d (s.texts d)).cX d) rfl rfl rfl rfl)).le (by omega) (by omega)
theorem Nd.Step.dy (s:Nd) (n:Nat) (k:Int):s.Step (s.dy n k) n 0:=⟨rfl,rfl,rfl,by simp[Nd.dy],by simp[Nd.dy],by simp[Nd.dy],[],by simp,by simp[Nd.dy],by simp[Nd.dy,b9]⟩
theorem Nd.Step.arm (s:Nd) (k:Int) (w:UInt64):s.Step (s.arm k w) 0 0:=Nd.Step.zero rfl rfl rfl rfl
theorem Nd.Step.gE (s:Nd) (x:Sr):s.Step (s.gE x) 1 (1+(cE s.ls).length):=by
 unfold Nd.gE
 simp only
 have h0:s.Step {s with seq:=bS s.seq} 0 0:=Nd.Step.zero rfl rfl rfl rfl
 have h1:=h0.trans (Nd.Step.note _)
 generalize Nd.note {s with seq:=bS s.seq}=t at*
 have h2:t.Step {t with ids:=t.ids+1,aP:=ik (t.aP++[t.now])} 0 0:=Nd.Step.zero rfl rfl rfl rfl
 have h3:=h1.trans h2
 generalize ({t with ids:=t.ids+1,aP:=ik (t.aP++[t.now])}:Nd)=u at*
 exact((h3.trans (Nd.Step.send u _ _)).trans (Nd.Step.aT _ _)).le (by omega) (by simp only;omega)
theorem Nd.Step.ask (s:Nd) (k:Nat) (x:Sr):s.Step (s.ask k x) 1 (1+(cE s.ls).length):=by
 unfold Nd.ask
 have h0:∀b,s.Step (s.cH k b) 0 0:=fun _=>Nd.Step.zero rfl rfl rfl rfl
 split
 ·exact((h0 _).trans ((Nd.Step.drop _ _).trans (Nd.Step.arm _ _ _))).le (by omega) (by omega)
 ·split
  ·exact((h0 _).trans ((Nd.Step.drop _ _).trans (Nd.Step.arm _ _ _))).le (by omega) (by omega)
  ·exact((h0 _).trans ((Nd.Step.gE _ _).trans (Nd.Step.arm _ _ _))).le (by omega) (by simp only[Nd.cH];omega)
theorem Nd.Step.answer (s:Nd) (p:Pk):s.Step (s.answer p) 1 0:=by
 unfold Nd.answer
 split
 ·exact Nd.Step.send _ _ _
 ·exact Nd.Step.drop _ _
theorem Nd.Step.gR (s:Nd) (p:Pk):s.Step (s.gR p) 1 0:=by
 unfold Nd.gR
 split
 ·exact Nd.Step.drop _ _
 ·split<;>exact Nd.Step.send _ _ _
theorem Nd.Step.jy (s:Nd) (p:Pk):s.Step (s.jy p) 1 0:=by
 unfold Nd.jy
 split
 ·have h0:∀q,s.Step {s with seq:=q} 0 0:=fun _=>Nd.Step.zero rfl rfl rfl rfl
  exact((h0 _).trans (Nd.Step.answer _ _)).le (by omega) (by omega)
 ·split
  ·split
   ·exact((Nd.Step.ls _ _).trans (Nd.Step.answer _ _)).le (by omega) (by omega)
   ·exact Nd.Step.gR _ _
  ·exact Nd.Step.gR _ _
theorem Nd.Step.qd (s:Nd) (src:UInt32) (p:Pk):s.Step (s.qd src p) 1 0:=by
 unfold Nd.qd
 split
 ·exact Nd.Step.drop _ _
 ·simp only
  split
  ·exact((Nd.Step.aT s _).trans ((Nd.Step.ls _ _).trans (Nd.Step.drop _ _))).le (by omega) (by omega)
  ·exact((Nd.Step.aT s _).trans ((Nd.Step.ls _ _).trans (Nd.Step.jy _ _))).le (by omega) (by omega)
theorem Nd.Step.lost (s:Nd) (l:List (UInt32×UInt32)):s.Step (s.lost l) 1 0:=by
 unfold Nd.lost
 split
 ·exact Nd.Step.send _ _ _
 ·exact(Nd.Step.zero rfl rfl rfl rfl).le (by omega) (by omega)
theorem Nd.Step.xC (s:Nd) (src:UInt32) (p:Pk):s.Step (s.xC src p) 2 0:=by
 unfold Nd.xC
 simp only
 split
 ·exact((Nd.Step.ls _ _).trans (Nd.Step.lost _ _)).le (by omega) (by omega)
 ·exact((Nd.Step.ls _ _).trans ((Nd.Step.lost _ _).trans (Nd.Step.drop _ _))).le (by omega) (by omega)
theorem Nd.Step.tell (s:Nd) (a b c:UInt32):s.Step (s.tell a b c) 1 0:=Nd.Step.send _ _ _
theorem Nd.Step.ov (s:Nd) (src:UInt32) (p:Pk):s.Step (s.ov src p) 2 0:=by
 unfold Nd.ov
 split
 ·exact(Nd.Step.QB _ _).le (by omega) (by omega)
 ·split
  ·exact(Nd.Step.drop _ _).le (by omega) (by omega)
  ·split
   ·exact((Nd.Step.drop _ _).trans ((Nd.Step.ls _ _).trans (Nd.Step.tell _ _ _ _))).le (by omega) (by omega)
   ·exact((Nd.Step.send _ _ _).trans (Nd.Step.ls _ _)).le (by omega) (by omega)
theorem Nd.Step.brk (s:Nd) (nb:UInt32):s.Step (s.brk nb) 1 0:=((Nd.Step.ls _ _).trans (Nd.Step.lost _ _)).le (by omega) (by omega)
theorem Nd.K4 (s:Nd) (l:List Ln) (d:UInt32):Nd.texts {s with ls:=l} d=s.texts d:=rfl
theorem Nd.Step.rep (s:Nd) (src:UInt32) (p:Pk):s.Step (s.rep src p) ((s.texts p.dest).length+1) 0:=by
 unfold Nd.rep
 split
 ·exact(Nd.Step.drop _ _).le (by omega) (by omega)
 ·simp only
  split
  ·exact((Nd.Step.ls _ _).trans (Nd.Step.drop _ _)).le (by omega) (by omega)
  ·split
   ·have h1:∀l:List Ln,s.Step (if(bR l p.dest s.now).isSome then Nd.flush {s with ls:=l} p.dest else {s with ls:=l}) (s.texts p.dest).length 0:=fun l=>by
     split
     ·exact((Nd.Step.ls s l).trans (Nd.Step.flush _ _)).le (by rw[Nd.K4];omega) (by omega)
     ·exact(Nd.Step.ls s l).le (by omega) (by omega)
    split
    ·exact((h1 _).trans (Nd.Step.drop _ _)).le (by omega) (by omega)
    ·exact(h1 _).le (by omega) (by omega)
   ·split
    ·split<;>exact((Nd.Step.ls _ _).trans (Nd.Step.drop _ _)).le (by omega) (by omega)
    ·split
     ·exact((Nd.Step.ls _ _).trans (Nd.Step.drop _ _)).le (by omega) (by omega)
     ·exact((Nd.Step.ls _ _).trans ((Nd.Step.send _ _ _).trans (Nd.Step.ls _ _))).le (by omega) (by omega)
theorem Nd.Step.handle (s:Nd) (src:UInt32) (p:Pk):s.Step (s.handle src p) ((s.texts p.dest).length+2) 0:=by
 unfold Nd.handle
 repeat' split
 ·exact(Nd.Step.qd _ _ _).le (by omega) (by omega)
 ·exact(Nd.Step.rep _ _ _).le (by omega) (by omega)
 ·exact(Nd.Step.xC _ _ _).le (by omega) (by omega)
 ·exact(Nd.Step.ov _ _ _).le (by omega) (by omega)
end
end Go.Proofs.YtapoehkdnglahabGreat
