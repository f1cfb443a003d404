/- A part. -/
import Derived.Test.YtapoehkdnglahabGreatM3
set_option maxHeartbeats 32000000
set_option maxRecDepth 100000
set_option linter.all false
namespace Go.Proofs.YtapoehkdnglahabGreat
section
open Go.RowKit
section
variable {P:Program} {n:fT} {w0:World} {E:Env} {D:List Deferred} {H F1 F2 F3:af} {c:Code} {Q:Exit->St->Prop} {g:Nat} {self:UInt32} {ls:List Ln} {v:Value} {ys xs:List da}
theorem lJ (hr:dc ls xs) (hb:∀Z,aq (cQ ys*Z) (cQ xs*Z)) (h1:Own H (aK g 197 [u32 self,v]) F1) (h2:Own F1 (rows 53 7 bJ v xs) F2) (h3:Own F2 (cQ ys) F3) (h:WS P n w0 c Q ⟨E,D,ct g self ls*F3⟩):WS P n w0 c Q ⟨E,D,H⟩:=by
 refine cV (H':=ct g self ls*F3) ?_ h;rw[h1.eq,h2.eq,h3.eq];refine aq.trans ?_ (aq.ct (v:=v) hr (aq.refl _));unfold eA;rw[ad];exact aq.tail _ (aq.tail _ (hb F3))
end
attribute [local irreducible] WS LS OpQ y6 cn cv Spec bA aK di cq
variable (w0:World)
theorem E0 (W:TW) (gn:Nat) (s:Nd) (src:UInt32) (p:Pk) (hp:p.Read) (v:Value) (ok:aW s.ls) (hf:s.Fit 2):Spec ucC w0 135 [ptr gn 0,u32 src,p.val v] (qe W gn s*rows 180 2 bB v p.lost) (λ_:Unit=> .tuple #[]) (λ_=>qe W gn (s.ov src p)):=by
 have j7:s.Fit 1:=hf.le (by omega);refine eZ Tryz.func135 Tryz.ntmps135 λG=> ?_;refine jl v iI λA c hv=> ?_;subst hv;obtain⟨Mm,ma,OT,OU,OV⟩:=hp;obtain⟨bK,kind,aH,unknown,id,dest,ak,from_,av,bD,lost,ar⟩:=p;simp only[Pk.val,Pk.cells,aN]at*
 refine rz (W:=W) (g:=gn) (s:=s) iI λd tw=> ?_;unfold cR;simp only[bN,ad];by_cases h1:dest=s.self
 ·have es:s.ov src ⟨bK,kind,aH,unknown,id,dest,ak,from_,av,bD,lost,ar⟩=s.cj (from_,ar):=by unfold Nd.ov;rw[jF h1]
  have Dy:=hf.cj;unfold cy;simp only[ad];have uO:=λvc=>tw.to (t:=s.cj (from_,ar)) (e:={d with vc:=vc}) (Nd.Alike.MC s _) rfl rfl rfl rfl rfl;repeat' (first|refine zeh ?_|refine ae (id:=2) (.range 17) 12 [5,7,9] ?_|refine zaN (id:=2) 0 5 (.range 17) 16 [5] ?_|intro hc|refine yZ ?_|refine aF ?_ ?_|(refine aD (au dA [(from_,ar)] iI iI iI rfl rfl rfl rfl rfl iI rfl rfl rfl) rfl rfl rfl ?_;intro vx)|(refine aD (aR rfl rfl iI iI rfl iI iI gU (by simp only[FO];omega) rfl) rfl rfl rfl ?_;intro va))
  exact aj (.inl rfl) rfl ⟨(),rfl,by rw[es];exact aq.rn (uO va) (by unfold cR;simp only[bN,cy,bc,Nd.cj];exact ah)⟩
 by_cases zu:bK=1
 ·have es:s.ov src ⟨bK,kind,aH,unknown,id,dest,ak,from_,av,bD,lost,ar⟩=s.drop 4:=by unfold Nd.ov;rw[eQ h1,jF zu]
  have p1:=cx w0 gn s d 4 (by have:=j7.dropped;omega);unfold cR at p1;simp only[bN,ad]at p1;repeat' (first|refine zeh ?_|intro hc|refine yZ ?_|refine aF ?_ ?_|refine cZ p1 λx1=> ?_)
  exact aj (.inl rfl) rfl ⟨(),rfl,by rw[es];exact aq.rn (tw.drop 4 x1) (by unfold cR;simp only[bN];exact ah)⟩
 have p6:=nU w0 d.tb s.self s.ls ok dest s.now;cases hx:bR s.ls dest s.now with
 |none=>
  simp only[hx,eY,bM,sH]at p6;have es:s.ov src ⟨bK,kind,aH,unknown,id,dest,ak,from_,av,bD,lost,ar⟩=Nd.send {s.drop 3 with ls:=ia s.ls dest} src (Pk.gI [(dest,eJ (ia s.ls dest) dest)]):=by unfold Nd.ov;rw[eQ h1,eQ zu];simp only[hx];rfl
  have p1:=cx w0 gn s d 3 (by have:=j7.dropped;omega);have p3:=λvd A c q=>fS w0 gn {s.drop 3 with ls:=ia s.ls dest} {d with vd:=vd} src (Pk.gI [(dest,q)]) (Pk.pG _ (by simp)) (.slice A 1 c) rfl (rows 180 2 bB (.slice A 1 c) [(dest,q)]) (hX:=fy _ _ _ _ _) (by show s.out.aJ.length<=900000;have:=j7.aJ;omega);unfold cR at p1;simp only[bN,ad,Nd.drop,cy]at p1;unfold cy;simp only[ad];repeat' (first|refine zeh ?_|refine aE (id:=5) 0 5 (.range 17) ?_|refine ae (id:=5) (.range 17) 10 [3,5,9] ?_|intro hc|refine yZ ?_|refine aF ?_ ?_|refine zw3 λg=> ?_|refine cZ p6 λx6=> ?_|refine cZ p1 λvd=> ?_)
  refine mP (g:=d.tb) (self:=s.self) (ls:=s.ls) iI λv xs hR=> ?_;have ta:=ok.short;have Hs:=hR.length;have p2:=iF w0 d.tb s.self v xs (by omega) dest;unfold eA at p2;simp only[ad];have Oo:=hR.bump dest;have yp:=λvd vf=>((tw.drop 3 vd).lines (ls:=ia s.ls dest) (λx hx=>by rw[wU];exact hx)).send src (Pk.gI [(dest,eJ (ia s.ls dest) dest)]) vf;cases hg:fj xs dest with
  |none=>
   rw[hg]at p2;simp only[sH]at p2;have JQ:wQ xs dest=xs:=by unfold wQ;rw[hg]
   rw[JQ]at Oo;have Ut:eJ (ia s.ls dest) dest=0:=by unfold eJ;rw[Oo.not hg]
   rw[Ut]at yp es;replace p3:=λvd A c=>p3 vd A c 0;unfold cR at p3;simp only[bN,ad,Pk.val,Pk.cells,Nd.send,Nd.drop,Pk.gI,cy]at p3;replace p3:=p3 vd;repeat' (first|(show WS _ _ _ (.region 17 _ _) _ _;refine lJ (g:=d.tb) (self:=s.self) (v:=v) (ys:=xs) (xs:=xs) Oo (λZ=>aq.refl _) iI iI iI ?_)|refine ae (id:=12) (.range 12) 6 [3,5] ?_|intro hc|refine xyZ ?_|refine aF ?_ ?_|refine cZ p2 λx2=> ?_|(refine ai (au bB [(dest,0)] iI iI iI rfl rfl rfl rfl rfl iI rfl rfl rfl) rfl ?_;intro vl;refine pj vl iI λA2 c2 hv2=> ?_;subst hv2)|(refine ai (aa iI rfl (p3 _ _) iI) rfl ?_;intro vf))
   exact aj (.inr rfl) rfl ⟨(),rfl,by rw[es];exact aq.rn (yp vd vf) (by unfold cR;simp only[bN,cy,bc,Nd.send,Nd.drop,Pk.gI];exact ah)⟩
  |some p=>
   rw[hg]at p2;simp only[uz]at p2;obtain⟨hp,hd⟩:=fl hg;have hi:kb dest xs<xs.length:=(az.1 hp).1;have JQ:wQ xs dest=xs.set (kb dest xs) ({p.1 with seq:=bS p.1.seq},p.2):=by unfold wQ;rw[hg]
   have XE:fj (wQ xs dest) dest=some ({p.1 with seq:=bS p.1.seq},p.2):=(mV Oo.fH).2 ⟨by rw[JQ];exact jq (yb hi),hd⟩;have Ut:eJ (ia s.ls dest) dest=bS p.1.seq:=by unfold eJ;rw[Oo.Na XE]
   rw[JQ]at Oo;rw[Ut]at yp es;replace p3:=λvd A c=>p3 vd A c (bS p.1.seq);unfold cR at p3;simp only[bN,ad,Pk.val,Pk.cells,Nd.send,Nd.drop,Pk.gI,cy]at p3;replace p3:=p3 vd;have p4:=kL w0 p.1.seq;have SJ:=λZ=>aq.kG (xs:=xs) (z:=(({p.1 with seq:=bS p.1.seq}:Ln),p.2)) hp (.inl (F9 rfl rfl)) Z;have l5:(xs.set (kb dest xs) (({p.1 with seq:=bS p.1.seq}:Ln),p.2))[kb dest xs]? =some (({p.1 with seq:=bS p.1.seq}:Ln),p.2):=yb hi;have uZ:kb dest xs<(xs.set (kb dest xs) (({p.1 with seq:=bS p.1.seq}:Ln),p.2)).length:=by rw[TY];exact hi
   generalize kb dest xs=i at*
   generalize hq:bS p.1.seq=q at*
   repeat' (first|(show WS _ _ _ (.region 17 _ _) _ _;refine lJ (g:=d.tb) (self:=s.self) (v:=v) (ys:=xs) (xs:=xs.set i (({p.1 with seq:=q}:Ln),p.2)) Oo SJ iI iI iI ?_)|refine ae (id:=12) (.range 12) 6 [3,5] ?_|refine ae (id:=15) (.range 23) 22 [3,6,11,14,16,17,18,20,21] ?_|intro hc|refine xyZ ?_|refine aF ?_ ?_|refine cZ p2 λx2=> ?_|refine cZ p4 λx4=> ?_|(refine' dP ?zh rfl rfl ?_;(case zh=>exact dB (z:=p) (({p.1 with seq:=q}:Ln),p.2) rfl rfl iI iI iI rfl hp rfl);intro g5)|(refine ai (au bB [(dest,q)] iI iI iI rfl rfl rfl rfl rfl iI rfl rfl rfl) rfl ?_;intro vl;refine pj vl iI λA2 c2 hv2=> ?_;subst hv2)|(refine ai (aa iI rfl (p3 _ _) iI) rfl ?_;intro vf))
   exact aj (.inr rfl) rfl ⟨(),rfl,by rw[es];exact aq.rn (yp vd vf) (by unfold cR;simp only[bN,cy,bc,Nd.send,Nd.drop,Pk.gI];exact ah)⟩
 |some x=>
  simp only[hx,eY,bM,uz]at p6
  have es:s.ov src ⟨bK,kind,aH,unknown,id,dest,ak,from_,av,bD,lost,ar⟩={Nd.send s x.next ⟨bK - 1,kind,aH,unknown,id,dest,ak,from_,av,bD,lost,ar⟩with ls:=iY (iY s.ls dest (s.now+3000)) from_ (s.now+3000)}:=by unfold Nd.ov;rw[eQ h1,eQ zu];simp only[hx];rfl
  have p7:=fS w0 gn s d x.next ⟨bK - 1,kind,aH,unknown,id,dest,ak,from_,av,bD,lost,ar⟩ ⟨by simp only[cM]at*;omega,by simpa only[cM]using ma,by simp only[cM]at*;omega,by simp only;omega,by simp only;omega⟩ (.slice A lost.length c) rfl (rows 180 2 bB (.slice A lost.length c) lost) (hX:=fy _ _ _ _ _) (by have:=j7.aJ;omega)
  have Qj:=ok.use dest (s.now+3000)
  have p8:=Df w0 d.tb s.self s.ls ok dest (s.now+3000)
  have p9:=Df w0 d.tb s.self (iY s.ls dest (s.now+3000)) Qj from_ (s.now+3000)
  have yp:=λvf=>(tw.send x.next ⟨bK - 1,kind,aH,unknown,id,dest,ak,from_,av,bD,lost,ar⟩ vf).lines (ls:=iY (iY s.ls dest (s.now+3000)) from_ (s.now+3000)) (λx hx=>by rw[gY,gY];exact hx)
  unfold cR at p7
  simp only[bN,ad,Pk.val,Pk.cells,Nd.send]at p7
  repeat' (first|refine zeh ?_|refine aE (id:=5) 0 5 (.range 17) ?_|refine ae (id:=5) (.range 17) 10 [3,5,9] ?_|refine ae (id:=9) (.range 12) 11 [3,5,9] ?_|refine ae (id:=10) (.range 12) 11 [3,5,9] ?_|intro hc|refine yZ ?_|refine aF ?_ ?_|refine zw3 λg=> ?_|refine zw6 ?_|refine cZ p6 λx6=> ?_|refine cZ p7 λvf=> ?_|refine cZ p8 λx8=> ?_|refine cZ p9 λx9=> ?_)
  exact aj (.inl rfl) rfl ⟨(),rfl,by rw[es];exact aq.rn (yp vf) (by unfold cR;simp only[bN,Nd.send];exact ah)⟩
end
section
open Go.RowKit
attribute [local irreducible] WS LS OpQ y6 cn cv Spec bA aK di cq
variable (w0:World)
theorem HT (W:TW) (gn) (s:Nd) (now:UInt64) (nb) {c} (hr:s.Rest c) (hn:s.now.toNat<=now.toNat):Spec ucC w0 80 [ptr gn 0,u64 now,u32 nb] (j9 W gn s) (λv:Value×Value×Value=>fp (s.l7 now nb).out v) (λv=>j9 W.next gn (s.l7 now nb)*r5 (s.l7 now nb).out v):=by
 have hb:=hr.inv.begin now;have hs:=Nd.Step.brk (s.begin now) nb;have h1:=hs.aI;have h2:=hs.ay;have h3:=Nd.fL s now hr.inv.dp.dp;have h4:=Nd.fK s now hr.inv.dp.dp;have h5:=hr.aI;have SK:=hb.brk nb;have pY:(s.begin now).Fit 1:=(Nd.lz hr now).le (by omega);have p1:=mv w0 W gn s hr.inv.dp.dp (by omega) now hn;refine eZ Tryz.func80 Tryz.ntmps80 λG=> ?_;simp only[aN];unfold Nd.l7;generalize s.begin now=s1 at*
 have p5:=nS w0 W.next gn (s1.brk nb) SK.dp.dp (by omega) (by omega);generalize ((s1.brk nb).done)=s9 at*
 simp only[fp,r5]at p5 ⊢;have Ri:=uG nb (aQ (aO s1.ls)) s1.ls;have h8:(aQ (aO s1.ls)).length<=8:=by rw[cF];simpa [aO]using hb.dp.dp.short
 have p2:=λtb=>KP w0 tb s1.self s1.ls hb.dp.dp nb;by_cases h0:0<(jh nb (aQ (aO s1.ls)) s1.ls).length
 ·have es:s1.brk nb=Nd.send {s1 with ls:=nH nb s1.ls} 0 (Pk.gI (jh nb (aQ (aO s1.ls)) s1.ls)):=by unfold Nd.brk Nd.lost;rw[jF h0]
  have TF:(0:Int)<((jh nb (aQ (aO s1.ls)) s1.ls).length:Int):=by omega
  rw[es]at p5;generalize jh nb (aQ (aO s1.ls)) s1.ls=l at*
  have p3:=λd A c=>fS w0 gn {s1 with ls:=nH nb s1.ls} d 0 (Pk.gI l) (Pk.pG _ (by omega)) (.slice A l.length c) rfl (rows 180 2 bB (.slice A l.length c) l) (hX:=fy _ _ _ _ _) (by show s1.out.aJ.length<=900000;have:=pY.aJ;omega);have p6:=λd (tw:Twin W.next s1 d) vf=>Spec.nV (((tw.lines (ls:=nH nb s1.ls) (λx hx=>by rw[tA];exact hx)).send 0 (Pk.gI l) vf)) p5;unfold cR at p3 p6;simp only[bN,ad,Pk.val,Pk.cells,Nd.send,Pk.gI]at p3 p6;repeat' (first|intro hc|refine yZ ?_|refine aF ?_ ?_|refine cZ p1 λx1=> ?_|(refine kA (W:=W.next) (g:=gn) (s:=s1) iI λd tw=> ?_;replace p2:=p2 d.tb;replace p3:=p3 d;replace p6:=p6 d tw;unfold cR;simp only[bN,ad])|(refine ai (aa iI rfl p2 iI) rfl ?_;intro vo;refine fU vo iI λA cap hv=> ?_;subst hv)|(refine ai (aa iI rfl (p3 _ _) iI) rfl ?_;intro vf;replace p6:=p6 vf)|refine cZ p6 λx9=> ?_)
  exact gD (.inl rfl) rfl (aS rfl iI iI rfl) ⟨x9,rfl,ah⟩
 ·have es:s1.brk nb={s1 with ls:=nH nb s1.ls}:=by unfold Nd.brk Nd.lost;rw[eQ h0]
  have TF:¬(0:Int)<((jh nb (aQ (aO s1.ls)) s1.ls).length:Int):=by omega
  rw[es]at p5;generalize jh nb (aQ (aO s1.ls)) s1.ls=l at*
  have p6:=λd (tw:Twin W.next s1 d)=>Spec.nV (tw.lines (ls:=nH nb s1.ls) (λx hx=>by rw[tA];exact hx)) p5;unfold cR at p6;simp only[bN,ad]at p6;repeat' (first|intro hc|refine yZ ?_|refine aF ?_ ?_|refine cZ p1 λx1=> ?_|(refine kA (W:=W.next) (g:=gn) (s:=s1) iI λd tw=> ?_;replace p2:=p2 d.tb;replace p6:=p6 d tw;unfold cR;simp only[bN,ad])|(refine ai (aa iI rfl p2 iI) rfl ?_;intro vo;refine fU vo iI λA cap hv=> ?_;subst hv)|refine cZ p6 λx9=> ?_)
  exact gD (.inl rfl) rfl (aS rfl iI iI rfl) ⟨x9,rfl,ah⟩
theorem Ib (W:TW) (gn:Nat) (s:Nd) (src:UInt32) (p:Pk) (hp:p.Read) (v:Value) (ok:aW s.ls) (hf:s.Fit 2):Spec ucC w0 134 [ptr gn 0,u32 src,p.val v] (qe W gn s*rows 180 2 bB v p.lost) (λ_:Unit=> .tuple #[]) (λ_=>qe W gn (s.xC src p)):=by
 have j7:s.Fit 1:=hf.le (by omega);refine eZ Tryz.func134 Tryz.ntmps134 λG=> ?_;refine jl v iI λA c hv=> ?_;subst hv;obtain⟨Mm,ma,OT,OU,OV⟩:=hp;obtain⟨bK,kind,aH,unknown,id,dest,ak,from_,av,bD,lost,ar⟩:=p;simp only[Pk.val,Pk.cells,aN]at*
 refine rz (W:=W) (g:=gn) (s:=s) iI λd tw=> ?_;unfold cR;simp only[bN,ad];repeat' (first|intro K hK|refine ax ?_|(refine ai (rj rfl) rfl ?_;intro gp))
 refine cV (aq.nil _ 180 2 bB none) ?_;obtain⟨PC,TP⟩:∃PC:List Value,PC=[.int .i64 bK,.int .i64 kind,.int .i64 aH,.bool unknown,u32 id,u32 dest,u32 ak,u32 from_,u32 av,u32 bD,.slice A lost.length c,aZ ar]:=⟨_,rfl⟩
 have hk:∀a:List Ln×List (UInt32×UInt32)×Bool,a=a:=λ_=>rfl;have Uy:∀j,aW (bV src s.ls (lost.take j)).1/\(∀x∈aO s.ls,x∈aO (bV src s.ls (lost.take j)).1):=by
  intro j;induction (lost.take j)using eE with
  |nil=>exact⟨ok,λx h=>h⟩
  |snoc l x ih=>
   rw[jX];refine⟨ih.1.gI _ _ _,λy hy=> ?_⟩;show y∈aO (iS _ _ _ _);rw[wV];exact ih.2 y hy
 refine aV (λk τ=>∃(j:Nat) (vt:Value),j+k=lost.length/\τ=⟨[(8,.int .i64 (j:Int)),(7,.bool (bV src s.ls (lost.take j)).2.2),(6,vt),(5,ptr gp 0),(1,u32 src),(0,ptr gn 0)],[],aK gn 195 (bN s d s.out)*(rows 28 3 Rec.cells d.vr s.aI*(rows 28 3 Rec.cells d.vh d.held*(ct d.tb s.self (bV src s.ls (lost.take j)).1*(cy d s.out*(bc d*(aK gp 44 PC*(rows 180 2 bB vt (bV src s.ls (lost.take j)).2.1*(rows 180 2 bB (.slice A lost.length c) lost*G))))))))⟩) ?_ ?_
 ·exact⟨lost.length,_,⟨0,.slice none 0 0,by omega,rfl⟩,cG,rfl,by rw[TP];simp only[uai,bV,uah,bN];exact ah⟩
 rintro k τ ⟨j,vt,ym,rfl⟩;subst TP;simp only[bN];obtain⟨LA,T3⟩:=Uy j;rcases jP j lost.length with bW|kQ
 ·obtain⟨⟨ld,lq⟩,hz⟩:∃z,lost[j]? =some z:=⟨_,aX bW⟩
  have gK:bV src s.ls (lost.take (j+1))=lR src (bV src s.ls (lost.take j)) (ld,lq):=by rw[AP,hz,Qf,jX]
  have Iy:=jW src s.ls (lost.take j);rw[Aw]at Iy;generalize bV src s.ls (lost.take j)=a at*
  obtain⟨gj,tl,sm⟩:=a;simp only[lR]at gK Iy LA;have IC:(j:Int)<(lost.length:Int):=by omega
  refine mP (g:=d.tb) (self:=s.self) (ls:=gj) iI λv xs hR=> ?_;have ta:=LA.short;have Hs:=hR.length;have p1:=iF w0 d.tb s.self v xs (by omega) ld;have p2:=E8 w0 d.tb s.self v xs (by omega) src ld lq;have Ix:=hR.gI src ld lq;have Nh:=hR.fR src ld;unfold xD at p2 Nh;unfold CC at p2 Ix;unfold eA at*
  simp only[ad];cases hg:fj xs ld with
  |none=>
   simp only[hg,sH]at p1 p2 Ix Nh;rw[<-Nh]at gK;simp only[uan,AT,VC,ubQ]at gK;repeat' (first|refine zhD ?_|refine zg7 ?_|refine zg8 ?_|intro hc|refine xyZ ?_|refine aF ?_ ?_|(refine cZ p1 λx1=> ?_;clear p1)|(refine cZ p2 λx2=> ?_;clear p2))
   all_goals exact⟨k - 1,_,by omega,⟨j+1,vt,by omega,rfl⟩,⟨rfl,by rw[gK];first|rfl|(cases sm<;>first|rfl|contradiction|(exfalso;simp_all)),rfl,rfl,rfl,rfl,trivial⟩,rfl,by rw[gK];simp only[bN];exact ah⟩
  |some p=>
   obtain⟨hp,hd⟩:=fl hg;have XR:=hR.Na hg;have IB:kb ld xs<xs.length:=(az.1 hp).1;have Lw:=cF p.1.before;rw[<-Nh,XR]at gK;simp only[hg,uz,CV]at p1 p2 Ix Nh gK;by_cases hv:p.1.valid=true/\p.1.next=src
   ·have UM:(p.1.valid&&decide (p.1.next=src))=true:=by rw[hv.1,Dp hv.2];rfl
    rw[jF hv]at p2 Ix;rw[UM]at p2 gK;simp only[ucb,ucz]at gK;have l5:(xs.set (kb ld xs) (lp lq p))[kb ld xs]? =some (lp lq p):=yb IB;have uZ:kb ld xs<(xs.set (kb ld xs) (lp lq p)).length:=by rw[TY];exact IB
    have SJ:=λZ=>aq.kG (xs:=xs) (z:=lp lq p) hp (.inr (tE _ _)) Z;have sY:eJ (iS gj src ld lq) ld=(p.1.ended lq).seq:=by unfold eJ;rw[Ix.Na ((mV Ix.fH).2 ⟨jq l5,hd⟩)];rfl
    rw[sY]at gK;generalize kb ld xs=i at*
    by_cases hb:0<p.1.before.length
    ·have Iz:(0:Int)<((aQ p.1.before).length:Int):=by omega
     rw[jF (by simpa using hb)]at gK;have Ce:(lp lq p).1.seq=(p.1.ended lq).seq:=rfl;repeat' (first|refine zh3 ?_|refine zg7 ?_|refine zg8 ?_|refine ae (id:=11) (.range 22) 20 [2,4,5,6,10,13,15,16,17] ?_|intro hc|refine xyZ ?_|refine aF ?_ ?_|(refine cZ p1 λx1=> ?_;clear p1)|(refine cZ p2 λx2=> ?_;clear p2)|(refine aD (au bB [(ld,(p.1.ended lq).seq)] iI iI iI rfl rfl rfl rfl rfl iI rfl rfl rfl) rfl rfl rfl ?_;intro vx)|(refine aD (aR rfl rfl iI iI rfl iI iI lA (by simp only[FO];omega) rfl) rfl rfl rfl ?_;intro va))
     all_goals exact⟨k - 1,_,by omega,⟨j+1,va,by omega,rfl⟩,⟨rfl,by rw[gK];simp only;first|rfl|(cases sm<;>first|rfl|contradiction|(exfalso;simp_all)),rfl,rfl,rfl,rfl,trivial⟩,rfl,by rw[gK];simp only[bN];exact ah⟩
    ·have Iz:¬(0:Int)<((aQ p.1.before).length:Int):=by omega
     rw[eQ (by simpa using hb)]at gK;repeat' (first|refine zh3 ?_|refine zg7 ?_|refine zg8 ?_|intro hc|refine xyZ ?_|refine aF ?_ ?_|(refine cZ p1 λx1=> ?_;clear p1)|(refine cZ p2 λx2=> ?_;clear p2))
     all_goals exact⟨k - 1,_,by omega,⟨j+1,vt,by omega,rfl⟩,⟨rfl,by rw[gK];simp only;first|rfl|(cases sm<;>first|rfl|contradiction|(exfalso;simp_all)),rfl,rfl,rfl,rfl,trivial⟩,rfl,by rw[gK];simp only[bN];exact ah⟩
   ·have UM:(p.1.valid&&decide (p.1.next=src))=false:=by
     cases h:p.1.valid with
     |false=>rfl
     |true=>rw[EH (λe=>hv ⟨h,e⟩)];rfl
    rw[eQ hv]at p2 Ix;rw[UM]at p2 gK;simp only[uan,AT,VC,ubQ]at gK;generalize kb ld xs=i at*
    by_cases hb:0<p.1.before.length
    ·have Iz:(0:Int)<((aQ p.1.before).length:Int):=by omega
     repeat' (first|refine zhD ?_|refine zg7 ?_|refine zg8 ?_|intro hc|refine xyZ ?_|refine aF ?_ ?_|(refine cZ p1 λx1=> ?_;clear p1)|(refine cZ p2 λx2=> ?_;clear p2))
     all_goals exact⟨k - 1,_,by omega,⟨j+1,vt,by omega,rfl⟩,⟨rfl,by rw[gK];first|rfl|(cases sm<;>first|rfl|contradiction|(exfalso;simp_all)),rfl,rfl,rfl,rfl,trivial⟩,rfl,by rw[gK];simp only[bN];exact ah⟩
    ·have Iz:¬(0:Int)<((aQ p.1.before).length:Int):=by omega
     repeat' (first|refine zhD ?_|refine zg7 ?_|refine zg8 ?_|intro hc|refine xyZ ?_|refine aF ?_ ?_|(refine cZ p1 λx1=> ?_;clear p1)|(refine cZ p2 λx2=> ?_;clear p2))
     all_goals exact⟨k - 1,_,by omega,⟨j+1,vt,by omega,rfl⟩,⟨rfl,by rw[gK];first|rfl|(cases sm<;>first|rfl|contradiction|(exfalso;simp_all)),rfl,rfl,rfl,rfl,trivial⟩,rfl,by rw[gK];simp only[bN];exact ah⟩
 ·obtain rfl:j=lost.length:=by omega
  rw[Gz (uL _)]at LA T3 ⊢;have Iy:=jW src s.ls lost;have es:s.xC src ⟨bK,kind,aH,unknown,id,dest,ak,from_,av,bD,lost,ar⟩=if(bV src s.ls lost).2.2=true then Nd.lost {s with ls:=(bV src s.ls lost).1} (bV src s.ls lost).2.1 else Nd.drop (Nd.lost {s with ls:=(bV src s.ls lost).1} (bV src s.ls lost).2.1) 7:=rfl
  generalize bV src s.ls lost=a at*
  obtain⟨gj,tl,sm⟩:=a;simp only at Iy es LA T3 ⊢;have IC:¬(lost.length:Int)<(lost.length:Int):=by omega
  have uO:Twin W {s with ls:=gj} d:=tw.lines T3;by_cases h0:0<tl.length
  ·have TF:(0:Int)<(tl.length:Int):=by omega
   have el:Nd.lost {s with ls:=gj} tl=Nd.send {s with ls:=gj} 0 (Pk.gI tl):=by unfold Nd.lost;rw[jF h0]
   rw[el]at es;have p3:=λA c=>fS w0 gn {s with ls:=gj} d 0 (Pk.gI tl) (Pk.pG _ (by omega)) (.slice A tl.length c) rfl (rows 180 2 bB (.slice A tl.length c) tl) (hX:=fy _ _ _ _ _) (by show s.out.aJ.length<=900000;have:=hf.aJ;omega);have p4:=λvf=>cx w0 gn (Nd.send {s with ls:=gj} 0 (Pk.gI tl)) {d with vf:=vf} 7 (by show s.out.dropped.length<=_;have:=hf.dropped;omega);have lD:=λvf=>uO.send 0 (Pk.gI tl) vf;have yp:=λvf vd=>(lD vf).drop 7 vd;unfold cR at p3 p4;simp only[bN,ad,Pk.val,Pk.cells,Nd.send,Pk.gI]at p3 p4;refine jb vt iI λA2 c2 hv2=> ?_;subst hv2;cases sm
   ·repeat' (first|intro hc|refine xyZ ?_|refine aF ?_ ?_|(refine ai (aa iI rfl (p3 _ _) iI) rfl ?_;intro vf;replace p4:=p4 vf)|refine cZ p4 λvd=> ?_)
    exact aj (.inr rfl) rfl ⟨(),rfl,by rw[es];simp only[AT,VC];exact aq.rn (yp vf vd) (by unfold cR;simp only[bN,Nd.send,Nd.drop,Pk.gI];exact ah)⟩
   ·repeat' (first|intro hc|refine xyZ ?_|refine aF ?_ ?_|(refine ai (aa iI rfl (p3 _ _) iI) rfl ?_;intro vf))
    exact aj (.inr rfl) rfl ⟨(),rfl,by rw[es];simp only[YZ];exact aq.rn (lD vf) (by unfold cR;simp only[bN,Nd.send,Pk.gI];exact ah)⟩
  ·have TF:¬(0:Int)<(tl.length:Int):=by omega
   have el:Nd.lost {s with ls:=gj} tl={s with ls:=gj}:=by unfold Nd.lost;rw[eQ h0]
   rw[el]at es;have p4:=cx w0 gn {s with ls:=gj} d 7 (by show s.out.dropped.length<=_;have:=hf.dropped;omega);unfold cR at p4;simp only[bN,ad]at p4;cases sm
   ·repeat' (first|intro hc|refine xyZ ?_|refine aF ?_ ?_|refine cZ p4 λvd=> ?_)
    exact aj (.inr rfl) rfl ⟨(),rfl,by rw[es];simp only[AT,VC];exact aq.rn (uO.drop 7 vd) (by unfold cR;simp only[bN,Nd.drop];exact ah)⟩
   ·repeat' (first|intro hc|refine xyZ ?_|refine aF ?_ ?_)
    exact aj (.inr rfl) rfl ⟨(),rfl,by rw[es];simp only[YZ];exact aq.rn uO (by unfold cR;simp only[bN];exact ah)⟩
end
end Go.Proofs.YtapoehkdnglahabGreat
