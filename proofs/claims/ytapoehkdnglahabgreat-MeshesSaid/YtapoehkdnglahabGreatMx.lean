/- A part. -/
import Derived.Test.YtapoehkdnglahabGreatMv
import Derived.Test.YtapoehkdnglahabGreatMw
set_option maxHeartbeats 8000000
set_option maxRecDepth 100000
set_option linter.all false
namespace Go.Proofs.YtapoehkdnglahabGreat
section
open Go.RowKit
attribute [local irreducible] WS LS OpQ y6 cn cv Spec bA aK di cq
variable (w0:World)
theorem cx (gn) (s:Nd) (d k) (hd:s.out.dropped.length<=900000):Spec ucC w0 129 [ptr gn 0,.int .i64 k] (cR gn s d) (λ_:Value=> .tuple #[]) (λvd=>cR gn (s.drop k) {d with vd:=vd}):=by
 refine eZ Tryz.func129 Tryz.ntmps129 λG=> ?_;unfold cR bc cy;simp only[aN,bN,Nd.drop,ad];exact paG
theorem fS (gn) (s:Nd) (d to) (p:Pk) (hp:p.Ok) (v:Value) (hv:v.oneCell'=true) (X) [hX:eX w0 X v (UInt32×UInt32) 2 bB p.lost] (hd:s.out.aJ.length<=900000):Spec ucC w0 131 [ptr gn 0,u32 to,p.val v] (cR gn s d*X) (λ_:Value=> .tuple #[]) (λvf=>cR gn (s.send to p) {d with vf:=vf}*X):=by
 have dY:=gJ w0 p hp v hv X;have Ri:=p.Gf;refine eZ Tryz.func131 Tryz.ntmps131 λG=> ?_;unfold cR bc cy;simp only[aN,bN,Nd.send,Pk.val,Pk.cells,Pk.ret,ad]at dY ⊢;repeat' (first|intro K hK|refine ax ?_|refine bT λg=> ?_|refine bQ λg=> ?_|refine cZ dY λvb=> ?_|(refine ai (au dA [(to,p.out)] iI iI iI rfl rfl rfl rfl rfl iI rfl rfl rfl) rfl ?_;intro vx)|(refine ai (aR rfl rfl iI iI rfl iI iI gU (by first|omega|(simp[al]<;>omega)) rfl) rfl ?_;intro va))
 --tg
 exact aj (.inr rfl) rfl ⟨va,rfl,ah⟩
theorem uJ (a b):Spec ucC w0 187 [.int .i64 a,.int .i64 b] emp (λ_:Unit=> .int .i64 (min a b)) (λ_=>emp):=by
 refine eZ Tryz.func187 Tryz.ntmps187 λG=> ?_;simp only[aN];by_cases h:a<b
 ·rw[Int.min_eq_left (by omega)];exact pac
 ·rw[Int.min_eq_right (by omega)];exact pac
end
section
theorem xB:∀(l:List Rec) (r k:Rec),gh (l++[r]) k=match gh l k with
  |some q=>some q
  |none=>if r.key=k then some r.seq else none
 |[],r,k=>by simp[gh]
 |x::l,r,k=>by
  have ih:=xB l r k;rw[YW];simp only[gh];split
  ·rfl
  ·exact ih
theorem og.init {l} {r:Rec} (h:og (l++[r])):og l/\r.norm=r/\∀y∈l,y.key≠r.key:=by
 have hp:=Z0.1 h.fH;refine⟨⟨hp.1,λy hy=>h.norm y (by simp[hy])⟩,h.norm r (by simp),λy hy=> ?_⟩;exact tP (h.norm y (by simp[hy])) (h.norm r (by simp)) (hp.2.2 y hy r (by simp))
theorem og.zbA {l} (h:og l) (k):Go.Proofs.YtapoehkdnglahabGreat.zbA l k=gh l k:=by
 induction l using eE with
 |nil=>rfl
 |snoc l r ih=>
  obtain⟨h1,h2,h3⟩:=h.init;rw[lY,xB,ih h1,h2];by_cases e:r.key=k
  ·have hn:gh l k=none:=xA λy hy e2=>h3 y hy (e2.trans e.symm);rw[jF e,hn];simp only;rw[jF e];rfl
  ·rw[eQ e];cases gh l k with
   |none=>simp only;rw[eQ e]
   |some q=>rfl
theorem og.comp {l} (h:og l):cC l=l:=og.ext (jD l) h λx=>by
 rw[lB (jD l),lB h,lQ,h.zbA]
def gB (a q:UInt32):Rec:=⟨false,a,q⟩
theorem xu {l a q}:gH l a q=true↔∃h∈l,h.addr=a/\q<=h.seq:=by
 unfold gH;rw[ZV];constructor
 ·rintro⟨h,h1,h2⟩;rw[Ps]at h2;exact⟨h,h1,uaM h2.1,uaM h2.2⟩
 ·rintro⟨h,h1,h2,h3⟩;exact⟨h,h1,by rw[Ps];exact⟨Dp h2,Dp h3⟩⟩
theorem oS {l} (hi:og l) (ho:∀h∈l,h.own=false) {a q}:gH l a q=true↔∃q',gh l (gB a 0)=some q'/\q<=q':=by
 rw[xu];constructor
 ·rintro⟨h,h1,rfl,h3⟩;obtain⟨h4,h5⟩:=(lB hi).1 h1;have hk:h.key=gB h.addr 0:=by
   unfold Rec.key;rw[h4];have:=ho h h1;obtain⟨o,a,s⟩:=h;simp only at this;subst this;rfl
  rw[hk]at h5;exact⟨h.seq,h5,h3⟩
 ·rintro⟨q',h1,h2⟩;refine⟨gB a q',(lB hi).2 ⟨rfl,h1⟩,rfl,h2⟩
theorem Cw {x m q:UInt32}:x<=max m q↔x<=m\/x<=q:=by
 show x<=(if m<=q then q else m)↔_;split
 ·rename_i h;exact⟨.inr,λk=>k.elim (λk=>UInt32.le_trans k h) id⟩
 ·rename_i h;have h2:q<=m:=ubu (UInt32.not_le.1 h);exact⟨.inl,λk=>k.elim id λk=>UInt32.le_trans k h2⟩
theorem JT {l} (hi:og l) (ho:∀h∈l,h.own=false) (a q):og (cC (l++[gB a q]))/\(∀h∈cC (l++[gB a q]),h.own=false/\((∃h'∈l,h'.addr=h.addr)\/h.addr=a))/\∀b x,gH (cC (l++[gB a q])) b x=true↔if b=a then gH l a x=true\/x<=q else gH l b x=true:=by
 have h1:=jD (l++[gB a q]);have h2:∀h∈cC (l++[gB a q]),h.own=false/\((∃h'∈l,h'.addr=h.addr)\/h.addr=a):=λh hh=>by
  obtain⟨k1,r,k2,k3,k4⟩:=tu hh;rcases Lz.1 k2 with k2|k2
  ·have:=ho r k2;rw[this]at k3;exact⟨k3.symm,.inl ⟨r,k2,k4 k3.symm⟩⟩
  ·simp at k2;subst k2;exact⟨k3.symm,.inr (k4 k3.symm).symm⟩
 refine⟨h1,h2,λb x=> ?_⟩;rw[oS h1 λh hh=>(h2 h hh).1,lQ,lY,hi.zbA];have hk:(gB a q).norm.key=gB a 0:=rfl;rw[hk];by_cases e:b=a
 ·subst e;rw[jF rfl,jF rfl,oS hi ho];have hs:(gB b q).seq=q:=rfl;rw[hs];cases hl:gh l (gB b 0)with
  |none=>
   constructor
   ·rintro⟨q',k1,k2⟩;cases k1;exact .inr k2
   ·rintro(⟨q',k1,k2⟩|k)
    ·cases k1
    ·exact⟨q,rfl,k⟩
  |some m=>
   constructor
   ·rintro⟨q',k1,k2⟩;cases k1;rcases Cw.1 k2 with k|k
    ·exact .inl ⟨m,rfl,k⟩
    ·exact .inr k
   ·intro k;refine⟨_,rfl,Cw.2 ?_⟩;rcases k with ⟨q',k1,k2⟩|k
    ·cases k1;exact .inl k2
    ·exact .inr k
 ·rw[eQ (λe2=>e (G2 Rec.addr e2).symm),eQ e,oS hi ho]
theorem Twin.line {W} {s:Nd} {d:RD} (h:Twin W s d) {l:Ln} (hl:l∈s.ls) (vr vh):Twin W (s.write ⟨false,l.dest,l.seq⟩) {d with vr:=vr,vh:=vh,held:=cC (d.held++[gB l.dest l.seq])}\/gH d.held l.dest l.seq=true:=by
 by_cases ho:gH d.held l.dest l.seq=true
 ·exact .inr ho
 left;obtain⟨k1,k2,k3⟩:=JT h.mY (λx hx=>(h.kg x hx).1) l.dest l.seq;refine⟨λa q=> ?_,k1,λx hx=> ?_,h.seen,h.o9,h.oz,h.o7,h.wait,h.mL,h.hP,h.search,h.jT,h.Br,h.fN,h.aP,h.oA,h.ns,h.nX,h.DB,h.Bp,h.FP,h.oy⟩
 ·have hm:(s.write ⟨false,l.dest,l.seq⟩).held=bY s.held l.dest l.seq:=rfl;rw[hm,fo];show gH (cC (d.held++[gB l.dest l.seq])) a q=true↔_;rw[k3];by_cases e:a=l.dest
  ·subst e;rw[jF rfl,jF rfl];constructor
   ·rintro(k|k)
    ·refine⟨l.seq,rfl,λbW=>ho ?_⟩;obtain⟨q',a1,a2⟩:=(h.held _ _).1 k;refine(h.held _ _).2 ⟨q',a1,λh2=>a2 (UInt32.lt_trans h2 bW)⟩
    ·exact⟨l.seq,rfl,ubR.2 k⟩
   ·rintro⟨q',a1,a2⟩;cases a1;exact .inr (ubR.1 a2)
  ·rw[eQ e,eQ (uaT e)];exact h.held a q
 ·obtain⟨a1,a2⟩:=k2 x hx;refine⟨a1,?_⟩;rcases a2 with ⟨y,b1,b2⟩|b
  ·obtain⟨_,l',c1,c2⟩:=h.kg y b1;exact⟨l',c1,c2.trans b2⟩
  ·exact⟨l,hl,b.symm⟩
theorem Twin.cf {W} {s:Nd} {d:RD} (h:Twin W s d) (l:Ln):s.cf l=if gH d.held l.dest l.seq=true then s else s.write ⟨false,l.dest,l.seq⟩:=by
 unfold Nd.cf;have hh:=h.held l.dest l.seq;cases hm:bX s.held l.dest with
 |none=>
  rw[eQ (λk=>by
   obtain⟨q',k1,_⟩:=hh.1 k
   rw[hm]at k1;cases k1)]
 |some q=>
  simp only;by_cases hq:q<l.seq
  ·rw[jF hq,eQ (λk=>by
    obtain⟨q',k1,k2⟩:=hh.1 k
    rw[hm]at k1;cases k1;exact k2 hq)]
  ·rw[eQ hq,jF (hh.2 ⟨q,hm,hq⟩)]
theorem Twin.own {W} {s:Nd} {d} (h:Twin W s d) (r:Rec) (hr:r.own=true) (vr):Twin W (s.write r) {d with vr:=vr}:=by
 have hm:(s.write r).held=s.held:=by unfold Nd.write;rw[hr];rfl
 exact⟨λa q=>by rw[hm];exact h.held a q,h.mY,h.kg,h.seen,h.o9,h.oz,h.o7,h.wait,h.mL,h.hP,h.search,h.jT,h.Br,h.fN,h.aP,h.oA,h.ns,h.nX,h.DB,h.Bp,h.FP,h.oy⟩
open Go.RowKit
theorem Twin.send {W} {s:Nd} {d} (h:Twin W s d) (to p v):Twin W (s.send to p) {d with vf:=v}:=h.to (Nd.Alike.MC s _) rfl rfl rfl rfl rfl
theorem Twin.drop {W} {s:Nd} {d} (h:Twin W s d) (k v):Twin W (s.drop k) {d with vd:=v}:=h.to (Nd.Alike.MC s _) rfl rfl rfl rfl rfl
attribute [local irreducible] WS LS OpQ y6 cn cv Spec bA aK di cq
variable (w0:World)
theorem o5 (gn:Nat) (s:Nd) (d:RD) (to:UInt32) (p:Pk) (hp:p.Ok) (hl:p.lost=[]) (hf:s.Fit 1):Spec ucC w0 131 [ptr gn 0,u32 to,p.val (.slice none 0 0)] (cR gn s d) (λ_:Value=> .tuple #[]) (λvf=>cR gn (s.send to p) {d with vf:=vf}):=by
 have:=fS w0 gn s d to p hp (.slice none 0 0) rfl emp (hX:=by rw[hl];exact mw _ _ _) (by have:=hf.aJ;omega);simpa only[b5]using this
theorem sA (W:TW) (gn:Nat) (s:Nd) (d:RD) (tw:Twin W s d) (q p:Pk) (vq:Value) (hq:q.Ok) (hp:p.Ok) (hl:p.lost=[]) (Zi:vq.oneCell'=true) (ok:aW s.ls) (hf:s.Fit 1) (hk:p.bK=8/\p.kind=2) (OA:p.from_=q.from_):Spec ucC w0 190 [ptr gn 0,q.val vq,p.val (.slice none 0 0)] (cR gn s d) (λ_:Unit=> .tuple #[]) (λ_=>qe W gn (s.answer p)):=by
 refine eZ Tryz.func190 Tryz.ntmps190 λG=> ?_;simp only[aN];have p1:=nU w0 d.tb s.self s.ls ok q.from_ s.now;have p2:=cx w0 gn s d 3 (by have:=hf.dropped;omega);have p3:=λto=>o5 w0 gn s d to p hp hl hf;unfold cR at*
 unfold Nd.answer;rw[OA];have SX:({p with bK:=8,kind:=2}:Pk)=p:=by obtain⟨a1,a2,a3,a4,a5,a6,a7,a8,a9,Sx,Sy,a12⟩:=p;obtain⟨rfl,rfl⟩:=hk;rfl
 simp only[bN,ad,Pk.val,Pk.cells]at p1 p2 p3 ⊢;cases mF:bR s.ls q.from_ s.now with
 |none=>
  simp only[mF,eY,sH]at p1;repeat' (first|refine zhf ?_|refine zgX ?_|refine ab λK hK=> ?_|refine ax ?_|(refine aF ?_ ?_<;>intro hc<;>try exact aG)|refine zw3 λg=> ?_|refine bT λg=> ?_|refine bQ λg=> ?_|refine cZ p1 λb1=> ?_|refine cZ p2 λvd=> ?_)
  exact aj (.inl rfl) rfl ⟨(),rfl,aq.rn (tw.drop 3 vd) (by unfold cR;simp only[bN];exact ah)⟩
 |some x=>
  simp only[mF,eY,uz,bM]at p1;have p4:=p3 x.next;repeat' (first|refine zhf ?_|refine zgX ?_|refine ab λK hK=> ?_|refine ax ?_|(refine aF ?_ ?_<;>intro hc<;>try exact aG)|refine zw3 λg=> ?_|refine bT λg=> ?_|refine bQ λg=> ?_|refine cZ p1 λb1=> ?_|refine cZ p4 λvf=> ?_)
  --tg
  refine aj (.inr rfl) rfl ⟨(),rfl,?_⟩;have UA:({bK:=8,kind:=2,aH:=p.aH,unknown:=p.unknown,id:=p.id,dest:=p.dest,ak:=p.ak,from_:=q.from_,av:=p.av,bD:=p.bD,lost:=p.lost,ar:=p.ar}:Pk)=p:=by rw[<-OA];exact SX
  show aq _ (qe W gn (s.send x.next ({bK:=8,kind:=2,aH:=p.aH,unknown:=p.unknown,id:=p.id,dest:=p.dest,ak:=p.ak,from_:=q.from_,av:=p.av,bD:=p.bD,lost:=p.lost,ar:=p.ar}:Pk))*G);rw[UA];exact aq.rn (tw.send x.next p vf) (by unfold cR;simp only[bN];exact ah)
end
section
open Go.RowKit
theorem Nd.oZ (s:Nd) (r):∃sn od,s.aT r={s with seen:=sn,order:=od}:=by
 unfold Nd.aT;simp only;split
 ·exact⟨_,_,rfl⟩
 ·exact⟨_,_,rfl⟩
attribute [local irreducible] WS LS OpQ y6 cn cv Spec bA aK di cq
variable (w0:World)
theorem uf (gn) (s:Nd) (d:RD) (o) (ok:aW s.ls) (dest):Spec ucC w0 130 [ptr gn 0,u32 dest] (aK gn 195 (bN s d o)*ct d.tb s.self s.ls) (λ_:Unit=> .tuple #[u32 (eJ s.ls dest),.bool (dG s.ls dest).isSome]) (λ_=>aK gn 195 (bN s d o)*ct d.tb s.self s.ls):=by
 refine eZ Tryz.func130 Tryz.ntmps130 λG=> ?_;simp only[aN,bN,ad];refine mP (g:=d.tb) (self:=s.self) (ls:=s.ls) iI λv xs hR=> ?_;have ta:=ok.short;have Hs:=hR.length;have p1:=iF w0 d.tb s.self v xs (by omega) dest;unfold eA at*
 simp only[ad];unfold eJ;cases hg:fj xs dest with
 |none=>
  have hl:=hR.not hg;rw[hl];rw[hg]at p1;simp only[sH]at p1 ⊢;repeat' (first|intro hc|refine xyZ ?_|refine aF ?_ ?_|refine cZ p1 λu1=> ?_)
  refine de (.inl rfl) rfl rfl rfl ⟨(),rfl,?_⟩;refine aq.trans (aq.of_eq ?_) (aq.tail _ (aq.ct (v:=v) hR (aq.refl _)));unfold eA;ac_rfl
 |some p=>
  have hl:=hR.Na hg;rw[hl];rw[hg]at p1;obtain⟨hp,hd⟩:=fl hg;generalize kb dest xs=i at*
  have IB:i<xs.length:=(az.1 hp).1;simp only[uz]at p1 ⊢;repeat' (first|intro hc|refine xyZ ?_|refine aF ?_ ?_|refine cZ p1 λu1=> ?_)
  refine de (.inl rfl) rfl rfl rfl ⟨(),rfl,?_⟩;refine aq.trans (aq.of_eq ?_) (aq.tail _ (aq.ct (v:=v) hR (aq.refl _)));unfold eA;ac_rfl
end
end Go.Proofs.YtapoehkdnglahabGreat
